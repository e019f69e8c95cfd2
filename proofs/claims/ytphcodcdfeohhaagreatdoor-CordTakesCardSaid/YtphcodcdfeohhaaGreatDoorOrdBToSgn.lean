import Derived.Test.YtphcodcdfeohhaaGreatDoorSignDToOrdA
set_option linter.all false
namespace Go.Proofs.YtphcodcdfeohhaaGreatDoor
set_option maxRecDepth 100000
set_option maxHeartbeats 4000000
open Go.RowKit
def ja6(kv:List (Int×Int)):Int:=(kv.map λp=>if p.1=1 then p.2 else 0).sum
def jc8(kv:List (Int×Int)):Nat:=(kv.map λp=>if p.1=1 then 0 else p.2.natAbs).sum
theorem jz3:∀(kv:List (Int×Int)) (r c:Int),ja6 (addS kv r c)=ja6 kv+if r=1 then c else 0
 | [],r,c=>by simp[ja6,addS]
 | (a,x)::t,r,c=>by
  by_cases h:r=a
  ·subst h
   have e:addS ((r,x)::t) r c=(r,x+c)::t:=by simp[addS]
   rw[e]
   simp only[ja6,List.map_cons,List.sum_cons]
   split<;>omega
  ·have ih:=jz3 t r c
   simp only[addS,if_neg h,ja6,List.map_cons,List.sum_cons] at ih ⊢
   omega
theorem jz4:∀(kv:List (Int×Int)) (r c:Int),jc8 (addS kv r c)<=jc8 kv+if r=1 then 0 else c.natAbs
 | [],r,c=>by simp[jc8,addS]
 | (a,x)::t,r,c=>by
  by_cases h:r=a
  ·subst h
   have e:addS ((r,x)::t) r c=(r,x+c)::t:=by simp[addS]
   rw[e]
   simp only[jc8,List.map_cons,List.sum_cons]
   split<;>omega
  ·have ih:=jz4 t r c
   simp only[addS,if_neg h,jc8,List.map_cons,List.sum_cons] at ih ⊢
   omega
theorem jbh7:∀(l kv:List (Int×Int)) (m:Int),(ja6 (ze kv l m)).natAbs+jc8 (ze kv l m)<=(ja6 kv).natAbs+jc8 kv+(l.map λt=>(t.1*m).natAbs).sum
 | [],kv,m=>by simp[ze]
 | t::l,kv,m=>by
  have h:=jbh7 l (addS kv t.2 (t.1*m)) m
  have h1:=jz3 kv t.2 (t.1*m)
  have h2:=jz4 kv t.2 (t.1*m)
  simp only[ze,List.foldl_cons,List.map_cons,List.sum_cons] at h ⊢
  split at h1
  ·rename_i h3
   rw[if_pos h3] at h2;omega
  ·rename_i h3
   rw[if_neg h3] at h2;omega
theorem jcb0(t:Int×Int)(h:t.2=1):zh t 0=t.1.natAbs/\Jr t 0=t.1.natAbs:=by
 unfold zh Jr
 rw[za9,sqT,h]
 rw[show((1:Int)).toNat=1 from rfl,Nat.mul_one]
 exact⟨jf8 _,jad2 _⟩
theorem jbt3(t:Int×Int)(h:t.2<=1000):Jr t 0<=32*t.1.natAbs:=by
 unfold Jr
 rw[za9,sqT]
 refine jam4 ?_
 have h1:t.2.toNat<=1024:=by omega
 have h2:=Nat.mul_le_mul_left (t.1.natAbs*t.1.natAbs) h1
 have e:32*t.1.natAbs*(32*t.1.natAbs)=t.1.natAbs*t.1.natAbs*1024:=by
  rw[Nat.mul_mul_mul_comm,Nat.mul_comm]
 omega
theorem zp0:∀(kv:List (Int×Int)),(∀p∈kv,p.1<=1000) ->
  ja6 kv-32*(jc8 kv:Int)<=(zv (kv.map ZZ) 0:Int)-(Jh (kv.map ZZ) 0:Int)/\-ja6 kv-32*(jc8 kv:Int)<=(zw (kv.map ZZ) 0:Int)-(Jg (kv.map ZZ) 0:Int)
 | [],_=>by simp[ja6,jc8,zv,Jh,zw,Jg]
 | (r,c)::kv,h=>by
  have ih:=zp0 kv (λp hp=>h p (List.mem_cons_of_mem _ hp))
  have hr:r<=1000:=h (r,c) (by simp)
  have h32:=jbt3 (c,r) hr
  have h1:=jcb0 (c,r)
  unfold ja6 jc8 zv Jh zw Jg at *
  simp only[List.map_cons,List.sum_cons,ZZ] at ih ⊢
  dsimp only at h32 h1
  by_cases hr1:r=1
  ·obtain⟨g1,g2⟩:=h1 hr1
   rw[if_pos hr1,if_pos hr1,g1,g2]
   split<;>omega
  ·rw[if_neg hr1,if_neg hr1]
   split<;>omega
theorem Qc (f:Int×Int->Nat) (hf:∀t,JA t=false->f t=0):∀l:List (Int×Int),((l.filter JA).map f).sum=(l.map f).sum
 | []=>rfl
 | t::l=>by
  have ih:=Qc f hf l
  rw[List.filter_cons]
  cases h:JA t
  ·simp only[Bool.false_eq_true,if_false,List.map_cons,List.sum_cons,hf t h,ih,Nat.zero_add]
  ·simp only[if_true,List.map_cons,List.sum_cons,ih]
theorem jca1:isq 0=0:=by have:=jf8 0;simpa using this
theorem jbm8:ja4 0=0:=by have:=jad2 0;simpa using this
theorem jt2{t:Int×Int}(h:JA t=false)(k:Nat):zh t k=0/\Jr t k=0:=by
 have h0:t.1=0:=by simpa [JA] using h
 unfold zh Jr Zv sqT
 rw[h0]
 simp[jca1,jbm8]
theorem zp9(l:List (Int×Int))(k:Nat):jy (l.filter JA) k=jy l k:=by
 unfold jy zv Jg zw Jh
 rw[Qc _ (λt h=>by rw[(jt2 h k).2];split<;>rfl),Qc _ (λt h=>by rw[(jt2 h k).1];split<;>rfl),Qc _ (λt h=>by rw[(jt2 h k).2];split<;>rfl),Qc _ (λt h=>by rw[(jt2 h k).1];split<;>rfl)]
theorem jA.of_verdict{l:List (Int×Int)}{s:Int}{k:Nat}(h:jy l k=s)(hs:s≠0):jA l s:=by
 rw[<-zp9] at h
 refine .inr ⟨λe=>?_,hs,k,h⟩
 rw[e] at h
 exact hs (by rw[<-h];rfl)
theorem jcf0{kv:List (Int×Int)}(h:∀p∈kv,p.1<=1000)(hg:32*(jc8 kv:Int)<ja6 kv):jA (kv.map ZZ) 1:=by
 have:=(zp0 kv h).1
 exact jA.of_verdict (k:=0) (ZT (by omega)) (by decide)
theorem jbs2{kv:List (Int×Int)}(h:∀p∈kv,p.1<=1000)(hg:32*(jc8 kv:Int) < -ja6 kv):jA (kv.map ZZ) (-1):=by
 have:=(zp0 kv h).2
 exact jA.of_verdict (k:=0) (ZS (by omega)) (by decide)
def ZY(xd:Nat)(xt:List (Int×Int))(den:Nat):Nat:=2+(xt.map λt=>(t.1.natAbs*32/xd+1)*den).sum
theorem jbh4 {xd den:Nat} (hd:1<=xd):∀(xt:List (Int×Int)),32*(xt.map λt=>(t.1*(den:Int)).natAbs).sum<=(xt.map λt=>(t.1.natAbs*32/xd+1)*den).sum*xd
 | []=>by simp
 | t::xt=>by
  have ih:=jbh4 (den:=den) hd xt
  simp only[List.map_cons,List.sum_cons,Nat.mul_add,Nat.add_mul] at ih ⊢
  have h1:(t.1*(den:Int)).natAbs=t.1.natAbs*den:=by rw[Int.natAbs_mul,Int.natAbs_natCast]
  have h2:=Nat.lt_div_mul_add (a:=t.1.natAbs*32) (b:=xd) (by omega)
  have h3:32*(t.1.natAbs*den)<=t.1.natAbs*32/xd*den*xd+1*den*xd:=by
   have h4:=Nat.mul_le_mul_right den (Nat.le_of_lt h2)
   rw[Nat.add_mul] at h4
   have e1:t.1.natAbs*32/xd*xd*den=t.1.natAbs*32/xd*den*xd:=by rw[Nat.mul_right_comm]
   have e2:xd*den=1*den*xd:=by rw[Nat.one_mul,Nat.mul_comm]
   have e3:t.1.natAbs*32*den=32*(t.1.natAbs*den):=by rw[Nat.mul_right_comm,Nat.mul_comm,Nat.mul_comm 32]
   omega
  rw[h1]
  omega
theorem jn8:zu 1:=⟨by decide,by decide,λe he hd=>by have:=Nat.le_of_dvd (by decide) hd;have:=Nat.mul_le_mul he he;simp at *;omega⟩
theorem jbb5 {xd den:Nat} {xt:List (Int×Int)} (hd:1<=xd) (hx:∀t∈xt,zu t.2) :
  jA (zO xt den [(-(ZY xd xt den:Int),1)] xd) 1/\jA (zO xt den [((ZY xd xt den:Int),1)] xd) (-1):=by
 have hk:∀n:Int,∀p∈Zl xt den [(n,1)] xd,p.1<=1000:=λn p hp=>by
  have h1:=(jn2 hx (yt:=[(n,1)]) (λt ht=>by
   simp only[List.mem_singleton] at ht
   subst ht
   exact jn8) (den:Int) (xd:Int)).2 p.1 (List.mem_map_of_mem hp)
  exact h1.2.1
 have h1:=jbh7 xt [] (den:Int)
 have h2:=jbh4 (den:=den) hd xt
 have e0:ja6 []=0:=rfl
 have e1:jc8 []=0:=rfl
 rw[e0,e1] at h1
 have hm:ZY xd xt den*xd=2*xd+(xt.map λt=>(t.1.natAbs*32/xd+1)*den).sum*xd:=by unfold ZY;rw[Nat.add_mul]
 have hone:∀n:Int,ja6 (Zl xt den [(n,1)] xd)=ja6 (ze [] xt den)+n*-(xd:Int):=λn=>by
  show ja6 (addS (ze [] xt den) 1 (n*-(xd:Int)))=_
  rw[jz3,if_pos rfl]
 have hoth:∀n:Int,jc8 (Zl xt den [(n,1)] xd)<=jc8 (ze [] xt den):=λn=>by
  have h3:=jz4 (ze [] xt den) 1 (n*-(xd:Int))
  rw[if_pos rfl] at h3
  exact h3
 generalize (xt.map λt=>(t.1*(den:Int)).natAbs).sum=S at *
 generalize (xt.map λt=>(t.1.natAbs*32/xd+1)*den).sum*xd=T at *
 constructor
 ·have h3:=hone (-(ZY xd xt den:Int))
  have h4:=hoth (-(ZY xd xt den:Int))
  refine jcf0 (hk _) ?_
  rw[h3,Int.neg_mul_neg,<-Int.natCast_mul,hm]
  generalize ja6 (ze [] xt den)=g at *
  generalize jc8 (ze [] xt den)=o at *
  omega
 ·have h3:=hone (ZY xd xt den:Int)
  have h4:=hoth (ZY xd xt den:Int)
  refine jbs2 (hk _) ?_
  rw[h3,Int.mul_neg,<-Int.natCast_mul,hm]
  generalize ja6 (ze [] xt den)=g at *
  generalize jc8 (ze [] xt den)=o at *
  omega
theorem jcb4{xd den:Nat}{xt:List (Int×Int)}(hl:xt.length<=4)(hd:1<=xd)(hden:den<=1000000000)(hc:∀t∈xt,-100000<=t.1/\t.1<=100000)(hxd:xd<=100000):ZY xd xt den<=20000000000000000/\ZY xd xt den*xd<=40000000000000000:=by
 have hone:∀t∈xt,(t.1.natAbs*32/xd+1)*den<=3200001*1000000000/\(t.1.natAbs*32/xd+1)*den*xd<=3300000*1000000000:=λt ht=>by
  have h1:=hc t ht
  have h2:t.1.natAbs*32/xd<=t.1.natAbs*32:=Nat.div_le_self _ _
  have h3:t.1.natAbs*32/xd*xd<=t.1.natAbs*32:=Nat.div_mul_le_self _ _
  refine⟨Nat.mul_le_mul (by omega) hden,?_⟩
  rw[Nat.mul_right_comm]
  refine Nat.mul_le_mul ?_ hden
  rw[Nat.add_mul];omega
 have h1:=Qd (λt:Int×Int=>(t.1.natAbs*32/xd+1)*den) _ xt (λt ht=>(hone t ht).1)
 have h2:(xt.map λt=>(t.1.natAbs*32/xd+1)*den).sum*xd<=xt.length*(3300000*1000000000):=by
  have h3:=qL (λt:Int×Int=>(t.1.natAbs*32/xd+1)*den) (λ_=>3300000*1000000000) xd xt (λt ht=>(hone t ht).2)
  have h4:=Qd (λ_:Int×Int=>3300000*1000000000) _ xt (λt ht=>Nat.le_refl _)
  omega
 unfold ZY
 rw[Nat.add_mul]
 have h5:=Nat.mul_le_mul_right (3200001*1000000000) hl
 have h6:=Nat.mul_le_mul_right (3300000*1000000000) hl
 omega
def jd0(xd:Int)(xt:List (Int×Int))(den r:Int):Prop:=
 (∃s,0<=s/\jA (zO xt den [(r,1)] xd) s)/\(∃s,s<0/\jA (zO xt den [(r+1,1)] xd) s)/\(-20000000000000000<=r/\r<=20000000000000000)/\-400000000000000000<=r*xd/\r*xd<=400000000000000000
theorem jaa6(w:World)(n:Int):ji (w.alloc (.cells #[.int .i64 n,.int .i64 1] 59)) (w.heap.size+1) (some ⟨w.heap.size,0,none⟩) 1 1 [(n,1)]:=by
 have h:=Rd.of_own (World.ownsRow_lit (base:=0) (e:=59) (size:=2) w #[.int .i64 n,.int .i64 1] 1 (Nat.zero_le _) (by unfold maxLen;omega) rfl)
 rw[World.size_alloc] at h
 exact h
theorem jbb4{xt:List (Int×Int)}{k:Nat}{t:Int×Int}(xd den:Nat)(h:xt.take (k+1)=xt.take k++[t]):ZY xd (xt.take (k+1)) den=ZY xd (xt.take k) den+(t.1.natAbs*32/xd+1)*den:=by
 unfold ZY
 rw[h,QS];omega
theorem jA.range{l:List (Int×Int)}{s:Int}(h:jA l s):s=1\/s=-1\/s=0:=by
 rcases h with⟨_,h⟩|⟨_,_,k,h⟩
 ·exact .inr (.inr h)
 ·rw[<-h];exact QG _ k
theorem jbk5 (xd:Nat) (A:Option Addr) (n c:Nat) (xt:List (Int×Int)) (den:Nat) (B:Nat) (w:World) (hx:ji w B A n c xt) (hB:B<=w.heap.size) (hok:js xd xt=true) (hd1:1<=den) (hd2:den<=1000000000) :
  Calls Tryz.prog 93 #[.agg #[.int .i64 xd,.slice A n c],.int .i64 den] w λe w'=>∃r,e=.returned (.int .i64 r)/\jd0 xd xt den r/\Below w.heap.size w w':=by
 obtain⟨px1,px2,px3,px4⟩:=jz hok
 have hro:=(Jd hok).1
 have hc:∀t∈xt,-100000<=t.1/\t.1<=100000:=λt ht=>(px4 t ht).1.2.2.2
 have hM:=λk=>jcb4 (xd:=xd) (den:=den) (xt:=xt.take k) (by simp;omega) (by omega) hd2 (λt ht=>hc t (List.mem_of_mem_take ht)) (by omega)
 have HM:=ja hM
 have HSG:=ja (jbb5 (xd:=xd) (den:=den) (by omega) hro)
 have HC:=ja hc
 have hl:=hx.len
 subst hl
 have HX0:=ja (jh.new w 24 #[.int .i64 xd,.slice A xt.length c])
 have HT0:=ja (Rd.alloc hx hB (.cells #[.int .i64 xd,.slice A xt.length c] 24))
 have HB0:=ja ((Below.refl w.heap.size w).alloc (Nat.le_refl _) (.cells #[.int .i64 xd,.slice A xt.length c] 24))
 have hbx:∀t∈xt,-400000000000000000<=t.1*(den:Int)/\t.1*(den:Int)<=400000000000000000:=λt ht=>by
  have:=jE (a:=t.1) (b:=den) (A:=100000) (B:=1000000000) (hc t ht) ⟨by omega,by omega⟩
  omega
 have HLS:=ja (λ(mid:Int) (W:World) (hmid:-20000000000000000<=mid/\mid<=20000000000000000/\-400000000000000000<=mid*xd/\mid*xd<=400000000000000000) (h:ji W w.heap.size A xt.length c xt) (hW:w.heap.size<=W.heap.size)=>
  zk7 A xt.length c xt den (some ⟨W.heap.size,0,none⟩) 1 1 [(mid,1)] xd (W.heap.size+1) (W.alloc (.cells #[.int .i64 mid,.int .i64 1] 59)) (Rd.more (Rd.alloc h hW _) (by omega)) (jaa6 W mid) (by simp) px3 (by simp) hbx (λt ht=>by
   simp only[List.mem_singleton] at ht;subst ht;exact hmid.2.2))
 have HSI:=ja (λ(mid:Int) (hmid:-400000000000000000<=mid*xd/\mid*xd<=400000000000000000) l hp B A n c w h hB=>jz0 (l:=l) (yt:=[(mid,1)]) hp hro (λt ht=>by simp only[List.mem_singleton] at ht;subst ht;exact jn8) px3 (by simp) hbx (λt ht=>by simp only[List.mem_singleton] at ht;subst ht;exact hmid) B A n c w h hB)
 clear hx hok hM hc px4 hro hbx
 go_enter Tryz.func93,Tryz.ntmps93
 go_wp2
 go_loopw [5,14] (λs i W=>∃k:Nat,k<=xt.length/\i=.int .i64 k/\s=.int .i64 (ZY xd (xt.take k) den)/\jh W w.heap.size 24 #[.int .i64 xd,.slice A xt.length c]/\ji W B A xt.length c xt/\Below w.heap.size w W) (λ_ i _=>xt.length-(intOf i).toNat)
 case atStart=>exact⟨0,by omega,rfl,rfl,HX0.o,HT0.o,HB0.o⟩
 case round=>
  obtain⟨k,hk,rfl,rfl,hb,ht,hbl⟩:=hrel
  obtain⟨q1,q2,q3,q4⟩:=hb.two
  have HX1:=ja hb;have HT1:=ja ht;have HB1:=ja hbl
  have hlw:=hb.lt
  clear hb ht hbl HX0 HT0 HB0
  by_cases hlt:k<xt.length
  ·obtain⟨ad,had,hc0,hc1⟩:=HT1.o.at_ hlt
   subst had
   have hct:=HC.o xt[k] (List.getElem_mem hlt)
   have HS:=ja (jbb4 xd den (jw xt k hlt))
   have hm0:=(HM.o k).1
   have hm1:=(HM.o (k+1)).1
   rw[HS.o] at hm1
   generalize xt[k]=t at *
   obtain⟨co,ro⟩:=t
   dsimp only at hc0 hc1 hct HS hm1
   obtain⟨ca,hca⟩:∃ca,ca=co.natAbs:=⟨_,rfl⟩
   have hmx:max co (-co)=(ca:Int):=by omega
   have hca2:ca<=100000:=by omega
   have hqd:((ca:Int)*32).tdiv (xd:Int)=((ca*32/xd:Nat):Int):=by
    rw[show(ca:Int)*32=((ca*32:Nat):Int) by omega]
    rfl
   rw[<-hca] at HS hm1
   have hq2:ca*32/xd<=3200000:=Nat.le_trans (Nat.div_le_self _ _) (by omega)
   generalize ca*32/xd=qq at *
   have hqm:((qq:Int)+1)*(den:Int)=(((qq+1)*den:Nat):Int):=by rw[Int.natCast_mul,Int.natCast_add];rfl
   have HY:=ja (λo=>(HX1.o.alloc o).two)
   have hq1:=λo=>(HY.o o).1
   generalize (qq+1)*den=pr at *
   generalize ZY xd (xt.take k) den=ms at *
   clear hca HC HM
   go_wp2
   refine⟨⟨k+1,by omega,by go_num,?_,HX1.o.alloc _,Rd.alloc HT1.o (by omega) _,HB1.o.alloc HB1.o.size _⟩,by simp[intOf];omega⟩
   rw[HS.o];simp
  ·obtain rfl:k=xt.length:=by omega
   rw[List.take_length]
   have hm0:=HM.o xt.length
   rw[List.take_length] at hm0
   obtain⟨sg1,sg2⟩:=HSG.o
   have hm2:2<=ZY xd xt den:=Nat.le_add_right _ _
   generalize ZY xd xt den=ms at *
   have SG1:=ja sg1;have SG2:=ja sg2
   have HT2:Hid (ji wr w.heap.size A xt.length c xt):=ja (Rd.more HT1.o hB)
   clear sg1 sg2 HC HM HT1 HSG
   go_wp2
   go_loopw [8,9] (λa b W=>∃lo hi:Int,a=.int .i64 lo/\b=.int .i64 hi/\-(ms:Int)<=lo/\lo<hi/\hi<=ms/\(∃s,0<=s/\jA (zO xt den [(lo,1)] xd) s)/\(∃s,s<0/\jA (zO xt den [(hi,1)] xd) s) /\
    jh W w.heap.size 24 #[.int .i64 xd,.slice A xt.length c]/\ji W w.heap.size A xt.length c xt/\Below w.heap.size w W) (λa b _=>(intOf b-intOf a).toNat)
   case atStart=>
    exact⟨-(ms:Int),ms,rfl,rfl,by omega,by omega,by omega,⟨1,by omega,SG1.o⟩,⟨-1,by omega,SG2.o⟩,HX1.o,HT2.o,HB1.o⟩
   case round=>
    obtain⟨lo,hi,rfl,rfl,h1,h2,h3,hs1,hs2,hb,ht,hbl⟩:=hrel
    obtain⟨q1,q2,q3,q4⟩:=hb.two
    have hlw:=hb.lt
    have HX3:=ja hb;have HT3:=ja ht;have HB3:=ja hbl
    have HS1:=ja hs1;have HS2:=ja hs2
    clear hb ht hbl hs1 hs2 HX1 HT2 HB1
    by_cases hgt:1<hi-lo
    ·obtain⟨h,hh⟩:∃h,(hi-lo).tdiv 2=h:=⟨_,rfl⟩
     have hh2:2*h<=hi-lo/\hi-lo<=2*h+1:=by
      rw[<-hh,Int.tdiv_eq_ediv_of_nonneg (by omega)];omega
     obtain⟨mid,hmid⟩:∃mid,lo+h=mid:=⟨_,rfl⟩
     have hmr:lo<mid/\mid<hi:=by omega
     have hmx:-400000000000000000<=mid*xd/\mid*xd<=400000000000000000:=by
      have h4:(mid*(xd:Int)).natAbs<=ms*xd:=by
       rw[Int.natAbs_mul,Int.natAbs_natCast]
       exact Nat.mul_le_mul_right _ (by omega)
      omega
     have HL:=ja (HLS.o mid wr ⟨by omega,by omega,hmx⟩ HT3.o (by omega))
     have HSM:=ja (HSI.o mid hmx)
     have hq1:=λo=>((HX3.o.alloc o).two).1
     have HBa:=ja (HB3.o.alloc HB3.o.size (.cells #[.int .i64 mid,.int .i64 1] 59))
     have HXa:=ja (HX3.o.alloc (.cells #[.int .i64 mid,.int .i64 1] 59))
     have HTa:=ja (Rd.alloc HT3.o (by omega) (.cells #[.int .i64 mid,.int .i64 1] 59))
     clear HLS HSI
     go_wp2_with (first
      | (go_at_call 94;refine HL.o.mono ?_;rintro e w2 ⟨A2,n2,c2,l2,rfl,ht2,hp2,hb2⟩;have HT2:=ja ht2;have HP2:=ja hp2;have HB2:=ja hb2;clear ht2 hp2 hb2)
      | (go_at_call 69;refine(HSM.o _ HP2.o _ _ _ _ _ HT2.o (Nat.le_refl _)).mono ?_;rintro e w3 ⟨s,rfl,hs,hb3⟩;have HS:=ja hs;have HB4:=ja hb3;clear hs hb3))
     have hz2:=HB2.o.size
     simp only[World.size_alloc] at hz2
     have HB23:Hid (Below (wr.heap.size+1) (wr.alloc (.cells #[.int .i64 mid,.int .i64 1] 59)) w3):=ja (by
      have h5:=HB2.o
      rw[World.size_alloc] at h5
      exact h5.trans (HB4.o.mono (by omega)))
     have HX4:=ja (HXa.o.below HB23.o (by omega))
     have HT4:=ja (Rd.below HTa.o (HB23.o.mono (by omega)))
     have HB5:=ja (HBa.o.trans (HB23.o.mono (by omega)))
     ·exact⟨⟨mid,hi,rfl,rfl,by omega,by omega,h3,⟨s,by assumption,HS.o⟩,HS2.o,HX4.o,HT4.o,HB5.o⟩,by simp[intOf];omega⟩
     have hz2:=HB2.o.size
     simp only[World.size_alloc] at hz2
     have HB23:Hid (Below (wr.heap.size+1) (wr.alloc (.cells #[.int .i64 mid,.int .i64 1] 59)) w3):=ja (by
      have h5:=HB2.o
      rw[World.size_alloc] at h5
      exact h5.trans (HB4.o.mono (by omega)))
     have HX4:=ja (HXa.o.below HB23.o (by omega))
     have HT4:=ja (Rd.below HTa.o (HB23.o.mono (by omega)))
     have HB5:=ja (HBa.o.trans (HB23.o.mono (by omega)))
     ·exact⟨⟨lo,mid,rfl,rfl,by omega,by omega,by omega,HS1.o,⟨s,by omega,HS.o⟩,HX4.o,HT4.o,HB5.o⟩,by simp[intOf];omega⟩
    ·go_wp2
     go_ret
     have hhi:hi=lo+1:=by omega
     subst hhi
     have h4:(lo*(xd:Int)).natAbs<=ms*xd:=by
      rw[Int.natAbs_mul,Int.natAbs_natCast]
      exact Nat.mul_le_mul_right _ (by omega)
     exact⟨lo,rfl,⟨HS1.o,HS2.o,⟨by omega,by omega⟩,by omega,by omega⟩,HB3.o⟩
def qc(xd:Int)(xt:List (Int×Int))(den low high c:Int):Prop:=
 (js xd xt=false/\low=0/\high=0/\c=2)\/(js xd xt=true/\zz den 1 1000000000=false/\low=0/\high=0/\c=3) \/
  (js xd xt=true/\zz den 1 1000000000=true/\c=0/\jd0 xd xt den low/\((∃s,0<s/\jA (zO xt den [(low,1)] xd) s)/\high=low+1\/jA (zO xt den [(low,1)] xd) 0/\high=low))
theorem jd5 (xd:Int) (A:Option Addr) (n c:Nat) (xt:List (Int×Int)) (den:Int) (B:Nat) (w:World) (hx:ji w B A n c xt) (hB:B<=w.heap.size) :
  Calls Tryz.prog 47 #[.agg #[.int .i64 xd,.slice A n c],.int .i64 den] w λe w'=>∃low high c,e=.returned (.tuple #[.int .i64 low,.int .i64 high,.int .i64 c])/\qc xd xt den low high c/\Below w.heap.size w w':=by
 have HV:=ja (zd7 xd A n c xt B (w.alloc (.cells #[.int .i64 xd,.slice A n c] 24)) (Rd.alloc hx hB _) (by simp;omega))
 have HT0:=ja (Rd.alloc hx hB (.cells #[.int .i64 xd,.slice A n c] 24))
 have HX0:=ja (jh.new w 24 #[.int .i64 xd,.slice A n c])
 have HB0:=ja ((Below.refl w.heap.size w).alloc (Nat.le_refl _) (.cells #[.int .i64 xd,.slice A n c] 24))
 simp only[World.size_alloc] at HV
 clear hx
 go_enter Tryz.func47,Tryz.ntmps47
 go_wp2_with fail
 refine HV.o.mono ?_
 rintro e w1 ⟨rfl,hb1⟩
 (try simp only[World.size_alloc] at hb1)
 have HX1:=ja (HX0.o.below hb1 (by omega))
 have HT1:=ja (HT0.o.below (hb1.mono (by omega)))
 have HB1:=ja (HB0.o.trans (hb1.mono (by omega)))
 have hz1:=hb1.size
 (try simp only[World.size_alloc] at hz1)
 obtain⟨q1,q2,q3,q4⟩:=HX1.o.two
 clear HV HX0 HT0 HB0 hb1
 cases hok:js xd xt
 ·go_wp2
  go_ret3
  exact⟨0,0,2,rfl,.inl ⟨hok,rfl,rfl,rfl⟩,HB1.o⟩
 ·have HOK:=ja hok
  clear hok
  cases hd:zz den 1 1000000000
  ·have HD:=ja hd
   clear hd
   go_wp2_with (first
    | (go_at_call 60;refine(zj _ _ _ _).mono ?_;rintro e w2 ⟨rfl,rfl⟩;rw[HD.o]))
   go_ret3
   exact⟨0,0,3,rfl,.inr (.inl ⟨HOK.o,HD.o,rfl,rfl,rfl⟩),HB1.o⟩
  ·have HD:=ja hd
   have hd2:1<=den/\den<=1000000000:=by simpa [zz] using hd
   obtain⟨px1,px2,px3,px4⟩:=jz HOK.o
   have hro:=(Jd HOK.o).1
   have hbx:∀t∈xt,-400000000000000000<=t.1*den/\t.1*den<=400000000000000000:=λt ht=>by
    have:=jE (a:=t.1) (b:=den) (A:=100000) (B:=1000000000) (px4 t ht).1.2.2.2 ⟨by omega,by omega⟩
    omega
   obtain⟨xdn,hxdn⟩:=Int.eq_ofNat_of_zero_le (show 0<=xd by omega)
   obtain⟨dn,hdn⟩:=Int.eq_ofNat_of_zero_le (show 0<=den by omega)
   subst hxdn
   subst hdn
   have HBL:=ja (jbk5 xdn A n c xt dn B w1 HT1.o (by omega) HOK.o (by omega) (by omega))
   have HLS:=ja (λ(mid:Int) (W:World) (hmid:-400000000000000000<=mid*xdn/\mid*xdn<=400000000000000000) (h:ji W B A n c xt) (hW:B<=W.heap.size)=>
    zk7 A n c xt dn (some ⟨W.heap.size,0,none⟩) 1 1 [(mid,1)] xdn (W.heap.size+1) (W.alloc (.cells #[.int .i64 mid,.int .i64 1] 59)) (Rd.more (Rd.alloc h hW _) (by omega)) (jaa6 W mid) (by simp) px3 (by simp) hbx (λt ht=>by
     simp only[List.mem_singleton] at ht;subst ht;exact hmid))
   have HSI:=ja (λ(mid:Int) (hmid:-400000000000000000<=mid*xdn/\mid*xdn<=400000000000000000) l hp B A n c w h hB=>jz0 (l:=l) (yt:=[(mid,1)]) hp hro (λt ht=>by simp only[List.mem_singleton] at ht;subst ht;exact jn8) px3 (by simp) hbx (λt ht=>by simp only[List.mem_singleton] at ht;subst ht;exact hmid) B A n c w h hB)
   have HBD:=ja (λr (hr:jd0 xdn xt dn r)=>hr.2.2)
   clear hd px4 hro hbx px1 px3
   go_wp2_with (first
    | (go_at_call 60;refine(zj _ _ _ _).mono ?_;rintro e w2 ⟨rfl,rfl⟩;rw[HD.o])
    | (go_at_call 93;refine HBL.o.mono ?_;rintro e w2 ⟨r,rfl,hr,hb2⟩;have HR:=ja hr;have HB2:=ja hb2;clear hr hb2
       have hrb:=(HBD.o r HR.o).1
       have hrx:-400000000000000000<=r*xdn/\r*xdn<=400000000000000000:=(HBD.o r HR.o).2
       have HX2:=ja (HX1.o.below HB2.o HX1.o.lt)
       have HT2:=ja (HT1.o.below (HB2.o.mono (by omega)))
       have hz2:=HB2.o.size
       have hqa:=λo=>((HX2.o.alloc o).two).1
       obtain⟨u1,u2,u3,u4⟩:=HX2.o.two
       have HL:=ja (HLS.o r w2 hrx HT2.o (by omega))
       have HSM:=ja (HSI.o r hrx)
       have HB3:=ja ((HB1.o.trans (HB2.o.mono (by omega))).alloc (by omega) (.cells #[.int .i64 r,.int .i64 1] 59)))
    | (go_at_call 94;refine HL.o.mono ?_;rintro e w3 ⟨A2,n2,c2,l2,rfl,ht2,hp2,hb2⟩;have HT3:=ja ht2;have HP3:=ja hp2;have HB4:=ja hb2;clear ht2 hp2 hb2)
    | (go_at_call 69;refine(HSM.o _ HP3.o _ _ _ _ _ HT3.o (Nat.le_refl _)).mono ?_;rintro e w4 ⟨s,rfl,hs,hb3⟩;have HS:=ja hs;have HB5:=ja hb3;clear hs hb3))
   all_goals
    have hz3:=HB4.o.size
    simp only[World.size_alloc] at hz3
    have hB6:Below w.heap.size w w4:=(HB3.o.trans (HB4.o.mono (by simp;omega))).trans (HB5.o.mono (by omega))
    go_ret3
   ·exact⟨r,r+1,0,rfl,.inr (.inr ⟨HOK.o,HD.o,rfl,HR.o,.inl ⟨⟨s,by assumption,HS.o⟩,rfl⟩⟩),hB6⟩
   ·refine⟨r,r,0,rfl,.inr (.inr ⟨HOK.o,HD.o,rfl,HR.o,.inr ⟨?_,rfl⟩⟩),hB6⟩
    obtain⟨s2,h1,h2⟩:=HR.o.1
    have h3:=jA.unique h2 HS.o
    have:s=0:=by omega
    rw[<-this];exact HS.o
theorem Zp{a r s:Int}(h:jA [(a,r)] s):(a=0/\s=0)\/(0<a/\s=1)\/(a<0/\s=-1):=by
 unfold jA at h
 by_cases h0:a=0
 ·subst h0
  rcases h with⟨_,h⟩|⟨h,_⟩
  ·exact .inl ⟨rfl,h⟩
  ·simp[JA] at h
 ·have hf:[(a,r)].filter JA=[(a,r)]:=by simp[JA,h0]
  rw[hf] at h
  rcases h with⟨h,_⟩|⟨_,hs,k,hk⟩
  ·simp at h
  ·unfold jy at hk
   rcases Int.lt_or_le a 0 with ha|ha
   ·right;right
    simp only[Jh,zv,Jg,zw,List.map_cons,List.map_nil,ha,if_true,List.sum_cons,List.sum_nil,Nat.add_zero] at hk
    rw[if_neg (by omega)] at hk
    split at hk
    ·exact⟨ha,hk.symm⟩
    ·exact absurd hk.symm hs
   ·right;left
    have hna:¬a<0:=by omega
    simp only[Jh,zv,Jg,zw,List.map_cons,List.map_nil,hna,if_false,List.sum_cons,List.sum_nil,Nat.add_zero] at hk
    split at hk
    ·exact⟨by omega,hk.symm⟩
    ·rw[if_neg (by omega)] at hk
     exact absurd hk.symm hs
theorem zn7{a b r s:Int}(ha:0<a)(hb:b<0)(hr:0<r)(h:jA [(a,1),(b,r)] s):(s=1/\b.natAbs*b.natAbs*r.toNat<a.natAbs*a.natAbs)\/(s=-1/\a.natAbs*a.natAbs<b.natAbs*b.natAbs*r.toNat):=by
 unfold jA at h
 have hf:[(a,1),(b,r)].filter JA=[(a,1),(b,r)]:=by
  have h1:a≠0:=by omega
  have h2:b≠0:=by omega
  simp[JA,h1,h2]
 rw[hf] at h
 rcases h with⟨h,_⟩|⟨_,hs,k,hk⟩
 ·simp at h
 ·unfold jy at hk
  have hna:¬a<0:=by omega
  simp only[Jh,zv,Jg,zw,List.map_cons,List.map_nil,hna,hb,if_false,if_true,List.sum_cons,List.sum_nil,Nat.add_zero,Nat.zero_add] at hk
  have hbp:=Zh k
  generalize hB:bits k*bits k=BB at *
  have hBB:0<BB:=by rw[<-hB];exact Nat.mul_pos hbp hbp
  have ea:Zv (a,1) k=a.natAbs*a.natAbs*BB:=by unfold Zv sqT;rw[hB];simp
  have eb:Zv (b,r) k=b.natAbs*b.natAbs*r.toNat*BB:=by unfold Zv sqT;rw[hB]
  split at hk
  ·rename_i hlt
   refine .inl ⟨hk.symm,?_⟩
   unfold Jr zh at hlt
   rw[ea,eb] at hlt
   have h1:=js6 (b.natAbs*b.natAbs*r.toNat*BB)
   have h2:=(qe (a.natAbs*a.natAbs*BB)).le
   have h3:=Nat.mul_lt_mul_of_lt_of_lt hlt hlt
   have h4:b.natAbs*b.natAbs*r.toNat*BB<a.natAbs*a.natAbs*BB:=by omega
   exact Nat.lt_of_mul_lt_mul_right h4
  ·split at hk
   ·rename_i _ hlt
    refine .inr ⟨hk.symm,?_⟩
    unfold Jr zh at hlt
    rw[ea,eb] at hlt
    have h1:=js6 (a.natAbs*a.natAbs*BB)
    have h2:=(qe (b.natAbs*b.natAbs*r.toNat*BB)).le
    have h3:=Nat.mul_lt_mul_of_lt_of_lt hlt hlt
    have h4:a.natAbs*a.natAbs*BB<b.natAbs*b.natAbs*r.toNat*BB:=by omega
    exact Nat.lt_of_mul_lt_mul_right h4
   ·exact absurd hk.symm hs
theorem jcf1{a b r s:Int}(ha:a<=0)(hb:b<0)(h:jA [(a,1),(b,r)] s):s=-1:=by
 by_cases h0:a=0
 ·subst h0
  have h2:jA [(b,r)] s:=by
   unfold jA at h ⊢
   rw[show [((0:Int),(1:Int)),(b,r)].filter JA=[(b,r)].filter JA by simp[JA]] at h
   exact h
  rcases Zp h2 with⟨h4,_⟩|⟨h4,_⟩|⟨_,h4⟩
  ·omega
  ·omega
  ·exact h4
 ·unfold jA at h
  have hf:[(a,1),(b,r)].filter JA=[(a,1),(b,r)]:=by
   have h2:b≠0:=by omega
   simp[JA,h0,h2]
  rw[hf] at h
  rcases h with⟨h,_⟩|⟨_,hs,k,hk⟩
  ·simp at h
  ·unfold jy at hk
   have hna:a<0:=by omega
   simp only[Jh,zv,Jg,zw,List.map_cons,List.map_nil,hna,hb,if_true,List.sum_cons,List.sum_nil,Nat.add_zero] at hk
   rw[if_neg (by omega)] at hk
   split at hk
   ·exact hk.symm
   ·exact absurd hk.symm hs
theorem jan6(a b m v k:Int):zO [(a,1),(b,2)] m [(v,1)] k=[(a*m+v*-k,1),(b*m,2)]:=by
 rfl
theorem js7(a m v k:Int):zO [(a,1)] m [(v,1)] k=[(a*m+v*-k,1)]:=by
 rfl
