import Derived.Test.YtphcodcdfeohhaaGreatDoorSignDToOrdA
set_option linter.all false
namespace Go.Proofs.YtphcodcdfeohhaaGreatDoor
set_option maxRecDepth 100000
set_option maxHeartbeats 8000000
open Go.RowKit
def ja6(kv:List (Int×Int)):Int:=(kv.map λp=>if p.1=1 then p.2 else 0).sum
def jc8(kv:List (Int×Int)):Nat:=(kv.map λp=>if p.1=1 then 0 else p.2.natAbs).sum
theorem jz3:∀(kv:List (Int×Int)) (r c:Int),ja6 (addS kv r c)=ja6 kv+if r=1 then c else 0
 | [],r,c=>by simp[ja6,addS]
 | (a,x)::t,r,c=>by
  by_cases h:r=a
  ·subst h
   have e:addS ((r,x)::t) r c=(r,x+c)::t:=by simp[addS]
   rw[e]
   simp only[ja6,List.map_cons,List.sum_cons]
   split<;>omega
  ·have ih:=jz3 t r c
   simp only[addS,if_neg h,ja6,List.map_cons,List.sum_cons] at ih ⊢
   omega
theorem jz4:∀(kv:List (Int×Int)) (r c:Int),jc8 (addS kv r c)<=jc8 kv+if r=1 then 0 else c.natAbs
 | [],r,c=>by simp[jc8,addS]
 | (a,x)::t,r,c=>by
  by_cases h:r=a
  ·subst h
   have e:addS ((r,x)::t) r c=(r,x+c)::t:=by simp[addS]
   rw[e]
   simp only[jc8,List.map_cons,List.sum_cons]
   split<;>omega
  ·have ih:=jz4 t r c
   simp only[addS,if_neg h,jc8,List.map_cons,List.sum_cons] at ih ⊢
   omega
theorem jbh7:∀(l kv:List (Int×Int)) (m:Int),(ja6 (ze kv l m)).natAbs+jc8 (ze kv l m)<=(ja6 kv).natAbs+jc8 kv+(l.map λt=>(t.1*m).natAbs).sum
 | [],kv,m=>by simp[ze]
 | t::l,kv,m=>by
  have h:=jbh7 l (addS kv t.2 (t.1*m)) m
  have h1:=jz3 kv t.2 (t.1*m)
  have h2:=jz4 kv t.2 (t.1*m)
  simp only[ze,List.foldl_cons,List.map_cons,List.sum_cons] at h ⊢
  split at h1
  ·rename_i h3
   rw[if_pos h3] at h2;omega
  ·rename_i h3
   rw[if_neg h3] at h2;omega
theorem jcb0(t:Int×Int)(h:t.2=1):zh t 0=t.1.natAbs/\Jr t 0=t.1.natAbs:=by
 unfold zh Jr
 rw[za9,sqT,h]
 rw[show((1:Int)).toNat=1 from rfl,Nat.mul_one]
 exact⟨jf8 _,jad2 _⟩
theorem jbt3(t:Int×Int)(h:t.2<=1000):Jr t 0<=32*t.1.natAbs:=by
 unfold Jr
 rw[za9,sqT]
 refine jam4 ?_
 have h1:t.2.toNat<=1024:=by omega
 have h2:=Nat.mul_le_mul_left (t.1.natAbs*t.1.natAbs) h1
 have e:32*t.1.natAbs*(32*t.1.natAbs)=t.1.natAbs*t.1.natAbs*1024:=by
  rw[Nat.mul_mul_mul_comm,Nat.mul_comm]
 omega
theorem zp0:∀(kv:List (Int×Int)),(∀p∈kv,p.1<=1000) ->
  ja6 kv-32*(jc8 kv:Int)<=(zv (kv.map ZZ) 0:Int)-(Jh (kv.map ZZ) 0:Int)/\-ja6 kv-32*(jc8 kv:Int)<=(zw (kv.map ZZ) 0:Int)-(Jg (kv.map ZZ) 0:Int)
 | [],_=>by simp[ja6,jc8,zv,Jh,zw,Jg]
 | (r,c)::kv,h=>by
  have ih:=zp0 kv (λp hp=>h p (List.mem_cons_of_mem _ hp))
  have hr:r<=1000:=h (r,c) (by simp)
  have h32:=jbt3 (c,r) hr
  have h1:=jcb0 (c,r)
  unfold ja6 jc8 zv Jh zw Jg at *
  simp only[List.map_cons,List.sum_cons,ZZ] at ih ⊢
  dsimp only at h32 h1
  by_cases hr1:r=1
  ·obtain⟨g1,g2⟩:=h1 hr1
   rw[if_pos hr1,if_pos hr1,g1,g2]
   split<;>omega
  ·rw[if_neg hr1,if_neg hr1]
   split<;>omega
theorem Qc (f:Int×Int->Nat) (hf:∀t,JA t=false->f t=0):∀l:List (Int×Int),((l.filter JA).map f).sum=(l.map f).sum
 | []=>rfl
 | t::l=>by
  have ih:=Qc f hf l
  rw[List.filter_cons]
  cases h:JA t
  ·simp only[Bool.false_eq_true,if_false,List.map_cons,List.sum_cons,hf t h,ih,Nat.zero_add]
  ·simp only[if_true,List.map_cons,List.sum_cons,ih]
theorem jca1:isq 0=0:=by have:=jf8 0;simpa using this
theorem jbm8:ja4 0=0:=by have:=jad2 0;simpa using this
theorem jt2{t:Int×Int}(h:JA t=false)(k:Nat):zh t k=0/\Jr t k=0:=by
 have h0:t.1=0:=by simpa [JA] using h
 unfold zh Jr Zv sqT
 rw[h0]
 simp[jca1,jbm8]
theorem zp9(l:List (Int×Int))(k:Nat):jy (l.filter JA) k=jy l k:=by
 unfold jy zv Jg zw Jh
 rw[Qc _ (λt h=>by rw[(jt2 h k).2];split<;>rfl),Qc _ (λt h=>by rw[(jt2 h k).1];split<;>rfl),Qc _ (λt h=>by rw[(jt2 h k).2];split<;>rfl),Qc _ (λt h=>by rw[(jt2 h k).1];split<;>rfl)]
theorem jA.of_verdict{l:List (Int×Int)}{s:Int}{k:Nat}(h:jy l k=s)(hs:s≠0):jA l s:=by
 rw[<-zp9] at h
 refine .inr ⟨λe=>?_,hs,k,h⟩
 rw[e] at h
 exact hs (by rw[<-h];rfl)
theorem jcf0{kv:List (Int×Int)}(h:∀p∈kv,p.1<=1000)(hg:32*(jc8 kv:Int)<ja6 kv):jA (kv.map ZZ) 1:=by
 have:=(zp0 kv h).1
 exact jA.of_verdict (k:=0) (ZT (by omega)) (by decide)
theorem jbs2{kv:List (Int×Int)}(h:∀p∈kv,p.1<=1000)(hg:32*(jc8 kv:Int) < -ja6 kv):jA (kv.map ZZ) (-1):=by
 have:=(zp0 kv h).2
 exact jA.of_verdict (k:=0) (ZS (by omega)) (by decide)
def ZY(xd:Nat)(xt:List (Int×Int))(den:Nat):Nat:=2+(xt.map λt=>(t.1.natAbs*32/xd+1)*den).sum
theorem jbh4 {xd den:Nat} (hd:1<=xd):∀(xt:List (Int×Int)),32*(xt.map λt=>(t.1*(den:Int)).natAbs).sum<=(xt.map λt=>(t.1.natAbs*32/xd+1)*den).sum*xd
 | []=>by simp
 | t::xt=>by
  have ih:=jbh4 (den:=den) hd xt
  simp only[List.map_cons,List.sum_cons,Nat.mul_add,Nat.add_mul] at ih ⊢
  have h1:(t.1*(den:Int)).natAbs=t.1.natAbs*den:=by rw[Int.natAbs_mul,Int.natAbs_natCast]
  have h2:=Nat.lt_div_mul_add (a:=t.1.natAbs*32) (b:=xd) (by omega)
  have h3:32*(t.1.natAbs*den)<=t.1.natAbs*32/xd*den*xd+1*den*xd:=by
   have h4:=Nat.mul_le_mul_right den (Nat.le_of_lt h2)
   rw[Nat.add_mul] at h4
   have e1:t.1.natAbs*32/xd*xd*den=t.1.natAbs*32/xd*den*xd:=by rw[Nat.mul_right_comm]
   have e2:xd*den=1*den*xd:=by rw[Nat.one_mul,Nat.mul_comm]
   have e3:t.1.natAbs*32*den=32*(t.1.natAbs*den):=by rw[Nat.mul_right_comm,Nat.mul_comm,Nat.mul_comm 32]
   omega
  rw[h1]
  omega
theorem jn8:zu 1:=⟨by decide,by decide,λe he hd=>by have:=Nat.le_of_dvd (by decide) hd;have:=Nat.mul_le_mul he he;simp at *;omega⟩
theorem jbb5 {xd den:Nat} {xt:List (Int×Int)} (hd:1<=xd) (hx:∀t∈xt,zu t.2) :
  jA (zO xt den [(-(ZY xd xt den:Int),1)] xd) 1/\jA (zO xt den [((ZY xd xt den:Int),1)] xd) (-1):=by
 have hk:∀n:Int,∀p∈Zl xt den [(n,1)] xd,p.1<=1000:=λn p hp=>by
  have h1:=(jn2 hx (yt:=[(n,1)]) (λt ht=>by
   simp only[List.mem_singleton] at ht
   subst ht
   exact jn8) (den:Int) (xd:Int)).2 p.1 (List.mem_map_of_mem hp)
  exact h1.2.1
 have h1:=jbh7 xt [] (den:Int)
 have h2:=jbh4 (den:=den) hd xt
 have e0:ja6 []=0:=rfl
 have e1:jc8 []=0:=rfl
 rw[e0,e1] at h1
 have hm:ZY xd xt den*xd=2*xd+(xt.map λt=>(t.1.natAbs*32/xd+1)*den).sum*xd:=by unfold ZY;rw[Nat.add_mul]
 have hone:∀n:Int,ja6 (Zl xt den [(n,1)] xd)=ja6 (ze [] xt den)+n*-(xd:Int):=λn=>by
  show ja6 (addS (ze [] xt den) 1 (n*-(xd:Int)))=_
  rw[jz3,if_pos rfl]
 have hoth:∀n:Int,jc8 (Zl xt den [(n,1)] xd)<=jc8 (ze [] xt den):=λn=>by
  have h3:=jz4 (ze [] xt den) 1 (n*-(xd:Int))
  rw[if_pos rfl] at h3
  exact h3
 generalize (xt.map λt=>(t.1*(den:Int)).natAbs).sum=S at *
 generalize (xt.map λt=>(t.1.natAbs*32/xd+1)*den).sum*xd=T at *
 constructor
 ·have h3:=hone (-(ZY xd xt den:Int))
  have h4:=hoth (-(ZY xd xt den:Int))
  refine jcf0 (hk _) ?_
  rw[h3,Int.neg_mul_neg,<-Int.natCast_mul,hm]
  generalize ja6 (ze [] xt den)=g at *
  generalize jc8 (ze [] xt den)=o at *
  omega
 ·have h3:=hone (ZY xd xt den:Int)
  have h4:=hoth (ZY xd xt den:Int)
  refine jbs2 (hk _) ?_
  rw[h3,Int.mul_neg,<-Int.natCast_mul,hm]
  generalize ja6 (ze [] xt den)=g at *
  generalize jc8 (ze [] xt den)=o at *
  omega
theorem jcb4{xd den:Nat}{xt:List (Int×Int)}(hl:xt.length<=4)(hd:1<=xd)(hden:den<=1000000000)(hc:∀t∈xt,-100000<=t.1/\t.1<=100000)(hxd:xd<=100000):ZY xd xt den<=20000000000000000/\ZY xd xt den*xd<=40000000000000000:=by
 have hone:∀t∈xt,(t.1.natAbs*32/xd+1)*den<=3200001*1000000000/\(t.1.natAbs*32/xd+1)*den*xd<=3300000*1000000000:=λt ht=>by
  have h1:=hc t ht
  have h2:t.1.natAbs*32/xd<=t.1.natAbs*32:=Nat.div_le_self _ _
  have h3:t.1.natAbs*32/xd*xd<=t.1.natAbs*32:=Nat.div_mul_le_self _ _
  refine⟨Nat.mul_le_mul (by omega) hden,?_⟩
  rw[Nat.mul_right_comm]
  refine Nat.mul_le_mul ?_ hden
  rw[Nat.add_mul];omega
 have h1:=Qd (λt:Int×Int=>(t.1.natAbs*32/xd+1)*den) _ xt (λt ht=>(hone t ht).1)
 have h2:(xt.map λt=>(t.1.natAbs*32/xd+1)*den).sum*xd<=xt.length*(3300000*1000000000):=by
  have h3:=qL (λt:Int×Int=>(t.1.natAbs*32/xd+1)*den) (λ_=>3300000*1000000000) xd xt (λt ht=>(hone t ht).2)
  have h4:=Qd (λ_:Int×Int=>3300000*1000000000) _ xt (λt ht=>Nat.le_refl _)
  omega
 unfold ZY
 rw[Nat.add_mul]
 have h5:=Nat.mul_le_mul_right (3200001*1000000000) hl
 have h6:=Nat.mul_le_mul_right (3300000*1000000000) hl
 omega
def jd0(xd:Int)(xt:List (Int×Int))(den r:Int):Prop:=
 (∃s,0<=s/\jA (zO xt den [(r,1)] xd) s)/\(∃s,s<0/\jA (zO xt den [(r+1,1)] xd) s)/\(-20000000000000000<=r/\r<=20000000000000000)/\-400000000000000000<=r*xd/\r*xd<=400000000000000000
theorem jaa6(w:World)(n:Int):ji (w.alloc (.cells #[.int .i64 n,.int .i64 1] 59)) (w.heap.size+1) (some ⟨w.heap.size,0,none⟩) 1 1 [(n,1)]:=by
 have h:=Rd.of_own (World.ownsRow_lit (base:=0) (e:=59) (size:=2) w #[.int .i64 n,.int .i64 1] 1 (Nat.zero_le _) (by unfold maxLen;omega) rfl)
 rw[World.size_alloc] at h
 exact h
theorem jbb4{xt:List (Int×Int)}{k:Nat}{t:Int×Int}(xd den:Nat)(h:xt.take (k+1)=xt.take k++[t]):ZY xd (xt.take (k+1)) den=ZY xd (xt.take k) den+(t.1.natAbs*32/xd+1)*den:=by
 unfold ZY
 rw[h,QS];omega
theorem jA.range{l:List (Int×Int)}{s:Int}(h:jA l s):s=1\/s=-1\/s=0:=by
 rcases h with⟨_,h⟩|⟨_,_,k,h⟩
 ·exact .inr (.inr h)
 ·rw[<-h];exact QG _ k
theorem jbk5 (xd:Nat) (A:Option Addr) (n c:Nat) (xt:List (Int×Int)) (den:Nat) (B:Nat) (w:World) (hx:ji w B A n c xt) (hB:B<=w.heap.size) (hok:js xd xt=true) (hd1:1<=den) (hd2:den<=1000000000) :
  Calls Tryz.prog 93 #[.agg #[.int .i64 xd,.slice A n c],.int .i64 den] w λe w'=>∃r,e=.returned (.int .i64 r)/\jd0 xd xt den r/\Below w.heap.size w w':=by
 obtain⟨px1,px2,px3,px4⟩:=jz hok
 have hro:=(Jd hok).1
 have hc:∀t∈xt,-100000<=t.1/\t.1<=100000:=λt ht=>(px4 t ht).1.2.2.2
 have hM:=λk=>jcb4 (xd:=xd) (den:=den) (xt:=xt.take k) (by simp;omega) (by omega) hd2 (λt ht=>hc t (List.mem_of_mem_take ht)) (by omega)
 have HM:=ja hM
 have HSG:=ja (jbb5 (xd:=xd) (den:=den) (by omega) hro)
 have HC:=ja hc
 have hl:=hx.len
 subst hl
 have HX0:=ja (jh.new w 24 #[.int .i64 xd,.slice A xt.length c])
 have HT0:=ja (Rd.alloc hx hB (.cells #[.int .i64 xd,.slice A xt.length c] 24))
 have HB0:=ja ((Below.refl w.heap.size w).alloc (Nat.le_refl _) (.cells #[.int .i64 xd,.slice A xt.length c] 24))
 have hbx:∀t∈xt,-400000000000000000<=t.1*(den:Int)/\t.1*(den:Int)<=400000000000000000:=λt ht=>by
  have:=jE (a:=t.1) (b:=den) (A:=100000) (B:=1000000000) (hc t ht) ⟨by omega,by omega⟩
  omega
 have HLS:=ja (λ(mid:Int) (W:World) (hmid:-20000000000000000<=mid/\mid<=20000000000000000/\-400000000000000000<=mid*xd/\mid*xd<=400000000000000000) (h:ji W w.heap.size A xt.length c xt) (hW:w.heap.size<=W.heap.size)=>
  zk7 A xt.length c xt den (some ⟨W.heap.size,0,none⟩) 1 1 [(mid,1)] xd (W.heap.size+1) (W.alloc (.cells #[.int .i64 mid,.int .i64 1] 59)) (Rd.more (Rd.alloc h hW _) (by omega)) (jaa6 W mid) (by simp) px3 (by simp) hbx (λt ht=>by
   simp only[List.mem_singleton] at ht;subst ht;exact hmid.2.2))
 have HSI:=ja (λ(mid:Int) (hmid:-400000000000000000<=mid*xd/\mid*xd<=400000000000000000) l hp B A n c w h hB=>jz0 (l:=l) (yt:=[(mid,1)]) hp hro (λt ht=>by simp only[List.mem_singleton] at ht;subst ht;exact jn8) px3 (by simp) hbx (λt ht=>by simp only[List.mem_singleton] at ht;subst ht;exact hmid) B A n c w h hB)
 clear hx hok hM hc px4 hro hbx
 go_enter Tryz.func93,Tryz.ntmps93
 go_wp2
 go_loopw [5,14] (λs i W=>∃k:Nat,k<=xt.length/\i=.int .i64 k/\s=.int .i64 (ZY xd (xt.take k) den)/\jh W w.heap.size 24 #[.int .i64 xd,.slice A xt.length c]/\ji W B A xt.length c xt/\Below w.heap.size w W) (λ_ i _=>xt.length-(intOf i).toNat)
 case atStart=>exact⟨0,by omega,rfl,rfl,HX0.o,HT0.o,HB0.o⟩
 case round=>
  obtain⟨k,hk,rfl,rfl,hb,ht,hbl⟩:=hrel
  obtain⟨q1,q2,q3,q4⟩:=hb.two
  have HX1:=ja hb;have HT1:=ja ht;have HB1:=ja hbl
  have hlw:=hb.lt
  clear hb ht hbl HX0 HT0 HB0
  by_cases hlt:k<xt.length
  ·obtain⟨ad,had,hc0,hc1⟩:=HT1.o.at_ hlt
   subst had
   have hct:=HC.o xt[k] (List.getElem_mem hlt)
   have HS:=ja (jbb4 xd den (jw xt k hlt))
   have hm0:=(HM.o k).1
   have hm1:=(HM.o (k+1)).1
   rw[HS.o] at hm1
   generalize xt[k]=t at *
   obtain⟨co,ro⟩:=t
   dsimp only at hc0 hc1 hct HS hm1
   obtain⟨ca,hca⟩:∃ca,ca=co.natAbs:=⟨_,rfl⟩
   have hmx:max co (-co)=(ca:Int):=by omega
   have hca2:ca<=100000:=by omega
   have hqd:((ca:Int)*32).tdiv (xd:Int)=((ca*32/xd:Nat):Int):=by
    rw[show(ca:Int)*32=((ca*32:Nat):Int) by omega]
    rfl
   rw[<-hca] at HS hm1
   have hq2:ca*32/xd<=3200000:=Nat.le_trans (Nat.div_le_self _ _) (by omega)
   generalize ca*32/xd=qq at *
   have hqm:((qq:Int)+1)*(den:Int)=(((qq+1)*den:Nat):Int):=by rw[Int.natCast_mul,Int.natCast_add];rfl
   have HY:=ja (λo=>(HX1.o.alloc o).two)
   have hq1:=λo=>(HY.o o).1
   generalize (qq+1)*den=pr at *
   generalize ZY xd (xt.take k) den=ms at *
   clear hca HC HM
   go_wp2
   refine⟨⟨k+1,by omega,by go_num,?_,HX1.o.alloc _,Rd.alloc HT1.o (by omega) _,HB1.o.alloc HB1.o.size _⟩,by simp[intOf];omega⟩
   rw[HS.o];simp
  ·obtain rfl:k=xt.length:=by omega
   rw[List.take_length]
   have hm0:=HM.o xt.length
   rw[List.take_length] at hm0
   obtain⟨sg1,sg2⟩:=HSG.o
   have hm2:2<=ZY xd xt den:=Nat.le_add_right _ _
   generalize ZY xd xt den=ms at *
   have SG1:=ja sg1;have SG2:=ja sg2
   have HT2:Hid (ji wr w.heap.size A xt.length c xt):=ja (Rd.more HT1.o hB)
   clear sg1 sg2 HC HM HT1 HSG
   go_wp2
   go_loopw [8,9] (λa b W=>∃lo hi:Int,a=.int .i64 lo/\b=.int .i64 hi/\-(ms:Int)<=lo/\lo<hi/\hi<=ms/\(∃s,0<=s/\jA (zO xt den [(lo,1)] xd) s)/\(∃s,s<0/\jA (zO xt den [(hi,1)] xd) s) /\
    jh W w.heap.size 24 #[.int .i64 xd,.slice A xt.length c]/\ji W w.heap.size A xt.length c xt/\Below w.heap.size w W) (λa b _=>(intOf b-intOf a).toNat)
   case atStart=>
    exact⟨-(ms:Int),ms,rfl,rfl,by omega,by omega,by omega,⟨1,by omega,SG1.o⟩,⟨-1,by omega,SG2.o⟩,HX1.o,HT2.o,HB1.o⟩
   case round=>
    obtain⟨lo,hi,rfl,rfl,h1,h2,h3,hs1,hs2,hb,ht,hbl⟩:=hrel
    obtain⟨q1,q2,q3,q4⟩:=hb.two
    have hlw:=hb.lt
    have HX3:=ja hb;have HT3:=ja ht;have HB3:=ja hbl
    have HS1:=ja hs1;have HS2:=ja hs2
    clear hb ht hbl hs1 hs2 HX1 HT2 HB1
    by_cases hgt:1<hi-lo
    ·obtain⟨h,hh⟩:∃h,(hi-lo).tdiv 2=h:=⟨_,rfl⟩
     have hh2:2*h<=hi-lo/\hi-lo<=2*h+1:=by
      rw[<-hh,Int.tdiv_eq_ediv_of_nonneg (by omega)];omega
     obtain⟨mid,hmid⟩:∃mid,lo+h=mid:=⟨_,rfl⟩
     have hmr:lo<mid/\mid<hi:=by omega
     have hmx:-400000000000000000<=mid*xd/\mid*xd<=400000000000000000:=by
      have h4:(mid*(xd:Int)).natAbs<=ms*xd:=by
       rw[Int.natAbs_mul,Int.natAbs_natCast]
       exact Nat.mul_le_mul_right _ (by omega)
      omega
     have HL:=ja (HLS.o mid wr ⟨by omega,by omega,hmx⟩ HT3.o (by omega))
     have HSM:=ja (HSI.o mid hmx)
     have hq1:=λo=>((HX3.o.alloc o).two).1
     have HBa:=ja (HB3.o.alloc HB3.o.size (.cells #[.int .i64 mid,.int .i64 1] 59))
     have HXa:=ja (HX3.o.alloc (.cells #[.int .i64 mid,.int .i64 1] 59))
     have HTa:=ja (Rd.alloc HT3.o (by omega) (.cells #[.int .i64 mid,.int .i64 1] 59))
     clear HLS HSI
     go_wp2_with (first
      | (go_at_call 94;refine HL.o.mono ?_;rintro e w2 ⟨A2,n2,c2,l2,rfl,ht2,hp2,hb2⟩;have HT2:=ja ht2;have HP2:=ja hp2;have HB2:=ja hb2;clear ht2 hp2 hb2)
      | (go_at_call 69;refine(HSM.o _ HP2.o _ _ _ _ _ HT2.o (Nat.le_refl _)).mono ?_;rintro e w3 ⟨s,rfl,hs,hb3⟩;have HS:=ja hs;have HB4:=ja hb3;clear hs hb3))
     have hz2:=HB2.o.size
     simp only[World.size_alloc] at hz2
     have HB23:Hid (Below (wr.heap.size+1) (wr.alloc (.cells #[.int .i64 mid,.int .i64 1] 59)) w3):=ja (by
      have h5:=HB2.o
      rw[World.size_alloc] at h5
      exact h5.trans (HB4.o.mono (by omega)))
     have HX4:=ja (HXa.o.below HB23.o (by omega))
     have HT4:=ja (Rd.below HTa.o (HB23.o.mono (by omega)))
     have HB5:=ja (HBa.o.trans (HB23.o.mono (by omega)))
     ·exact⟨⟨mid,hi,rfl,rfl,by omega,by omega,h3,⟨s,by assumption,HS.o⟩,HS2.o,HX4.o,HT4.o,HB5.o⟩,by simp[intOf];omega⟩
     have hz2:=HB2.o.size
     simp only[World.size_alloc] at hz2
     have HB23:Hid (Below (wr.heap.size+1) (wr.alloc (.cells #[.int .i64 mid,.int .i64 1] 59)) w3):=ja (by
      have h5:=HB2.o
      rw[World.size_alloc] at h5
      exact h5.trans (HB4.o.mono (by omega)))
     have HX4:=ja (HXa.o.below HB23.o (by omega))
     have HT4:=ja (Rd.below HTa.o (HB23.o.mono (by omega)))
     have HB5:=ja (HBa.o.trans (HB23.o.mono (by omega)))
     ·exact⟨⟨lo,mid,rfl,rfl,by omega,by omega,by omega,HS1.o,⟨s,by omega,HS.o⟩,HX4.o,HT4.o,HB5.o⟩,by simp[intOf];omega⟩
    ·go_wp2
     go_ret
     have hhi:hi=lo+1:=by omega
     subst hhi
     have h4:(lo*(xd:Int)).natAbs<=ms*xd:=by
      rw[Int.natAbs_mul,Int.natAbs_natCast]
      exact Nat.mul_le_mul_right _ (by omega)
     exact⟨lo,rfl,⟨HS1.o,HS2.o,⟨by omega,by omega⟩,by omega,by omega⟩,HB3.o⟩
def qc(xd:Int)(xt:List (Int×Int))(den low high c:Int):Prop:=
 (js xd xt=false/\low=0/\high=0/\c=2)\/(js xd xt=true/\zz den 1 1000000000=false/\low=0/\high=0/\c=3) \/
  (js xd xt=true/\zz den 1 1000000000=true/\c=0/\jd0 xd xt den low/\((∃s,0<s/\jA (zO xt den [(low,1)] xd) s)/\high=low+1\/jA (zO xt den [(low,1)] xd) 0/\high=low))
theorem jd5 (xd:Int) (A:Option Addr) (n c:Nat) (xt:List (Int×Int)) (den:Int) (B:Nat) (w:World) (hx:ji w B A n c xt) (hB:B<=w.heap.size) :
  Calls Tryz.prog 47 #[.agg #[.int .i64 xd,.slice A n c],.int .i64 den] w λe w'=>∃low high c,e=.returned (.tuple #[.int .i64 low,.int .i64 high,.int .i64 c])/\qc xd xt den low high c/\Below w.heap.size w w':=by
 have HV:=ja (zd7 xd A n c xt B (w.alloc (.cells #[.int .i64 xd,.slice A n c] 24)) (Rd.alloc hx hB _) (by simp;omega))
 have HT0:=ja (Rd.alloc hx hB (.cells #[.int .i64 xd,.slice A n c] 24))
 have HX0:=ja (jh.new w 24 #[.int .i64 xd,.slice A n c])
 have HB0:=ja ((Below.refl w.heap.size w).alloc (Nat.le_refl _) (.cells #[.int .i64 xd,.slice A n c] 24))
 simp only[World.size_alloc] at HV
 clear hx
 go_enter Tryz.func47,Tryz.ntmps47
 go_wp2_with fail
 refine HV.o.mono ?_
 rintro e w1 ⟨rfl,hb1⟩
 (try simp only[World.size_alloc] at hb1)
 have HX1:=ja (HX0.o.below hb1 (by omega))
 have HT1:=ja (HT0.o.below (hb1.mono (by omega)))
 have HB1:=ja (HB0.o.trans (hb1.mono (by omega)))
 have hz1:=hb1.size
 (try simp only[World.size_alloc] at hz1)
 obtain⟨q1,q2,q3,q4⟩:=HX1.o.two
 clear HV HX0 HT0 HB0 hb1
 cases hok:js xd xt
 ·go_wp2
  go_ret3
  exact⟨0,0,2,rfl,.inl ⟨hok,rfl,rfl,rfl⟩,HB1.o⟩
 ·have HOK:=ja hok
  clear hok
  cases hd:zz den 1 1000000000
  ·have HD:=ja hd
   clear hd
   go_wp2_with (first
    | (go_at_call 60;refine(zj _ _ _ _).mono ?_;rintro e w2 ⟨rfl,rfl⟩;rw[HD.o]))
   go_ret3
   exact⟨0,0,3,rfl,.inr (.inl ⟨HOK.o,HD.o,rfl,rfl,rfl⟩),HB1.o⟩
  ·have HD:=ja hd
   have hd2:1<=den/\den<=1000000000:=by simpa [zz] using hd
   obtain⟨px1,px2,px3,px4⟩:=jz HOK.o
   have hro:=(Jd HOK.o).1
   have hbx:∀t∈xt,-400000000000000000<=t.1*den/\t.1*den<=400000000000000000:=λt ht=>by
    have:=jE (a:=t.1) (b:=den) (A:=100000) (B:=1000000000) (px4 t ht).1.2.2.2 ⟨by omega,by omega⟩
    omega
   obtain⟨xdn,hxdn⟩:=Int.eq_ofNat_of_zero_le (show 0<=xd by omega)
   obtain⟨dn,hdn⟩:=Int.eq_ofNat_of_zero_le (show 0<=den by omega)
   subst hxdn
   subst hdn
   have HBL:=ja (jbk5 xdn A n c xt dn B w1 HT1.o (by omega) HOK.o (by omega) (by omega))
   have HLS:=ja (λ(mid:Int) (W:World) (hmid:-400000000000000000<=mid*xdn/\mid*xdn<=400000000000000000) (h:ji W B A n c xt) (hW:B<=W.heap.size)=>
    zk7 A n c xt dn (some ⟨W.heap.size,0,none⟩) 1 1 [(mid,1)] xdn (W.heap.size+1) (W.alloc (.cells #[.int .i64 mid,.int .i64 1] 59)) (Rd.more (Rd.alloc h hW _) (by omega)) (jaa6 W mid) (by simp) px3 (by simp) hbx (λt ht=>by
     simp only[List.mem_singleton] at ht;subst ht;exact hmid))
   have HSI:=ja (λ(mid:Int) (hmid:-400000000000000000<=mid*xdn/\mid*xdn<=400000000000000000) l hp B A n c w h hB=>jz0 (l:=l) (yt:=[(mid,1)]) hp hro (λt ht=>by simp only[List.mem_singleton] at ht;subst ht;exact jn8) px3 (by simp) hbx (λt ht=>by simp only[List.mem_singleton] at ht;subst ht;exact hmid) B A n c w h hB)
   have HBD:=ja (λr (hr:jd0 xdn xt dn r)=>hr.2.2)
   clear hd px4 hro hbx px1 px3
   go_wp2_with (first
    | (go_at_call 60;refine(zj _ _ _ _).mono ?_;rintro e w2 ⟨rfl,rfl⟩;rw[HD.o])
    | (go_at_call 93;refine HBL.o.mono ?_;rintro e w2 ⟨r,rfl,hr,hb2⟩;have HR:=ja hr;have HB2:=ja hb2;clear hr hb2
       have hrb:=(HBD.o r HR.o).1
       have hrx:-400000000000000000<=r*xdn/\r*xdn<=400000000000000000:=(HBD.o r HR.o).2
       have HX2:=ja (HX1.o.below HB2.o HX1.o.lt)
       have HT2:=ja (HT1.o.below (HB2.o.mono (by omega)))
       have hz2:=HB2.o.size
       have hqa:=λo=>((HX2.o.alloc o).two).1
       obtain⟨u1,u2,u3,u4⟩:=HX2.o.two
       have HL:=ja (HLS.o r w2 hrx HT2.o (by omega))
       have HSM:=ja (HSI.o r hrx)
       have HB3:=ja ((HB1.o.trans (HB2.o.mono (by omega))).alloc (by omega) (.cells #[.int .i64 r,.int .i64 1] 59)))
    | (go_at_call 94;refine HL.o.mono ?_;rintro e w3 ⟨A2,n2,c2,l2,rfl,ht2,hp2,hb2⟩;have HT3:=ja ht2;have HP3:=ja hp2;have HB4:=ja hb2;clear ht2 hp2 hb2)
    | (go_at_call 69;refine(HSM.o _ HP3.o _ _ _ _ _ HT3.o (Nat.le_refl _)).mono ?_;rintro e w4 ⟨s,rfl,hs,hb3⟩;have HS:=ja hs;have HB5:=ja hb3;clear hs hb3))
   all_goals
    have hz3:=HB4.o.size
    simp only[World.size_alloc] at hz3
    have hB6:Below w.heap.size w w4:=(HB3.o.trans (HB4.o.mono (by simp;omega))).trans (HB5.o.mono (by omega))
    go_ret3
   ·exact⟨r,r+1,0,rfl,.inr (.inr ⟨HOK.o,HD.o,rfl,HR.o,.inl ⟨⟨s,by assumption,HS.o⟩,rfl⟩⟩),hB6⟩
   ·refine⟨r,r,0,rfl,.inr (.inr ⟨HOK.o,HD.o,rfl,HR.o,.inr ⟨?_,rfl⟩⟩),hB6⟩
    obtain⟨s2,h1,h2⟩:=HR.o.1
    have h3:=jA.unique h2 HS.o
    have:s=0:=by omega
    rw[<-this];exact HS.o
theorem Zp{a r s:Int}(h:jA [(a,r)] s):(a=0/\s=0)\/(0<a/\s=1)\/(a<0/\s=-1):=by
 unfold jA at h
 by_cases h0:a=0
 ·subst h0
  rcases h with⟨_,h⟩|⟨h,_⟩
  ·exact .inl ⟨rfl,h⟩
  ·simp[JA] at h
 ·have hf:[(a,r)].filter JA=[(a,r)]:=by simp[JA,h0]
  rw[hf] at h
  rcases h with⟨h,_⟩|⟨_,hs,k,hk⟩
  ·simp at h
  ·unfold jy at hk
   rcases Int.lt_or_le a 0 with ha|ha
   ·right;right
    simp only[Jh,zv,Jg,zw,List.map_cons,List.map_nil,ha,if_true,List.sum_cons,List.sum_nil,Nat.add_zero] at hk
    rw[if_neg (by omega)] at hk
    split at hk
    ·exact⟨ha,hk.symm⟩
    ·exact absurd hk.symm hs
   ·right;left
    have hna:¬a<0:=by omega
    simp only[Jh,zv,Jg,zw,List.map_cons,List.map_nil,hna,if_false,List.sum_cons,List.sum_nil,Nat.add_zero] at hk
    split at hk
    ·exact⟨by omega,hk.symm⟩
    ·rw[if_neg (by omega)] at hk
     exact absurd hk.symm hs
theorem zn7{a b r s:Int}(ha:0<a)(hb:b<0)(hr:0<r)(h:jA [(a,1),(b,r)] s):(s=1/\b.natAbs*b.natAbs*r.toNat<a.natAbs*a.natAbs)\/(s=-1/\a.natAbs*a.natAbs<b.natAbs*b.natAbs*r.toNat):=by
 unfold jA at h
 have hf:[(a,1),(b,r)].filter JA=[(a,1),(b,r)]:=by
  have h1:a≠0:=by omega
  have h2:b≠0:=by omega
  simp[JA,h1,h2]
 rw[hf] at h
 rcases h with⟨h,_⟩|⟨_,hs,k,hk⟩
 ·simp at h
 ·unfold jy at hk
  have hna:¬a<0:=by omega
  simp only[Jh,zv,Jg,zw,List.map_cons,List.map_nil,hna,hb,if_false,if_true,List.sum_cons,List.sum_nil,Nat.add_zero,Nat.zero_add] at hk
  have hbp:=Zh k
  generalize hB:bits k*bits k=BB at *
  have hBB:0<BB:=by rw[<-hB];exact Nat.mul_pos hbp hbp
  have ea:Zv (a,1) k=a.natAbs*a.natAbs*BB:=by unfold Zv sqT;rw[hB];simp
  have eb:Zv (b,r) k=b.natAbs*b.natAbs*r.toNat*BB:=by unfold Zv sqT;rw[hB]
  split at hk
  ·rename_i hlt
   refine .inl ⟨hk.symm,?_⟩
   unfold Jr zh at hlt
   rw[ea,eb] at hlt
   have h1:=js6 (b.natAbs*b.natAbs*r.toNat*BB)
   have h2:=(qe (a.natAbs*a.natAbs*BB)).le
   have h3:=Nat.mul_lt_mul_of_lt_of_lt hlt hlt
   have h4:b.natAbs*b.natAbs*r.toNat*BB<a.natAbs*a.natAbs*BB:=by omega
   exact Nat.lt_of_mul_lt_mul_right h4
  ·split at hk
   ·rename_i _ hlt
    refine .inr ⟨hk.symm,?_⟩
    unfold Jr zh at hlt
    rw[ea,eb] at hlt
    have h1:=js6 (a.natAbs*a.natAbs*BB)
    have h2:=(qe (b.natAbs*b.natAbs*r.toNat*BB)).le
    have h3:=Nat.mul_lt_mul_of_lt_of_lt hlt hlt
    have h4:a.natAbs*a.natAbs*BB<b.natAbs*b.natAbs*r.toNat*BB:=by omega
    exact Nat.lt_of_mul_lt_mul_right h4
   ·exact absurd hk.symm hs
theorem jcf1{a b r s:Int}(ha:a<=0)(hb:b<0)(h:jA [(a,1),(b,r)] s):s=-1:=by
 by_cases h0:a=0
 ·subst h0
  have h2:jA [(b,r)] s:=by
   unfold jA at h ⊢
   rw[show [((0:Int),(1:Int)),(b,r)].filter JA=[(b,r)].filter JA by simp[JA]] at h
   exact h
  rcases Zp h2 with⟨h4,_⟩|⟨h4,_⟩|⟨_,h4⟩
  ·omega
  ·omega
  ·exact h4
 ·unfold jA at h
  have hf:[(a,1),(b,r)].filter JA=[(a,1),(b,r)]:=by
   have h2:b≠0:=by omega
   simp[JA,h0,h2]
  rw[hf] at h
  rcases h with⟨h,_⟩|⟨_,hs,k,hk⟩
  ·simp at h
  ·unfold jy at hk
   have hna:a<0:=by omega
   simp only[Jh,zv,Jg,zw,List.map_cons,List.map_nil,hna,hb,if_true,List.sum_cons,List.sum_nil,Nat.add_zero] at hk
   rw[if_neg (by omega)] at hk
   split at hk
   ·exact hk.symm
   ·exact absurd hk.symm hs
theorem jan6(a b m v k:Int):zO [(a,1),(b,2)] m [(v,1)] k=[(a*m+v*-k,1),(b*m,2)]:=by
 rfl
theorem js7(a m v k:Int):zO [(a,1)] m [(v,1)] k=[(a*m+v*-k,1)]:=by
 rfl
theorem jbj7(x:Int):∃q,IntKind.i64.wrap x=x+q*18446744073709551616:=⟨-((x+9223372036854775808)/18446744073709551616),by rw[IntKind.wrap_i64];omega⟩
theorem jav5(z r:Int):IntKind.i64.wrap (z+r*18446744073709551616)=IntKind.i64.wrap z:=by rw[IntKind.wrap_i64,IntKind.wrap_i64];omega
theorem jcm4(x y:Int):IntKind.i64.wrap (IntKind.i64.wrap x*y)=IntKind.i64.wrap (x*y):=by
 obtain⟨q,hq⟩:=jbj7 x
 rw[hq,Int.add_mul,Int.mul_right_comm,jav5]
theorem jbf5(x y:Int):IntKind.i64.wrap (x+IntKind.i64.wrap y)=IntKind.i64.wrap (x+y):=by
 obtain⟨q,hq⟩:=jbj7 y
 rw[hq,<-Int.add_assoc,jav5]
def mulK(t u:Int×Int):Int:=((t.2.toNat/jM [t.2,u.2]*(u.2.toNat/jM [t.2,u.2]):Nat):Int)
def jc6(t u:Int×Int):Int:=t.1*u.1*(jM [t.2,u.2]:Int)
def Zo(kv:List (Int×Int))(t:Int×Int)(b:List (Int×Int)):List (Int×Int):=b.foldl (λkv u=>addS kv (mulK t u) (jc6 t u)) kv
def Jq(kv a b:List (Int×Int)):List (Int×Int):=a.foldl (λkv t=>Zo kv t b) kv
theorem jbc2(kv:List (Int×Int))(t:Int×Int)(b:List (Int×Int))(u:Int×Int):Zo kv t (b++[u])=addS (Zo kv t b) (mulK t u) (jc6 t u):=by simp[Zo,List.foldl_append]
theorem jbc3(kv a b:List (Int×Int))(t:Int×Int):Jq kv (a++[t]) b=Zo (Jq kv a b) t b:=by simp[Jq,List.foldl_append]
theorem zm9 {N:Int} (hN:0<=N) (t:Int×Int):∀(b kv:List (Int×Int)) (M:Int),zB kv M->(∀u∈b,-N<=jc6 t u/\jc6 t u<=N)->zB (Zo kv t b) (M+b.length*N)
 | [],kv,M,h,_=>by simpa [Zo] using h
 | u::b,kv,M,h,hl=>by
  have h1:=zB.addS h (hl u (by simp)) (mulK t u)
  have h2:=zm9 hN t b _ _ h1 (λu hu=>hl u (List.mem_cons_of_mem _ hu))
  simp only[Zo,List.foldl_cons,List.length_cons] at h2 ⊢
  refine h2.mono ?_
  rw[Int.natCast_add,Int.add_mul];simp;omega
theorem jt6 {N:Int} (hN:0<=N) (b:List (Int×Int)):∀(a kv:List (Int×Int)) (M:Int),zB kv M->(∀t∈a,∀u∈b,-N<=jc6 t u/\jc6 t u<=N)->zB (Jq kv a b) (M+a.length*(b.length*N))
 | [],kv,M,h,_=>by simpa [Jq] using h
 | t::a,kv,M,h,hl=>by
  have h1:=zm9 hN t b kv M h (hl t (by simp))
  have h2:=jt6 hN b a _ _ h1 (λt ht=>hl t (List.mem_cons_of_mem _ ht))
  simp only[Jq,List.foldl_cons,List.length_cons] at h2 ⊢
  refine h2.mono ?_
  rw[Int.natCast_add,Int.add_mul];simp;omega
theorem zz8 (t:Int×Int):∀(b kv:List (Int×Int)),(Zo kv t b).length<=kv.length+b.length
 | [],kv=>by simp[Zo]
 | u::b,kv=>by
  have h1:=jd4 kv (mulK t u) (jc6 t u)
  have h2:=zz8 t b (addS kv (mulK t u) (jc6 t u))
  simp only[Zo,List.foldl_cons,List.length_cons] at h2 ⊢
  omega
theorem za2 (b:List (Int×Int)):∀(a kv:List (Int×Int)),(Jq kv a b).length<=kv.length+a.length*b.length
 | [],kv=>by simp[Jq]
 | t::a,kv=>by
  have h1:=zz8 t b kv
  have h2:=za2 b a (Zo kv t b)
  simp only[Jq,List.foldl_cons,List.length_cons] at h2 ⊢
  rw[Nat.add_mul];omega
theorem jbm6(w:World)(x y:Int):qP (w.alloc (.cells #[.int .i64 x,.int .i64 y] 3)) (w.heap.size+1) (some ⟨w.heap.size,0,none⟩) 2 2 [x,y]:=by
 have h:=Rd.of_own (World.ownsRow_lit (base:=0) (e:=3) (size:=1) w #[.int .i64 x,.int .i64 y] 2 (Nat.zero_le _) (by unfold maxLen;omega) rfl)
 rw[World.size_alloc] at h
 exact h
theorem jcj2{a L j k:Nat}{N X:Int}(hN:0<=N)(hj:j<a)(hk:k<L)(h:(a:Int)*((L:Int)*N)<=X):0+(j:Int)*((L:Int)*N)+(k:Int)*N<=X-N:=by
 have h1:((k:Int)+1)*N<=(L:Int)*N:=Int.mul_le_mul_of_nonneg_right (by omega) hN
 have h2:((j:Int)+1)*((L:Int)*N)<=(a:Int)*((L:Int)*N):=Int.mul_le_mul_of_nonneg_right (by omega) (Int.mul_nonneg (by omega) hN)
 rw[Int.add_mul,Int.one_mul] at h1 h2
 omega
theorem jcb5(c d:Int)(r1 r2:Nat):mulK (c,(r1:Int)) (d,(r2:Int))=((r1/jM [(r1:Int),(r2:Int)]*(r2/jM [(r1:Int),(r2:Int)]):Nat):Int):=by
 unfold mulK;rw[Int.toNat_natCast,Int.toNat_natCast]
theorem zd0 (xA:Option Addr) (xn xc:Nat) (xt:List (Int×Int)) (yA:Option Addr) (yn yc:Nat) (yt:List (Int×Int)) (B:Nat) (w:World) (hx:ji w B xA xn xc xt) (hy:ji w B yA yn yc yt) (hB:B<=w.heap.size)
  (hlx:xt.length<=4) (hly:yt.length<=4) (N:Int) (hN:0<=N) (hNN:xt.length*(yt.length*N)<=9000000000000000000) (hrx:∀t∈xt,1<=t.2/\t.2<=1000) (hry:∀t∈yt,1<=t.2/\t.2<=1000) (hcx:∀t∈xt,∀u∈yt,(-N<=jc6 t u/\jc6 t u<=N)/\-9000000000000000000<=t.1*u.1/\t.1*u.1<=9000000000000000000) :
  Calls Tryz.prog 79 #[.slice xA xn xc,.slice yA yn yc] w λe w'=>e=.returned (.map (some w.heap.size))/\zH w' w.heap.size (Jq [] xt yt)/\Below w.heap.size w w':=by
 have hlx':=hx.len
 have hly':=hy.len
 subst hlx'
 subst hly'
 have HRX:=ja hrx;have HRY:=ja hry;have HCX:=ja hcx
 have HX:=ja (Rd.alloc hx hB (.map #[] 0));have HY:=ja (Rd.alloc hy hB (.map #[] 0))
 have HM0:Hid (zH (w.alloc (.map #[] 0)) w.heap.size []):=ja (jt.new w)
 have HB0:=ja ((Below.refl w.heap.size w).alloc (Nat.le_refl _) (.map #[] 0))
 clear hrx hry hcx hx hy
 go_enter Tryz.func79,Tryz.ntmps79
 go_wp2_with (first
  | (refine zi _ rfl _ rfl ?_))
 go_loopw [14] (λi W=>∃j:Nat,j<=xt.length/\i=.int .i64 j/\zH W w.heap.size (Jq [] (xt.take j) yt)/\ji W B xA xt.length xc xt/\ji W B yA yt.length yc yt/\Below w.heap.size w W) (λi _=>xt.length-(intOf i).toNat)
 case atStart=>exact⟨0,by omega,rfl,HM0.o,HX.o,HY.o,HB0.o⟩
 case round=>
  obtain⟨j,hj,rfl,hm,hx,hy,hb⟩:=hrel
  have hlm:=jt.lt hm
  by_cases hlt:j<xt.length
  ·obtain⟨ad,had,hc0,hc1⟩:=hx.at_ hlt
   subst had
   have hbt:=HRX.o xt[j] (List.getElem_mem hlt)
   have hS:=ja (show Jq [] (xt.take (j+1)) yt=Zo (Jq [] (xt.take j) yt) xt[j] yt by rw[jw _ j hlt,jbc3])
   have hbd:=jt6 hN yt (xt.take j) [] 0 zB.nil (λt ht=>λu hu=>(HCX.o t (List.mem_of_mem_take ht) u hu).1)
   have hcc:=HCX.o xt[j] (List.getElem_mem hlt)
   have htl:((xt.take j).length:Int)=j:=by simp;omega
   rw[htl] at hbd
   generalize xt[j]=t at *
   obtain⟨co,ro⟩:=t
   dsimp only at hc0 hc1 hbt hcc
   obtain⟨r1,rfl⟩:=Int.eq_ofNat_of_zero_le (show 0<=ro by omega)
   have HCC:=ja hcc
   have HBD:=ja hbd
   have HX1:=ja (Rd.alloc hx (by omega) (.cells #[.int .i64 co,.int .i64 (r1:Int)] 59))
   have HY1:=ja (Rd.alloc hy (by omega) (.cells #[.int .i64 co,.int .i64 (r1:Int)] 59))
   have HB1:=ja (hb.alloc hb.size (.cells #[.int .i64 co,.int .i64 (r1:Int)] 59))
   have HM1:Hid (zH (wr.alloc (.cells #[.int .i64 co,.int .i64 (r1:Int)] 59)) w.heap.size (Jq [] (xt.take j) yt)):=ja (jt.alloc hm _)
   have HT1:=ja (jh.new wr 59 #[.int .i64 co,.int .i64 (r1:Int)])
   obtain⟨P,hP⟩:∃P,P=wr.heap.size:=⟨_,rfl⟩
   rw[<-hP] at HT1
   have hPm:w.heap.size<P:=by omega
   generalize Jq [] (xt.take j) yt=kv at *
   clear hcc hbd hx hy hb hm hlm HX HY HM0 HB0 htl
   go_wp2
   rw[<-hP]
   clear hP
   go_loopw [20] (λi W=>∃k:Nat,k<=yt.length/\i=.int .i64 k/\zH W w.heap.size (Zo kv (co,(r1:Int)) (yt.take k))/\jh W P 59 #[.int .i64 co,.int .i64 (r1:Int)]/\ji W B (some ad) xt.length xc xt/\ji W B yA yt.length yc yt/\Below w.heap.size w W) (λi _=>yt.length-(intOf i).toNat)
   case atStart=>exact⟨0,by omega,rfl,HM1.o,HT1.o,HX1.o,HY1.o,HB1.o⟩
   case round=>
    obtain⟨k,hk,rfl,hm,hT,hx,hy,hb⟩:=hrel
    have hlP:=hT.lt
    by_cases hlt2:k<yt.length
    ·obtain⟨ad2,had2,hd0,hd1⟩:=hy.at_ hlt2
     subst had2
     have hbu:=HRY.o yt[k] (List.getElem_mem hlt2)
     have hS2:=ja (show Zo kv (co,(r1:Int)) (yt.take (k+1))=addS (Zo kv (co,(r1:Int)) (yt.take k)) (mulK (co,(r1:Int)) yt[k]) (jc6 (co,(r1:Int)) yt[k]) by rw[jw _ k hlt2,jbc2])
     have hcu:=HCC.o yt[k] (List.getElem_mem hlt2)
     have hbd2:=zm9 hN (co,(r1:Int)) (yt.take k) kv _ HBD.o (λu hu=>(HCC.o u (List.mem_of_mem_take hu)).1)
     have hul:((yt.take k).length:Int)=k:=by simp;omega
     rw[hul] at hbd2
     have hbd3:zB (Zo kv (co,(r1:Int)) (yt.take k)) (9000000000000000000-N):=hbd2.mono (jcj2 hN hlt hlt2 hNN)
     generalize yt[k]=u at *
     obtain⟨cu,ru⟩:=u
     dsimp only at hd0 hd1 hbu hcu
     obtain⟨r2,rfl⟩:=Int.eq_ofNat_of_zero_le (show 0<=ru by omega)
     have hmk:=jcb5 co cu r1 r2
     have hmc:jc6 (co,(r1:Int)) (cu,(r2:Int))=co*cu*(jM [(r1:Int),(r2:Int)]:Int):=rfl
     rw[hmk,hmc] at hS2
     rw[hmc] at hcu
     have hg0:1<=jM [(r1:Int),(r2:Int)]:=ZK (x:=(r1:Int)) (by simp) (by omega)
     have hg1:jM [(r1:Int),(r2:Int)]<=r1:=by
      have:=qT [(r1:Int),(r2:Int)] (r1:Int) (by simp)
      rw[Int.natAbs_natCast] at this
      exact Nat.le_of_dvd (by omega) this
     obtain⟨wa,hwa⟩:∃wa,wa=wr.alloc (.cells #[.int .i64 cu,.int .i64 (r2:Int)] 59):=⟨_,rfl⟩
     have hza:wa.heap.size=wr.heap.size+1:=by rw[hwa];simp
     obtain⟨wb,hwb⟩:∃wb,wb=wa.alloc (.cells #[.int .i64 (r1:Int),.int .i64 (r2:Int)] 3):=⟨_,rfl⟩
     have hzb:wb.heap.size=wr.heap.size+2:=by rw[hwb];simp;omega
     have hbab:Below wr.heap.size wr wb:=by rw[hwb,hwa];exact((Below.refl _ _).alloc (Nat.le_refl _) _).alloc (by simp) _
     have HDV:=ja (jd9 (some ⟨wa.heap.size,0,none⟩) 2 2 _ [(r1:Int),(r2:Int)] wb (by rw[hwb];exact jbm6 wa _ _) (by intro x hx;simp at hx;rcases hx with rfl|rfl<;>omega))
     rw[hza] at HDV
     have HMb:Hid (jt wb w.heap.size (zM (Zo kv (co,(r1:Int)) (yt.take k)))):=ja (jt.below hm hbab (by omega))
     have HTb:=ja (hT.below hbab hlP)
     have HUb:Hid (jh wb wr.heap.size 59 #[.int .i64 cu,.int .i64 (r2:Int)]):=ja (by rw[hwb,hwa];exact(jh.new wr _ _).alloc _)
     have HXb:=ja (Rd.below hx (hbab.mono (by omega)))
     have HYb:=ja (Rd.below hy (hbab.mono (by omega)))
     have HBb:=ja (hb.trans (hbab.mono (by omega)))
     have ht1:∀o,(wr.alloc o).cell? ⟨P,1,none⟩=some (.int .i64 (r1:Int)):=λo=>(hT.alloc o).cell 1
     have hgs:=hbd3 (((r1/jM [(r1:Int),(r2:Int)]*(r2/jM [(r1:Int),(r2:Int)]):Nat):Int))
     have HU:=ja (jg7 (Zo kv (co,(r1:Int)) (yt.take k)) ((r1/jM [(r1:Int),(r2:Int)]*(r2/jM [(r1:Int),(r2:Int)]):Nat):Int) (co*cu*(jM [(r1:Int),(r2:Int)]:Int)))
     have HG:=ja (qN (Zo kv (co,(r1:Int)) (yt.take k)) ((r1/jM [(r1:Int),(r2:Int)]*(r2/jM [(r1:Int),(r2:Int)]):Nat):Int))
     generalize jM [(r1:Int),(r2:Int)]=g at *
     have hq1:((r1:Nat):Int).tdiv (g:Int)=((r1/g:Nat):Int):=rfl
     have hq2:((r2:Nat):Int).tdiv (g:Int)=((r2/g:Nat):Int):=rfl
     have hgi:1<=(g:Int):=by omega
     have hgn:((g:Int)==0)=false:=beq_eq_false_iff_ne.2 (by omega)
     have hb1:r1/g<=1000:=Nat.le_trans (Nat.div_le_self _ _) (by omega)
     have hb2:r2/g<=1000:=Nat.le_trans (Nat.div_le_self _ _) (by omega)
     have hb3:r1/g*(r2/g)<=1000*1000:=Nat.mul_le_mul hb1 hb2
     have hqq:((r1/g:Nat):Int)*((r2/g:Nat):Int)=((r1/g*(r2/g):Nat):Int):=(Int.natCast_mul _ _).symm
     generalize r1/g*(r2/g)=key at *
     generalize r1/g=qa at *
     generalize r2/g=qb at *
     have hwr1:IntKind.i64.wrap ((qa:Nat):Int)=(qa:Int):=by rw[IntKind.wrap_i64];omega
     have hwr2:IntKind.i64.wrap ((qb:Nat):Int)=(qb:Int):=by rw[IntKind.wrap_i64];omega
     have hwr3:IntKind.i64.wrap ((key:Nat):Int)=(key:Int):=by rw[IntKind.wrap_i64];omega
     generalize Zo kv (co,(r1:Int)) (yt.take k)=kv2 at *
     generalize zb kv2 (key:Int)=gv at *
     have hcs:-9000000000000000000<=gv+co*cu*(g:Int)/\gv+co*cu*(g:Int)<=9000000000000000000:=by omega
     have hwr4:IntKind.i64.wrap (gv+co*cu*(g:Int))=gv+co*cu*(g:Int):=by rw[IntKind.wrap_i64];omega
     clear hm hT hx hy hb hbab hmk hmc hbd2 hbd3 HM1 HT1 HX1 HY1 HB1 hul
     go_wp2_with fail
     rw[<-hwa,<-hwb]
     clear hwa hwb
     refine HDV.o.mono ?_
     rintro e w9 ⟨rfl,q,rfl⟩
     have HMc:Hid (jt (wb.drewN q) w.heap.size (zM kv2)):=ja HMb.o
     have HTc:=ja (HTb.o.drewN q)
     have HUc:=ja (HUb.o.drewN q)
     have HXc:Hid (ji (wb.drewN q) B (some ad) xt.length xc xt):=ja HXb.o
     have HYc:Hid (ji (wb.drewN q) B (some ad2) yt.length yc yt):=ja HYb.o
     have HBc:=ja (jp HBb.o q)
     have hlm:w.heap.size<(wb.drewN q).heap.size:=HMb.o.lt
     clear HMb HTb HUb HXb HYb HBb HDV
     obtain⟨U,hU⟩:∃U,U=wr.heap.size:=⟨_,rfl⟩
     rw[<-hU] at HUc ⊢
     have hUm:w.heap.size<U:=by omega
     clear hza hzb hU
     generalize wb.drewN q=W at *
     obtain⟨w6,hmu,hm6,hg6,hz6⟩:=QE (P:=Tryz.prog) (jt.drew HMc.o) Tryz.underlying104 Tryz.underlying3 (key:Int) (.int .i64 (gv+co*cu*(g:Int)))
     have hlk:(Instr.lookup 104 (.map (some w.heap.size)) (.int .i64 (key:Int)) false).run Tryz.prog W.drew=.ok (.int .i64 gv) W.drew:=by
      rw[<-HG.o]
      exact qu (jt.drew HMc.o) Tryz.underlying104 Tryz.underlying3 (.int .i64 0) Tryz.zeroValue3 (key:Int)
     rw[HU.o] at hm6
     obtain⟨t1,t2,t3,t4⟩:=HTc.o.two
     obtain⟨v1,v2,v3,v4⟩:=HUc.o.two
     have hT6:=HTc.o.drew.grown hg6 (by simp;omega)
     have hU6:=HUc.o.drew.grown hg6 (by simp;omega)
     have hS6:w6.cell? ⟨P,0,none⟩=some (.int .i64 co)/\w6.cell? ⟨P,1,none⟩=some (.int .i64 (r1:Int))/\w6.cell? ⟨U,0,none⟩=some (.int .i64 cu)/\w6.cell? ⟨U,1,none⟩=some (.int .i64 (r2:Int)):=⟨hT6.cell 0,hT6.cell 1,hU6.cell 0,hU6.cell 1⟩
     have HS6:=ja hS6
     have HT6:=ja hT6
     have HX6:=ja (Rd.grown (Rd.drew HXc.o) hg6 (by show B<=W.heap.size;omega) (λ_ e=>by cases e;omega))
     have HY6:=ja (Rd.grown (Rd.drew HYc.o) hg6 (by show B<=W.heap.size;omega) (λ_ e=>by cases e;omega))
     have HB6:=ja ((Below.drew HBc.o).grown hg6 (by show w.heap.size<=W.heap.size;omega) (λ_ e=>by cases e;exact Nat.le_refl _))
     have HM6:=ja hm6
     have hz6':W.heap.size<=w6.heap.size:=hg6.size
     clear hT6 hU6 hS6 hg6 hz6 hm6
     go_wp2
     have hgz:¬g=0:=by omega
     have hwr6:IntKind.i64.wrap (gv+IntKind.i64.wrap (IntKind.i64.wrap (co*cu)*(g:Int)))=gv+co*cu*(g:Int):=by rw[jcm4,jbf5];exact hwr4
     have HS1:W.drew.cell? ⟨P,0,none⟩=some (.int .i64 co)/\W.drew.cell? ⟨P,1,none⟩=some (.int .i64 (r1:Int))/\W.drew.cell? ⟨U,0,none⟩=some (.int .i64 cu)/\W.drew.cell? ⟨U,1,none⟩=some (.int .i64 (r2:Int)):=⟨t1,t2,v1,v2⟩
     refine jk (λw'=>w'.cell? ⟨P,0,none⟩=some (.int .i64 co)/\w'.cell? ⟨P,1,none⟩=some (.int .i64 (r1:Int))/\w'.cell? ⟨U,0,none⟩=some (.int .i64 cu)/\w'.cell? ⟨U,1,none⟩=some (.int .i64 (r2:Int))) 19 (λw'=>(Instr.lookup 104 (.map (some w.heap.size)) (.int .i64 (key:Int)) false).run Tryz.prog w'=.ok (.int .i64 gv) w') 19 (λw'=>(Instr.lookup 104 (.map (some w.heap.size)) (.int .i64 (key:Int)) false).run Tryz.prog w'=.ok (.int .i64 gv) w') (by kernel_rfl) ⟨HS1,λ_=>hlk,λ_=>hlk⟩ (λjb=>?_)
     revert jb
     refine jtk 0 ?_ ?_ ?_
     rotate_left 1
     focus(intro w' hSw;obtain⟨hC,hF,hG⟩:=hSw;clear hF;clear hG;go_simp;try with_reducible rfl)
     intro jb
     simp only[Act.put,lA,lB,lC]
     revert jb
     refine jtk 1 ?_ ?_ ?_
     rotate_left 1
     focus(intro w' hSw;obtain⟨hC,hF,hG⟩:=hSw;clear hF;clear hG;go_simp;try with_reducible rfl)
     intro jb
     simp only[Act.put,lA,lB,lC]
     revert jb
     refine jtk 2 ?_ ?_ ?_
     rotate_left 1
     focus(intro w' hSw;obtain⟨hC,hF,hG⟩:=hSw;clear hF;clear hG;go_simp;try with_reducible rfl)
     intro jb
     simp only[Act.put,lA,lB,lC]
     revert jb
     refine jtk 3 ?_ ?_ ?_
     rotate_left 1
     focus(intro w' hSw;obtain⟨hC,hF,hG⟩:=hSw;clear hF;clear hG;go_simp;try with_reducible rfl)
     intro jb
     simp only[Act.put,lA,lB,lC]
     revert jb
     refine jtk 4 ?_ ?_ ?_
     rotate_left 1
     focus(intro w' hSw;obtain⟨hC,hF,hG⟩:=hSw;clear hF;clear hG;go_simp;try with_reducible rfl)
     intro jb
     simp only[Act.put,lA,lB,lC]
     revert jb
     refine jtk 5 ?_ ?_ ?_
     rotate_left 1
     focus(intro w' hSw;obtain⟨hC,hF,hG⟩:=hSw;clear hF;clear hG;go_simp;try with_reducible rfl)
     intro jb
     simp only[Act.put,lA,lB,lC]
     revert jb
     refine jtk 6 ?_ ?_ ?_
     rotate_left 1
     focus(intro w' hSw;obtain⟨hC,hF,hG⟩:=hSw;clear hF;clear hG;go_simp;try with_reducible rfl)
     intro jb
     simp only[Act.put,lA,lB,lC]
     revert jb
     refine jtk 7 ?_ ?_ ?_
     rotate_left 1
     focus(intro w' hSw;obtain⟨hC,hF,hG⟩:=hSw;clear hF;clear hG;go_simp;try with_reducible rfl)
     intro jb
     simp only[Act.put,lA,lB,lC]
     revert jb
     refine jtk 8 ?_ ?_ ?_
     rotate_left 1
     focus(intro w' hSw;obtain⟨hC,hF,hG⟩:=hSw;clear hF;clear hG;go_simp;try with_reducible rfl)
     intro jb
     simp only[Act.put,lA,lB,lC]
     revert jb
     refine jtk 9 ?_ ?_ ?_
     rotate_left 1
     focus(intro w' hSw;obtain⟨hC,hF,hG⟩:=hSw;clear hF;clear hG;go_simp;try with_reducible rfl)
     intro jb
     simp only[Act.put,lA,lB,lC]
     revert jb
     refine jtk 10 ?_ ?_ ?_
     rotate_left 1
     focus(intro w' hSw;obtain⟨hC,hF,hG⟩:=hSw;have hF:=hF (by decide +kernel);clear hG;go_simp;try with_reducible rfl)
     intro jb
     simp only[Act.put,lA,lB,lC]
     revert jb
     refine jtk 11 ?_ ?_ ?_
     rotate_left 1
     focus(intro w' hSw;obtain⟨hC,hF,hG⟩:=hSw;clear hF;clear hG;go_simp;try with_reducible rfl)
     intro jb
     simp only[Act.put,lA,lB,lC]
     revert jb
     refine jtk 12 ?_ ?_ ?_
     rotate_left 1
     focus(intro w' hSw;obtain⟨hC,hF,hG⟩:=hSw;clear hF;clear hG;go_simp;try with_reducible rfl)
     intro jb
     simp only[Act.put,lA,lB,lC]
     revert jb
     refine jtk 13 ?_ ?_ ?_
     rotate_left 1
     focus(intro w' hSw;obtain⟨hC,hF,hG⟩:=hSw;clear hF;clear hG;go_simp;try with_reducible rfl)
     intro jb
     simp only[Act.put,lA,lB,lC]
     revert jb
     refine jtk 14 ?_ ?_ ?_
     rotate_left 1
     focus(intro w' hSw;obtain⟨hC,hF,hG⟩:=hSw;clear hF;clear hG;go_simp;try with_reducible rfl)
     intro jb
     simp only[Act.put,lA,lB,lC]
     revert jb
     refine jtk 15 ?_ ?_ ?_
     rotate_left 1
     focus(intro w' hSw;obtain⟨hC,hF,hG⟩:=hSw;clear hF;clear hG;go_simp;try with_reducible rfl)
     intro jb
     simp only[Act.put,lA,lB,lC]
     revert jb
     refine jtk 16 ?_ ?_ ?_
     rotate_left 1
     focus(intro w' hSw;obtain⟨hC,hF,hG⟩:=hSw;clear hF;clear hG;go_simp;try with_reducible rfl)
     intro jb
     simp only[Act.put,lA,lB,lC]
     revert jb
     refine jtk 17 ?_ ?_ ?_
     rotate_left 1
     focus(intro w' hSw;obtain⟨hC,hF,hG⟩:=hSw;clear hF;clear hG;go_simp;try with_reducible rfl)
     intro jb
     simp only[Act.put,lA,lB,lC]
     revert jb
     refine jtk 18 ?_ ?_ ?_
     rotate_left 1
     focus(intro w' hSw;obtain⟨hC,hF,hG⟩:=hSw;clear hF;clear hG;go_simp;try with_reducible rfl)
     intro jb
     simp only[Act.put,lA,lB,lC]
     refine je 19 rfl (by decide +kernel) (λK hK=>?_)
     go_simp
     go_wp2
     refine hK.out _ _ ⟨HS6.o,λh=>absurd h (by decide +kernel),λh=>absurd h (by decide +kernel)⟩ (λjb=>?_)
     clear hK K
     refine jl (by decide +kernel) ?_
     clear jb
     all_goals
      go_wp2
      refine⟨⟨k+1,by omega,by go_num,?_,HT6.o,HX6.o,HY6.o,HB6.o⟩,by simp[intOf];omega⟩
      rw[hS2.o]
      exact HM6.o
    ·obtain rfl:k=yt.length:=by omega
     rw[List.take_length] at hm
     have HM:=ja hm;have HX':=ja hx;have HY':=ja hy;have HB:=ja hb
     clear hm hT hx hy hb HM1 HT1 HX1 HY1 HB1
     go_wp2
     refine⟨⟨j+1,by omega,by go_num,?_,HX'.o,HY'.o,HB.o⟩,by simp[intOf];omega⟩
     rw[hS.o]
     exact HM.o
  ·obtain rfl:j=xt.length:=by omega
   rw[List.take_length] at hm
   have HM:=ja hm;have HB:=ja hb
   clear hm hx hy hb HM0 HX HY HB0
   go_wp2
   go_ret
   exact⟨rfl,HM.o,HB.o⟩
def jc7(xd:Int)(xt:List (Int×Int))(yd:Int)(yt:List (Int×Int)):Int×List (Int×Int)×Int:=
 if(js xd xt&&js yd yt)=true then jY (Jq [] xt yt) (xd*yd)else(0,[],2)
theorem jca7{a b:Nat}(h:a*b<=4*4){N:Int}(hN:0<=N):(a:Int)*((b:Int)*N)<=16*N:=by
 rw[<-Int.mul_assoc,<-Int.natCast_mul]
 exact Int.mul_le_mul_of_nonneg_right (by omega) hN
theorem jcp3{t u:Int×Int}(ht:1<=t.2/\t.2<=1000):(jM [t.2,u.2]:Int)<=1000:=by
 have h:=qT [t.2,u.2] t.2 (by simp)
 have:=Nat.le_of_dvd (by omega) h
 omega
theorem jbh5{t u:Int×Int}{A C:Int}(ht:1<=t.2/\t.2<=1000)(h1:-A<=t.1/\t.1<=A)(h2:-C<=u.1/\u.1<=C):(-(A*C*1000)<=jc6 t u/\jc6 t u<=A*C*1000)/\-(A*C)<=t.1*u.1/\t.1*u.1<=A*C:=by
 have h3:=jE h1 h2
 have h4:=jE h3 (b:=(jM [t.2,u.2]:Int)) (B:=1000) ⟨by omega,jcp3 ht⟩
 exact⟨h4,h3⟩
