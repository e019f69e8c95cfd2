import Derived.Test.YtphcodcdfeohhaaGreatDoorSignDToOrdA
import Derived.Test.YtphcodcdfeohhaaGreatDoorLinAToLinD
set_option linter.unusedVariables false
set_option linter.unusedSimpArgs false
namespace Go.Proofs.YtphcodcdfeohhaaGreatDoor
set_option maxRecDepth 100000
set_option maxHeartbeats 4000000
open Go.RowKit
def zk7(kv:List (Int×Int)):Int:=(kv.map fun p=>if p.1=1 then p.2 else 0).sum
def zn9(kv:List (Int×Int)):Nat:=(kv.map fun p=>if p.1=1 then 0 else p.2.natAbs).sum
theorem jaj3:∀(kv:List (Int×Int)) (r c:Int),zk7 (addS kv r c)=zk7 kv+if r=1 then c else 0
 | [],r,c=>by simp[zk7,addS]
 | (a,x)::t,r,c=>by
  by_cases h:r=a
  ·subst h
   have e:addS ((r,x)::t) r c=(r,x+c)::t:=by simp[addS]
   rw[e]
   simp only[zk7,List.map_cons,List.sum_cons]
   split<;>omega
  ·have ih:=jaj3 t r c
   simp only[addS,if_neg h,zk7,List.map_cons,List.sum_cons] at ih ⊢
   omega
theorem jaj4:∀(kv:List (Int×Int)) (r c:Int),zn9 (addS kv r c)<=zn9 kv+if r=1 then 0 else c.natAbs
 | [],r,c=>by simp[zn9,addS]
 | (a,x)::t,r,c=>by
  by_cases h:r=a
  ·subst h
   have e:addS ((r,x)::t) r c=(r,x+c)::t:=by simp[addS]
   rw[e]
   simp only[zn9,List.map_cons,List.sum_cons]
   split<;>omega
  ·have ih:=jaj4 t r c
   simp only[addS,if_neg h,zn9,List.map_cons,List.sum_cons] at ih ⊢
   omega
theorem jcm6:∀(l kv:List (Int×Int)) (m:Int),(zk7 (jh1 kv l m)).natAbs+zn9 (jh1 kv l m)<=(zk7 kv).natAbs+zn9 kv+(l.map fun t=>(t.1*m).natAbs).sum
 | [],kv,m=>by simp[jh1]
 | t::l,kv,m=>by
  have h:=jcm6 l (addS kv t.2 (t.1*m)) m
  have h1:=jaj3 kv t.2 (t.1*m)
  have h2:=jaj4 kv t.2 (t.1*m)
  simp only[jh1,List.foldl_cons,List.map_cons,List.sum_cons] at h ⊢
  split at h1
  ·rename_i h3
   rw[if_pos h3] at h2;omega
  ·rename_i h3
   rw[if_neg h3] at h2;omega
theorem jdd9(t:Int×Int)(h:t.2=1):jg3 t 0=t.1.natAbs/\jr4 t 0=t.1.natAbs:=by
 unfold jg3 jr4
 rw[jak4,sqT,h]
 rw[show((1:Int)).toNat=1 from rfl,Nat.mul_one]
 exact⟨zs1 _,jck8 _⟩
theorem jcz6(t:Int×Int)(h:t.2<=1000):jr4 t 0<=32*t.1.natAbs:=by
 unfold jr4
 rw[jak4,sqT]
 refine jbt4 ?_
 have h1:t.2.toNat<=1024:=by omega
 have h2:=Nat.mul_le_mul_left (t.1.natAbs*t.1.natAbs) h1
 have e:32*t.1.natAbs*(32*t.1.natAbs)=t.1.natAbs*t.1.natAbs*1024:=by
  rw[Nat.mul_mul_mul_comm,Nat.mul_comm]
 omega
theorem jba1:∀(kv:List (Int×Int)),(∀p∈kv,p.1<=1000) ->
  zk7 kv-32*(zn9 kv:Int)<=(jh5 (kv.map js2) 0:Int)-(jn6 (kv.map js2) 0:Int)/\-zk7 kv-32*(zn9 kv:Int)<=(jh6 (kv.map js2) 0:Int)-(jn5 (kv.map js2) 0:Int)
 | [],_=>by simp[zk7,zn9,jh5,jn6,jh6,jn5]
 | (r,c)::kv,h=>by
  have ih:=jba1 kv (fun p hp=>h p (List.mem_cons_of_mem _ hp))
  have hr:r<=1000:=h (r,c) (by simp)
  have h32:=jcz6 (c,r) hr
  have h1:=jdd9 (c,r)
  unfold zk7 zn9 jh5 jn6 jh6 jn5 at *
  simp only[List.map_cons,List.sum_cons,js2] at ih ⊢
  dsimp only at h32 h1
  by_cases hr1:r=1
  ·obtain⟨g1,g2⟩:=h1 hr1
   rw[if_pos hr1,if_pos hr1,g1,g2]
   split<;>omega
  ·rw[if_neg hr1,if_neg hr1]
   split<;>omega
theorem zd2 (f:Int×Int->Nat) (hf:∀t,nzT t=false->f t=0):∀l:List (Int×Int),((l.filter nzT).map f).sum=(l.map f).sum
 | []=>rfl
 | t::l=>by
  have ih:=zd2 f hf l
  rw[List.filter_cons]
  cases h:nzT t
  ·simp only[Bool.false_eq_true,if_false,List.map_cons,List.sum_cons,hf t h,ih,Nat.zero_add]
  ·simp only[if_true,List.map_cons,List.sum_cons,ih]
theorem jdd0:isq 0=0:=by have:=zs1 0;simpa using this
theorem jcs2:isqU 0=0:=by have:=jck8 0;simpa using this
theorem jad8{t:Int×Int}(h:nzT t=false)(k:Nat):jg3 t k=0/\jr4 t k=0:=by
 have h0:t.1=0:=by simpa [nzT] using h
 unfold jg3 jr4 zf4 sqT
 rw[h0]
 simp[jdd0,jcs2]
theorem jbb0(l:List (Int×Int))(k:Nat):jb9 (l.filter nzT) k=jb9 l k:=by
 unfold jb9 jh5 jn5 jh6 jn6
 rw[zd2 _ (fun t h=>by rw[(jad8 h k).2];split<;>rfl),zd2 _ (fun t h=>by rw[(jad8 h k).1];split<;>rfl),zd2 _ (fun t h=>by rw[(jad8 h k).2];split<;>rfl),zd2 _ (fun t h=>by rw[(jad8 h k).1];split<;>rfl)]
theorem jb3.of_verdict{l:List (Int×Int)}{s:Int}{k:Nat}(h:jb9 l k=s)(hs:s≠0):jb3 l s:=by
 rw[<-jbb0] at h
 refine .inr ⟨fun e=>?_,hs,k,h⟩
 rw[e] at h
 exact hs (by rw[<-h];rfl)
theorem jdj0{kv:List (Int×Int)}(h:∀p∈kv,p.1<=1000)(hg:32*(zn9 kv:Int)<zk7 kv):jb3 (kv.map js2) 1:=by
 have:=(jba1 kv h).1
 exact jb3.of_verdict (k:=0) (jv5 (by omega)) (by decide)
theorem jcy9{kv:List (Int×Int)}(h:∀p∈kv,p.1<=1000)(hg:32*(zn9 kv:Int) < -zk7 kv):jb3 (kv.map js2) (-1):=by
 have:=(jba1 kv h).2
 exact jb3.of_verdict (k:=0) (jv4 (by omega)) (by decide)
def jv8(xd:Nat)(xt:List (Int×Int))(den:Nat):Nat:=2+(xt.map fun t=>(t.1.natAbs*32/xd+1)*den).sum
theorem jcm2 {xd den:Nat} (hd:1<=xd):∀(xt:List (Int×Int)),32*(xt.map fun t=>(t.1*(den:Int)).natAbs).sum<=(xt.map fun t=>(t.1.natAbs*32/xd+1)*den).sum*xd
 | []=>by simp
 | t::xt=>by
  have ih:=jcm2 (den:=den) hd xt
  simp only[List.map_cons,List.sum_cons,Nat.mul_add,Nat.add_mul] at ih ⊢
  have h1:(t.1*(den:Int)).natAbs=t.1.natAbs*den:=by rw[Int.natAbs_mul,Int.natAbs_natCast]
  have h2:=Nat.lt_div_mul_add (a:=t.1.natAbs*32) (b:=xd) (by omega)
  have h3:32*(t.1.natAbs*den)<=t.1.natAbs*32/xd*den*xd+1*den*xd:=by
   have h4:=Nat.mul_le_mul_right den (Nat.le_of_lt h2)
   rw[Nat.add_mul] at h4
   have e1:t.1.natAbs*32/xd*xd*den=t.1.natAbs*32/xd*den*xd:=by rw[Nat.mul_right_comm]
   have e2:xd*den=1*den*xd:=by rw[Nat.one_mul,Nat.mul_comm]
   have e3:t.1.natAbs*32*den=32*(t.1.natAbs*den):=by rw[Nat.mul_right_comm,Nat.mul_comm,Nat.mul_comm 32]
   omega
  rw[h1]
  omega
theorem jab1:jg8 1:=⟨by decide,by decide,fun e he hd=>by have:=Nat.le_of_dvd (by decide) hd;have:=Nat.mul_le_mul he he;simp at *;omega⟩
theorem jcf2 {xd den:Nat} {xt:List (Int×Int)} (hd:1<=xd) (hx:∀t∈xt,jg8 t.2) :
  jb3 (jk5 xt den [(-(jv8 xd xt den:Int),1)] xd) 1/\jb3 (jk5 xt den [((jv8 xd xt den:Int),1)] xd) (-1):=by
 have hk:∀n:Int,∀p∈jr1 xt den [(n,1)] xd,p.1<=1000:=fun n p hp=>by
  have h1:=(jaa4 hx (yt:=[(n,1)]) (fun t ht=>by
   simp only[List.mem_singleton] at ht
   subst ht
   exact jab1) (den:Int) (xd:Int)).2 p.1 (List.mem_map_of_mem hp)
  exact h1.2.1
 have h1:=jcm6 xt [] (den:Int)
 have h2:=jcm2 (den:=den) hd xt
 have e0:zk7 []=0:=rfl
 have e1:zn9 []=0:=rfl
 rw[e0,e1] at h1
 have hm:jv8 xd xt den*xd=2*xd+(xt.map fun t=>(t.1.natAbs*32/xd+1)*den).sum*xd:=by unfold jv8;rw[Nat.add_mul]
 have hone:∀n:Int,zk7 (jr1 xt den [(n,1)] xd)=zk7 (jh1 [] xt den)+n*-(xd:Int):=fun n=>by
  show zk7 (addS (jh1 [] xt den) 1 (n*-(xd:Int)))=_
  rw[jaj3,if_pos rfl]
 have hoth:∀n:Int,zn9 (jr1 xt den [(n,1)] xd)<=zn9 (jh1 [] xt den):=fun n=>by
  have h3:=jaj4 (jh1 [] xt den) 1 (n*-(xd:Int))
  rw[if_pos rfl] at h3
  exact h3
 generalize (xt.map fun t=>(t.1*(den:Int)).natAbs).sum=S at *
 generalize (xt.map fun t=>(t.1.natAbs*32/xd+1)*den).sum*xd=T at *
 constructor
 ·have h3:=hone (-(jv8 xd xt den:Int))
  have h4:=hoth (-(jv8 xd xt den:Int))
  refine jdj0 (hk _) ?_
  rw[h3,Int.neg_mul_neg,<-Int.natCast_mul,hm]
  generalize zk7 (jh1 [] xt den)=g at *
  generalize zn9 (jh1 [] xt den)=o at *
  omega
 ·have h3:=hone (jv8 xd xt den:Int)
  have h4:=hoth (jv8 xd xt den:Int)
  refine jcy9 (hk _) ?_
  rw[h3,Int.mul_neg,<-Int.natCast_mul,hm]
  generalize zk7 (jh1 [] xt den)=g at *
  generalize zn9 (jh1 [] xt den)=o at *
  omega
theorem jdf4{xd den:Nat}{xt:List (Int×Int)}(hl:xt.length<=4)(hd:1<=xd)(hden:den<=1000000000)(hc:∀t∈xt,-100000<=t.1/\t.1<=100000)(hxd:xd<=100000):jv8 xd xt den<=20000000000000000/\jv8 xd xt den*xd<=40000000000000000:=by
 have hone:∀t∈xt,(t.1.natAbs*32/xd+1)*den<=3200001*1000000000/\(t.1.natAbs*32/xd+1)*den*xd<=3300000*1000000000:=fun t ht=>by
  have h1:=hc t ht
  have h2:t.1.natAbs*32/xd<=t.1.natAbs*32:=Nat.div_le_self _ _
  have h3:t.1.natAbs*32/xd*xd<=t.1.natAbs*32:=Nat.div_mul_le_self _ _
  refine⟨Nat.mul_le_mul (by omega) hden,?_⟩
  rw[Nat.mul_right_comm]
  refine Nat.mul_le_mul ?_ hden
  rw[Nat.add_mul];omega
 have h1:=zd3 (fun t:Int×Int=>(t.1.natAbs*32/xd+1)*den) _ xt (fun t ht=>(hone t ht).1)
 have h2:(xt.map fun t=>(t.1.natAbs*32/xd+1)*den).sum*xd<=xt.length*(3300000*1000000000):=by
  have h3:=zb3 (fun t:Int×Int=>(t.1.natAbs*32/xd+1)*den) (fun _=>3300000*1000000000) xd xt (fun t ht=>(hone t ht).2)
  have h4:=zd3 (fun _:Int×Int=>3300000*1000000000) _ xt (fun t ht=>Nat.le_refl _)
  omega
 unfold jv8
 rw[Nat.add_mul]
 have h5:=Nat.mul_le_mul_right (3200001*1000000000) hl
 have h6:=Nat.mul_le_mul_right (3300000*1000000000) hl
 omega
def zp1(xd:Int)(xt:List (Int×Int))(den r:Int):Prop:=
 (∃s,0<=s/\jb3 (jk5 xt den [(r,1)] xd) s)/\(∃s,s<0/\jb3 (jk5 xt den [(r+1,1)] xd) s)/\(-20000000000000000<=r/\r<=20000000000000000)/\-400000000000000000<=r*xd/\r*xd<=400000000000000000
theorem jbh5(w:World)(n:Int):ja3 (w.alloc (.cells #[.int .i64 n,.int .i64 1] 59)) (w.heap.size+1) (some ⟨w.heap.size,0,none⟩) 1 1 [(n,1)]:=by
 have h:=Rd.of_own (World.ownsRow_lit (base:=0) (e:=59) (size:=2) w #[.int .i64 n,.int .i64 1] 1 (Nat.zero_le _) (by unfold maxLen;omega) rfl)
 rw[World.size_alloc] at h
 exact h
theorem jcf1{xt:List (Int×Int)}{k:Nat}{t:Int×Int}(xd den:Nat)(h:xt.take (k+1)=xt.take k++[t]):jv8 xd (xt.take (k+1)) den=jv8 xd (xt.take k) den+(t.1.natAbs*32/xd+1)*den:=by
 unfold jv8
 rw[h,zt2];omega
theorem jb3.range{l:List (Int×Int)}{s:Int}(h:jb3 l s):s=1\/s=-1\/s=0:=by
 rcases h with⟨_,h⟩|⟨_,_,k,h⟩
 ·exact .inr (.inr h)
 ·rw[<-h];exact js3 _ k
theorem jcp1 (xd:Nat) (A:Option Addr) (n c:Nat) (xt:List (Int×Int)) (den:Nat) (B:Nat) (w:World) (hx:ja3 w B A n c xt) (hB:B<=w.heap.size) (hok:ja7 xd xt=true) (hd1:1<=den) (hd2:den<=1000000000) :
  Calls Tryz.prog 93 #[.agg #[.int .i64 xd,.slice A n c],.int .i64 den] w fun e w'=>∃r,e=.returned (.int .i64 r)/\zp1 xd xt den r/\Below w.heap.size w w':=by
 obtain⟨px1,px2,px3,px4⟩:=jb1 hok
 have hro:=(jj2 hok).1
 have hc:∀t∈xt,-100000<=t.1/\t.1<=100000:=fun t ht=>(px4 t ht).1.2.2.2
 have hM:=fun k=>jdf4 (xd:=xd) (den:=den) (xt:=xt.take k) (by simp;omega) (by omega) hd2 (fun t ht=>hc t (List.mem_of_mem_take ht)) (by omega)
 have HM:=ja0 hM
 have HSG:=ja0 (jcf2 (xd:=xd) (den:=den) (by omega) hro)
 have HC:=ja0 hc
 have hl:=hx.len
 subst hl
 have HX0:=ja0 (Blk.new w 24 #[.int .i64 xd,.slice A xt.length c])
 have HT0:=ja0 (Rd.alloc hx hB (.cells #[.int .i64 xd,.slice A xt.length c] 24))
 have HB0:=ja0 ((Below.refl w.heap.size w).alloc (Nat.le_refl _) (.cells #[.int .i64 xd,.slice A xt.length c] 24))
 have hbx:∀t∈xt,-400000000000000000<=t.1*(den:Int)/\t.1*(den:Int)<=400000000000000000:=fun t ht=>by
  have:=jc0 (a:=t.1) (b:=den) (A:=100000) (B:=1000000000) (hc t ht) ⟨by omega,by omega⟩
  omega
 have HLS:=ja0 (fun(mid:Int) (W:World) (hmid:-20000000000000000<=mid/\mid<=20000000000000000/\-400000000000000000<=mid*xd/\mid*xd<=400000000000000000) (h:ja3 W w.heap.size A xt.length c xt) (hW:w.heap.size<=W.heap.size)=>
  jav8 A xt.length c xt den (some ⟨W.heap.size,0,none⟩) 1 1 [(mid,1)] xd (W.heap.size+1) (W.alloc (.cells #[.int .i64 mid,.int .i64 1] 59)) (Rd.more (Rd.alloc h hW _) (by omega)) (jbh5 W mid) (by simp) px3 (by simp) hbx (fun t ht=>by
   simp only[List.mem_singleton] at ht;subst ht;exact hmid.2.2))
 have HSI:=ja0 (fun(mid:Int) (hmid:-400000000000000000<=mid*xd/\mid*xd<=400000000000000000) l hp B A n c w h hB=>jah9 (l:=l) (yt:=[(mid,1)]) hp hro (fun t ht=>by simp only[List.mem_singleton] at ht;subst ht;exact jab1) px3 (by simp) hbx (fun t ht=>by simp only[List.mem_singleton] at ht;subst ht;exact hmid) B A n c w h hB)
 clear hx hok hM hc px4 hro hbx
 go_enter Tryz.func93,Tryz.ntmps93
 go_wp2
 go_loopw [5,14] (fun s i W=>∃k:Nat,k<=xt.length/\i=.int .i64 k/\s=.int .i64 (jv8 xd (xt.take k) den)/\Blk W w.heap.size 24 #[.int .i64 xd,.slice A xt.length c]/\ja3 W B A xt.length c xt/\Below w.heap.size w W) (fun _ i _=>xt.length-(intOf i).toNat)
 case atStart=>exact⟨0,by omega,rfl,rfl,HX0.out,HT0.out,HB0.out⟩
 case round=>
  obtain⟨k,hk,rfl,rfl,hb,ht,hbl⟩:=hrel
  obtain⟨q1,q2,q3,q4⟩:=hb.two
  have HX1:=ja0 hb;have HT1:=ja0 ht;have HB1:=ja0 hbl
  have hlw:=hb.lt
  clear hb ht hbl HX0 HT0 HB0
  by_cases hlt:k<xt.length
  ·obtain⟨ad,had,hc0,hc1⟩:=HT1.out.at_ hlt
   subst had
   have hct:=HC.out xt[k] (List.getElem_mem hlt)
   have HS:=ja0 (jcf1 xd den (jc7 xt k hlt))
   have hm0:=(HM.out k).1
   have hm1:=(HM.out (k+1)).1
   rw[HS.out] at hm1
   generalize xt[k]=t at *
   obtain⟨co,ro⟩:=t
   dsimp only at hc0 hc1 hct HS hm1
   obtain⟨ca,hca⟩:∃ca,ca=co.natAbs:=⟨_,rfl⟩
   have hmx:max co (-co)=(ca:Int):=by omega
   have hca2:ca<=100000:=by omega
   have hqd:((ca:Int)*32).tdiv (xd:Int)=((ca*32/xd:Nat):Int):=by
    rw[show(ca:Int)*32=((ca*32:Nat):Int) by omega]
    rfl
   rw[<-hca] at HS hm1
   have hq2:ca*32/xd<=3200000:=Nat.le_trans (Nat.div_le_self _ _) (by omega)
   generalize ca*32/xd=qq at *
   have hqm:((qq:Int)+1)*(den:Int)=(((qq+1)*den:Nat):Int):=by rw[Int.natCast_mul,Int.natCast_add];rfl
   have HY:=ja0 (fun o=>(HX1.out.alloc o).two)
   have hq1:=fun o=>(HY.out o).1
   generalize (qq+1)*den=pr at *
   generalize jv8 xd (xt.take k) den=ms at *
   clear hca HC HM
   go_wp2
   refine⟨⟨k+1,by omega,by go_num,?_,HX1.out.alloc _,Rd.alloc HT1.out (by omega) _,HB1.out.alloc HB1.out.size _⟩,by simp[intOf];omega⟩
   rw[HS.out];simp
  ·obtain rfl:k=xt.length:=by omega
   rw[List.take_length]
   have hm0:=HM.out xt.length
   rw[List.take_length] at hm0
   obtain⟨sg1,sg2⟩:=HSG.out
   have hm2:2<=jv8 xd xt den:=Nat.le_add_right _ _
   generalize jv8 xd xt den=ms at *
   have SG1:=ja0 sg1;have SG2:=ja0 sg2
   have HT2:Hid (ja3 wr w.heap.size A xt.length c xt):=ja0 (Rd.more HT1.out hB)
   clear sg1 sg2 HC HM HT1 HSG
   go_wp2
   go_loopw [8,9] (fun a b W=>∃lo hi:Int,a=.int .i64 lo/\b=.int .i64 hi/\-(ms:Int)<=lo/\lo<hi/\hi<=ms/\(∃s,0<=s/\jb3 (jk5 xt den [(lo,1)] xd) s)/\(∃s,s<0/\jb3 (jk5 xt den [(hi,1)] xd) s) /\
    Blk W w.heap.size 24 #[.int .i64 xd,.slice A xt.length c]/\ja3 W w.heap.size A xt.length c xt/\Below w.heap.size w W) (fun a b _=>(intOf b-intOf a).toNat)
   case atStart=>
    exact⟨-(ms:Int),ms,rfl,rfl,by omega,by omega,by omega,⟨1,by omega,SG1.out⟩,⟨-1,by omega,SG2.out⟩,HX1.out,HT2.out,HB1.out⟩
   case round=>
    obtain⟨lo,hi,rfl,rfl,h1,h2,h3,hs1,hs2,hb,ht,hbl⟩:=hrel
    obtain⟨q1,q2,q3,q4⟩:=hb.two
    have hlw:=hb.lt
    have HX3:=ja0 hb;have HT3:=ja0 ht;have HB3:=ja0 hbl
    have HS1:=ja0 hs1;have HS2:=ja0 hs2
    clear hb ht hbl hs1 hs2 HX1 HT2 HB1
    by_cases hgt:1<hi-lo
    ·obtain⟨h,hh⟩:∃h,(hi-lo).tdiv 2=h:=⟨_,rfl⟩
     have hh2:2*h<=hi-lo/\hi-lo<=2*h+1:=by
      rw[<-hh,Int.tdiv_eq_ediv_of_nonneg (by omega)];omega
     obtain⟨mid,hmid⟩:∃mid,lo+h=mid:=⟨_,rfl⟩
     have hmr:lo<mid/\mid<hi:=by omega
     have hmx:-400000000000000000<=mid*xd/\mid*xd<=400000000000000000:=by
      have h4:(mid*(xd:Int)).natAbs<=ms*xd:=by
       rw[Int.natAbs_mul,Int.natAbs_natCast]
       exact Nat.mul_le_mul_right _ (by omega)
      omega
     have HL:=ja0 (HLS.out mid wr ⟨by omega,by omega,hmx⟩ HT3.out (by omega))
     have HSM:=ja0 (HSI.out mid hmx)
     have hq1:=fun o=>((HX3.out.alloc o).two).1
     have HBa:=ja0 (HB3.out.alloc HB3.out.size (.cells #[.int .i64 mid,.int .i64 1] 59))
     have HXa:=ja0 (HX3.out.alloc (.cells #[.int .i64 mid,.int .i64 1] 59))
     have HTa:=ja0 (Rd.alloc HT3.out (by omega) (.cells #[.int .i64 mid,.int .i64 1] 59))
     clear HLS HSI
     go_wp2_with (first
      | (go_at_call 94;refine HL.out.mono ?_;rintro e w2 ⟨A2,n2,c2,l2,rfl,ht2,hp2,hb2⟩;have HT2:=ja0 ht2;have HP2:=ja0 hp2;have HB2:=ja0 hb2;clear ht2 hp2 hb2)
      | (go_at_call 69;refine(HSM.out _ HP2.out _ _ _ _ _ HT2.out (Nat.le_refl _)).mono ?_;rintro e w3 ⟨s,rfl,hs,hb3⟩;have HS:=ja0 hs;have HB4:=ja0 hb3;clear hs hb3))
     have hz2:=HB2.out.size
     simp only[World.size_alloc] at hz2
     have HB23:Hid (Below (wr.heap.size+1) (wr.alloc (.cells #[.int .i64 mid,.int .i64 1] 59)) w3):=ja0 (by
      have h5:=HB2.out
      rw[World.size_alloc] at h5
      exact h5.trans (HB4.out.mono (by omega)))
     have HX4:=ja0 (HXa.out.below HB23.out (by omega))
     have HT4:=ja0 (Rd.below HTa.out (HB23.out.mono (by omega)))
     have HB5:=ja0 (HBa.out.trans (HB23.out.mono (by omega)))
     ·exact⟨⟨mid,hi,rfl,rfl,by omega,by omega,h3,⟨s,by assumption,HS.out⟩,HS2.out,HX4.out,HT4.out,HB5.out⟩,by simp[intOf];omega⟩
     have hz2:=HB2.out.size
     simp only[World.size_alloc] at hz2
     have HB23:Hid (Below (wr.heap.size+1) (wr.alloc (.cells #[.int .i64 mid,.int .i64 1] 59)) w3):=ja0 (by
      have h5:=HB2.out
      rw[World.size_alloc] at h5
      exact h5.trans (HB4.out.mono (by omega)))
     have HX4:=ja0 (HXa.out.below HB23.out (by omega))
     have HT4:=ja0 (Rd.below HTa.out (HB23.out.mono (by omega)))
     have HB5:=ja0 (HBa.out.trans (HB23.out.mono (by omega)))
     ·exact⟨⟨lo,mid,rfl,rfl,by omega,by omega,by omega,HS1.out,⟨s,by omega,HS.out⟩,HX4.out,HT4.out,HB5.out⟩,by simp[intOf];omega⟩
    ·go_wp2
     go_ret
     have hhi:hi=lo+1:=by omega
     subst hhi
     have h4:(lo*(xd:Int)).natAbs<=ms*xd:=by
      rw[Int.natAbs_mul,Int.natAbs_natCast]
      exact Nat.mul_le_mul_right _ (by omega)
     exact⟨lo,rfl,⟨HS1.out,HS2.out,⟨by omega,by omega⟩,by omega,by omega⟩,HB3.out⟩
def jv9(xd:Int)(xt:List (Int×Int))(den low high c:Int):Prop:=
 (ja7 xd xt=false/\low=0/\high=0/\c=2)\/(ja7 xd xt=true/\inB den 1 1000000000=false/\low=0/\high=0/\c=3) \/
  (ja7 xd xt=true/\inB den 1 1000000000=true/\c=0/\zp1 xd xt den low/\((∃s,0<s/\jb3 (jk5 xt den [(low,1)] xd) s)/\high=low+1\/jb3 (jk5 xt den [(low,1)] xd) 0/\high=low))
theorem zp6 (xd:Int) (A:Option Addr) (n c:Nat) (xt:List (Int×Int)) (den:Int) (B:Nat) (w:World) (hx:ja3 w B A n c xt) (hB:B<=w.heap.size) :
  Calls Tryz.prog 47 #[.agg #[.int .i64 xd,.slice A n c],.int .i64 den] w fun e w'=>∃low high c,e=.returned (.tuple #[.int .i64 low,.int .i64 high,.int .i64 c])/\jv9 xd xt den low high c/\Below w.heap.size w w':=by
 have HV:=ja0 (jap0 xd A n c xt B (w.alloc (.cells #[.int .i64 xd,.slice A n c] 24)) (Rd.alloc hx hB _) (by simp;omega))
 have HT0:=ja0 (Rd.alloc hx hB (.cells #[.int .i64 xd,.slice A n c] 24))
 have HX0:=ja0 (Blk.new w 24 #[.int .i64 xd,.slice A n c])
 have HB0:=ja0 ((Below.refl w.heap.size w).alloc (Nat.le_refl _) (.cells #[.int .i64 xd,.slice A n c] 24))
 simp only[World.size_alloc] at HV
 clear hx
 go_enter Tryz.func47,Tryz.ntmps47
 go_wp2_with fail
 refine HV.out.mono ?_
 rintro e w1 ⟨rfl,hb1⟩
 (try simp only[World.size_alloc] at hb1)
 have HX1:=ja0 (HX0.out.below hb1 (by omega))
 have HT1:=ja0 (HT0.out.below (hb1.mono (by omega)))
 have HB1:=ja0 (HB0.out.trans (hb1.mono (by omega)))
 have hz1:=hb1.size
 (try simp only[World.size_alloc] at hz1)
 obtain⟨q1,q2,q3,q4⟩:=HX1.out.two
 clear HV HX0 HT0 HB0 hb1
 cases hok:ja7 xd xt
 ·go_wp2
  go_ret3
  exact⟨0,0,2,rfl,.inl ⟨hok,rfl,rfl,rfl⟩,HB1.out⟩
 ·have HOK:=ja0 hok
  clear hok
  cases hd:inB den 1 1000000000
  ·have HD:=ja0 hd
   clear hd
   go_wp2_with (first
    | (go_at_call 60;refine(jd0 _ _ _ _).mono ?_;rintro e w2 ⟨rfl,rfl⟩;rw[HD.out]))
   go_ret3
   exact⟨0,0,3,rfl,.inr (.inl ⟨HOK.out,HD.out,rfl,rfl,rfl⟩),HB1.out⟩
  ·have HD:=ja0 hd
   have hd2:1<=den/\den<=1000000000:=by simpa [inB] using hd
   obtain⟨px1,px2,px3,px4⟩:=jb1 HOK.out
   have hro:=(jj2 HOK.out).1
   have hbx:∀t∈xt,-400000000000000000<=t.1*den/\t.1*den<=400000000000000000:=fun t ht=>by
    have:=jc0 (a:=t.1) (b:=den) (A:=100000) (B:=1000000000) (px4 t ht).1.2.2.2 ⟨by omega,by omega⟩
    omega
   obtain⟨xdn,hxdn⟩:=Int.eq_ofNat_of_zero_le (show 0<=xd by omega)
   obtain⟨dn,hdn⟩:=Int.eq_ofNat_of_zero_le (show 0<=den by omega)
   subst hxdn
   subst hdn
   have HBL:=ja0 (jcp1 xdn A n c xt dn B w1 HT1.out (by omega) HOK.out (by omega) (by omega))
   have HLS:=ja0 (fun(mid:Int) (W:World) (hmid:-400000000000000000<=mid*xdn/\mid*xdn<=400000000000000000) (h:ja3 W B A n c xt) (hW:B<=W.heap.size)=>
    jav8 A n c xt dn (some ⟨W.heap.size,0,none⟩) 1 1 [(mid,1)] xdn (W.heap.size+1) (W.alloc (.cells #[.int .i64 mid,.int .i64 1] 59)) (Rd.more (Rd.alloc h hW _) (by omega)) (jbh5 W mid) (by simp) px3 (by simp) hbx (fun t ht=>by
     simp only[List.mem_singleton] at ht;subst ht;exact hmid))
   have HSI:=ja0 (fun(mid:Int) (hmid:-400000000000000000<=mid*xdn/\mid*xdn<=400000000000000000) l hp B A n c w h hB=>jah9 (l:=l) (yt:=[(mid,1)]) hp hro (fun t ht=>by simp only[List.mem_singleton] at ht;subst ht;exact jab1) px3 (by simp) hbx (fun t ht=>by simp only[List.mem_singleton] at ht;subst ht;exact hmid) B A n c w h hB)
   have HBD:=ja0 (fun r (hr:zp1 xdn xt dn r)=>hr.2.2)
   clear hd px4 hro hbx px1 px3
   go_wp2_with (first
    | (go_at_call 60;refine(jd0 _ _ _ _).mono ?_;rintro e w2 ⟨rfl,rfl⟩;rw[HD.out])
    | (go_at_call 93;refine HBL.out.mono ?_;rintro e w2 ⟨r,rfl,hr,hb2⟩;have HR:=ja0 hr;have HB2:=ja0 hb2;clear hr hb2
       have hrb:=(HBD.out r HR.out).1
       have hrx:-400000000000000000<=r*xdn/\r*xdn<=400000000000000000:=(HBD.out r HR.out).2
       have HX2:=ja0 (HX1.out.below HB2.out HX1.out.lt)
       have HT2:=ja0 (HT1.out.below (HB2.out.mono (by omega)))
       have hz2:=HB2.out.size
       have hqa:=fun o=>((HX2.out.alloc o).two).1
       obtain⟨u1,u2,u3,u4⟩:=HX2.out.two
       have HL:=ja0 (HLS.out r w2 hrx HT2.out (by omega))
       have HSM:=ja0 (HSI.out r hrx)
       have HB3:=ja0 ((HB1.out.trans (HB2.out.mono (by omega))).alloc (by omega) (.cells #[.int .i64 r,.int .i64 1] 59)))
    | (go_at_call 94;refine HL.out.mono ?_;rintro e w3 ⟨A2,n2,c2,l2,rfl,ht2,hp2,hb2⟩;have HT3:=ja0 ht2;have HP3:=ja0 hp2;have HB4:=ja0 hb2;clear ht2 hp2 hb2)
    | (go_at_call 69;refine(HSM.out _ HP3.out _ _ _ _ _ HT3.out (Nat.le_refl _)).mono ?_;rintro e w4 ⟨s,rfl,hs,hb3⟩;have HS:=ja0 hs;have HB5:=ja0 hb3;clear hs hb3))
   all_goals
    have hz3:=HB4.out.size
    simp only[World.size_alloc] at hz3
    have hB6:Below w.heap.size w w4:=(HB3.out.trans (HB4.out.mono (by simp;omega))).trans (HB5.out.mono (by omega))
    go_ret3
   ·exact⟨r,r+1,0,rfl,.inr (.inr ⟨HOK.out,HD.out,rfl,HR.out,.inl ⟨⟨s,by assumption,HS.out⟩,rfl⟩⟩),hB6⟩
   ·refine⟨r,r,0,rfl,.inr (.inr ⟨HOK.out,HD.out,rfl,HR.out,.inr ⟨?_,rfl⟩⟩),hB6⟩
    obtain⟨s2,h1,h2⟩:=HR.out.1
    have h3:=jb3.unique h2 HS.out
    have:s=0:=by omega
    rw[<-this];exact HS.out
theorem js1{a r s:Int}(h:jb3 [(a,r)] s):(a=0/\s=0)\/(0<a/\s=1)\/(a<0/\s=-1):=by
 unfold jb3 at h
 by_cases h0:a=0
 ·subst h0
  rcases h with⟨_,h⟩|⟨h,_⟩
  ·exact .inl ⟨rfl,h⟩
  ·simp[nzT] at h
 ·have hf:[(a,r)].filter nzT=[(a,r)]:=by simp[nzT,h0]
  rw[hf] at h
  rcases h with⟨h,_⟩|⟨_,hs,k,hk⟩
  ·simp at h
  ·unfold jb9 at hk
   rcases Int.lt_or_le a 0 with ha|ha
   ·right;right
    simp only[jn6,jh5,jn5,jh6,List.map_cons,List.map_nil,ha,if_true,List.sum_cons,List.sum_nil,Nat.add_zero] at hk
    rw[if_neg (by omega)] at hk
    split at hk
    ·exact⟨ha,hk.symm⟩
    ·exact absurd hk.symm hs
   ·right;left
    have hna:¬a<0:=by omega
    simp only[jn6,jh5,jn5,jh6,List.map_cons,List.map_nil,hna,if_false,List.sum_cons,List.sum_nil,Nat.add_zero] at hk
    split at hk
    ·exact⟨by omega,hk.symm⟩
    ·rw[if_neg (by omega)] at hk
     exact absurd hk.symm hs
theorem jaz9{a b r s:Int}(ha:0<a)(hb:b<0)(hr:0<r)(h:jb3 [(a,1),(b,r)] s):(s=1/\b.natAbs*b.natAbs*r.toNat<a.natAbs*a.natAbs)\/(s=-1/\a.natAbs*a.natAbs<b.natAbs*b.natAbs*r.toNat):=by
 unfold jb3 at h
 have hf:[(a,1),(b,r)].filter nzT=[(a,1),(b,r)]:=by
  have h1:a≠0:=by omega
  have h2:b≠0:=by omega
  simp[nzT,h1,h2]
 rw[hf] at h
 rcases h with⟨h,_⟩|⟨_,hs,k,hk⟩
 ·simp at h
 ·unfold jb9 at hk
  have hna:¬a<0:=by omega
  simp only[jn6,jh5,jn5,jh6,List.map_cons,List.map_nil,hna,hb,if_false,if_true,List.sum_cons,List.sum_nil,Nat.add_zero,Nat.zero_add] at hk
  have hbp:=zb8 k
  generalize hB:bits k*bits k=BB at *
  have hBB:0<BB:=by rw[<-hB];exact Nat.mul_pos hbp hbp
  have ea:zf4 (a,1) k=a.natAbs*a.natAbs*BB:=by unfold zf4 sqT;rw[hB];simp
  have eb:zf4 (b,r) k=b.natAbs*b.natAbs*r.toNat*BB:=by unfold zf4 sqT;rw[hB]
  split at hk
  ·rename_i hlt
   refine .inl ⟨hk.symm,?_⟩
   unfold jr4 jg3 at hlt
   rw[ea,eb] at hlt
   have h1:=jbk9 (b.natAbs*b.natAbs*r.toNat*BB)
   have h2:=(jy4 (a.natAbs*a.natAbs*BB)).le
   have h3:=Nat.mul_lt_mul_of_lt_of_lt hlt hlt
   have h4:b.natAbs*b.natAbs*r.toNat*BB<a.natAbs*a.natAbs*BB:=by omega
   exact Nat.lt_of_mul_lt_mul_right h4
  ·split at hk
   ·rename_i _ hlt
    refine .inr ⟨hk.symm,?_⟩
    unfold jr4 jg3 at hlt
    rw[ea,eb] at hlt
    have h1:=jbk9 (a.natAbs*a.natAbs*BB)
    have h2:=(jy4 (b.natAbs*b.natAbs*r.toNat*BB)).le
    have h3:=Nat.mul_lt_mul_of_lt_of_lt hlt hlt
    have h4:a.natAbs*a.natAbs*BB<b.natAbs*b.natAbs*r.toNat*BB:=by omega
    exact Nat.lt_of_mul_lt_mul_right h4
   ·exact absurd hk.symm hs
theorem jdj1{a b r s:Int}(ha:a<=0)(hb:b<0)(h:jb3 [(a,1),(b,r)] s):s=-1:=by
 by_cases h0:a=0
 ·subst h0
  have h2:jb3 [(b,r)] s:=by
   unfold jb3 at h ⊢
   rw[show [((0:Int),(1:Int)),(b,r)].filter nzT=[(b,r)].filter nzT by simp[nzT]] at h
   exact h
  rcases js1 h2 with⟨h4,_⟩|⟨h4,_⟩|⟨_,h4⟩
  ·omega
  ·omega
  ·exact h4
 ·unfold jb3 at h
  have hf:[(a,1),(b,r)].filter nzT=[(a,1),(b,r)]:=by
   have h2:b≠0:=by omega
   simp[nzT,h0,h2]
  rw[hf] at h
  rcases h with⟨h,_⟩|⟨_,hs,k,hk⟩
  ·simp at h
  ·unfold jb9 at hk
   have hna:a<0:=by omega
   simp only[jn6,jh5,jn5,jh6,List.map_cons,List.map_nil,hna,hb,if_true,List.sum_cons,List.sum_nil,Nat.add_zero] at hk
   rw[if_neg (by omega)] at hk
   split at hk
   ·exact hk.symm
   ·exact absurd hk.symm hs
theorem jbv5(a b m v k:Int):jk5 [(a,1),(b,2)] m [(v,1)] k=[(a*m+v*-k,1),(b*m,2)]:=by
 rfl
theorem jad3(a m v k:Int):jk5 [(a,1)] m [(v,1)] k=[(a*m+v*-k,1)]:=by
 rfl
end Go.Proofs.YtphcodcdfeohhaaGreatDoor
