import Derived.Test.YtphcodcdfeohhaaGreatDoorSignDToOrdA
import Derived.Test.YtphcodcdfeohhaaGreatDoorLinAToLinD
set_option linter.unusedVariables false
set_option linter.unusedSimpArgs false
namespace Go.Proofs.YtphcodcdfeohhaaGreatDoor
set_option maxRecDepth 100000
set_option maxHeartbeats 4000000
open Go.RowKit
def zt5(kv:List (Int×Int)):Int:=(kv.map fun p=>if p.1=1 then p.2 else 0).sum
def zy8(kv:List (Int×Int)):Nat:=(kv.map fun p=>if p.1=1 then 0 else p.2.natAbs).sum
theorem jat3:∀(kv:List (Int×Int)) (r c:Int),zt5 (addS kv r c)=zt5 kv+if r=1 then c else 0
 | [],r,c=>by simp[zt5,addS]
 | (a,x)::t,r,c=>by
  by_cases h:r=a
  ·subst h
   have e:addS ((r,x)::t) r c=(r,x+c)::t:=by simp[addS]
   rw[e]
   simp only[zt5,List.map_cons,List.sum_cons]
   split<;>omega
  ·have ih:=jat3 t r c
   simp only[addS,if_neg h,zt5,List.map_cons,List.sum_cons] at ih ⊢
   omega
theorem jat4:∀(kv:List (Int×Int)) (r c:Int),zy8 (addS kv r c)<=zy8 kv+if r=1 then 0 else c.natAbs
 | [],r,c=>by simp[zy8,addS]
 | (a,x)::t,r,c=>by
  by_cases h:r=a
  ·subst h
   have e:addS ((r,x)::t) r c=(r,x+c)::t:=by simp[addS]
   rw[e]
   simp only[zy8,List.map_cons,List.sum_cons]
   split<;>omega
  ·have ih:=jat4 t r c
   simp only[addS,if_neg h,zy8,List.map_cons,List.sum_cons] at ih ⊢
   omega
theorem jdg4:∀(l kv:List (Int×Int)) (m:Int),(zt5 (jg7 kv l m)).natAbs+zy8 (jg7 kv l m)<=(zt5 kv).natAbs+zy8 kv+(l.map fun t=>(t.1*m).natAbs).sum
 | [],kv,m=>by simp[jg7]
 | t::l,kv,m=>by
  have h:=jdg4 l (addS kv t.2 (t.1*m)) m
  have h1:=jat3 kv t.2 (t.1*m)
  have h2:=jat4 kv t.2 (t.1*m)
  simp only[jg7,List.foldl_cons,List.map_cons,List.sum_cons] at h ⊢
  split at h1
  ·rename_i h3
   rw[if_pos h3] at h2;omega
  ·rename_i h3
   rw[if_neg h3] at h2;omega
theorem jfa4(t:Int×Int)(h:t.2=1):jg9 t 0=t.1.natAbs/\jp9 t 0=t.1.natAbs:=by
 unfold jg9 jp9
 rw[jav3,sqT,h]
 rw[show((1:Int)).toNat=1 from rfl,Nat.mul_one]
 exact⟨jaa8 _,jca6 _⟩
theorem jds9(t:Int×Int)(h:t.2<=1000):jp9 t 0<=32*t.1.natAbs:=by
 unfold jp9
 rw[jav3,sqT]
 refine jcj8 ?_
 have h1:t.2.toNat<=1024:=by omega
 have h2:=Nat.mul_le_mul_left (t.1.natAbs*t.1.natAbs) h1
 have e:32*t.1.natAbs*(32*t.1.natAbs)=t.1.natAbs*t.1.natAbs*1024:=by
  rw[Nat.mul_mul_mul_comm,Nat.mul_comm]
 omega
theorem jbk7:∀(kv:List (Int×Int)),(∀p∈kv,p.1<=1000) ->
  zt5 kv-32*(zy8 kv:Int)<=(jj0 (kv.map jv8) 0:Int)-(jn6 (kv.map jv8) 0:Int)/\-zt5 kv-32*(zy8 kv:Int)<=(jj1 (kv.map jv8) 0:Int)-(jn5 (kv.map jv8) 0:Int)
 | [],_=>by simp[zt5,zy8,jj0,jn6,jj1,jn5]
 | (r,c)::kv,h=>by
  have ih:=jbk7 kv (fun p hp=>h p (List.mem_cons_of_mem _ hp))
  have hr:r<=1000:=h (r,c) (by simp)
  have h32:=jds9 (c,r) hr
  have h1:=jfa4 (c,r)
  unfold zt5 zy8 jj0 jn6 jj1 jn5 at *
  simp only[List.map_cons,List.sum_cons,jv8] at ih ⊢
  dsimp only at h32 h1
  by_cases hr1:r=1
  ·obtain⟨g1,g2⟩:=h1 hr1
   rw[if_pos hr1,if_pos hr1,g1,g2]
   split<;>omega
  ·rw[if_neg hr1,if_neg hr1]
   split<;>omega
theorem zk3 (f:Int×Int->Nat) (hf:∀t,nzT t=false->f t=0):∀l:List (Int×Int),((l.filter nzT).map f).sum=(l.map f).sum
 | []=>rfl
 | t::l=>by
  have ih:=zk3 f hf l
  rw[List.filter_cons]
  cases h:nzT t
  ·simp only[Bool.false_eq_true,if_false,List.map_cons,List.sum_cons,hf t h,ih,Nat.zero_add]
  ·simp only[if_true,List.map_cons,List.sum_cons,ih]
theorem jdz5:isq 0=0:=by have:=jaa8 0;simpa using this
theorem jdk5:zs9 0=0:=by have:=jca6 0;simpa using this
theorem jan9{t:Int×Int}(h:nzT t=false)(k:Nat):jg9 t k=0/\jp9 t k=0:=by
 have h0:t.1=0:=by simpa [nzT] using h
 unfold jg9 jp9 jz8 sqT
 rw[h0]
 simp[jdz5,jdk5]
theorem jbm6(l:List (Int×Int))(k:Nat):jc5 (l.filter nzT) k=jc5 l k:=by
 unfold jc5 jj0 jn5 jj1 jn6
 rw[zk3 _ (fun t h=>by rw[(jan9 h k).2];split<;>rfl),zk3 _ (fun t h=>by rw[(jan9 h k).1];split<;>rfl),zk3 _ (fun t h=>by rw[(jan9 h k).2];split<;>rfl),zk3 _ (fun t h=>by rw[(jan9 h k).1];split<;>rfl)]
theorem jc1.of_verdict{l:List (Int×Int)}{s:Int}{k:Nat}(h:jc5 l k=s)(hs:s≠0):jc1 l s:=by
 rw[<-jbm6] at h
 refine .inr ⟨fun e=>?_,hs,k,h⟩
 rw[e] at h
 exact hs (by rw[<-h];rfl)
theorem jff1{kv:List (Int×Int)}(h:∀p∈kv,p.1<=1000)(hg:32*(zy8 kv:Int)<zt5 kv):jc1 (kv.map jv8) 1:=by
 have:=(jbk7 kv h).1
 exact jc1.of_verdict (k:=0) (zc3 (by omega)) (by decide)
theorem jds1{kv:List (Int×Int)}(h:∀p∈kv,p.1<=1000)(hg:32*(zy8 kv:Int) < -zt5 kv):jc1 (kv.map jv8) (-1):=by
 have:=(jbk7 kv h).2
 exact jc1.of_verdict (k:=0) (zc2 (by omega)) (by decide)
def jv7(xd:Nat)(xt:List (Int×Int))(den:Nat):Nat:=2+(xt.map fun t=>(t.1.natAbs*32/xd+1)*den).sum
theorem jdf6 {xd den:Nat} (hd:1<=xd):∀(xt:List (Int×Int)),32*(xt.map fun t=>(t.1*(den:Int)).natAbs).sum<=(xt.map fun t=>(t.1.natAbs*32/xd+1)*den).sum*xd
 | []=>by simp
 | t::xt=>by
  have ih:=jdf6 (den:=den) hd xt
  simp only[List.map_cons,List.sum_cons,Nat.mul_add,Nat.add_mul] at ih ⊢
  have h1:(t.1*(den:Int)).natAbs=t.1.natAbs*den:=by rw[Int.natAbs_mul,Int.natAbs_natCast]
  have h2:=Nat.lt_div_mul_add (a:=t.1.natAbs*32) (b:=xd) (by omega)
  have h3:32*(t.1.natAbs*den)<=t.1.natAbs*32/xd*den*xd+1*den*xd:=by
   have h4:=Nat.mul_le_mul_right den (Nat.le_of_lt h2)
   rw[Nat.add_mul] at h4
   have e1:t.1.natAbs*32/xd*xd*den=t.1.natAbs*32/xd*den*xd:=by rw[Nat.mul_right_comm]
   have e2:xd*den=1*den*xd:=by rw[Nat.one_mul,Nat.mul_comm]
   have e3:t.1.natAbs*32*den=32*(t.1.natAbs*den):=by rw[Nat.mul_right_comm,Nat.mul_comm,Nat.mul_comm 32]
   omega
  rw[h1]
  omega
theorem zv0:jg0 1:=⟨by decide,by decide,fun e he hd=>by have:=Nat.le_of_dvd (by decide) hd;have:=Nat.mul_le_mul he he;simp at *;omega⟩
theorem jbh2 {xd den:Nat} {xt:List (Int×Int)} (hd:1<=xd) (hx:∀t∈xt,jg0 t.2) :
  jc1 (jh2 xt den [(-(jv7 xd xt den:Int),1)] xd) 1/\jc1 (jh2 xt den [((jv7 xd xt den:Int),1)] xd) (-1):=by
 have hk:∀n:Int,∀p∈jp0 xt den [(n,1)] xd,p.1<=1000:=fun n p hp=>by
  have h1:=(zt0 hx (yt:=[(n,1)]) (fun t ht=>by
   simp only[List.mem_singleton] at ht
   subst ht
   exact zv0) (den:Int) (xd:Int)).2 p.1 (List.mem_map_of_mem hp)
  exact h1.2.1
 have h1:=jdg4 xt [] (den:Int)
 have h2:=jdf6 (den:=den) hd xt
 have e0:zt5 []=0:=rfl
 have e1:zy8 []=0:=rfl
 rw[e0,e1] at h1
 have hm:jv7 xd xt den*xd=2*xd+(xt.map fun t=>(t.1.natAbs*32/xd+1)*den).sum*xd:=by unfold jv7;rw[Nat.add_mul]
 have hone:∀n:Int,zt5 (jp0 xt den [(n,1)] xd)=zt5 (jg7 [] xt den)+n*-(xd:Int):=fun n=>by
  show zt5 (addS (jg7 [] xt den) 1 (n*-(xd:Int)))=_
  rw[jat3,if_pos rfl]
 have hoth:∀n:Int,zy8 (jp0 xt den [(n,1)] xd)<=zy8 (jg7 [] xt den):=fun n=>by
  have h3:=jat4 (jg7 [] xt den) 1 (n*-(xd:Int))
  rw[if_pos rfl] at h3
  exact h3
 generalize (xt.map fun t=>(t.1*(den:Int)).natAbs).sum=S at *
 generalize (xt.map fun t=>(t.1.natAbs*32/xd+1)*den).sum*xd=T at *
 constructor
 ·have h3:=hone (-(jv7 xd xt den:Int))
  have h4:=hoth (-(jv7 xd xt den:Int))
  refine jff1 (hk _) ?_
  rw[h3,Int.neg_mul_neg,<-Int.natCast_mul,hm]
  generalize zt5 (jg7 [] xt den)=g at *
  generalize zy8 (jg7 [] xt den)=o at *
  omega
 ·have h3:=hone (jv7 xd xt den:Int)
  have h4:=hoth (jv7 xd xt den:Int)
  refine jds1 (hk _) ?_
  rw[h3,Int.mul_neg,<-Int.natCast_mul,hm]
  generalize zt5 (jg7 [] xt den)=g at *
  generalize zy8 (jg7 [] xt den)=o at *
  omega
theorem jcm4{xd den:Nat}{xt:List (Int×Int)}(hl:xt.length<=4)(hd:1<=xd)(hden:den<=1000000000)(hc:∀t∈xt,-100000<=t.1/\t.1<=100000)(hxd:xd<=100000):jv7 xd xt den<=20000000000000000/\jv7 xd xt den*xd<=40000000000000000:=by
 have hone:∀t∈xt,(t.1.natAbs*32/xd+1)*den<=3200001*1000000000/\(t.1.natAbs*32/xd+1)*den*xd<=3300000*1000000000:=fun t ht=>by
  have h1:=hc t ht
  have h2:t.1.natAbs*32/xd<=t.1.natAbs*32:=Nat.div_le_self _ _
  have h3:t.1.natAbs*32/xd*xd<=t.1.natAbs*32:=Nat.div_mul_le_self _ _
  refine⟨Nat.mul_le_mul (by omega) hden,?_⟩
  rw[Nat.mul_right_comm]
  refine Nat.mul_le_mul ?_ hden
  rw[Nat.add_mul];omega
 have h1:=zk4 (fun t:Int×Int=>(t.1.natAbs*32/xd+1)*den) _ xt (fun t ht=>(hone t ht).1)
 have h2:(xt.map fun t=>(t.1.natAbs*32/xd+1)*den).sum*xd<=xt.length*(3300000*1000000000):=by
  have h3:=zh6 (fun t:Int×Int=>(t.1.natAbs*32/xd+1)*den) (fun _=>3300000*1000000000) xd xt (fun t ht=>(hone t ht).2)
  have h4:=zk4 (fun _:Int×Int=>3300000*1000000000) _ xt (fun t ht=>Nat.le_refl _)
  omega
 unfold jv7
 rw[Nat.add_mul]
 have h5:=Nat.mul_le_mul_right (3200001*1000000000) hl
 have h6:=Nat.mul_le_mul_right (3300000*1000000000) hl
 omega
def zb0(xd:Int)(xt:List (Int×Int))(den r:Int):Prop:=
 (∃s,0<=s/\jc1 (jh2 xt den [(r,1)] xd) s)/\(∃s,s<0/\jc1 (jh2 xt den [(r+1,1)] xd) s)/\(-20000000000000000<=r/\r<=20000000000000000)/\-400000000000000000<=r*xd/\r*xd<=400000000000000000
theorem jav5(w:World)(n:Int):ja6 (w.alloc (.cells #[.int .i64 n,.int .i64 1] 59)) (w.heap.size+1) (some ⟨w.heap.size,0,none⟩) 1 1 [(n,1)]:=by
 have h:=Rd.of_own (World.ownsRow_lit (base:=0) (e:=59) (size:=2) w #[.int .i64 n,.int .i64 1] 1 (Nat.zero_le _) (by unfold maxLen;omega) rfl)
 rw[World.size_alloc] at h
 exact h
theorem jbh1{xt:List (Int×Int)}{k:Nat}{t:Int×Int}(xd den:Nat)(h:xt.take (k+1)=xt.take k++[t]):jv7 xd (xt.take (k+1)) den=jv7 xd (xt.take k) den+(t.1.natAbs*32/xd+1)*den:=by
 unfold jv7
 rw[h,zr6];omega
theorem jc1.range{l:List (Int×Int)}{s:Int}(h:jc1 l s):s=1\/s=-1\/s=0:=by
 rcases h with⟨_,h⟩|⟨_,_,k,h⟩
 ·exact .inr (.inr h)
 ·rw[<-h];exact jz3 _ k
theorem jdj0 (xd:Nat) (A:Option Addr) (n c:Nat) (xt:List (Int×Int)) (den:Nat) (B:Nat) (w:World) (hx:ja6 w B A n c xt) (hB:B<=w.heap.size) (hok:jb3 xd xt=true) (hd1:1<=den) (hd2:den<=1000000000) :
  Calls Tryz.prog 93 #[.agg #[.int .i64 xd,.slice A n c],.int .i64 den] w fun e w'=>∃r,e=.returned (.int .i64 r)/\zb0 xd xt den r/\Below w.heap.size w w':=by
 obtain⟨px1,px2,px3,px4⟩:=jb2 hok
 have hro:=(jc9 hok).1
 have hc:∀t∈xt,-100000<=t.1/\t.1<=100000:=fun t ht=>(px4 t ht).1.2.2.2
 have hM:=fun k=>jcm4 (xd:=xd) (den:=den) (xt:=xt.take k) (by simp;omega) (by omega) hd2 (fun t ht=>hc t (List.mem_of_mem_take ht)) (by omega)
 have HM:=ja0 hM
 have HSG:=ja0 (jbh2 (xd:=xd) (den:=den) (by omega) hro)
 have HC:=ja0 hc
 have hl:=hx.len
 subst hl
 have HX0:=ja0 (Blk.new w 24 #[.int .i64 xd,.slice A xt.length c])
 have HT0:=ja0 (Rd.alloc hx hB (.cells #[.int .i64 xd,.slice A xt.length c] 24))
 have HB0:=ja0 ((Below.refl w.heap.size w).alloc (Nat.le_refl _) (.cells #[.int .i64 xd,.slice A xt.length c] 24))
 have hbx:∀t∈xt,-400000000000000000<=t.1*(den:Int)/\t.1*(den:Int)<=400000000000000000:=fun t ht=>by
  have:=jc2 (a:=t.1) (b:=den) (A:=100000) (B:=1000000000) (hc t ht) ⟨by omega,by omega⟩
  omega
 have HLS:=ja0 (fun(mid:Int) (W:World) (hmid:-20000000000000000<=mid/\mid<=20000000000000000/\-400000000000000000<=mid*xd/\mid*xd<=400000000000000000) (h:ja6 W w.heap.size A xt.length c xt) (hW:w.heap.size<=W.heap.size)=>
  jbg3 A xt.length c xt den (some ⟨W.heap.size,0,none⟩) 1 1 [(mid,1)] xd (W.heap.size+1) (W.alloc (.cells #[.int .i64 mid,.int .i64 1] 59)) (Rd.more (Rd.alloc h hW _) (by omega)) (jav5 W mid) (by simp) px3 (by simp) hbx (fun t ht=>by
   simp only[List.mem_singleton] at ht;subst ht;exact hmid.2.2))
 have HSI:=ja0 (fun(mid:Int) (hmid:-400000000000000000<=mid*xd/\mid*xd<=400000000000000000) l hp B A n c w h hB=>jat2 (l:=l) (yt:=[(mid,1)]) hp hro (fun t ht=>by simp only[List.mem_singleton] at ht;subst ht;exact zv0) px3 (by simp) hbx (fun t ht=>by simp only[List.mem_singleton] at ht;subst ht;exact hmid) B A n c w h hB)
 clear hx hok hM hc px4 hro hbx
 go_enter Tryz.func93,Tryz.ntmps93
 go_wp2
 go_loopw [5,14] (fun s i W=>∃k:Nat,k<=xt.length/\i=.int .i64 k/\s=.int .i64 (jv7 xd (xt.take k) den)/\Blk W w.heap.size 24 #[.int .i64 xd,.slice A xt.length c]/\ja6 W B A xt.length c xt/\Below w.heap.size w W) (fun _ i _=>xt.length-(intOf i).toNat)
 case atStart=>exact⟨0,by omega,rfl,rfl,HX0.out,HT0.out,HB0.out⟩
 case round=>
  obtain⟨k,hk,rfl,rfl,hb,ht,hbl⟩:=hrel
  obtain⟨q1,q2,q3,q4⟩:=hb.two
  have HX1:=ja0 hb;have HT1:=ja0 ht;have HB1:=ja0 hbl
  have hlw:=hb.lt
  clear hb ht hbl HX0 HT0 HB0
  by_cases hlt:k<xt.length
  ·obtain⟨ad,had,hc0,hc1⟩:=HT1.out.at_ hlt
   subst had
   have hct:=HC.out xt[k] (List.getElem_mem hlt)
   have HS:=ja0 (jbh1 xd den (jb8 xt k hlt))
   have hm0:=(HM.out k).1
   have hm1:=(HM.out (k+1)).1
   rw[HS.out] at hm1
   generalize xt[k]=t at *
   obtain⟨co,ro⟩:=t
   dsimp only at hc0 hc1 hct HS hm1
   obtain⟨ca,hca⟩:∃ca,ca=co.natAbs:=⟨_,rfl⟩
   have hmx:max co (-co)=(ca:Int):=by omega
   have hca2:ca<=100000:=by omega
   have hqd:((ca:Int)*32).tdiv (xd:Int)=((ca*32/xd:Nat):Int):=by
    rw[show(ca:Int)*32=((ca*32:Nat):Int) by omega]
    rfl
   rw[<-hca] at HS hm1
   have hq2:ca*32/xd<=3200000:=Nat.le_trans (Nat.div_le_self _ _) (by omega)
   generalize ca*32/xd=qq at *
   have hqm:((qq:Int)+1)*(den:Int)=(((qq+1)*den:Nat):Int):=by rw[Int.natCast_mul,Int.natCast_add];rfl
   have HY:=ja0 (fun o=>(HX1.out.alloc o).two)
   have hq1:=fun o=>(HY.out o).1
   generalize (qq+1)*den=pr at *
   generalize jv7 xd (xt.take k) den=ms at *
   clear hca HC HM
   go_wp2
   refine⟨⟨k+1,by omega,by go_num,?_,HX1.out.alloc _,Rd.alloc HT1.out (by omega) _,HB1.out.alloc HB1.out.size _⟩,by simp[intOf];omega⟩
   rw[HS.out];simp
  ·obtain rfl:k=xt.length:=by omega
   rw[List.take_length]
   have hm0:=HM.out xt.length
   rw[List.take_length] at hm0
   obtain⟨sg1,sg2⟩:=HSG.out
   have hm2:2<=jv7 xd xt den:=Nat.le_add_right _ _
   generalize jv7 xd xt den=ms at *
   have SG1:=ja0 sg1;have SG2:=ja0 sg2
   have HT2:Hid (ja6 wr w.heap.size A xt.length c xt):=ja0 (Rd.more HT1.out hB)
   clear sg1 sg2 HC HM HT1 HSG
   go_wp2
   go_loopw [8,9] (fun a b W=>∃lo hi:Int,a=.int .i64 lo/\b=.int .i64 hi/\-(ms:Int)<=lo/\lo<hi/\hi<=ms/\(∃s,0<=s/\jc1 (jh2 xt den [(lo,1)] xd) s)/\(∃s,s<0/\jc1 (jh2 xt den [(hi,1)] xd) s) /\
    Blk W w.heap.size 24 #[.int .i64 xd,.slice A xt.length c]/\ja6 W w.heap.size A xt.length c xt/\Below w.heap.size w W) (fun a b _=>(intOf b-intOf a).toNat)
   case atStart=>
    exact⟨-(ms:Int),ms,rfl,rfl,by omega,by omega,by omega,⟨1,by omega,SG1.out⟩,⟨-1,by omega,SG2.out⟩,HX1.out,HT2.out,HB1.out⟩
   case round=>
    obtain⟨lo,hi,rfl,rfl,h1,h2,h3,hs1,hs2,hb,ht,hbl⟩:=hrel
    obtain⟨q1,q2,q3,q4⟩:=hb.two
    have hlw:=hb.lt
    have HX3:=ja0 hb;have HT3:=ja0 ht;have HB3:=ja0 hbl
    have HS1:=ja0 hs1;have HS2:=ja0 hs2
    clear hb ht hbl hs1 hs2 HX1 HT2 HB1
    by_cases hgt:1<hi-lo
    ·obtain⟨h,hh⟩:∃h,(hi-lo).tdiv 2=h:=⟨_,rfl⟩
     have hh2:2*h<=hi-lo/\hi-lo<=2*h+1:=by
      rw[<-hh,Int.tdiv_eq_ediv_of_nonneg (by omega)];omega
     obtain⟨mid,hmid⟩:∃mid,lo+h=mid:=⟨_,rfl⟩
     have hmr:lo<mid/\mid<hi:=by omega
     have hmx:-400000000000000000<=mid*xd/\mid*xd<=400000000000000000:=by
      have h4:(mid*(xd:Int)).natAbs<=ms*xd:=by
       rw[Int.natAbs_mul,Int.natAbs_natCast]
       exact Nat.mul_le_mul_right _ (by omega)
      omega
     have HL:=ja0 (HLS.out mid wr ⟨by omega,by omega,hmx⟩ HT3.out (by omega))
     have HSM:=ja0 (HSI.out mid hmx)
     have hq1:=fun o=>((HX3.out.alloc o).two).1
     have HBa:=ja0 (HB3.out.alloc HB3.out.size (.cells #[.int .i64 mid,.int .i64 1] 59))
     have HXa:=ja0 (HX3.out.alloc (.cells #[.int .i64 mid,.int .i64 1] 59))
     have HTa:=ja0 (Rd.alloc HT3.out (by omega) (.cells #[.int .i64 mid,.int .i64 1] 59))
     clear HLS HSI
     go_wp2_with (first
      | (go_at_call 94;refine HL.out.mono ?_;rintro e w2 ⟨A2,n2,c2,l2,rfl,ht2,hp2,hb2⟩;have HT2:=ja0 ht2;have HP2:=ja0 hp2;have HB2:=ja0 hb2;clear ht2 hp2 hb2)
      | (go_at_call 69;refine(HSM.out _ HP2.out _ _ _ _ _ HT2.out (Nat.le_refl _)).mono ?_;rintro e w3 ⟨s,rfl,hs,hb3⟩;have HS:=ja0 hs;have HB4:=ja0 hb3;clear hs hb3))
     have hz2:=HB2.out.size
     simp only[World.size_alloc] at hz2
     have HB23:Hid (Below (wr.heap.size+1) (wr.alloc (.cells #[.int .i64 mid,.int .i64 1] 59)) w3):=ja0 (by
      have h5:=HB2.out
      rw[World.size_alloc] at h5
      exact h5.trans (HB4.out.mono (by omega)))
     have HX4:=ja0 (HXa.out.below HB23.out (by omega))
     have HT4:=ja0 (Rd.below HTa.out (HB23.out.mono (by omega)))
     have HB5:=ja0 (HBa.out.trans (HB23.out.mono (by omega)))
     ·exact⟨⟨mid,hi,rfl,rfl,by omega,by omega,h3,⟨s,by assumption,HS.out⟩,HS2.out,HX4.out,HT4.out,HB5.out⟩,by simp[intOf];omega⟩
     have hz2:=HB2.out.size
     simp only[World.size_alloc] at hz2
     have HB23:Hid (Below (wr.heap.size+1) (wr.alloc (.cells #[.int .i64 mid,.int .i64 1] 59)) w3):=ja0 (by
      have h5:=HB2.out
      rw[World.size_alloc] at h5
      exact h5.trans (HB4.out.mono (by omega)))
     have HX4:=ja0 (HXa.out.below HB23.out (by omega))
     have HT4:=ja0 (Rd.below HTa.out (HB23.out.mono (by omega)))
     have HB5:=ja0 (HBa.out.trans (HB23.out.mono (by omega)))
     ·exact⟨⟨lo,mid,rfl,rfl,by omega,by omega,by omega,HS1.out,⟨s,by omega,HS.out⟩,HX4.out,HT4.out,HB5.out⟩,by simp[intOf];omega⟩
    ·go_wp2
     go_ret
     have hhi:hi=lo+1:=by omega
     subst hhi
     have h4:(lo*(xd:Int)).natAbs<=ms*xd:=by
      rw[Int.natAbs_mul,Int.natAbs_natCast]
      exact Nat.mul_le_mul_right _ (by omega)
     exact⟨lo,rfl,⟨HS1.out,HS2.out,⟨by omega,by omega⟩,by omega,by omega⟩,HB3.out⟩
def jp3(xd:Int)(xt:List (Int×Int))(den low high c:Int):Prop:=
 (jb3 xd xt=false/\low=0/\high=0/\c=2)\/(jb3 xd xt=true/\inB den 1 1000000000=false/\low=0/\high=0/\c=3) \/
  (jb3 xd xt=true/\inB den 1 1000000000=true/\c=0/\zb0 xd xt den low/\((∃s,0<s/\jc1 (jh2 xt den [(low,1)] xd) s)/\high=low+1\/jc1 (jh2 xt den [(low,1)] xd) 0/\high=low))
theorem zz4 (xd:Int) (A:Option Addr) (n c:Nat) (xt:List (Int×Int)) (den:Int) (B:Nat) (w:World) (hx:ja6 w B A n c xt) (hB:B<=w.heap.size) :
  Calls Tryz.prog 47 #[.agg #[.int .i64 xd,.slice A n c],.int .i64 den] w fun e w'=>∃low high c,e=.returned (.tuple #[.int .i64 low,.int .i64 high,.int .i64 c])/\jp3 xd xt den low high c/\Below w.heap.size w w':=by
 have HV:=ja0 (jba5 xd A n c xt B (w.alloc (.cells #[.int .i64 xd,.slice A n c] 24)) (Rd.alloc hx hB _) (by simp;omega))
 have HT0:=ja0 (Rd.alloc hx hB (.cells #[.int .i64 xd,.slice A n c] 24))
 have HX0:=ja0 (Blk.new w 24 #[.int .i64 xd,.slice A n c])
 have HB0:=ja0 ((Below.refl w.heap.size w).alloc (Nat.le_refl _) (.cells #[.int .i64 xd,.slice A n c] 24))
 simp only[World.size_alloc] at HV
 clear hx
 go_enter Tryz.func47,Tryz.ntmps47
 go_wp2_with fail
 refine HV.out.mono ?_
 rintro e w1 ⟨rfl,hb1⟩
 (try simp only[World.size_alloc] at hb1)
 have HX1:=ja0 (HX0.out.below hb1 (by omega))
 have HT1:=ja0 (HT0.out.below (hb1.mono (by omega)))
 have HB1:=ja0 (HB0.out.trans (hb1.mono (by omega)))
 have hz1:=hb1.size
 (try simp only[World.size_alloc] at hz1)
 obtain⟨q1,q2,q3,q4⟩:=HX1.out.two
 clear HV HX0 HT0 HB0 hb1
 cases hok:jb3 xd xt
 ·go_wp2
  go_ret3
  exact⟨0,0,2,rfl,.inl ⟨hok,rfl,rfl,rfl⟩,HB1.out⟩
 ·have HOK:=ja0 hok
  clear hok
  cases hd:inB den 1 1000000000
  ·have HD:=ja0 hd
   clear hd
   go_wp2_with (first
    | (go_at_call 60;refine(jh1 _ _ _ _).mono ?_;rintro e w2 ⟨rfl,rfl⟩;rw[HD.out]))
   go_ret3
   exact⟨0,0,3,rfl,.inr (.inl ⟨HOK.out,HD.out,rfl,rfl,rfl⟩),HB1.out⟩
  ·have HD:=ja0 hd
   have hd2:1<=den/\den<=1000000000:=by simpa [inB] using hd
   obtain⟨px1,px2,px3,px4⟩:=jb2 HOK.out
   have hro:=(jc9 HOK.out).1
   have hbx:∀t∈xt,-400000000000000000<=t.1*den/\t.1*den<=400000000000000000:=fun t ht=>by
    have:=jc2 (a:=t.1) (b:=den) (A:=100000) (B:=1000000000) (px4 t ht).1.2.2.2 ⟨by omega,by omega⟩
    omega
   obtain⟨xdn,hxdn⟩:=Int.eq_ofNat_of_zero_le (show 0<=xd by omega)
   obtain⟨dn,hdn⟩:=Int.eq_ofNat_of_zero_le (show 0<=den by omega)
   subst hxdn
   subst hdn
   have HBL:=ja0 (jdj0 xdn A n c xt dn B w1 HT1.out (by omega) HOK.out (by omega) (by omega))
   have HLS:=ja0 (fun(mid:Int) (W:World) (hmid:-400000000000000000<=mid*xdn/\mid*xdn<=400000000000000000) (h:ja6 W B A n c xt) (hW:B<=W.heap.size)=>
    jbg3 A n c xt dn (some ⟨W.heap.size,0,none⟩) 1 1 [(mid,1)] xdn (W.heap.size+1) (W.alloc (.cells #[.int .i64 mid,.int .i64 1] 59)) (Rd.more (Rd.alloc h hW _) (by omega)) (jav5 W mid) (by simp) px3 (by simp) hbx (fun t ht=>by
     simp only[List.mem_singleton] at ht;subst ht;exact hmid))
   have HSI:=ja0 (fun(mid:Int) (hmid:-400000000000000000<=mid*xdn/\mid*xdn<=400000000000000000) l hp B A n c w h hB=>jat2 (l:=l) (yt:=[(mid,1)]) hp hro (fun t ht=>by simp only[List.mem_singleton] at ht;subst ht;exact zv0) px3 (by simp) hbx (fun t ht=>by simp only[List.mem_singleton] at ht;subst ht;exact hmid) B A n c w h hB)
   have HBD:=ja0 (fun r (hr:zb0 xdn xt dn r)=>hr.2.2)
   clear hd px4 hro hbx px1 px3
   go_wp2_with (first
    | (go_at_call 60;refine(jh1 _ _ _ _).mono ?_;rintro e w2 ⟨rfl,rfl⟩;rw[HD.out])
    | (go_at_call 93;refine HBL.out.mono ?_;rintro e w2 ⟨r,rfl,hr,hb2⟩;have HR:=ja0 hr;have HB2:=ja0 hb2;clear hr hb2
       have hrb:=(HBD.out r HR.out).1
       have hrx:-400000000000000000<=r*xdn/\r*xdn<=400000000000000000:=(HBD.out r HR.out).2
       have HX2:=ja0 (HX1.out.below HB2.out HX1.out.lt)
       have HT2:=ja0 (HT1.out.below (HB2.out.mono (by omega)))
       have hz2:=HB2.out.size
       have hqa:=fun o=>((HX2.out.alloc o).two).1
       obtain⟨u1,u2,u3,u4⟩:=HX2.out.two
       have HL:=ja0 (HLS.out r w2 hrx HT2.out (by omega))
       have HSM:=ja0 (HSI.out r hrx)
       have HB3:=ja0 ((HB1.out.trans (HB2.out.mono (by omega))).alloc (by omega) (.cells #[.int .i64 r,.int .i64 1] 59)))
    | (go_at_call 94;refine HL.out.mono ?_;rintro e w3 ⟨A2,n2,c2,l2,rfl,ht2,hp2,hb2⟩;have HT3:=ja0 ht2;have HP3:=ja0 hp2;have HB4:=ja0 hb2;clear ht2 hp2 hb2)
    | (go_at_call 69;refine(HSM.out _ HP3.out _ _ _ _ _ HT3.out (Nat.le_refl _)).mono ?_;rintro e w4 ⟨s,rfl,hs,hb3⟩;have HS:=ja0 hs;have HB5:=ja0 hb3;clear hs hb3))
   all_goals
    have hz3:=HB4.out.size
    simp only[World.size_alloc] at hz3
    have hB6:Below w.heap.size w w4:=(HB3.out.trans (HB4.out.mono (by simp;omega))).trans (HB5.out.mono (by omega))
    go_ret3
   ·exact⟨r,r+1,0,rfl,.inr (.inr ⟨HOK.out,HD.out,rfl,HR.out,.inl ⟨⟨s,by assumption,HS.out⟩,rfl⟩⟩),hB6⟩
   ·refine⟨r,r,0,rfl,.inr (.inr ⟨HOK.out,HD.out,rfl,HR.out,.inr ⟨?_,rfl⟩⟩),hB6⟩
    obtain⟨s2,h1,h2⟩:=HR.out.1
    have h3:=jc1.unique h2 HS.out
    have:s=0:=by omega
    rw[<-this];exact HS.out
theorem jz0{a r s:Int}(h:jc1 [(a,r)] s):(a=0/\s=0)\/(0<a/\s=1)\/(a<0/\s=-1):=by
 unfold jc1 at h
 by_cases h0:a=0
 ·subst h0
  rcases h with⟨_,h⟩|⟨h,_⟩
  ·exact .inl ⟨rfl,h⟩
  ·simp[nzT] at h
 ·have hf:[(a,r)].filter nzT=[(a,r)]:=by simp[nzT,h0]
  rw[hf] at h
  rcases h with⟨h,_⟩|⟨_,hs,k,hk⟩
  ·simp at h
  ·unfold jc5 at hk
   rcases Int.lt_or_le a 0 with ha|ha
   ·right;right
    simp only[jn6,jj0,jn5,jj1,List.map_cons,List.map_nil,ha,if_true,List.sum_cons,List.sum_nil,Nat.add_zero] at hk
    rw[if_neg (by omega)] at hk
    split at hk
    ·exact⟨ha,hk.symm⟩
    ·exact absurd hk.symm hs
   ·right;left
    have hna:¬a<0:=by omega
    simp only[jn6,jj0,jn5,jj1,List.map_cons,List.map_nil,hna,if_false,List.sum_cons,List.sum_nil,Nat.add_zero] at hk
    split at hk
    ·exact⟨by omega,hk.symm⟩
    ·rw[if_neg (by omega)] at hk
     exact absurd hk.symm hs
theorem jbk3{a b r s:Int}(ha:0<a)(hb:b<0)(hr:0<r)(h:jc1 [(a,1),(b,r)] s):(s=1/\b.natAbs*b.natAbs*r.toNat<a.natAbs*a.natAbs)\/(s=-1/\a.natAbs*a.natAbs<b.natAbs*b.natAbs*r.toNat):=by
 unfold jc1 at h
 have hf:[(a,1),(b,r)].filter nzT=[(a,1),(b,r)]:=by
  have h1:a≠0:=by omega
  have h2:b≠0:=by omega
  simp[nzT,h1,h2]
 rw[hf] at h
 rcases h with⟨h,_⟩|⟨_,hs,k,hk⟩
 ·simp at h
 ·unfold jc5 at hk
  have hna:¬a<0:=by omega
  simp only[jn6,jj0,jn5,jj1,List.map_cons,List.map_nil,hna,hb,if_false,if_true,List.sum_cons,List.sum_nil,Nat.add_zero,Nat.zero_add] at hk
  have hbp:=js8 k
  generalize hB:bits k*bits k=BB at *
  have hBB:0<BB:=by rw[<-hB];exact Nat.mul_pos hbp hbp
  have ea:jz8 (a,1) k=a.natAbs*a.natAbs*BB:=by unfold jz8 sqT;rw[hB];simp
  have eb:jz8 (b,r) k=b.natAbs*b.natAbs*r.toNat*BB:=by unfold jz8 sqT;rw[hB]
  split at hk
  ·rename_i hlt
   refine .inl ⟨hk.symm,?_⟩
   unfold jp9 jg9 at hlt
   rw[ea,eb] at hlt
   have h1:=jan2 (b.natAbs*b.natAbs*r.toNat*BB)
   have h2:=(jy0 (a.natAbs*a.natAbs*BB)).le
   have h3:=Nat.mul_lt_mul_of_lt_of_lt hlt hlt
   have h4:b.natAbs*b.natAbs*r.toNat*BB<a.natAbs*a.natAbs*BB:=by omega
   exact Nat.lt_of_mul_lt_mul_right h4
  ·split at hk
   ·rename_i _ hlt
    refine .inr ⟨hk.symm,?_⟩
    unfold jp9 jg9 at hlt
    rw[ea,eb] at hlt
    have h1:=jan2 (a.natAbs*a.natAbs*BB)
    have h2:=(jy0 (b.natAbs*b.natAbs*r.toNat*BB)).le
    have h3:=Nat.mul_lt_mul_of_lt_of_lt hlt hlt
    have h4:a.natAbs*a.natAbs*BB<b.natAbs*b.natAbs*r.toNat*BB:=by omega
    exact Nat.lt_of_mul_lt_mul_right h4
   ·exact absurd hk.symm hs
theorem jff2{a b r s:Int}(ha:a<=0)(hb:b<0)(h:jc1 [(a,1),(b,r)] s):s=-1:=by
 by_cases h0:a=0
 ·subst h0
  have h2:jc1 [(b,r)] s:=by
   unfold jc1 at h ⊢
   rw[show [((0:Int),(1:Int)),(b,r)].filter nzT=[(b,r)].filter nzT by simp[nzT]] at h
   exact h
  rcases jz0 h2 with⟨h4,_⟩|⟨h4,_⟩|⟨_,h4⟩
  ·omega
  ·omega
  ·exact h4
 ·unfold jc1 at h
  have hf:[(a,1),(b,r)].filter nzT=[(a,1),(b,r)]:=by
   have h2:b≠0:=by omega
   simp[nzT,h0,h2]
  rw[hf] at h
  rcases h with⟨h,_⟩|⟨_,hs,k,hk⟩
  ·simp at h
  ·unfold jc5 at hk
   have hna:a<0:=by omega
   simp only[jn6,jj0,jn5,jj1,List.map_cons,List.map_nil,hna,hb,if_true,List.sum_cons,List.sum_nil,Nat.add_zero] at hk
   rw[if_neg (by omega)] at hk
   split at hk
   ·exact hk.symm
   ·exact absurd hk.symm hs
theorem jck9(a b m v k:Int):jh2 [(a,1),(b,2)] m [(v,1)] k=[(a*m+v*-k,1),(b*m,2)]:=by
 rfl
theorem jan4(a m v k:Int):jh2 [(a,1)] m [(v,1)] k=[(a*m+v*-k,1)]:=by
 rfl
end Go.Proofs.YtphcodcdfeohhaaGreatDoor
