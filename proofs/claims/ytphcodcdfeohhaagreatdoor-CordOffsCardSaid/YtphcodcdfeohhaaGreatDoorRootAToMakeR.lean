import Derived.Test.YtphcodcdfeohhaaGreatDoorQuoB
import Derived.Test.YtphcodcdfeohhaaGreatDoorMakeAToCom
import Derived.Test.YtphcodcdfeohhaaGreatDoorRefH
set_option linter.unusedVariables false
set_option linter.unusedSimpArgs false
namespace Go.Proofs.YtphcodcdfeohhaaGreatDoor
set_option maxRecDepth 100000
set_option maxHeartbeats 4000000
open Go.RowKit
theorem jfp5{r n:Nat}(h1:r*r<=n)(h2:n<(r+1)*(r+1)):r=isq n:=Nat.le_antisymm (jat1 h1) (zn1 (jy1 n) h2)
def bitW(j:Nat):Nat:=if j=0 then 0 else 2 ^ (j-1)
theorem jbr8(j:Nat):bitW (j+1)=2 ^ j:=by unfold bitW;rw[if_neg (by omega)];rfl
theorem jdj2(j:Nat):bitW (j+1)/2=bitW j:=by
 rw[jbr8]
 unfold bitW
 cases j with
 | zero=>rfl
 | succ j=>rw[if_neg (by omega),Nat.pow_succ,Nat.mul_div_cancel _ (by omega)];rfl
theorem jdt4(n:Nat)(w:World)(hn:n<=1000000000000):Calls Tryz.prog 66 #[.int .i64 n] w fun e w'=>e=.returned (.int .i64 (isq n))/\∃q,w'=w.drewN q:=by
 go_enter Tryz.func66,Tryz.ntmps66
 go_wp2
 go_loopw [3,4] (fun a b W=>∃(j r:Nat),j<=32/\a=.int .i64 r/\b=.int .i64 (bitW j)/\r*r<=n/\n<(r+2 ^ j)*(r+2 ^ j)/\∃q,W=w.drewN q) (fun _ b _=>(intOf b).toNat)
 case atStart=>exact⟨32,0,by omega,rfl,rfl,by omega,by omega,0,rfl⟩
 case round=>
  obtain⟨j,r,hj,rfl,rfl,h1,h2,q,rfl⟩:=hrel
  cases j with
  | zero=>
   have hb:bitW 0=0:=rfl
   rw[hb]
   have hr:=ja0 (jfp5 h1 (by simpa using h2))
   go_wp2
   go_ret
   refine⟨?_,q,rfl⟩
   rw[<-hr.out];rfl
  | succ j=>
   have hb:=jbr8 j
   have hh:=jdj2 j
   have hbl:2 ^ j<=2 ^ 31:=Nat.pow_le_pow_right (by omega) (by omega)
   have hbp:1<=2 ^ j:=Nat.one_le_two_pow
   have hrl:r<=1000000:=by
    rcases Nat.lt_or_ge 1000000 r with h|h
    ·have:=Nat.mul_le_mul h h;omega
    ·exact h
   rw[Nat.pow_succ] at h2
   rw[hb] at hh ⊢
   obtain⟨b,hbe⟩:∃b,2 ^ j=b:=⟨_,rfl⟩
   have HBE:=ja0 hbe
   rw[hbe] at hh hbl hbp h2 ⊢
   clear hbe hb
   have hsq:(r+b)*(r+b)<=(1000000+2 ^ 31)*(1000000+2 ^ 31):=Nat.mul_le_mul (by omega) (by omega)
   have hcast:((r:Int)+(b:Int))*((r:Int)+(b:Int))=(((r+b)*(r+b):Nat):Int):=by rw[Int.natCast_mul,Int.natCast_add]
   by_cases hc:(r+b)*(r+b)<=n
   ·have HC:=ja0 hc
    have e1:(r+b+b)*(r+b+b)=(r+b*2)*(r+b*2):=by rw[show r+b+b=r+b*2 by omega]
    generalize hsq2:(r+b)*(r+b)=sq at *
    have HSQ:=ja0 hsq2
    clear hsq2
    go_wp2
    refine⟨⟨j,r+b,by omega,rfl,?_,by rw[HSQ.out];exact HC.out,by rw[HBE.out,e1];exact h2,q,rfl⟩,by simp[intOf];omega⟩
    rw[<-hh];simp
   ·generalize hsq2:(r+b)*(r+b)=sq at *
    have HSQ:=ja0 hsq2
    clear hsq2
    go_wp2
    refine⟨⟨j,r,by omega,rfl,?_,h1,by rw[HBE.out,HSQ.out];omega,q,rfl⟩,by simp[intOf];omega⟩
    rw[<-hh];simp
def jm2(kv:List (Int×Int))(num den sign:Int):List (Int×Int):=
 if 0<num then addS kv ((jb0 (num*den).toNat).2:Int) (sign*((jb0 (num*den).toNat).1:Int))else kv
theorem jaa6 (b:Nat) (kv:List (Int×Int)) (num den sign:Int) (w:World) (h:jj9 w b kv) (hd:1<=den/\den<=200000) (hn:-200000<=num/\num<=200000) (hs:-1<=sign/\sign<=1) (h2:∀r,-1000000000000000000<=jd4 kv r/\jd4 kv r<=1000000000000000000) :
  Calls Tryz.prog 65 #[.agg #[.int .i64 num,.int .i64 den],.map (some b),.int .i64 sign] w fun e w'=>e=.returned (.tuple #[])/\jj9 w' b (jm2 kv num den sign)/\w.grownBy w' (some b):=by
 have HX:=ja0 (Blk.new w 108 #[.int .i64 num,.int .i64 den])
 have hlt:=jb7.lt h
 obtain⟨q1,q2,_,_⟩:=HX.out.two
 by_cases hp:0<num
 ·obtain⟨nn,hnn⟩:=Int.eq_ofNat_of_zero_le (show 0<=num*den from Int.mul_nonneg (by omega) (by omega))
  have hm:=jc2 (a:=num) (b:=den) (A:=200000) (B:=200000) hn ⟨by omega,by omega⟩
  have hm1:(1:Int)*1<=num*den:=Int.mul_le_mul (by omega) (by omega) (by omega) (by omega)
  have hnb:1<=nn/\nn<=40000000000:=by omega
  have HA:=ja0 (show jm2 kv num den sign=addS kv ((jb0 nn).2:Int) (sign*((jb0 nn).1:Int)) by unfold jm2;rw[if_pos hp,hnn,Int.toNat_natCast])
  have h3:=h2 ((jb0 nn).2:Int)
  have HU:=ja0 (jab6 kv ((jb0 nn).2:Int) (sign*((jb0 nn).1:Int)))
  have HG:=ja0 (zj0 kv ((jb0 nn).2:Int))
  have HS:=ja0 (fun w=>jaf0 nn w (by omega) (by omega))
  have hle:=jad9 nn hnb.1
  have HI:=ja0 (jb7.alloc h (.cells #[.int .i64 num,.int .i64 den] 108))
  have hmm:=jc2 (a:=sign) (b:=((jb0 nn).1:Int)) (A:=1) (B:=40000000000) (by omega) ⟨by omega,by omega⟩
  clear h h2
  generalize (jb0 nn).1=sq at *
  generalize (jb0 nn).2=rest at *
  generalize jd4 kv (rest:Int)=gv at *
  have hcs:-9000000000000000000<=gv+sign*(sq:Int)/\gv+sign*(sq:Int)<=9000000000000000000:=by omega
  have hcm:-9000000000000000000<=sign*(sq:Int)/\sign*(sq:Int)<=9000000000000000000:=by omega
  have hcn:-9000000000000000000<=num*den/\num*den<=9000000000000000000:=by omega
  go_enter Tryz.func65,Tryz.ntmps65
  go_wp2_with (first
   | (go_at_call 96;refine(HS.out _).mono ?_;rintro e w' ⟨rfl,q,rfl⟩)
   | (at_lookup;refine jv2 _ rfl _ _ _ rfl Tryz.underlying104 Tryz.underlying3 (.int .i64 0) Tryz.zeroValue3 b (jk5 kv) _ rfl rfl (jb7.drewN HI.out _) ?_;rw[HG.out])
   | (at_mapUpdate;refine jv3 _ rfl _ _ _ _ rfl Tryz.underlying104 Tryz.underlying3 b (jk5 kv) _ (.int .i64 (gv+sign*(sq:Int))) rfl rfl rfl (jb7.drewN HI.out _) ?_;intro w2 hm2 hg2 hz2))
  go_end0
  refine⟨rfl,?_,jt2 (jam8 (jt1 (World.grownBy.refl w _) _) _) hg2 (fun _ _=>.inl rfl)⟩
  unfold jj9
  rw[HA.out,<-HU.out]
  exact hm2
 ·have HA:=ja0 (show jm2 kv num den sign=kv by unfold jm2;rw[if_neg hp])
  have H:=ja0 h;clear h
  clear h2
  go_enter Tryz.func65,Tryz.ntmps65
  go_wp2
  go_end0
  exact⟨rfl,by rw[HA.out];exact jb7.alloc H.out _,jt1 (World.grownBy.refl w _) _⟩
theorem jfp0{ts:List (Int×Int)}{k:Nat}(hk:k<ts.length)(h:badT ts[k]=true):ts.any badT=true:=List.any_eq_true.2 ⟨_,List.getElem_mem hk,h⟩
theorem jdv3{ts:List (Int×Int)}{k:Nat}(hk:k<ts.length)(h:(ts.take k).any badT=false)(h':badT ts[k]=false):(ts.take (k+1)).any badT=false:=by
 rw[jb8 _ k hk,List.any_append,h]
 simp[h']
theorem jcp5 (den:Int) (A:Option Addr) (n c B:Nat) (ts:List (Int×Int)) (w:World) (hR:jd1 w B A n c ts) (hB:B<=w.heap.size) :
  Calls Tryz.prog 137 #[.int .i64 den,.slice A n c] w (jd0 w (zj6 den ts)):=by
 have hm:=Rq.nmax hR
 have hl:=hR.len
 subst hl
 obtain⟨w0,hw0⟩:∃w0,w0=w.alloc (.cells #[.int .i64 0,.slice none 0 0] 24):=⟨_,rfl⟩
 have hz0:w0.heap.size=w.heap.size+1:=by rw[hw0];simp
 have HX0:Hid (Blk w0 w.heap.size 24 #[.int .i64 0,.slice none 0 0]):=ja0 (by rw[hw0];exact Blk.new w _ _)
 have HB0:Hid (Below w.heap.size w w0):=ja0 (by rw[hw0];exact(Below.refl _ _).alloc (Nat.le_refl _) _)
 have HT0:Hid (jd1 w0 B A ts.length c ts):=ja0 (Rq.below hR (HB0.out.mono hB))
 obtain⟨res,hres⟩:∃res,zj6 den ts=res:=⟨_,rfl⟩
 rw[hres]
 have hpost:∀(W:World) (a:Act) (A':Option Addr) (n' c':Nat) (x y:Int) (l:List (Int×Int)),res=(x,l,y)->W.ownsRow w.heap.size 59 2 (.slice A' n' c') n' (jb4 l)->Below w.heap.size w W->Blk W w.heap.size 24 #[.int .i64 x,.slice A' n' c'] ->
   a.tmps.getD 4 undef=.pointer (some ⟨w.heap.size,0,none⟩)->a.tmps.getD 5 undef=.int .i64 y->a.defers=[]->bodyPost Tryz.prog Tryz.f137 (jd0 w res) .ret a W:=by
  intro W a A' n' c' x y l e1 e2 e3 e4 e5 e6 e7
  refine ja8 (p:=4) (u:=5) (ty:=24) rfl e5 e4 Tryz.underlying24 rfl Tryz.sizeNumber e7 ?_
  rw[e1,e6]
  exact⟨A',n',c',rfl,e2,e3⟩
 have HPOST:=ja0 hpost
 have HW:=ja0 (fun W=>zj2 den 1 100000 W)
 unfold zj6 at hres
 clear hR hpost
 obtain⟨r0,r1,rf0,rf1⟩:=HX0.out.two
 go_enter Tryz.func137,Tryz.ntmps137
 go_upto_region 1 with fail
 rw[<-hw0]
 clear hw0
 by_cases h16:16<(ts.length:Int)
 ·rw[if_pos (by omega)] at hres
  have HV:=ja0 hres.symm
  clear hres HW
  go_wp2
  exact HPOST.out _ _ none 0 0 0 5 [] HV.out ⟨rfl,.inl ⟨rfl,rfl⟩⟩ (Below.setCell (Below.setCell HB0.out (p:=⟨w.heap.size,0,none⟩) (Nat.le_refl _) _) (p:=⟨w.heap.size,1,none⟩) (Nat.le_refl _) _) ((HX0.out.set_ 0 _).set_ 1 _) rfl rfl rfl
 rw[if_neg (by omega)] at hres
 cases hd:inB den 1 100000
 ·rw[if_pos (.inl hd)] at hres
  rw[hd] at HW
  have HV:=ja0 hres.symm
  clear hres hd
  go_wp2_with (first
   | (go_at_call 82;refine(HW.out _).mono ?_;rintro e w1 ⟨rfl,hw1⟩;subst w1))
  exact HPOST.out _ _ none 0 0 0 2 [] HV.out ⟨rfl,.inl ⟨rfl,rfl⟩⟩ (Below.setCell (Below.setCell HB0.out (p:=⟨w.heap.size,0,none⟩) (Nat.le_refl _) _) (p:=⟨w.heap.size,1,none⟩) (Nat.le_refl _) _) ((HX0.out.set_ 0 _).set_ 1 _) rfl rfl rfl
 rw[hd] at HW
 have hdb:1<=den/\den<=100000:=by simpa [inB] using hd
 have HBAD:=ja0 (show ts.any badT=true->res=(0,[],2)from fun h=>by rw[<-hres,if_pos (.inr h)])
 have HGOOD:=ja0 (show ts.any badT=false->res=jab3 den ts from fun h=>by rw[<-hres,if_neg (by rintro(h'|h');rw[hd] at h';cases h';rw[h] at h';cases h')];rfl)
 clear hres hd
 go_wp2_with (first
  | (go_at_call 82;refine(HW.out _).mono ?_;rintro e w1 ⟨rfl,hw1⟩;subst w1))
 go_loopw [6] (fun i W=>∃k:Nat,k<=ts.length/\i=.int .i64 k/\(ts.take k).any badT=false/\W=w0) (fun i _=>ts.length-(intOf i).toNat)
 case atStart=>exact⟨0,by omega,rfl,rfl,rfl⟩
 case round=>
  obtain⟨k,hk,rfl,hnb,rfl⟩:=hrel
  by_cases hkl:(k:Int)<(ts.length:Int)
  ·have hk1:k<ts.length:=by omega
   obtain⟨ad,rfl,had,ha0,ha1⟩:=jd1.at_ HT0.out hk1
   have HB1:=ja0 (fun h=>HBAD.out (jfp0 hk1 h))
   have HB2:=ja0 (jdv3 hk1 hnb)
   clear hnb
   generalize ts[k]=t at *
   obtain⟨co,ro⟩:=t
   dsimp only at ha0 ha1
   have HC:=ja0 (fun W=>zj2 co (-100000) 100000 W)
   have HR:=ja0 (fun W=>zj2 ro 0 1000 W)
   have HV:Hid (badT (co,ro)=(!(inB co (-100000) 100000) || !(inB ro 0 1000))):=ja0 rfl
   cases hc:inB co (-100000) 100000
   ·rw[hc] at HC HV
    have HV2:=ja0 (HB1.out (by rw[HV.out];rfl))
    go_wp2_with (first
     | (go_at_call_of 82 co;refine(HC.out _).mono ?_;rintro e w1 ⟨rfl,hw1⟩;subst w1))
    exact HPOST.out _ _ none 0 0 0 2 [] HV2.out ⟨rfl,.inl ⟨rfl,rfl⟩⟩ (Below.setCell (Below.setCell HB0.out (p:=⟨w.heap.size,0,none⟩) (Nat.le_refl _) _) (p:=⟨w.heap.size,1,none⟩) (Nat.le_refl _) _) ((HX0.out.set_ 0 _).set_ 1 _) rfl rfl rfl
   rw[hc] at HC HV
   cases hr:inB ro 0 1000
   ·rw[hr] at HR HV
    have HV2:=ja0 (HB1.out (by rw[HV.out];rfl))
    go_wp2_with (first
     | (go_at_call_of 82 co;refine(HC.out _).mono ?_;rintro e w1 ⟨rfl,hw1⟩;subst w1)
     | (go_at_call_of 82 ro;refine(HR.out _).mono ?_;rintro e w1 ⟨rfl,hw1⟩;subst w1))
    exact HPOST.out _ _ none 0 0 0 2 [] HV2.out ⟨rfl,.inl ⟨rfl,rfl⟩⟩ (Below.setCell (Below.setCell HB0.out (p:=⟨w.heap.size,0,none⟩) (Nat.le_refl _) _) (p:=⟨w.heap.size,1,none⟩) (Nat.le_refl _) _) ((HX0.out.set_ 0 _).set_ 1 _) rfl rfl rfl
   rw[hr] at HR HV
   have HV2:=ja0 (HB2.out (by rw[HV.out];rfl))
   go_wp2_with (first
    | (go_at_call_of 82 co;refine(HC.out _).mono ?_;rintro e w1 ⟨rfl,hw1⟩;subst w1)
    | (go_at_call_of 82 ro;refine(HR.out _).mono ?_;rintro e w1 ⟨rfl,hw1⟩;subst w1))
   exact⟨⟨k+1,by omega,by go_num,HV2.out,trivial⟩,by simp[intOf];omega⟩
  ·obtain rfl:k=ts.length:=by omega
   rw[List.take_length] at hnb
   have PT:=ja0 (fun t (ht:t∈ts)=>(show badT t=false by
    have h:=List.any_eq_false.1 hnb t ht
    simpa using h))
   have HV:=ja0 (HGOOD.out hnb)
   have HPP:=ja0 (zt9 den 100000000 A ts.length c B ts wr HT0.out (by omega) (by omega) (by omega) (by omega) (fun t ht=>by have:=jcg3 (PT.out t ht);omega) (by decide) (fun t ht=>by have:=jfa6 (PT.out t ht);rwa [Int.mul_one] at this) (by omega))
   rw[<-HV.out] at HPP
   clear HV HGOOD HBAD PT
   obtain⟨s1,s2,s3⟩:=res
   go_wp2_with (first
    | (go_at_call 89;refine HPP.out.mono ?_;rintro e w5 ⟨A5,n5,c5,rfl,ho5,hb5⟩
       have hz5:=hb5.size
       have HR5:=ja0 (HX0.out.below hb5 (by omega));have HB5:=ja0 (HB0.out.trans (hb5.mono (by omega)));have HO5:=ja0 ho5
       obtain⟨q0,q1,qf0,qf1⟩:=HR5.out.two
       clear hb5 ho5))
   exact HPOST.out _ _ A5 n5 c5 s1 s3 s2 rfl (jd3 (ownsRow_setCell_below (ownsRow_setCell_below HO5.out (by show w.heap.size<_;omega) _) (by show w.heap.size<_;omega) _) (by omega))
    (Below.setCell (Below.setCell HB5.out (p:=⟨w.heap.size,0,none⟩) (Nat.le_refl _) _) (p:=⟨w.heap.size,1,none⟩) (Nat.le_refl _) _) ((HR5.out.set_ 0 _).set_ 1 _) rfl rfl rfl
end Go.Proofs.YtphcodcdfeohhaaGreatDoor
