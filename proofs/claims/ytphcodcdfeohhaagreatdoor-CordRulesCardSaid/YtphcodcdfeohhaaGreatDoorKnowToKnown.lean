import Derived.Test.YtphcodcdfeohhaaGreatDoorRuleToSqr
import Derived.Test.YtphcodcdfeohhaaGreatDoorCordW
set_option linter.all false
namespace Go.Proofs.YtphcodcdfeohhaaGreatDoor
set_option maxRecDepth 100000
set_option maxHeartbeats 8000000
open Go.RowKit
theorem jam9:ja8 ⟨#[49,43,49,47,51]⟩=(1,[(false,[3])],0):=by decide +kernel
theorem jba4:jg2 2 100=(140,99,0):=by decide +kernel
theorem jam8:jac2 1 [(false,[3])] 2 2=(1,[(false,[3]),(false,[3,4]),(true,[3,4,34])],0):=by decide +kernel
theorem jca2:ZO 1 [(false,[3]),(false,[3,4]),(true,[3,4,34])]=true:=by decide +kernel
theorem jba6:qH 1 [(false,[3]),(false,[3,4]),(true,[3,4,34])]=[49,43,49,47,51,43,49,47,51,42,52,45,49,47,51,42,52,42,51,52]:=by decide +kernel
theorem jan1:Jk 1 [(false,[3]),(false,[3,4]),(true,[3,4,34])]=(408,[(577,1)],0):=by decide +kernel
theorem jba5:zd2 (jI 2).1 (jI 2).2=(1,[(1,2)],0):=by decide +kernel
theorem jba3:jL 408 [(577,1)] 1 [(1,2)] (-1)=(408,[(577,1),(-408,2)],0):=by
 have hk:ju (ju [] [(577,1)] 1) [(1,2)] (-1*408)=[(1,577),(2,-408)]:=by decide +kernel
 have hG:jU [(1,577),(2,-408)] (408*1)=1:=by decide +kernel
 have hT:Qp [(1,577),(2,-408)] (408*1)=[(577,1),(-408,2)]:=by
  unfold Qp zp
  rw[hG,show((List.filter nz [((1:Int),(577:Int)),(2,-408)]).map (·.1))=[1,2] from by decide +kernel,jcf3]
  decide +kernel
 unfold jL
 rw[if_pos (by decide +kernel),hk]
 unfold jY
 rw[hT,hG]
 decide +kernel
theorem jay2{low:Int}(h:jd0 408 [(577,1),(-408,2)] 1000000 low):low=2:=by
 obtain⟨⟨s,hs,h1⟩,⟨s2,hs2,h2⟩,h3,_⟩:=h
 rw[jan6] at h1 h2
 have hA:0<577*1000000+low*-408:=by
  rcases Int.lt_or_le 0 (577*1000000+low*-408)with h|h
  ·exact h
  ·exfalso
   have h4:=jcf1 h (by decide) h1
   omega
 rcases zn7 hA (by decide) (by decide) h1 with⟨rfl,h4⟩|⟨rfl,_⟩
 ·have h5:(577*1000000+low*-408).natAbs=(577*1000000+low*-408).toNat:=by omega
  have h6:low<=2:=by
   rcases Int.lt_or_le 2 low with h|h
   ·exfalso
    have h7:(577*1000000+low*-408).natAbs<=576998776:=by omega
    have h8:=Nat.mul_le_mul h7 h7
    have h9:(-408*1000000:Int).natAbs*(-408*1000000:Int).natAbs*(2:Int).toNat=332928000000000000:=by decide
    rw[h9] at h4
    omega
   ·exact h
  have hA2:0<577*1000000+(low+1)*-408:=by omega
  rcases zn7 hA2 (by decide) (by decide) h2 with⟨rfl,_⟩|⟨rfl,h10⟩
  ·omega
  ·rcases Int.lt_or_le low 2 with h|h
   ·exfalso
    have h7:576999184<=(577*1000000+(low+1)*-408).natAbs:=by omega
    have h8:=Nat.mul_le_mul h7 h7
    have h9:(-408*1000000:Int).natAbs*(-408*1000000:Int).natAbs*(2:Int).toNat=332928000000000000:=by decide
    rw[h9] at h10
    omega
   ·omega
 ·omega
theorem jbn1{low high c:Int}(h:jbv1 408 [(577,1)] 2 1000000 low high c):low=2/\high=3/\c=0:=by
 obtain⟨r,hd,hb⟩:=h
 have hr:r=(408,[(577,1),(-408,2)],0):=by
  rcases hd with⟨h1,_⟩|⟨_,h1,_⟩|⟨_,_,r',hr',rfl⟩
  ·exact absurd h1 (by decide +kernel)
  ·exact absurd h1 (by decide +kernel)
  ·have hr2:r'=(1,[(1,2)],0):=by
    rcases hr' with⟨h1,_⟩|⟨_,s,hs,h2⟩
    ·exact absurd h1 (by decide +kernel)
    ·have hs1:s=1:=by
      have h3:jA [(2,1)] s:=hs
      rcases Zp h3 with⟨h4,_⟩|⟨_,h4⟩|⟨h4,_⟩
      ·omega
      ·exact h4
      ·omega
     subst hs1
     rcases h2 with⟨h4,_⟩|⟨h4,_⟩|⟨_,h4⟩
     ·omega
     ·omega
     ·rw[h4,jba5]
   rw[hr2]
   exact jba3
 subst hr
 rcases hb with⟨h1,_⟩|⟨_,h1⟩
 ·exact absurd rfl h1
 ·rcases h1 with⟨h1,_⟩|⟨_,h1,_⟩|⟨_,_,hc,hbl,hh⟩
  ·exact absurd h1 (by decide +kernel)
  ·exact absurd h1 (by decide +kernel)
  ·have hlow:=jay2 hbl
   subst hlow
   rcases hh with⟨_,hh⟩|⟨hs,_⟩
   ·exact⟨rfl,hh,hc⟩
   ·exfalso
    have h2:jA [(577*1000000+2*-408,1),(-408*1000000,2)] 0:=by rw[<-jan6];exact hs
    rcases zn7 (by decide) (by decide) (by decide) h2 with⟨h3,_⟩|⟨h3,_⟩<;>omega
theorem zh4 {xd a den low high c:Int} (hok:js xd [(a,1)]=true) (hin:zz den 1 1000000000=true) (h:qc xd [(a,1)] den low high c) :
  c=0/\0<=a*den+low*-xd/\a*den+(low+1)*-xd<0/\((0<a*den+low*-xd/\high=low+1)\/(a*den+low*-xd=0/\high=low)):=by
 rcases h with⟨h1,_⟩|⟨_,h1,_⟩|⟨_,_,hc,⟨⟨s,hs,h1⟩,⟨s2,hs2,h2⟩,_⟩,hh⟩
 ·rw[hok] at h1;cases h1
 ·rw[hin] at h1;cases h1
 ·rw[js7] at h1 h2
  refine⟨hc,?_,?_,?_⟩
  ·rcases Zp h1 with⟨h3,_⟩|⟨h3,_⟩|⟨_,h3⟩<;>omega
  ·rcases Zp h2 with⟨_,h3⟩|⟨_,h3⟩|⟨h3,_⟩<;>omega
  ·rcases hh with⟨⟨s3,hs3,h3⟩,h4⟩|⟨h3,h4⟩
   ·rw[js7] at h3
    refine .inl ⟨?_,h4⟩
    rcases Zp h3 with⟨_,h5⟩|⟨h5,_⟩|⟨_,h5⟩<;>omega
   ·rw[js7] at h3
    refine .inr ⟨?_,h4⟩
    rcases Zp h3 with⟨h5,_⟩|⟨_,h5⟩|⟨_,h5⟩<;>omega
theorem jan0:jp0 ([(λx _=>jc7 x.1 x.2 (jI 4).1 (jI 4).2),(λx y=>jn7 x.1 x.2 y.1 y.2)]++[λx _=>jL x.1 x.2 (jI 1).1 (jI 1).2 (-1)]) (225,[(169,1)]) (225,[(169,1)]) (7,[(22,1)]) (71,[(223,1)])=((2475,[(-109,1)]),(50175,[(-2179,1)]),0):=by decide +kernel
theorem jad3{low high c:Int}(h:zv4 (15,[(13,1)]) (71,[(223,1)]) (7,[(22,1)]) 10000 low high c):low=-441/\high=-434/\c=0:=by
 obtain⟨r,⟨s,e,hs,hr⟩,hh⟩:=h
 have hs0:s=1/\e=0:=by
  rcases hs with⟨_,h1,h2⟩|⟨h1,_⟩
  ·refine⟨?_,h2⟩
   have h3:jA [(13,1)] s:=h1
   rcases Zp h3 with⟨h4,_⟩|⟨_,h4⟩|⟨h4,_⟩<;>omega
  ·exact absurd h1 (by decide +kernel)
 obtain⟨rfl,rfl⟩:=hs0
 have hr0:r=0:=by
  rcases hr with⟨h1,_⟩|⟨_,p,⟨o,e2,s2,f,hc,hs2,hp⟩,hr⟩
  ·exact absurd rfl h1
  ·have ho:o=-1/\e2=0:=by
    rcases hc with⟨_,h1,h2⟩|⟨h1,_⟩
    ·refine⟨?_,h2⟩
     have h3:jA [(223*7+22*-71,1)] o:=by rw[<-js7];exact h1
     rcases Zp h3 with⟨h4,_⟩|⟨h4,_⟩|⟨_,h4⟩<;>omega
    ·exact absurd h1 (by decide +kernel)
   have hs3:s2=1/\f=0:=by
    rcases hs2 with⟨_,h1,h2⟩|⟨h1,_⟩
    ·refine⟨?_,h2⟩
     have h3:jA [(223,1)] s2:=h1
     rcases Zp h3 with⟨h4,_⟩|⟨_,h4⟩|⟨h4,_⟩<;>omega
    ·exact absurd h1 (by decide +kernel)
   obtain⟨rfl,rfl⟩:=ho
   obtain⟨rfl,rfl⟩:=hs3
   have hp1:p=true:=by rw[hp];decide
   rw[hr,if_pos hp1,if_neg (by omega)]
 subst hr0
 rcases hh with⟨h1,_⟩|⟨_,hh⟩
 ·exact absurd rfl h1
 ·rcases hh with⟨h1,_⟩|⟨_,r,hr,hh⟩
  ·exact absurd h1 (by decide +kernel)
  ·have hr2:r=((2475,[(-109,1)]),(50175,[(-2179,1)]),0):=by
    rw[<-hr,<-jan0]
    rw[show jk9 (jc7 (15,[((13:Int),(1:Int))]).1 (15,[((13:Int),(1:Int))]).2 (15,[((13:Int),(1:Int))]).1 (15,[((13:Int),(1:Int))]).2)=(225,[(169,1)])from by decide +kernel]
   subst hr2
   rcases hh with⟨h1,_⟩|⟨_,l1,h1,c1,hb1,hh⟩
   ·exact absurd rfl h1
   ·have hb1':qc 2475 [(-109,1)] 10000 l1 h1 c1:=hb1
    obtain⟨rfl,b1,b2,_⟩:=zh4 (by decide +kernel) (by decide +kernel) hb1'
    rcases hh with⟨h2,_⟩|⟨_,l2,hb2,hlow⟩
    ·exact absurd rfl h2
    ·have hb2':qc 50175 [(-2179,1)] 10000 l2 high c:=hb2
     obtain⟨hc,b3,b4,b5⟩:=zh4 (by decide +kernel) (by decide +kernel) hb2'
     refine⟨?_,?_,hc⟩
     ·omega
     ·rcases b5 with⟨_,b5⟩|⟨b5,_⟩<;>omega
theorem qr(num den:Int)(w:World):Calls Tryz.prog 27 #[.int .i64 num,.int .i64 den] w (QY w (den,[(num,1)])):=by
 have HO1:=ja (λx:Array Value=>(show((w.alloc (.cells x 24)).alloc (.cells #[.int .i64 num,.int .i64 1] 59)).ownsRow (w.heap.size+1) 59 2 (.slice (some ⟨w.heap.size+1,0,none⟩) 1 1) 1 (jr [(num,1)]) by
  have h:=World.ownsRow_lit (base:=w.heap.size+1) (e:=59) (size:=2) (w.alloc (.cells x 24)) #[.int .i64 num,.int .i64 1] 1 (by simp) (by unfold maxLen;omega) rfl
  rw[World.size_alloc] at h
  exact h))
 have HN:=ja (jh.new w 24 #[.int .i64 0,.slice none 0 0])
 have HN2:=ja (HN.o.alloc (.cells #[.int .i64 num,.int .i64 1] 59))
 have HB:=ja (((Below.refl w.heap.size w).alloc (Nat.le_refl _) (.cells #[.int .i64 0,.slice none 0 0] 24)).alloc (by simp) (.cells #[.int .i64 num,.int .i64 1] 59))
 go_enter Tryz.func27,Tryz.ntmps27
 go_wp2
 refine Ji (p:=4) (ty:=24) rfl rfl ((jh.new w _ _).alloc _) (d:=_) rfl Tryz.underlying24 Tryz.sizeNumber rfl ?_
 exact⟨_,_,_,rfl,jO (HO1.o _) (by omega),((Below.refl w.heap.size w).alloc (Nat.le_refl _) _).alloc (by simp) _⟩
theorem jan3 (xd:Int) (A:Option Addr) (n c:Nat) (xt:List (Int×Int)) (yd:Int) (A2:Option Addr) (n2 c2:Nat) (yt:List (Int×Int)) (B:Nat) (w:World) (hx:ji w B A n c xt) (hy:ji w B A2 n2 c2 yt) (hB:B<=w.heap.size) :
  Calls Tryz.prog 21 #[.agg #[.int .i64 xd,.slice A n c],.agg #[.int .i64 yd,.slice A2 n2 c2]] w λe w'=>e=.returned (.bool (decide (xd=yd)&&decide (xt=yt)))/\Below w.heap.size w w':=by
 have hlx:=hx.len
 have hly:=hy.len
 subst hlx
 subst hly
 have hnx:=hx.nmax
 have hny:=hy.nmax
 obtain⟨w0,hw0⟩:∃w0,w0=(w.alloc (.cells #[.int .i64 xd,.slice A xt.length c] 24)).alloc (.cells #[.int .i64 yd,.slice A2 yt.length c2] 24):=⟨_,rfl⟩
 have hz0:w0.heap.size=w.heap.size+2:=by rw[hw0];simp
 have h01:Below w.heap.size w w0:=by rw[hw0];exact((Below.refl _ _).alloc (Nat.le_refl _) _).alloc (by simp) _
 have HX0:Hid (jh w0 w.heap.size 24 #[.int .i64 xd,.slice A xt.length c]):=ja (by rw[hw0];exact(jh.new w _ _).alloc _)
 have HY0:Hid (jh w0 (w.heap.size+1) 24 #[.int .i64 yd,.slice A2 yt.length c2]):=ja (by
  rw[hw0]
  have h:=jh.new (w.alloc (.cells #[.int .i64 xd,.slice A xt.length c] 24)) 24 #[.int .i64 yd,.slice A2 yt.length c2]
  rwa [World.size_alloc] at h)
 have HTX:=ja (Rd.below hx (h01.mono hB));have HTY:=ja (Rd.below hy (h01.mono hB))
 have HB0:=ja h01
 clear hx hy h01
 go_enter Tryz.func21,Tryz.ntmps21
 go_upto_region 1 with fail
 rw[<-hw0]
 clear hw0
 obtain⟨x0,x1,_,_⟩:=HX0.o.two
 obtain⟨y0,y1,_,_⟩:=HY0.o.two
 by_cases hd:xd=yd
 ·by_cases hl:(xt.length:Int)=(yt.length:Int)
  ·go_wp2
   go_loopw [5] (λi W=>∃(k:Nat),k<=xt.length/\i=.int .i64 k/\xt.take k=yt.take k/\∃q,W=w0.drewN q) (λi _=>xt.length-(intOf i).toNat)
   case atStart=>exact⟨0,by omega,rfl,rfl,0,rfl⟩
   case round=>
    obtain⟨k,hk,rfl,hpre,q,rfl⟩:=hrel
    have HPRE:=ja hpre
    have HX:=ja (HX0.o.drewN q);have HY:=ja (HY0.o.drewN q)
    have HTXq:Hid (ji (w0.drewN q) B A xt.length c xt):=ja HTX.o
    have HTYq:Hid (ji (w0.drewN q) B A2 yt.length c2 yt):=ja HTY.o
    have HBq:Hid (Below w.heap.size w (w0.drewN q)):=ja ⟨HB0.o.os,HB0.o.tape,HB0.o.output,HB0.o.size,HB0.o.block⟩
    have HDD:=ja (λp=>dd w0 q p)
    clear hpre x0 x1 y0 y1
    generalize w0.drewN q=W at *
    obtain⟨x0,x1,_,_⟩:=HX.o.two
    obtain⟨y0,y1,_,_⟩:=HY.o.two
    by_cases hkl:(k:Int)<(xt.length:Int)
    ·have hk1:k<xt.length:=by omega
     have hk2:k<yt.length:=by omega
     obtain⟨ad,rfl,ha0,ha1⟩:=HTXq.o.at_ hk1
     obtain⟨ad2,rfl,hb0,hb1⟩:=HTYq.o.at_ hk2
     have hky:(k:Int)<(yt.length:Int):=by omega
     go_wp2
     have hnq:=λW=>jap5 xt[k].1 xt[k].2 yt[k].1 yt[k].2 W
     have hgt:=Tryz.guardTerm
     have htk1:=List.take_succ_eq_append_getElem hk1
     have htk2:=List.take_succ_eq_append_getElem hk2
     by_cases heq:xt[k]=yt[k]
     ·have h1:xt[k].1=yt[k].1:=by rw[heq]
      have h2:xt[k].2=yt[k].2:=by rw[heq]
      have HTK:Hid (xt.take (k+1)=yt.take (k+1)):=ja (by rw[htk1,htk2,HPRE.o,heq])
      rw[h1] at ha0
      rw[h2] at ha1
      simp only[h1,h2] at hnq
      clear htk1 htk2 heq h1 h2
      go_quiet (fail)
      go_wp2
      obtain⟨q2,hq2⟩:=HDD.o nq
      exact⟨⟨k+1,by omega,by go_num,HTK.o,q2,hq2⟩,by simp[intOf];omega⟩
     ·have hne:¬xt=yt:=λe=>heq (by simp only[e])
      have hd2:(decide ((xt[k].1,xt[k].2)=(yt[k].1,yt[k].2)))=false:=decide_eq_false heq
      simp only[hd2] at hnq
      have HNE:=ja hne
      clear htk1 htk2 heq hne hd2
      go_quiet (fail)
      go_wp2
      go_ret
      exact⟨by simp[HNE.o],⟨HBq.o.os,HBq.o.tape,HBq.o.output,HBq.o.size,HBq.o.block⟩⟩
    ·obtain rfl:k=xt.length:=by omega
     go_wp2
     go_ret
     have hpre:=HPRE.o
     rw[List.take_of_length_le (Nat.le_refl _),List.take_of_length_le (by omega)] at hpre
     exact⟨by simp[hd,hpre],HBq.o⟩
  ·go_wp2
   go_ret
   have hne:¬xt=yt:=λe=>hl (by rw[e])
   exact⟨by simp[hd,hne],HB0.o⟩
 ·go_wp2
  go_ret
  exact⟨by simp[hd],HB0.o⟩
def jcs8(x lo hi:Num)(den low high c:Int):Prop:=
 ∃r,jbv0 x.1 x.2 lo.1 lo.2 hi.1 hi.2 r/\((r≠0/\low=0/\high=0/\c=r) \/
  (r=0/\jbf6 x ([(λx y=>jc7 x.1 x.2 y.1 y.2),(λx _=>jn7 x.1 x.2 (jI 4).1 (jI 4).2)]++[λx _=>jL x.1 x.2 (jI 1).1 (jI 1).2 (-1)]) lo hi den low high c))
theorem jcy8 (xd:Int) (A0:Option Addr) (n0 c0:Nat) (xt:List (Int×Int)) (ld:Int) (A:Option Addr) (n c:Nat) (lt:List (Int×Int)) (hd:Int) (A2:Option Addr) (n2 c2:Nat) (ht:List (Int×Int)) (den:Int) (B:Nat) (w:World)
  (hz:ji w B A0 n0 c0 xt) (hx:ji w B A n c lt) (hy:ji w B A2 n2 c2 ht) (hB:B<=w.heap.size) :
  Calls Tryz.prog 9 #[.agg #[.int .i64 xd,.slice A0 n0 c0],.agg #[.int .i64 ld,.slice A n c,.int .i64 hd,.slice A2 n2 c2],.int .i64 den] w λe w'=>
   ∃low high cc,e=.returned (.tuple #[.int .i64 low,.int .i64 high,.int .i64 cc])/\jcs8 (xd,xt) (ld,lt) (hd,ht) den low high cc/\Below w.heap.size w w':=by
 obtain⟨w0,hw0⟩:∃w0,w0=(w.alloc (.cells #[.int .i64 xd,.slice A0 n0 c0] 24)).alloc (.cells #[.int .i64 ld,.slice A n c,.int .i64 hd,.slice A2 n2 c2] 26):=⟨_,rfl⟩
 have hz0:w0.heap.size=w.heap.size+2:=by rw[hw0];simp
 have h01:Below w.heap.size w w0:=by rw[hw0];exact((Below.refl _ _).alloc (Nat.le_refl _) _).alloc (by simp) _
 have HX0:Hid (jh w0 w.heap.size 24 #[.int .i64 xd,.slice A0 n0 c0]):=ja (by rw[hw0];exact(jh.new w _ _).alloc _)
 have HP0:Hid (jh w0 (w.heap.size+1) 26 #[.int .i64 ld,.slice A n c,.int .i64 hd,.slice A2 n2 c2]):=ja (by
  rw[hw0]
  have h:=jh.new (w.alloc (.cells #[.int .i64 xd,.slice A0 n0 c0] 24)) 26 #[.int .i64 ld,.slice A n c,.int .i64 hd,.slice A2 n2 c2]
  rwa [World.size_alloc] at h)
 have HZ:=ja (Rd.below hz (h01.mono hB));have HX:=ja (Rd.below hx (h01.mono hB));have HY:=ja (Rd.below hy (h01.mono hB))
 have HB0:=ja h01
 have HCK:=ja (zh9 xd A0 n0 c0 xt ld A n c lt hd A2 n2 c2 ht B w0 HZ.o HX.o HY.o (by omega))
 clear hz hx hy h01
 go_enter Tryz.func9,Tryz.ntmps9
 go_wp2_with fail
 rw[<-hw0]
 clear hw0
 obtain⟨x0,x1,_,_⟩:=HX0.o.two
 obtain⟨y0,y1,y2,y3⟩:=HP0.o.four
 go_wp2_with (first
  | (go_at_call 34;refine HCK.o.mono ?_;rintro e w1 ⟨r,rfl,hcr,hb1⟩
     have HX1:=ja (HX0.o.below hb1 (by omega));have HP1:=ja (HP0.o.below hb1 (by omega));have HB1:=ja (HB0.o.trans (hb1.mono (by omega)))
     have HBW:=ja hb1
     have hz1:=hb1.size
     obtain⟨u0,u1,_,_⟩:=HX1.o.two
     obtain⟨v0,v1,v2,v3⟩:=HP1.o.four
     have HCR:=ja hcr
     clear hb1 hcr HCK x0 x1 y0 y1 y2 y3))
 ·have h3:r≠0:=by simpa using ‹(r !=0)=true›
  go_ret3
  exact⟨_,_,_,rfl,⟨r,HCR.o,.inl ⟨h3,rfl,rfl,rfl⟩⟩,HB1.o⟩
 ·have h3:r=0:=by simpa using ‹(r !=0)=false›
  have hbd:Hid (Below w1.heap.size w1 w1.drew):=ja (Below.drew (Below.refl _ _))
  obtain⟨lb,hlb⟩:∃lb:Array Value,lb=#[.pointer (some ⟨w1.heap.size,0,none⟩),.pointer (some ⟨w1.heap.size+1,0,none⟩)]:=⟨_,rfl⟩
  obtain⟨w2,hw2⟩:∃w2,w2=(w1.drew.alloc (.cells #[.func (.func 38) #[] #[]] 76)).alloc (.cells #[.int .i64 4] 3):=⟨_,rfl⟩
  have hz2:w2.heap.size=w1.heap.size+2:=by rw[hw2];simp
  have hb2:Below w1.heap.size w1 w2:=by rw[hw2];exact((Below.drew (Below.refl _ _)).alloc (by simp) _).alloc (by simp) _
  obtain⟨V,hV⟩:∃V,V=w2.alloc (.cells #[.func (.func 36) #[] #[],.func (.func 80) #[] lb] 76):=⟨_,rfl⟩
  have hbV:Below w1.heap.size w1 V:=by rw[hV];exact hb2.alloc (by omega) _
  have hrow:V.ownsRow w2.heap.size 76 1 (.slice (some ⟨w2.heap.size,0,none⟩) 2 2) 2 [.func (.func 36) #[] #[],.func (.func 80) #[] lb]:=by
   rw[hV]
   exact World.ownsRow_lit (base:=w2.heap.size) (e:=76) (size:=1) w2 #[.func (.func 36) #[] #[],.func (.func 80) #[] lb] 2 (Nat.le_refl _) (by unfold maxLen;omega) rfl
  have hzV:V.heap.size=w2.heap.size+1:=by rw[hV];simp
  have hc1:V.cell? ⟨w1.heap.size,0,none⟩=some (.func (.func 38) #[] #[]):=by
   rw[hV,hw2];exact(((jh.new w1.drew 76 #[.func (.func 38) #[] #[]]).alloc _).alloc _).cell 0
  have hc2:V.cell? ⟨w1.heap.size+1,0,none⟩=some (.int .i64 4):=by
   rw[hV,hw2]
   have h:=((jh.new (w1.drew.alloc (.cells #[.func (.func 38) #[] #[]] 76)) 3 #[.int .i64 4]).alloc (.cells #[.func (.func 36) #[] #[],.func (.func 80) #[] lb] 76)).cell 0
   simpa using h
  have HRL:=ja (jcd6 xd A0 n0 c0 xt ld A n c lt hd A2 n2 c2 ht den (.slice (some ⟨w2.heap.size,0,none⟩) 2 2) [.func (.func 36) #[] #[],.func (.func 80) #[] lb] [(λx y=>jc7 x.1 x.2 y.1 y.2),(λx _=>jn7 x.1 x.2 (jI 4).1 (jI 4).2)] B w2.heap.size V
   (Rd.below HZ.o ((HBW.o.trans (hbV.mono hz1)).mono (by omega))) (Rd.below HX.o ((HBW.o.trans (hbV.mono hz1)).mono (by omega))) (Rd.below HY.o ((HBW.o.trans (hbV.mono hz1)).mono (by omega))) (by omega) hrow (by omega) (by omega)
   (λb=>b=w1.heap.size\/b=w1.heap.size+1) (by rintro b (rfl|rfl)<;>exact⟨by omega,λe=>by simp[Value.ownBlock] at e;omega⟩) rfl (by simp) (by simp[Value.oneCell']) (by
    intro i v g h1 h2
    match i,h1,h2 with
    | 0,h1,h2=>
     simp only[List.getElem?_cons_zero,Option.some.injEq] at h1 h2
     subst h1;subst h2
     exact Jo.of_num jbn9 V _
    | 1,h1,h2=>
     simp only[List.getElem?_cons_succ,List.getElem?_cons_zero,Option.some.injEq] at h1 h2
     subst h1;subst h2
     subst hlb
     exact Jo.of_by jbp0 hc1 hc2
    | i+2,h1,h2=>simp at h1))
  have HX2:=ja (HX1.o.below hb2 HX1.o.lt);have HP2:=ja (HP1.o.below hb2 HP1.o.lt)
  obtain⟨p0,p1,_,_⟩:=HX2.o.two
  obtain⟨q0,q1,q2,q3⟩:=HP2.o.four
  have pa0:∀o,(w2.alloc o).cell? ⟨w.heap.size,0,none⟩=some (.int .i64 xd):=λo=>(HX2.o.alloc o).cell 0
  have pa1:∀o,(w2.alloc o).cell? ⟨w.heap.size,1,none⟩=some (.slice A0 n0 c0):=λo=>(HX2.o.alloc o).cell 1
  have qa0:∀o,(w2.alloc o).cell? ⟨w.heap.size+1,0,none⟩=some (.int .i64 ld):=λo=>(HP2.o.alloc o).cell 0
  have qa1:∀o,(w2.alloc o).cell? ⟨w.heap.size+1,1,none⟩=some (.slice A n c):=λo=>(HP2.o.alloc o).cell 1
  have qa2:∀o,(w2.alloc o).cell? ⟨w.heap.size+1,2,none⟩=some (.int .i64 hd):=λo=>(HP2.o.alloc o).cell 2
  have qa3:∀o,(w2.alloc o).cell? ⟨w.heap.size+1,3,none⟩=some (.slice A2 n2 c2):=λo=>(HP2.o.alloc o).cell 3
  have HBF:Hid (∀w',V.grownBy w' (some w2.heap.size)->Below w.heap.size w w'):=ja (λw' hg=>(HB1.o.trans (hbV.mono HB1.o.size)).grown hg (by have:=HB1.o.size;omega) (λj e=>by cases e;have:=HB1.o.size;omega))
  have HW2:=ja hw2
  have HBB2:=ja hb2
  have HBV5:Hid (∀w',V.grownBy w' (some w2.heap.size)->Below w1.heap.size w1 w'):=ja (λw' hg=>hbV.grown hg (by omega) (λj e=>by cases e;omega))
  subst hV
  subst hlb
  clear hrow hc1 hc2 hzV hbV hb2 hw2 hz2 HX HY HZ HX0 HP0 HB0
  have HS:Hid (∀W,Below w1.heap.size w1 W->(W.cell? ⟨w.heap.size,0,none⟩=some (.int .i64 xd)/\W.cell? ⟨w.heap.size,1,none⟩=some (.slice A0 n0 c0)/\W.cell? ⟨w.heap.size+1,0,none⟩=some (.int .i64 ld)/\W.cell? ⟨w.heap.size+1,1,none⟩=some (.slice A n c)/\W.cell? ⟨w.heap.size+1,2,none⟩=some (.int .i64 hd)/\W.cell? ⟨w.heap.size+1,3,none⟩=some (.slice A2 n2 c2))):=ja (λW hb=>⟨(HX1.o.below hb HX1.o.lt).cell 0,(HX1.o.below hb HX1.o.lt).cell 1,(HP1.o.below hb HP1.o.lt).cell 0,(HP1.o.below hb HP1.o.lt).cell 1,(HP1.o.below hb HP1.o.lt).cell 2,(HP1.o.below hb HP1.o.lt).cell 3⟩)
  have HS1:=ja (HS.o _ hbd.o)
  have HS2:=ja (HS.o _ HBB2.o)
  have HS3:=ja (λo=>HS.o (w2.alloc o) (HBB2.o.alloc HBB2.o.size o))
  clear p0 p1 q0 q1 q2 q3 pa0 pa1 qa0 qa1 qa2 qa3 u0 u1 v0 v1 v2 v3
  go_region_held3 (λw'=>w'.cell? ⟨w.heap.size,0,none⟩=some (.int .i64 xd)/\w'.cell? ⟨w.heap.size,1,none⟩=some (.slice A0 n0 c0)/\w'.cell? ⟨w.heap.size+1,0,none⟩=some (.int .i64 ld)/\w'.cell? ⟨w.heap.size+1,1,none⟩=some (.slice A n c)/\w'.cell? ⟨w.heap.size+1,2,none⟩=some (.int .i64 hd)/\w'.cell? ⟨w.heap.size+1,3,none⟩=some (.slice A2 n2 c2)) (first|with_reducible exact HS1.o|with_reducible exact HS2.o|with_reducible exact HS3.o _|with_reducible exact HS5.o) (first
   | (go_at_call 37;refine(jby0 38 4 _).mono ?_;rintro e w3 ⟨rfl,hw3⟩;obtain rfl:w3=w2:=hw3.trans HW2.o.symm;clear hw3)
   | (go_at_call 35;refine HRL.o.mono ?_;rintro e w5 ⟨low,high,cc,rfl,hrr,hg5⟩;have HRR:=ja hrr;have HG5:=ja hg5;have HS5:=ja (HS.o w5 (HBV5.o _ hg5));clear hrr hg5))
  all_goals
   go_wp2
   go_ret3
   exact⟨_,_,_,rfl,⟨r,HCR.o,.inr ⟨h3,HRR.o⟩⟩,HBF.o _ HG5.o⟩
theorem jbn0 (w : World) (hE : Jm w) (htab : Lib.TabIs Tryz.prog w "internal/strconv.uint64pow10" .u64 Lib.pow10Tab) :
  Calls Tryz.prog 8 #[] w λe w'=>e=.returned (.bool true)/\Below w.heap.size w w':=by
 have HPA:=ja (jbr0 ⟨#[49,43,49,47,51]⟩ w hE htab)
 rw[jam9] at HPA
 obtain⟨gp,hgp⟩:=Option.isSome_iff_exists.1 Tryz.pow10g
 have HTAB:=ja (λW (hb:Below w.heap.size w W)=>JV hgp htab hb)
 have HOFF:=ja (λ(A:Option Addr) (n c B:Nat) (W:World) hx hB=>jcj5 408 A n c [(577,1)] 2 1000000 B W hx hB)
 have HNEAR:=ja (λW=>jap4 2 100 W)
 rw[jba4] at HNEAR
 have HNUM1:=ja (λW=>qr 577 408 W)
 have HNUM2:=ja (λW=>qr 13 15 W)
 have HNUM3:=ja (λW=>qr 223 71 W)
 have HNUM4:=ja (λW=>qr 22 7 W)
 clear hE htab
 go_enter Tryz.func8,Tryz.ntmps8
 go_wp2_with (first
  | (go_at_call 30;refine HPA.o.mono ?_;rintro e w1 ⟨A1,n1,c1,l1,rfl,hp1,hl1,ho1,hb1⟩
     have HN1:=ja (jh.new w1 43 #[.int .i64 1,.slice A1 n1 c1])
     have HP1:=ja (hp1.alloc (Nat.le_refl _) (.cells #[.int .i64 1,.slice A1 n1 c1] 43))
     have HB1:=ja (hb1.alloc hb1.size (.cells #[.int .i64 1,.slice A1 n1 c1] 43))
     have HL1:=ja hl1
     have HZ1:=ja hb1.size
     obtain⟨x0,x1,xf0,xf1⟩:=HN1.o.two
     have HCH:=ja (jbk9 1 A1 n1 c1 w1.heap.size l1 2 2 (w1.alloc (.cells #[.int .i64 1,.slice A1 n1 c1] 43)) HP1.o (by simp))
     rw[hl1,jam8] at HCH
     have HOFP:=ja (hp1.off_of (Nat.le_refl _))
     clear hp1 hl1 ho1 hb1 HPA)
  | (go_at_call 31;refine HCH.o.mono ?_;rintro e w2 ⟨A2,n2,c2,l2,rfl,hp2,hl2,ho2,hb2⟩
     (try simp only[World.size_alloc] at hb2 ho2)
     have HN2:=ja (HN1.o.below hb2 (by simp))
     have HB2:=ja (HB1.o.trans (hb2.mono (by have:=HB1.o.size;simpa using this)))
     have hof2:=ho2 w1.heap.size (by simp) HOFP.o
     have HP2:=ja ((hp2.off_set (i:=0) hof2 (.int .i64 1)).off_set (i:=1) hof2 (.slice A2 n2 c2))
     have HL2:=ja hl2
     obtain⟨y0,y1,yf0,yf1⟩:=HN2.o.two
     dsimp only at hl2
     have HL2:=ja hl2
     have hz2:w.heap.size<=w2.heap.size:=HB2.o.size
     obtain⟨V,hV⟩:∃V,V=(w2.setCell ⟨w1.heap.size,0,none⟩ (.int .i64 1)).setCell ⟨w1.heap.size,1,none⟩ (.slice A2 n2 c2):=⟨_,rfl⟩
     have hBV:Below w.heap.size w V:=by rw[hV];exact(HB2.o.setCell (by show w.heap.size<=w1.heap.size;exact HZ1.o) _).setCell (by show w.heap.size<=w1.heap.size;exact HZ1.o) _
     have hNV:jh V w1.heap.size 43 #[.int .i64 1,.slice A2 n2 c2]:=by rw[hV];exact(HN2.o.set_ 0 _).set_ 1 _
     have hPV:jD V w2.heap.size A2 n2 c2 l2:=by rw[hV];exact HP2.o
     have hVz:V.heap.size=w2.heap.size:=by rw[hV];simp
     have HFM:=ja (jaz5 1 A2 n2 c2 w2.heap.size l2 V hPV (by omega) (HTAB.o V hBV))
     rw[HL2.o,jca2,jba6] at HFM
     have HFM:=ja HFM.o
     simp only[if_true] at HFM
     rw[show QK true=0 from rfl] at HFM
     have HBV:=ja hBV;have HNV:=ja hNV;have HPV:=ja hPV
     have HVZ:=ja hVz
     clear hp2 hl2 ho2 hb2 hof2 HCH hBV hNV hPV hVz
     subst hV)
  | (go_at_call 32;refine HFM.o.mono ?_;rintro e w3 ⟨rfl,hb3⟩
     have hz3:=HBV.o.size
     have HN3:=ja (HNV.o.below hb3 HNV.o.lt)
     have HP3:=ja (HPV.o.below (hb3.mono (by rw[HVZ.o];exact Nat.le_refl _)))
     have HB3:=ja (HBV.o.trans (hb3.mono hz3))
     have HVL:=ja (jab3 1 A2 n2 c2 w2.heap.size l2 w3 HP3.o (by have:=hb3.size;rw[HVZ.o] at this;exact this))
     rw[HL2.o,jan1] at HVL
     obtain⟨z0,z1,zf0,zf1⟩:=HN3.o.two
     clear hb3 HFM)
  | (go_at_call 33;refine HVL.o.mono ?_;rintro e w4 ⟨A4,n4,c4,rfl,ho4,hb4⟩
     dsimp only at ho4
     have HB4:=ja ((HB3.o.trans (hb4.mono HB3.o.size)).alloc (by have:=HB3.o.size;have:=hb4.size;omega) (.cells #[.int .i64 408,.slice A4 n4 c4] 24))
     have HM4:=ja (jh.new w4 24 #[.int .i64 408,.slice A4 n4 c4])
     have HT4:Hid (ji (w4.alloc (.cells #[.int .i64 408,.slice A4 n4 c4] 24)) w4.heap.size A4 n4 c4 [(577,1)]):=ja (Rd.alloc (Rd.of_own ho4) (Nat.le_refl _) _)
     obtain⟨m0,m1,mf0,mf1⟩:=HM4.o.two
     clear ho4 hb4 HVL)
  | (go_at_call_of 27 (577:Int);refine(HNUM1.o _).mono ?_;rintro e w5 ⟨A5,n5,c5,rfl,ho5,hb5⟩
     dsimp only at ho5
     have HM5:=ja (HM4.o.below hb5 (by simp))
     have HT5:=ja (Rd.below HT4.o (hb5.mono (by simp)))
     have HB5:=ja (HB4.o.trans (hb5.mono HB4.o.size))
     have HF5:=ja (HOFF.o A5 n5 c5 w5.heap.size w5 (Rd.of_own ho5) (Nat.le_refl _))
     have hz5:w4.heap.size<w5.heap.size:=HM5.o.lt
     clear ho5 hb5)
  | (go_at_call 14;refine HF5.o.mono ?_;rintro e w6 ⟨low6,high6,c6,rfl,hr6,hb6⟩
     obtain⟨rfl,rfl,rfl⟩:=jbn1 hr6
     have HM6:=ja (HM5.o.below hb6 hz5)
     have HT6:=ja (Rd.below HT5.o (hb6.mono (by omega)))
     have HB6:=ja (HB5.o.trans (hb6.mono HB5.o.size))
     have hz6:w5.heap.size<=w6.heap.size:=hb6.size
     clear hr6 hb6 HF5)
  | (go_at_call 22;refine(HNEAR.o _).mono ?_;rintro e w7 ⟨rfl,hb7⟩
     have HM7:=ja (HM6.o.below hb7 (by omega))
     have HT7:=ja (Rd.below HT6.o (hb7.mono (by omega)))
     have HB7:=ja (HB6.o.trans (hb7.mono HB6.o.size))
     have hz7:w6.heap.size<=w7.heap.size:=hb7.size
     clear hb7)
  | (go_at_call_of 27 (13:Int);refine(HNUM2.o _).mono ?_;rintro e w8 ⟨A8,n8,c8,rfl,ho8,hb8⟩
     dsimp only at ho8
     have HQ8:Hid (ji w8 w8.heap.size A8 n8 c8 [(13,1)]):=ja (Rd.of_own ho8)
     have HM8:=ja (HM7.o.below hb8 (by omega))
     have HT8:=ja (Rd.below HT7.o (hb8.mono (by omega)))
     have HB8:=ja (HB7.o.trans (hb8.mono HB7.o.size))
     have hz8:w7.heap.size<=w8.heap.size:=hb8.size
     clear ho8 hb8)
  | (go_at_call_of 27 (223:Int);refine(HNUM3.o _).mono ?_;rintro e w9 ⟨A9,n9,c9,rfl,ho9,hb9⟩
     dsimp only at ho9
     have HQ9:Hid (ji w9 w9.heap.size A9 n9 c9 [(223,1)]):=ja (Rd.of_own ho9)
     have HR9:=ja (Rd.below HQ8.o hb9)
     have HM9:=ja (HM8.o.below hb9 (by omega))
     have HT9:=ja (Rd.below HT8.o (hb9.mono (by omega)))
     have HB9:=ja (HB8.o.trans (hb9.mono HB8.o.size))
     have hz9:w8.heap.size<=w9.heap.size:=hb9.size
     clear ho9 hb9)
  | (go_at_call_of 27 (22:Int);refine(HNUM4.o _).mono ?_;rintro e w10 ⟨A10,n10,c10,rfl,ho10,hb10⟩
     dsimp only at ho10
     have HQ10:Hid (ji w10 w10.heap.size A10 n10 c10 [(22,1)]):=ja (Rd.of_own ho10)
     have hz10:w9.heap.size<=w10.heap.size:=hb10.size
     have HSQ:=ja (jag1 15 A8 n8 c8 [(13,1)] 71 A9 n9 c9 [(223,1)] 7 A10 n10 c10 [(22,1)] 10000 w10.heap.size w10 (Rd.more (Rd.below HR9.o (hb10.mono (by omega))) (by omega)) (Rd.more (Rd.below HQ9.o hb10) hz10) HQ10.o (Nat.le_refl _))
     have HM10:=ja (HM9.o.below hb10 (by omega))
     have HT10:=ja (Rd.below HT9.o (hb10.mono (by omega)))
     have HB10:=ja (HB9.o.trans (hb10.mono HB9.o.size))
     clear ho10 hb10)
  | (go_at_call 13;refine HSQ.o.mono ?_;rintro e w11 ⟨low11,high11,c11,rfl,hr11,hb11⟩
     obtain⟨rfl,rfl,rfl⟩:=jad3 hr11
     have HM11:=ja (HM10.o.below hb11 (by omega))
     have HT11:=ja (Rd.below HT10.o (hb11.mono (by omega)))
     have HB11:=ja (HB10.o.trans (hb11.mono HB10.o.size))
     have hz11:w10.heap.size<=w11.heap.size:=hb11.size
     clear hr11 hb11))
 have hbd:Hid (Below w11.heap.size w11 w11.drew):=ja (Below.drew (Below.refl _ _))
 have HS:Hid (∀W,Below w11.heap.size w11 W->(W.cell? ⟨w4.heap.size,0,none⟩=some (.int .i64 408)/\W.cell? ⟨w4.heap.size,1,none⟩=some (.slice A4 n4 c4))):=ja (λW hb=>⟨(HM11.o.below hb HM11.o.lt).cell 0,(HM11.o.below hb HM11.o.lt).cell 1⟩)
 have HS1:=ja (HS.o _ hbd.o)
 have hz12:w4.heap.size<w11.heap.size:=HM11.o.lt
 clear HNUM2 HNUM3 HNUM4 HOFF HNEAR HTAB HL1 HL2 HSQ HM4 HM5 HM6 HM7 HM8 HM9 HM10 HT4 HT5 HT6 HT7 HT8 HT9 HT10 HQ8 HQ9 HQ10 HR9 HP3 HN3 HN1 HN2 HNV HPV HVZ HP1 HP2 HOFP
 first|go_region_held3 (λw'=>w'.cell? ⟨w4.heap.size,0,none⟩=some (.int .i64 408)/\w'.cell? ⟨w4.heap.size,1,none⟩=some (.slice A4 n4 c4)) (first|with_reducible exact HS1.o|with_reducible exact HS2.o|with_reducible exact HS3.o) (first
  | (go_at_call 27;refine(HNUM1.o _).mono ?_;rintro e w12 ⟨A12,n12,c12,rfl,ho12,hb12⟩
     have hb12:Below w11.heap.size w11 w12:=hbd.o.trans hb12
     have HS2:=ja (HS.o _ hb12)
     have HB12:=ja hb12
     have hz13:w11.heap.size<=w12.heap.size:=hb12.size
     have HSM:=ja (jan3 408 A4 n4 c4 [(577,1)] 408 A12 n12 c12 [(577,1)] w12.heap.size w12 (Rd.more (Rd.below HT11.o (hb12.mono (by omega))) (by omega)) (Rd.of_own ho12) (Nat.le_refl _))
     clear ho12 hb12)
  | (go_at_call 21;refine HSM.o.mono ?_;rintro e w13 ⟨rfl,hb13⟩
     have HS3:=ja (HS.o _ (HB12.o.trans (hb13.mono HB12.o.size)))
     have HB13:=ja (HB12.o.trans (hb13.mono HB12.o.size))
     clear hb13))|done
 all_goals
  go_wp2
  go_ret
  exact⟨by simp,HB11.o.trans (HB13.o.mono HB11.o.size)⟩
