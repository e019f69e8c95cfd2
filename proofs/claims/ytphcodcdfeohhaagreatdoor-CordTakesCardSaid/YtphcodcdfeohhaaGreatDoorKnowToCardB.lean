import Derived.Test.YtphcodcdfeohhaaGreatDoorRuleToSqr
set_option linter.all false
namespace Go.Proofs.YtphcodcdfeohhaaGreatDoor
set_option maxRecDepth 100000
set_option maxHeartbeats 2000000
open Go.RowKit
theorem jam9:ja8 ⟨#[49,43,49,47,51]⟩=(1,[(false,[3])],0):=by decide +kernel
theorem jba4:jg2 2 100=(140,99,0):=by decide +kernel
theorem jam8:jac2 1 [(false,[3])] 2 2=(1,[(false,[3]),(false,[3,4]),(true,[3,4,34])],0):=by decide +kernel
theorem jca2:ZO 1 [(false,[3]),(false,[3,4]),(true,[3,4,34])]=true:=by decide +kernel
theorem jba6:qH 1 [(false,[3]),(false,[3,4]),(true,[3,4,34])]=[49,43,49,47,51,43,49,47,51,42,52,45,49,47,51,42,52,42,51,52]:=by decide +kernel
theorem jan1:Jk 1 [(false,[3]),(false,[3,4]),(true,[3,4,34])]=(408,[(577,1)],0):=by decide +kernel
theorem jba5:zd2 (jI 2).1 (jI 2).2=(1,[(1,2)],0):=by decide +kernel
theorem jba3:jL 408 [(577,1)] 1 [(1,2)] (-1)=(408,[(577,1),(-408,2)],0):=by
 have hk:ju (ju [] [(577,1)] 1) [(1,2)] (-1*408)=[(1,577),(2,-408)]:=by decide +kernel
 have hG:jU [(1,577),(2,-408)] (408*1)=1:=by decide +kernel
 have hT:Qp [(1,577),(2,-408)] (408*1)=[(577,1),(-408,2)]:=by
  unfold Qp zp
  rw[hG,show((List.filter nz [((1:Int),(577:Int)),(2,-408)]).map (·.1))=[1,2] from by decide +kernel,jcf3]
  decide +kernel
 unfold jL
 rw[if_pos (by decide +kernel),hk]
 unfold jY
 rw[hT,hG]
 decide +kernel
theorem jay2{low:Int}(h:jd0 408 [(577,1),(-408,2)] 1000000 low):low=2:=by
 obtain⟨⟨s,hs,h1⟩,⟨s2,hs2,h2⟩,h3,_⟩:=h
 rw[jan6] at h1 h2
 have hA:0<577*1000000+low*-408:=by
  rcases Int.lt_or_le 0 (577*1000000+low*-408)with h|h
  ·exact h
  ·exfalso
   have h4:=jcf1 h (by decide) h1
   omega
 rcases zn7 hA (by decide) (by decide) h1 with⟨rfl,h4⟩|⟨rfl,_⟩
 ·have h5:(577*1000000+low*-408).natAbs=(577*1000000+low*-408).toNat:=by omega
  have h6:low<=2:=by
   rcases Int.lt_or_le 2 low with h|h
   ·exfalso
    have h7:(577*1000000+low*-408).natAbs<=576998776:=by omega
    have h8:=Nat.mul_le_mul h7 h7
    have h9:(-408*1000000:Int).natAbs*(-408*1000000:Int).natAbs*(2:Int).toNat=332928000000000000:=by decide
    rw[h9] at h4
    omega
   ·exact h
  have hA2:0<577*1000000+(low+1)*-408:=by omega
  rcases zn7 hA2 (by decide) (by decide) h2 with⟨rfl,_⟩|⟨rfl,h10⟩
  ·omega
  ·rcases Int.lt_or_le low 2 with h|h
   ·exfalso
    have h7:576999184<=(577*1000000+(low+1)*-408).natAbs:=by omega
    have h8:=Nat.mul_le_mul h7 h7
    have h9:(-408*1000000:Int).natAbs*(-408*1000000:Int).natAbs*(2:Int).toNat=332928000000000000:=by decide
    rw[h9] at h10
    omega
   ·omega
 ·omega
theorem jbn1{low high c:Int}(h:jbv1 408 [(577,1)] 2 1000000 low high c):low=2/\high=3/\c=0:=by
 obtain⟨r,hd,hb⟩:=h
 have hr:r=(408,[(577,1),(-408,2)],0):=by
  rcases hd with⟨h1,_⟩|⟨_,h1,_⟩|⟨_,_,r',hr',rfl⟩
  ·exact absurd h1 (by decide +kernel)
  ·exact absurd h1 (by decide +kernel)
  ·have hr2:r'=(1,[(1,2)],0):=by
    rcases hr' with⟨h1,_⟩|⟨_,s,hs,h2⟩
    ·exact absurd h1 (by decide +kernel)
    ·have hs1:s=1:=by
      have h3:jA [(2,1)] s:=hs
      rcases Zp h3 with⟨h4,_⟩|⟨_,h4⟩|⟨h4,_⟩
      ·omega
      ·exact h4
      ·omega
     subst hs1
     rcases h2 with⟨h4,_⟩|⟨h4,_⟩|⟨_,h4⟩
     ·omega
     ·omega
     ·rw[h4,jba5]
   rw[hr2]
   exact jba3
 subst hr
 rcases hb with⟨h1,_⟩|⟨_,h1⟩
 ·exact absurd rfl h1
 ·rcases h1 with⟨h1,_⟩|⟨_,h1,_⟩|⟨_,_,hc,hbl,hh⟩
  ·exact absurd h1 (by decide +kernel)
  ·exact absurd h1 (by decide +kernel)
  ·have hlow:=jay2 hbl
   subst hlow
   rcases hh with⟨_,hh⟩|⟨hs,_⟩
   ·exact⟨rfl,hh,hc⟩
   ·exfalso
    have h2:jA [(577*1000000+2*-408,1),(-408*1000000,2)] 0:=by rw[<-jan6];exact hs
    rcases zn7 (by decide) (by decide) (by decide) h2 with⟨h3,_⟩|⟨h3,_⟩<;>omega
theorem zh4 {xd a den low high c:Int} (hok:js xd [(a,1)]=true) (hin:zz den 1 1000000000=true) (h:qc xd [(a,1)] den low high c) :
  c=0/\0<=a*den+low*-xd/\a*den+(low+1)*-xd<0/\((0<a*den+low*-xd/\high=low+1)\/(a*den+low*-xd=0/\high=low)):=by
 rcases h with⟨h1,_⟩|⟨_,h1,_⟩|⟨_,_,hc,⟨⟨s,hs,h1⟩,⟨s2,hs2,h2⟩,_⟩,hh⟩
 ·rw[hok] at h1;cases h1
 ·rw[hin] at h1;cases h1
 ·rw[js7] at h1 h2
  refine⟨hc,?_,?_,?_⟩
  ·rcases Zp h1 with⟨h3,_⟩|⟨h3,_⟩|⟨_,h3⟩<;>omega
  ·rcases Zp h2 with⟨_,h3⟩|⟨_,h3⟩|⟨h3,_⟩<;>omega
  ·rcases hh with⟨⟨s3,hs3,h3⟩,h4⟩|⟨h3,h4⟩
   ·rw[js7] at h3
    refine .inl ⟨?_,h4⟩
    rcases Zp h3 with⟨_,h5⟩|⟨h5,_⟩|⟨_,h5⟩<;>omega
   ·rw[js7] at h3
    refine .inr ⟨?_,h4⟩
    rcases Zp h3 with⟨h5,_⟩|⟨_,h5⟩|⟨_,h5⟩<;>omega
theorem jan0:jp0 ([(λx _=>jc7 x.1 x.2 (jI 4).1 (jI 4).2),(λx y=>jn7 x.1 x.2 y.1 y.2)]++[λx _=>jL x.1 x.2 (jI 1).1 (jI 1).2 (-1)]) (225,[(169,1)]) (225,[(169,1)]) (7,[(22,1)]) (71,[(223,1)])=((2475,[(-109,1)]),(50175,[(-2179,1)]),0):=by decide +kernel
theorem jad3{low high c:Int}(h:zv4 (15,[(13,1)]) (71,[(223,1)]) (7,[(22,1)]) 10000 low high c):low=-441/\high=-434/\c=0:=by
 obtain⟨r,⟨s,e,hs,hr⟩,hh⟩:=h
 have hs0:s=1/\e=0:=by
  rcases hs with⟨_,h1,h2⟩|⟨h1,_⟩
  ·refine⟨?_,h2⟩
   have h3:jA [(13,1)] s:=h1
   rcases Zp h3 with⟨h4,_⟩|⟨_,h4⟩|⟨h4,_⟩<;>omega
  ·exact absurd h1 (by decide +kernel)
 obtain⟨rfl,rfl⟩:=hs0
 have hr0:r=0:=by
  rcases hr with⟨h1,_⟩|⟨_,p,⟨o,e2,s2,f,hc,hs2,hp⟩,hr⟩
  ·exact absurd rfl h1
  ·have ho:o=-1/\e2=0:=by
    rcases hc with⟨_,h1,h2⟩|⟨h1,_⟩
    ·refine⟨?_,h2⟩
     have h3:jA [(223*7+22*-71,1)] o:=by rw[<-js7];exact h1
     rcases Zp h3 with⟨h4,_⟩|⟨h4,_⟩|⟨_,h4⟩<;>omega
    ·exact absurd h1 (by decide +kernel)
   have hs3:s2=1/\f=0:=by
    rcases hs2 with⟨_,h1,h2⟩|⟨h1,_⟩
    ·refine⟨?_,h2⟩
     have h3:jA [(223,1)] s2:=h1
     rcases Zp h3 with⟨h4,_⟩|⟨_,h4⟩|⟨h4,_⟩<;>omega
    ·exact absurd h1 (by decide +kernel)
   obtain⟨rfl,rfl⟩:=ho
   obtain⟨rfl,rfl⟩:=hs3
   have hp1:p=true:=by rw[hp];decide
   rw[hr,if_pos hp1,if_neg (by omega)]
 subst hr0
 rcases hh with⟨h1,_⟩|⟨_,hh⟩
 ·exact absurd rfl h1
 ·rcases hh with⟨h1,_⟩|⟨_,r,hr,hh⟩
  ·exact absurd h1 (by decide +kernel)
  ·have hr2:r=((2475,[(-109,1)]),(50175,[(-2179,1)]),0):=by
    rw[<-hr,<-jan0]
    rw[show jk9 (jc7 (15,[((13:Int),(1:Int))]).1 (15,[((13:Int),(1:Int))]).2 (15,[((13:Int),(1:Int))]).1 (15,[((13:Int),(1:Int))]).2)=(225,[(169,1)])from by decide +kernel]
   subst hr2
   rcases hh with⟨h1,_⟩|⟨_,l1,h1,c1,hb1,hh⟩
   ·exact absurd rfl h1
   ·have hb1':qc 2475 [(-109,1)] 10000 l1 h1 c1:=hb1
    obtain⟨rfl,b1,b2,_⟩:=zh4 (by decide +kernel) (by decide +kernel) hb1'
    rcases hh with⟨h2,_⟩|⟨_,l2,hb2,hlow⟩
    ·exact absurd rfl h2
    ·have hb2':qc 50175 [(-2179,1)] 10000 l2 high c:=hb2
     obtain⟨hc,b3,b4,b5⟩:=zh4 (by decide +kernel) (by decide +kernel) hb2'
     refine⟨?_,?_,hc⟩
     ·omega
     ·rcases b5 with⟨_,b5⟩|⟨b5,_⟩<;>omega
theorem qr(num den:Int)(w:World):Calls Tryz.prog 27 #[.int .i64 num,.int .i64 den] w (QY w (den,[(num,1)])):=by
 have HO1:=ja (λx:Array Value=>(show((w.alloc (.cells x 24)).alloc (.cells #[.int .i64 num,.int .i64 1] 59)).ownsRow (w.heap.size+1) 59 2 (.slice (some ⟨w.heap.size+1,0,none⟩) 1 1) 1 (jr [(num,1)]) by
  have h:=World.ownsRow_lit (base:=w.heap.size+1) (e:=59) (size:=2) (w.alloc (.cells x 24)) #[.int .i64 num,.int .i64 1] 1 (by simp) (by unfold maxLen;omega) rfl
  rw[World.size_alloc] at h
  exact h))
 have HN:=ja (jh.new w 24 #[.int .i64 0,.slice none 0 0])
 have HN2:=ja (HN.o.alloc (.cells #[.int .i64 num,.int .i64 1] 59))
 have HB:=ja (((Below.refl w.heap.size w).alloc (Nat.le_refl _) (.cells #[.int .i64 0,.slice none 0 0] 24)).alloc (by simp) (.cells #[.int .i64 num,.int .i64 1] 59))
 go_enter Tryz.func27,Tryz.ntmps27
 go_wp2
 refine Ji (p:=4) (ty:=24) rfl rfl ((jh.new w _ _).alloc _) (d:=_) rfl Tryz.underlying24 Tryz.sizeNumber rfl ?_
 exact⟨_,_,_,rfl,jO (HO1.o _) (by omega),((Below.refl w.heap.size w).alloc (Nat.le_refl _) _).alloc (by simp) _⟩
theorem jan3 (xd:Int) (A:Option Addr) (n c:Nat) (xt:List (Int×Int)) (yd:Int) (A2:Option Addr) (n2 c2:Nat) (yt:List (Int×Int)) (B:Nat) (w:World) (hx:ji w B A n c xt) (hy:ji w B A2 n2 c2 yt) (hB:B<=w.heap.size) :
  Calls Tryz.prog 21 #[.agg #[.int .i64 xd,.slice A n c],.agg #[.int .i64 yd,.slice A2 n2 c2]] w λe w'=>e=.returned (.bool (decide (xd=yd)&&decide (xt=yt)))/\Below w.heap.size w w':=by
 have hlx:=hx.len
 have hly:=hy.len
 subst hlx
 subst hly
 have hnx:=hx.nmax
 have hny:=hy.nmax
 obtain⟨w0,hw0⟩:∃w0,w0=(w.alloc (.cells #[.int .i64 xd,.slice A xt.length c] 24)).alloc (.cells #[.int .i64 yd,.slice A2 yt.length c2] 24):=⟨_,rfl⟩
 have hz0:w0.heap.size=w.heap.size+2:=by rw[hw0];simp
 have h01:Below w.heap.size w w0:=by rw[hw0];exact((Below.refl _ _).alloc (Nat.le_refl _) _).alloc (by simp) _
 have HX0:Hid (jh w0 w.heap.size 24 #[.int .i64 xd,.slice A xt.length c]):=ja (by rw[hw0];exact(jh.new w _ _).alloc _)
 have HY0:Hid (jh w0 (w.heap.size+1) 24 #[.int .i64 yd,.slice A2 yt.length c2]):=ja (by
  rw[hw0]
  have h:=jh.new (w.alloc (.cells #[.int .i64 xd,.slice A xt.length c] 24)) 24 #[.int .i64 yd,.slice A2 yt.length c2]
  rwa [World.size_alloc] at h)
 have HTX:=ja (Rd.below hx (h01.mono hB));have HTY:=ja (Rd.below hy (h01.mono hB))
 have HB0:=ja h01
 clear hx hy h01
 go_enter Tryz.func21,Tryz.ntmps21
 go_upto_region 1 with fail
 rw[<-hw0]
 clear hw0
 obtain⟨x0,x1,_,_⟩:=HX0.o.two
 obtain⟨y0,y1,_,_⟩:=HY0.o.two
 by_cases hd:xd=yd
 ·by_cases hl:(xt.length:Int)=(yt.length:Int)
  ·go_wp2
   go_loopw [5] (λi W=>∃(k:Nat),k<=xt.length/\i=.int .i64 k/\xt.take k=yt.take k/\∃q,W=w0.drewN q) (λi _=>xt.length-(intOf i).toNat)
   case atStart=>exact⟨0,by omega,rfl,rfl,0,rfl⟩
   case round=>
    obtain⟨k,hk,rfl,hpre,q,rfl⟩:=hrel
    have HPRE:=ja hpre
    have HX:=ja (HX0.o.drewN q);have HY:=ja (HY0.o.drewN q)
    have HTXq:Hid (ji (w0.drewN q) B A xt.length c xt):=ja HTX.o
    have HTYq:Hid (ji (w0.drewN q) B A2 yt.length c2 yt):=ja HTY.o
    have HBq:Hid (Below w.heap.size w (w0.drewN q)):=ja ⟨HB0.o.os,HB0.o.tape,HB0.o.output,HB0.o.size,HB0.o.block⟩
    have HDD:=ja (λp=>dd w0 q p)
    clear hpre x0 x1 y0 y1
    generalize w0.drewN q=W at *
    obtain⟨x0,x1,_,_⟩:=HX.o.two
    obtain⟨y0,y1,_,_⟩:=HY.o.two
    by_cases hkl:(k:Int)<(xt.length:Int)
    ·have hk1:k<xt.length:=by omega
     have hk2:k<yt.length:=by omega
     obtain⟨ad,rfl,ha0,ha1⟩:=HTXq.o.at_ hk1
     obtain⟨ad2,rfl,hb0,hb1⟩:=HTYq.o.at_ hk2
     have hky:(k:Int)<(yt.length:Int):=by omega
     go_wp2
     have hnq:=λW=>jap5 xt[k].1 xt[k].2 yt[k].1 yt[k].2 W
     have hgt:=Tryz.guardTerm
     have htk1:=List.take_succ_eq_append_getElem hk1
     have htk2:=List.take_succ_eq_append_getElem hk2
     by_cases heq:xt[k]=yt[k]
     ·have h1:xt[k].1=yt[k].1:=by rw[heq]
      have h2:xt[k].2=yt[k].2:=by rw[heq]
      have HTK:Hid (xt.take (k+1)=yt.take (k+1)):=ja (by rw[htk1,htk2,HPRE.o,heq])
      rw[h1] at ha0
      rw[h2] at ha1
      simp only[h1,h2] at hnq
      clear htk1 htk2 heq h1 h2
      go_quiet (fail)
      go_wp2
      obtain⟨q2,hq2⟩:=HDD.o nq
      exact⟨⟨k+1,by omega,by go_num,HTK.o,q2,hq2⟩,by simp[intOf];omega⟩
     ·have hne:¬xt=yt:=λe=>heq (by simp only[e])
      have hd2:(decide ((xt[k].1,xt[k].2)=(yt[k].1,yt[k].2)))=false:=decide_eq_false heq
      simp only[hd2] at hnq
      have HNE:=ja hne
      clear htk1 htk2 heq hne hd2
      go_quiet (fail)
      go_wp2
      go_ret
      exact⟨by simp[HNE.o],⟨HBq.o.os,HBq.o.tape,HBq.o.output,HBq.o.size,HBq.o.block⟩⟩
    ·obtain rfl:k=xt.length:=by omega
     go_wp2
     go_ret
     have hpre:=HPRE.o
     rw[List.take_of_length_le (Nat.le_refl _),List.take_of_length_le (by omega)] at hpre
     exact⟨by simp[hd,hpre],HBq.o⟩
  ·go_wp2
   go_ret
   have hne:¬xt=yt:=λe=>hl (by rw[e])
   exact⟨by simp[hd,hne],HB0.o⟩
 ·go_wp2
  go_ret
  exact⟨by simp[hd],HB0.o⟩
def zc(w:World)(B:Nat)(A:Option Addr)(n c:Nat)(l:List PieceV):Prop:=Rq w B 2 A n c (jB (l.map PieceV.enc))/\∀p∈l,jP w B p.A p.n p.c p.ms
section
variable {w w' : World} {B B' n c : Nat} {A : Option Addr} {l : List PieceV}
theorem zc.of(h:jD w B A n c l):zc w B A n c l:=⟨Rq.of h.1,λp hp=>Rq.of (h.2 p hp)⟩
theorem zc.len(h:zc w B A n c l):l.length=n:=by
 have h1:=h.1.1
 rw[Jj,List.length_map] at h1
 omega
theorem zc.below(h:zc w B A n c l)(hb:Below B w w'):zc w' B A n c l:=⟨h.1.below hb,λp hp=>Rq.below (h.2 p hp) hb⟩
theorem zc.more(h:zc w B A n c l)(hB:B<=B'):zc w B' A n c l:=⟨h.1.more hB,λp hp=>Rq.more (h.2 p hp) hB⟩
theorem zc.alloc(h:zc w B A n c l)(hB:B<=w.heap.size)(o:Obj):zc (w.alloc o) B A n c l:=⟨h.1.alloc hB o,λp hp=>Rq.alloc (h.2 p hp) hB o⟩
theorem zc.at_(h:zc w B A n c l){i:Nat}(hi:i<l.length):∃ad:Addr,A=some ad/\ad.block<B/\w.cell? (ad.add (i*2))=some (.bool l[i].minus)/\w.cell? ⟨(ad.add (i*2)).block,(ad.add (i*2)).off+1,none⟩=some (.slice l[i].A l[i].n l[i].c):=by
 obtain⟨ad,e,hb,h1,h2⟩:=jbc8 h.1 (i:=i) (by simpa using hi)
 simp only[List.getElem_map] at h1 h2
 exact⟨ad,e,hb,h1,h2⟩
end
theorem jbc6(n a b:Int)(w:World):Calls Tryz.prog 56 #[.int .i64 n,.int .i64 a,.int .i64 b] w λe w'=>e=.returned (.bool (zz n a b))/\w'=w:=by
 unfold zz
 by_cases h1:a<=n
 all_goals
  go_enter Tryz.func56,Tryz.ntmps56
  go_wp2
  go_ret
  exact⟨by first|(simp[h1];done)|(simp[h1];omega),rfl⟩
theorem jt7(n:Int)(w:World):Calls Tryz.prog 44 #[.int .i64 n] w (QY w (jI n)):=by
 unfold jI
 by_cases h0:n=0
 ·rw[if_pos h0]
  have hb0:(n==0)=true:=by simpa using h0
  go_enter Tryz.func44,Tryz.ntmps44
  go_wp2
  refine Ji (p:=2) (ty:=24) rfl rfl (jh.new w _ _) (d:=_) rfl Tryz.underlying24 Tryz.sizeNumber rfl ?_
  exact⟨none,0,0,rfl,⟨rfl,.inl ⟨rfl,rfl⟩⟩,(Below.refl w.heap.size w).alloc (Nat.le_refl _) _⟩
 ·rw[if_neg h0]
  have hb0:(n==0)=false:=by simpa using h0
  have HO1:=ja (λx:Array Value=>(show((w.alloc (.cells x 24)).alloc (.cells #[.int .i64 n,.int .i64 1] 59)).ownsRow (w.heap.size+1) 59 2 (.slice (some ⟨w.heap.size+1,0,none⟩) 1 1) 1 (jr [(n,1)]) by
   have h:=World.ownsRow_lit (base:=w.heap.size+1) (e:=59) (size:=2) (w.alloc (.cells x 24)) #[.int .i64 n,.int .i64 1] 1 (by simp) (by unfold maxLen;omega) rfl
   rw[World.size_alloc] at h
   exact h))
  have HN:=ja (jh.new w 24 #[.int .i64 0,.slice none 0 0])
  have HN2:=ja (HN.o.alloc (.cells #[.int .i64 n,.int .i64 1] 59))
  obtain⟨n0,n1,nf0,nf1⟩:=HN2.o.two
  go_enter Tryz.func44,Tryz.ntmps44
  go_wp2
  refine Ji (p:=2) (ty:=24) rfl rfl ((jh.new w _ _).alloc _) (d:=_) rfl Tryz.underlying24 Tryz.sizeNumber rfl ?_
  exact⟨_,_,_,rfl,jO (HO1.o _) (by omega),((Below.refl w.heap.size w).alloc (Nat.le_refl _) _).alloc (by simp) _⟩
theorem jan2 (A:Option Addr) (n c:Nat) (xs:List Int) (A2:Option Addr) (n2 c2:Nat) (ys:List Int) (B:Nat) (w:World) (hx:jP w B A n c xs) (hy:jP w B A2 n2 c2 ys) (hB:B<=w.heap.size) :
  Calls Tryz.prog 24 #[.slice A n c,.slice A2 n2 c2] w λe w'=>e=.returned (.bool (decide (xs=ys)))/\∃m,w'=w.drewN m:=by
 have hlx:=hx.len
 have hly:=hy.len
 subst hlx
 subst hly
 have hnx:=Rq.nmax hx
 have hny:=Rq.nmax hy
 have HTX:=ja hx
 have HTY:=ja hy
 clear hx hy
 go_enter Tryz.func24,Tryz.ntmps24
 by_cases hl:(xs.length:Int)=(ys.length:Int)
 ·go_wp2
  go_loopw [5] (λi W=>∃(k:Nat),k<=xs.length/\i=.int .i64 k/\xs.take k=ys.take k/\∃q,W=w.drewN q) (λi _=>xs.length-(intOf i).toNat)
  case atStart=>exact⟨0,by omega,rfl,rfl,0,rfl⟩
  case round=>
   obtain⟨k,hk,rfl,hpre,q,rfl⟩:=hrel
   have HPRE:=ja hpre
   have HTXq:Hid (jP (w.drewN q) B A xs.length c xs):=ja HTX.o
   have HTYq:Hid (jP (w.drewN q) B A2 ys.length c2 ys):=ja HTY.o
   have HBq:Hid (∃m,w.drewN q=w.drewN m):=ja ⟨q,rfl⟩
   have HDD:=ja (λp=>dd w q p)
   clear hpre
   generalize w.drewN q=W at *
   by_cases hkl:(k:Int)<(xs.length:Int)
   ·have hk1:k<xs.length:=by omega
    have hk2:k<ys.length:=by omega
    obtain⟨ad,rfl,-,ha0⟩:=HTXq.o.at_ hk1
    obtain⟨ad2,rfl,-,hb0⟩:=HTYq.o.at_ hk2
    have hky:(k:Int)<(ys.length:Int):=by omega
    go_wp2
    have htk1:=List.take_succ_eq_append_getElem hk1
    have htk2:=List.take_succ_eq_append_getElem hk2
    by_cases heq:xs[k]=ys[k]
    ·have HTK:Hid (xs.take (k+1)=ys.take (k+1)):=ja (by rw[htk1,htk2,HPRE.o,heq])
     rw[heq] at ha0
     clear htk1 htk2 heq
     go_quiet (fail)
     go_wp2
     obtain⟨q2,hq2⟩:=HDD.o nq
     exact⟨⟨k+1,by omega,by go_num,HTK.o,q2,hq2⟩,by simp[intOf];omega⟩
    ·have HNE:=ja (show ¬xs=ys from λe=>heq (by simp only[e]))
     clear htk1 htk2
     go_quiet (fail)
     go_wp2
     go_ret
     exact⟨by simp[HNE.o],HDD.o nq⟩
   ·obtain rfl:k=xs.length:=by omega
    go_wp2
    go_ret
    have hpre:=HPRE.o
    rw[List.take_of_length_le (Nat.le_refl _),List.take_of_length_le (by omega)] at hpre
    exact⟨by simp[hpre],HBq.o⟩
 ·go_wp2
  go_ret
  have hne:¬xs=ys:=λe=>hl (by rw[e])
  exact⟨by simp[hne],0,rfl⟩
open Go.ChangeShapes Go.WideShapes Go.ChangeAt Go.RowKit Go.Joins Go.Deep
instance:Inhabited PieceV:=⟨⟨false,none,0,0,[]⟩⟩
section
variable {H : Type} {enc : TypeId × Value → H} {W : World} {spare : Nat → Bool} {held : Bool} {fuel : Nat}
end
