import Derived.Test.YtphcodcdfeohhaaGreatDoorCordGToCardB
import Derived.Test.YtphcodcdfeohhaaGreatDoorRootAToMakeR
import Derived.Test.YtphcodcdfeohhaaGreatDoorRefH
import Derived.Test.YtphcodcdfeohhaaGreatDoorLesAToBelR
import Derived.Test.YtphcodcdfeohhaaGreatDoorWithAToCordX
import Derived.Test.YtphcodcdfeohhaaGreatDoorFlowToNumK
set_option linter.unusedVariables false
set_option linter.unusedSimpArgs false
namespace Go.Proofs.YtphcodcdfeohhaaGreatDoor
set_option maxRecDepth 100000
set_option maxHeartbeats 4000000
open Go Go.RowKit
theorem jcc4(n:Int)(w:World):Calls Tryz.prog 95 #[.int .i64 n] w (zs2 w ((zj6 1 [(1,n)]).1,(zj6 1 [(1,n)]).2.1)):=by
 obtain⟨⟨s1,s2,s3⟩,hs⟩:∃s,zj6 1 [(1,n)]=s:=⟨_,rfl⟩
 rw[hs]
 obtain⟨w0,hw0⟩:∃w0,w0=w.alloc (.cells #[.int .i64 0,.slice none 0 0] 24):=⟨_,rfl⟩
 have hz0:w0.heap.size=w.heap.size+1:=by rw[hw0];simp
 have HR0:Hid (Blk w0 w.heap.size 24 #[.int .i64 0,.slice none 0 0]):=ja0 (by rw[hw0];exact Blk.new w _ _)
 have HB0:Hid (Below w.heap.size w w0):=ja0 (by rw[hw0];exact(Below.refl _ _).alloc (Nat.le_refl _) _)
 have hrow:(w0.alloc (.cells #[.int .i64 1,.int .i64 n] 59)).ownsRow w0.heap.size 59 2 (.slice (some ⟨w0.heap.size,0,none⟩) 1 1) 1 (jb4 [(1,n)]):=
  World.ownsRow_lit (base:=w0.heap.size) (e:=59) (size:=2) w0 #[.int .i64 1,.int .i64 n] 1 (Nat.le_refl _) (by unfold maxLen;omega) rfl
 have HM:=ja0 (jcp5 1 (some ⟨w0.heap.size,0,none⟩) 1 1 _ [(1,n)] _ (Rq.of (Rd.of_own hrow)) (Nat.le_refl _))
 rw[hs] at HM
 have HZ:=ja0 hz0
 clear hrow hs hz0
 go_enter Tryz.func95,Tryz.ntmps95
 go_upto_region 1 with fail
 rw[<-hw0]
 clear hw0
 go_upto_region 2 with(first
  | (go_at_call 137;refine HM.out.mono ?_;rintro e w1 ⟨A,n1,c,rfl,ho,hb⟩
     have hz0:=HZ.out
     (try simp only[World.size_alloc] at ho hb)
     have hz1:=hb.size
     simp only[World.size_alloc] at hz1
     have HR1:=ja0 (((HR0.out.alloc (.cells #[.int .i64 1,.int .i64 n] 59)).below hb (by omega)).alloc (.cells #[.int .i64 s1,.slice A n1 c] 24))
     have HB1:=ja0 (((HB0.out.alloc (by omega) (.cells #[.int .i64 1,.int .i64 n] 59)).trans (hb.mono (by omega))).alloc (by omega) (.cells #[.int .i64 s1,.slice A n1 c] 24))
     have HN1:=ja0 (Blk.new w1 24 #[.int .i64 s1,.slice A n1 c])
     have HO1:=ja0 (jd3 (ho.alloc (.cells #[.int .i64 s1,.slice A n1 c] 24)) (show w.heap.size<=_ by omega))
     clear ho hb HM hz0 hz1))
 obtain⟨X3,hX3⟩:∃X,X=w1.heap.size:=⟨_,rfl⟩
 rw[<-hX3] at HN1 ⊢
 clear hX3
 generalize w1.alloc (.cells #[.int .i64 s1,.slice A n1 c] 24)=W at *
 obtain⟨p0,p1,_,_⟩:=HN1.out.two
 obtain⟨r0,r1,rf0,rf1⟩:=HR1.out.two
 go_wp2
 refine jk7 (p:=2) (ty:=24) rfl rfl ((HR1.out.set_ 0 _).set_ 1 _) (d:=_) rfl Tryz.underlying24 Tryz.sizeNumber rfl ?_
 exact⟨A,n1,c,rfl,jf9 (jf9 HO1.out HR1.out (by decide)) (HR1.out.set_ 0 _) (by decide),(HB1.out.setCell (p:=⟨w.heap.size,0,none⟩) (Nat.le_refl _) _).setCell (p:=⟨w.heap.size,1,none⟩) (Nat.le_refl _) _⟩
theorem zm9 (xd:Int) (A:Option Addr) (n c:Nat) (xt:List (Int×Int)) (m:Int) (B:Nat) (w:World) (hx:jd1 w B A n c xt) (hB:B<=w.heap.size) :
  Calls Tryz.prog 48 #[.agg #[.int .i64 xd,.slice A n c],.int .i64 m] w (jd0 w (jv6 xd xt m)):=by
 obtain⟨w0,hw0⟩:∃w0,w0=(w.alloc (.cells #[.int .i64 xd,.slice A n c] 24)).alloc (.cells #[.int .i64 0,.slice none 0 0] 24):=⟨_,rfl⟩
 have hz0:w0.heap.size=w.heap.size+2:=by rw[hw0];simp
 have h01:Below w.heap.size w w0:=by rw[hw0];exact((Below.refl _ _).alloc (Nat.le_refl _) _).alloc (by simp) _
 have HX0:Hid (Blk w0 w.heap.size 24 #[.int .i64 xd,.slice A n c]):=ja0 (by rw[hw0];exact(Blk.new w _ _).alloc _)
 have HR0:Hid (Blk w0 (w.heap.size+1) 24 #[.int .i64 0,.slice none 0 0]):=ja0 (by
  rw[hw0]
  have h:=Blk.new (w.alloc (.cells #[.int .i64 xd,.slice A n c] 24)) 24 #[.int .i64 0,.slice none 0 0]
  rwa [World.size_alloc] at h)
 have HP:=ja0 (fun W (hb:Below w.heap.size w W)=>Rq.below hx (hb.mono hB))
 have HNM:=ja0 (js3 xd A n c B xt w0 (HP.out _ h01) (by omega))
 have HB0:=ja0 h01
 clear hx h01
 have hpost:∀(W:World) (a:Act) (A:Option Addr) (n c:Nat) (x y:Int) (s:List (Int×Int)),jv6 xd xt m=(x,s,y)->W.ownsRow w.heap.size 59 2 (.slice A n c) n (jb4 s)->Below w.heap.size w W->Blk W (w.heap.size+1) 24 #[.int .i64 x,.slice A n c] ->
   a.tmps.getD 4 undef=.pointer (some ⟨w.heap.size+1,0,none⟩)->a.tmps.getD 5 undef=.int .i64 y->a.defers=[] ->
   bodyPost Tryz.prog Tryz.f48 (jd0 w (jv6 xd xt m)) .ret a W:=by
  intro W a A n c x y s e1 e2 e3 e4 e5 e6 e7
  refine ja8 (p:=4) (u:=5) (ty:=24) rfl e5 e4 Tryz.underlying24 rfl Tryz.sizeNumber e7 ?_
  rw[e6,e1]
  exact⟨A,n,c,rfl,e2,e3⟩
 have HPOST:=ja0 hpost
 clear hpost
 go_enter Tryz.func48,Tryz.ntmps48
 go_upto_region 1 with fail
 rw[<-hw0]
 clear hw0
 obtain⟨x0,x1,_,_⟩:=HX0.out.two
 obtain⟨r0,r1,rf0,rf1⟩:=HR0.out.two
 cases hok:jb3 xd xt
 ·have HV:Hid (jv6 xd xt m=(0,[],2)):=ja0 (by unfold jv6;rw[if_pos hok])
  rw[hok] at HNM
  clear hok
  go_wp2_with (first
   | (go_at_call 39;refine HNM.out.mono ?_;rintro e w1 ⟨rfl,hb1⟩
      have HR1:=ja0 (HR0.out.below hb1 (by omega));have HB1:=ja0 (HB0.out.trans (hb1.mono (by omega)))
      obtain⟨u0,u1,uf0,uf1⟩:=HR1.out.two
      clear hb1))
  exact HPOST.out _ _ none 0 0 0 2 [] HV.out ⟨rfl,.inl ⟨rfl,rfl⟩⟩ (Below.setCell (Below.setCell HB1.out (p:=⟨w.heap.size+1,0,none⟩) (by simp) _) (p:=⟨w.heap.size+1,1,none⟩) (by simp) _) ((HR1.out.set_ 0 _).set_ 1 _) rfl rfl rfl
 ·rw[hok] at HNM
  cases hin:inB m 1 1000
  ·have HV:Hid (jv6 xd xt m=(0,[],3)):=ja0 (by unfold jv6;rw[if_neg (by rw[hok];decide),if_pos hin])
   have HW:=ja0 (fun W=>jaj1 m 1 1000 W)
   rw[hin] at HW
   clear hok hin
   go_wp2_with (first
    | (go_at_call 56;refine(HW.out _).mono ?_;rintro e w2 ⟨rfl,hw⟩;subst w2)
    | (go_at_call 39;refine HNM.out.mono ?_;rintro e w1 ⟨rfl,hb1⟩
       have HR1:=ja0 (HR0.out.below hb1 (by omega));have HB1:=ja0 (HB0.out.trans (hb1.mono (by omega)))
       obtain⟨u0,u1,uf0,uf1⟩:=HR1.out.two
       clear hb1))
   exact HPOST.out _ _ none 0 0 0 3 [] HV.out ⟨rfl,.inl ⟨rfl,rfl⟩⟩ (Below.setCell (Below.setCell HB1.out (p:=⟨w.heap.size+1,0,none⟩) (by simp) _) (p:=⟨w.heap.size+1,1,none⟩) (by simp) _) ((HR1.out.set_ 0 _).set_ 1 _) rfl rfl rfl
  ·have HV:Hid (jv6 xd xt m=jd6 xd xt (zj6 1 [(1,m)]).1 (zj6 1 [(1,m)]).2.1 (-1)):=ja0 (by unfold jv6;rw[if_neg (by rw[hok];decide),if_neg (by rw[hin];decide)])
   have HW:=ja0 (fun W=>jaj1 m 1 1000 W)
   rw[hin] at HW
   have HRT:=ja0 (fun W=>jcc4 m W)
   obtain⟨⟨q1,q2,q3⟩,hq⟩:∃q,zj6 1 [(1,m)]=q:=⟨_,rfl⟩
   rw[hq] at HRT HV
   obtain⟨s1,s2,s3,hs⟩:∃a b c,jd6 xd xt q1 q2 (-1)=(a,b,c):=⟨_,_,_,rfl⟩
   have HQ:=ja0 hs
   rw[show jd6 xd xt (q1,q2,q3).1 (q1,q2,q3).2.1 (-1)=(s1,s2,s3)from hs] at HV
   clear hok hin hs hq
   go_upto_region 5 with(first
    | (go_at_call 56;refine(HW.out _).mono ?_;rintro e w2 ⟨rfl,hw⟩;subst w2)
    | (go_at_call 39;refine HNM.out.mono ?_;rintro e w1 ⟨rfl,hb1⟩
       have HS:=ja0 (And.intro (And.intro (And.intro (HB0.out.trans (hb1.mono (by omega))) (show w.heap.size<=w1.heap.size by have:=hb1.size;omega)) (HX0.out.below hb1 (by omega))) (HR0.out.below hb1 (by omega)))
       clear hb1))
   clear x0 x1 r0 r1 rf0 rf1 HX0 HR0 HB0 HW HNM
   obtain⟨X2,hX2⟩:∃X,X=w.heap.size:=⟨_,rfl⟩
   obtain⟨X4,hX4⟩:∃X,X=w.heap.size+1:=⟨_,rfl⟩
   rw[<-hX4,<-hX2] at ⊢
   replace HS:Hid (((Below w.heap.size w w1/\w.heap.size<=w1.heap.size)/\Blk w1 X2 24 #[.int .i64 xd,.slice A n c])/\Blk w1 X4 24 #[.int .i64 0,.slice none 0 0]):=ja0 (by rw[hX2,hX4];exact HS.out)
   have HX4:=ja0 hX4
   clear hX2 hX4
   obtain⟨x0,x1,_,_⟩:=HS.out.1.2.two
   have h2:X2<w1.heap.size:=HS.out.1.2.lt
   have HGd:Hid ((((Below w.heap.size w w1.drew/\w.heap.size<=w1.drew.heap.size)/\Blk w1.drew X2 24 #[.int .i64 xd,.slice A n c])/\Blk w1.drew X4 24 #[.int .i64 0,.slice none 0 0])/\(Below w1.heap.size w1 w1.drew/\w1.heap.size<=w1.drew.heap.size)):=ja0 ⟨Kept.keep (S:=fun W=>(((Below w.heap.size w W/\w.heap.size<=W.heap.size)/\Blk W X2 24 #[.int .i64 xd,.slice A n c])/\Blk W X4 24 #[.int .i64 0,.slice none 0 0])) _ _ HS.out (Below.drew (Below.refl _ _)),Below.drew (Below.refl _ _),Nat.le_refl _⟩
   refine jt7 6 (fun W'=>Below w1.heap.size w1 W') (fun _ _ _=>True) [] (fun W'=>(((Below w.heap.size w W'/\w.heap.size<=W'.heap.size)/\Blk W' X2 24 #[.int .i64 xd,.slice A n c])/\Blk W' X4 24 #[.int .i64 0,.slice none 0 0])/\(Below w1.heap.size w1 W'/\w1.heap.size<=W'.heap.size)) (by kernel_rfl)
    (Floats.of (by decide +kernel) (fun c a d v w=>by cases d<;>exact Iff.rfl) (by intro i hi;cases hi) (fun _ _ _ _ _ _=>trivial))
    (fun _ _ _ h=>h) (by decide) HGd.out (fun W h=>h.2.1) (fun HFL=>?_)
   refine jg2.take 0 (v:=?_) rfl rfl HFL (by decide +kernel) (fun W h=>h.2.1) (by rfl) (fun W hF=>?_) ?_
   rotate_left 1
   focus (have hF:=hF (by decide +kernel);have e1:=(hF.cell (p:=⟨X2,0,none⟩) h2).trans x0;have e2:=(hF.cell (p:=⟨X2,1,none⟩) h2).trans x1;clear hF;go_simp;try with_reducible rfl)
   (try simp only[Act.put,lA,lB,lC])
   refine jg2.take 1 (v:=?_) rfl rfl HFL (by decide +kernel) (fun W h=>h.2.1) (by rfl) (fun W hF=>?_) ?_
   rotate_left 1
   focus (clear hF;go_simp;try with_reducible rfl)
   (try simp only[Act.put,lA,lB,lC])
   refine jg2.on 2 (fun x:Sl=>.agg #[.int .i64 q1,.slice x.1 x.2.1 x.2.2]) (fun x W=>zs0 0 x q2 W) rfl rfl HFL (by decide +kernel) (fun W h=>h.2.1) (fun W hG K' hK=>?_) (fun x2 hF2=>?_)
   focus
    have HC:=ja0 (HRT.out W)
    clear hG
    go_simp
    go_wp2_with (first
     | (go_at_call 95;refine HC.out.mono ?_;rintro e w6 ⟨A,n,c,rfl,ho,hb⟩
        have HO:=ja0 (jd3 ho (Nat.zero_le _));have HBB:=ja0 hb;clear ho hb))
    exact hK.out (A,n,c) _ HO.out HBB.out
   (try simp only[Act.put,lA,lB,lC])
   refine jg2.on 3 (fun x:Sl=>.tuple #[.agg #[.int .i64 s1,.slice x.1 x.2.1 x.2.2],.int .i64 s3]) (fun x W=>zs0 w.heap.size x s2 W) rfl rfl HFL (by decide +kernel) hF2 (fun W hG K' hK=>?_) (fun x3 hF3=>?_)
   focus
    have HSZ:=ja0 hG.1.1.1.1.2
    have HC:=ja0 (jcp6 xd A n c xt q1 x2.1 x2.2.1 x2.2.2 q2 (-1) W.heap.size W (Rq.more (HP.out W hG.1.1.1.1.1) (Nat.le_trans hB hG.1.1.1.1.2)) (Rq.of (jk3 hG.2)) (Nat.le_refl _) (by omega))
    rw[HQ.out] at HC
    clear hG
    go_simp
    go_wp2_with (first
     | (go_at_call 57;refine HC.out.mono ?_;rintro e w6 ⟨A,n,c,rfl,ho,hb⟩
        have HO:=ja0 (jd3 ho HSZ.out);have HBB:=ja0 hb;clear ho hb))
    exact hK.out (A,n,c) _ HO.out HBB.out
   (try simp only[Act.put,lA,lB,lC])
   refine jg2.take 4 (v:=?_) rfl rfl HFL (by decide +kernel) hF3 (by rfl) (fun W hF=>?_) ?_
   rotate_left 1
   focus (clear hF;go_simp;try with_reducible rfl)
   (try simp only[Act.put,lA,lB,lC])
   refine jg2.take 5 (v:=?_) rfl rfl HFL (by decide +kernel) hF3 (by rfl) (fun W hF=>?_) ?_
   rotate_left 1
   focus (clear hF;go_simp;try with_reducible rfl)
   (try simp only[Act.put,lA,lB,lC])
   refine jg2.fin rfl hF3 (fun W5 hG ja1=>?_)
   have HS5:=ja0 hG.1.1.1
   have HO5:=ja0 hG.2
   clear hG HGd HFL hF2 hF3 HS x0 x1 h2
   obtain⟨r0,r1,rf0,rf1⟩:=HS5.out.2.two
   refine ja5 6 rfl (by decide +kernel) (fun K hK=>?_)
   go_simp
   refine hK.out _ _ ⟨trivial,fun h=>absurd h (by decide +kernel),fun _=>trivial⟩ (fun ja1=>?_)
   clear hK K
   (try simp only[Act.put,lA,lB,lC])
   refine ja2 7 rfl (by decide +kernel) (fun c a w h=>by first|exact h|(cases h;done)) (by rfl) (v:=?_) ?_ ja1 (fun ja3=>?_)
   rotate_left 1
   focus (intro w' hSw;clear hSw;go_simp;try with_reducible rfl)
   clear ja1
   rename ja4 _ _ _ _ _ _ _=>ja1
   (try simp only[Act.put,lA,lB,lC])
   refine jc0 (by decide +kernel) ?_
   clear ja1
   obtain⟨A5,n5,c5⟩:=x3
   dsimp only at HO5 ⊢
   have hX4w:w.heap.size<=X4:=by have:=HX4.out;omega
   go_wp2
   have hX4:=HX4.out
   refine HPOST.out _ _ A5 n5 c5 s1 s3 s2 HV.out ?_ ?_ ?_ ?_ ?_ ?_
   ·exact jf9 (jf9 HO5.out HS5.out.2 (by decide)) (HS5.out.2.set_ 0 _) (by decide)
   ·exact(HS5.out.1.1.1.setCell (p:=⟨X4,0,none⟩) hX4w _).setCell (p:=⟨X4,1,none⟩) hX4w _
   ·rw[<-hX4];exact(HS5.out.2.set_ 0 _).set_ 1 _
   ·rw[<-hX4];rfl
   ·rfl
   ·rfl
theorem jbz8{xd n d:Int}{xt t:List (Int×Int)}(h:jv6 xd xt n=(d,t,0)):jb3 d t=true:=by
 unfold jv6 at h
 split at h
 ·injection h with _ h;injection h with _ h;exact absurd h (by decide)
 ·split at h
  ·injection h with _ h;injection h with _ h;exact absurd h (by decide)
  ·exact jaz5 h
theorem jbp4(w:World):Calls Tryz.prog 44 #[.int .i64 (-1)] w (zs2 w (1,[(-1,1)])):=jcc6 (-1) w
theorem jbj8 (xd:Int) (A:Option Addr) (n c:Nat) (xt:List (Int×Int)) (den:Int) (B:Nat) (w:World) (hx:jd1 w B A n c xt) (hB:B<=w.heap.size) (hok:jb3 xd xt=true) :
  Calls Tryz.prog 45 #[.agg #[.int .i64 xd,.slice A n c],.int .i64 den] w fun e w'=>∃low high cc,e=.returned (.tuple #[.int .i64 low,.int .i64 high,.int .i64 cc])/\jp3 xd xt den low high cc/\Below w.heap.size w w':=by
 obtain⟨w0,hw0⟩:∃w0,w0=w.alloc (.cells #[.int .i64 xd,.slice A n c] 24):=⟨_,rfl⟩
 have hz0:w0.heap.size=w.heap.size+1:=by rw[hw0];simp
 have HX0:Hid (Blk w0 w.heap.size 24 #[.int .i64 xd,.slice A n c]):=ja0 (by rw[hw0];exact Blk.new w _ _)
 have HB0:Hid (Below w.heap.size w w0):=ja0 (by rw[hw0];exact(Below.refl _ _).alloc (Nat.le_refl _) _)
 have HP:=ja0 (fun W (hb:Below w.heap.size w W)=>Rq.below hx (hb.mono hB))
 have HIN:=ja0 (fun W=>jaj1 den 1 1000000000 W)
 clear hx
 go_enter Tryz.func45,Tryz.ntmps45
 go_upto_region 1 with fail
 rw[<-hw0]
 clear hw0
 obtain⟨x0,x1,_,_⟩:=HX0.out.two
 cases hin:inB den 1 1000000000
 ·rw[hin] at HIN
  have HV:=ja0 hin
  clear hin
  go_wp2_with (first
   | (go_at_call 56;refine(HIN.out _).mono ?_;rintro e w2 ⟨rfl,hw⟩;subst w2))
  go_ret3
  exact⟨_,_,_,rfl,.inr (.inl ⟨hok,HV.out,rfl,rfl,rfl⟩),HB0.out⟩
 ·rw[hin] at HIN
  have HV:=ja0 hin
  have hd:1<=den/\den<=1000000000:=by simpa [inB] using hin
  have HBW:=ja0 (show Calls Tryz.prog 91 #[.agg #[.int .i64 xd,.slice A n c],.int .i64 den] w0 fun e w'=>∃r,e=.returned (.int .i64 r)/\zb0 xd xt den r/\Below w0.heap.size w0 w' by
   obtain⟨xdn,hxdn⟩:=Int.eq_ofNat_of_zero_le (show 0<=xd by have:=(jb2 hok).1;omega)
   obtain⟨dn,hdn⟩:=Int.eq_ofNat_of_zero_le (show 0<=den by omega)
   subst hxdn hdn
   exact jcc3 xdn A n c xt dn B w0 (HP.out _ HB0.out) (by omega) hok (by omega) (by omega))
  clear hin
  go_upto_region 4 with(first
   | (go_at_call 91;refine HBW.out.mono ?_;rintro e w1 ⟨low,rfl,hr,hb⟩
      have HBL:=ja0 hr
      have HX1:=ja0 (HX0.out.below hb (by omega));have HB1:=ja0 (HB0.out.trans (hb.mono (by omega)))
      clear hr hb)
   | (go_at_call 56;refine(HIN.out _).mono ?_;rintro e w2 ⟨rfl,hw⟩;subst w2))
  clear x0 x1 HBW HIN
  obtain⟨x0,x1,_,_⟩:=HX1.out.two
  have hlb:=HBL.out.2.2.1
  have HBE:=ja0 (jak5 xd A n c xt den low B w1 (HP.out _ HB1.out) (Nat.le_trans hB HB1.out.size) hok hd (by have:=HBL.out.2.2.2;omega) (by omega))
  go_wp2_with fail
  refine HBE.out.mono ?_
  rintro e w2 ⟨s,rfl,hs,hb⟩
  have HB2:=ja0 (HB1.out.trans (hb.mono HB1.out.size))
  obtain⟨s',h1,h2⟩:=HBL.out.1
  obtain rfl:=hs.unique h2
  have HSG:=ja0 hs
  clear hs h2 hb HBE x0 x1
  by_cases h0:s=0
  ·subst h0
   go_wp2
   go_ret3
   exact⟨_,_,_,rfl,.inr (.inr ⟨hok,HV.out,rfl,HBL.out,.inr ⟨HSG.out,rfl⟩⟩),HB2.out⟩
  ·have hse:(s==0)=false:=by simpa using h0
   go_wp2
   go_ret3
   exact⟨_,_,_,rfl,.inr (.inr ⟨hok,HV.out,rfl,HBL.out,.inl ⟨⟨s,by omega,HSG.out⟩,rfl⟩⟩),HB2.out⟩
end Go.Proofs.YtphcodcdfeohhaaGreatDoor
