import Derived.Test.YtphcodcdfeohhaaGreatDoorOfsA
import Derived.Test.YtphcodcdfeohhaaGreatDoorIdxPToCordB
import Derived.Test.YtphcodcdfeohhaaGreatDoorTimB
import Derived.Test.YtphcodcdfeohhaaGreatDoorLesAToBelR
import Derived.Test.YtphcodcdfeohhaaGreatDoorVarNToKnown
set_option linter.unusedVariables false
set_option linter.unusedSimpArgs false
namespace Go.Proofs.YtphcodcdfeohhaaGreatDoor
set_option maxRecDepth 100000
set_option maxHeartbeats 8000000
open Go Go.RowKit
def OffD(r:Int×List (Int×Int)×Int)(den low high c:Int):Prop:=(r.2.2≠0/\low=0/\high=0/\c=r.2.2)\/(r.2.2=0/\jp3 r.1 r.2.1 den low high c)
theorem jfh0{xd n d c:Int}{xt t:List (Int×Int)}(h:jv6 xd xt n=(d,t,c)):t.length<=1000:=by
 unfold jv6 at h
 split at h
 ·injection h with _ h;injection h with h _;rw[<-h];simp
 ·split at h
  ·injection h with _ h;injection h with h _;rw[<-h];simp
  ·exact jfk4 h
theorem jfr3{xd n den l h c l' h' c':Int}{xt:List (Int×Int)}(g:jby8 xd xt n den l h c)(g':OffD (jv6 xd xt n) den l' h' c'):l=l'/\h=h'/\c=c':=by
 obtain⟨r,hr,g⟩:=g
 obtain rfl:=hr.eq
 rcases g with⟨a1,rfl,rfl,rfl⟩|⟨a1,a2⟩<;>rcases g' with⟨b1,rfl,rfl,rfl⟩|⟨b1,b2⟩
 ·exact⟨rfl,rfl,rfl⟩
 ·exact absurd b1 a1
 ·exact absurd a1 b1
 ·exact jcg5 a2 b2
def jdc6(r:Int×List (Int×Int)×Int)(bd:Int)(bt:List (Int×Int))(b:Bool)(c:Int):Prop:=
 (jb3 bd bt=false/\b=false/\c=2)\/(jb3 bd bt=true/\((r.2.2≠0/\b=false/\c=r.2.2) \/
  (r.2.2=0/\c=0/\∃s1,jc1 (jh2 r.2.1 bd bt r.1) s1/\((¬s1<=0/\b=false)\/(s1<=0/\∃s2,jc1 (jh2 (jd6 1 [] r.1 r.2.1 (-1)).2.1 bd bt (jd6 1 [] r.1 r.2.1 (-1)).1) s2/\b=decide (s2<=0))))))
def jcf1(w:World)(r:Int×List (Int×Int)×Int)(bd:Int)(bt:List (Int×Int))(e:Ending)(w':World):Prop:=∃b cc,e=.returned (.tuple #[.bool b,.int .i64 cc])/\jdc6 r bd bt b cc/\Below w.heap.size w w'
theorem jdt5{xd n bd c c':Int}{xt bt:List (Int×Int)}{b b':Bool}(g:jac0 xd xt n bd bt b c)(g':jdc6 (jv6 xd xt n) bd bt b' c'):b=b'/\c=c':=by
 rcases g with⟨a1,rfl,rfl⟩|⟨a1,r,hr,a2⟩<;>rcases g' with⟨b1,rfl,rfl⟩|⟨b1,b2⟩
 ·exact⟨rfl,rfl⟩
 ·rw[a1] at b1;cases b1
 ·rw[a1] at b1;cases b1
 ·obtain rfl:=hr.eq
  rcases a2 with⟨h1,rfl,rfl⟩|⟨h1,rfl,s1,c1,s2,c2,h2,h3,rfl⟩<;>rcases b2 with⟨k1,rfl,rfl⟩|⟨k1,rfl,s1',k2,k3⟩
  ·exact⟨rfl,rfl⟩
  ·exact absurd k1 h1
  ·exact absurd h1 k1
  ·obtain⟨⟨rd,rt,rc⟩,hr⟩:∃r,jv6 xd xt n=r:=⟨_,rfl⟩
   rw[hr] at h1 h2 h3 k2 k3
   dsimp only at h1 h2 h3 k2 k3
   subst h1
   have hok:=jbz8 hr
   obtain⟨hq0,hq1⟩:=jcz5 (IsN.self hok)
   have e1:s1=s1':=by
    rcases h2 with⟨_,h,_⟩|⟨h,_⟩
    ·exact h.unique k2
    ·rw[hok,b1] at h;cases h
   subst e1
   refine⟨?_,rfl⟩
   rcases k3 with⟨g1,rfl⟩|⟨g1,s2',g2,rfl⟩
   ·simp[g1]
   ·have e2:s2=s2':=by
     rcases h3 with⟨_,h,_⟩|⟨h,_⟩
     ·exact h.unique g2
     ·rw[hq1.1,b1] at h;cases h
    subst e2
    simp[g1]
theorem jda4 (xd:Int) (A:Option Addr) (n c:Nat) (xt:List (Int×Int)) (m den:Int) (B:Nat) (w:World) (hx:jd1 w B A n c xt) (hB:B<=w.heap.size) :
  Calls Tryz.prog 15 #[.agg #[.int .i64 xd,.slice A n c],.int .i64 m,.int .i64 den] w fun e w'=>∃low high c,e=.returned (.tuple #[.int .i64 low,.int .i64 high,.int .i64 c])/\OffD (jv6 xd xt m) den low high c/\Below w.heap.size w w':=by
 have HX0:=ja0 (Blk.new w 24 #[.int .i64 xd,.slice A n c])
 have HB0:=ja0 ((Below.refl w.heap.size w).alloc (Nat.le_refl _) (.cells #[.int .i64 xd,.slice A n c] 24))
 have HD:=ja0 (zm9 xd A n c xt m B (w.alloc (.cells #[.int .i64 xd,.slice A n c] 24)) (Rq.alloc hx hB _) (by simp;omega))
 obtain⟨⟨s1,s2,s3⟩,hs⟩:∃s,jv6 xd xt m=s:=⟨_,rfl⟩
 rw[hs] at HD ⊢
 clear hx
 go_enter Tryz.func15,Tryz.ntmps15
 obtain⟨x0,x1,_,_⟩:=HX0.out.two
 by_cases h3:s3=0
 rotate_left 1
 focus
  clear hs
  have h3b:(s3 !=0)=true:=by simpa using h3
  go_wp2_with (first
   | (go_at_call 48;refine HD.out.mono ?_;rintro e w1 ⟨A1,n1,c1,rfl,ho1,hb1⟩
      (try simp only[World.size_alloc] at ho1 hb1)
      have hz1:=hb1.size
      simp only[World.size_alloc] at hz1
      have HB1:=ja0 ((HB0.out.trans (hb1.mono (by omega))).alloc (by omega) (.cells #[.int .i64 s1,.slice A1 n1 c1] 24))
      clear ho1 hb1))
  go_ret3
  exact⟨_,_,_,rfl,.inl ⟨h3,rfl,rfl,rfl⟩,HB1.out⟩
 subst h3
 have hok:=jbz8 hs
 clear hs
 go_wp2_with (first
  | (go_at_call 48;refine HD.out.mono ?_;rintro e w1 ⟨A1,n1,c1,rfl,ho1,hb1⟩
     (try simp only[World.size_alloc] at ho1 hb1)
     have hz1:=hb1.size
     simp only[World.size_alloc] at hz1
     have HB1:=ja0 ((HB0.out.trans (hb1.mono (by omega))).alloc (by omega) (.cells #[.int .i64 s1,.slice A1 n1 c1] 24))
     have HN1:=ja0 (Blk.new w1 24 #[.int .i64 s1,.slice A1 n1 c1])
     have HT1:Hid (ja6 (w1.alloc (.cells #[.int .i64 s1,.slice A1 n1 c1] 24)) w1.heap.size A1 n1 c1 s2):=ja0 (Rd.alloc (Rd.of_own ho1) (Nat.le_refl _) _)
     obtain⟨p0,p1,_,_⟩:=HN1.out.two
     have HBD:=ja0 (jbj8 s1 A1 n1 c1 s2 den w1.heap.size _ (Rq.of HT1.out) (by simp) hok)
     clear ho1 hb1)
  | (go_at_call 45;refine HBD.out.mono ?_;rintro e w2 ⟨low,high,cc,rfl,hbr,hb2⟩
     (try simp only[World.size_alloc] at hb2)
     have HB2:=ja0 (HB1.out.trans (hb2.mono (by omega)))
     have HBR:=ja0 hbr
     clear hbr hb2))
 go_ret3
 exact⟨_,_,_,rfl,.inr ⟨rfl,HBR.out⟩,HB2.out⟩
theorem jbp5 (xd:Int) (A:Option Addr) (n c:Nat) (xt:List (Int×Int)) (m bd:Int) (bA:Option Addr) (bn bc:Nat) (bt:List (Int×Int)) (B:Nat) (w:World) (hx:jd1 w B A n c xt) (hy:jd1 w B bA bn bc bt) (hB:B<=w.heap.size) :
  Calls Tryz.prog 17 #[.agg #[.int .i64 xd,.slice A n c],.int .i64 m,.agg #[.int .i64 bd,.slice bA bn bc]] w (jcf1 w (jv6 xd xt m) bd bt):=by
 obtain⟨w0,hw0⟩:∃w0,w0=(w.alloc (.cells #[.int .i64 xd,.slice A n c] 24)).alloc (.cells #[.int .i64 bd,.slice bA bn bc] 24):=⟨_,rfl⟩
 have hz0:w0.heap.size=w.heap.size+2:=by rw[hw0];simp
 have h01:Below w.heap.size w w0:=by rw[hw0];exact((Below.refl _ _).alloc (Nat.le_refl _) _).alloc (by simp) _
 have HX0:Hid (Blk w0 w.heap.size 24 #[.int .i64 xd,.slice A n c]):=ja0 (by rw[hw0];exact(Blk.new w _ _).alloc _)
 have HY0:Hid (Blk w0 (w.heap.size+1) 24 #[.int .i64 bd,.slice bA bn bc]):=ja0 (by
  rw[hw0]
  have h:=Blk.new (w.alloc (.cells #[.int .i64 xd,.slice A n c] 24)) 24 #[.int .i64 bd,.slice bA bn bc]
  rwa [World.size_alloc] at h)
 have HPX:=ja0 (fun W (hb:Below w.heap.size w W)=>Rq.below hx (hb.mono hB))
 have HPY:=ja0 (fun W (hb:Below w.heap.size w W)=>Rq.below hy (hb.mono hB))
 have HNM:=ja0 (js3 bd bA bn bc B bt w0 (HPY.out _ h01) (by omega))
 have HB0:=ja0 h01
 clear hx hy h01
 obtain⟨⟨s1,s2,s3⟩,hs⟩:∃s,jv6 xd xt m=s:=⟨_,rfl⟩
 have HSD:=ja0 hs
 rw[hs]
 clear hs
 go_enter Tryz.func17,Tryz.ntmps17
 go_upto_region 1 with fail
 rw[<-hw0]
 clear hw0
 obtain⟨x0,x1,_,_⟩:=HX0.out.two
 obtain⟨y0,y1,_,_⟩:=HY0.out.two
 cases hok:jb3 bd bt
 ·rw[hok] at HNM
  go_wp2_with (first
   | (go_at_call 39;refine HNM.out.mono ?_;rintro e w1 ⟨rfl,hb1⟩
      have HB1:=ja0 (HB0.out.trans (hb1.mono (by omega)))
      clear hb1))
  go_ret2
  exact⟨_,_,rfl,.inl ⟨hok,rfl,rfl⟩,HB1.out⟩
 ·rw[hok] at HNM
  have HOK:=ja0 hok
  clear hok
  go_upto_region 4 with(first
   | (go_at_call 48;refine HD.out.mono ?_;rintro e w2 ⟨A2,n2,c2,rfl,ho2,hb2⟩
      have hz2:=hb2.size
      have HS0:=ja0 (And.intro (And.intro (HB1.out.trans (hb2.mono hz1)) (show w.heap.size<=w2.heap.size by omega)) (HY1.out.below hb2 HY1.out.lt))
      have HO:=ja0 (jd3 ho2 (Nat.zero_le _))
      clear hb2 ho2 HD)
   | (go_at_call 39;refine HNM.out.mono ?_;rintro e w1 ⟨rfl,hb1⟩
      have HX1:=ja0 (HX0.out.below hb1 (by omega));have HY1:=ja0 (HY0.out.below hb1 (by omega));have HB1:=ja0 (HB0.out.trans (hb1.mono (by omega)))
      have hz1:=HB1.out.size
      have HD:=ja0 (zm9 xd A n c xt m B w1 (HPX.out _ HB1.out) (by omega))
      rw[HSD.out] at HD
      obtain⟨x0,x1,_,_⟩:=HX1.out.two
      clear hb1))
  clear x0 x1 y0 y1 HX0 HX1 HY0 HY1 HNM HB0 HB1 hz2 hz1 hz0
  obtain⟨X5,hX5⟩:∃X,X=w.heap.size+1:=⟨_,rfl⟩
  rw[<-hX5] at HS0
  rw[<-hX5]
  clear hX5
  have HS:=ja0 HS0.out
  clear HS0
  have HS3:=ja0 (And.intro (Kept.keep (S:=fun W=>((Below w.heap.size w W/\w.heap.size<=W.heap.size)/\Blk W X5 24 #[.int .i64 bd,.slice bA bn bc])) _ _ HS.out ((Below.refl _ _).alloc (Nat.le_refl _) (.cells #[.int .i64 (s1),.slice A2 n2 c2] 24))) (Vr.new (d:=s1) HO.out))
  obtain⟨X8,hX⟩:∃X,X=w2.heap.size:=⟨_,rfl⟩
  rw[<-hX] at HS3  ⊢
  clear hX HS HO
  generalize w2.alloc (.cells #[.int .i64 (s1),.slice A2 n2 c2] 24)=W101 at *
  have HS:=ja0 HS3.out
  clear HS3
  by_cases hs:s3=0
  rotate_left 1
  focus
   have hsb:(s3 !=0)=true:=by simpa using hs
   have HBe:=ja0 HS.out.1.1
   go_wp2
   go_ret2
   exact⟨_,_,rfl,.inr ⟨HOK.out,.inl ⟨hs,rfl,rfl⟩⟩,HBe.out.1⟩
  subst hs
  have hok:=jbz8 HSD.out
  go_upto_region 6 with fail
  obtain⟨q1,q2,q3,hq⟩:∃a b c,jd6 1 [] s1 s2 (-1)=(a,b,c):=⟨_,_,_,rfl⟩
  have HQ:=ja0 hq
  have HMQ:Hid (zd1 s1 s2 1 [(-1,1)]=(q1,q2,q3)):=ja0 ((jdm7 hok).trans hq)
  obtain⟨hq0,hq1⟩:=jcz5 (IsN.self hok)
  have hokq:=hq1.1
  rw[hq] at hokq
  dsimp only at hokq
  clear hq hq0 hq1
  obtain⟨u8,v8,_,_⟩:=(HS.out.2.1).two
  have h8:X8<W101.heap.size:=(HS.out.2.1).lt
  have HN8:Hid (n2<=1000):=ja0 (Vr.le (HS.out.2) (jfh0 HSD.out))
  have HGd:Hid ((((Below w.heap.size w W101.drew/\w.heap.size<=W101.drew.heap.size)/\Blk W101.drew X5 24 #[.int .i64 bd,.slice bA bn bc])/\Vr X8 (s1) A2 n2 c2 (s2) W101.drew)/\(Below W101.heap.size W101 W101.drew/\W101.heap.size<=W101.drew.heap.size)):=ja0 ⟨Kept.keep (S:=fun W=>(((Below w.heap.size w W/\w.heap.size<=W.heap.size)/\Blk W X5 24 #[.int .i64 bd,.slice bA bn bc])/\Vr X8 (s1) A2 n2 c2 (s2) W)) _ _ HS.out (Below.drew (Below.refl _ _)),Below.drew (Below.refl _ _),Nat.le_refl _⟩
  refine jt7 7 (fun W'=>Below W101.heap.size W101 W') (fun _ v W'=>jfm7 W101.heap.size v W') [6] (fun W'=>(((Below w.heap.size w W'/\w.heap.size<=W'.heap.size)/\Blk W' X5 24 #[.int .i64 bd,.slice bA bn bc])/\Vr X8 (s1) A2 n2 c2 (s2) W')/\(Below W101.heap.size W101 W'/\W101.heap.size<=W'.heap.size)) (by kernel_rfl)
   (Floats.of (by decide +kernel) (fun c a d v w=>by cases d<;>exact Iff.rfl) (by
    intro i hi a W' hF
    obtain rfl:i=6:=by simpa using hi
    refine wpOp_step rfl (fun K' hK0=>?_)
    have hK:=ja0 hK0
    clear hK0
    go_simp
    exact hK.out _ _ ⟨_,rfl,⟨_,rfl,hF.size,Blk.new _ _ _⟩,(Below.refl _ _).alloc (Nat.le_refl _) _⟩) (fun i v W W' ⟨X,h1,h2,h3⟩ hb=>⟨X,h1,h2,h3.below hb h3.lt⟩))
   (fun _ _ _ h=>h) (by decide) HGd.out (fun W h=>h.2.1) (fun HFL=>?_)
  refine jg2.take 0 (v:=?_) rfl rfl HFL (by decide +kernel) (fun W h=>h.2.1) (by rfl) (fun W hF=>?_) ?_
  rotate_left 1
  focus (have hF:=hF (by decide +kernel);have e1:=(hF.cell (p:=⟨X8,0,none⟩) h8).trans u8;have e2:=(hF.cell (p:=⟨X8,1,none⟩) h8).trans v8;clear hF;go_simp;try with_reducible rfl)
  (try simp only[Act.put,lA,lB,lC])
  refine jg2.on 1 (fun x:Sl=>.agg #[.int .i64 (1),.slice x.1 x.2.1 x.2.2]) (fun x W=>zs0 0 x ([(-1,1)]) W) rfl rfl HFL (by decide +kernel) (fun W h=>h.2.1) (fun W hG K' hK=>?_) (fun x1 hF1=>?_)
  focus
   have HC:=ja0 (jbp4 W)
   clear hG
   go_simp
   go_wp2_with (first
    | (go_at_call 44;refine HC.out.mono ?_;rintro e w6 ⟨A,n,c,rfl,ho,hb⟩
       have HO:=ja0 (jd3 ho (Nat.zero_le _));have HBB:=ja0 hb;clear ho hb))
   exact hK.out (A,n,c) _ HO.out HBB.out
  (try simp only[Act.put,lA,lB,lC])
  refine jg2.on 2 (fun x:Sl=>.tuple #[.agg #[.int .i64 (q1),.slice x.1 x.2.1 x.2.2],.int .i64 (q3)]) (fun x W=>zs0 0 x (q2) W) rfl rfl HFL (by decide +kernel) hF1 (fun W hG K' hK=>?_) (fun x2 hF2=>?_)
  focus
   have HC:=ja0 (jcc5 (s1) A2 n2 c2 (s2) (1) x1.1 x1.2.1 x1.2.2 ([(-1,1)])  W.heap.size W (Rq.of (jk3 (hG.1.1.2.2))) (Rq.of (jk3 (hG.2))) (Nat.le_refl _) )
   rw[HMQ.out] at HC
   clear hG
   go_simp
   go_wp2_with (first
    | (go_at_call 42;refine HC.out.mono ?_;rintro e w6 ⟨A,n,c,rfl,ho,hb⟩
       have HO:=ja0 (jd3 ho (Nat.zero_le _));clear ho
       have HBB:=ja0 hb;clear hb))
   exact hK.out (A,n,c) _ HO.out HBB.out
  (try simp only[Act.put,lA,lB,lC])
  refine jg2.take 3 (v:=?_) rfl rfl HFL (by decide +kernel) hF2 (by rfl) (fun W hF=>?_) ?_
  rotate_left 1
  focus (clear hF;go_simp;try with_reducible rfl)
  (try simp only[Act.put,lA,lB,lC])
  refine jg2.take 4 (v:=?_) rfl rfl HFL (by decide +kernel) hF2 (by rfl) (fun W hF=>?_) ?_
  rotate_left 1
  focus (clear hF;go_simp;try with_reducible rfl)
  (try simp only[Act.put,lA,lB,lC])
  refine jg2.take 5 (v:=?_) rfl rfl HFL (by decide +kernel) hF2 (by rfl) (fun W hF=>?_) ?_
  rotate_left 1
  focus (clear hF;go_simp;try with_reducible rfl)
  (try simp only[Act.put,lA,lB,lC])
  refine jg2.force (some 10) HFL (by decide +kernel) rfl hF2 (fun vf=>?_)
  (try simp only[Act.put,lA,lB,lC])
  refine jg2.fin rfl (fun W h=>hF2 W h.1) (fun W102 hG ja1=>?_)
  obtain⟨hG,X10,rfl,hX,hN⟩:=hG
  have HS1:=ja0 (Vr.made (S:=fun W=>(((Below w.heap.size w W/\w.heap.size<=W.heap.size)/\Blk W X5 24 #[.int .i64 bd,.slice bA bn bc])/\Vr X8 (s1) A2 n2 c2 (s2) W)) (d:=q1) HS.out hG.1.1.2.1 hX hN hG.2)
  obtain⟨q0,q1,qf0,qf1⟩:=hN.two
  clear hG HFL hF1 hF2 hX hN HGd HS u8 v8 h8 HN8
  refine ja5 7 rfl (by decide +kernel) (fun K hK=>?_)
  go_simp
  refine hK.out _ _ ⟨trivial,fun h=>absurd h (by decide +kernel),fun _=>trivial⟩ (fun ja1=>?_)
  clear hK K
  (try simp only[Act.put,lA,lB,lC])
  refine ja2 8 rfl (by decide +kernel) (fun c a w h=>by first|exact h|(cases h;done)) (by rfl) (v:=?_) ?_ ja1 (fun ja3=>?_)
  rotate_left 1
  focus (intro w' hSw;clear hSw;go_simp;try with_reducible rfl)
  clear ja1
  rename ja4 _ _ _ _ _ _ _=>ja1
  (try simp only[Act.put,lA,lB,lC])
  refine jc0 (by decide +kernel) ?_
  clear ja1
  clear q0 q1 qf0 qf1
  generalize (W102.setCell ⟨X10,0,none⟩ (.int .i64 (q1))).setCell ⟨X10,1,none⟩ (.slice x2.1 x2.2.1 x2.2.2)=W103 at *
  obtain⟨A10,n10,c10⟩:=x2
  dsimp only at HS1
  have HS:=ja0 HS1.out
  clear HS1
  obtain⟨y0,y1,_,_⟩:=(HS.out.1.1.2).two
  obtain⟨z0,z1,_,_⟩:=(HS.out.1.2.1).two
  have HC1:=ja0 (jab4 s1 A2 n2 c2 s2 bd bA bn bc bt W103.heap.size W103 (Rq.of (jk3 (HS.out.1.2.2))) (Rq.more (HPY.out _ HS.out.1.1.1.1) (Nat.le_trans hB HS.out.1.1.1.2)) (Nat.le_refl _) hok HOK.out)
  go_wp2_with fail
  refine HC1.out.mono ?_
  rintro e w8 ⟨o1,rfl,hcr1,hb⟩
  have HS_1:=ja0 (Kept.keep (S:=fun W=>((((Below w.heap.size w W/\w.heap.size<=W.heap.size)/\Blk W X5 24 #[.int .i64 bd,.slice bA bn bc])/\Vr X8 (s1) A2 n2 c2 (s2) W)/\Vr X10 (q1) A10 n10 c10 (q2) W)) _ _ HS.out hb)
  have HCR1:=ja0 hcr1
  clear y0 y1 z0 z1 hb hcr1 HC1 HS
  obtain⟨y0,y1,_,_⟩:=(HS_1.out.1.1.2).two
  obtain⟨p0,p1,_,_⟩:=(HS_1.out.2.1).two
  have HC2:=ja0 (jab4 q1 A10 n10 c10 q2 bd bA bn bc bt w8.heap.size w8 (Rq.of (jk3 (HS_1.out.2.2))) (Rq.more (HPY.out _ HS_1.out.1.1.1.1) (Nat.le_trans hB HS_1.out.1.1.1.2)) (Nat.le_refl _) hokq HOK.out)
  by_cases ho1:o1<=0
  rotate_left 1
  focus
   have HBe:=ja0 HS_1.out.1.1.1
   go_wp2
   go_ret2
   exact⟨_,_,rfl,.inr ⟨HOK.out,.inr ⟨rfl,rfl,o1,HCR1.out,.inl ⟨by omega,rfl⟩⟩⟩,HBe.out.1⟩
  go_wp2_with (first
   | (go_at_call 52;refine HC2.out.mono ?_;rintro e w9 ⟨o2,rfl,hcr2,hb⟩
      have HBe:=ja0 (HS_1.out.1.1.1.1.trans (hb.mono HS_1.out.1.1.1.2))
      have HCR2:=ja0 hcr2
      clear hb hcr2))
  go_ret2
  exact⟨_,_,rfl,.inr ⟨HOK.out,.inr ⟨rfl,rfl,o1,HCR1.out,.inr ⟨ho1,o2,by rw[HQ.out];exact HCR2.out,rfl⟩⟩⟩,HBe.out⟩
end Go.Proofs.YtphcodcdfeohhaaGreatDoor
