import Derived.Test.YtphcodcdfeohhaaGreatDoorSurdKToSurdL
import Derived.Test.YtphcodcdfeohhaaGreatDoorFlowToNumK
import Derived.Test.YtphcodcdfeohhaaGreatDoorCordIToCordJ
set_option linter.unusedVariables false
set_option linter.unusedSimpArgs false
namespace Go.Proofs.YtphcodcdfeohhaaGreatDoor
set_option maxRecDepth 100000
set_option maxHeartbeats 4000000
open Go.RowKit
def jm3(xd:Int)(xt:List (Int×Int))(m bd:Int)(bt:List (Int×Int))(b:Bool)(c:Int):Prop:=
 (ja7 bd bt=false/\b=false/\c=2)\/(ja7 bd bt=true/\∃r,jz3 xd xt m r/\((r.2.2≠0/\b=false/\c=r.2.2) \/
  (r.2.2=0/\c=0/\∃s1 c1 s2 c2,zz6 r.1 r.2.1 bd bt s1 c1/\zz6 (jc4 1 [] r.1 r.2.1 (-1)).1 (jc4 1 [] r.1 r.2.1 (-1)).2.1 bd bt s2 c2/\b=(decide (s1<=0)&&decide (s2<=0)))))
def jas1(w:World)(xd:Int)(xt:List (Int×Int))(m bd:Int)(bt:List (Int×Int))(e:Ending)(w':World):Prop:=∃b cc,e=.returned (.tuple #[.bool b,.int .i64 cc])/\jm3 xd xt m bd bt b cc/\Below w.heap.size w w'
theorem jch7 (xd:Int) (A:Option Addr) (n c:Nat) (xt:List (Int×Int)) (m bd:Int) (bA:Option Addr) (bn bc:Nat) (bt:List (Int×Int)) (B:Nat) (w:World) (hx:ja3 w B A n c xt) (hy:ja3 w B bA bn bc bt) (hB:B<=w.heap.size) :
  Calls Tryz.prog 16 #[.agg #[.int .i64 xd,.slice A n c],.int .i64 m,.agg #[.int .i64 bd,.slice bA bn bc]] w (jas1 w xd xt m bd bt):=by
 obtain⟨w0,hw0⟩:∃w0,w0=(w.alloc (.cells #[.int .i64 xd,.slice A n c] 24)).alloc (.cells #[.int .i64 bd,.slice bA bn bc] 24):=⟨_,rfl⟩
 have hz0:w0.heap.size=w.heap.size+2:=by rw[hw0];simp
 have h01:Below w.heap.size w w0:=by rw[hw0];exact((Below.refl _ _).alloc (Nat.le_refl _) _).alloc (by simp) _
 have HX0:Hid (Blk w0 w.heap.size 24 #[.int .i64 xd,.slice A n c]):=ja0 (by rw[hw0];exact(Blk.new w _ _).alloc _)
 have HY0:Hid (Blk w0 (w.heap.size+1) 24 #[.int .i64 bd,.slice bA bn bc]):=ja0 (by
  rw[hw0]
  have h:=Blk.new (w.alloc (.cells #[.int .i64 xd,.slice A n c] 24)) 24 #[.int .i64 bd,.slice bA bn bc]
  rwa [World.size_alloc] at h)
 have HT0:=ja0 (Rd.below hx (h01.mono hB))
 have HU0:=ja0 (Rd.below hy (h01.mono hB))
 have HCK:=ja0 (jah2 bd bA bn bc B bt w0 HU0.out (by omega))
 have HB0:=ja0 h01
 clear hx hy h01
 go_enter Tryz.func16,Tryz.ntmps16
 go_wp2_with fail
 rw[<-hw0]
 clear hw0
 obtain⟨x0,x1,_,_⟩:=HX0.out.two
 obtain⟨y0,y1,_,_⟩:=HY0.out.two
 cases hok:ja7 bd bt
 ·rw[hok] at HCK
  simp only[zh8] at HCK
  go_wp2_with (first
   | (go_at_call 49;refine HCK.out.mono ?_;rintro e w1 ⟨rfl,hb1⟩
      have HB1:=ja0 (HB0.out.trans (hb1.mono (by omega)))
      clear hb1))
  go_ret2
  exact⟨_,_,rfl,.inl ⟨hok,rfl,rfl⟩,HB1.out⟩
 ·rw[hok] at HCK
  simp only[zh8] at HCK
  go_upto_region 5 with(first
   | (go_at_call 49;refine HCK.out.mono ?_;rintro e w1 ⟨rfl,hb1⟩
      have hz1:=hb1.size
      have HX1:=ja0 (HX0.out.below hb1 (by omega));have HY1:=ja0 (HY0.out.below hb1 (by omega));have HT1:=ja0 (Rd.below HT0.out (hb1.mono (by omega)));have HU1:=ja0 (Rd.below HU0.out (hb1.mono (by omega)));have HB1:=ja0 (HB0.out.trans (hb1.mono (by omega)))
      have HD:=ja0 (zp8 xd A n c xt m B w1 HT1.out (by omega))
      obtain⟨x0,x1,_,_⟩:=HX1.out.two
      clear hb1)
   | (go_at_call 46;refine HD.out.mono ?_;rintro e w2 ⟨⟨s1,s2,s3⟩,hres,A2,n2,c2,rfl,ho2,hb2⟩
      have hz2:=hb2.size
      have HY2:=ja0 ((HY1.out.below hb2 (by omega)).alloc (.cells #[.int .i64 s1,.slice A2 n2 c2] 24))
      have HU2:=ja0 (Rd.alloc (Rd.below HU1.out (hb2.mono (by omega))) (by omega) (.cells #[.int .i64 s1,.slice A2 n2 c2] 24))
      have HB2:=ja0 ((HB1.out.trans (hb2.mono (by omega))).alloc (by omega) (.cells #[.int .i64 s1,.slice A2 n2 c2] 24))
      have HN2:=ja0 (Blk.new w2 24 #[.int .i64 s1,.slice A2 n2 c2])
      have HO2:=ja0 (jc5 (ho2.alloc (.cells #[.int .i64 s1,.slice A2 n2 c2] 24)) (Nat.zero_le _))
      have HRS:=ja0 hres
      have hzb:B<=(w2.alloc (.cells #[.int .i64 s1,.slice A2 n2 c2] 24)).heap.size:=by simp;omega
      clear hb2 ho2 hres HD))
  obtain⟨X9,hX9⟩:∃X,X=w2.heap.size:=⟨_,rfl⟩
  rw[<-hX9] at HN2 ⊢
  clear hX9 x0 x1 y0 y1 HX0 HX1 HY0 HY1 HT0 HT1 HU0 HU1 HCK HB0 HB1
  generalize w2.alloc (.cells #[.int .i64 s1,.slice A2 n2 c2] 24)=W at *
  by_cases hs:s3=0
  rotate_left 1
  focus
   have hsb:(s3 !=0)=true:=by simpa using hs
   go_wp2
   go_ret2
   exact⟨_,_,rfl,.inr ⟨hok,(s1,s2,s3),HRS.out,.inl ⟨hs,rfl,rfl⟩⟩,HB2.out⟩
  subst hs
  go_upto_region 7 with fail
  obtain⟨q1,q2,q3,hq⟩:∃a b c,jc4 1 [] s1 s2 (-1)=(a,b,c):=⟨_,_,_,rfl⟩
  have HQ:=ja0 hq
  clear hq
  obtain⟨X5,hX5⟩:∃X,X=w.heap.size+1:=⟨_,rfl⟩
  rw[<-hX5] at HY2
  rw[<-hX5]
  have hzw:w.heap.size<=W.heap.size:=HB2.out.size
  clear hX5
  obtain⟨z0,z1,_,_⟩:=HN2.out.two
  have h9:X9<W.heap.size:=HN2.out.lt
  have HGd:Hid (((Below w.heap.size w W.drew/\w.heap.size<=W.drew.heap.size)/\Blk W.drew X5 24 #[.int .i64 bd,.slice bA bn bc]/\(ja3 W.drew B bA bn bc bt/\B<=W.drew.heap.size)/\Blk W.drew X9 24 #[.int .i64 s1,.slice A2 n2 c2]/\zj9 0 (A2,n2,c2) s2 W.drew)/\(Below W.heap.size W W.drew/\W.heap.size<=W.drew.heap.size)):=ja0 ⟨Kept.keep (S:=fun W=>((Below w.heap.size w W/\w.heap.size<=W.heap.size)/\Blk W X5 24 #[.int .i64 bd,.slice bA bn bc]/\(ja3 W B bA bn bc bt/\B<=W.heap.size)/\Blk W X9 24 #[.int .i64 s1,.slice A2 n2 c2]/\zj9 0 (A2,n2,c2) s2 W)) _ _ ⟨⟨HB2.out,hzw⟩,HY2.out,⟨HU2.out,hzb⟩,HN2.out,HO2.out⟩ (Below.drew (Below.refl _ _)),Below.drew (Below.refl _ _),Nat.le_refl _⟩
  refine jm8 7 (fun W'=>Below W.heap.size W W') (fun _ v W'=>jdp9 W.heap.size v W') [6] (fun W'=>((Below w.heap.size w W'/\w.heap.size<=W'.heap.size)/\Blk W' X5 24 #[.int .i64 bd,.slice bA bn bc]/\(ja3 W' B bA bn bc bt/\B<=W'.heap.size)/\Blk W' X9 24 #[.int .i64 s1,.slice A2 n2 c2]/\zj9 0 (A2,n2,c2) s2 W')/\(Below W.heap.size W W'/\W.heap.size<=W'.heap.size)) (by kernel_rfl)
   (Floats.of (by decide +kernel) (fun c a d v w=>by cases d<;>exact Iff.rfl) (by
    intro i hi a W' hF
    obtain rfl:i=6:=by simpa using hi
    refine wpOp_step rfl (fun K' hK0=>?_)
    have hK:=ja0 hK0
    clear hK0
    go_simp
    exact hK.out _ _ ⟨_,rfl,⟨_,rfl,hF.size,Blk.new _ _ _⟩,(Below.refl _ _).alloc (Nat.le_refl _) _⟩) (fun i v W W' ⟨X,h1,h2,h3⟩ hb=>⟨X,h1,h2,h3.below hb h3.lt⟩))
   (fun _ _ _ h=>h) (by decide) HGd.out (fun W h=>h.2.1) (fun HFL=>?_)
  refine jd9.take 1 (v:=?_) rfl rfl HFL (by decide +kernel) (fun W h=>h.2.1) (by rfl) (fun W hF=>?_) ?_
  rotate_left 1
  focus (have hF:=hF (by decide +kernel);have e1:=(hF.cell (p:=⟨X9,0,none⟩) h9).trans z0;have e2:=(hF.cell (p:=⟨X9,1,none⟩) h9).trans z1;clear hF;go_simp;try with_reducible rfl)
  (try simp only[Act.put,lA,lB,lC])
  refine jd9.on 0 (fun x:Sl=>.agg #[.int .i64 1,.slice x.1 x.2.1 x.2.2]) (fun x W=>zj9 0 x [] W) rfl rfl HFL (by decide +kernel) (fun W h=>h.2.1) (fun W hG K' hK=>?_) (fun x0 hF0=>?_)
  focus
   have HC:=ja0 (zy4 0 W)
   clear hG
   go_simp
   go_wp2_with (first
    | (go_at_call 50;refine HC.out.mono ?_;rintro e w6 ⟨A,n,c,rfl,ho,hb⟩
       have HO:=ja0 (jc5 ho (Nat.zero_le _));have HBB:=ja0 hb;clear ho hb))
   exact hK.out (A,n,c) _ HO.out HBB.out
  (try simp only[Act.put,lA,lB,lC])
  refine jd9.on 2 (fun x:Sl=>.tuple #[.agg #[.int .i64 q1,.slice x.1 x.2.1 x.2.2],.int .i64 q3]) (fun x W=>zj9 0 x q2 W) rfl rfl HFL (by decide +kernel) hF0 (fun W hG K' hK=>?_) (fun x2 hF2=>?_)
  focus
   have HC:=ja0 (zj7 1 x0.1 x0.2.1 x0.2.2 [] s1 A2 n2 c2 s2 W.heap.size W (jc2 hG.2) (jc2 hG.1.1.2.2.2.2) (Nat.le_refl _))
   rw[HQ.out] at HC
   clear hG
   go_simp
   go_wp2_with (first
    | (go_at_call 28;refine HC.out.mono ?_;rintro e w6 ⟨A,n,c,rfl,ho,hb⟩
       have HO:=ja0 (jc5 ho (Nat.zero_le _));have HBB:=ja0 hb;clear ho hb))
   exact hK.out (A,n,c) _ HO.out HBB.out
  (try simp only[Act.put,lA,lB,lC])
  refine jd9.take 3 (v:=?_) rfl rfl HFL (by decide +kernel) hF2 (by rfl) (fun W hF=>?_) ?_
  rotate_left 1
  focus (clear hF;go_simp;try with_reducible rfl)
  (try simp only[Act.put,lA,lB,lC])
  refine jd9.take 4 (v:=?_) rfl rfl HFL (by decide +kernel) hF2 (by rfl) (fun W hF=>?_) ?_
  rotate_left 1
  focus (clear hF;go_simp;try with_reducible rfl)
  (try simp only[Act.put,lA,lB,lC])
  refine jd9.take 5 (v:=?_) rfl rfl HFL (by decide +kernel) hF2 (by rfl) (fun W hF=>?_) ?_
  rotate_left 1
  focus (clear hF;go_simp;try with_reducible rfl)
  (try simp only[Act.put,lA,lB,lC])
  refine jd9.force (some 11) HFL (by decide +kernel) rfl hF2 (fun vf=>?_)
  (try simp only[Act.put,lA,lB,lC])
  refine jd9.fin rfl (fun W h=>hF2 W h.1) (fun W6 hG ja1=>?_)
  obtain⟨⟨⟨⟨⟨⟨hb6,hz6⟩,hY6,⟨hU6,hu6⟩,hN6,hO6⟩,-⟩,-⟩,hQ6⟩,X11,rfl,hX11,hM6⟩:=hG
  have h5:X5≠X11:=by have:=HY2.out.lt;omega
  have h911:X9≠X11:=by omega
  have HB7:=ja0 ((hb6.setCell (p:=⟨X11,0,none⟩) (Nat.le_trans hzw hX11) (.int .i64 q1)).setCell (p:=⟨X11,1,none⟩) (Nat.le_trans hzw hX11) (.slice x2.1 x2.2.1 x2.2.2))
  have HY7:=ja0 ((hY6.far (p:=⟨X11,0,none⟩) h5 (.int .i64 q1)).far (p:=⟨X11,1,none⟩) h5 (.slice x2.1 x2.2.1 x2.2.2))
  have HU7:=ja0 (Rd.setCell (Rd.setCell hU6 (p:=⟨X11,0,none⟩) (Nat.le_trans hzb hX11) (.int .i64 q1)) (p:=⟨X11,1,none⟩) (Nat.le_trans hzb hX11) (.slice x2.1 x2.2.1 x2.2.2))
  have HN7:=ja0 ((hN6.far (p:=⟨X11,0,none⟩) h911 (.int .i64 q1)).far (p:=⟨X11,1,none⟩) h911 (.slice x2.1 x2.2.1 x2.2.2))
  have HO7:=ja0 (jd6 (jd6 hO6 hM6 (i:=0) (u:=.int .i64 q1) (by decide)) (hM6.set_ 0 (.int .i64 q1)) (i:=1) (u:=.slice x2.1 x2.2.1 x2.2.2) (by decide))
  have HQ7:=ja0 (jd6 (jd6 hQ6 hM6 (i:=0) (u:=.int .i64 q1) (by decide)) (hM6.set_ 0 (.int .i64 q1)) (i:=1) (u:=.slice x2.1 x2.2.1 x2.2.2) (by decide))
  have HM7:=ja0 ((hM6.set_ 0 (.int .i64 q1)).set_ 1 (.slice x2.1 x2.2.1 x2.2.2))
  obtain⟨m0,m1,mf0,mf1⟩:=hM6.two
  clear hb6 hz6 hY6 hU6 hu6 hN6 hO6 hQ6 hM6 HFL hF0 hF2 HB2 HY2 HU2 HN2 HO2 z0 z1 hzb h9
  refine jb5 7 rfl (by decide +kernel) (fun K hK=>?_)
  go_simp
  refine hK.out _ _ ⟨trivial,fun h=>absurd h (by decide +kernel),fun _=>trivial⟩ (fun ja1=>?_)
  clear hK K
  (try simp only[Act.put,lA,lB,lC])
  refine ja2 8 rfl (by decide +kernel) (fun c a w h=>by first|exact h|(cases h;done)) (by rfl) (v:=?_) ?_ ja1 (fun ja4=>?_)
  rotate_left 1
  focus (intro w' hSw;clear hSw;go_simp;try with_reducible rfl)
  clear ja1
  rename ja8 _ _ _ _ _ _ _=>ja1
  (try simp only[Act.put,lA,lB,lC])
  refine jf8 (by decide +kernel) ?_
  clear ja1
  clear m0 m1 mf0 mf1
  generalize (W6.setCell ⟨X11,0,none⟩ (.int .i64 q1)).setCell ⟨X11,1,none⟩ (.slice x2.1 x2.2.1 x2.2.2)=W7 at *
  obtain⟨A7,n7,c7⟩:=x2
  dsimp only at HQ7 HM7
  have HTU:=ja0 (Rd.more HU7.out (show B<=W7.heap.size from ?_))
  rotate_left 1
  focus
   have:=HB7.out.size
   omega
  obtain⟨y0,y1,_,_⟩:=HY7.out.two
  obtain⟨z0,z1,_,_⟩:=HN7.out.two
  have HC1:=ja0 (zk3 s1 A2 n2 c2 s2 bd bA bn bc bt W7.heap.size W7 (jc2 HO7.out) HTU.out (Nat.le_refl _))
  go_upto_region 10 with(first
   | (go_at_call 51;refine HC1.out.mono ?_;rintro e w8 ⟨o1,e1,rfl,hcr1,hb8⟩
      have HB8:=ja0 (HB7.out.trans (hb8.mono HB7.out.size))
      have HY8:=ja0 (HY7.out.below hb8 HY7.out.lt);have HM8:=ja0 (HM7.out.below hb8 HM7.out.lt);have HQ8:=ja0 (jf7 HQ7.out hb8)
      have HT8:=ja0 (Rd.more (Rd.below HTU.out hb8) hb8.size)
      have HCR1:=ja0 hcr1
      obtain⟨y0,y1,_,_⟩:=HY8.out.two
      obtain⟨p0,p1,_,_⟩:=HM8.out.two
      have HC2:=ja0 (zk3 q1 A7 n7 c7 q2 bd bA bn bc bt w8.heap.size w8 (jc2 HQ8.out) HT8.out (Nat.le_refl _))
      clear hb8 hcr1 HC1)
   | (go_at_call 51;refine HC2.out.mono ?_;rintro e w9 ⟨o2,e2,rfl,hcr2,hb9⟩
      have HB9:=ja0 (HB8.out.trans (hb9.mono HB8.out.size))
      have HCR2:=ja0 hcr2
      clear hb9 hcr2))
  have HRES:Hid (∀b:Bool,b=(decide (o1<=0)&&decide (o2<=0))->jm3 xd xt m bd bt b 0):=ja0 (fun b hb=>.inr ⟨hok,(s1,s2,0),HRS.out,.inr ⟨rfl,rfl,o1,e1,o2,e2,HCR1.out,by rw[HQ.out];exact HCR2.out,hb⟩⟩)
  by_cases ho1:o1<=0
  ·by_cases ho2:o2<=0
   ·go_wp2
    go_ret2
    exact⟨_,_,rfl,HRES.out _ (by simp[ho1,ho2]),HB9.out⟩
   ·go_wp2
    go_ret2
    exact⟨_,_,rfl,HRES.out _ (by simp[ho1,ho2]),HB9.out⟩
  ·go_wp2
   go_ret2
   exact⟨_,_,rfl,HRES.out _ (by simp;omega),HB9.out⟩
end Go.Proofs.YtphcodcdfeohhaaGreatDoor
