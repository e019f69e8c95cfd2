import Derived.Test.YtfmnnceacdpbdaaGreatDoorThrA
import Derived.Test.YtfmnnceacdpbdaaGreatDoorLayN
set_option linter.unusedVariables false
set_option linter.unusedSimpArgs false
namespace Go.Proofs.YtfmnnceacdpbdaaGreatDoor
open Go Go.RowKit
def OpOf (f : FuncId) (F : Int → List (Int × Int) → Int → List (Int × Int) → Int × List (Int × Int) × Int) : Prop := ∀ (xd : Int) (xA : Option Addr) (xn xc : Nat) (xt : List (Int × Int)) (yd : Int) (yA : Option Addr) (yn yc : Nat) (yt : List (Int × Int)) (B : Nat) (w : World), Terms w B xA xn xc xt → Terms w B yA yn yc yt → B ≤ w.heap.size →
 Calls Tryz.prog f #[.agg #[.int .i64 xd, .slice xA xn xc], .agg #[.int .i64 yd, .slice yA yn yc]] w (NumPost w (F xd xt yd yt))
def TwPost (w : World) (b : Int × List (Int × Int) × Int) (ok : Bool) (e : Ending) (w' : World) : Prop :=
 ∃ (A : Option Addr) (n c : Nat), e = .returned (.tuple #[.agg #[.int .i64 b.1, .slice A n c], .bool ok]) ∧ OwnN 0 (A, n, c) b.2.1 w' ∧ Below w.heap.size w w'
set_option maxHeartbeats 8000000 in
set_option maxRecDepth 100000 in
theorem twice_any (gf gg : FuncId) (F G : Int → List (Int × Int) → Int → List (Int × Int) → Int × List (Int × Int) × Int) (xd : Int) (xA : Option Addr) (xn xc : Nat) (xt : List (Int × Int)) (yd : Int) (yA : Option Addr) (yn yc : Nat) (yt : List (Int × Int)) (zd : Int) (zA : Option Addr) (zn zc : Nat) (zt : List (Int × Int)) (a b : Int × List (Int × Int) × Int) (w : World) (hx : TermsQ w w.heap.size xA xn xc xt) (hy : TermsQ w w.heap.size yA yn yc yt) (hz : TermsQ w w.heap.size zA zn zc zt)
  (ef : ∀ args w, (callFunc gf args).run Tryz.prog w = .ok (.enter gf args) w) (eg : ∀ args w, (callFunc gg args).run Tryz.prog w = .ok (.enter gg args) w) (hF : OpOf gf F) (hG : OpOf gg G)
  (ha : F xd xt yd yt = a) (hb : G a.1 a.2.1 zd zt = b) (hlx : xt.length ≤ 1000) (hly : yt.length ≤ 1000) (hlz : zt.length ≤ 1000) :
  Calls Tryz.prog 32 #[.func (.func gf) #[] #[], .func (.func gg) #[] #[], .agg #[.int .i64 xd, .slice xA xn xc], .agg #[.int .i64 yd, .slice yA yn yc], .agg #[.int .i64 zd, .slice zA zn zc]] w
   (TwPost w b (decide (a.2.2 = 0) && decide (b.2.2 = 0))) := by
 have hl := hx.len
 subst hl
 have hmx := Rq.nmax hx
 have HOx := hide (fun W (hb : Below w.heap.size w W) (hB : w.heap.size ≤ W.heap.size) => own1_any xd xA xt.length xc w.heap.size xt W (Rq.below hx hb) hB hlx)
 have hl := hy.len
 subst hl
 have hmy := Rq.nmax hy
 have HOy := hide (fun W (hb : Below w.heap.size w W) (hB : w.heap.size ≤ W.heap.size) => own1_any yd yA yt.length yc w.heap.size yt W (Rq.below hy hb) hB hly)
 have hl := hz.len
 subst hl
 have hmz := Rq.nmax hz
 have HOz := hide (fun W (hb : Below w.heap.size w W) (hB : w.heap.size ≤ W.heap.size) => own1_any zd zA zt.length zc w.heap.size zt W (Rq.below hz hb) hB hlz)
 clear hx hy hz hlx hly hlz
 obtain ⟨ad, at_, ac⟩ := a
 obtain ⟨bd, bt, bc⟩ := b
 dsimp only at hb ⊢
 obtain ⟨okk, hokk⟩ : ∃ o, (decide (ac = 0) && decide (bc = 0)) = o := ⟨_, rfl⟩
 rw [hokk]
 have HOK := hide hokk
 clear hokk
 have HA := hide ha
 have HB := hide hb
 have HF := hide hF
 have HG := hide hG
 clear ha hb hF hG
 go_enter Tryz.func32, Tryz.ntmps32
 go_upto_region 1 with fail
 obtain ⟨w0, hw0⟩ : ∃ W, W = (((w.alloc (.cells #[.int .i64 xd, .slice xA xt.length xc] 24)).alloc (.cells #[.int .i64 yd, .slice yA yt.length yc] 24)).alloc (.cells #[.int .i64 zd, .slice zA zt.length zc] 24)).alloc (.cells #[.int .i64 0, .slice none 0 0] 24) := ⟨_, rfl⟩
 have hz0 : w0.heap.size = w.heap.size + 4 := by rw [hw0]; simp
 obtain ⟨X7, h7⟩ : ∃ X, X = w.heap.size := ⟨_, rfl⟩
 obtain ⟨X8, h8⟩ : ∃ X, X = w.heap.size + 1 := ⟨_, rfl⟩
 obtain ⟨X9, h9⟩ : ∃ X, X = w.heap.size + 2 := ⟨_, rfl⟩
 obtain ⟨X10, h10⟩ : ∃ X, X = w.heap.size + 3 := ⟨_, rfl⟩
 have HS : Hid (((((Below w.heap.size w w0 ∧ w.heap.size ≤ w0.heap.size) ∧ Blk w0 X7 24 #[.int .i64 xd, .slice xA xt.length xc]) ∧ Blk w0 X8 24 #[.int .i64 yd, .slice yA yt.length yc]) ∧ Blk w0 X9 24 #[.int .i64 zd, .slice zA zt.length zc]) ∧ Blk w0 X10 24 #[.int .i64 0, .slice none 0 0]) := by
  rw [hw0]
  refine hide ⟨⟨⟨⟨⟨((((Below.refl _ _).alloc (Nat.le_refl _) _).alloc (by simp) _).alloc (by simp; omega) _).alloc (by simp; omega) _, by simp; omega⟩, h7 ▸ (((Blk.new w _ _).alloc _).alloc _).alloc _⟩, ?_⟩, ?_⟩, ?_⟩
  ·rw [h8, show w.heap.size + 1 = (w.alloc (.cells #[.int .i64 xd, .slice xA xt.length xc] 24)).heap.size by simp]; exact ((Blk.new _ _ _).alloc _).alloc _
  ·rw [h9, show w.heap.size + 2 = ((w.alloc (.cells #[.int .i64 xd, .slice xA xt.length xc] 24)).alloc (.cells #[.int .i64 yd, .slice yA yt.length yc] 24)).heap.size by simp]; exact (Blk.new _ _ _).alloc _
  ·rw [h10, show w.heap.size + 3 = (((w.alloc (.cells #[.int .i64 xd, .slice xA xt.length xc] 24)).alloc (.cells #[.int .i64 yd, .slice yA yt.length yc] 24)).alloc (.cells #[.int .i64 zd, .slice zA zt.length zc] 24)).heap.size by simp]; exact Blk.new _ _ _
 have hX10 : w.heap.size ≤ X10 := by omega
 simp only [Nat.add_assoc] at ⊢
 rw [← hw0]
 first | rw [← h10] | skip
 first | rw [← h9] | skip
 first | rw [← h8] | skip
 rw [← h7]
 clear h7 h8 h9 h10 hw0 hz0
 generalize w0 = W1 at *
 obtain ⟨u7, v7, _, _⟩ := (HS.out.1.1.1.2).two
 have h7 : X7 < W1.heap.size := (HS.out.1.1.1.2).lt
 have HN7 := hide trivial
 obtain ⟨u8, v8, _, _⟩ := (HS.out.1.1.2).two
 have h8 : X8 < W1.heap.size := (HS.out.1.1.2).lt
 have HN8 := hide trivial
 have HGd : Hid ((((((Below w.heap.size w W1.drew ∧ w.heap.size ≤ W1.drew.heap.size) ∧ Blk W1.drew X7 24 #[.int .i64 xd, .slice xA xt.length xc]) ∧ Blk W1.drew X8 24 #[.int .i64 yd, .slice yA yt.length yc]) ∧ Blk W1.drew X9 24 #[.int .i64 zd, .slice zA zt.length zc]) ∧ Blk W1.drew X10 24 #[.int .i64 0, .slice none 0 0]) ∧ (Below W1.heap.size W1 W1.drew ∧ W1.heap.size ≤ W1.drew.heap.size)) := hide ⟨Kept.keep (S := fun W => (((((Below w.heap.size w W ∧ w.heap.size ≤ W.heap.size) ∧ Blk W X7 24 #[.int .i64 xd, .slice xA xt.length xc]) ∧ Blk W X8 24 #[.int .i64 yd, .slice yA yt.length yc]) ∧ Blk W X9 24 #[.int .i64 zd, .slice zA zt.length zc]) ∧ Blk W X10 24 #[.int .i64 0, .slice none 0 0])) _ _ HS.out (Below.drew (Below.refl _ _)), Below.drew (Below.refl _ _), Nat.le_refl _⟩
 refine wp_region_flow 10 (fun W' => Below W1.heap.size W1 W') (fun _ v W' => MadeN W1.heap.size v W') [9] (fun W' => (((((Below w.heap.size w W' ∧ w.heap.size ≤ W'.heap.size) ∧ Blk W' X7 24 #[.int .i64 xd, .slice xA xt.length xc]) ∧ Blk W' X8 24 #[.int .i64 yd, .slice yA yt.length yc]) ∧ Blk W' X9 24 #[.int .i64 zd, .slice zA zt.length zc]) ∧ Blk W' X10 24 #[.int .i64 0, .slice none 0 0]) ∧ (Below W1.heap.size W1 W' ∧ W1.heap.size ≤ W'.heap.size)) (by kernel_rfl)
  (Floats.of (by decide +kernel) (fun c a d v w => by cases d <;> exact Iff.rfl) (by
   intro i hi a W' hF
   obtain rfl : i = 9 := by simpa using hi
   refine wpOp_step rfl (fun K' hK0 => ?_)
   have hK := hide hK0
   clear hK0
   go_simp
   exact hK.out _ _ ⟨_, rfl, ⟨_, rfl, hF.size, Blk.new _ _ _⟩, (Below.refl _ _).alloc (Nat.le_refl _) _⟩) (fun i v W W' ⟨X, h1, h2, h3⟩ hb => ⟨X, h1, h2, h3.below hb h3.lt⟩))
  (fun _ _ _ h => h) (by decide) HGd.out (fun W h => h.2.1) (fun HFL => ?_)
 refine Safe.take 0 (v := ?_) rfl rfl HFL (by decide +kernel) (fun W h => h.2.1) (by rfl) (fun W hF => ?_) ?_
 rotate_left 1
 focus (clear hF; go_simp; first | done | with_reducible rfl)
 (try simp only [Act.put, List.setIfInBounds_toArray, List.set_cons_zero, List.set_cons_succ])
 refine Safe.take 1 (v := ?_) rfl rfl HFL (by decide +kernel) (fun W h => h.2.1) (by rfl) (fun W hF => ?_) ?_
 rotate_left 1
 focus (have hF := hF (by decide +kernel); have e1 := (hF.cell (p := ⟨X7, 0, none⟩) h7).trans u7; have e2 := (hF.cell (p := ⟨X7, 1, none⟩) h7).trans v7; clear hF; go_simp; first | done | with_reducible rfl)
 (try simp only [Act.put, List.setIfInBounds_toArray, List.set_cons_zero, List.set_cons_succ])
 refine Safe.take 3 (v := ?_) rfl rfl HFL (by decide +kernel) (fun W h => h.2.1) (by rfl) (fun W hF => ?_) ?_
 rotate_left 1
 focus (have hF := hF (by decide +kernel); have e1 := (hF.cell (p := ⟨X8, 0, none⟩) h8).trans u8; have e2 := (hF.cell (p := ⟨X8, 1, none⟩) h8).trans v8; clear hF; go_simp; first | done | with_reducible rfl)
 (try simp only [Act.put, List.setIfInBounds_toArray, List.set_cons_zero, List.set_cons_succ])
 refine Safe.on 2 (fun x : Sl => .agg #[.int .i64 (xd), .slice x.1 x.2.1 x.2.2]) (fun x W => OwnN 0 x (xt) W) rfl rfl HFL (by decide +kernel) (fun W h => h.2.1) (fun W hG K' hK => ?_) (fun x2 hF2 => ?_)
 focus
  have HC := hide (HOx.out W (hG.1.1.1.1.1.1) (hG.1.1.1.1.1.2))
  clear hG
  go_simp
  go_wp2_with (first
   | (go_at_call 14; refine HC.out.mono ?_; rintro e w6 ⟨A, n, c, rfl, ho, hb⟩
      have HO := hide (own_le ho (Nat.zero_le _)); have HBB := hide hb; clear ho hb))
  exact hK.out (A, n, c) _ HO.out HBB.out
 (try simp only [Act.put, List.setIfInBounds_toArray, List.set_cons_zero, List.set_cons_succ])
 refine Safe.on 4 (fun x : Sl => .agg #[.int .i64 (yd), .slice x.1 x.2.1 x.2.2]) (fun x W => OwnN 0 x (yt) W) rfl rfl HFL (by decide +kernel) hF2 (fun W hG K' hK => ?_) (fun x4 hF4 => ?_)
 focus
  have HC := hide (HOy.out W (hG.1.1.1.1.1.1.1) (hG.1.1.1.1.1.1.2))
  clear hG
  go_simp
  go_wp2_with (first
   | (go_at_call 14; refine HC.out.mono ?_; rintro e w6 ⟨A, n, c, rfl, ho, hb⟩
      have HO := hide (own_le ho (Nat.zero_le _)); have HBB := hide hb; clear ho hb))
  exact hK.out (A, n, c) _ HO.out HBB.out
 (try simp only [Act.put, List.setIfInBounds_toArray, List.set_cons_zero, List.set_cons_succ])
 refine Safe.on 5 (fun x : Sl => .tuple #[.agg #[.int .i64 (ad), .slice x.1 x.2.1 x.2.2], .int .i64 (ac)]) (fun x W => OwnN 0 x (at_) W) rfl rfl HFL (by decide +kernel) hF4 (fun W hG K' hK => ?_) (fun x5 hF5 => ?_)
 focus
  have HC := hide (HF.out (xd) x2.1 x2.2.1 x2.2.2 (xt) (yd) x4.1 x4.2.1 x4.2.2 (yt)  W.heap.size W (terms_own (hG.1.2)) (terms_own (hG.2)) (Nat.le_refl _) )
  rw [HA.out] at HC
  clear hG
  go_simp
  go_wp2_with (first
   | (refine HC.out.mono ?_; rintro e w6 ⟨A, n, c, rfl, ho, hb⟩
      have HO := hide (own_le ho (Nat.zero_le _)); clear ho
      have HBB := hide hb; clear hb))
  exact hK.out (A, n, c) _ HO.out HBB.out
 (try simp only [Act.put, List.setIfInBounds_toArray, List.set_cons_zero, List.set_cons_succ])
 refine Safe.take 6 (v := ?_) rfl rfl HFL (by decide +kernel) hF5 (by rfl) (fun W hF => ?_) ?_
 rotate_left 1
 focus (clear hF; go_simp; first | done | with_reducible rfl)
 (try simp only [Act.put, List.setIfInBounds_toArray, List.set_cons_zero, List.set_cons_succ])
 refine Safe.take 7 (v := ?_) rfl rfl HFL (by decide +kernel) hF5 (by rfl) (fun W hF => ?_) ?_
 rotate_left 1
 focus (clear hF; go_simp; first | done | with_reducible rfl)
 (try simp only [Act.put, List.setIfInBounds_toArray, List.set_cons_zero, List.set_cons_succ])
 refine Safe.take 8 (v := ?_) rfl rfl HFL (by decide +kernel) hF5 (by rfl) (fun W hF => ?_) ?_
 rotate_left 1
 focus (clear hF; go_simp; first | done | with_reducible rfl)
 (try simp only [Act.put, List.setIfInBounds_toArray, List.set_cons_zero, List.set_cons_succ])
 refine Safe.force (some 12) HFL (by decide +kernel) rfl hF5 (fun vf => ?_)
 (try simp only [Act.put, List.setIfInBounds_toArray, List.set_cons_zero, List.set_cons_succ])
 refine Safe.fin rfl (fun W h => hF5 W h.1) (fun W101 hG hHeld => ?_)
 obtain ⟨hG, X12, rfl, hX, hN⟩ := hG
 have HS1 := hide (Vr.made (S := fun W => (((((Below w.heap.size w W ∧ w.heap.size ≤ W.heap.size) ∧ Blk W X7 24 #[.int .i64 xd, .slice xA xt.length xc]) ∧ Blk W X8 24 #[.int .i64 yd, .slice yA yt.length yc]) ∧ Blk W X9 24 #[.int .i64 zd, .slice zA zt.length zc]) ∧ Blk W X10 24 #[.int .i64 0, .slice none 0 0])) (d := ad) HS.out hG.1.1.1.2.1 hX hN hG.2)
 obtain ⟨q0, q1, qf0, qf1⟩ := hN.two
 clear hG HFL hF2 hF4 hF5 hX hN HGd HS u7 v7 h7 HN7 u8 v8 h8 HN8
 refine wpTill_one 10 rfl (by decide +kernel) (fun K hK => ?_)
 go_simp
 refine hK.out _ _ ⟨trivial, fun h => absurd h (by decide +kernel), fun _ => trivial⟩ (fun hHeld => ?_)
 clear hK K
 (try simp only [Act.put, List.setIfInBounds_toArray, List.set_cons_zero, List.set_cons_succ])
 refine wpTill_take 11 rfl (by decide +kernel) (fun c a w h => by first | exact h | (cases h; done)) (by rfl) (v := ?_) ?_ hHeld (fun hHeld' => ?_)
 rotate_left 1
 focus (intro w' hSw; obtain ⟨hC, hF, hG⟩ := hSw; clear hG; clear hF; go_simp; first | done | with_reducible rfl)
 clear hHeld
 rename Till _ _ _ _ _ _ _ => hHeld
 (try simp only [Act.put, List.setIfInBounds_toArray, List.set_cons_zero, List.set_cons_succ])
 refine wpTill_done (by decide +kernel) ?_
 clear hHeld
 clear q0 q1 qf0 qf1
 generalize (W101.setCell ⟨X12, 0, none⟩ (.int .i64 (ad))).setCell ⟨X12, 1, none⟩ (.slice x5.1 x5.2.1 x5.2.2) = W102 at *
 obtain ⟨A12, n12, c12⟩ := x5
 dsimp only at HS1
 have HS := hide HS1.out
 clear HS1
 go_upto_region 2 with fail
 obtain ⟨u12, v12, _, _⟩ := (HS.out.2.1).two
 have h12 : X12 < W102.heap.size := (HS.out.2.1).lt
 have HN12 := hide trivial
 obtain ⟨u9, v9, _, _⟩ := (HS.out.1.1.2).two
 have h9 : X9 < W102.heap.size := (HS.out.1.1.2).lt
 have HN9 := hide trivial
 have HGd : Hid (((((((Below w.heap.size w W102.drew ∧ w.heap.size ≤ W102.drew.heap.size) ∧ Blk W102.drew X7 24 #[.int .i64 xd, .slice xA xt.length xc]) ∧ Blk W102.drew X8 24 #[.int .i64 yd, .slice yA yt.length yc]) ∧ Blk W102.drew X9 24 #[.int .i64 zd, .slice zA zt.length zc]) ∧ Blk W102.drew X10 24 #[.int .i64 0, .slice none 0 0]) ∧ Vr X12 (ad) A12 n12 c12 (at_) W102.drew) ∧ (Below W102.heap.size W102 W102.drew ∧ W102.heap.size ≤ W102.drew.heap.size)) := hide ⟨Kept.keep (S := fun W => ((((((Below w.heap.size w W ∧ w.heap.size ≤ W.heap.size) ∧ Blk W X7 24 #[.int .i64 xd, .slice xA xt.length xc]) ∧ Blk W X8 24 #[.int .i64 yd, .slice yA yt.length yc]) ∧ Blk W X9 24 #[.int .i64 zd, .slice zA zt.length zc]) ∧ Blk W X10 24 #[.int .i64 0, .slice none 0 0]) ∧ Vr X12 (ad) A12 n12 c12 (at_) W)) _ _ HS.out (Below.drew (Below.refl _ _)), Below.drew (Below.refl _ _), Nat.le_refl _⟩
 refine wp_region_flow 9 (fun W' => Below W102.heap.size W102 W') (fun _ v W' => MadeN W102.heap.size v W') [8] (fun W' => ((((((Below w.heap.size w W' ∧ w.heap.size ≤ W'.heap.size) ∧ Blk W' X7 24 #[.int .i64 xd, .slice xA xt.length xc]) ∧ Blk W' X8 24 #[.int .i64 yd, .slice yA yt.length yc]) ∧ Blk W' X9 24 #[.int .i64 zd, .slice zA zt.length zc]) ∧ Blk W' X10 24 #[.int .i64 0, .slice none 0 0]) ∧ Vr X12 (ad) A12 n12 c12 (at_) W') ∧ (Below W102.heap.size W102 W' ∧ W102.heap.size ≤ W'.heap.size)) (by kernel_rfl)
  (Floats.of (by decide +kernel) (fun c a d v w => by cases d <;> exact Iff.rfl) (by
   intro i hi a W' hF
   obtain rfl : i = 8 := by simpa using hi
   refine wpOp_step rfl (fun K' hK0 => ?_)
   have hK := hide hK0
   clear hK0
   go_simp
   exact hK.out _ _ ⟨_, rfl, ⟨_, rfl, hF.size, Blk.new _ _ _⟩, (Below.refl _ _).alloc (Nat.le_refl _) _⟩) (fun i v W W' ⟨X, h1, h2, h3⟩ hb => ⟨X, h1, h2, h3.below hb h3.lt⟩))
  (fun _ _ _ h => h) (by decide) HGd.out (fun W h => h.2.1) (fun HFL => ?_)
 refine Safe.take 0 (v := ?_) rfl rfl HFL (by decide +kernel) (fun W h => h.2.1) (by rfl) (fun W hF => ?_) ?_
 rotate_left 1
 focus (clear hF; go_simp; first | done | with_reducible rfl)
 (try simp only [Act.put, List.setIfInBounds_toArray, List.set_cons_zero, List.set_cons_succ])
 refine Safe.take 1 (v := ?_) rfl rfl HFL (by decide +kernel) (fun W h => h.2.1) (by rfl) (fun W hF => ?_) ?_
 rotate_left 1
 focus (have hF := hF (by decide +kernel); have e1 := (hF.cell (p := ⟨X12, 0, none⟩) h12).trans u12; have e2 := (hF.cell (p := ⟨X12, 1, none⟩) h12).trans v12; clear hF; go_simp; first | done | with_reducible rfl)
 (try simp only [Act.put, List.setIfInBounds_toArray, List.set_cons_zero, List.set_cons_succ])
 refine Safe.take 2 (v := ?_) rfl rfl HFL (by decide +kernel) (fun W h => h.2.1) (by rfl) (fun W hF => ?_) ?_
 rotate_left 1
 focus (have hF := hF (by decide +kernel); have e1 := (hF.cell (p := ⟨X9, 0, none⟩) h9).trans u9; have e2 := (hF.cell (p := ⟨X9, 1, none⟩) h9).trans v9; clear hF; go_simp; first | done | with_reducible rfl)
 (try simp only [Act.put, List.setIfInBounds_toArray, List.set_cons_zero, List.set_cons_succ])
 refine Safe.on 3 (fun x : Sl => .agg #[.int .i64 (zd), .slice x.1 x.2.1 x.2.2]) (fun x W => OwnN 0 x (zt) W) rfl rfl HFL (by decide +kernel) (fun W h => h.2.1) (fun W hG K' hK => ?_) (fun x3 hF3 => ?_)
 focus
  have HC := hide (HOz.out W (hG.1.1.1.1.1.1.1) (hG.1.1.1.1.1.1.2))
  clear hG
  go_simp
  go_wp2_with (first
   | (go_at_call 14; refine HC.out.mono ?_; rintro e w6 ⟨A, n, c, rfl, ho, hb⟩
      have HO := hide (own_le ho (Nat.zero_le _)); have HBB := hide hb; clear ho hb))
  exact hK.out (A, n, c) _ HO.out HBB.out
 (try simp only [Act.put, List.setIfInBounds_toArray, List.set_cons_zero, List.set_cons_succ])
 refine Safe.on 4 (fun x : Sl => .tuple #[.agg #[.int .i64 (bd), .slice x.1 x.2.1 x.2.2], .int .i64 (bc)]) (fun x W => OwnN 0 x (bt) W) rfl rfl HFL (by decide +kernel) hF3 (fun W hG K' hK => ?_) (fun x4 hF4 => ?_)
 focus
  have HC := hide (HG.out (ad) A12 n12 c12 (at_) (zd) x3.1 x3.2.1 x3.2.2 (zt)  W.heap.size W (terms_own (hG.1.1.2.2)) (terms_own (hG.2)) (Nat.le_refl _) )
  rw [HB.out] at HC
  clear hG
  go_simp
  go_wp2_with (first
   | (refine HC.out.mono ?_; rintro e w6 ⟨A, n, c, rfl, ho, hb⟩
      have HO := hide (own_le ho (Nat.zero_le _)); clear ho
      have HBB := hide hb; clear hb))
  exact hK.out (A, n, c) _ HO.out HBB.out
 (try simp only [Act.put, List.setIfInBounds_toArray, List.set_cons_zero, List.set_cons_succ])
 refine Safe.take 5 (v := ?_) rfl rfl HFL (by decide +kernel) hF4 (by rfl) (fun W hF => ?_) ?_
 rotate_left 1
 focus (clear hF; go_simp; first | done | with_reducible rfl)
 (try simp only [Act.put, List.setIfInBounds_toArray, List.set_cons_zero, List.set_cons_succ])
 refine Safe.take 6 (v := ?_) rfl rfl HFL (by decide +kernel) hF4 (by rfl) (fun W hF => ?_) ?_
 rotate_left 1
 focus (clear hF; go_simp; first | done | with_reducible rfl)
 (try simp only [Act.put, List.setIfInBounds_toArray, List.set_cons_zero, List.set_cons_succ])
 refine Safe.take 7 (v := ?_) rfl rfl HFL (by decide +kernel) hF4 (by rfl) (fun W hF => ?_) ?_
 rotate_left 1
 focus (clear hF; go_simp; first | done | with_reducible rfl)
 (try simp only [Act.put, List.setIfInBounds_toArray, List.set_cons_zero, List.set_cons_succ])
 refine Safe.force (some 14) HFL (by decide +kernel) rfl hF4 (fun vf => ?_)
 (try simp only [Act.put, List.setIfInBounds_toArray, List.set_cons_zero, List.set_cons_succ])
 refine Safe.fin rfl (fun W h => hF4 W h.1) (fun W103 hG hHeld => ?_)
 obtain ⟨hG, X14, rfl, hX, hN⟩ := hG
 have HS1 := hide (Vr.made (S := fun W => ((((((Below w.heap.size w W ∧ w.heap.size ≤ W.heap.size) ∧ Blk W X7 24 #[.int .i64 xd, .slice xA xt.length xc]) ∧ Blk W X8 24 #[.int .i64 yd, .slice yA yt.length yc]) ∧ Blk W X9 24 #[.int .i64 zd, .slice zA zt.length zc]) ∧ Blk W X10 24 #[.int .i64 0, .slice none 0 0]) ∧ Vr X12 (ad) A12 n12 c12 (at_) W)) (d := bd) HS.out hG.1.1.2.1 hX hN hG.2)
 obtain ⟨q0, q1, qf0, qf1⟩ := hN.two
 clear hG HFL hF3 hF4 hX hN HGd HS u12 v12 h12 HN12 u9 v9 h9 HN9
 refine wpTill_one 9 rfl (by decide +kernel) (fun K hK => ?_)
 go_simp
 refine hK.out _ _ ⟨trivial, fun h => absurd h (by decide +kernel), fun _ => trivial⟩ (fun hHeld => ?_)
 clear hK K
 (try simp only [Act.put, List.setIfInBounds_toArray, List.set_cons_zero, List.set_cons_succ])
 refine wpTill_take 10 rfl (by decide +kernel) (fun c a w h => by first | exact h | (cases h; done)) (by rfl) (v := ?_) ?_ hHeld (fun hHeld' => ?_)
 rotate_left 1
 focus (intro w' hSw; obtain ⟨hC, hF, hG⟩ := hSw; clear hG; clear hF; go_simp; first | done | with_reducible rfl)
 clear hHeld
 rename Till _ _ _ _ _ _ _ => hHeld
 (try simp only [Act.put, List.setIfInBounds_toArray, List.set_cons_zero, List.set_cons_succ])
 refine wpTill_done (by decide +kernel) ?_
 clear hHeld
 clear q0 q1 qf0 qf1
 generalize (W103.setCell ⟨X14, 0, none⟩ (.int .i64 (bd))).setCell ⟨X14, 1, none⟩ (.slice x4.1 x4.2.1 x4.2.2) = W104 at *
 obtain ⟨A14, n14, c14⟩ := x4
 dsimp only at HS1
 have HS := hide HS1.out
 clear HS1
 go_upto_region 3 with fail
 obtain ⟨r0, r1, rf0, rf1⟩ := (HS.out.1.1.2).two
 obtain ⟨u14, v14, _, _⟩ := (HS.out.2.1).two
 have HRT : Hid (∀ (a : Act) (ok : Bool), a.tmps.getD 10 undef = .pointer (some ⟨X10, 0, none⟩) → a.tmps.getD 11 undef = .bool ok → a.defers = [] → ok = okk →
   bodyPost Tryz.prog Tryz.f32 (TwPost w (bd, bt, bc) okk) .ret a ((W104.setCell ⟨X10, 0, none⟩ (.int .i64 bd)).setCell ⟨X10, 1, none⟩ (.slice A14 n14 c14))) := hide (by
  intro a ok e1 e2 e3 e4
  refine bodyPost_cell_tmp (p := 10) (u := 11) (ty := 24) rfl e1 ((HS.out.1.1.2.set_ 0 (.int .i64 bd)).set_ 1 (.slice A14 n14 c14)) Tryz.underlying24 rfl Tryz.sizeNumber e3 ?_
  rw [e2, e4]
  exact ⟨A14, n14, c14, rfl, own_set (own_set HS.out.2.2 (HS.out.1.1.2) (i := 0) (u := .int .i64 bd) (by decide)) (HS.out.1.1.2.set_ 0 (.int .i64 bd)) (i := 1) (u := .slice A14 n14 c14) (by decide),
   ((HS.out.1.1.1.1.1.1.1).setCell (p := ⟨X10, 0, none⟩) hX10 (.int .i64 bd)).setCell (p := ⟨X10, 1, none⟩) hX10 (.slice A14 n14 c14)⟩)
 by_cases hca : ac = 0
 rotate_left 1
 ·have hca2 : (ac == 0) = false := by simpa using hca
  go_wp2
  exact HRT.out _ false rfl rfl rfl (by rw [← HOK.out]; simp [hca])
 subst hca
 by_cases hcb : bc = 0
 rotate_left 1
 ·have hcb2 : (bc == 0) = false := by simpa using hcb
  go_wp2
  exact HRT.out _ false rfl rfl rfl (by rw [← HOK.out]; simp [hcb])
 subst hcb
 go_wp2
 exact HRT.out _ true rfl rfl rfl (by rw [← HOK.out]; simp)
theorem twice_is (gf gg : FuncId) (F G : Int → List (Int × Int) → Int → List (Int × Int) → Int × List (Int × Int) × Int) (xd : Int) (xA : Option Addr) (xn xc : Nat) (xt : List (Int × Int)) (yd : Int) (yA : Option Addr) (yn yc : Nat) (yt : List (Int × Int)) (zd : Int) (zA : Option Addr) (zn zc : Nat) (zt : List (Int × Int)) (ad : Int) (at_ : List (Int × Int)) (ac bd : Int) (bt : List (Int × Int)) (bc : Int) (ok : Bool) (w : World) (hx : TermsQ w w.heap.size xA xn xc xt) (hy : TermsQ w w.heap.size yA yn yc yt) (hz : TermsQ w w.heap.size zA zn zc zt)
  (ef : ∀ args w, (callFunc gf args).run Tryz.prog w = .ok (.enter gf args) w) (eg : ∀ args w, (callFunc gg args).run Tryz.prog w = .ok (.enter gg args) w) (hF : OpOf gf F) (hG : OpOf gg G)
  (ha : F xd xt yd yt = (ad, at_, ac)) (hb : G ad at_ zd zt = (bd, bt, bc)) (hlx : xt.length ≤ 1000) (hly : yt.length ≤ 1000) (hlz : zt.length ≤ 1000) (hok : (decide (ac = 0) && decide (bc = 0)) = ok) :
  Calls Tryz.prog 32 #[.func (.func gf) #[] #[], .func (.func gg) #[] #[], .agg #[.int .i64 xd, .slice xA xn xc], .agg #[.int .i64 yd, .slice yA yn yc], .agg #[.int .i64 zd, .slice zA zn zc]] w
   fun e w' => ∃ (A : Option Addr) (n c : Nat), e = .returned (.tuple #[.agg #[.int .i64 bd, .slice A n c], .bool ok]) ∧ OwnN 0 (A, n, c) bt w' ∧ Below w.heap.size w w' := by
 subst hok
 exact twice_any gf gg F G xd xA xn xc xt yd yA yn yc yt zd zA zn zc zt (ad, at_, ac) (bd, bt, bc) w hx hy hz ef eg hF hG ha hb hlx hly hlz
theorem opAdd : OpOf 26 (fun a b c d => plusS a b c d 1) := fun xd xA xn xc xt yd yA yn yc yt B w hx hy hB => add_flat xd xA xn xc xt yd yA yn yc yt B w hx hy hB
theorem opSub : OpOf 27 (fun a b c d => plusS a b c d (-1)) := fun xd xA xn xc xt yd yA yn yc yt B w hx hy hB => sub_flat xd xA xn xc xt yd yA yn yc yt B w hx hy hB
theorem opMul : OpOf 19 mulS := fun xd xA xn xc xt yd yA yn yc yt B w hx hy hB => mul_flat xd xA xn xc xt yd yA yn yc yt B w hx hy hB
end Go.Proofs.YtfmnnceacdpbdaaGreatDoor
