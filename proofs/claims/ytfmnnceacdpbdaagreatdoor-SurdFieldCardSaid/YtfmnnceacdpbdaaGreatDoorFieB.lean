import Derived.Test.YtfmnnceacdpbdaaGreatDoorFieAToBetA
import Derived.Test.YtfmnnceacdpbdaaGreatDoorThrB
import Derived.Test.YtfmnnceacdpbdaaGreatDoorLayO
import Derived.Test.YtfmnnceacdpbdaaGreatDoorKnwAToKnwB
set_option linter.unusedVariables false
set_option linter.unusedSimpArgs false
namespace Go.Proofs.YtfmnnceacdpbdaaGreatDoor
open Go Go.RowKit
set_option maxHeartbeats 32000000 in
set_option maxRecDepth 100000 in
theorem field_any (xd : Int) (xA : Option Addr) (xn xc : Nat) (xt : List (Int × Int)) (yd : Int) (yA : Option Addr) (yn yc : Nat) (yt : List (Int × Int)) (zd : Int) (zA : Option Addr) (zn zc : Nat) (zt : List (Int × Int)) (w : World) (hx : TermsQ w w.heap.size xA xn xc xt) (hy : TermsQ w w.heap.size yA yn yc yt) (hz : TermsQ w w.heap.size zA zn zc zt)
  (hE : ErrVars w) (hM : MaxV w) (htab : Lib.TabIs Tryz.prog w "internal/strconv.uint64pow10" .u64 Lib.pow10Tab) :
  Calls Tryz.prog 8 #[.agg #[.int .i64 xd, .slice xA xn xc, .int .i64 yd, .slice yA yn yc, .int .i64 zd, .slice zA zn zc]] w fun e w' => e = .returned (.bool true) ∧ Below w.heap.size w w' := by
 obtain ⟨gp, hgp⟩ := Option.isSome_iff_exists.1 Tryz.pow10g
 have HK : Hid (∀ W, Below w.heap.size w W → Calls Tryz.prog 11 #[] W fun e w' => e = .returned (.bool true) ∧ Below W.heap.size W w') := hide (fun W hW => known1_any W (hE.below hW (Nat.le_refl _)) (hM.below hW (Nat.le_refl _)) (TabIs_below_ hgp htab hW))
 have hl := hx.len
 subst hl
 have hmx := Rq.nmax hx
 have HPx := hide (fun W (hb : Below w.heap.size w W) => Rq.below hx hb)
 have hl := hy.len
 subst hl
 have hmy := Rq.nmax hy
 have HPy := hide (fun W (hb : Below w.heap.size w W) => Rq.below hy hb)
 have hl := hz.len
 subst hl
 have hmz := Rq.nmax hz
 have HPz := hide (fun W (hb : Below w.heap.size w W) => Rq.below hz hb)
 clear hx hy hz hE hM htab hgp
 go_enter Tryz.func8, Tryz.ntmps8
 go_upto_region 1 with fail
 obtain ⟨X1, hX1⟩ : ∃ X, X = w.heap.size := ⟨_, rfl⟩
 have HS : Hid ((Below w.heap.size w (w.alloc (.cells #[.int .i64 xd, .slice xA xt.length xc, .int .i64 yd, .slice yA yt.length yc, .int .i64 zd, .slice zA zt.length zc] 48)) ∧ w.heap.size ≤ (w.alloc (.cells #[.int .i64 xd, .slice xA xt.length xc, .int .i64 yd, .slice yA yt.length yc, .int .i64 zd, .slice zA zt.length zc] 48)).heap.size) ∧ Blk (w.alloc (.cells #[.int .i64 xd, .slice xA xt.length xc, .int .i64 yd, .slice yA yt.length yc, .int .i64 zd, .slice zA zt.length zc] 48)) X1 48 #[.int .i64 xd, .slice xA xt.length xc, .int .i64 yd, .slice yA yt.length yc, .int .i64 zd, .slice zA zt.length zc]) := hide ⟨⟨(Below.refl _ _).alloc (Nat.le_refl _) _, by simp⟩, hX1 ▸ Blk.new w _ _⟩
 rw [← hX1] at ⊢
 clear hX1
 generalize w.alloc (.cells #[.int .i64 xd, .slice xA xt.length xc, .int .i64 yd, .slice yA yt.length yc, .int .i64 zd, .slice zA zt.length zc] 48) = W1 at *
 obtain ⟨u0, u1, u2, u3, u4, u5⟩ := HS.out.2.six
 have hokc0 := fun W (hb : Below w.heap.size w W) (hB : w.heap.size ≤ W.heap.size) => threeOk_any xd xA xt.length xc xt yd yA yt.length yc yt zd zA zt.length zc zt W (Rq.more (HPx.out W hb) hB) (Rq.more (HPy.out W hb) hB) (Rq.more (HPz.out W hb) hB)
 cases hok : okThree xd yd zd xt yt zt
 ·rw [hok] at hokc0
  have hokc := hide hokc0
  clear hokc0
  go_upto_region 2 with (first
   | (go_at_call 31; refine (hokc.out W1 HS.out.1.1 HS.out.1.2).mono ?_; rintro e w101 ⟨rfl, hb⟩
      have HS_0 := hide (Kept.keep (S := fun W => ((Below w.heap.size w W ∧ w.heap.size ≤ W.heap.size) ∧ Blk W X1 48 #[.int .i64 xd, .slice xA xt.length xc, .int .i64 yd, .slice yA yt.length yc, .int .i64 zd, .slice zA zt.length zc])) _ _ HS.out hb)
      clear hb))
  clear u0 u1 u2 u3 u4 u5
  have HS0 := hide HS_0.out
  clear HS
  have HS := hide HS0.out
  clear HS0
  clear HPx HPy HPz
  have HBk := hide HS.out.1
  go_wp2_with (first
   | (go_at_call 11; refine (HK.out _ HBk.out.1).mono ?_; rintro e wz ⟨rfl, hbz⟩
      have HBe := hide (HBk.out.1.trans (hbz.mono HBk.out.2))
      clear hbz))
  all_goals
   go_ret
   exact ⟨rfl, HBe.out⟩
 rw [hok] at hokc0
 have hokc := hide hokc0
 clear hokc0
 obtain ⟨hlx, hly, hlz, hx, hy, hz⟩ := okThree_all hok
 have HOx := hide (fun W (hb : Below w.heap.size w W) (hB : w.heap.size ≤ W.heap.size) => own1_any xd xA xt.length xc w.heap.size xt W (HPx.out W hb) hB (by omega))
 have HOy := hide (fun W (hb : Below w.heap.size w W) (hB : w.heap.size ≤ W.heap.size) => own1_any yd yA yt.length yc w.heap.size yt W (HPy.out W hb) hB (by omega))
 have HOz := hide (fun W (hb : Below w.heap.size w W) (hB : w.heap.size ≤ W.heap.size) => own1_any zd zA zt.length zc w.heap.size zt W (HPz.out W hb) hB (by omega))
 clear hok
 go_upto_region 3 with (first
  | (go_at_call 31; refine (hokc.out W1 HS.out.1.1 HS.out.1.2).mono ?_; rintro e w101 ⟨rfl, hb⟩
     have HS_0 := hide (Kept.keep (S := fun W => ((Below w.heap.size w W ∧ w.heap.size ≤ W.heap.size) ∧ Blk W X1 48 #[.int .i64 xd, .slice xA xt.length xc, .int .i64 yd, .slice yA yt.length yc, .int .i64 zd, .slice zA zt.length zc])) _ _ HS.out hb)
     clear hb))
 clear u0 u1 u2 u3 u4 u5 hokc
 have HS0 := hide HS_0.out
 clear HS
 have HS := hide HS0.out
 clear HS0
 clear HS_0
 replace hlx : xt.length ≤ 1000 := by omega
 replace hly : yt.length ≤ 1000 := by omega
 replace hlz : zt.length ≤ 1000 := by omega
 obtain ⟨u0, u1, u2, u3, u4, u5⟩ := (HS.out.2).six
 have h1 : X1 < w101.heap.size := (HS.out.2).lt
 refine join_region [29, 30, 31, 32, 33, 34, 3, 4, 5] (fun v W => ∃ (X3 X4 X5 : Nat), v 3 = .pointer (some ⟨X3, 0, none⟩) ∧ v 4 = .pointer (some ⟨X4, 0, none⟩) ∧ v 5 = .pointer (some ⟨X5, 0, none⟩) ∧ (((((Below w.heap.size w W ∧ w.heap.size ≤ W.heap.size) ∧ Blk W X1 48 #[.int .i64 xd, .slice xA xt.length xc, .int .i64 yd, .slice yA yt.length yc, .int .i64 zd, .slice zA zt.length zc]) ∧ Blk W X3 24 #[.int .i64 xd, .slice xA xt.length xc]) ∧ Blk W X4 24 #[.int .i64 yd, .slice yA yt.length yc]) ∧ Blk W X5 24 #[.int .i64 zd, .slice zA zt.length zc])) (fun v W hR => ?_) ?_
 rotate_left 1
 focus
  intro HJ
  have HL := hide (Lay.start (W0 := w101) (W := w101.drew) (R := []) (Below.drew (Below.refl _ _)) (fun _ h => by cases h))
  refine wp_region_till (fun W' => Below w101.heap.size w101 W') 9 (fun _ => True) 9 (fun _ => True) (by kernel_rfl) ⟨Below.drew (Below.refl _ _), fun _ => trivial, fun _ => trivial⟩ (fun hHeld => ?_)
  generalize w101.drew = Wd at HL hHeld ⊢
  refine wpTill_take 0 rfl (by decide +kernel) (fun c a w h => by first | exact h | (cases h; done)) (by rfl) (v := ?_) ?_ hHeld (fun hHeld' => ?_)
  rotate_left 1
  focus (intro w' hSw; obtain ⟨hC, hF, hG⟩ := hSw; clear hG; clear hF; go_simp; first | done | with_reducible rfl)
  clear hHeld
  rename Till _ _ _ _ _ _ _ => hHeld
  (try simp only [Act.put, List.setIfInBounds_toArray, List.set_cons_zero, List.set_cons_succ])
  refine wpTill_take 1 rfl (by decide +kernel) (fun c a w h => by first | exact h | (cases h; done)) (by rfl) (v := ?_) ?_ hHeld (fun hHeld' => ?_)
  rotate_left 1
  focus (intro w' hSw; obtain ⟨hC, hF, hG⟩ := hSw; clear hG; clear hF; have hF := hC; have e1 := (hF.cell (p := ⟨X1, 0, none⟩) h1).trans u0; have e2 := (hF.cell (p := ⟨X1, 1, none⟩) h1).trans u1; clear hF; go_simp; first | done | with_reducible rfl)
  clear hHeld
  rename Till _ _ _ _ _ _ _ => hHeld
  (try simp only [Act.put, List.setIfInBounds_toArray, List.set_cons_zero, List.set_cons_succ])
  refine wpTill_take 2 rfl (by decide +kernel) (fun c a w h => by first | exact h | (cases h; done)) (by rfl) (v := ?_) ?_ hHeld (fun hHeld' => ?_)
  rotate_left 1
  focus (intro w' hSw; obtain ⟨hC, hF, hG⟩ := hSw; clear hG; clear hF; go_simp; first | done | with_reducible rfl)
  clear hHeld
  rename Till _ _ _ _ _ _ _ => hHeld
  (try simp only [Act.put, List.setIfInBounds_toArray, List.set_cons_zero, List.set_cons_succ])
  refine wpTill_take 3 rfl (by decide +kernel) (fun c a w h => by first | exact h | (cases h; done)) (by rfl) (v := ?_) ?_ hHeld (fun hHeld' => ?_)
  rotate_left 1
  focus (intro w' hSw; obtain ⟨hC, hF, hG⟩ := hSw; clear hG; clear hF; have hF := hC; have e1 := (hF.cell (p := ⟨X1, 2, none⟩) h1).trans u2; have e2 := (hF.cell (p := ⟨X1, 3, none⟩) h1).trans u3; clear hF; go_simp; first | done | with_reducible rfl)
  clear hHeld
  rename Till _ _ _ _ _ _ _ => hHeld
  (try simp only [Act.put, List.setIfInBounds_toArray, List.set_cons_zero, List.set_cons_succ])
  refine wpTill_take 4 rfl (by decide +kernel) (fun c a w h => by first | exact h | (cases h; done)) (by rfl) (v := ?_) ?_ hHeld (fun hHeld' => ?_)
  rotate_left 1
  focus (intro w' hSw; obtain ⟨hC, hF, hG⟩ := hSw; clear hG; clear hF; go_simp; first | done | with_reducible rfl)
  clear hHeld
  rename Till _ _ _ _ _ _ _ => hHeld
  (try simp only [Act.put, List.setIfInBounds_toArray, List.set_cons_zero, List.set_cons_succ])
  refine wpTill_take 5 rfl (by decide +kernel) (fun c a w h => by first | exact h | (cases h; done)) (by rfl) (v := ?_) ?_ hHeld (fun hHeld' => ?_)
  rotate_left 1
  focus (intro w' hSw; obtain ⟨hC, hF, hG⟩ := hSw; clear hG; clear hF; have hF := hC; have e1 := (hF.cell (p := ⟨X1, 4, none⟩) h1).trans u4; have e2 := (hF.cell (p := ⟨X1, 5, none⟩) h1).trans u5; clear hF; go_simp; first | done | with_reducible rfl)
  clear hHeld
  rename Till _ _ _ _ _ _ _ => hHeld
  (try simp only [Act.put, List.setIfInBounds_toArray, List.set_cons_zero, List.set_cons_succ])
  clear u0 u1 u2 u3 u4 u5 h1
  refine wpTill_ready (by decide +kernel) (by decide) (AllTill.cons (i := 6) rfl (fun K hK => ?_) (AllTill.cons (i := 7) rfl (fun K hK => ?_) (AllTill.cons (i := 8) rfl (fun K hK => ?_) AllTill.nil)))
  ·go_simp
   refine hK.out _ _ ⟨(HL.out.alloc 3 #[.int .i64 0, .slice none 0 0]).1, fun _ => trivial, fun _ => trivial⟩ (fun hHeld => ?_)
   clear hK K
   (try simp only [Act.put, List.setIfInBounds_toArray, List.set_cons_zero, List.set_cons_succ])
   have HL1 := hide (HL.out.alloc 3 #[.int .i64 0, .slice none 0 0])
   clear HL
   obtain ⟨X3, hX⟩ : ∃ X, X = Wd.heap.size := ⟨_, rfl⟩
   rw [← hX] at HL1 ⊢
   clear hX
   generalize Wd.alloc (.cells #[.int .i64 0, .slice none 0 0] 24) = W102 at HL1 hHeld ⊢
   have HL := hide HL1.out
   clear HL1
   refine wpTill_two 7 8 rfl rfl (by decide +kernel) (fun K hK => ?_) (fun K hK => ?_)
   ·go_simp
    refine hK.out _ _ ⟨(HL.out.alloc 4 #[.int .i64 0, .slice none 0 0]).1, fun _ => trivial, fun _ => trivial⟩ (fun hHeld => ?_)
    clear hK K
    (try simp only [Act.put, List.setIfInBounds_toArray, List.set_cons_zero, List.set_cons_succ])
    have HL1 := hide (HL.out.alloc 4 #[.int .i64 0, .slice none 0 0])
    clear HL
    obtain ⟨X4, hX⟩ : ∃ X, X = W102.heap.size := ⟨_, rfl⟩
    rw [← hX] at HL1 ⊢
    clear hX
    generalize W102.alloc (.cells #[.int .i64 0, .slice none 0 0] 24) = W103 at HL1 hHeld ⊢
    have HL := hide HL1.out
    clear HL1
    refine wpTill_one 8 rfl (by decide +kernel) (fun K hK => ?_)
    go_simp
    refine hK.out _ _ ⟨(HL.out.alloc 5 #[.int .i64 0, .slice none 0 0]).1, fun _ => trivial, fun _ => trivial⟩ (fun hHeld => ?_)
    clear hK K
    (try simp only [Act.put, List.setIfInBounds_toArray, List.set_cons_zero, List.set_cons_succ])
    have HL1 := hide (HL.out.alloc 5 #[.int .i64 0, .slice none 0 0])
    clear HL
    obtain ⟨X5, hX⟩ : ∃ X, X = W103.heap.size := ⟨_, rfl⟩
    rw [← hX] at HL1 ⊢
    clear hX
    generalize W103.alloc (.cells #[.int .i64 0, .slice none 0 0] 24) = W104 at HL1 hHeld ⊢
    have HL := hide HL1.out
    clear HL1
    refine wpTill_one 9 rfl (by decide +kernel) (fun K hK => ?_)
    obtain ⟨q0, q1, qf0, qf1⟩ := (HL.out.blk 3 (X := X3) rfl rfl).two
    go_simp
    refine hK.out _ _ ⟨(HL.out.put 3 X3 rfl rfl (.int .i64 xd) (.slice xA xt.length xc)).1, fun _ => trivial, fun _ => trivial⟩ (fun hHeld => ?_)
    clear hK K q0 q1 qf0 qf1
    (try simp only [Act.put, List.setIfInBounds_toArray, List.set_cons_zero, List.set_cons_succ])
    have HL1 := hide (HL.out.put 3 X3 rfl rfl (.int .i64 xd) (.slice xA xt.length xc))
    clear HL
    generalize (W104.setCell ⟨X3, 0, none⟩ (.int .i64 xd)).setCell ⟨X3, 1, none⟩ (.slice xA xt.length xc) = W105 at HL1 hHeld ⊢
    have HL := hide HL1.out
    clear HL1
    refine wpTill_one 10 rfl (by decide +kernel) (fun K hK => ?_)
    obtain ⟨q0, q1, qf0, qf1⟩ := (HL.out.blk 4 (X := X4) rfl rfl).two
    go_simp
    refine hK.out _ _ ⟨(HL.out.put 4 X4 rfl rfl (.int .i64 yd) (.slice yA yt.length yc)).1, fun _ => trivial, fun _ => trivial⟩ (fun hHeld => ?_)
    clear hK K q0 q1 qf0 qf1
    (try simp only [Act.put, List.setIfInBounds_toArray, List.set_cons_zero, List.set_cons_succ])
    have HL1 := hide (HL.out.put 4 X4 rfl rfl (.int .i64 yd) (.slice yA yt.length yc))
    clear HL
    generalize (W105.setCell ⟨X4, 0, none⟩ (.int .i64 yd)).setCell ⟨X4, 1, none⟩ (.slice yA yt.length yc) = W106 at HL1 hHeld ⊢
    have HL := hide HL1.out
    clear HL1
    refine wpTill_one 11 rfl (by decide +kernel) (fun K hK => ?_)
    obtain ⟨q0, q1, qf0, qf1⟩ := (HL.out.blk 5 (X := X5) rfl rfl).two
    go_simp
    refine hK.out _ _ ⟨(HL.out.put 5 X5 rfl rfl (.int .i64 zd) (.slice zA zt.length zc)).1, fun _ => trivial, fun _ => trivial⟩ (fun hHeld => ?_)
    clear hK K q0 q1 qf0 qf1
    (try simp only [Act.put, List.setIfInBounds_toArray, List.set_cons_zero, List.set_cons_succ])
    have HL1 := hide (HL.out.put 5 X5 rfl rfl (.int .i64 zd) (.slice zA zt.length zc))
    clear HL
    generalize (W106.setCell ⟨X5, 0, none⟩ (.int .i64 zd)).setCell ⟨X5, 1, none⟩ (.slice zA zt.length zc) = W107 at HL1 hHeld ⊢
    have HL := hide HL1.out
    clear HL1
    refine wpTill_done (by decide +kernel) ?_
    exact HJ.out _ _ ⟨X3, X4, X5, rfl, rfl, rfl, ⟨⟨⟨HL.out.keep (S := fun W => ((Below w.heap.size w W ∧ w.heap.size ≤ W.heap.size) ∧ Blk W X1 48 #[.int .i64 xd, .slice xA xt.length xc, .int .i64 yd, .slice yA yt.length yc, .int .i64 zd, .slice zA zt.length zc])) HS.out, HL.out.blk 3 rfl rfl⟩, HL.out.blk 4 rfl rfl⟩, HL.out.blk 5 rfl rfl⟩⟩ (by kernel_rfl)
   ·go_simp
    refine hK.out _ _ ⟨(HL.out.alloc 5 #[.int .i64 0, .slice none 0 0]).1, fun _ => trivial, fun _ => trivial⟩ (fun hHeld => ?_)
    clear hK K
    (try simp only [Act.put, List.setIfInBounds_toArray, List.set_cons_zero, List.set_cons_succ])
    have HL1 := hide (HL.out.alloc 5 #[.int .i64 0, .slice none 0 0])
    clear HL
    obtain ⟨X5, hX⟩ : ∃ X, X = W102.heap.size := ⟨_, rfl⟩
    rw [← hX] at HL1 ⊢
    clear hX
    generalize W102.alloc (.cells #[.int .i64 0, .slice none 0 0] 24) = W108 at HL1 hHeld ⊢
    have HL := hide HL1.out
    clear HL1
    refine wpTill_one 7 rfl (by decide +kernel) (fun K hK => ?_)
    go_simp
    refine hK.out _ _ ⟨(HL.out.alloc 4 #[.int .i64 0, .slice none 0 0]).1, fun _ => trivial, fun _ => trivial⟩ (fun hHeld => ?_)
    clear hK K
    (try simp only [Act.put, List.setIfInBounds_toArray, List.set_cons_zero, List.set_cons_succ])
    have HL1 := hide (HL.out.alloc 4 #[.int .i64 0, .slice none 0 0])
    clear HL
    obtain ⟨X4, hX⟩ : ∃ X, X = W108.heap.size := ⟨_, rfl⟩
    rw [← hX] at HL1 ⊢
    clear hX
    generalize W108.alloc (.cells #[.int .i64 0, .slice none 0 0] 24) = W109 at HL1 hHeld ⊢
    have HL := hide HL1.out
    clear HL1
    refine wpTill_one 9 rfl (by decide +kernel) (fun K hK => ?_)
    obtain ⟨q0, q1, qf0, qf1⟩ := (HL.out.blk 3 (X := X3) rfl rfl).two
    go_simp
    refine hK.out _ _ ⟨(HL.out.put 3 X3 rfl rfl (.int .i64 xd) (.slice xA xt.length xc)).1, fun _ => trivial, fun _ => trivial⟩ (fun hHeld => ?_)
    clear hK K q0 q1 qf0 qf1
    (try simp only [Act.put, List.setIfInBounds_toArray, List.set_cons_zero, List.set_cons_succ])
    have HL1 := hide (HL.out.put 3 X3 rfl rfl (.int .i64 xd) (.slice xA xt.length xc))
    clear HL
    generalize (W109.setCell ⟨X3, 0, none⟩ (.int .i64 xd)).setCell ⟨X3, 1, none⟩ (.slice xA xt.length xc) = W110 at HL1 hHeld ⊢
    have HL := hide HL1.out
    clear HL1
    refine wpTill_one 10 rfl (by decide +kernel) (fun K hK => ?_)
    obtain ⟨q0, q1, qf0, qf1⟩ := (HL.out.blk 4 (X := X4) rfl rfl).two
    go_simp
    refine hK.out _ _ ⟨(HL.out.put 4 X4 rfl rfl (.int .i64 yd) (.slice yA yt.length yc)).1, fun _ => trivial, fun _ => trivial⟩ (fun hHeld => ?_)
    clear hK K q0 q1 qf0 qf1
    (try simp only [Act.put, List.setIfInBounds_toArray, List.set_cons_zero, List.set_cons_succ])
    have HL1 := hide (HL.out.put 4 X4 rfl rfl (.int .i64 yd) (.slice yA yt.length yc))
    clear HL
    generalize (W110.setCell ⟨X4, 0, none⟩ (.int .i64 yd)).setCell ⟨X4, 1, none⟩ (.slice yA yt.length yc) = W111 at HL1 hHeld ⊢
    have HL := hide HL1.out
    clear HL1
    refine wpTill_one 11 rfl (by decide +kernel) (fun K hK => ?_)
    obtain ⟨q0, q1, qf0, qf1⟩ := (HL.out.blk 5 (X := X5) rfl rfl).two
    go_simp
    refine hK.out _ _ ⟨(HL.out.put 5 X5 rfl rfl (.int .i64 zd) (.slice zA zt.length zc)).1, fun _ => trivial, fun _ => trivial⟩ (fun hHeld => ?_)
    clear hK K q0 q1 qf0 qf1
    (try simp only [Act.put, List.setIfInBounds_toArray, List.set_cons_zero, List.set_cons_succ])
    have HL1 := hide (HL.out.put 5 X5 rfl rfl (.int .i64 zd) (.slice zA zt.length zc))
    clear HL
    generalize (W111.setCell ⟨X5, 0, none⟩ (.int .i64 zd)).setCell ⟨X5, 1, none⟩ (.slice zA zt.length zc) = W112 at HL1 hHeld ⊢
    have HL := hide HL1.out
    clear HL1
    refine wpTill_done (by decide +kernel) ?_
    exact HJ.out _ _ ⟨X3, X4, X5, rfl, rfl, rfl, ⟨⟨⟨HL.out.keep (S := fun W => ((Below w.heap.size w W ∧ w.heap.size ≤ W.heap.size) ∧ Blk W X1 48 #[.int .i64 xd, .slice xA xt.length xc, .int .i64 yd, .slice yA yt.length yc, .int .i64 zd, .slice zA zt.length zc])) HS.out, HL.out.blk 3 rfl rfl⟩, HL.out.blk 4 rfl rfl⟩, HL.out.blk 5 rfl rfl⟩⟩ (by kernel_rfl)
  ·go_simp
   refine hK.out _ _ ⟨(HL.out.alloc 4 #[.int .i64 0, .slice none 0 0]).1, fun _ => trivial, fun _ => trivial⟩ (fun hHeld => ?_)
   clear hK K
   (try simp only [Act.put, List.setIfInBounds_toArray, List.set_cons_zero, List.set_cons_succ])
   have HL1 := hide (HL.out.alloc 4 #[.int .i64 0, .slice none 0 0])
   clear HL
   obtain ⟨X4, hX⟩ : ∃ X, X = Wd.heap.size := ⟨_, rfl⟩
   rw [← hX] at HL1 ⊢
   clear hX
   generalize Wd.alloc (.cells #[.int .i64 0, .slice none 0 0] 24) = W113 at HL1 hHeld ⊢
   have HL := hide HL1.out
   clear HL1
   refine wpTill_two 6 8 rfl rfl (by decide +kernel) (fun K hK => ?_) (fun K hK => ?_)
   ·go_simp
    refine hK.out _ _ ⟨(HL.out.alloc 3 #[.int .i64 0, .slice none 0 0]).1, fun _ => trivial, fun _ => trivial⟩ (fun hHeld => ?_)
    clear hK K
    (try simp only [Act.put, List.setIfInBounds_toArray, List.set_cons_zero, List.set_cons_succ])
    have HL1 := hide (HL.out.alloc 3 #[.int .i64 0, .slice none 0 0])
    clear HL
    obtain ⟨X3, hX⟩ : ∃ X, X = W113.heap.size := ⟨_, rfl⟩
    rw [← hX] at HL1 ⊢
    clear hX
    generalize W113.alloc (.cells #[.int .i64 0, .slice none 0 0] 24) = W114 at HL1 hHeld ⊢
    have HL := hide HL1.out
    clear HL1
    refine wpTill_one 8 rfl (by decide +kernel) (fun K hK => ?_)
    go_simp
    refine hK.out _ _ ⟨(HL.out.alloc 5 #[.int .i64 0, .slice none 0 0]).1, fun _ => trivial, fun _ => trivial⟩ (fun hHeld => ?_)
    clear hK K
    (try simp only [Act.put, List.setIfInBounds_toArray, List.set_cons_zero, List.set_cons_succ])
    have HL1 := hide (HL.out.alloc 5 #[.int .i64 0, .slice none 0 0])
    clear HL
    obtain ⟨X5, hX⟩ : ∃ X, X = W114.heap.size := ⟨_, rfl⟩
    rw [← hX] at HL1 ⊢
    clear hX
    generalize W114.alloc (.cells #[.int .i64 0, .slice none 0 0] 24) = W115 at HL1 hHeld ⊢
    have HL := hide HL1.out
    clear HL1
    refine wpTill_one 9 rfl (by decide +kernel) (fun K hK => ?_)
    obtain ⟨q0, q1, qf0, qf1⟩ := (HL.out.blk 3 (X := X3) rfl rfl).two
    go_simp
    refine hK.out _ _ ⟨(HL.out.put 3 X3 rfl rfl (.int .i64 xd) (.slice xA xt.length xc)).1, fun _ => trivial, fun _ => trivial⟩ (fun hHeld => ?_)
    clear hK K q0 q1 qf0 qf1
    (try simp only [Act.put, List.setIfInBounds_toArray, List.set_cons_zero, List.set_cons_succ])
    have HL1 := hide (HL.out.put 3 X3 rfl rfl (.int .i64 xd) (.slice xA xt.length xc))
    clear HL
    generalize (W115.setCell ⟨X3, 0, none⟩ (.int .i64 xd)).setCell ⟨X3, 1, none⟩ (.slice xA xt.length xc) = W116 at HL1 hHeld ⊢
    have HL := hide HL1.out
    clear HL1
    refine wpTill_one 10 rfl (by decide +kernel) (fun K hK => ?_)
    obtain ⟨q0, q1, qf0, qf1⟩ := (HL.out.blk 4 (X := X4) rfl rfl).two
    go_simp
    refine hK.out _ _ ⟨(HL.out.put 4 X4 rfl rfl (.int .i64 yd) (.slice yA yt.length yc)).1, fun _ => trivial, fun _ => trivial⟩ (fun hHeld => ?_)
    clear hK K q0 q1 qf0 qf1
    (try simp only [Act.put, List.setIfInBounds_toArray, List.set_cons_zero, List.set_cons_succ])
    have HL1 := hide (HL.out.put 4 X4 rfl rfl (.int .i64 yd) (.slice yA yt.length yc))
    clear HL
    generalize (W116.setCell ⟨X4, 0, none⟩ (.int .i64 yd)).setCell ⟨X4, 1, none⟩ (.slice yA yt.length yc) = W117 at HL1 hHeld ⊢
    have HL := hide HL1.out
    clear HL1
    refine wpTill_one 11 rfl (by decide +kernel) (fun K hK => ?_)
    obtain ⟨q0, q1, qf0, qf1⟩ := (HL.out.blk 5 (X := X5) rfl rfl).two
    go_simp
    refine hK.out _ _ ⟨(HL.out.put 5 X5 rfl rfl (.int .i64 zd) (.slice zA zt.length zc)).1, fun _ => trivial, fun _ => trivial⟩ (fun hHeld => ?_)
    clear hK K q0 q1 qf0 qf1
    (try simp only [Act.put, List.setIfInBounds_toArray, List.set_cons_zero, List.set_cons_succ])
    have HL1 := hide (HL.out.put 5 X5 rfl rfl (.int .i64 zd) (.slice zA zt.length zc))
    clear HL
    generalize (W117.setCell ⟨X5, 0, none⟩ (.int .i64 zd)).setCell ⟨X5, 1, none⟩ (.slice zA zt.length zc) = W118 at HL1 hHeld ⊢
    have HL := hide HL1.out
    clear HL1
    refine wpTill_done (by decide +kernel) ?_
    exact HJ.out _ _ ⟨X3, X4, X5, rfl, rfl, rfl, ⟨⟨⟨HL.out.keep (S := fun W => ((Below w.heap.size w W ∧ w.heap.size ≤ W.heap.size) ∧ Blk W X1 48 #[.int .i64 xd, .slice xA xt.length xc, .int .i64 yd, .slice yA yt.length yc, .int .i64 zd, .slice zA zt.length zc])) HS.out, HL.out.blk 3 rfl rfl⟩, HL.out.blk 4 rfl rfl⟩, HL.out.blk 5 rfl rfl⟩⟩ (by kernel_rfl)
   ·go_simp
    refine hK.out _ _ ⟨(HL.out.alloc 5 #[.int .i64 0, .slice none 0 0]).1, fun _ => trivial, fun _ => trivial⟩ (fun hHeld => ?_)
    clear hK K
    (try simp only [Act.put, List.setIfInBounds_toArray, List.set_cons_zero, List.set_cons_succ])
    have HL1 := hide (HL.out.alloc 5 #[.int .i64 0, .slice none 0 0])
    clear HL
    obtain ⟨X5, hX⟩ : ∃ X, X = W113.heap.size := ⟨_, rfl⟩
    rw [← hX] at HL1 ⊢
    clear hX
    generalize W113.alloc (.cells #[.int .i64 0, .slice none 0 0] 24) = W119 at HL1 hHeld ⊢
    have HL := hide HL1.out
    clear HL1
    refine wpTill_one 6 rfl (by decide +kernel) (fun K hK => ?_)
    go_simp
    refine hK.out _ _ ⟨(HL.out.alloc 3 #[.int .i64 0, .slice none 0 0]).1, fun _ => trivial, fun _ => trivial⟩ (fun hHeld => ?_)
    clear hK K
    (try simp only [Act.put, List.setIfInBounds_toArray, List.set_cons_zero, List.set_cons_succ])
    have HL1 := hide (HL.out.alloc 3 #[.int .i64 0, .slice none 0 0])
    clear HL
    obtain ⟨X3, hX⟩ : ∃ X, X = W119.heap.size := ⟨_, rfl⟩
    rw [← hX] at HL1 ⊢
    clear hX
    generalize W119.alloc (.cells #[.int .i64 0, .slice none 0 0] 24) = W120 at HL1 hHeld ⊢
    have HL := hide HL1.out
    clear HL1
    refine wpTill_one 9 rfl (by decide +kernel) (fun K hK => ?_)
    obtain ⟨q0, q1, qf0, qf1⟩ := (HL.out.blk 3 (X := X3) rfl rfl).two
    go_simp
    refine hK.out _ _ ⟨(HL.out.put 3 X3 rfl rfl (.int .i64 xd) (.slice xA xt.length xc)).1, fun _ => trivial, fun _ => trivial⟩ (fun hHeld => ?_)
    clear hK K q0 q1 qf0 qf1
    (try simp only [Act.put, List.setIfInBounds_toArray, List.set_cons_zero, List.set_cons_succ])
    have HL1 := hide (HL.out.put 3 X3 rfl rfl (.int .i64 xd) (.slice xA xt.length xc))
    clear HL
    generalize (W120.setCell ⟨X3, 0, none⟩ (.int .i64 xd)).setCell ⟨X3, 1, none⟩ (.slice xA xt.length xc) = W121 at HL1 hHeld ⊢
    have HL := hide HL1.out
    clear HL1
    refine wpTill_one 10 rfl (by decide +kernel) (fun K hK => ?_)
    obtain ⟨q0, q1, qf0, qf1⟩ := (HL.out.blk 4 (X := X4) rfl rfl).two
    go_simp
    refine hK.out _ _ ⟨(HL.out.put 4 X4 rfl rfl (.int .i64 yd) (.slice yA yt.length yc)).1, fun _ => trivial, fun _ => trivial⟩ (fun hHeld => ?_)
    clear hK K q0 q1 qf0 qf1
    (try simp only [Act.put, List.setIfInBounds_toArray, List.set_cons_zero, List.set_cons_succ])
    have HL1 := hide (HL.out.put 4 X4 rfl rfl (.int .i64 yd) (.slice yA yt.length yc))
    clear HL
    generalize (W121.setCell ⟨X4, 0, none⟩ (.int .i64 yd)).setCell ⟨X4, 1, none⟩ (.slice yA yt.length yc) = W122 at HL1 hHeld ⊢
    have HL := hide HL1.out
    clear HL1
    refine wpTill_one 11 rfl (by decide +kernel) (fun K hK => ?_)
    obtain ⟨q0, q1, qf0, qf1⟩ := (HL.out.blk 5 (X := X5) rfl rfl).two
    go_simp
    refine hK.out _ _ ⟨(HL.out.put 5 X5 rfl rfl (.int .i64 zd) (.slice zA zt.length zc)).1, fun _ => trivial, fun _ => trivial⟩ (fun hHeld => ?_)
    clear hK K q0 q1 qf0 qf1
    (try simp only [Act.put, List.setIfInBounds_toArray, List.set_cons_zero, List.set_cons_succ])
    have HL1 := hide (HL.out.put 5 X5 rfl rfl (.int .i64 zd) (.slice zA zt.length zc))
    clear HL
    generalize (W122.setCell ⟨X5, 0, none⟩ (.int .i64 zd)).setCell ⟨X5, 1, none⟩ (.slice zA zt.length zc) = W123 at HL1 hHeld ⊢
    have HL := hide HL1.out
    clear HL1
    refine wpTill_done (by decide +kernel) ?_
    exact HJ.out _ _ ⟨X3, X4, X5, rfl, rfl, rfl, ⟨⟨⟨HL.out.keep (S := fun W => ((Below w.heap.size w W ∧ w.heap.size ≤ W.heap.size) ∧ Blk W X1 48 #[.int .i64 xd, .slice xA xt.length xc, .int .i64 yd, .slice yA yt.length yc, .int .i64 zd, .slice zA zt.length zc])) HS.out, HL.out.blk 3 rfl rfl⟩, HL.out.blk 4 rfl rfl⟩, HL.out.blk 5 rfl rfl⟩⟩ (by kernel_rfl)
  ·go_simp
   refine hK.out _ _ ⟨(HL.out.alloc 5 #[.int .i64 0, .slice none 0 0]).1, fun _ => trivial, fun _ => trivial⟩ (fun hHeld => ?_)
   clear hK K
   (try simp only [Act.put, List.setIfInBounds_toArray, List.set_cons_zero, List.set_cons_succ])
   have HL1 := hide (HL.out.alloc 5 #[.int .i64 0, .slice none 0 0])
   clear HL
   obtain ⟨X5, hX⟩ : ∃ X, X = Wd.heap.size := ⟨_, rfl⟩
   rw [← hX] at HL1 ⊢
   clear hX
   generalize Wd.alloc (.cells #[.int .i64 0, .slice none 0 0] 24) = W124 at HL1 hHeld ⊢
   have HL := hide HL1.out
   clear HL1
   refine wpTill_two 6 7 rfl rfl (by decide +kernel) (fun K hK => ?_) (fun K hK => ?_)
   ·go_simp
    refine hK.out _ _ ⟨(HL.out.alloc 3 #[.int .i64 0, .slice none 0 0]).1, fun _ => trivial, fun _ => trivial⟩ (fun hHeld => ?_)
    clear hK K
    (try simp only [Act.put, List.setIfInBounds_toArray, List.set_cons_zero, List.set_cons_succ])
    have HL1 := hide (HL.out.alloc 3 #[.int .i64 0, .slice none 0 0])
    clear HL
    obtain ⟨X3, hX⟩ : ∃ X, X = W124.heap.size := ⟨_, rfl⟩
    rw [← hX] at HL1 ⊢
    clear hX
    generalize W124.alloc (.cells #[.int .i64 0, .slice none 0 0] 24) = W125 at HL1 hHeld ⊢
    have HL := hide HL1.out
    clear HL1
    refine wpTill_one 7 rfl (by decide +kernel) (fun K hK => ?_)
    go_simp
    refine hK.out _ _ ⟨(HL.out.alloc 4 #[.int .i64 0, .slice none 0 0]).1, fun _ => trivial, fun _ => trivial⟩ (fun hHeld => ?_)
    clear hK K
    (try simp only [Act.put, List.setIfInBounds_toArray, List.set_cons_zero, List.set_cons_succ])
    have HL1 := hide (HL.out.alloc 4 #[.int .i64 0, .slice none 0 0])
    clear HL
    obtain ⟨X4, hX⟩ : ∃ X, X = W125.heap.size := ⟨_, rfl⟩
    rw [← hX] at HL1 ⊢
    clear hX
    generalize W125.alloc (.cells #[.int .i64 0, .slice none 0 0] 24) = W126 at HL1 hHeld ⊢
    have HL := hide HL1.out
    clear HL1
    refine wpTill_one 9 rfl (by decide +kernel) (fun K hK => ?_)
    obtain ⟨q0, q1, qf0, qf1⟩ := (HL.out.blk 3 (X := X3) rfl rfl).two
    go_simp
    refine hK.out _ _ ⟨(HL.out.put 3 X3 rfl rfl (.int .i64 xd) (.slice xA xt.length xc)).1, fun _ => trivial, fun _ => trivial⟩ (fun hHeld => ?_)
    clear hK K q0 q1 qf0 qf1
    (try simp only [Act.put, List.setIfInBounds_toArray, List.set_cons_zero, List.set_cons_succ])
    have HL1 := hide (HL.out.put 3 X3 rfl rfl (.int .i64 xd) (.slice xA xt.length xc))
    clear HL
    generalize (W126.setCell ⟨X3, 0, none⟩ (.int .i64 xd)).setCell ⟨X3, 1, none⟩ (.slice xA xt.length xc) = W127 at HL1 hHeld ⊢
    have HL := hide HL1.out
    clear HL1
    refine wpTill_one 10 rfl (by decide +kernel) (fun K hK => ?_)
    obtain ⟨q0, q1, qf0, qf1⟩ := (HL.out.blk 4 (X := X4) rfl rfl).two
    go_simp
    refine hK.out _ _ ⟨(HL.out.put 4 X4 rfl rfl (.int .i64 yd) (.slice yA yt.length yc)).1, fun _ => trivial, fun _ => trivial⟩ (fun hHeld => ?_)
    clear hK K q0 q1 qf0 qf1
    (try simp only [Act.put, List.setIfInBounds_toArray, List.set_cons_zero, List.set_cons_succ])
    have HL1 := hide (HL.out.put 4 X4 rfl rfl (.int .i64 yd) (.slice yA yt.length yc))
    clear HL
    generalize (W127.setCell ⟨X4, 0, none⟩ (.int .i64 yd)).setCell ⟨X4, 1, none⟩ (.slice yA yt.length yc) = W128 at HL1 hHeld ⊢
    have HL := hide HL1.out
    clear HL1
    refine wpTill_one 11 rfl (by decide +kernel) (fun K hK => ?_)
    obtain ⟨q0, q1, qf0, qf1⟩ := (HL.out.blk 5 (X := X5) rfl rfl).two
    go_simp
    refine hK.out _ _ ⟨(HL.out.put 5 X5 rfl rfl (.int .i64 zd) (.slice zA zt.length zc)).1, fun _ => trivial, fun _ => trivial⟩ (fun hHeld => ?_)
    clear hK K q0 q1 qf0 qf1
    (try simp only [Act.put, List.setIfInBounds_toArray, List.set_cons_zero, List.set_cons_succ])
    have HL1 := hide (HL.out.put 5 X5 rfl rfl (.int .i64 zd) (.slice zA zt.length zc))
    clear HL
    generalize (W128.setCell ⟨X5, 0, none⟩ (.int .i64 zd)).setCell ⟨X5, 1, none⟩ (.slice zA zt.length zc) = W129 at HL1 hHeld ⊢
    have HL := hide HL1.out
    clear HL1
    refine wpTill_done (by decide +kernel) ?_
    exact HJ.out _ _ ⟨X3, X4, X5, rfl, rfl, rfl, ⟨⟨⟨HL.out.keep (S := fun W => ((Below w.heap.size w W ∧ w.heap.size ≤ W.heap.size) ∧ Blk W X1 48 #[.int .i64 xd, .slice xA xt.length xc, .int .i64 yd, .slice yA yt.length yc, .int .i64 zd, .slice zA zt.length zc])) HS.out, HL.out.blk 3 rfl rfl⟩, HL.out.blk 4 rfl rfl⟩, HL.out.blk 5 rfl rfl⟩⟩ (by kernel_rfl)
   ·go_simp
    refine hK.out _ _ ⟨(HL.out.alloc 4 #[.int .i64 0, .slice none 0 0]).1, fun _ => trivial, fun _ => trivial⟩ (fun hHeld => ?_)
    clear hK K
    (try simp only [Act.put, List.setIfInBounds_toArray, List.set_cons_zero, List.set_cons_succ])
    have HL1 := hide (HL.out.alloc 4 #[.int .i64 0, .slice none 0 0])
    clear HL
    obtain ⟨X4, hX⟩ : ∃ X, X = W124.heap.size := ⟨_, rfl⟩
    rw [← hX] at HL1 ⊢
    clear hX
    generalize W124.alloc (.cells #[.int .i64 0, .slice none 0 0] 24) = W130 at HL1 hHeld ⊢
    have HL := hide HL1.out
    clear HL1
    refine wpTill_one 6 rfl (by decide +kernel) (fun K hK => ?_)
    go_simp
    refine hK.out _ _ ⟨(HL.out.alloc 3 #[.int .i64 0, .slice none 0 0]).1, fun _ => trivial, fun _ => trivial⟩ (fun hHeld => ?_)
    clear hK K
    (try simp only [Act.put, List.setIfInBounds_toArray, List.set_cons_zero, List.set_cons_succ])
    have HL1 := hide (HL.out.alloc 3 #[.int .i64 0, .slice none 0 0])
    clear HL
    obtain ⟨X3, hX⟩ : ∃ X, X = W130.heap.size := ⟨_, rfl⟩
    rw [← hX] at HL1 ⊢
    clear hX
    generalize W130.alloc (.cells #[.int .i64 0, .slice none 0 0] 24) = W131 at HL1 hHeld ⊢
    have HL := hide HL1.out
    clear HL1
    refine wpTill_one 9 rfl (by decide +kernel) (fun K hK => ?_)
    obtain ⟨q0, q1, qf0, qf1⟩ := (HL.out.blk 3 (X := X3) rfl rfl).two
    go_simp
    refine hK.out _ _ ⟨(HL.out.put 3 X3 rfl rfl (.int .i64 xd) (.slice xA xt.length xc)).1, fun _ => trivial, fun _ => trivial⟩ (fun hHeld => ?_)
    clear hK K q0 q1 qf0 qf1
    (try simp only [Act.put, List.setIfInBounds_toArray, List.set_cons_zero, List.set_cons_succ])
    have HL1 := hide (HL.out.put 3 X3 rfl rfl (.int .i64 xd) (.slice xA xt.length xc))
    clear HL
    generalize (W131.setCell ⟨X3, 0, none⟩ (.int .i64 xd)).setCell ⟨X3, 1, none⟩ (.slice xA xt.length xc) = W132 at HL1 hHeld ⊢
    have HL := hide HL1.out
    clear HL1
    refine wpTill_one 10 rfl (by decide +kernel) (fun K hK => ?_)
    obtain ⟨q0, q1, qf0, qf1⟩ := (HL.out.blk 4 (X := X4) rfl rfl).two
    go_simp
    refine hK.out _ _ ⟨(HL.out.put 4 X4 rfl rfl (.int .i64 yd) (.slice yA yt.length yc)).1, fun _ => trivial, fun _ => trivial⟩ (fun hHeld => ?_)
    clear hK K q0 q1 qf0 qf1
    (try simp only [Act.put, List.setIfInBounds_toArray, List.set_cons_zero, List.set_cons_succ])
    have HL1 := hide (HL.out.put 4 X4 rfl rfl (.int .i64 yd) (.slice yA yt.length yc))
    clear HL
    generalize (W132.setCell ⟨X4, 0, none⟩ (.int .i64 yd)).setCell ⟨X4, 1, none⟩ (.slice yA yt.length yc) = W133 at HL1 hHeld ⊢
    have HL := hide HL1.out
    clear HL1
    refine wpTill_one 11 rfl (by decide +kernel) (fun K hK => ?_)
    obtain ⟨q0, q1, qf0, qf1⟩ := (HL.out.blk 5 (X := X5) rfl rfl).two
    go_simp
    refine hK.out _ _ ⟨(HL.out.put 5 X5 rfl rfl (.int .i64 zd) (.slice zA zt.length zc)).1, fun _ => trivial, fun _ => trivial⟩ (fun hHeld => ?_)
    clear hK K q0 q1 qf0 qf1
    (try simp only [Act.put, List.setIfInBounds_toArray, List.set_cons_zero, List.set_cons_succ])
    have HL1 := hide (HL.out.put 5 X5 rfl rfl (.int .i64 zd) (.slice zA zt.length zc))
    clear HL
    generalize (W133.setCell ⟨X5, 0, none⟩ (.int .i64 zd)).setCell ⟨X5, 1, none⟩ (.slice zA zt.length zc) = W134 at HL1 hHeld ⊢
    have HL := hide HL1.out
    clear HL1
    refine wpTill_done (by decide +kernel) ?_
    exact HJ.out _ _ ⟨X3, X4, X5, rfl, rfl, rfl, ⟨⟨⟨HL.out.keep (S := fun W => ((Below w.heap.size w W ∧ w.heap.size ≤ W.heap.size) ∧ Blk W X1 48 #[.int .i64 xd, .slice xA xt.length xc, .int .i64 yd, .slice yA yt.length yc, .int .i64 zd, .slice zA zt.length zc])) HS.out, HL.out.blk 3 rfl rfl⟩, HL.out.blk 4 rfl rfl⟩, HL.out.blk 5 rfl rfl⟩⟩ (by kernel_rfl)
 obtain ⟨X3, X4, X5, hv1, hv2, hv3, hR⟩ := hR
 have HS1 := hide hR
 clear hR HS u0 u1 u2 u3 u4 u5 h1
 simp only [List.foldl_cons, List.foldl_nil, Act.put, List.setIfInBounds_toArray, List.set_cons_zero, List.set_cons_succ, hv1, hv2, hv3]
 clear hv1 hv2 hv3
 have HS := hide HS1.out
 clear HS1
 generalize W = W135 at *
 go_upto_region 4 with fail
 obtain ⟨a, at_, ca, hq⟩ : ∃ q1_ q2_ q3_, plusS xd xt yd yt 1 = (q1_, q2_, q3_) := ⟨_, _, _, rfl⟩
 have H_a := hide hq
 clear hq
 obtain ⟨u3, v3, _, _⟩ := (HS.out.1.1.2).two
 have h3 : X3 < W135.heap.size := (HS.out.1.1.2).lt
 have HN3 := hide trivial
 obtain ⟨u4, v4, _, _⟩ := (HS.out.1.2).two
 have h4 : X4 < W135.heap.size := (HS.out.1.2).lt
 have HN4 := hide trivial
 have HGd : Hid ((((((Below w.heap.size w W135.drew ∧ w.heap.size ≤ W135.drew.heap.size) ∧ Blk W135.drew X1 48 #[.int .i64 xd, .slice xA xt.length xc, .int .i64 yd, .slice yA yt.length yc, .int .i64 zd, .slice zA zt.length zc]) ∧ Blk W135.drew X3 24 #[.int .i64 xd, .slice xA xt.length xc]) ∧ Blk W135.drew X4 24 #[.int .i64 yd, .slice yA yt.length yc]) ∧ Blk W135.drew X5 24 #[.int .i64 zd, .slice zA zt.length zc]) ∧ (Below W135.heap.size W135 W135.drew ∧ W135.heap.size ≤ W135.drew.heap.size)) := hide ⟨Kept.keep (S := fun W => (((((Below w.heap.size w W ∧ w.heap.size ≤ W.heap.size) ∧ Blk W X1 48 #[.int .i64 xd, .slice xA xt.length xc, .int .i64 yd, .slice yA yt.length yc, .int .i64 zd, .slice zA zt.length zc]) ∧ Blk W X3 24 #[.int .i64 xd, .slice xA xt.length xc]) ∧ Blk W X4 24 #[.int .i64 yd, .slice yA yt.length yc]) ∧ Blk W X5 24 #[.int .i64 zd, .slice zA zt.length zc])) _ _ HS.out (Below.drew (Below.refl _ _)), Below.drew (Below.refl _ _), Nat.le_refl _⟩
 refine wp_region_flow 9 (fun W' => Below W135.heap.size W135 W') (fun _ v W' => MadeN W135.heap.size v W') [8] (fun W' => (((((Below w.heap.size w W' ∧ w.heap.size ≤ W'.heap.size) ∧ Blk W' X1 48 #[.int .i64 xd, .slice xA xt.length xc, .int .i64 yd, .slice yA yt.length yc, .int .i64 zd, .slice zA zt.length zc]) ∧ Blk W' X3 24 #[.int .i64 xd, .slice xA xt.length xc]) ∧ Blk W' X4 24 #[.int .i64 yd, .slice yA yt.length yc]) ∧ Blk W' X5 24 #[.int .i64 zd, .slice zA zt.length zc]) ∧ (Below W135.heap.size W135 W' ∧ W135.heap.size ≤ W'.heap.size)) (by kernel_rfl)
  (Floats.of (by decide +kernel) (fun c a d v w => by cases d <;> exact Iff.rfl) (by
   intro i hi a W' hF
   obtain rfl : i = 8 := by simpa using hi
   refine wpOp_step rfl (fun K' hK0 => ?_)
   have hK := hide hK0
   clear hK0
   go_simp
   exact hK.out _ _ ⟨_, rfl, ⟨_, rfl, hF.size, Blk.new _ _ _⟩, (Below.refl _ _).alloc (Nat.le_refl _) _⟩) (fun i v W W' ⟨X, h1, h2, h3⟩ hb => ⟨X, h1, h2, h3.below hb h3.lt⟩))
  (fun _ _ _ h => h) (by decide) HGd.out (fun W h => h.2.1) (fun HFL => ?_)
 refine Safe.take 0 (v := ?_) rfl rfl HFL (by decide +kernel) (fun W h => h.2.1) (by rfl) (fun W hF => ?_) ?_
 rotate_left 1
 focus (have hF := hF (by decide +kernel); have e1 := (hF.cell (p := ⟨X3, 0, none⟩) h3).trans u3; have e2 := (hF.cell (p := ⟨X3, 1, none⟩) h3).trans v3; clear hF; go_simp; first | done | with_reducible rfl)
 (try simp only [Act.put, List.setIfInBounds_toArray, List.set_cons_zero, List.set_cons_succ])
 refine Safe.take 2 (v := ?_) rfl rfl HFL (by decide +kernel) (fun W h => h.2.1) (by rfl) (fun W hF => ?_) ?_
 rotate_left 1
 focus (have hF := hF (by decide +kernel); have e1 := (hF.cell (p := ⟨X4, 0, none⟩) h4).trans u4; have e2 := (hF.cell (p := ⟨X4, 1, none⟩) h4).trans v4; clear hF; go_simp; first | done | with_reducible rfl)
 (try simp only [Act.put, List.setIfInBounds_toArray, List.set_cons_zero, List.set_cons_succ])
 refine Safe.on 1 (fun x : Sl => .agg #[.int .i64 (xd), .slice x.1 x.2.1 x.2.2]) (fun x W => OwnN 0 x (xt) W) rfl rfl HFL (by decide +kernel) (fun W h => h.2.1) (fun W hG K' hK => ?_) (fun x1 hF1 => ?_)
 focus
  have HC := hide (HOx.out W (hG.1.1.1.1.1.1) (hG.1.1.1.1.1.2))
  clear hG
  go_simp
  go_wp2_with (first
   | (go_at_call 14; refine HC.out.mono ?_; rintro e w6 ⟨A, n, c, rfl, ho, hb⟩
      have HO := hide (own_le ho (Nat.zero_le _)); have HBB := hide hb; clear ho hb))
  exact hK.out (A, n, c) _ HO.out HBB.out
 (try simp only [Act.put, List.setIfInBounds_toArray, List.set_cons_zero, List.set_cons_succ])
 refine Safe.on 3 (fun x : Sl => .agg #[.int .i64 (yd), .slice x.1 x.2.1 x.2.2]) (fun x W => OwnN 0 x (yt) W) rfl rfl HFL (by decide +kernel) hF1 (fun W hG K' hK => ?_) (fun x3 hF3 => ?_)
 focus
  have HC := hide (HOy.out W (hG.1.1.1.1.1.1.1) (hG.1.1.1.1.1.1.2))
  clear hG
  go_simp
  go_wp2_with (first
   | (go_at_call 14; refine HC.out.mono ?_; rintro e w6 ⟨A, n, c, rfl, ho, hb⟩
      have HO := hide (own_le ho (Nat.zero_le _)); have HBB := hide hb; clear ho hb))
  exact hK.out (A, n, c) _ HO.out HBB.out
 (try simp only [Act.put, List.setIfInBounds_toArray, List.set_cons_zero, List.set_cons_succ])
 refine Safe.on 4 (fun x : Sl => .tuple #[.agg #[.int .i64 (a), .slice x.1 x.2.1 x.2.2], .int .i64 (ca)]) (fun x W => OwnN 0 x (at_) W) rfl rfl HFL (by decide +kernel) hF3 (fun W hG K' hK => ?_) (fun x4 hF4 => ?_)
 focus
  have HC := hide (add_flat (xd) x1.1 x1.2.1 x1.2.2 (xt) (yd) x3.1 x3.2.1 x3.2.2 (yt)  W.heap.size W (terms_own (hG.1.2)) (terms_own (hG.2)) (Nat.le_refl _) )
  rw [H_a.out] at HC
  clear hG
  go_simp
  go_wp2_with (first
   | (go_at_call 26; refine HC.out.mono ?_; rintro e w6 ⟨A, n, c, rfl, ho, hb⟩
      have HO := hide (own_le ho (Nat.zero_le _)); clear ho
      have HBB := hide hb; clear hb))
  exact hK.out (A, n, c) _ HO.out HBB.out
 (try simp only [Act.put, List.setIfInBounds_toArray, List.set_cons_zero, List.set_cons_succ])
 refine Safe.take 5 (v := ?_) rfl rfl HFL (by decide +kernel) hF4 (by rfl) (fun W hF => ?_) ?_
 rotate_left 1
 focus (clear hF; go_simp; first | done | with_reducible rfl)
 (try simp only [Act.put, List.setIfInBounds_toArray, List.set_cons_zero, List.set_cons_succ])
 refine Safe.take 6 (v := ?_) rfl rfl HFL (by decide +kernel) hF4 (by rfl) (fun W hF => ?_) ?_
 rotate_left 1
 focus (clear hF; go_simp; first | done | with_reducible rfl)
 (try simp only [Act.put, List.setIfInBounds_toArray, List.set_cons_zero, List.set_cons_succ])
 refine Safe.take 7 (v := ?_) rfl rfl HFL (by decide +kernel) hF4 (by rfl) (fun W hF => ?_) ?_
 rotate_left 1
 focus (clear hF; go_simp; first | done | with_reducible rfl)
 (try simp only [Act.put, List.setIfInBounds_toArray, List.set_cons_zero, List.set_cons_succ])
 refine Safe.force (some 6) HFL (by decide +kernel) rfl hF4 (fun vf => ?_)
 (try simp only [Act.put, List.setIfInBounds_toArray, List.set_cons_zero, List.set_cons_succ])
 refine Safe.fin rfl (fun W h => hF4 W h.1) (fun W136 hG hHeld => ?_)
 obtain ⟨hG, X6, rfl, hX, hN⟩ := hG
 have HS1 := hide (Vr.made (S := fun W => (((((Below w.heap.size w W ∧ w.heap.size ≤ W.heap.size) ∧ Blk W X1 48 #[.int .i64 xd, .slice xA xt.length xc, .int .i64 yd, .slice yA yt.length yc, .int .i64 zd, .slice zA zt.length zc]) ∧ Blk W X3 24 #[.int .i64 xd, .slice xA xt.length xc]) ∧ Blk W X4 24 #[.int .i64 yd, .slice yA yt.length yc]) ∧ Blk W X5 24 #[.int .i64 zd, .slice zA zt.length zc])) (d := a) HS.out hG.1.1.1.2.1 hX hN hG.2)
 obtain ⟨q0, q1, qf0, qf1⟩ := hN.two
 clear hG HFL hF1 hF3 hF4 hX hN HGd HS u3 v3 h3 HN3 u4 v4 h4 HN4
 refine wpTill_one 9 rfl (by decide +kernel) (fun K hK => ?_)
 go_simp
 refine hK.out _ _ ⟨trivial, fun h => absurd h (by decide +kernel), fun _ => trivial⟩ (fun hHeld => ?_)
 clear hK K
 (try simp only [Act.put, List.setIfInBounds_toArray, List.set_cons_zero, List.set_cons_succ])
 refine wpTill_take 10 rfl (by decide +kernel) (fun c a w h => by first | exact h | (cases h; done)) (by rfl) (v := ?_) ?_ hHeld (fun hHeld' => ?_)
 rotate_left 1
 focus (intro w' hSw; obtain ⟨hC, hF, hG⟩ := hSw; clear hG; clear hF; go_simp; first | done | with_reducible rfl)
 clear hHeld
 rename Till _ _ _ _ _ _ _ => hHeld
 (try simp only [Act.put, List.setIfInBounds_toArray, List.set_cons_zero, List.set_cons_succ])
 refine wpTill_done (by decide +kernel) ?_
 clear hHeld
 clear q0 q1 qf0 qf1
 generalize (W136.setCell ⟨X6, 0, none⟩ (.int .i64 (a))).setCell ⟨X6, 1, none⟩ (.slice x4.1 x4.2.1 x4.2.2) = W137 at *
 obtain ⟨A6, n6, c6⟩ := x4
 dsimp only at HS1
 have HS := hide HS1.out
 clear HS1
 have H_a2 := hide ((plus_comm yd xd yt xt).trans H_a.out)
 go_upto_region 5 with fail
 obtain ⟨u4, v4, _, _⟩ := (HS.out.1.1.2).two
 have h4 : X4 < W137.heap.size := (HS.out.1.1.2).lt
 have HN4 := hide trivial
 obtain ⟨u3, v3, _, _⟩ := (HS.out.1.1.1.2).two
 have h3 : X3 < W137.heap.size := (HS.out.1.1.1.2).lt
 have HN3 := hide trivial
 have HGd : Hid (((((((Below w.heap.size w W137.drew ∧ w.heap.size ≤ W137.drew.heap.size) ∧ Blk W137.drew X1 48 #[.int .i64 xd, .slice xA xt.length xc, .int .i64 yd, .slice yA yt.length yc, .int .i64 zd, .slice zA zt.length zc]) ∧ Blk W137.drew X3 24 #[.int .i64 xd, .slice xA xt.length xc]) ∧ Blk W137.drew X4 24 #[.int .i64 yd, .slice yA yt.length yc]) ∧ Blk W137.drew X5 24 #[.int .i64 zd, .slice zA zt.length zc]) ∧ Vr X6 (a) A6 n6 c6 (at_) W137.drew) ∧ (Below W137.heap.size W137 W137.drew ∧ W137.heap.size ≤ W137.drew.heap.size)) := hide ⟨Kept.keep (S := fun W => ((((((Below w.heap.size w W ∧ w.heap.size ≤ W.heap.size) ∧ Blk W X1 48 #[.int .i64 xd, .slice xA xt.length xc, .int .i64 yd, .slice yA yt.length yc, .int .i64 zd, .slice zA zt.length zc]) ∧ Blk W X3 24 #[.int .i64 xd, .slice xA xt.length xc]) ∧ Blk W X4 24 #[.int .i64 yd, .slice yA yt.length yc]) ∧ Blk W X5 24 #[.int .i64 zd, .slice zA zt.length zc]) ∧ Vr X6 (a) A6 n6 c6 (at_) W)) _ _ HS.out (Below.drew (Below.refl _ _)), Below.drew (Below.refl _ _), Nat.le_refl _⟩
 refine wp_region_flow 9 (fun W' => Below W137.heap.size W137 W') (fun _ v W' => MadeN W137.heap.size v W') [8] (fun W' => ((((((Below w.heap.size w W' ∧ w.heap.size ≤ W'.heap.size) ∧ Blk W' X1 48 #[.int .i64 xd, .slice xA xt.length xc, .int .i64 yd, .slice yA yt.length yc, .int .i64 zd, .slice zA zt.length zc]) ∧ Blk W' X3 24 #[.int .i64 xd, .slice xA xt.length xc]) ∧ Blk W' X4 24 #[.int .i64 yd, .slice yA yt.length yc]) ∧ Blk W' X5 24 #[.int .i64 zd, .slice zA zt.length zc]) ∧ Vr X6 (a) A6 n6 c6 (at_) W') ∧ (Below W137.heap.size W137 W' ∧ W137.heap.size ≤ W'.heap.size)) (by kernel_rfl)
  (Floats.of (by decide +kernel) (fun c a d v w => by cases d <;> exact Iff.rfl) (by
   intro i hi a W' hF
   obtain rfl : i = 8 := by simpa using hi
   refine wpOp_step rfl (fun K' hK0 => ?_)
   have hK := hide hK0
   clear hK0
   go_simp
   exact hK.out _ _ ⟨_, rfl, ⟨_, rfl, hF.size, Blk.new _ _ _⟩, (Below.refl _ _).alloc (Nat.le_refl _) _⟩) (fun i v W W' ⟨X, h1, h2, h3⟩ hb => ⟨X, h1, h2, h3.below hb h3.lt⟩))
  (fun _ _ _ h => h) (by decide) HGd.out (fun W h => h.2.1) (fun HFL => ?_)
 refine Safe.take 0 (v := ?_) rfl rfl HFL (by decide +kernel) (fun W h => h.2.1) (by rfl) (fun W hF => ?_) ?_
 rotate_left 1
 focus (have hF := hF (by decide +kernel); have e1 := (hF.cell (p := ⟨X4, 0, none⟩) h4).trans u4; have e2 := (hF.cell (p := ⟨X4, 1, none⟩) h4).trans v4; clear hF; go_simp; first | done | with_reducible rfl)
 (try simp only [Act.put, List.setIfInBounds_toArray, List.set_cons_zero, List.set_cons_succ])
 refine Safe.take 2 (v := ?_) rfl rfl HFL (by decide +kernel) (fun W h => h.2.1) (by rfl) (fun W hF => ?_) ?_
 rotate_left 1
 focus (have hF := hF (by decide +kernel); have e1 := (hF.cell (p := ⟨X3, 0, none⟩) h3).trans u3; have e2 := (hF.cell (p := ⟨X3, 1, none⟩) h3).trans v3; clear hF; go_simp; first | done | with_reducible rfl)
 (try simp only [Act.put, List.setIfInBounds_toArray, List.set_cons_zero, List.set_cons_succ])
 refine Safe.on 1 (fun x : Sl => .agg #[.int .i64 (yd), .slice x.1 x.2.1 x.2.2]) (fun x W => OwnN 0 x (yt) W) rfl rfl HFL (by decide +kernel) (fun W h => h.2.1) (fun W hG K' hK => ?_) (fun x1 hF1 => ?_)
 focus
  have HC := hide (HOy.out W (hG.1.1.1.1.1.1.1) (hG.1.1.1.1.1.1.2))
  clear hG
  go_simp
  go_wp2_with (first
   | (go_at_call 14; refine HC.out.mono ?_; rintro e w6 ⟨A, n, c, rfl, ho, hb⟩
      have HO := hide (own_le ho (Nat.zero_le _)); have HBB := hide hb; clear ho hb))
  exact hK.out (A, n, c) _ HO.out HBB.out
 (try simp only [Act.put, List.setIfInBounds_toArray, List.set_cons_zero, List.set_cons_succ])
 refine Safe.on 3 (fun x : Sl => .agg #[.int .i64 (xd), .slice x.1 x.2.1 x.2.2]) (fun x W => OwnN 0 x (xt) W) rfl rfl HFL (by decide +kernel) hF1 (fun W hG K' hK => ?_) (fun x3 hF3 => ?_)
 focus
  have HC := hide (HOx.out W (hG.1.1.1.1.1.1.1.1) (hG.1.1.1.1.1.1.1.2))
  clear hG
  go_simp
  go_wp2_with (first
   | (go_at_call 14; refine HC.out.mono ?_; rintro e w6 ⟨A, n, c, rfl, ho, hb⟩
      have HO := hide (own_le ho (Nat.zero_le _)); have HBB := hide hb; clear ho hb))
  exact hK.out (A, n, c) _ HO.out HBB.out
 (try simp only [Act.put, List.setIfInBounds_toArray, List.set_cons_zero, List.set_cons_succ])
 refine Safe.on 4 (fun x : Sl => .tuple #[.agg #[.int .i64 (a), .slice x.1 x.2.1 x.2.2], .int .i64 (ca)]) (fun x W => OwnN 0 x (at_) W) rfl rfl HFL (by decide +kernel) hF3 (fun W hG K' hK => ?_) (fun x4 hF4 => ?_)
 focus
  have HC := hide (add_flat (yd) x1.1 x1.2.1 x1.2.2 (yt) (xd) x3.1 x3.2.1 x3.2.2 (xt)  W.heap.size W (terms_own (hG.1.2)) (terms_own (hG.2)) (Nat.le_refl _) )
  rw [H_a2.out] at HC
  clear hG
  go_simp
  go_wp2_with (first
   | (go_at_call 26; refine HC.out.mono ?_; rintro e w6 ⟨A, n, c, rfl, ho, hb⟩
      have HO := hide (own_le ho (Nat.zero_le _)); clear ho
      have HBB := hide hb; clear hb))
  exact hK.out (A, n, c) _ HO.out HBB.out
 (try simp only [Act.put, List.setIfInBounds_toArray, List.set_cons_zero, List.set_cons_succ])
 refine Safe.take 5 (v := ?_) rfl rfl HFL (by decide +kernel) hF4 (by rfl) (fun W hF => ?_) ?_
 rotate_left 1
 focus (clear hF; go_simp; first | done | with_reducible rfl)
 (try simp only [Act.put, List.setIfInBounds_toArray, List.set_cons_zero, List.set_cons_succ])
 refine Safe.take 6 (v := ?_) rfl rfl HFL (by decide +kernel) hF4 (by rfl) (fun W hF => ?_) ?_
 rotate_left 1
 focus (clear hF; go_simp; first | done | with_reducible rfl)
 (try simp only [Act.put, List.setIfInBounds_toArray, List.set_cons_zero, List.set_cons_succ])
 refine Safe.take 7 (v := ?_) rfl rfl HFL (by decide +kernel) hF4 (by rfl) (fun W hF => ?_) ?_
 rotate_left 1
 focus (clear hF; go_simp; first | done | with_reducible rfl)
 (try simp only [Act.put, List.setIfInBounds_toArray, List.set_cons_zero, List.set_cons_succ])
 refine Safe.force (some 8) HFL (by decide +kernel) rfl hF4 (fun vf => ?_)
 (try simp only [Act.put, List.setIfInBounds_toArray, List.set_cons_zero, List.set_cons_succ])
 refine Safe.fin rfl (fun W h => hF4 W h.1) (fun W138 hG hHeld => ?_)
 obtain ⟨hG, X8, rfl, hX, hN⟩ := hG
 have HS1 := hide (Vr.made (S := fun W => ((((((Below w.heap.size w W ∧ w.heap.size ≤ W.heap.size) ∧ Blk W X1 48 #[.int .i64 xd, .slice xA xt.length xc, .int .i64 yd, .slice yA yt.length yc, .int .i64 zd, .slice zA zt.length zc]) ∧ Blk W X3 24 #[.int .i64 xd, .slice xA xt.length xc]) ∧ Blk W X4 24 #[.int .i64 yd, .slice yA yt.length yc]) ∧ Blk W X5 24 #[.int .i64 zd, .slice zA zt.length zc]) ∧ Vr X6 (a) A6 n6 c6 (at_) W)) (d := a) HS.out hG.1.1.1.2.1 hX hN hG.2)
 obtain ⟨q0, q1, qf0, qf1⟩ := hN.two
 clear hG HFL hF1 hF3 hF4 hX hN HGd HS u4 v4 h4 HN4 u3 v3 h3 HN3
 refine wpTill_one 9 rfl (by decide +kernel) (fun K hK => ?_)
 go_simp
 refine hK.out _ _ ⟨trivial, fun h => absurd h (by decide +kernel), fun _ => trivial⟩ (fun hHeld => ?_)
 clear hK K
 (try simp only [Act.put, List.setIfInBounds_toArray, List.set_cons_zero, List.set_cons_succ])
 refine wpTill_take 10 rfl (by decide +kernel) (fun c a w h => by first | exact h | (cases h; done)) (by rfl) (v := ?_) ?_ hHeld (fun hHeld' => ?_)
 rotate_left 1
 focus (intro w' hSw; obtain ⟨hC, hF, hG⟩ := hSw; clear hG; clear hF; go_simp; first | done | with_reducible rfl)
 clear hHeld
 rename Till _ _ _ _ _ _ _ => hHeld
 (try simp only [Act.put, List.setIfInBounds_toArray, List.set_cons_zero, List.set_cons_succ])
 refine wpTill_done (by decide +kernel) ?_
 clear hHeld
 clear q0 q1 qf0 qf1
 generalize (W138.setCell ⟨X8, 0, none⟩ (.int .i64 (a))).setCell ⟨X8, 1, none⟩ (.slice x4.1 x4.2.1 x4.2.2) = W139 at *
 obtain ⟨A8, n8, c8⟩ := x4
 dsimp only at HS1
 have HS := hide HS1.out
 clear HS1
 clear H_a2
 go_upto_region 6 with fail
 obtain ⟨g, gt_, cg, hq⟩ : ∃ q1_ q2_ q3_, mulS xd xt yd yt = (q1_, q2_, q3_) := ⟨_, _, _, rfl⟩
 have H_g := hide hq
 clear hq
 obtain ⟨u3, v3, _, _⟩ := (HS.out.1.1.1.1.2).two
 have h3 : X3 < W139.heap.size := (HS.out.1.1.1.1.2).lt
 have HN3 := hide trivial
 obtain ⟨u4, v4, _, _⟩ := (HS.out.1.1.1.2).two
 have h4 : X4 < W139.heap.size := (HS.out.1.1.1.2).lt
 have HN4 := hide trivial
 have HGd : Hid ((((((((Below w.heap.size w W139.drew ∧ w.heap.size ≤ W139.drew.heap.size) ∧ Blk W139.drew X1 48 #[.int .i64 xd, .slice xA xt.length xc, .int .i64 yd, .slice yA yt.length yc, .int .i64 zd, .slice zA zt.length zc]) ∧ Blk W139.drew X3 24 #[.int .i64 xd, .slice xA xt.length xc]) ∧ Blk W139.drew X4 24 #[.int .i64 yd, .slice yA yt.length yc]) ∧ Blk W139.drew X5 24 #[.int .i64 zd, .slice zA zt.length zc]) ∧ Vr X6 (a) A6 n6 c6 (at_) W139.drew) ∧ Vr X8 (a) A8 n8 c8 (at_) W139.drew) ∧ (Below W139.heap.size W139 W139.drew ∧ W139.heap.size ≤ W139.drew.heap.size)) := hide ⟨Kept.keep (S := fun W => (((((((Below w.heap.size w W ∧ w.heap.size ≤ W.heap.size) ∧ Blk W X1 48 #[.int .i64 xd, .slice xA xt.length xc, .int .i64 yd, .slice yA yt.length yc, .int .i64 zd, .slice zA zt.length zc]) ∧ Blk W X3 24 #[.int .i64 xd, .slice xA xt.length xc]) ∧ Blk W X4 24 #[.int .i64 yd, .slice yA yt.length yc]) ∧ Blk W X5 24 #[.int .i64 zd, .slice zA zt.length zc]) ∧ Vr X6 (a) A6 n6 c6 (at_) W) ∧ Vr X8 (a) A8 n8 c8 (at_) W)) _ _ HS.out (Below.drew (Below.refl _ _)), Below.drew (Below.refl _ _), Nat.le_refl _⟩
 refine wp_region_flow 9 (fun W' => Below W139.heap.size W139 W') (fun _ v W' => MadeN W139.heap.size v W') [8] (fun W' => (((((((Below w.heap.size w W' ∧ w.heap.size ≤ W'.heap.size) ∧ Blk W' X1 48 #[.int .i64 xd, .slice xA xt.length xc, .int .i64 yd, .slice yA yt.length yc, .int .i64 zd, .slice zA zt.length zc]) ∧ Blk W' X3 24 #[.int .i64 xd, .slice xA xt.length xc]) ∧ Blk W' X4 24 #[.int .i64 yd, .slice yA yt.length yc]) ∧ Blk W' X5 24 #[.int .i64 zd, .slice zA zt.length zc]) ∧ Vr X6 (a) A6 n6 c6 (at_) W') ∧ Vr X8 (a) A8 n8 c8 (at_) W') ∧ (Below W139.heap.size W139 W' ∧ W139.heap.size ≤ W'.heap.size)) (by kernel_rfl)
  (Floats.of (by decide +kernel) (fun c a d v w => by cases d <;> exact Iff.rfl) (by
   intro i hi a W' hF
   obtain rfl : i = 8 := by simpa using hi
   refine wpOp_step rfl (fun K' hK0 => ?_)
   have hK := hide hK0
   clear hK0
   go_simp
   exact hK.out _ _ ⟨_, rfl, ⟨_, rfl, hF.size, Blk.new _ _ _⟩, (Below.refl _ _).alloc (Nat.le_refl _) _⟩) (fun i v W W' ⟨X, h1, h2, h3⟩ hb => ⟨X, h1, h2, h3.below hb h3.lt⟩))
  (fun _ _ _ h => h) (by decide) HGd.out (fun W h => h.2.1) (fun HFL => ?_)
 refine Safe.take 0 (v := ?_) rfl rfl HFL (by decide +kernel) (fun W h => h.2.1) (by rfl) (fun W hF => ?_) ?_
 rotate_left 1
 focus (have hF := hF (by decide +kernel); have e1 := (hF.cell (p := ⟨X3, 0, none⟩) h3).trans u3; have e2 := (hF.cell (p := ⟨X3, 1, none⟩) h3).trans v3; clear hF; go_simp; first | done | with_reducible rfl)
 (try simp only [Act.put, List.setIfInBounds_toArray, List.set_cons_zero, List.set_cons_succ])
 refine Safe.take 2 (v := ?_) rfl rfl HFL (by decide +kernel) (fun W h => h.2.1) (by rfl) (fun W hF => ?_) ?_
 rotate_left 1
 focus (have hF := hF (by decide +kernel); have e1 := (hF.cell (p := ⟨X4, 0, none⟩) h4).trans u4; have e2 := (hF.cell (p := ⟨X4, 1, none⟩) h4).trans v4; clear hF; go_simp; first | done | with_reducible rfl)
 (try simp only [Act.put, List.setIfInBounds_toArray, List.set_cons_zero, List.set_cons_succ])
 refine Safe.on 1 (fun x : Sl => .agg #[.int .i64 (xd), .slice x.1 x.2.1 x.2.2]) (fun x W => OwnN 0 x (xt) W) rfl rfl HFL (by decide +kernel) (fun W h => h.2.1) (fun W hG K' hK => ?_) (fun x1 hF1 => ?_)
 focus
  have HC := hide (HOx.out W (hG.1.1.1.1.1.1.1.1) (hG.1.1.1.1.1.1.1.2))
  clear hG
  go_simp
  go_wp2_with (first
   | (go_at_call 14; refine HC.out.mono ?_; rintro e w6 ⟨A, n, c, rfl, ho, hb⟩
      have HO := hide (own_le ho (Nat.zero_le _)); have HBB := hide hb; clear ho hb))
  exact hK.out (A, n, c) _ HO.out HBB.out
 (try simp only [Act.put, List.setIfInBounds_toArray, List.set_cons_zero, List.set_cons_succ])
 refine Safe.on 3 (fun x : Sl => .agg #[.int .i64 (yd), .slice x.1 x.2.1 x.2.2]) (fun x W => OwnN 0 x (yt) W) rfl rfl HFL (by decide +kernel) hF1 (fun W hG K' hK => ?_) (fun x3 hF3 => ?_)
 focus
  have HC := hide (HOy.out W (hG.1.1.1.1.1.1.1.1.1) (hG.1.1.1.1.1.1.1.1.2))
  clear hG
  go_simp
  go_wp2_with (first
   | (go_at_call 14; refine HC.out.mono ?_; rintro e w6 ⟨A, n, c, rfl, ho, hb⟩
      have HO := hide (own_le ho (Nat.zero_le _)); have HBB := hide hb; clear ho hb))
  exact hK.out (A, n, c) _ HO.out HBB.out
 (try simp only [Act.put, List.setIfInBounds_toArray, List.set_cons_zero, List.set_cons_succ])
 refine Safe.on 4 (fun x : Sl => .tuple #[.agg #[.int .i64 (g), .slice x.1 x.2.1 x.2.2], .int .i64 (cg)]) (fun x W => OwnN 0 x (gt_) W) rfl rfl HFL (by decide +kernel) hF3 (fun W hG K' hK => ?_) (fun x4 hF4 => ?_)
 focus
  have HC := hide (mul_flat (xd) x1.1 x1.2.1 x1.2.2 (xt) (yd) x3.1 x3.2.1 x3.2.2 (yt)  W.heap.size W (terms_own (hG.1.2)) (terms_own (hG.2)) (Nat.le_refl _) )
  rw [H_g.out] at HC
  clear hG
  go_simp
  go_wp2_with (first
   | (go_at_call 19; refine HC.out.mono ?_; rintro e w6 ⟨A, n, c, rfl, ho, hb⟩
      have HO := hide (own_le ho (Nat.zero_le _)); clear ho
      have HBB := hide hb; clear hb))
  exact hK.out (A, n, c) _ HO.out HBB.out
 (try simp only [Act.put, List.setIfInBounds_toArray, List.set_cons_zero, List.set_cons_succ])
 refine Safe.take 5 (v := ?_) rfl rfl HFL (by decide +kernel) hF4 (by rfl) (fun W hF => ?_) ?_
 rotate_left 1
 focus (clear hF; go_simp; first | done | with_reducible rfl)
 (try simp only [Act.put, List.setIfInBounds_toArray, List.set_cons_zero, List.set_cons_succ])
 refine Safe.take 6 (v := ?_) rfl rfl HFL (by decide +kernel) hF4 (by rfl) (fun W hF => ?_) ?_
 rotate_left 1
 focus (clear hF; go_simp; first | done | with_reducible rfl)
 (try simp only [Act.put, List.setIfInBounds_toArray, List.set_cons_zero, List.set_cons_succ])
 refine Safe.take 7 (v := ?_) rfl rfl HFL (by decide +kernel) hF4 (by rfl) (fun W hF => ?_) ?_
 rotate_left 1
 focus (clear hF; go_simp; first | done | with_reducible rfl)
 (try simp only [Act.put, List.setIfInBounds_toArray, List.set_cons_zero, List.set_cons_succ])
 refine Safe.force (some 10) HFL (by decide +kernel) rfl hF4 (fun vf => ?_)
 (try simp only [Act.put, List.setIfInBounds_toArray, List.set_cons_zero, List.set_cons_succ])
 refine Safe.fin rfl (fun W h => hF4 W h.1) (fun W140 hG hHeld => ?_)
 obtain ⟨hG, X10, rfl, hX, hN⟩ := hG
 have HS1 := hide (Vr.made (S := fun W => (((((((Below w.heap.size w W ∧ w.heap.size ≤ W.heap.size) ∧ Blk W X1 48 #[.int .i64 xd, .slice xA xt.length xc, .int .i64 yd, .slice yA yt.length yc, .int .i64 zd, .slice zA zt.length zc]) ∧ Blk W X3 24 #[.int .i64 xd, .slice xA xt.length xc]) ∧ Blk W X4 24 #[.int .i64 yd, .slice yA yt.length yc]) ∧ Blk W X5 24 #[.int .i64 zd, .slice zA zt.length zc]) ∧ Vr X6 (a) A6 n6 c6 (at_) W) ∧ Vr X8 (a) A8 n8 c8 (at_) W)) (d := g) HS.out hG.1.1.1.2.1 hX hN hG.2)
 obtain ⟨q0, q1, qf0, qf1⟩ := hN.two
 clear hG HFL hF1 hF3 hF4 hX hN HGd HS u3 v3 h3 HN3 u4 v4 h4 HN4
 refine wpTill_one 9 rfl (by decide +kernel) (fun K hK => ?_)
 go_simp
 refine hK.out _ _ ⟨trivial, fun h => absurd h (by decide +kernel), fun _ => trivial⟩ (fun hHeld => ?_)
 clear hK K
 (try simp only [Act.put, List.setIfInBounds_toArray, List.set_cons_zero, List.set_cons_succ])
 refine wpTill_take 10 rfl (by decide +kernel) (fun c a w h => by first | exact h | (cases h; done)) (by rfl) (v := ?_) ?_ hHeld (fun hHeld' => ?_)
 rotate_left 1
 focus (intro w' hSw; obtain ⟨hC, hF, hG⟩ := hSw; clear hG; clear hF; go_simp; first | done | with_reducible rfl)
 clear hHeld
 rename Till _ _ _ _ _ _ _ => hHeld
 (try simp only [Act.put, List.setIfInBounds_toArray, List.set_cons_zero, List.set_cons_succ])
 refine wpTill_done (by decide +kernel) ?_
 clear hHeld
 clear q0 q1 qf0 qf1
 generalize (W140.setCell ⟨X10, 0, none⟩ (.int .i64 (g))).setCell ⟨X10, 1, none⟩ (.slice x4.1 x4.2.1 x4.2.2) = W141 at *
 obtain ⟨A10, n10, c10⟩ := x4
 dsimp only at HS1
 have HS := hide HS1.out
 clear HS1
 have H_g2 := hide ((mul_comm_ yd xd yt xt).trans H_g.out)
 go_upto_region 7 with fail
 obtain ⟨u4, v4, _, _⟩ := (HS.out.1.1.1.1.2).two
 have h4 : X4 < W141.heap.size := (HS.out.1.1.1.1.2).lt
 have HN4 := hide trivial
 obtain ⟨u3, v3, _, _⟩ := (HS.out.1.1.1.1.1.2).two
 have h3 : X3 < W141.heap.size := (HS.out.1.1.1.1.1.2).lt
 have HN3 := hide trivial
 have HGd : Hid (((((((((Below w.heap.size w W141.drew ∧ w.heap.size ≤ W141.drew.heap.size) ∧ Blk W141.drew X1 48 #[.int .i64 xd, .slice xA xt.length xc, .int .i64 yd, .slice yA yt.length yc, .int .i64 zd, .slice zA zt.length zc]) ∧ Blk W141.drew X3 24 #[.int .i64 xd, .slice xA xt.length xc]) ∧ Blk W141.drew X4 24 #[.int .i64 yd, .slice yA yt.length yc]) ∧ Blk W141.drew X5 24 #[.int .i64 zd, .slice zA zt.length zc]) ∧ Vr X6 (a) A6 n6 c6 (at_) W141.drew) ∧ Vr X8 (a) A8 n8 c8 (at_) W141.drew) ∧ Vr X10 (g) A10 n10 c10 (gt_) W141.drew) ∧ (Below W141.heap.size W141 W141.drew ∧ W141.heap.size ≤ W141.drew.heap.size)) := hide ⟨Kept.keep (S := fun W => ((((((((Below w.heap.size w W ∧ w.heap.size ≤ W.heap.size) ∧ Blk W X1 48 #[.int .i64 xd, .slice xA xt.length xc, .int .i64 yd, .slice yA yt.length yc, .int .i64 zd, .slice zA zt.length zc]) ∧ Blk W X3 24 #[.int .i64 xd, .slice xA xt.length xc]) ∧ Blk W X4 24 #[.int .i64 yd, .slice yA yt.length yc]) ∧ Blk W X5 24 #[.int .i64 zd, .slice zA zt.length zc]) ∧ Vr X6 (a) A6 n6 c6 (at_) W) ∧ Vr X8 (a) A8 n8 c8 (at_) W) ∧ Vr X10 (g) A10 n10 c10 (gt_) W)) _ _ HS.out (Below.drew (Below.refl _ _)), Below.drew (Below.refl _ _), Nat.le_refl _⟩
 refine wp_region_flow 9 (fun W' => Below W141.heap.size W141 W') (fun _ v W' => MadeN W141.heap.size v W') [8] (fun W' => ((((((((Below w.heap.size w W' ∧ w.heap.size ≤ W'.heap.size) ∧ Blk W' X1 48 #[.int .i64 xd, .slice xA xt.length xc, .int .i64 yd, .slice yA yt.length yc, .int .i64 zd, .slice zA zt.length zc]) ∧ Blk W' X3 24 #[.int .i64 xd, .slice xA xt.length xc]) ∧ Blk W' X4 24 #[.int .i64 yd, .slice yA yt.length yc]) ∧ Blk W' X5 24 #[.int .i64 zd, .slice zA zt.length zc]) ∧ Vr X6 (a) A6 n6 c6 (at_) W') ∧ Vr X8 (a) A8 n8 c8 (at_) W') ∧ Vr X10 (g) A10 n10 c10 (gt_) W') ∧ (Below W141.heap.size W141 W' ∧ W141.heap.size ≤ W'.heap.size)) (by kernel_rfl)
  (Floats.of (by decide +kernel) (fun c a d v w => by cases d <;> exact Iff.rfl) (by
   intro i hi a W' hF
   obtain rfl : i = 8 := by simpa using hi
   refine wpOp_step rfl (fun K' hK0 => ?_)
   have hK := hide hK0
   clear hK0
   go_simp
   exact hK.out _ _ ⟨_, rfl, ⟨_, rfl, hF.size, Blk.new _ _ _⟩, (Below.refl _ _).alloc (Nat.le_refl _) _⟩) (fun i v W W' ⟨X, h1, h2, h3⟩ hb => ⟨X, h1, h2, h3.below hb h3.lt⟩))
  (fun _ _ _ h => h) (by decide) HGd.out (fun W h => h.2.1) (fun HFL => ?_)
 refine Safe.take 0 (v := ?_) rfl rfl HFL (by decide +kernel) (fun W h => h.2.1) (by rfl) (fun W hF => ?_) ?_
 rotate_left 1
 focus (have hF := hF (by decide +kernel); have e1 := (hF.cell (p := ⟨X4, 0, none⟩) h4).trans u4; have e2 := (hF.cell (p := ⟨X4, 1, none⟩) h4).trans v4; clear hF; go_simp; first | done | with_reducible rfl)
 (try simp only [Act.put, List.setIfInBounds_toArray, List.set_cons_zero, List.set_cons_succ])
 refine Safe.take 2 (v := ?_) rfl rfl HFL (by decide +kernel) (fun W h => h.2.1) (by rfl) (fun W hF => ?_) ?_
 rotate_left 1
 focus (have hF := hF (by decide +kernel); have e1 := (hF.cell (p := ⟨X3, 0, none⟩) h3).trans u3; have e2 := (hF.cell (p := ⟨X3, 1, none⟩) h3).trans v3; clear hF; go_simp; first | done | with_reducible rfl)
 (try simp only [Act.put, List.setIfInBounds_toArray, List.set_cons_zero, List.set_cons_succ])
 refine Safe.on 1 (fun x : Sl => .agg #[.int .i64 (yd), .slice x.1 x.2.1 x.2.2]) (fun x W => OwnN 0 x (yt) W) rfl rfl HFL (by decide +kernel) (fun W h => h.2.1) (fun W hG K' hK => ?_) (fun x1 hF1 => ?_)
 focus
  have HC := hide (HOy.out W (hG.1.1.1.1.1.1.1.1.1) (hG.1.1.1.1.1.1.1.1.2))
  clear hG
  go_simp
  go_wp2_with (first
   | (go_at_call 14; refine HC.out.mono ?_; rintro e w6 ⟨A, n, c, rfl, ho, hb⟩
      have HO := hide (own_le ho (Nat.zero_le _)); have HBB := hide hb; clear ho hb))
  exact hK.out (A, n, c) _ HO.out HBB.out
 (try simp only [Act.put, List.setIfInBounds_toArray, List.set_cons_zero, List.set_cons_succ])
 refine Safe.on 3 (fun x : Sl => .agg #[.int .i64 (xd), .slice x.1 x.2.1 x.2.2]) (fun x W => OwnN 0 x (xt) W) rfl rfl HFL (by decide +kernel) hF1 (fun W hG K' hK => ?_) (fun x3 hF3 => ?_)
 focus
  have HC := hide (HOx.out W (hG.1.1.1.1.1.1.1.1.1.1) (hG.1.1.1.1.1.1.1.1.1.2))
  clear hG
  go_simp
  go_wp2_with (first
   | (go_at_call 14; refine HC.out.mono ?_; rintro e w6 ⟨A, n, c, rfl, ho, hb⟩
      have HO := hide (own_le ho (Nat.zero_le _)); have HBB := hide hb; clear ho hb))
  exact hK.out (A, n, c) _ HO.out HBB.out
 (try simp only [Act.put, List.setIfInBounds_toArray, List.set_cons_zero, List.set_cons_succ])
 refine Safe.on 4 (fun x : Sl => .tuple #[.agg #[.int .i64 (g), .slice x.1 x.2.1 x.2.2], .int .i64 (cg)]) (fun x W => OwnN 0 x (gt_) W) rfl rfl HFL (by decide +kernel) hF3 (fun W hG K' hK => ?_) (fun x4 hF4 => ?_)
 focus
  have HC := hide (mul_flat (yd) x1.1 x1.2.1 x1.2.2 (yt) (xd) x3.1 x3.2.1 x3.2.2 (xt)  W.heap.size W (terms_own (hG.1.2)) (terms_own (hG.2)) (Nat.le_refl _) )
  rw [H_g2.out] at HC
  clear hG
  go_simp
  go_wp2_with (first
   | (go_at_call 19; refine HC.out.mono ?_; rintro e w6 ⟨A, n, c, rfl, ho, hb⟩
      have HO := hide (own_le ho (Nat.zero_le _)); clear ho
      have HBB := hide hb; clear hb))
  exact hK.out (A, n, c) _ HO.out HBB.out
 (try simp only [Act.put, List.setIfInBounds_toArray, List.set_cons_zero, List.set_cons_succ])
 refine Safe.take 5 (v := ?_) rfl rfl HFL (by decide +kernel) hF4 (by rfl) (fun W hF => ?_) ?_
 rotate_left 1
 focus (clear hF; go_simp; first | done | with_reducible rfl)
 (try simp only [Act.put, List.setIfInBounds_toArray, List.set_cons_zero, List.set_cons_succ])
 refine Safe.take 6 (v := ?_) rfl rfl HFL (by decide +kernel) hF4 (by rfl) (fun W hF => ?_) ?_
 rotate_left 1
 focus (clear hF; go_simp; first | done | with_reducible rfl)
 (try simp only [Act.put, List.setIfInBounds_toArray, List.set_cons_zero, List.set_cons_succ])
 refine Safe.take 7 (v := ?_) rfl rfl HFL (by decide +kernel) hF4 (by rfl) (fun W hF => ?_) ?_
 rotate_left 1
 focus (clear hF; go_simp; first | done | with_reducible rfl)
 (try simp only [Act.put, List.setIfInBounds_toArray, List.set_cons_zero, List.set_cons_succ])
 refine Safe.force (some 12) HFL (by decide +kernel) rfl hF4 (fun vf => ?_)
 (try simp only [Act.put, List.setIfInBounds_toArray, List.set_cons_zero, List.set_cons_succ])
 refine Safe.fin rfl (fun W h => hF4 W h.1) (fun W142 hG hHeld => ?_)
 obtain ⟨hG, X12, rfl, hX, hN⟩ := hG
 have HS1 := hide (Vr.made (S := fun W => ((((((((Below w.heap.size w W ∧ w.heap.size ≤ W.heap.size) ∧ Blk W X1 48 #[.int .i64 xd, .slice xA xt.length xc, .int .i64 yd, .slice yA yt.length yc, .int .i64 zd, .slice zA zt.length zc]) ∧ Blk W X3 24 #[.int .i64 xd, .slice xA xt.length xc]) ∧ Blk W X4 24 #[.int .i64 yd, .slice yA yt.length yc]) ∧ Blk W X5 24 #[.int .i64 zd, .slice zA zt.length zc]) ∧ Vr X6 (a) A6 n6 c6 (at_) W) ∧ Vr X8 (a) A8 n8 c8 (at_) W) ∧ Vr X10 (g) A10 n10 c10 (gt_) W)) (d := g) HS.out hG.1.1.1.2.1 hX hN hG.2)
 obtain ⟨q0, q1, qf0, qf1⟩ := hN.two
 clear hG HFL hF1 hF3 hF4 hX hN HGd HS u4 v4 h4 HN4 u3 v3 h3 HN3
 refine wpTill_one 9 rfl (by decide +kernel) (fun K hK => ?_)
 go_simp
 refine hK.out _ _ ⟨trivial, fun h => absurd h (by decide +kernel), fun _ => trivial⟩ (fun hHeld => ?_)
 clear hK K
 (try simp only [Act.put, List.setIfInBounds_toArray, List.set_cons_zero, List.set_cons_succ])
 refine wpTill_take 10 rfl (by decide +kernel) (fun c a w h => by first | exact h | (cases h; done)) (by rfl) (v := ?_) ?_ hHeld (fun hHeld' => ?_)
 rotate_left 1
 focus (intro w' hSw; obtain ⟨hC, hF, hG⟩ := hSw; clear hG; clear hF; go_simp; first | done | with_reducible rfl)
 clear hHeld
 rename Till _ _ _ _ _ _ _ => hHeld
 (try simp only [Act.put, List.setIfInBounds_toArray, List.set_cons_zero, List.set_cons_succ])
 refine wpTill_done (by decide +kernel) ?_
 clear hHeld
 clear q0 q1 qf0 qf1
 generalize (W142.setCell ⟨X12, 0, none⟩ (.int .i64 (g))).setCell ⟨X12, 1, none⟩ (.slice x4.1 x4.2.1 x4.2.2) = W143 at *
 obtain ⟨A12, n12, c12⟩ := x4
 dsimp only at HS1
 have HS := hide HS1.out
 clear HS1
 clear H_g2
 go_upto_region 8 with fail
 obtain ⟨u6, v6, _, _⟩ := (HS.out.1.1.1.2.1).two
 obtain ⟨u8, v8, _, _⟩ := (HS.out.1.1.2.1).two
 obtain ⟨u10, v10, _, _⟩ := (HS.out.1.2.1).two
 obtain ⟨u12, v12, _, _⟩ := (HS.out.2.1).two
 go_upto_region 10 with (first
  | (go_at_call 18; refine (lawSelf_any (g) A10 n10 c10 A12 n12 c12 (gt_) w144.heap.size w144 (Rq.of (terms_own (HS_0.out.1.2.2))) (Rq.of (terms_own (HS_0.out.2.2))) (Nat.le_refl _)).mono ?_; rintro e w145 ⟨rfl, hb⟩
     have HS_1 := hide (Kept.keep (S := fun W => (((((((((Below w.heap.size w W ∧ w.heap.size ≤ W.heap.size) ∧ Blk W X1 48 #[.int .i64 xd, .slice xA xt.length xc, .int .i64 yd, .slice yA yt.length yc, .int .i64 zd, .slice zA zt.length zc]) ∧ Blk W X3 24 #[.int .i64 xd, .slice xA xt.length xc]) ∧ Blk W X4 24 #[.int .i64 yd, .slice yA yt.length yc]) ∧ Blk W X5 24 #[.int .i64 zd, .slice zA zt.length zc]) ∧ Vr X6 (a) A6 n6 c6 (at_) W) ∧ Vr X8 (a) A8 n8 c8 (at_) W) ∧ Vr X10 (g) A10 n10 c10 (gt_) W) ∧ Vr X12 (g) A12 n12 c12 (gt_) W)) _ _ HS_0.out hb)
     clear hb)
  | (go_at_call 18; refine (lawSelf_any (a) A6 n6 c6 A8 n8 c8 (at_) W143.heap.size W143 (Rq.of (terms_own (HS.out.1.1.1.2.2))) (Rq.of (terms_own (HS.out.1.1.2.2))) (Nat.le_refl _)).mono ?_; rintro e w144 ⟨rfl, hb⟩
     have HS_0 := hide (Kept.keep (S := fun W => (((((((((Below w.heap.size w W ∧ w.heap.size ≤ W.heap.size) ∧ Blk W X1 48 #[.int .i64 xd, .slice xA xt.length xc, .int .i64 yd, .slice yA yt.length yc, .int .i64 zd, .slice zA zt.length zc]) ∧ Blk W X3 24 #[.int .i64 xd, .slice xA xt.length xc]) ∧ Blk W X4 24 #[.int .i64 yd, .slice yA yt.length yc]) ∧ Blk W X5 24 #[.int .i64 zd, .slice zA zt.length zc]) ∧ Vr X6 (a) A6 n6 c6 (at_) W) ∧ Vr X8 (a) A8 n8 c8 (at_) W) ∧ Vr X10 (g) A10 n10 c10 (gt_) W) ∧ Vr X12 (g) A12 n12 c12 (gt_) W)) _ _ HS.out hb)
     clear u6 v6 u8 v8 u10 v10 u12 v12
     obtain ⟨u6, v6, _, _⟩ := (HS_0.out.1.1.1.2.1).two
     obtain ⟨u8, v8, _, _⟩ := (HS_0.out.1.1.2.1).two
     obtain ⟨u10, v10, _, _⟩ := (HS_0.out.1.2.1).two
     obtain ⟨u12, v12, _, _⟩ := (HS_0.out.2.1).two
     clear hb))
 clear u6 v6 u8 v8 u10 v10 u12 v12
 have HS0 := hide HS_1.out
 clear HS
 have HS := hide HS0.out
 clear HS0
 clear HS_0
 have HS1 : Hid (((((Below w.heap.size w w145 ∧ w.heap.size ≤ w145.heap.size) ∧ Blk w145 X3 24 #[.int .i64 xd, .slice xA xt.length xc]) ∧ Blk w145 X4 24 #[.int .i64 yd, .slice yA yt.length yc]) ∧ Blk w145 X5 24 #[.int .i64 zd, .slice zA zt.length zc])) := hide (And.intro (And.intro (And.intro (HS.out.1.1.1.1.1.1.1.1) (HS.out.1.1.1.1.1.1.2)) (HS.out.1.1.1.1.1.2)) (HS.out.1.1.1.1.2))
 clear HS
 have HS := hide HS1.out
 clear HS1
 obtain ⟨b1, bt1, cb1, hq⟩ : ∃ q1_ q2_ q3_, plusS a at_ zd zt 1 = (q1_, q2_, q3_) := ⟨_, _, _, rfl⟩
 have H_b1 := hide hq
 clear hq
 obtain ⟨ok1, hq⟩ : ∃ o, (decide (ca = 0) && decide (cb1 = 0)) = o := ⟨_, rfl⟩
 have H_ok1 := hide hq
 clear hq
 obtain ⟨u3, v3, _, _⟩ := (HS.out.1.1.2).two
 obtain ⟨u4, v4, _, _⟩ := (HS.out.1.2).two
 obtain ⟨u5, v5, _, _⟩ := (HS.out.2).two
 go_upto_region 11 with (first
  | (go_at_call 32; refine (twice_is 26 26 (fun a b c d => plusS a b c d 1) (fun a b c d => plusS a b c d 1) xd xA xt.length xc xt yd yA yt.length yc yt zd zA zt.length zc zt a at_ ca b1 bt1 cb1 ok1 w145 (Rq.more (HPx.out _ HS.out.1.1.1.1) HS.out.1.1.1.2) (Rq.more (HPy.out _ HS.out.1.1.1.1) HS.out.1.1.1.2) (Rq.more (HPz.out _ HS.out.1.1.1.1) HS.out.1.1.1.2) (fun args w => enters_of Tryz.func26 (by kernel_rfl) rfl args w) (fun args w => enters_of Tryz.func26 (by kernel_rfl) rfl args w) opAdd opAdd H_a.out H_b1.out hlx hly hlz H_ok1.out).mono ?_; rintro e w146 ⟨A14, n14, c14, rfl, ho, hb⟩
     have HS_0 := hide (Kept.keep (S := fun W => ((((Below w.heap.size w W ∧ w.heap.size ≤ W.heap.size) ∧ Blk W X3 24 #[.int .i64 xd, .slice xA xt.length xc]) ∧ Blk W X4 24 #[.int .i64 yd, .slice yA yt.length yc]) ∧ Blk W X5 24 #[.int .i64 zd, .slice zA zt.length zc])) _ _ HS.out hb)
     have HO := hide ho
     clear ho
     clear hb))
 clear u3 v3 u4 v4 u5 v5
 have hX14_ : w.heap.size ≤ w146.heap.size := HS_0.out.1.1.1.2
 have hne14_X3 : X3 ≠ w146.heap.size := Nat.ne_of_lt (HS_0.out.1.1.2).lt
 have hne14_X4 : X4 ≠ w146.heap.size := Nat.ne_of_lt (HS_0.out.1.2).lt
 have hne14_X5 : X5 ≠ w146.heap.size := Nat.ne_of_lt (HS_0.out.2).lt
 have HS3 := hide (And.intro (Kept.keep (S := fun W => ((((Below w.heap.size w W ∧ w.heap.size ≤ W.heap.size) ∧ Blk W X3 24 #[.int .i64 xd, .slice xA xt.length xc]) ∧ Blk W X4 24 #[.int .i64 yd, .slice yA yt.length yc]) ∧ Blk W X5 24 #[.int .i64 zd, .slice zA zt.length zc])) _ _ HS_0.out ((Below.refl _ _).alloc (Nat.le_refl _) (.cells #[.int .i64 (b1), .slice A14 n14 c14] 24))) (Vr.new (d := b1) HO.out))
 obtain ⟨X14, hX⟩ : ∃ X, X = w146.heap.size := ⟨_, rfl⟩
 rw [← hX] at HS3 hX14_ hne14_X3 hne14_X4 hne14_X5 ⊢
 clear hX HS_0 HO HS
 generalize w146.alloc (.cells #[.int .i64 (b1), .slice A14 n14 c14] 24) = W147 at *
 have HS := hide HS3.out
 clear HS3
 try clear HS_0
 obtain ⟨d1, dt1, cd1, hq⟩ : ∃ q1_ q2_ q3_, plusS yd yt zd zt 1 = (q1_, q2_, q3_) := ⟨_, _, _, rfl⟩
 have H_d1 := hide hq
 clear hq
 obtain ⟨e1, et1, ce1, hq⟩ : ∃ q1_ q2_ q3_, plusS d1 dt1 xd xt 1 = (q1_, q2_, q3_) := ⟨_, _, _, rfl⟩
 have H_e1 := hide hq
 clear hq
 obtain ⟨ok2, hq⟩ : ∃ o, (decide (cd1 = 0) && decide (ce1 = 0)) = o := ⟨_, rfl⟩
 have H_ok2 := hide hq
 clear hq
 obtain ⟨u3, v3, _, _⟩ := (HS.out.1.1.1.2).two
 obtain ⟨u4, v4, _, _⟩ := (HS.out.1.1.2).two
 obtain ⟨u5, v5, _, _⟩ := (HS.out.1.2).two
 go_upto_region 12 with (first
  | (go_at_call 32; refine (twice_is 26 26 (fun a b c d => plusS a b c d 1) (fun a b c d => plusS a b c d 1) yd yA yt.length yc yt zd zA zt.length zc zt xd xA xt.length xc xt d1 dt1 cd1 e1 et1 ce1 ok2 W147 (Rq.more (HPy.out _ HS.out.1.1.1.1.1) HS.out.1.1.1.1.2) (Rq.more (HPz.out _ HS.out.1.1.1.1.1) HS.out.1.1.1.1.2) (Rq.more (HPx.out _ HS.out.1.1.1.1.1) HS.out.1.1.1.1.2) (fun args w => enters_of Tryz.func26 (by kernel_rfl) rfl args w) (fun args w => enters_of Tryz.func26 (by kernel_rfl) rfl args w) opAdd opAdd H_d1.out H_e1.out hly hlz hlx H_ok2.out).mono ?_; rintro e w148 ⟨A16, n16, c16, rfl, ho, hb⟩
     have HS_0 := hide (Kept.keep (S := fun W => (((((Below w.heap.size w W ∧ w.heap.size ≤ W.heap.size) ∧ Blk W X3 24 #[.int .i64 xd, .slice xA xt.length xc]) ∧ Blk W X4 24 #[.int .i64 yd, .slice yA yt.length yc]) ∧ Blk W X5 24 #[.int .i64 zd, .slice zA zt.length zc]) ∧ Vr X14 (b1) A14 n14 c14 (bt1) W)) _ _ HS.out hb)
     have HO := hide ho
     clear ho
     clear hb))
 clear u3 v3 u4 v4 u5 v5
 have hX16_ : w.heap.size ≤ w148.heap.size := HS_0.out.1.1.1.1.2
 have hne16_X3 : X3 ≠ w148.heap.size := Nat.ne_of_lt (HS_0.out.1.1.1.2).lt
 have hne16_X4 : X4 ≠ w148.heap.size := Nat.ne_of_lt (HS_0.out.1.1.2).lt
 have hne16_X5 : X5 ≠ w148.heap.size := Nat.ne_of_lt (HS_0.out.1.2).lt
 have hne16_X14 : X14 ≠ w148.heap.size := Nat.ne_of_lt (HS_0.out.2.1).lt
 have HS3 := hide (And.intro (Kept.keep (S := fun W => (((((Below w.heap.size w W ∧ w.heap.size ≤ W.heap.size) ∧ Blk W X3 24 #[.int .i64 xd, .slice xA xt.length xc]) ∧ Blk W X4 24 #[.int .i64 yd, .slice yA yt.length yc]) ∧ Blk W X5 24 #[.int .i64 zd, .slice zA zt.length zc]) ∧ Vr X14 (b1) A14 n14 c14 (bt1) W)) _ _ HS_0.out ((Below.refl _ _).alloc (Nat.le_refl _) (.cells #[.int .i64 (e1), .slice A16 n16 c16] 24))) (Vr.new (d := e1) HO.out))
 obtain ⟨X16, hX⟩ : ∃ X, X = w148.heap.size := ⟨_, rfl⟩
 rw [← hX] at HS3 hX16_ hne16_X3 hne16_X4 hne16_X5 hne16_X14 ⊢
 clear hX HS_0 HO HS
 generalize w148.alloc (.cells #[.int .i64 (e1), .slice A16 n16 c16] 24) = W149 at *
 have HS := hide HS3.out
 clear HS3
 try clear HS_0
 rename (∀ (a : Act) (w : World), Code.wp _ _ _ a w → (_ : Act → World → Prop) a w) => hK0
 have HK0 := And.intro trivial hK0
 clear hK0
 rename (∀ (a : Act) (w : World), Code.wp _ _ _ a w → (_ : Act → World → Prop) a w) => hK1
 refine join_at [101, 102, 103, 104, 105, 106, 107, 108, 109, 110] (fun W => ((((((Below w.heap.size w W ∧ w.heap.size ≤ W.heap.size) ∧ Blk W X3 24 #[.int .i64 xd, .slice xA xt.length xc]) ∧ Blk W X4 24 #[.int .i64 yd, .slice yA yt.length yc]) ∧ Blk W X5 24 #[.int .i64 zd, .slice zA zt.length zc]) ∧ Vr X14 (b1) A14 n14 c14 (bt1) W) ∧ Vr X16 (e1) A16 n16 c16 (et1) W)) hK1 (fun v W hR => ?_) (fun HJ => ?_)
 rotate_left 1
 focus
  have hK0 := HK0.2
  clear HK0 hK1
  cases hk1 : ok1
  ·clear H_ok1 H_ok2
   subst hk1
   go_wp2
   exact HJ.out _ _ HS.out (by kernel_rfl)
  cases hk2 : ok2
  ·clear H_ok1 H_ok2
   subst hk1 hk2
   go_wp2
   exact HJ.out _ _ HS.out (by kernel_rfl)
  have g1 := H_ok1.out
  have g2 := H_ok2.out
  rw [hk1, Bool.and_eq_true, decide_eq_true_eq, decide_eq_true_eq] at g1
  rw [hk2, Bool.and_eq_true, decide_eq_true_eq, decide_eq_true_eq] at g2
  obtain ⟨rfl, rfl⟩ := g1
  obtain ⟨rfl, rfl⟩ := g2
  obtain ⟨rfl, rfl⟩ := field_add hx hy hz H_a.out H_b1.out H_d1.out H_e1.out
  clear H_ok1 H_ok2
  subst hk1 hk2
  obtain ⟨u14, v14, _, _⟩ := (HS.out.1.2.1).two
  obtain ⟨u16, v16, _, _⟩ := (HS.out.2.1).two
  go_wp2_with (first
   | (go_at_call 18; refine (lawSelf_any _ A14 n14 c14 A16 n16 c16 _ W149.heap.size W149 (Rq.of (terms_own (HS.out.1.2.2))) (Rq.of (terms_own (HS.out.2.2))) (Nat.le_refl _)).mono ?_; rintro e w150 ⟨rfl, hb⟩
      have HS_0 := hide (Kept.keep (S := fun W => ((((((Below w.heap.size w W ∧ w.heap.size ≤ W.heap.size) ∧ Blk W X3 24 #[.int .i64 xd, .slice xA xt.length xc]) ∧ Blk W X4 24 #[.int .i64 yd, .slice yA yt.length yc]) ∧ Blk W X5 24 #[.int .i64 zd, .slice zA zt.length zc]) ∧ Vr X14 (b1) A14 n14 c14 (bt1) W) ∧ Vr X16 (b1) A16 n16 c16 (bt1) W)) _ _ HS.out hb)
      clear hb))
  all_goals
   exact HJ.out _ _ HS_0.out (by kernel_rfl)
 have HS1 := hide hR
 clear HK0 hK1 hR HS H_b1 H_d1 H_e1 H_ok1 H_ok2
 have HS := hide HS1.out
 clear HS1
 simp only [List.foldl_cons, List.foldl_nil, Act.put, List.setIfInBounds_toArray, List.set_cons_zero, List.set_cons_succ]
 generalize W = W150 at *
 go_upto_region 14 with fail
 obtain ⟨b2, bt2, cb2, hq⟩ : ∃ q1_ q2_ q3_, mulS g gt_ zd zt = (q1_, q2_, q3_) := ⟨_, _, _, rfl⟩
 have H_b2 := hide hq
 clear hq
 obtain ⟨ok3, hq⟩ : ∃ o, (decide (cg = 0) && decide (cb2 = 0)) = o := ⟨_, rfl⟩
 have H_ok3 := hide hq
 clear hq
 obtain ⟨u3, v3, _, _⟩ := (HS.out.1.1.1.1.2).two
 obtain ⟨u4, v4, _, _⟩ := (HS.out.1.1.1.2).two
 obtain ⟨u5, v5, _, _⟩ := (HS.out.1.1.2).two
 obtain ⟨q0, q1, qf0, qf1⟩ := (HS.out.1.2.1).two
 go_upto_region 15 with (first
  | (go_at_call 32; refine (twice_is 19 19 mulS mulS xd xA xt.length xc xt yd yA yt.length yc yt zd zA zt.length zc zt g gt_ cg b2 bt2 cb2 ok3 W150 (Rq.more (HPx.out _ HS.out.1.1.1.1.1.1) HS.out.1.1.1.1.1.2) (Rq.more (HPy.out _ HS.out.1.1.1.1.1.1) HS.out.1.1.1.1.1.2) (Rq.more (HPz.out _ HS.out.1.1.1.1.1.1) HS.out.1.1.1.1.1.2) (fun args w => enters_of Tryz.func19 (by kernel_rfl) rfl args w) (fun args w => enters_of Tryz.func19 (by kernel_rfl) rfl args w) opMul opMul H_g.out H_b2.out hlx hly hlz H_ok3.out).mono ?_; rintro e w151 ⟨A9, n9, c9, rfl, ho, hb⟩
     have HS_0 := hide (Kept.keep (S := fun W => ((((((Below w.heap.size w W ∧ w.heap.size ≤ W.heap.size) ∧ Blk W X3 24 #[.int .i64 xd, .slice xA xt.length xc]) ∧ Blk W X4 24 #[.int .i64 yd, .slice yA yt.length yc]) ∧ Blk W X5 24 #[.int .i64 zd, .slice zA zt.length zc]) ∧ Vr X14 (b1) A14 n14 c14 (bt1) W) ∧ Vr X16 (e1) A16 n16 c16 (et1) W)) _ _ HS.out hb)
     have HO := hide ho
     clear ho q0 q1 qf0 qf1
     obtain ⟨q0, q1, qf0, qf1⟩ := (HS_0.out.1.2.1).two
     clear hb))
 clear u3 v3 u4 v4 u5 v5
 clear q0 q1 qf0 qf1
 have HS1 : Hid (((((((Below w.heap.size w ((w151.setCell ⟨X14, 0, none⟩ (.int .i64 b2)).setCell ⟨X14, 1, none⟩ (.slice A9 n9 c9)) ∧ w.heap.size ≤ ((w151.setCell ⟨X14, 0, none⟩ (.int .i64 b2)).setCell ⟨X14, 1, none⟩ (.slice A9 n9 c9)).heap.size) ∧ Blk ((w151.setCell ⟨X14, 0, none⟩ (.int .i64 b2)).setCell ⟨X14, 1, none⟩ (.slice A9 n9 c9)) X3 24 #[.int .i64 xd, .slice xA xt.length xc]) ∧ Blk ((w151.setCell ⟨X14, 0, none⟩ (.int .i64 b2)).setCell ⟨X14, 1, none⟩ (.slice A9 n9 c9)) X4 24 #[.int .i64 yd, .slice yA yt.length yc]) ∧ Blk ((w151.setCell ⟨X14, 0, none⟩ (.int .i64 b2)).setCell ⟨X14, 1, none⟩ (.slice A9 n9 c9)) X5 24 #[.int .i64 zd, .slice zA zt.length zc]) ∧ Vr X14 (b2) A9 n9 c9 (bt2) ((w151.setCell ⟨X14, 0, none⟩ (.int .i64 b2)).setCell ⟨X14, 1, none⟩ (.slice A9 n9 c9))) ∧ Vr X16 (e1) A16 n16 c16 (et1) ((w151.setCell ⟨X14, 0, none⟩ (.int .i64 b2)).setCell ⟨X14, 1, none⟩ (.slice A9 n9 c9)))) := hide (And.intro (And.intro (And.intro (And.intro (And.intro (frame_over HS_0.out.1.1.1.1.1 hX14_ (.int .i64 b2) (.slice A9 n9 c9)) (Blk.over HS_0.out.1.1.1.1.2 hne14_X3 (.int .i64 b2) (.slice A9 n9 c9))) (Blk.over HS_0.out.1.1.1.2 hne14_X4 (.int .i64 b2) (.slice A9 n9 c9))) (Blk.over HS_0.out.1.1.2 hne14_X5 (.int .i64 b2) (.slice A9 n9 c9))) (Vr.put (HS_0.out.1.2.1) HO.out)) (Vr.over HS_0.out.2 (HS_0.out.1.2.1) hne16_X14.symm (.int .i64 b2) (.slice A9 n9 c9)))
 clear HS HS_0 HO
 generalize (w151.setCell ⟨X14, 0, none⟩ (.int .i64 b2)).setCell ⟨X14, 1, none⟩ (.slice A9 n9 c9) = W152 at *
 obtain ⟨A14_15, hA⟩ : ∃ x, x = A9 := ⟨_, rfl⟩
 obtain ⟨n14_15, hn⟩ : ∃ x, x = n9 := ⟨_, rfl⟩
 obtain ⟨c14_15, hc⟩ : ∃ x, x = c9 := ⟨_, rfl⟩
 rw [← hA, ← hn, ← hc] at HS1
 have HS := hide HS1.out
 clear HS1
 subst hA hn hc
 obtain ⟨d2, dt2, cd2, hq⟩ : ∃ q1_ q2_ q3_, mulS yd yt zd zt = (q1_, q2_, q3_) := ⟨_, _, _, rfl⟩
 have H_d2 := hide hq
 clear hq
 obtain ⟨e2, et2, ce2, hq⟩ : ∃ q1_ q2_ q3_, mulS d2 dt2 xd xt = (q1_, q2_, q3_) := ⟨_, _, _, rfl⟩
 have H_e2 := hide hq
 clear hq
 obtain ⟨ok4, hq⟩ : ∃ o, (decide (cd2 = 0) && decide (ce2 = 0)) = o := ⟨_, rfl⟩
 have H_ok4 := hide hq
 clear hq
 obtain ⟨u3, v3, _, _⟩ := (HS.out.1.1.1.1.2).two
 obtain ⟨u4, v4, _, _⟩ := (HS.out.1.1.1.2).two
 obtain ⟨u5, v5, _, _⟩ := (HS.out.1.1.2).two
 obtain ⟨q0, q1, qf0, qf1⟩ := (HS.out.2.1).two
 go_upto_region 16 with (first
  | (go_at_call 32; refine (twice_is 19 19 mulS mulS yd yA yt.length yc yt zd zA zt.length zc zt xd xA xt.length xc xt d2 dt2 cd2 e2 et2 ce2 ok4 W152 (Rq.more (HPy.out _ HS.out.1.1.1.1.1.1) HS.out.1.1.1.1.1.2) (Rq.more (HPz.out _ HS.out.1.1.1.1.1.1) HS.out.1.1.1.1.1.2) (Rq.more (HPx.out _ HS.out.1.1.1.1.1.1) HS.out.1.1.1.1.1.2) (fun args w => enters_of Tryz.func19 (by kernel_rfl) rfl args w) (fun args w => enters_of Tryz.func19 (by kernel_rfl) rfl args w) opMul opMul H_d2.out H_e2.out hly hlz hlx H_ok4.out).mono ?_; rintro e w153 ⟨A9, n9, c9, rfl, ho, hb⟩
     have HS_0 := hide (Kept.keep (S := fun W => ((((((Below w.heap.size w W ∧ w.heap.size ≤ W.heap.size) ∧ Blk W X3 24 #[.int .i64 xd, .slice xA xt.length xc]) ∧ Blk W X4 24 #[.int .i64 yd, .slice yA yt.length yc]) ∧ Blk W X5 24 #[.int .i64 zd, .slice zA zt.length zc]) ∧ Vr X14 (b2) A14_15 n14_15 c14_15 (bt2) W) ∧ Vr X16 (e1) A16 n16 c16 (et1) W)) _ _ HS.out hb)
     have HO := hide ho
     clear ho q0 q1 qf0 qf1
     obtain ⟨q0, q1, qf0, qf1⟩ := (HS_0.out.2.1).two
     clear hb))
 clear u3 v3 u4 v4 u5 v5
 clear q0 q1 qf0 qf1
 have HS1 : Hid (((((((Below w.heap.size w ((w153.setCell ⟨X16, 0, none⟩ (.int .i64 e2)).setCell ⟨X16, 1, none⟩ (.slice A9 n9 c9)) ∧ w.heap.size ≤ ((w153.setCell ⟨X16, 0, none⟩ (.int .i64 e2)).setCell ⟨X16, 1, none⟩ (.slice A9 n9 c9)).heap.size) ∧ Blk ((w153.setCell ⟨X16, 0, none⟩ (.int .i64 e2)).setCell ⟨X16, 1, none⟩ (.slice A9 n9 c9)) X3 24 #[.int .i64 xd, .slice xA xt.length xc]) ∧ Blk ((w153.setCell ⟨X16, 0, none⟩ (.int .i64 e2)).setCell ⟨X16, 1, none⟩ (.slice A9 n9 c9)) X4 24 #[.int .i64 yd, .slice yA yt.length yc]) ∧ Blk ((w153.setCell ⟨X16, 0, none⟩ (.int .i64 e2)).setCell ⟨X16, 1, none⟩ (.slice A9 n9 c9)) X5 24 #[.int .i64 zd, .slice zA zt.length zc]) ∧ Vr X14 (b2) A14_15 n14_15 c14_15 (bt2) ((w153.setCell ⟨X16, 0, none⟩ (.int .i64 e2)).setCell ⟨X16, 1, none⟩ (.slice A9 n9 c9))) ∧ Vr X16 (e2) A9 n9 c9 (et2) ((w153.setCell ⟨X16, 0, none⟩ (.int .i64 e2)).setCell ⟨X16, 1, none⟩ (.slice A9 n9 c9)))) := hide (And.intro (And.intro (And.intro (And.intro (And.intro (frame_over HS_0.out.1.1.1.1.1 hX16_ (.int .i64 e2) (.slice A9 n9 c9)) (Blk.over HS_0.out.1.1.1.1.2 hne16_X3 (.int .i64 e2) (.slice A9 n9 c9))) (Blk.over HS_0.out.1.1.1.2 hne16_X4 (.int .i64 e2) (.slice A9 n9 c9))) (Blk.over HS_0.out.1.1.2 hne16_X5 (.int .i64 e2) (.slice A9 n9 c9))) (Vr.over HS_0.out.1.2 (HS_0.out.2.1) hne16_X14 (.int .i64 e2) (.slice A9 n9 c9))) (Vr.put (HS_0.out.2.1) HO.out))
 clear HS HS_0 HO
 generalize (w153.setCell ⟨X16, 0, none⟩ (.int .i64 e2)).setCell ⟨X16, 1, none⟩ (.slice A9 n9 c9) = W154 at *
 obtain ⟨A16_16, hA⟩ : ∃ x, x = A9 := ⟨_, rfl⟩
 obtain ⟨n16_16, hn⟩ : ∃ x, x = n9 := ⟨_, rfl⟩
 obtain ⟨c16_16, hc⟩ : ∃ x, x = c9 := ⟨_, rfl⟩
 rw [← hA, ← hn, ← hc] at HS1
 have HS := hide HS1.out
 clear HS1
 subst hA hn hc
 rename (∀ (a : Act) (w : World), Code.wp _ _ _ a w → (_ : Act → World → Prop) a w) => hK0
 have HK0 := And.intro trivial hK0
 clear hK0
 rename (∀ (a : Act) (w : World), Code.wp _ _ _ a w → (_ : Act → World → Prop) a w) => hK1
 refine join_at [125, 126, 127, 128, 129, 130, 131, 132, 133, 134] (fun W => ((((((Below w.heap.size w W ∧ w.heap.size ≤ W.heap.size) ∧ Blk W X3 24 #[.int .i64 xd, .slice xA xt.length xc]) ∧ Blk W X4 24 #[.int .i64 yd, .slice yA yt.length yc]) ∧ Blk W X5 24 #[.int .i64 zd, .slice zA zt.length zc]) ∧ Vr X14 (b2) A14_15 n14_15 c14_15 (bt2) W) ∧ Vr X16 (e2) A16_16 n16_16 c16_16 (et2) W)) hK1 (fun v W hR => ?_) (fun HJ => ?_)
 rotate_left 1
 focus
  have hK0 := HK0.2
  clear HK0 hK1
  cases hk1 : ok3
  ·clear H_ok3 H_ok4
   subst hk1
   go_wp2
   exact HJ.out _ _ HS.out (by kernel_rfl)
  cases hk2 : ok4
  ·clear H_ok3 H_ok4
   subst hk1 hk2
   go_wp2
   exact HJ.out _ _ HS.out (by kernel_rfl)
  have g1 := H_ok3.out
  have g2 := H_ok4.out
  rw [hk1, Bool.and_eq_true, decide_eq_true_eq, decide_eq_true_eq] at g1
  rw [hk2, Bool.and_eq_true, decide_eq_true_eq, decide_eq_true_eq] at g2
  obtain ⟨rfl, rfl⟩ := g1
  obtain ⟨rfl, rfl⟩ := g2
  obtain ⟨rfl, rfl⟩ := field_mul hx hy hz H_g.out H_b2.out H_d2.out H_e2.out
  clear H_ok3 H_ok4
  subst hk1 hk2
  obtain ⟨u14, v14, _, _⟩ := (HS.out.1.2.1).two
  obtain ⟨u16, v16, _, _⟩ := (HS.out.2.1).two
  go_wp2_with (first
   | (go_at_call 18; refine (lawSelf_any _ A14_15 n14_15 c14_15 A16_16 n16_16 c16_16 _ W154.heap.size W154 (Rq.of (terms_own (HS.out.1.2.2))) (Rq.of (terms_own (HS.out.2.2))) (Nat.le_refl _)).mono ?_; rintro e w155 ⟨rfl, hb⟩
      have HS_0 := hide (Kept.keep (S := fun W => ((((((Below w.heap.size w W ∧ w.heap.size ≤ W.heap.size) ∧ Blk W X3 24 #[.int .i64 xd, .slice xA xt.length xc]) ∧ Blk W X4 24 #[.int .i64 yd, .slice yA yt.length yc]) ∧ Blk W X5 24 #[.int .i64 zd, .slice zA zt.length zc]) ∧ Vr X14 (b2) A14_15 n14_15 c14_15 (bt2) W) ∧ Vr X16 (b2) A16_16 n16_16 c16_16 (bt2) W)) _ _ HS.out hb)
      clear hb))
  all_goals
   exact HJ.out _ _ HS_0.out (by kernel_rfl)
 have HS1 := hide hR
 clear HK0 hK1 hR HS H_b2 H_d2 H_e2 H_ok3 H_ok4
 have HS := hide HS1.out
 clear HS1
 simp only [List.foldl_cons, List.foldl_nil, Act.put, List.setIfInBounds_toArray, List.set_cons_zero, List.set_cons_succ]
 generalize W = W155 at *
 have HS1 : Hid ((((((Below w.heap.size w W155 ∧ w.heap.size ≤ W155.heap.size) ∧ Blk W155 X3 24 #[.int .i64 xd, .slice xA xt.length xc]) ∧ Blk W155 X4 24 #[.int .i64 yd, .slice yA yt.length yc]) ∧ Blk W155 X5 24 #[.int .i64 zd, .slice zA zt.length zc]) ∧ Vr X14 (b2) A14_15 n14_15 c14_15 (bt2) W155)) := hide (And.intro (And.intro (And.intro (And.intro (HS.out.1.1.1.1.1) (HS.out.1.1.1.1.2)) (HS.out.1.1.1.2)) (HS.out.1.1.2)) (HS.out.1.2))
 clear HS
 have HS := hide HS1.out
 clear HS1
 go_upto_region 18 with fail
 obtain ⟨b3, bt3, cb3, hq⟩ : ∃ q1_ q2_ q3_, mulS a at_ zd zt = (q1_, q2_, q3_) := ⟨_, _, _, rfl⟩
 have H_b3 := hide hq
 clear hq
 obtain ⟨ok5, hq⟩ : ∃ o, (decide (ca = 0) && decide (cb3 = 0)) = o := ⟨_, rfl⟩
 have H_ok5 := hide hq
 clear hq
 obtain ⟨u3, v3, _, _⟩ := (HS.out.1.1.1.2).two
 obtain ⟨u4, v4, _, _⟩ := (HS.out.1.1.2).two
 obtain ⟨u5, v5, _, _⟩ := (HS.out.1.2).two
 obtain ⟨q0, q1, qf0, qf1⟩ := (HS.out.2.1).two
 go_upto_region 19 with (first
  | (go_at_call 32; refine (twice_is 26 19 (fun a b c d => plusS a b c d 1) mulS xd xA xt.length xc xt yd yA yt.length yc yt zd zA zt.length zc zt a at_ ca b3 bt3 cb3 ok5 W155 (Rq.more (HPx.out _ HS.out.1.1.1.1.1) HS.out.1.1.1.1.2) (Rq.more (HPy.out _ HS.out.1.1.1.1.1) HS.out.1.1.1.1.2) (Rq.more (HPz.out _ HS.out.1.1.1.1.1) HS.out.1.1.1.1.2) (fun args w => enters_of Tryz.func26 (by kernel_rfl) rfl args w) (fun args w => enters_of Tryz.func19 (by kernel_rfl) rfl args w) opAdd opMul H_a.out H_b3.out hlx hly hlz H_ok5.out).mono ?_; rintro e w156 ⟨A9, n9, c9, rfl, ho, hb⟩
     have HS_0 := hide (Kept.keep (S := fun W => (((((Below w.heap.size w W ∧ w.heap.size ≤ W.heap.size) ∧ Blk W X3 24 #[.int .i64 xd, .slice xA xt.length xc]) ∧ Blk W X4 24 #[.int .i64 yd, .slice yA yt.length yc]) ∧ Blk W X5 24 #[.int .i64 zd, .slice zA zt.length zc]) ∧ Vr X14 (b2) A14_15 n14_15 c14_15 (bt2) W)) _ _ HS.out hb)
     have HO := hide ho
     clear ho q0 q1 qf0 qf1
     obtain ⟨q0, q1, qf0, qf1⟩ := (HS_0.out.2.1).two
     clear hb))
 clear u3 v3 u4 v4 u5 v5
 clear q0 q1 qf0 qf1
 have HS1 : Hid ((((((Below w.heap.size w ((w156.setCell ⟨X14, 0, none⟩ (.int .i64 b3)).setCell ⟨X14, 1, none⟩ (.slice A9 n9 c9)) ∧ w.heap.size ≤ ((w156.setCell ⟨X14, 0, none⟩ (.int .i64 b3)).setCell ⟨X14, 1, none⟩ (.slice A9 n9 c9)).heap.size) ∧ Blk ((w156.setCell ⟨X14, 0, none⟩ (.int .i64 b3)).setCell ⟨X14, 1, none⟩ (.slice A9 n9 c9)) X3 24 #[.int .i64 xd, .slice xA xt.length xc]) ∧ Blk ((w156.setCell ⟨X14, 0, none⟩ (.int .i64 b3)).setCell ⟨X14, 1, none⟩ (.slice A9 n9 c9)) X4 24 #[.int .i64 yd, .slice yA yt.length yc]) ∧ Blk ((w156.setCell ⟨X14, 0, none⟩ (.int .i64 b3)).setCell ⟨X14, 1, none⟩ (.slice A9 n9 c9)) X5 24 #[.int .i64 zd, .slice zA zt.length zc]) ∧ Vr X14 (b3) A9 n9 c9 (bt3) ((w156.setCell ⟨X14, 0, none⟩ (.int .i64 b3)).setCell ⟨X14, 1, none⟩ (.slice A9 n9 c9)))) := hide (And.intro (And.intro (And.intro (And.intro (frame_over HS_0.out.1.1.1.1 hX14_ (.int .i64 b3) (.slice A9 n9 c9)) (Blk.over HS_0.out.1.1.1.2 hne14_X3 (.int .i64 b3) (.slice A9 n9 c9))) (Blk.over HS_0.out.1.1.2 hne14_X4 (.int .i64 b3) (.slice A9 n9 c9))) (Blk.over HS_0.out.1.2 hne14_X5 (.int .i64 b3) (.slice A9 n9 c9))) (Vr.put (HS_0.out.2.1) HO.out))
 clear HS HS_0 HO
 generalize (w156.setCell ⟨X14, 0, none⟩ (.int .i64 b3)).setCell ⟨X14, 1, none⟩ (.slice A9 n9 c9) = W157 at *
 obtain ⟨A14_19, hA⟩ : ∃ x, x = A9 := ⟨_, rfl⟩
 obtain ⟨n14_19, hn⟩ : ∃ x, x = n9 := ⟨_, rfl⟩
 obtain ⟨c14_19, hc⟩ : ∃ x, x = c9 := ⟨_, rfl⟩
 rw [← hA, ← hn, ← hc] at HS1
 have HS := hide HS1.out
 clear HS1
 subst hA hn hc
 obtain ⟨su, sut, scu, hq⟩ : ∃ q1_ q2_ q3_, mulS xd xt zd zt = (q1_, q2_, q3_) := ⟨_, _, _, rfl⟩
 have H_su := hide hq
 clear hq
 obtain ⟨u3, v3, _, _⟩ := (HS.out.1.1.1.2).two
 have h3 : X3 < W157.heap.size := (HS.out.1.1.1.2).lt
 have HN3 := hide trivial
 obtain ⟨u5, v5, _, _⟩ := (HS.out.1.2).two
 have h5 : X5 < W157.heap.size := (HS.out.1.2).lt
 have HN5 := hide trivial
 have HGd : Hid ((((((Below w.heap.size w W157.drew ∧ w.heap.size ≤ W157.drew.heap.size) ∧ Blk W157.drew X3 24 #[.int .i64 xd, .slice xA xt.length xc]) ∧ Blk W157.drew X4 24 #[.int .i64 yd, .slice yA yt.length yc]) ∧ Blk W157.drew X5 24 #[.int .i64 zd, .slice zA zt.length zc]) ∧ Vr X14 (b3) A14_19 n14_19 c14_19 (bt3) W157.drew) ∧ (Below W157.heap.size W157 W157.drew ∧ W157.heap.size ≤ W157.drew.heap.size)) := hide ⟨Kept.keep (S := fun W => (((((Below w.heap.size w W ∧ w.heap.size ≤ W.heap.size) ∧ Blk W X3 24 #[.int .i64 xd, .slice xA xt.length xc]) ∧ Blk W X4 24 #[.int .i64 yd, .slice yA yt.length yc]) ∧ Blk W X5 24 #[.int .i64 zd, .slice zA zt.length zc]) ∧ Vr X14 (b3) A14_19 n14_19 c14_19 (bt3) W)) _ _ HS.out (Below.drew (Below.refl _ _)), Below.drew (Below.refl _ _), Nat.le_refl _⟩
 refine wp_region_flow 9 (fun W' => Below W157.heap.size W157 W') (fun _ v W' => MadeN W157.heap.size v W') [8] (fun W' => (((((Below w.heap.size w W' ∧ w.heap.size ≤ W'.heap.size) ∧ Blk W' X3 24 #[.int .i64 xd, .slice xA xt.length xc]) ∧ Blk W' X4 24 #[.int .i64 yd, .slice yA yt.length yc]) ∧ Blk W' X5 24 #[.int .i64 zd, .slice zA zt.length zc]) ∧ Vr X14 (b3) A14_19 n14_19 c14_19 (bt3) W') ∧ (Below W157.heap.size W157 W' ∧ W157.heap.size ≤ W'.heap.size)) (by kernel_rfl)
  (Floats.of (by decide +kernel) (fun c a d v w => by cases d <;> exact Iff.rfl) (by
   intro i hi a W' hF
   obtain rfl : i = 8 := by simpa using hi
   refine wpOp_step rfl (fun K' hK0 => ?_)
   have hK := hide hK0
   clear hK0
   go_simp
   exact hK.out _ _ ⟨_, rfl, ⟨_, rfl, hF.size, Blk.new _ _ _⟩, (Below.refl _ _).alloc (Nat.le_refl _) _⟩) (fun i v W W' ⟨X, h1, h2, h3⟩ hb => ⟨X, h1, h2, h3.below hb h3.lt⟩))
  (fun _ _ _ h => h) (by decide) HGd.out (fun W h => h.2.1) (fun HFL => ?_)
 refine Safe.take 0 (v := ?_) rfl rfl HFL (by decide +kernel) (fun W h => h.2.1) (by rfl) (fun W hF => ?_) ?_
 rotate_left 1
 focus (have hF := hF (by decide +kernel); have e1 := (hF.cell (p := ⟨X3, 0, none⟩) h3).trans u3; have e2 := (hF.cell (p := ⟨X3, 1, none⟩) h3).trans v3; clear hF; go_simp; first | done | with_reducible rfl)
 (try simp only [Act.put, List.setIfInBounds_toArray, List.set_cons_zero, List.set_cons_succ])
 refine Safe.take 2 (v := ?_) rfl rfl HFL (by decide +kernel) (fun W h => h.2.1) (by rfl) (fun W hF => ?_) ?_
 rotate_left 1
 focus (have hF := hF (by decide +kernel); have e1 := (hF.cell (p := ⟨X5, 0, none⟩) h5).trans u5; have e2 := (hF.cell (p := ⟨X5, 1, none⟩) h5).trans v5; clear hF; go_simp; first | done | with_reducible rfl)
 (try simp only [Act.put, List.setIfInBounds_toArray, List.set_cons_zero, List.set_cons_succ])
 refine Safe.on 1 (fun x : Sl => .agg #[.int .i64 (xd), .slice x.1 x.2.1 x.2.2]) (fun x W => OwnN 0 x (xt) W) rfl rfl HFL (by decide +kernel) (fun W h => h.2.1) (fun W hG K' hK => ?_) (fun x1 hF1 => ?_)
 focus
  have HC := hide (HOx.out W (hG.1.1.1.1.1.1) (hG.1.1.1.1.1.2))
  clear hG
  go_simp
  go_wp2_with (first
   | (go_at_call 14; refine HC.out.mono ?_; rintro e w6 ⟨A, n, c, rfl, ho, hb⟩
      have HO := hide (own_le ho (Nat.zero_le _)); have HBB := hide hb; clear ho hb))
  exact hK.out (A, n, c) _ HO.out HBB.out
 (try simp only [Act.put, List.setIfInBounds_toArray, List.set_cons_zero, List.set_cons_succ])
 refine Safe.on 3 (fun x : Sl => .agg #[.int .i64 (zd), .slice x.1 x.2.1 x.2.2]) (fun x W => OwnN 0 x (zt) W) rfl rfl HFL (by decide +kernel) hF1 (fun W hG K' hK => ?_) (fun x3 hF3 => ?_)
 focus
  have HC := hide (HOz.out W (hG.1.1.1.1.1.1.1) (hG.1.1.1.1.1.1.2))
  clear hG
  go_simp
  go_wp2_with (first
   | (go_at_call 14; refine HC.out.mono ?_; rintro e w6 ⟨A, n, c, rfl, ho, hb⟩
      have HO := hide (own_le ho (Nat.zero_le _)); have HBB := hide hb; clear ho hb))
  exact hK.out (A, n, c) _ HO.out HBB.out
 (try simp only [Act.put, List.setIfInBounds_toArray, List.set_cons_zero, List.set_cons_succ])
 refine Safe.on 4 (fun x : Sl => .tuple #[.agg #[.int .i64 (su), .slice x.1 x.2.1 x.2.2], .int .i64 (scu)]) (fun x W => OwnN 0 x (sut) W) rfl rfl HFL (by decide +kernel) hF3 (fun W hG K' hK => ?_) (fun x4 hF4 => ?_)
 focus
  have HC := hide (mul_flat (xd) x1.1 x1.2.1 x1.2.2 (xt) (zd) x3.1 x3.2.1 x3.2.2 (zt)  W.heap.size W (terms_own (hG.1.2)) (terms_own (hG.2)) (Nat.le_refl _) )
  rw [H_su.out] at HC
  clear hG
  go_simp
  go_wp2_with (first
   | (go_at_call 19; refine HC.out.mono ?_; rintro e w6 ⟨A, n, c, rfl, ho, hb⟩
      have HO := hide (own_le ho (Nat.zero_le _)); clear ho
      have HBB := hide hb; clear hb))
  exact hK.out (A, n, c) _ HO.out HBB.out
 (try simp only [Act.put, List.setIfInBounds_toArray, List.set_cons_zero, List.set_cons_succ])
 refine Safe.take 5 (v := ?_) rfl rfl HFL (by decide +kernel) hF4 (by rfl) (fun W hF => ?_) ?_
 rotate_left 1
 focus (clear hF; go_simp; first | done | with_reducible rfl)
 (try simp only [Act.put, List.setIfInBounds_toArray, List.set_cons_zero, List.set_cons_succ])
 refine Safe.take 6 (v := ?_) rfl rfl HFL (by decide +kernel) hF4 (by rfl) (fun W hF => ?_) ?_
 rotate_left 1
 focus (clear hF; go_simp; first | done | with_reducible rfl)
 (try simp only [Act.put, List.setIfInBounds_toArray, List.set_cons_zero, List.set_cons_succ])
 refine Safe.take 7 (v := ?_) rfl rfl HFL (by decide +kernel) hF4 (by rfl) (fun W hF => ?_) ?_
 rotate_left 1
 focus (clear hF; go_simp; first | done | with_reducible rfl)
 (try simp only [Act.put, List.setIfInBounds_toArray, List.set_cons_zero, List.set_cons_succ])
 refine Safe.force (some 18) HFL (by decide +kernel) rfl hF4 (fun vf => ?_)
 (try simp only [Act.put, List.setIfInBounds_toArray, List.set_cons_zero, List.set_cons_succ])
 refine Safe.fin rfl (fun W h => hF4 W h.1) (fun W158 hG hHeld => ?_)
 obtain ⟨hG, X18, rfl, hX, hN⟩ := hG
 have HS1 := hide (Vr.made (S := fun W => (((((Below w.heap.size w W ∧ w.heap.size ≤ W.heap.size) ∧ Blk W X3 24 #[.int .i64 xd, .slice xA xt.length xc]) ∧ Blk W X4 24 #[.int .i64 yd, .slice yA yt.length yc]) ∧ Blk W X5 24 #[.int .i64 zd, .slice zA zt.length zc]) ∧ Vr X14 (b3) A14_19 n14_19 c14_19 (bt3) W)) (d := su) HS.out hG.1.1.1.2.1 hX hN hG.2)
 obtain ⟨q0, q1, qf0, qf1⟩ := hN.two
 clear hG HFL hF1 hF3 hF4 hX hN HGd HS u3 v3 h3 HN3 u5 v5 h5 HN5
 refine wpTill_one 9 rfl (by decide +kernel) (fun K hK => ?_)
 go_simp
 refine hK.out _ _ ⟨trivial, fun h => absurd h (by decide +kernel), fun _ => trivial⟩ (fun hHeld => ?_)
 clear hK K
 (try simp only [Act.put, List.setIfInBounds_toArray, List.set_cons_zero, List.set_cons_succ])
 refine wpTill_take 10 rfl (by decide +kernel) (fun c a w h => by first | exact h | (cases h; done)) (by rfl) (v := ?_) ?_ hHeld (fun hHeld' => ?_)
 rotate_left 1
 focus (intro w' hSw; obtain ⟨hC, hF, hG⟩ := hSw; clear hG; clear hF; go_simp; first | done | with_reducible rfl)
 clear hHeld
 rename Till _ _ _ _ _ _ _ => hHeld
 (try simp only [Act.put, List.setIfInBounds_toArray, List.set_cons_zero, List.set_cons_succ])
 refine wpTill_done (by decide +kernel) ?_
 clear hHeld
 clear q0 q1 qf0 qf1
 generalize (W158.setCell ⟨X18, 0, none⟩ (.int .i64 (su))).setCell ⟨X18, 1, none⟩ (.slice x4.1 x4.2.1 x4.2.2) = W159 at *
 obtain ⟨A18, n18, c18⟩ := x4
 dsimp only at HS1
 have HS := hide HS1.out
 clear HS1
 go_upto_region 20 with fail
 obtain ⟨sv, svt, scv, hq⟩ : ∃ q1_ q2_ q3_, mulS yd yt zd zt = (q1_, q2_, q3_) := ⟨_, _, _, rfl⟩
 have H_sv := hide hq
 clear hq
 obtain ⟨u4, v4, _, _⟩ := (HS.out.1.1.1.2).two
 have h4 : X4 < W159.heap.size := (HS.out.1.1.1.2).lt
 have HN4 := hide trivial
 obtain ⟨u5, v5, _, _⟩ := (HS.out.1.1.2).two
 have h5 : X5 < W159.heap.size := (HS.out.1.1.2).lt
 have HN5 := hide trivial
 have HGd : Hid (((((((Below w.heap.size w W159.drew ∧ w.heap.size ≤ W159.drew.heap.size) ∧ Blk W159.drew X3 24 #[.int .i64 xd, .slice xA xt.length xc]) ∧ Blk W159.drew X4 24 #[.int .i64 yd, .slice yA yt.length yc]) ∧ Blk W159.drew X5 24 #[.int .i64 zd, .slice zA zt.length zc]) ∧ Vr X14 (b3) A14_19 n14_19 c14_19 (bt3) W159.drew) ∧ Vr X18 (su) A18 n18 c18 (sut) W159.drew) ∧ (Below W159.heap.size W159 W159.drew ∧ W159.heap.size ≤ W159.drew.heap.size)) := hide ⟨Kept.keep (S := fun W => ((((((Below w.heap.size w W ∧ w.heap.size ≤ W.heap.size) ∧ Blk W X3 24 #[.int .i64 xd, .slice xA xt.length xc]) ∧ Blk W X4 24 #[.int .i64 yd, .slice yA yt.length yc]) ∧ Blk W X5 24 #[.int .i64 zd, .slice zA zt.length zc]) ∧ Vr X14 (b3) A14_19 n14_19 c14_19 (bt3) W) ∧ Vr X18 (su) A18 n18 c18 (sut) W)) _ _ HS.out (Below.drew (Below.refl _ _)), Below.drew (Below.refl _ _), Nat.le_refl _⟩
 refine wp_region_flow 9 (fun W' => Below W159.heap.size W159 W') (fun _ v W' => MadeN W159.heap.size v W') [8] (fun W' => ((((((Below w.heap.size w W' ∧ w.heap.size ≤ W'.heap.size) ∧ Blk W' X3 24 #[.int .i64 xd, .slice xA xt.length xc]) ∧ Blk W' X4 24 #[.int .i64 yd, .slice yA yt.length yc]) ∧ Blk W' X5 24 #[.int .i64 zd, .slice zA zt.length zc]) ∧ Vr X14 (b3) A14_19 n14_19 c14_19 (bt3) W') ∧ Vr X18 (su) A18 n18 c18 (sut) W') ∧ (Below W159.heap.size W159 W' ∧ W159.heap.size ≤ W'.heap.size)) (by kernel_rfl)
  (Floats.of (by decide +kernel) (fun c a d v w => by cases d <;> exact Iff.rfl) (by
   intro i hi a W' hF
   obtain rfl : i = 8 := by simpa using hi
   refine wpOp_step rfl (fun K' hK0 => ?_)
   have hK := hide hK0
   clear hK0
   go_simp
   exact hK.out _ _ ⟨_, rfl, ⟨_, rfl, hF.size, Blk.new _ _ _⟩, (Below.refl _ _).alloc (Nat.le_refl _) _⟩) (fun i v W W' ⟨X, h1, h2, h3⟩ hb => ⟨X, h1, h2, h3.below hb h3.lt⟩))
  (fun _ _ _ h => h) (by decide) HGd.out (fun W h => h.2.1) (fun HFL => ?_)
 refine Safe.take 0 (v := ?_) rfl rfl HFL (by decide +kernel) (fun W h => h.2.1) (by rfl) (fun W hF => ?_) ?_
 rotate_left 1
 focus (have hF := hF (by decide +kernel); have e1 := (hF.cell (p := ⟨X4, 0, none⟩) h4).trans u4; have e2 := (hF.cell (p := ⟨X4, 1, none⟩) h4).trans v4; clear hF; go_simp; first | done | with_reducible rfl)
 (try simp only [Act.put, List.setIfInBounds_toArray, List.set_cons_zero, List.set_cons_succ])
 refine Safe.take 2 (v := ?_) rfl rfl HFL (by decide +kernel) (fun W h => h.2.1) (by rfl) (fun W hF => ?_) ?_
 rotate_left 1
 focus (have hF := hF (by decide +kernel); have e1 := (hF.cell (p := ⟨X5, 0, none⟩) h5).trans u5; have e2 := (hF.cell (p := ⟨X5, 1, none⟩) h5).trans v5; clear hF; go_simp; first | done | with_reducible rfl)
 (try simp only [Act.put, List.setIfInBounds_toArray, List.set_cons_zero, List.set_cons_succ])
 refine Safe.on 1 (fun x : Sl => .agg #[.int .i64 (yd), .slice x.1 x.2.1 x.2.2]) (fun x W => OwnN 0 x (yt) W) rfl rfl HFL (by decide +kernel) (fun W h => h.2.1) (fun W hG K' hK => ?_) (fun x1 hF1 => ?_)
 focus
  have HC := hide (HOy.out W (hG.1.1.1.1.1.1.1) (hG.1.1.1.1.1.1.2))
  clear hG
  go_simp
  go_wp2_with (first
   | (go_at_call 14; refine HC.out.mono ?_; rintro e w6 ⟨A, n, c, rfl, ho, hb⟩
      have HO := hide (own_le ho (Nat.zero_le _)); have HBB := hide hb; clear ho hb))
  exact hK.out (A, n, c) _ HO.out HBB.out
 (try simp only [Act.put, List.setIfInBounds_toArray, List.set_cons_zero, List.set_cons_succ])
 refine Safe.on 3 (fun x : Sl => .agg #[.int .i64 (zd), .slice x.1 x.2.1 x.2.2]) (fun x W => OwnN 0 x (zt) W) rfl rfl HFL (by decide +kernel) hF1 (fun W hG K' hK => ?_) (fun x3 hF3 => ?_)
 focus
  have HC := hide (HOz.out W (hG.1.1.1.1.1.1.1.1) (hG.1.1.1.1.1.1.1.2))
  clear hG
  go_simp
  go_wp2_with (first
   | (go_at_call 14; refine HC.out.mono ?_; rintro e w6 ⟨A, n, c, rfl, ho, hb⟩
      have HO := hide (own_le ho (Nat.zero_le _)); have HBB := hide hb; clear ho hb))
  exact hK.out (A, n, c) _ HO.out HBB.out
 (try simp only [Act.put, List.setIfInBounds_toArray, List.set_cons_zero, List.set_cons_succ])
 refine Safe.on 4 (fun x : Sl => .tuple #[.agg #[.int .i64 (sv), .slice x.1 x.2.1 x.2.2], .int .i64 (scv)]) (fun x W => OwnN 0 x (svt) W) rfl rfl HFL (by decide +kernel) hF3 (fun W hG K' hK => ?_) (fun x4 hF4 => ?_)
 focus
  have HC := hide (mul_flat (yd) x1.1 x1.2.1 x1.2.2 (yt) (zd) x3.1 x3.2.1 x3.2.2 (zt)  W.heap.size W (terms_own (hG.1.2)) (terms_own (hG.2)) (Nat.le_refl _) )
  rw [H_sv.out] at HC
  clear hG
  go_simp
  go_wp2_with (first
   | (go_at_call 19; refine HC.out.mono ?_; rintro e w6 ⟨A, n, c, rfl, ho, hb⟩
      have HO := hide (own_le ho (Nat.zero_le _)); clear ho
      have HBB := hide hb; clear hb))
  exact hK.out (A, n, c) _ HO.out HBB.out
 (try simp only [Act.put, List.setIfInBounds_toArray, List.set_cons_zero, List.set_cons_succ])
 refine Safe.take 5 (v := ?_) rfl rfl HFL (by decide +kernel) hF4 (by rfl) (fun W hF => ?_) ?_
 rotate_left 1
 focus (clear hF; go_simp; first | done | with_reducible rfl)
 (try simp only [Act.put, List.setIfInBounds_toArray, List.set_cons_zero, List.set_cons_succ])
 refine Safe.take 6 (v := ?_) rfl rfl HFL (by decide +kernel) hF4 (by rfl) (fun W hF => ?_) ?_
 rotate_left 1
 focus (clear hF; go_simp; first | done | with_reducible rfl)
 (try simp only [Act.put, List.setIfInBounds_toArray, List.set_cons_zero, List.set_cons_succ])
 refine Safe.take 7 (v := ?_) rfl rfl HFL (by decide +kernel) hF4 (by rfl) (fun W hF => ?_) ?_
 rotate_left 1
 focus (clear hF; go_simp; first | done | with_reducible rfl)
 (try simp only [Act.put, List.setIfInBounds_toArray, List.set_cons_zero, List.set_cons_succ])
 refine Safe.force (some 19) HFL (by decide +kernel) rfl hF4 (fun vf => ?_)
 (try simp only [Act.put, List.setIfInBounds_toArray, List.set_cons_zero, List.set_cons_succ])
 refine Safe.fin rfl (fun W h => hF4 W h.1) (fun W160 hG hHeld => ?_)
 obtain ⟨hG, X19, rfl, hX, hN⟩ := hG
 have HS1 := hide (Vr.made (S := fun W => ((((((Below w.heap.size w W ∧ w.heap.size ≤ W.heap.size) ∧ Blk W X3 24 #[.int .i64 xd, .slice xA xt.length xc]) ∧ Blk W X4 24 #[.int .i64 yd, .slice yA yt.length yc]) ∧ Blk W X5 24 #[.int .i64 zd, .slice zA zt.length zc]) ∧ Vr X14 (b3) A14_19 n14_19 c14_19 (bt3) W) ∧ Vr X18 (su) A18 n18 c18 (sut) W)) (d := sv) HS.out hG.1.1.1.2.1 hX hN hG.2)
 obtain ⟨q0, q1, qf0, qf1⟩ := hN.two
 clear hG HFL hF1 hF3 hF4 hX hN HGd HS u4 v4 h4 HN4 u5 v5 h5 HN5
 refine wpTill_one 9 rfl (by decide +kernel) (fun K hK => ?_)
 go_simp
 refine hK.out _ _ ⟨trivial, fun h => absurd h (by decide +kernel), fun _ => trivial⟩ (fun hHeld => ?_)
 clear hK K
 (try simp only [Act.put, List.setIfInBounds_toArray, List.set_cons_zero, List.set_cons_succ])
 refine wpTill_take 10 rfl (by decide +kernel) (fun c a w h => by first | exact h | (cases h; done)) (by rfl) (v := ?_) ?_ hHeld (fun hHeld' => ?_)
 rotate_left 1
 focus (intro w' hSw; obtain ⟨hC, hF, hG⟩ := hSw; clear hG; clear hF; go_simp; first | done | with_reducible rfl)
 clear hHeld
 rename Till _ _ _ _ _ _ _ => hHeld
 (try simp only [Act.put, List.setIfInBounds_toArray, List.set_cons_zero, List.set_cons_succ])
 refine wpTill_done (by decide +kernel) ?_
 clear hHeld
 clear q0 q1 qf0 qf1
 generalize (W160.setCell ⟨X19, 0, none⟩ (.int .i64 (sv))).setCell ⟨X19, 1, none⟩ (.slice x4.1 x4.2.1 x4.2.2) = W161 at *
 obtain ⟨A19, n19, c19⟩ := x4
 dsimp only at HS1
 have HS := hide HS1.out
 clear HS1
 go_upto_region 21 with fail
 rename (∀ (a : Act) (w : World), Code.wp _ _ _ a w → (_ : Act → World → Prop) a w) => hK0
 have HK0 := And.intro trivial hK0
 clear hK0
 rename (∀ (a : Act) (w : World), Code.wp _ _ _ a w → (_ : Act → World → Prop) a w) => hK1
 refine join_at [158, 159, 160, 161, 162, 163, 164, 165, 166, 167, 168, 169, 170, 171, 172, 173, 174, 175, 176, 177, 178, 179, 180, 20, 21] (fun W => (((((((Below w.heap.size w W ∧ w.heap.size ≤ W.heap.size) ∧ Blk W X3 24 #[.int .i64 xd, .slice xA xt.length xc]) ∧ Blk W X4 24 #[.int .i64 yd, .slice yA yt.length yc]) ∧ Blk W X5 24 #[.int .i64 zd, .slice zA zt.length zc]) ∧ Vr X14 (b3) A14_19 n14_19 c14_19 (bt3) W) ∧ Vr X18 (su) A18 n18 c18 (sut) W) ∧ Vr X19 (sv) A19 n19 c19 (svt) W)) hK1 (fun v W hR => ?_) (fun HJ => ?_)
 rotate_left 1
 focus
  have hK0 := HK0.2
  clear HK0 hK1
  cases hk1 : ok5
  ·clear H_ok5
   subst hk1
   go_wp2
   exact HJ.out _ _ HS.out (by kernel_rfl)
  by_cases hu : scu = 0
  rotate_left 1
  ·clear H_ok5
   subst hk1
   have hu2 : (scu == 0) = false := by simpa using hu
   clear hu
   go_wp2
   exact HJ.out _ _ HS.out (by kernel_rfl)
  by_cases hv : scv = 0
  rotate_left 1
  ·clear H_ok5
   subst hk1
   subst hu
   have hv2 : (scv == 0) = false := by simpa using hv
   clear hv
   go_wp2
   exact HJ.out _ _ HS.out (by kernel_rfl)
  have g1 := H_ok5.out
  rw [hk1, Bool.and_eq_true, decide_eq_true_eq, decide_eq_true_eq] at g1
  obtain ⟨rfl, rfl⟩ := g1
  subst hu hv
  have HPS := hide (field_dist hx hy hz H_a.out H_b3.out H_su.out H_sv.out)
  clear H_ok5
  subst hk1
  obtain ⟨u18, v18, _, _⟩ := (HS.out.1.2.1).two
  obtain ⟨u19, v19, _, _⟩ := (HS.out.2.1).two
  go_upto_region 23 with (first
   | (go_at_call 26; refine ((HPS.out ▸ add_flat su A18 n18 c18 sut sv A19 n19 c19 svt W161.heap.size W161 (terms_own (HS.out.1.2.2)) (terms_own (HS.out.2.2)) (Nat.le_refl _))).mono ?_; rintro e w162 ⟨A20, n20, c20, rfl, ho, hb⟩
      have HS_0 := hide (Kept.keep (S := fun W => (((((((Below w.heap.size w W ∧ w.heap.size ≤ W.heap.size) ∧ Blk W X3 24 #[.int .i64 xd, .slice xA xt.length xc]) ∧ Blk W X4 24 #[.int .i64 yd, .slice yA yt.length yc]) ∧ Blk W X5 24 #[.int .i64 zd, .slice zA zt.length zc]) ∧ Vr X14 (b3) A14_19 n14_19 c14_19 (bt3) W) ∧ Vr X18 (su) A18 n18 c18 (sut) W) ∧ Vr X19 (sv) A19 n19 c19 (svt) W)) _ _ HS.out hb)
      have HO := hide (own_le ho (Nat.zero_le _))
      clear ho
      clear hb))
  clear u18 v18 u19 v19
  have HS3 := hide (And.intro (Kept.keep (S := fun W => (((((((Below w.heap.size w W ∧ w.heap.size ≤ W.heap.size) ∧ Blk W X3 24 #[.int .i64 xd, .slice xA xt.length xc]) ∧ Blk W X4 24 #[.int .i64 yd, .slice yA yt.length yc]) ∧ Blk W X5 24 #[.int .i64 zd, .slice zA zt.length zc]) ∧ Vr X14 (b3) A14_19 n14_19 c14_19 (bt3) W) ∧ Vr X18 (su) A18 n18 c18 (sut) W) ∧ Vr X19 (sv) A19 n19 c19 (svt) W)) _ _ HS_0.out ((Below.refl _ _).alloc (Nat.le_refl _) (.cells #[.int .i64 (b3), .slice A20 n20 c20] 24))) (Vr.new (d := b3) HO.out))
  obtain ⟨X20, hX⟩ : ∃ X, X = w162.heap.size := ⟨_, rfl⟩
  rw [← hX] at HS3  ⊢
  clear hX HS_0 HO HS
  generalize w162.alloc (.cells #[.int .i64 (b3), .slice A20 n20 c20] 24) = W163 at *
  have HS := hide HS3.out
  clear HS3
  try clear HS_0
  obtain ⟨u14, v14, _, _⟩ := (HS.out.1.1.1.2.1).two
  obtain ⟨u20, v20, _, _⟩ := (HS.out.2.1).two
  go_wp2_with (first
   | (go_at_call 18; refine (lawSelf_any (b3) A14_19 n14_19 c14_19 A20 n20 c20 (bt3) W163.heap.size W163 (Rq.of (terms_own (HS.out.1.1.1.2.2))) (Rq.of (terms_own (HS.out.2.2))) (Nat.le_refl _)).mono ?_; rintro e w164 ⟨rfl, hb⟩
      have HS_0 := hide (Kept.keep (S := fun W => ((((((((Below w.heap.size w W ∧ w.heap.size ≤ W.heap.size) ∧ Blk W X3 24 #[.int .i64 xd, .slice xA xt.length xc]) ∧ Blk W X4 24 #[.int .i64 yd, .slice yA yt.length yc]) ∧ Blk W X5 24 #[.int .i64 zd, .slice zA zt.length zc]) ∧ Vr X14 (b3) A14_19 n14_19 c14_19 (bt3) W) ∧ Vr X18 (su) A18 n18 c18 (sut) W) ∧ Vr X19 (sv) A19 n19 c19 (svt) W) ∧ Vr X20 (b3) A20 n20 c20 (bt3) W)) _ _ HS.out hb)
      clear hb))
  all_goals
   exact HJ.out _ _ HS_0.out.1 (by kernel_rfl)
 have HS1 := hide hR
 clear HK0 hK1 hR HS H_b3 H_su H_sv H_ok5
 have HS := hide HS1.out
 clear HS1
 simp only [List.foldl_cons, List.foldl_nil, Act.put, List.setIfInBounds_toArray, List.set_cons_zero, List.set_cons_succ]
 generalize W = W162 at *
 have HS1 : Hid ((((((Below w.heap.size w W162 ∧ w.heap.size ≤ W162.heap.size) ∧ Blk W162 X3 24 #[.int .i64 xd, .slice xA xt.length xc]) ∧ Blk W162 X4 24 #[.int .i64 yd, .slice yA yt.length yc]) ∧ Blk W162 X5 24 #[.int .i64 zd, .slice zA zt.length zc]) ∧ Vr X14 (b3) A14_19 n14_19 c14_19 (bt3) W162)) := hide (And.intro (And.intro (And.intro (And.intro (HS.out.1.1.1.1.1.1) (HS.out.1.1.1.1.1.2)) (HS.out.1.1.1.1.2)) (HS.out.1.1.1.2)) (HS.out.1.1.2))
 clear HS
 have HS := hide HS1.out
 clear HS1
 go_upto_region 25 with fail
 obtain ⟨b4, bt4, cb4, hq⟩ : ∃ q1_ q2_ q3_, plusS a at_ yd yt (-1) = (q1_, q2_, q3_) := ⟨_, _, _, rfl⟩
 have H_b4 := hide hq
 clear hq
 obtain ⟨ok6, hq⟩ : ∃ o, (decide (ca = 0) && decide (cb4 = 0)) = o := ⟨_, rfl⟩
 have H_ok6 := hide hq
 clear hq
 obtain ⟨u3, v3, _, _⟩ := (HS.out.1.1.1.2).two
 obtain ⟨u4, v4, _, _⟩ := (HS.out.1.1.2).two
 obtain ⟨q0, q1, qf0, qf1⟩ := (HS.out.2.1).two
 go_upto_region 26 with (first
  | (go_at_call 32; refine (twice_is 26 27 (fun a b c d => plusS a b c d 1) (fun a b c d => plusS a b c d (-1)) xd xA xt.length xc xt yd yA yt.length yc yt yd yA yt.length yc yt a at_ ca b4 bt4 cb4 ok6 W162 (Rq.more (HPx.out _ HS.out.1.1.1.1.1) HS.out.1.1.1.1.2) (Rq.more (HPy.out _ HS.out.1.1.1.1.1) HS.out.1.1.1.1.2) (Rq.more (HPy.out _ HS.out.1.1.1.1.1) HS.out.1.1.1.1.2) (fun args w => enters_of Tryz.func26 (by kernel_rfl) rfl args w) (fun args w => enters_of Tryz.func27 (by kernel_rfl) rfl args w) opAdd opSub H_a.out H_b4.out hlx hly hly H_ok6.out).mono ?_; rintro e w163 ⟨A9, n9, c9, rfl, ho, hb⟩
     have HS_0 := hide (Kept.keep (S := fun W => (((((Below w.heap.size w W ∧ w.heap.size ≤ W.heap.size) ∧ Blk W X3 24 #[.int .i64 xd, .slice xA xt.length xc]) ∧ Blk W X4 24 #[.int .i64 yd, .slice yA yt.length yc]) ∧ Blk W X5 24 #[.int .i64 zd, .slice zA zt.length zc]) ∧ Vr X14 (b3) A14_19 n14_19 c14_19 (bt3) W)) _ _ HS.out hb)
     have HO := hide ho
     clear ho q0 q1 qf0 qf1
     obtain ⟨q0, q1, qf0, qf1⟩ := (HS_0.out.2.1).two
     clear hb))
 clear u3 v3 u4 v4
 clear q0 q1 qf0 qf1
 have HS1 : Hid ((((((Below w.heap.size w ((w163.setCell ⟨X14, 0, none⟩ (.int .i64 b4)).setCell ⟨X14, 1, none⟩ (.slice A9 n9 c9)) ∧ w.heap.size ≤ ((w163.setCell ⟨X14, 0, none⟩ (.int .i64 b4)).setCell ⟨X14, 1, none⟩ (.slice A9 n9 c9)).heap.size) ∧ Blk ((w163.setCell ⟨X14, 0, none⟩ (.int .i64 b4)).setCell ⟨X14, 1, none⟩ (.slice A9 n9 c9)) X3 24 #[.int .i64 xd, .slice xA xt.length xc]) ∧ Blk ((w163.setCell ⟨X14, 0, none⟩ (.int .i64 b4)).setCell ⟨X14, 1, none⟩ (.slice A9 n9 c9)) X4 24 #[.int .i64 yd, .slice yA yt.length yc]) ∧ Blk ((w163.setCell ⟨X14, 0, none⟩ (.int .i64 b4)).setCell ⟨X14, 1, none⟩ (.slice A9 n9 c9)) X5 24 #[.int .i64 zd, .slice zA zt.length zc]) ∧ Vr X14 (b4) A9 n9 c9 (bt4) ((w163.setCell ⟨X14, 0, none⟩ (.int .i64 b4)).setCell ⟨X14, 1, none⟩ (.slice A9 n9 c9)))) := hide (And.intro (And.intro (And.intro (And.intro (frame_over HS_0.out.1.1.1.1 hX14_ (.int .i64 b4) (.slice A9 n9 c9)) (Blk.over HS_0.out.1.1.1.2 hne14_X3 (.int .i64 b4) (.slice A9 n9 c9))) (Blk.over HS_0.out.1.1.2 hne14_X4 (.int .i64 b4) (.slice A9 n9 c9))) (Blk.over HS_0.out.1.2 hne14_X5 (.int .i64 b4) (.slice A9 n9 c9))) (Vr.put (HS_0.out.2.1) HO.out))
 clear HS HS_0 HO
 generalize (w163.setCell ⟨X14, 0, none⟩ (.int .i64 b4)).setCell ⟨X14, 1, none⟩ (.slice A9 n9 c9) = W164 at *
 obtain ⟨A14_26, hA⟩ : ∃ x, x = A9 := ⟨_, rfl⟩
 obtain ⟨n14_26, hn⟩ : ∃ x, x = n9 := ⟨_, rfl⟩
 obtain ⟨c14_26, hc⟩ : ∃ x, x = c9 := ⟨_, rfl⟩
 rw [← hA, ← hn, ← hc] at HS1
 have HS := hide HS1.out
 clear HS1
 subst hA hn hc
 rename (∀ (a : Act) (w : World), Code.wp _ _ _ a w → (_ : Act → World → Prop) a w) => hK0
 have HK0 := And.intro trivial hK0
 clear hK0
 rename (∀ (a : Act) (w : World), Code.wp _ _ _ a w → (_ : Act → World → Prop) a w) => hK1
 refine join_at [188, 189, 190, 191, 192, 193, 194] (fun W => (((((Below w.heap.size w W ∧ w.heap.size ≤ W.heap.size) ∧ Blk W X3 24 #[.int .i64 xd, .slice xA xt.length xc]) ∧ Blk W X4 24 #[.int .i64 yd, .slice yA yt.length yc]) ∧ Blk W X5 24 #[.int .i64 zd, .slice zA zt.length zc]) ∧ Vr X14 (b4) A14_26 n14_26 c14_26 (bt4) W)) hK1 (fun v W hR => ?_) (fun HJ => ?_)
 rotate_left 1
 focus
  have hK0 := HK0.2
  clear HK0 hK1
  cases hk1 : ok6
  ·clear H_ok6
   subst hk1
   go_wp2
   exact HJ.out _ _ HS.out (by kernel_rfl)
  have g1 := H_ok6.out
  rw [hk1, Bool.and_eq_true, decide_eq_true_eq, decide_eq_true_eq] at g1
  obtain ⟨rfl, rfl⟩ := g1
  have e1 := (field_sub hx hy H_a.out H_b4.out).1.symm
  have e2 := (field_sub hx hy H_a.out H_b4.out).2.symm
  clear H_ok6
  subst hk1 e1 e2
  obtain ⟨u14, v14, _, _⟩ := (HS.out.2.1).two
  obtain ⟨u3, v3, _, _⟩ := (HS.out.1.1.1.2).two
  go_wp2_with (first
   | (go_at_call 18; refine (lawSelf_any (xd) A14_26 n14_26 c14_26 xA xt.length xc (xt) W164.heap.size W164 (Rq.of (terms_own (HS.out.2.2))) (Rq.more (HPx.out _ HS.out.1.1.1.1.1) HS.out.1.1.1.1.2) (Nat.le_refl _)).mono ?_; rintro e w165 ⟨rfl, hb⟩
      have HS_0 := hide (Kept.keep (S := fun W => (((((Below w.heap.size w W ∧ w.heap.size ≤ W.heap.size) ∧ Blk W X3 24 #[.int .i64 xd, .slice xA xt.length xc]) ∧ Blk W X4 24 #[.int .i64 yd, .slice yA yt.length yc]) ∧ Blk W X5 24 #[.int .i64 zd, .slice zA zt.length zc]) ∧ Vr X14 (xd) A14_26 n14_26 c14_26 (xt) W)) _ _ HS.out hb)
      clear hb))
  all_goals
   exact HJ.out _ _ HS_0.out (by kernel_rfl)
 have HS1 := hide hR
 clear HK0 hK1 hR HS H_b4 H_ok6
 have HS := hide HS1.out
 clear HS1
 simp only [List.foldl_cons, List.foldl_nil, Act.put, List.setIfInBounds_toArray, List.set_cons_zero, List.set_cons_succ]
 generalize W = W165 at *
 have HS1 : Hid (((((Below w.heap.size w W165 ∧ w.heap.size ≤ W165.heap.size) ∧ Blk W165 X3 24 #[.int .i64 xd, .slice xA xt.length xc]) ∧ Blk W165 X4 24 #[.int .i64 yd, .slice yA yt.length yc]) ∧ Blk W165 X5 24 #[.int .i64 zd, .slice zA zt.length zc])) := hide (And.intro (And.intro (And.intro (HS.out.1.1.1.1) (HS.out.1.1.1.2)) (HS.out.1.1.2)) (HS.out.1.2))
 clear HS
 have HS := hide HS1.out
 clear HS1
 go_upto_region 28 with fail
 obtain ⟨r_, rt_, cq, hq⟩ : ∃ q1_ q2_ q3_, quoS xd xt yd yt = (q1_, q2_, q3_) := ⟨_, _, _, rfl⟩
 have H_r_ := hide hq
 clear hq
 obtain ⟨u3, v3, _, _⟩ := (HS.out.1.1.2).two
 have h3 : X3 < W165.heap.size := (HS.out.1.1.2).lt
 have HN3 := hide trivial
 obtain ⟨u4, v4, _, _⟩ := (HS.out.1.2).two
 have h4 : X4 < W165.heap.size := (HS.out.1.2).lt
 have HN4 := hide trivial
 have HGd : Hid (((((Below w.heap.size w W165.drew ∧ w.heap.size ≤ W165.drew.heap.size) ∧ Blk W165.drew X3 24 #[.int .i64 xd, .slice xA xt.length xc]) ∧ Blk W165.drew X4 24 #[.int .i64 yd, .slice yA yt.length yc]) ∧ Blk W165.drew X5 24 #[.int .i64 zd, .slice zA zt.length zc]) ∧ (Below W165.heap.size W165 W165.drew ∧ W165.heap.size ≤ W165.drew.heap.size)) := hide ⟨Kept.keep (S := fun W => ((((Below w.heap.size w W ∧ w.heap.size ≤ W.heap.size) ∧ Blk W X3 24 #[.int .i64 xd, .slice xA xt.length xc]) ∧ Blk W X4 24 #[.int .i64 yd, .slice yA yt.length yc]) ∧ Blk W X5 24 #[.int .i64 zd, .slice zA zt.length zc])) _ _ HS.out (Below.drew (Below.refl _ _)), Below.drew (Below.refl _ _), Nat.le_refl _⟩
 refine wp_region_flow 9 (fun W' => Below W165.heap.size W165 W') (fun _ v W' => MadeN W165.heap.size v W') [8] (fun W' => ((((Below w.heap.size w W' ∧ w.heap.size ≤ W'.heap.size) ∧ Blk W' X3 24 #[.int .i64 xd, .slice xA xt.length xc]) ∧ Blk W' X4 24 #[.int .i64 yd, .slice yA yt.length yc]) ∧ Blk W' X5 24 #[.int .i64 zd, .slice zA zt.length zc]) ∧ (Below W165.heap.size W165 W' ∧ W165.heap.size ≤ W'.heap.size)) (by kernel_rfl)
  (Floats.of (by decide +kernel) (fun c a d v w => by cases d <;> exact Iff.rfl) (by
   intro i hi a W' hF
   obtain rfl : i = 8 := by simpa using hi
   refine wpOp_step rfl (fun K' hK0 => ?_)
   have hK := hide hK0
   clear hK0
   go_simp
   exact hK.out _ _ ⟨_, rfl, ⟨_, rfl, hF.size, Blk.new _ _ _⟩, (Below.refl _ _).alloc (Nat.le_refl _) _⟩) (fun i v W W' ⟨X, h1, h2, h3⟩ hb => ⟨X, h1, h2, h3.below hb h3.lt⟩))
  (fun _ _ _ h => h) (by decide) HGd.out (fun W h => h.2.1) (fun HFL => ?_)
 refine Safe.take 0 (v := ?_) rfl rfl HFL (by decide +kernel) (fun W h => h.2.1) (by rfl) (fun W hF => ?_) ?_
 rotate_left 1
 focus (have hF := hF (by decide +kernel); have e1 := (hF.cell (p := ⟨X3, 0, none⟩) h3).trans u3; have e2 := (hF.cell (p := ⟨X3, 1, none⟩) h3).trans v3; clear hF; go_simp; first | done | with_reducible rfl)
 (try simp only [Act.put, List.setIfInBounds_toArray, List.set_cons_zero, List.set_cons_succ])
 refine Safe.take 2 (v := ?_) rfl rfl HFL (by decide +kernel) (fun W h => h.2.1) (by rfl) (fun W hF => ?_) ?_
 rotate_left 1
 focus (have hF := hF (by decide +kernel); have e1 := (hF.cell (p := ⟨X4, 0, none⟩) h4).trans u4; have e2 := (hF.cell (p := ⟨X4, 1, none⟩) h4).trans v4; clear hF; go_simp; first | done | with_reducible rfl)
 (try simp only [Act.put, List.setIfInBounds_toArray, List.set_cons_zero, List.set_cons_succ])
 refine Safe.on 1 (fun x : Sl => .agg #[.int .i64 (xd), .slice x.1 x.2.1 x.2.2]) (fun x W => OwnN 0 x (xt) W) rfl rfl HFL (by decide +kernel) (fun W h => h.2.1) (fun W hG K' hK => ?_) (fun x1 hF1 => ?_)
 focus
  have HC := hide (HOx.out W (hG.1.1.1.1.1) (hG.1.1.1.1.2))
  clear hG
  go_simp
  go_wp2_with (first
   | (go_at_call 14; refine HC.out.mono ?_; rintro e w6 ⟨A, n, c, rfl, ho, hb⟩
      have HO := hide (own_le ho (Nat.zero_le _)); have HBB := hide hb; clear ho hb))
  exact hK.out (A, n, c) _ HO.out HBB.out
 (try simp only [Act.put, List.setIfInBounds_toArray, List.set_cons_zero, List.set_cons_succ])
 refine Safe.on 3 (fun x : Sl => .agg #[.int .i64 (yd), .slice x.1 x.2.1 x.2.2]) (fun x W => OwnN 0 x (yt) W) rfl rfl HFL (by decide +kernel) hF1 (fun W hG K' hK => ?_) (fun x3 hF3 => ?_)
 focus
  have HC := hide (HOy.out W (hG.1.1.1.1.1.1) (hG.1.1.1.1.1.2))
  clear hG
  go_simp
  go_wp2_with (first
   | (go_at_call 14; refine HC.out.mono ?_; rintro e w6 ⟨A, n, c, rfl, ho, hb⟩
      have HO := hide (own_le ho (Nat.zero_le _)); have HBB := hide hb; clear ho hb))
  exact hK.out (A, n, c) _ HO.out HBB.out
 (try simp only [Act.put, List.setIfInBounds_toArray, List.set_cons_zero, List.set_cons_succ])
 refine Safe.on 4 (fun x : Sl => .tuple #[.agg #[.int .i64 (r_), .slice x.1 x.2.1 x.2.2], .int .i64 (cq)]) (fun x W => OwnN 0 x (rt_) W) rfl rfl HFL (by decide +kernel) hF3 (fun W hG K' hK => ?_) (fun x4 hF4 => ?_)
 focus
  have HC := hide (quo_flat (xd) x1.1 x1.2.1 x1.2.2 (xt) (yd) x3.1 x3.2.1 x3.2.2 (yt)  W.heap.size W (terms_own (hG.1.2)) (terms_own (hG.2)) (Nat.le_refl _) )
  rw [H_r_.out] at HC
  clear hG
  go_simp
  go_wp2_with (first
   | (go_at_call 20; refine HC.out.mono ?_; rintro e w6 ⟨A, n, c, rfl, ho, hb⟩
      have HO := hide (own_le ho (Nat.zero_le _)); clear ho
      have HBB := hide hb; clear hb))
  exact hK.out (A, n, c) _ HO.out HBB.out
 (try simp only [Act.put, List.setIfInBounds_toArray, List.set_cons_zero, List.set_cons_succ])
 refine Safe.take 5 (v := ?_) rfl rfl HFL (by decide +kernel) hF4 (by rfl) (fun W hF => ?_) ?_
 rotate_left 1
 focus (clear hF; go_simp; first | done | with_reducible rfl)
 (try simp only [Act.put, List.setIfInBounds_toArray, List.set_cons_zero, List.set_cons_succ])
 refine Safe.take 6 (v := ?_) rfl rfl HFL (by decide +kernel) hF4 (by rfl) (fun W hF => ?_) ?_
 rotate_left 1
 focus (clear hF; go_simp; first | done | with_reducible rfl)
 (try simp only [Act.put, List.setIfInBounds_toArray, List.set_cons_zero, List.set_cons_succ])
 refine Safe.take 7 (v := ?_) rfl rfl HFL (by decide +kernel) hF4 (by rfl) (fun W hF => ?_) ?_
 rotate_left 1
 focus (clear hF; go_simp; first | done | with_reducible rfl)
 (try simp only [Act.put, List.setIfInBounds_toArray, List.set_cons_zero, List.set_cons_succ])
 refine Safe.force (some 22) HFL (by decide +kernel) rfl hF4 (fun vf => ?_)
 (try simp only [Act.put, List.setIfInBounds_toArray, List.set_cons_zero, List.set_cons_succ])
 refine Safe.fin rfl (fun W h => hF4 W h.1) (fun W166 hG hHeld => ?_)
 obtain ⟨hG, X22, rfl, hX, hN⟩ := hG
 have HS1 := hide (Vr.made (S := fun W => ((((Below w.heap.size w W ∧ w.heap.size ≤ W.heap.size) ∧ Blk W X3 24 #[.int .i64 xd, .slice xA xt.length xc]) ∧ Blk W X4 24 #[.int .i64 yd, .slice yA yt.length yc]) ∧ Blk W X5 24 #[.int .i64 zd, .slice zA zt.length zc])) (d := r_) HS.out hG.1.1.1.2.1 hX hN hG.2)
 obtain ⟨q0, q1, qf0, qf1⟩ := hN.two
 clear hG HFL hF1 hF3 hF4 hX hN HGd HS u3 v3 h3 HN3 u4 v4 h4 HN4
 refine wpTill_one 9 rfl (by decide +kernel) (fun K hK => ?_)
 go_simp
 refine hK.out _ _ ⟨trivial, fun h => absurd h (by decide +kernel), fun _ => trivial⟩ (fun hHeld => ?_)
 clear hK K
 (try simp only [Act.put, List.setIfInBounds_toArray, List.set_cons_zero, List.set_cons_succ])
 refine wpTill_take 10 rfl (by decide +kernel) (fun c a w h => by first | exact h | (cases h; done)) (by rfl) (v := ?_) ?_ hHeld (fun hHeld' => ?_)
 rotate_left 1
 focus (intro w' hSw; obtain ⟨hC, hF, hG⟩ := hSw; clear hG; clear hF; go_simp; first | done | with_reducible rfl)
 clear hHeld
 rename Till _ _ _ _ _ _ _ => hHeld
 (try simp only [Act.put, List.setIfInBounds_toArray, List.set_cons_zero, List.set_cons_succ])
 refine wpTill_done (by decide +kernel) ?_
 clear hHeld
 clear q0 q1 qf0 qf1
 generalize (W166.setCell ⟨X22, 0, none⟩ (.int .i64 (r_))).setCell ⟨X22, 1, none⟩ (.slice x4.1 x4.2.1 x4.2.2) = W167 at *
 obtain ⟨A22, n22, c22⟩ := x4
 dsimp only at HS1
 have HS := hide HS1.out
 clear HS1
 go_upto_region 29 with fail
 obtain ⟨u4, v4, _, _⟩ := (HS.out.1.1.2).two
 have hnone := field_none (xt := xt) (yt := yt) hx hy
 rw [H_r_.out] at hnone
 dsimp only at hnone
 by_cases h7 : cq = 7
 ·have hl0 : yt = [] := List.length_eq_zero_iff.1 (hnone.1 h7)
  clear hnone
  subst h7 hl0
  have HBk := hide HS.out.1.1.1.1
  go_wp2_with (first
   | (go_at_call 11; refine (HK.out _ HBk.out.1).mono ?_; rintro e wz ⟨rfl, hbz⟩
      have HBe := hide (HBk.out.1.trans (hbz.mono HBk.out.2))
      clear hbz))
  all_goals
   go_ret
   exact ⟨rfl, HBe.out⟩
 have hc7 : (cq == 7) = false := by simpa using h7
 clear hnone h7
 by_cases h0 : cq = 0
 rotate_left 1
 ·have hc0 : (cq == 0) = false := by simpa using h0
  clear h0
  have HBk := hide HS.out.1.1.1.1
  go_wp2_with (first
   | (go_at_call 11; refine (HK.out _ HBk.out.1).mono ?_; rintro e wz ⟨rfl, hbz⟩
      have HBe := hide (HBk.out.1.trans (hbz.mono HBk.out.2))
      clear hbz))
  all_goals
   go_ret
   exact ⟨rfl, HBe.out⟩
 subst h0
 clear hc7
 have hl0 : ((yt.length : Int) == 0) = false := by
  have := field_some H_r_.out
  rw [beq_eq_false_iff_ne]
  omega
 go_upto_region 32 with fail
 clear u4 v4 hl0
 have H_q2 := hide (field_quo H_r_.out)
 obtain ⟨u22, v22, _, _⟩ := (HS.out.2.1).two
 have h22 : X22 < W167.heap.size := (HS.out.2.1).lt
 have HN22 := hide trivial
 obtain ⟨u4, v4, _, _⟩ := (HS.out.1.1.2).two
 have h4 : X4 < W167.heap.size := (HS.out.1.1.2).lt
 have HN4 := hide trivial
 have HGd : Hid ((((((Below w.heap.size w W167.drew ∧ w.heap.size ≤ W167.drew.heap.size) ∧ Blk W167.drew X3 24 #[.int .i64 xd, .slice xA xt.length xc]) ∧ Blk W167.drew X4 24 #[.int .i64 yd, .slice yA yt.length yc]) ∧ Blk W167.drew X5 24 #[.int .i64 zd, .slice zA zt.length zc]) ∧ Vr X22 (r_) A22 n22 c22 (rt_) W167.drew) ∧ (Below W167.heap.size W167 W167.drew ∧ W167.heap.size ≤ W167.drew.heap.size)) := hide ⟨Kept.keep (S := fun W => (((((Below w.heap.size w W ∧ w.heap.size ≤ W.heap.size) ∧ Blk W X3 24 #[.int .i64 xd, .slice xA xt.length xc]) ∧ Blk W X4 24 #[.int .i64 yd, .slice yA yt.length yc]) ∧ Blk W X5 24 #[.int .i64 zd, .slice zA zt.length zc]) ∧ Vr X22 (r_) A22 n22 c22 (rt_) W)) _ _ HS.out (Below.drew (Below.refl _ _)), Below.drew (Below.refl _ _), Nat.le_refl _⟩
 refine wp_region_flow 8 (fun W' => Below W167.heap.size W167 W') (fun _ v W' => MadeN W167.heap.size v W') [7] (fun W' => (((((Below w.heap.size w W' ∧ w.heap.size ≤ W'.heap.size) ∧ Blk W' X3 24 #[.int .i64 xd, .slice xA xt.length xc]) ∧ Blk W' X4 24 #[.int .i64 yd, .slice yA yt.length yc]) ∧ Blk W' X5 24 #[.int .i64 zd, .slice zA zt.length zc]) ∧ Vr X22 (r_) A22 n22 c22 (rt_) W') ∧ (Below W167.heap.size W167 W' ∧ W167.heap.size ≤ W'.heap.size)) (by kernel_rfl)
  (Floats.of (by decide +kernel) (fun c a d v w => by cases d <;> exact Iff.rfl) (by
   intro i hi a W' hF
   obtain rfl : i = 7 := by simpa using hi
   refine wpOp_step rfl (fun K' hK0 => ?_)
   have hK := hide hK0
   clear hK0
   go_simp
   exact hK.out _ _ ⟨_, rfl, ⟨_, rfl, hF.size, Blk.new _ _ _⟩, (Below.refl _ _).alloc (Nat.le_refl _) _⟩) (fun i v W W' ⟨X, h1, h2, h3⟩ hb => ⟨X, h1, h2, h3.below hb h3.lt⟩))
  (fun _ _ _ h => h) (by decide) HGd.out (fun W h => h.2.1) (fun HFL => ?_)
 refine Safe.take 0 (v := ?_) rfl rfl HFL (by decide +kernel) (fun W h => h.2.1) (by rfl) (fun W hF => ?_) ?_
 rotate_left 1
 focus (have hF := hF (by decide +kernel); have e1 := (hF.cell (p := ⟨X22, 0, none⟩) h22).trans u22; have e2 := (hF.cell (p := ⟨X22, 1, none⟩) h22).trans v22; clear hF; go_simp; first | done | with_reducible rfl)
 (try simp only [Act.put, List.setIfInBounds_toArray, List.set_cons_zero, List.set_cons_succ])
 refine Safe.take 1 (v := ?_) rfl rfl HFL (by decide +kernel) (fun W h => h.2.1) (by rfl) (fun W hF => ?_) ?_
 rotate_left 1
 focus (have hF := hF (by decide +kernel); have e1 := (hF.cell (p := ⟨X4, 0, none⟩) h4).trans u4; have e2 := (hF.cell (p := ⟨X4, 1, none⟩) h4).trans v4; clear hF; go_simp; first | done | with_reducible rfl)
 (try simp only [Act.put, List.setIfInBounds_toArray, List.set_cons_zero, List.set_cons_succ])
 refine Safe.on 2 (fun x : Sl => .agg #[.int .i64 (yd), .slice x.1 x.2.1 x.2.2]) (fun x W => OwnN 0 x (yt) W) rfl rfl HFL (by decide +kernel) (fun W h => h.2.1) (fun W hG K' hK => ?_) (fun x2 hF2 => ?_)
 focus
  have HC := hide (HOy.out W (hG.1.1.1.1.1.1) (hG.1.1.1.1.1.2))
  clear hG
  go_simp
  go_wp2_with (first
   | (go_at_call 14; refine HC.out.mono ?_; rintro e w6 ⟨A, n, c, rfl, ho, hb⟩
      have HO := hide (own_le ho (Nat.zero_le _)); have HBB := hide hb; clear ho hb))
  exact hK.out (A, n, c) _ HO.out HBB.out
 (try simp only [Act.put, List.setIfInBounds_toArray, List.set_cons_zero, List.set_cons_succ])
 refine Safe.on 3 (fun x : Sl => .tuple #[.agg #[.int .i64 (xd), .slice x.1 x.2.1 x.2.2], .int .i64 (0)]) (fun x W => OwnN 0 x (xt) W) rfl rfl HFL (by decide +kernel) hF2 (fun W hG K' hK => ?_) (fun x3 hF3 => ?_)
 focus
  have HC := hide (mul_flat (r_) A22 n22 c22 (rt_) (yd) x2.1 x2.2.1 x2.2.2 (yt)  W.heap.size W (terms_own (hG.1.1.2.2)) (terms_own (hG.2)) (Nat.le_refl _) )
  rw [H_q2.out] at HC
  clear hG
  go_simp
  go_wp2_with (first
   | (go_at_call 19; refine HC.out.mono ?_; rintro e w6 ⟨A, n, c, rfl, ho, hb⟩
      have HO := hide (own_le ho (Nat.zero_le _)); clear ho
      have HBB := hide hb; clear hb))
  exact hK.out (A, n, c) _ HO.out HBB.out
 (try simp only [Act.put, List.setIfInBounds_toArray, List.set_cons_zero, List.set_cons_succ])
 refine Safe.take 4 (v := ?_) rfl rfl HFL (by decide +kernel) hF3 (by rfl) (fun W hF => ?_) ?_
 rotate_left 1
 focus (clear hF; go_simp; first | done | with_reducible rfl)
 (try simp only [Act.put, List.setIfInBounds_toArray, List.set_cons_zero, List.set_cons_succ])
 refine Safe.take 5 (v := ?_) rfl rfl HFL (by decide +kernel) hF3 (by rfl) (fun W hF => ?_) ?_
 rotate_left 1
 focus (clear hF; go_simp; first | done | with_reducible rfl)
 (try simp only [Act.put, List.setIfInBounds_toArray, List.set_cons_zero, List.set_cons_succ])
 refine Safe.take 6 (v := ?_) rfl rfl HFL (by decide +kernel) hF3 (by rfl) (fun W hF => ?_) ?_
 rotate_left 1
 focus (clear hF; go_simp; first | done | with_reducible rfl)
 (try simp only [Act.put, List.setIfInBounds_toArray, List.set_cons_zero, List.set_cons_succ])
 refine Safe.force (some 23) HFL (by decide +kernel) rfl hF3 (fun vf => ?_)
 (try simp only [Act.put, List.setIfInBounds_toArray, List.set_cons_zero, List.set_cons_succ])
 refine Safe.fin rfl (fun W h => hF3 W h.1) (fun W168 hG hHeld => ?_)
 obtain ⟨hG, X23, rfl, hX, hN⟩ := hG
 have HS1 := hide (Vr.made (S := fun W => (((((Below w.heap.size w W ∧ w.heap.size ≤ W.heap.size) ∧ Blk W X3 24 #[.int .i64 xd, .slice xA xt.length xc]) ∧ Blk W X4 24 #[.int .i64 yd, .slice yA yt.length yc]) ∧ Blk W X5 24 #[.int .i64 zd, .slice zA zt.length zc]) ∧ Vr X22 (r_) A22 n22 c22 (rt_) W)) (d := xd) HS.out hG.1.1.2.1 hX hN hG.2)
 obtain ⟨q0, q1, qf0, qf1⟩ := hN.two
 clear hG HFL hF2 hF3 hX hN HGd HS u22 v22 h22 HN22 u4 v4 h4 HN4
 refine wpTill_one 8 rfl (by decide +kernel) (fun K hK => ?_)
 go_simp
 refine hK.out _ _ ⟨trivial, fun h => absurd h (by decide +kernel), fun _ => trivial⟩ (fun hHeld => ?_)
 clear hK K
 (try simp only [Act.put, List.setIfInBounds_toArray, List.set_cons_zero, List.set_cons_succ])
 refine wpTill_take 9 rfl (by decide +kernel) (fun c a w h => by first | exact h | (cases h; done)) (by rfl) (v := ?_) ?_ hHeld (fun hHeld' => ?_)
 rotate_left 1
 focus (intro w' hSw; obtain ⟨hC, hF, hG⟩ := hSw; clear hG; clear hF; go_simp; first | done | with_reducible rfl)
 clear hHeld
 rename Till _ _ _ _ _ _ _ => hHeld
 (try simp only [Act.put, List.setIfInBounds_toArray, List.set_cons_zero, List.set_cons_succ])
 refine wpTill_done (by decide +kernel) ?_
 clear hHeld
 clear q0 q1 qf0 qf1
 generalize (W168.setCell ⟨X23, 0, none⟩ (.int .i64 (xd))).setCell ⟨X23, 1, none⟩ (.slice x3.1 x3.2.1 x3.2.2) = W169 at *
 obtain ⟨A23, n23, c23⟩ := x3
 dsimp only at HS1
 have HS := hide HS1.out
 clear HS1
 go_upto_region 33 with fail
 obtain ⟨u23, v23, _, _⟩ := (HS.out.2.1).two
 obtain ⟨u3, v3, _, _⟩ := (HS.out.1.1.1.1.2).two
 go_upto_region 35 with (first
  | (go_at_call 18; refine (lawSelf_any (xd) A23 n23 c23 xA xt.length xc (xt) W169.heap.size W169 (Rq.of (terms_own (HS.out.2.2))) (Rq.more (HPx.out _ HS.out.1.1.1.1.1.1) HS.out.1.1.1.1.1.2) (Nat.le_refl _)).mono ?_; rintro e w170 ⟨rfl, hb⟩
     have HS_0 := hide (Kept.keep (S := fun W => ((((((Below w.heap.size w W ∧ w.heap.size ≤ W.heap.size) ∧ Blk W X3 24 #[.int .i64 xd, .slice xA xt.length xc]) ∧ Blk W X4 24 #[.int .i64 yd, .slice yA yt.length yc]) ∧ Blk W X5 24 #[.int .i64 zd, .slice zA zt.length zc]) ∧ Vr X22 (r_) A22 n22 c22 (rt_) W) ∧ Vr X23 (xd) A23 n23 c23 (xt) W)) _ _ HS.out hb)
     clear hb))
 clear u23 v23 u3 v3
 have HS0 := hide HS_0.out
 clear HS
 have HS := hide HS0.out
 clear HS0
 have HBk := hide HS.out.1.1.1.1.1
 go_wp2_with (first
  | (go_at_call 11; refine (HK.out _ HBk.out.1).mono ?_; rintro e wz ⟨rfl, hbz⟩
     have HBe := hide (HBk.out.1.trans (hbz.mono HBk.out.2))
     clear hbz))
 all_goals
  go_ret
  exact ⟨rfl, HBe.out⟩
end Go.Proofs.YtfmnnceacdpbdaaGreatDoor
