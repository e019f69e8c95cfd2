import Derived.Test.YtfmnnceacdpbdaaGreatDoorVarN
import Derived.Test.YtfmnnceacdpbdaaGreatDoorLawU
import Derived.Test.YtfmnnceacdpbdaaGreatDoorIdxToSurdF
set_option linter.unusedVariables false
set_option linter.unusedSimpArgs false
namespace Go.Proofs.YtfmnnceacdpbdaaGreatDoor
open Go Go.RowKit
theorem Blk.six {w : World} {b : Nat} {t : TypeId} {u0 u1 u2 u3 u4 u5 : Value} (h : Blk w b t #[u0, u1, u2, u3, u4, u5]) :
  w.cell? ⟨b, 0, none⟩ = some u0 ∧ w.cell? ⟨b, 1, none⟩ = some u1 ∧ w.cell? ⟨b, 2, none⟩ = some u2 ∧ w.cell? ⟨b, 3, none⟩ = some u3 ∧ w.cell? ⟨b, 4, none⟩ = some u4 ∧ w.cell? ⟨b, 5, none⟩ = some u5 :=
 ⟨(h.cell 0).trans rfl, (h.cell 1).trans rfl, (h.cell 2).trans rfl, (h.cell 3).trans rfl, (h.cell 4).trans rfl, (h.cell 5).trans rfl⟩
def okThree (xd yd zd : Int) (xt yt zt : List (Int × Int)) : Bool := decide (xt.length ≤ 8) && decide (yt.length ≤ 8) && decide (zt.length ≤ 8) && numOK xd xt && numOK yd yt && numOK zd zt
theorem okThree_all {xd yd zd : Int} {xt yt zt : List (Int × Int)} (h : okThree xd yd zd xt yt zt = true) : xt.length ≤ 8 ∧ yt.length ≤ 8 ∧ zt.length ≤ 8 ∧ numOK xd xt = true ∧ numOK yd yt = true ∧ numOK zd zt = true := by
 unfold okThree at h
 simp only [Bool.and_eq_true, decide_eq_true_eq] at h
 exact ⟨h.1.1.1.1.1, h.1.1.1.1.2, h.1.1.1.2, h.1.1.2, h.1.2, h.2⟩
set_option maxHeartbeats 8000000 in
set_option maxRecDepth 100000 in
theorem threeOk_any (xd : Int) (xA : Option Addr) (xn xc : Nat) (xt : List (Int × Int)) (yd : Int) (yA : Option Addr) (yn yc : Nat) (yt : List (Int × Int)) (zd : Int) (zA : Option Addr) (zn zc : Nat) (zt : List (Int × Int)) (w : World) (hx : TermsQ w w.heap.size xA xn xc xt) (hy : TermsQ w w.heap.size yA yn yc yt) (hz : TermsQ w w.heap.size zA zn zc zt) :
  Calls Tryz.prog 31 #[.agg #[.int .i64 xd, .slice xA xn xc, .int .i64 yd, .slice yA yn yc, .int .i64 zd, .slice zA zn zc]] w fun e w' => e = .returned (.bool (okThree xd yd zd xt yt zt)) ∧ Below w.heap.size w w' := by
 have hl := hx.len
 subst hl
 have hmx := Rq.nmax hx
 have HPx := hide (fun W (hb : Below w.heap.size w W) => Rq.below hx hb)
 have HLx := hide (fun W => long1_any xd xA xt.length xc W (by omega))
 have hl := hy.len
 subst hl
 have hmy := Rq.nmax hy
 have HPy := hide (fun W (hb : Below w.heap.size w W) => Rq.below hy hb)
 have HLy := hide (fun W => long1_any yd yA yt.length yc W (by omega))
 have hl := hz.len
 subst hl
 have hmz := Rq.nmax hz
 have HPz := hide (fun W (hb : Below w.heap.size w W) => Rq.below hz hb)
 have HLz := hide (fun W => long1_any zd zA zt.length zc W (by omega))
 clear hx hy hz
 go_enter Tryz.func31, Tryz.ntmps31
 go_upto_region 1 with fail
 obtain ⟨X1, hX1⟩ : ∃ X, X = w.heap.size := ⟨_, rfl⟩
 have HS : Hid ((Below w.heap.size w (w.alloc (.cells #[.int .i64 xd, .slice xA xt.length xc, .int .i64 yd, .slice yA yt.length yc, .int .i64 zd, .slice zA zt.length zc] 48)) ∧ w.heap.size ≤ (w.alloc (.cells #[.int .i64 xd, .slice xA xt.length xc, .int .i64 yd, .slice yA yt.length yc, .int .i64 zd, .slice zA zt.length zc] 48)).heap.size) ∧ Blk (w.alloc (.cells #[.int .i64 xd, .slice xA xt.length xc, .int .i64 yd, .slice yA yt.length yc, .int .i64 zd, .slice zA zt.length zc] 48)) X1 48 #[.int .i64 xd, .slice xA xt.length xc, .int .i64 yd, .slice yA yt.length yc, .int .i64 zd, .slice zA zt.length zc]) := hide ⟨⟨(Below.refl _ _).alloc (Nat.le_refl _) _, by simp⟩, hX1 ▸ Blk.new w _ _⟩
 rw [← hX1] at ⊢
 clear hX1
 generalize w.alloc (.cells #[.int .i64 xd, .slice xA xt.length xc, .int .i64 yd, .slice yA yt.length yc, .int .i64 zd, .slice zA zt.length zc] 48) = W1 at *
 by_cases h0 : 8 < xt.length
 ·obtain ⟨u0, u1, u2, u3, u4, u5⟩ := HS.out.2.six
  go_wp2_with (first
   | (go_at_call 10; refine ((decide_eq_true h0 ▸ HLx.out W1 : Calls Tryz.prog 10 #[.agg #[.int .i64 xd, .slice xA xt.length xc]] W1 fun e w' => e = .returned (.bool true) ∧ Below (W1).heap.size W1 w')).mono ?_; rintro e w101 ⟨rfl, hb⟩
      have HS_0 := hide (Kept.keep (S := fun W => ((Below w.heap.size w W ∧ w.heap.size ≤ W.heap.size) ∧ Blk W X1 48 #[.int .i64 xd, .slice xA xt.length xc, .int .i64 yd, .slice yA yt.length yc, .int .i64 zd, .slice zA zt.length zc])) _ _ HS.out hb)
      clear u0 u1 u2 u3 u4 u5
      obtain ⟨u0, u1, u2, u3, u4, u5⟩ := HS_0.out.2.six
      clear hb))
  all_goals
   go_ret
   have hr : okThree xd yd zd xt yt zt = false := by
    have h : ¬ xt.length ≤ 8 := by omega
    simp [okThree, h]
   exact ⟨by rw [hr]; rfl, HS_0.out.1.1⟩
 ·by_cases h1 : 8 < yt.length
  ·obtain ⟨u0, u1, u2, u3, u4, u5⟩ := HS.out.2.six
   go_wp2_with (first
    | (go_at_call 10; refine ((decide_eq_true h1 ▸ HLy.out w101 : Calls Tryz.prog 10 #[.agg #[.int .i64 yd, .slice yA yt.length yc]] w101 fun e w' => e = .returned (.bool true) ∧ Below (w101).heap.size w101 w')).mono ?_; rintro e w102 ⟨rfl, hb⟩
       have HS_1 := hide (Kept.keep (S := fun W => ((Below w.heap.size w W ∧ w.heap.size ≤ W.heap.size) ∧ Blk W X1 48 #[.int .i64 xd, .slice xA xt.length xc, .int .i64 yd, .slice yA yt.length yc, .int .i64 zd, .slice zA zt.length zc])) _ _ HS_0.out hb)
       clear u0 u1 u2 u3 u4 u5
       obtain ⟨u0, u1, u2, u3, u4, u5⟩ := HS_1.out.2.six
       clear hb)
    | (go_at_call 10; refine ((decide_eq_false h0 ▸ HLx.out W1 : Calls Tryz.prog 10 #[.agg #[.int .i64 xd, .slice xA xt.length xc]] W1 fun e w' => e = .returned (.bool false) ∧ Below (W1).heap.size W1 w')).mono ?_; rintro e w101 ⟨rfl, hb⟩
       have HS_0 := hide (Kept.keep (S := fun W => ((Below w.heap.size w W ∧ w.heap.size ≤ W.heap.size) ∧ Blk W X1 48 #[.int .i64 xd, .slice xA xt.length xc, .int .i64 yd, .slice yA yt.length yc, .int .i64 zd, .slice zA zt.length zc])) _ _ HS.out hb)
       clear u0 u1 u2 u3 u4 u5
       obtain ⟨u0, u1, u2, u3, u4, u5⟩ := HS_0.out.2.six
       clear hb))
   all_goals
    go_ret
    have hr : okThree xd yd zd xt yt zt = false := by
     have h : ¬ yt.length ≤ 8 := by omega
     simp [okThree, h]
    exact ⟨by rw [hr]; rfl, HS_1.out.1.1⟩
  ·by_cases h2 : 8 < zt.length
   ·obtain ⟨u0, u1, u2, u3, u4, u5⟩ := HS.out.2.six
    go_wp2_with (first
     | (go_at_call 10; refine ((decide_eq_true h2 ▸ HLz.out w102 : Calls Tryz.prog 10 #[.agg #[.int .i64 zd, .slice zA zt.length zc]] w102 fun e w' => e = .returned (.bool true) ∧ Below (w102).heap.size w102 w')).mono ?_; rintro e w103 ⟨rfl, hb⟩
        have HS_2 := hide (Kept.keep (S := fun W => ((Below w.heap.size w W ∧ w.heap.size ≤ W.heap.size) ∧ Blk W X1 48 #[.int .i64 xd, .slice xA xt.length xc, .int .i64 yd, .slice yA yt.length yc, .int .i64 zd, .slice zA zt.length zc])) _ _ HS_1.out hb)
        clear u0 u1 u2 u3 u4 u5
        obtain ⟨u0, u1, u2, u3, u4, u5⟩ := HS_2.out.2.six
        clear hb)
     | (go_at_call 10; refine ((decide_eq_false h1 ▸ HLy.out w101 : Calls Tryz.prog 10 #[.agg #[.int .i64 yd, .slice yA yt.length yc]] w101 fun e w' => e = .returned (.bool false) ∧ Below (w101).heap.size w101 w')).mono ?_; rintro e w102 ⟨rfl, hb⟩
        have HS_1 := hide (Kept.keep (S := fun W => ((Below w.heap.size w W ∧ w.heap.size ≤ W.heap.size) ∧ Blk W X1 48 #[.int .i64 xd, .slice xA xt.length xc, .int .i64 yd, .slice yA yt.length yc, .int .i64 zd, .slice zA zt.length zc])) _ _ HS_0.out hb)
        clear u0 u1 u2 u3 u4 u5
        obtain ⟨u0, u1, u2, u3, u4, u5⟩ := HS_1.out.2.six
        clear hb)
     | (go_at_call 10; refine ((decide_eq_false h0 ▸ HLx.out W1 : Calls Tryz.prog 10 #[.agg #[.int .i64 xd, .slice xA xt.length xc]] W1 fun e w' => e = .returned (.bool false) ∧ Below (W1).heap.size W1 w')).mono ?_; rintro e w101 ⟨rfl, hb⟩
        have HS_0 := hide (Kept.keep (S := fun W => ((Below w.heap.size w W ∧ w.heap.size ≤ W.heap.size) ∧ Blk W X1 48 #[.int .i64 xd, .slice xA xt.length xc, .int .i64 yd, .slice yA yt.length yc, .int .i64 zd, .slice zA zt.length zc])) _ _ HS.out hb)
        clear u0 u1 u2 u3 u4 u5
        obtain ⟨u0, u1, u2, u3, u4, u5⟩ := HS_0.out.2.six
        clear hb))
    all_goals
     go_ret
     have hr : okThree xd yd zd xt yt zt = false := by
      have h : ¬ zt.length ≤ 8 := by omega
      simp [okThree, h]
     exact ⟨by rw [hr]; rfl, HS_2.out.1.1⟩
   ·cases h3 : numOK xd xt
    ·obtain ⟨u0, u1, u2, u3, u4, u5⟩ := HS.out.2.six
     go_wp2_with (first
      | (go_at_call 13; refine (HC3.out).mono ?_; rintro e w105 ⟨rfl, hb⟩
         have HS_4 := hide (Kept.keep (S := fun W => ((Below w.heap.size w W ∧ w.heap.size ≤ W.heap.size) ∧ Blk W X1 48 #[.int .i64 xd, .slice xA xt.length xc, .int .i64 yd, .slice yA yt.length yc, .int .i64 zd, .slice zA zt.length zc])) _ _ HS_3.out hb)
         clear HC3
         clear u0 u1 u2 u3 u4 u5
         obtain ⟨u0, u1, u2, u3, u4, u5⟩ := HS_4.out.2.six
         clear hb)
      | (go_at_call 14; refine (own1_any xd xA xt.length xc w.heap.size xt w103 (HPx.out w103 HS_2.out.1.1) HS_2.out.1.2 (by omega)).mono ?_; rintro e w104 ⟨A3, n3, c3, rfl, ho, hb⟩
         have HS_3 := hide (Kept.keep (S := fun W => ((Below w.heap.size w W ∧ w.heap.size ≤ W.heap.size) ∧ Blk W X1 48 #[.int .i64 xd, .slice xA xt.length xc, .int .i64 yd, .slice yA yt.length yc, .int .i64 zd, .slice zA zt.length zc])) _ _ HS_2.out hb)
         have hc := check_any xd A3 n3 c3 w104.heap.size xt w104 (Rd.of_own ho) (Nat.le_refl _)
         rw [h3] at hc
         have HC3 := hide hc
         clear ho hc
         clear u0 u1 u2 u3 u4 u5
         obtain ⟨u0, u1, u2, u3, u4, u5⟩ := HS_3.out.2.six
         clear hb)
      | (go_at_call 10; refine ((decide_eq_false h2 ▸ HLz.out w102 : Calls Tryz.prog 10 #[.agg #[.int .i64 zd, .slice zA zt.length zc]] w102 fun e w' => e = .returned (.bool false) ∧ Below (w102).heap.size w102 w')).mono ?_; rintro e w103 ⟨rfl, hb⟩
         have HS_2 := hide (Kept.keep (S := fun W => ((Below w.heap.size w W ∧ w.heap.size ≤ W.heap.size) ∧ Blk W X1 48 #[.int .i64 xd, .slice xA xt.length xc, .int .i64 yd, .slice yA yt.length yc, .int .i64 zd, .slice zA zt.length zc])) _ _ HS_1.out hb)
         clear u0 u1 u2 u3 u4 u5
         obtain ⟨u0, u1, u2, u3, u4, u5⟩ := HS_2.out.2.six
         clear hb)
      | (go_at_call 10; refine ((decide_eq_false h1 ▸ HLy.out w101 : Calls Tryz.prog 10 #[.agg #[.int .i64 yd, .slice yA yt.length yc]] w101 fun e w' => e = .returned (.bool false) ∧ Below (w101).heap.size w101 w')).mono ?_; rintro e w102 ⟨rfl, hb⟩
         have HS_1 := hide (Kept.keep (S := fun W => ((Below w.heap.size w W ∧ w.heap.size ≤ W.heap.size) ∧ Blk W X1 48 #[.int .i64 xd, .slice xA xt.length xc, .int .i64 yd, .slice yA yt.length yc, .int .i64 zd, .slice zA zt.length zc])) _ _ HS_0.out hb)
         clear u0 u1 u2 u3 u4 u5
         obtain ⟨u0, u1, u2, u3, u4, u5⟩ := HS_1.out.2.six
         clear hb)
      | (go_at_call 10; refine ((decide_eq_false h0 ▸ HLx.out W1 : Calls Tryz.prog 10 #[.agg #[.int .i64 xd, .slice xA xt.length xc]] W1 fun e w' => e = .returned (.bool false) ∧ Below (W1).heap.size W1 w')).mono ?_; rintro e w101 ⟨rfl, hb⟩
         have HS_0 := hide (Kept.keep (S := fun W => ((Below w.heap.size w W ∧ w.heap.size ≤ W.heap.size) ∧ Blk W X1 48 #[.int .i64 xd, .slice xA xt.length xc, .int .i64 yd, .slice yA yt.length yc, .int .i64 zd, .slice zA zt.length zc])) _ _ HS.out hb)
         clear u0 u1 u2 u3 u4 u5
         obtain ⟨u0, u1, u2, u3, u4, u5⟩ := HS_0.out.2.six
         clear hb))
     all_goals
      go_ret
      have hr : okThree xd yd zd xt yt zt = false := by
       simp [okThree, h3]
      exact ⟨by rw [hr]; rfl, HS_4.out.1.1⟩
    ·cases h4 : numOK yd yt
     ·obtain ⟨u0, u1, u2, u3, u4, u5⟩ := HS.out.2.six
      go_wp2_with (first
       | (go_at_call 13; refine (HC5.out).mono ?_; rintro e w107 ⟨rfl, hb⟩
          have HS_6 := hide (Kept.keep (S := fun W => ((Below w.heap.size w W ∧ w.heap.size ≤ W.heap.size) ∧ Blk W X1 48 #[.int .i64 xd, .slice xA xt.length xc, .int .i64 yd, .slice yA yt.length yc, .int .i64 zd, .slice zA zt.length zc])) _ _ HS_5.out hb)
          clear HC5
          clear u0 u1 u2 u3 u4 u5
          obtain ⟨u0, u1, u2, u3, u4, u5⟩ := HS_6.out.2.six
          clear hb)
       | (go_at_call 14; refine (own1_any yd yA yt.length yc w.heap.size yt w105 (HPy.out w105 HS_4.out.1.1) HS_4.out.1.2 (by omega)).mono ?_; rintro e w106 ⟨A5, n5, c5, rfl, ho, hb⟩
          have HS_5 := hide (Kept.keep (S := fun W => ((Below w.heap.size w W ∧ w.heap.size ≤ W.heap.size) ∧ Blk W X1 48 #[.int .i64 xd, .slice xA xt.length xc, .int .i64 yd, .slice yA yt.length yc, .int .i64 zd, .slice zA zt.length zc])) _ _ HS_4.out hb)
          have hc := check_any yd A5 n5 c5 w106.heap.size yt w106 (Rd.of_own ho) (Nat.le_refl _)
          rw [h4] at hc
          have HC5 := hide hc
          clear ho hc
          clear u0 u1 u2 u3 u4 u5
          obtain ⟨u0, u1, u2, u3, u4, u5⟩ := HS_5.out.2.six
          clear hb)
       | (go_at_call 13; refine (HC3.out).mono ?_; rintro e w105 ⟨rfl, hb⟩
          have HS_4 := hide (Kept.keep (S := fun W => ((Below w.heap.size w W ∧ w.heap.size ≤ W.heap.size) ∧ Blk W X1 48 #[.int .i64 xd, .slice xA xt.length xc, .int .i64 yd, .slice yA yt.length yc, .int .i64 zd, .slice zA zt.length zc])) _ _ HS_3.out hb)
          clear HC3
          clear u0 u1 u2 u3 u4 u5
          obtain ⟨u0, u1, u2, u3, u4, u5⟩ := HS_4.out.2.six
          clear hb)
       | (go_at_call 14; refine (own1_any xd xA xt.length xc w.heap.size xt w103 (HPx.out w103 HS_2.out.1.1) HS_2.out.1.2 (by omega)).mono ?_; rintro e w104 ⟨A3, n3, c3, rfl, ho, hb⟩
          have HS_3 := hide (Kept.keep (S := fun W => ((Below w.heap.size w W ∧ w.heap.size ≤ W.heap.size) ∧ Blk W X1 48 #[.int .i64 xd, .slice xA xt.length xc, .int .i64 yd, .slice yA yt.length yc, .int .i64 zd, .slice zA zt.length zc])) _ _ HS_2.out hb)
          have hc := check_any xd A3 n3 c3 w104.heap.size xt w104 (Rd.of_own ho) (Nat.le_refl _)
          rw [h3] at hc
          have HC3 := hide hc
          clear ho hc
          clear u0 u1 u2 u3 u4 u5
          obtain ⟨u0, u1, u2, u3, u4, u5⟩ := HS_3.out.2.six
          clear hb)
       | (go_at_call 10; refine ((decide_eq_false h2 ▸ HLz.out w102 : Calls Tryz.prog 10 #[.agg #[.int .i64 zd, .slice zA zt.length zc]] w102 fun e w' => e = .returned (.bool false) ∧ Below (w102).heap.size w102 w')).mono ?_; rintro e w103 ⟨rfl, hb⟩
          have HS_2 := hide (Kept.keep (S := fun W => ((Below w.heap.size w W ∧ w.heap.size ≤ W.heap.size) ∧ Blk W X1 48 #[.int .i64 xd, .slice xA xt.length xc, .int .i64 yd, .slice yA yt.length yc, .int .i64 zd, .slice zA zt.length zc])) _ _ HS_1.out hb)
          clear u0 u1 u2 u3 u4 u5
          obtain ⟨u0, u1, u2, u3, u4, u5⟩ := HS_2.out.2.six
          clear hb)
       | (go_at_call 10; refine ((decide_eq_false h1 ▸ HLy.out w101 : Calls Tryz.prog 10 #[.agg #[.int .i64 yd, .slice yA yt.length yc]] w101 fun e w' => e = .returned (.bool false) ∧ Below (w101).heap.size w101 w')).mono ?_; rintro e w102 ⟨rfl, hb⟩
          have HS_1 := hide (Kept.keep (S := fun W => ((Below w.heap.size w W ∧ w.heap.size ≤ W.heap.size) ∧ Blk W X1 48 #[.int .i64 xd, .slice xA xt.length xc, .int .i64 yd, .slice yA yt.length yc, .int .i64 zd, .slice zA zt.length zc])) _ _ HS_0.out hb)
          clear u0 u1 u2 u3 u4 u5
          obtain ⟨u0, u1, u2, u3, u4, u5⟩ := HS_1.out.2.six
          clear hb)
       | (go_at_call 10; refine ((decide_eq_false h0 ▸ HLx.out W1 : Calls Tryz.prog 10 #[.agg #[.int .i64 xd, .slice xA xt.length xc]] W1 fun e w' => e = .returned (.bool false) ∧ Below (W1).heap.size W1 w')).mono ?_; rintro e w101 ⟨rfl, hb⟩
          have HS_0 := hide (Kept.keep (S := fun W => ((Below w.heap.size w W ∧ w.heap.size ≤ W.heap.size) ∧ Blk W X1 48 #[.int .i64 xd, .slice xA xt.length xc, .int .i64 yd, .slice yA yt.length yc, .int .i64 zd, .slice zA zt.length zc])) _ _ HS.out hb)
          clear u0 u1 u2 u3 u4 u5
          obtain ⟨u0, u1, u2, u3, u4, u5⟩ := HS_0.out.2.six
          clear hb))
      all_goals
       go_ret
       have hr : okThree xd yd zd xt yt zt = false := by
        simp [okThree, h4]
       exact ⟨by rw [hr]; rfl, HS_6.out.1.1⟩
     ·cases h5 : numOK zd zt
      ·obtain ⟨u0, u1, u2, u3, u4, u5⟩ := HS.out.2.six
       go_wp2_with (first
        | (go_at_call 13; refine (HC7.out).mono ?_; rintro e w109 ⟨rfl, hb⟩
           have HS_8 := hide (Kept.keep (S := fun W => ((Below w.heap.size w W ∧ w.heap.size ≤ W.heap.size) ∧ Blk W X1 48 #[.int .i64 xd, .slice xA xt.length xc, .int .i64 yd, .slice yA yt.length yc, .int .i64 zd, .slice zA zt.length zc])) _ _ HS_7.out hb)
           clear HC7
           clear u0 u1 u2 u3 u4 u5
           obtain ⟨u0, u1, u2, u3, u4, u5⟩ := HS_8.out.2.six
           clear hb)
        | (go_at_call 14; refine (own1_any zd zA zt.length zc w.heap.size zt w107 (HPz.out w107 HS_6.out.1.1) HS_6.out.1.2 (by omega)).mono ?_; rintro e w108 ⟨A7, n7, c7, rfl, ho, hb⟩
           have HS_7 := hide (Kept.keep (S := fun W => ((Below w.heap.size w W ∧ w.heap.size ≤ W.heap.size) ∧ Blk W X1 48 #[.int .i64 xd, .slice xA xt.length xc, .int .i64 yd, .slice yA yt.length yc, .int .i64 zd, .slice zA zt.length zc])) _ _ HS_6.out hb)
           have hc := check_any zd A7 n7 c7 w108.heap.size zt w108 (Rd.of_own ho) (Nat.le_refl _)
           rw [h5] at hc
           have HC7 := hide hc
           clear ho hc
           clear u0 u1 u2 u3 u4 u5
           obtain ⟨u0, u1, u2, u3, u4, u5⟩ := HS_7.out.2.six
           clear hb)
        | (go_at_call 13; refine (HC5.out).mono ?_; rintro e w107 ⟨rfl, hb⟩
           have HS_6 := hide (Kept.keep (S := fun W => ((Below w.heap.size w W ∧ w.heap.size ≤ W.heap.size) ∧ Blk W X1 48 #[.int .i64 xd, .slice xA xt.length xc, .int .i64 yd, .slice yA yt.length yc, .int .i64 zd, .slice zA zt.length zc])) _ _ HS_5.out hb)
           clear HC5
           clear u0 u1 u2 u3 u4 u5
           obtain ⟨u0, u1, u2, u3, u4, u5⟩ := HS_6.out.2.six
           clear hb)
        | (go_at_call 14; refine (own1_any yd yA yt.length yc w.heap.size yt w105 (HPy.out w105 HS_4.out.1.1) HS_4.out.1.2 (by omega)).mono ?_; rintro e w106 ⟨A5, n5, c5, rfl, ho, hb⟩
           have HS_5 := hide (Kept.keep (S := fun W => ((Below w.heap.size w W ∧ w.heap.size ≤ W.heap.size) ∧ Blk W X1 48 #[.int .i64 xd, .slice xA xt.length xc, .int .i64 yd, .slice yA yt.length yc, .int .i64 zd, .slice zA zt.length zc])) _ _ HS_4.out hb)
           have hc := check_any yd A5 n5 c5 w106.heap.size yt w106 (Rd.of_own ho) (Nat.le_refl _)
           rw [h4] at hc
           have HC5 := hide hc
           clear ho hc
           clear u0 u1 u2 u3 u4 u5
           obtain ⟨u0, u1, u2, u3, u4, u5⟩ := HS_5.out.2.six
           clear hb)
        | (go_at_call 13; refine (HC3.out).mono ?_; rintro e w105 ⟨rfl, hb⟩
           have HS_4 := hide (Kept.keep (S := fun W => ((Below w.heap.size w W ∧ w.heap.size ≤ W.heap.size) ∧ Blk W X1 48 #[.int .i64 xd, .slice xA xt.length xc, .int .i64 yd, .slice yA yt.length yc, .int .i64 zd, .slice zA zt.length zc])) _ _ HS_3.out hb)
           clear HC3
           clear u0 u1 u2 u3 u4 u5
           obtain ⟨u0, u1, u2, u3, u4, u5⟩ := HS_4.out.2.six
           clear hb)
        | (go_at_call 14; refine (own1_any xd xA xt.length xc w.heap.size xt w103 (HPx.out w103 HS_2.out.1.1) HS_2.out.1.2 (by omega)).mono ?_; rintro e w104 ⟨A3, n3, c3, rfl, ho, hb⟩
           have HS_3 := hide (Kept.keep (S := fun W => ((Below w.heap.size w W ∧ w.heap.size ≤ W.heap.size) ∧ Blk W X1 48 #[.int .i64 xd, .slice xA xt.length xc, .int .i64 yd, .slice yA yt.length yc, .int .i64 zd, .slice zA zt.length zc])) _ _ HS_2.out hb)
           have hc := check_any xd A3 n3 c3 w104.heap.size xt w104 (Rd.of_own ho) (Nat.le_refl _)
           rw [h3] at hc
           have HC3 := hide hc
           clear ho hc
           clear u0 u1 u2 u3 u4 u5
           obtain ⟨u0, u1, u2, u3, u4, u5⟩ := HS_3.out.2.six
           clear hb)
        | (go_at_call 10; refine ((decide_eq_false h2 ▸ HLz.out w102 : Calls Tryz.prog 10 #[.agg #[.int .i64 zd, .slice zA zt.length zc]] w102 fun e w' => e = .returned (.bool false) ∧ Below (w102).heap.size w102 w')).mono ?_; rintro e w103 ⟨rfl, hb⟩
           have HS_2 := hide (Kept.keep (S := fun W => ((Below w.heap.size w W ∧ w.heap.size ≤ W.heap.size) ∧ Blk W X1 48 #[.int .i64 xd, .slice xA xt.length xc, .int .i64 yd, .slice yA yt.length yc, .int .i64 zd, .slice zA zt.length zc])) _ _ HS_1.out hb)
           clear u0 u1 u2 u3 u4 u5
           obtain ⟨u0, u1, u2, u3, u4, u5⟩ := HS_2.out.2.six
           clear hb)
        | (go_at_call 10; refine ((decide_eq_false h1 ▸ HLy.out w101 : Calls Tryz.prog 10 #[.agg #[.int .i64 yd, .slice yA yt.length yc]] w101 fun e w' => e = .returned (.bool false) ∧ Below (w101).heap.size w101 w')).mono ?_; rintro e w102 ⟨rfl, hb⟩
           have HS_1 := hide (Kept.keep (S := fun W => ((Below w.heap.size w W ∧ w.heap.size ≤ W.heap.size) ∧ Blk W X1 48 #[.int .i64 xd, .slice xA xt.length xc, .int .i64 yd, .slice yA yt.length yc, .int .i64 zd, .slice zA zt.length zc])) _ _ HS_0.out hb)
           clear u0 u1 u2 u3 u4 u5
           obtain ⟨u0, u1, u2, u3, u4, u5⟩ := HS_1.out.2.six
           clear hb)
        | (go_at_call 10; refine ((decide_eq_false h0 ▸ HLx.out W1 : Calls Tryz.prog 10 #[.agg #[.int .i64 xd, .slice xA xt.length xc]] W1 fun e w' => e = .returned (.bool false) ∧ Below (W1).heap.size W1 w')).mono ?_; rintro e w101 ⟨rfl, hb⟩
           have HS_0 := hide (Kept.keep (S := fun W => ((Below w.heap.size w W ∧ w.heap.size ≤ W.heap.size) ∧ Blk W X1 48 #[.int .i64 xd, .slice xA xt.length xc, .int .i64 yd, .slice yA yt.length yc, .int .i64 zd, .slice zA zt.length zc])) _ _ HS.out hb)
           clear u0 u1 u2 u3 u4 u5
           obtain ⟨u0, u1, u2, u3, u4, u5⟩ := HS_0.out.2.six
           clear hb))
       all_goals
        go_ret
        have hr : okThree xd yd zd xt yt zt = false := by
         simp [okThree, h5]
        exact ⟨by rw [hr]; rfl, HS_8.out.1.1⟩
      ·obtain ⟨u0, u1, u2, u3, u4, u5⟩ := HS.out.2.six
       go_wp2_with (first
        | (go_at_call 13; refine (HC7.out).mono ?_; rintro e w109 ⟨rfl, hb⟩
           have HS_8 := hide (Kept.keep (S := fun W => ((Below w.heap.size w W ∧ w.heap.size ≤ W.heap.size) ∧ Blk W X1 48 #[.int .i64 xd, .slice xA xt.length xc, .int .i64 yd, .slice yA yt.length yc, .int .i64 zd, .slice zA zt.length zc])) _ _ HS_7.out hb)
           clear HC7
           clear u0 u1 u2 u3 u4 u5
           obtain ⟨u0, u1, u2, u3, u4, u5⟩ := HS_8.out.2.six
           clear hb)
        | (go_at_call 14; refine (own1_any zd zA zt.length zc w.heap.size zt w107 (HPz.out w107 HS_6.out.1.1) HS_6.out.1.2 (by omega)).mono ?_; rintro e w108 ⟨A7, n7, c7, rfl, ho, hb⟩
           have HS_7 := hide (Kept.keep (S := fun W => ((Below w.heap.size w W ∧ w.heap.size ≤ W.heap.size) ∧ Blk W X1 48 #[.int .i64 xd, .slice xA xt.length xc, .int .i64 yd, .slice yA yt.length yc, .int .i64 zd, .slice zA zt.length zc])) _ _ HS_6.out hb)
           have hc := check_any zd A7 n7 c7 w108.heap.size zt w108 (Rd.of_own ho) (Nat.le_refl _)
           rw [h5] at hc
           have HC7 := hide hc
           clear ho hc
           clear u0 u1 u2 u3 u4 u5
           obtain ⟨u0, u1, u2, u3, u4, u5⟩ := HS_7.out.2.six
           clear hb)
        | (go_at_call 13; refine (HC5.out).mono ?_; rintro e w107 ⟨rfl, hb⟩
           have HS_6 := hide (Kept.keep (S := fun W => ((Below w.heap.size w W ∧ w.heap.size ≤ W.heap.size) ∧ Blk W X1 48 #[.int .i64 xd, .slice xA xt.length xc, .int .i64 yd, .slice yA yt.length yc, .int .i64 zd, .slice zA zt.length zc])) _ _ HS_5.out hb)
           clear HC5
           clear u0 u1 u2 u3 u4 u5
           obtain ⟨u0, u1, u2, u3, u4, u5⟩ := HS_6.out.2.six
           clear hb)
        | (go_at_call 14; refine (own1_any yd yA yt.length yc w.heap.size yt w105 (HPy.out w105 HS_4.out.1.1) HS_4.out.1.2 (by omega)).mono ?_; rintro e w106 ⟨A5, n5, c5, rfl, ho, hb⟩
           have HS_5 := hide (Kept.keep (S := fun W => ((Below w.heap.size w W ∧ w.heap.size ≤ W.heap.size) ∧ Blk W X1 48 #[.int .i64 xd, .slice xA xt.length xc, .int .i64 yd, .slice yA yt.length yc, .int .i64 zd, .slice zA zt.length zc])) _ _ HS_4.out hb)
           have hc := check_any yd A5 n5 c5 w106.heap.size yt w106 (Rd.of_own ho) (Nat.le_refl _)
           rw [h4] at hc
           have HC5 := hide hc
           clear ho hc
           clear u0 u1 u2 u3 u4 u5
           obtain ⟨u0, u1, u2, u3, u4, u5⟩ := HS_5.out.2.six
           clear hb)
        | (go_at_call 13; refine (HC3.out).mono ?_; rintro e w105 ⟨rfl, hb⟩
           have HS_4 := hide (Kept.keep (S := fun W => ((Below w.heap.size w W ∧ w.heap.size ≤ W.heap.size) ∧ Blk W X1 48 #[.int .i64 xd, .slice xA xt.length xc, .int .i64 yd, .slice yA yt.length yc, .int .i64 zd, .slice zA zt.length zc])) _ _ HS_3.out hb)
           clear HC3
           clear u0 u1 u2 u3 u4 u5
           obtain ⟨u0, u1, u2, u3, u4, u5⟩ := HS_4.out.2.six
           clear hb)
        | (go_at_call 14; refine (own1_any xd xA xt.length xc w.heap.size xt w103 (HPx.out w103 HS_2.out.1.1) HS_2.out.1.2 (by omega)).mono ?_; rintro e w104 ⟨A3, n3, c3, rfl, ho, hb⟩
           have HS_3 := hide (Kept.keep (S := fun W => ((Below w.heap.size w W ∧ w.heap.size ≤ W.heap.size) ∧ Blk W X1 48 #[.int .i64 xd, .slice xA xt.length xc, .int .i64 yd, .slice yA yt.length yc, .int .i64 zd, .slice zA zt.length zc])) _ _ HS_2.out hb)
           have hc := check_any xd A3 n3 c3 w104.heap.size xt w104 (Rd.of_own ho) (Nat.le_refl _)
           rw [h3] at hc
           have HC3 := hide hc
           clear ho hc
           clear u0 u1 u2 u3 u4 u5
           obtain ⟨u0, u1, u2, u3, u4, u5⟩ := HS_3.out.2.six
           clear hb)
        | (go_at_call 10; refine ((decide_eq_false h2 ▸ HLz.out w102 : Calls Tryz.prog 10 #[.agg #[.int .i64 zd, .slice zA zt.length zc]] w102 fun e w' => e = .returned (.bool false) ∧ Below (w102).heap.size w102 w')).mono ?_; rintro e w103 ⟨rfl, hb⟩
           have HS_2 := hide (Kept.keep (S := fun W => ((Below w.heap.size w W ∧ w.heap.size ≤ W.heap.size) ∧ Blk W X1 48 #[.int .i64 xd, .slice xA xt.length xc, .int .i64 yd, .slice yA yt.length yc, .int .i64 zd, .slice zA zt.length zc])) _ _ HS_1.out hb)
           clear u0 u1 u2 u3 u4 u5
           obtain ⟨u0, u1, u2, u3, u4, u5⟩ := HS_2.out.2.six
           clear hb)
        | (go_at_call 10; refine ((decide_eq_false h1 ▸ HLy.out w101 : Calls Tryz.prog 10 #[.agg #[.int .i64 yd, .slice yA yt.length yc]] w101 fun e w' => e = .returned (.bool false) ∧ Below (w101).heap.size w101 w')).mono ?_; rintro e w102 ⟨rfl, hb⟩
           have HS_1 := hide (Kept.keep (S := fun W => ((Below w.heap.size w W ∧ w.heap.size ≤ W.heap.size) ∧ Blk W X1 48 #[.int .i64 xd, .slice xA xt.length xc, .int .i64 yd, .slice yA yt.length yc, .int .i64 zd, .slice zA zt.length zc])) _ _ HS_0.out hb)
           clear u0 u1 u2 u3 u4 u5
           obtain ⟨u0, u1, u2, u3, u4, u5⟩ := HS_1.out.2.six
           clear hb)
        | (go_at_call 10; refine ((decide_eq_false h0 ▸ HLx.out W1 : Calls Tryz.prog 10 #[.agg #[.int .i64 xd, .slice xA xt.length xc]] W1 fun e w' => e = .returned (.bool false) ∧ Below (W1).heap.size W1 w')).mono ?_; rintro e w101 ⟨rfl, hb⟩
           have HS_0 := hide (Kept.keep (S := fun W => ((Below w.heap.size w W ∧ w.heap.size ≤ W.heap.size) ∧ Blk W X1 48 #[.int .i64 xd, .slice xA xt.length xc, .int .i64 yd, .slice yA yt.length yc, .int .i64 zd, .slice zA zt.length zc])) _ _ HS.out hb)
           clear u0 u1 u2 u3 u4 u5
           obtain ⟨u0, u1, u2, u3, u4, u5⟩ := HS_0.out.2.six
           clear hb))
       all_goals
        go_ret
        have hr : okThree xd yd zd xt yt zt = true := by
         have a : xt.length ≤ 8 := by omega
         have b : yt.length ≤ 8 := by omega
         have c : zt.length ≤ 8 := by omega
         simp [okThree, a, b, c, h3, h4, h5]
        exact ⟨by rw [hr]; rfl, HS_8.out.1.1⟩
end Go.Proofs.YtfmnnceacdpbdaaGreatDoor
