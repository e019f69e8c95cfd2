import Derived.Test.YthkblgglmohciaaGreatDoorLesAToBelR
import Derived.Test.YthkblgglmohciaaGreatDoorVarNToLayN
import Derived.Test.YthkblgglmohciaaGreatDoorLawU
import Derived.Test.YthkblgglmohciaaGreatDoorKnwAToKnwB
set_option linter.unusedVariables false
set_option linter.unusedSimpArgs false
namespace Go.Proofs.YthkblgglmohciaaGreatDoor
open Go Go.RowKit
theorem BelowRes.unique {xd f l l' : Int} {xt : List (Int × Int)} (hx : numOK xd xt = true) (h : BelowRes xd xt f l) (h' : BelowRes xd xt f l') : l = l' := LowOf.unique (IsN.self hx).pos ((IsN.self hx).low h) ((IsN.self hx).low h')
theorem bounds_bad {xd den low high c : Int} {xt : List (Int × Int)} (hx : numOK xd xt = false) (h : BoundsRes xd xt den low high c) : low = 0 ∧ high = 0 ∧ c = 2 := by
 rcases h with ⟨_, h1, h2, h3⟩ | ⟨h, _⟩ | ⟨h, _⟩
 ·exact ⟨h1, h2, h3⟩
 ·rw [hx] at h; cases h
 ·rw [hx] at h; cases h
theorem bounds_far {xd den low high c : Int} {xt : List (Int × Int)} (hx : numOK xd xt = true) (hd : ¬ (1 ≤ den ∧ den ≤ 1000000000)) (h : BoundsRes xd xt den low high c) : low = 0 ∧ high = 0 ∧ c = 3 := by
 rcases h with ⟨h, _⟩ | ⟨_, _, h1, h2, h3⟩ | ⟨_, h, _⟩
 ·rw [hx] at h; cases h
 ·exact ⟨h1, h2, h3⟩
 ·exact absurd (by simpa [inB] using h) hd
theorem bounds_ok {xd den low high c : Int} {xt : List (Int × Int)} (hx : numOK xd xt = true) (hd : 1 ≤ den ∧ den ≤ 1000000000) (h : BoundsRes xd xt den low high c) : c = 0 ∧ BelowRes xd xt den low ∧ ∀ s, SignOf (lessT xt den [(low, 1)] xd) s → (0 < s ∧ high = low + 1) ∨ (¬ 0 < s ∧ high = low) := by
 rcases h with ⟨h, _⟩ | ⟨_, h, _⟩ | ⟨_, _, h1, h2, h3⟩
 ·rw [hx] at h; cases h
 ·have : inB den 1 1000000000 = true := by unfold inB; simp; omega
  rw [this] at h; cases h
 ·refine ⟨h1, h2, fun s hs => ?_⟩
  rcases h3 with ⟨⟨s', g1, g2⟩, g3⟩ | ⟨g2, g3⟩
  ·obtain rfl := hs.unique g2
   exact .inl ⟨g1, g3⟩
  ·obtain rfl := hs.unique g2
   exact .inr ⟨by omega, g3⟩
set_option maxHeartbeats 16000000 in
set_option maxRecDepth 100000 in
theorem bounds_any (xd : Int) (A : Option Addr) (n c : Nat) (xt : List (Int × Int)) (den : Int) (w : World) (hx : TermsQ w w.heap.size A n c xt) (_hden : -9223372036854775808 ≤ den ∧ den ≤ 9223372036854775807)
  (hE : ErrVars w) (hM : MaxV w) (htab : Lib.TabIs Tryz.prog w "internal/strconv.uint64pow10" .u64 Lib.pow10Tab) :
  Calls Tryz.prog 4 #[.agg #[.int .i64 xd, .slice A n c], .int .i64 den] w fun e w' => e = .returned (.bool true) ∧ Below w.heap.size w w' := by
 obtain ⟨gp, hgp⟩ := Option.isSome_iff_exists.1 Tryz.pow10g
 have HK : Hid (∀ W, Below w.heap.size w W → Calls Tryz.prog 9 #[] W fun e w' => e = .returned (.bool true) ∧ Below W.heap.size W w') := hide (fun W hW => known1_any W (hE.below hW (Nat.le_refl _)) (hM.below hW (Nat.le_refl _)) (TabIs_below_ hgp htab hW))
 have hl := hx.len
 subst hl
 have hmx := Rq.nmax hx
 have HP := hide (fun W (hb : Below w.heap.size w W) => Rq.below hx hb)
 have HLG := hide (fun W => long1_any xd A xt.length c W (by omega))
 clear hx hE hM htab hgp
 go_enter Tryz.func4, Tryz.ntmps4
 go_upto_region 1 with fail
 have HS : Hid ((Below w.heap.size w (w.alloc (.cells #[.int .i64 xd, .slice A xt.length c] 24)) ∧ w.heap.size ≤ (w.alloc (.cells #[.int .i64 xd, .slice A xt.length c] 24)).heap.size) ∧ Blk (w.alloc (.cells #[.int .i64 xd, .slice A xt.length c] 24)) w.heap.size 24 #[.int .i64 xd, .slice A xt.length c]) := hide ⟨⟨(Below.refl _ _).alloc (Nat.le_refl _) _, by simp⟩, Blk.new w _ _⟩
 obtain ⟨X1, hX1⟩ : ∃ X, X = w.heap.size := ⟨_, rfl⟩
 rw [show Blk (w.alloc (.cells #[.int .i64 xd, .slice A xt.length c] 24)) w.heap.size 24 #[.int .i64 xd, .slice A xt.length c] ↔ Blk (w.alloc (.cells #[.int .i64 xd, .slice A xt.length c] 24)) X1 24 #[.int .i64 xd, .slice A xt.length c] by rw [hX1]] at HS
 rw [← hX1] at ⊢
 clear hX1
 generalize w.alloc (.cells #[.int .i64 xd, .slice A xt.length c] 24) = W1 at *
 obtain ⟨x0, x1, _, _⟩ := HS.out.2.two
 have HLG1 := hide (HLG.out W1)
 by_cases h8 : 8 < xt.length
 case' pos =>
  rw [decide_eq_true h8] at HLG1
  go_wp2_with (first
   | (go_at_call 8; refine HLG1.out.mono ?_; rintro e w1 ⟨rfl, hb1⟩
      have HB1 := hide (HS.out.1.1.trans (hb1.mono HS.out.1.2)); have hz1 := HB1.out.size
      clear hb1)
   | (go_at_call 9; refine (HK.out _ HB1.out).mono ?_; rintro e wz ⟨rfl, hbz⟩
      have HBe := hide (HB1.out.trans (hbz.mono hz1))
      clear hbz))
  all_goals
   go_ret
   exact ⟨rfl, HBe.out⟩
 rw [decide_eq_false h8] at HLG1
 have HOWN := hide (fun W (hb : Below w.heap.size w W) (hB : w.heap.size ≤ W.heap.size) => own1_any xd A xt.length c w.heap.size xt W (HP.out W hb) hB (by omega))
 clear HLG h8
 go_upto_region 3 with (first
  | (go_at_call 8; refine (HLG1.out).mono ?_; rintro e w101 ⟨rfl, hb⟩
     have HS_0 := hide (Kept.keep (S := fun W => ((Below w.heap.size w W ∧ w.heap.size ≤ W.heap.size) ∧ Blk W X1 24 #[.int .i64 xd, .slice A xt.length c])) _ _ HS.out hb)
     clear hb))
 clear x0 x1 HLG1
 have HS0 := hide HS_0.out
 clear HS
 have HS := hide HS0.out
 clear HS0
 obtain ⟨x0, x1, _, _⟩ := (HS.out.2).two
 go_upto_region 4 with (first
  | (go_at_call 11; refine (HOWN.out w101 HS.out.1.1 HS.out.1.2).mono ?_; rintro e w102 ⟨A9, n9, c9, rfl, ho, hb⟩
     have HS_0 := hide (Kept.keep (S := fun W => ((Below w.heap.size w W ∧ w.heap.size ≤ W.heap.size) ∧ Blk W X1 24 #[.int .i64 xd, .slice A xt.length c])) _ _ HS.out hb)
     have HC := hide (bounds_flat xd A9 n9 c9 xt den w102.heap.size w102 (Rd.of_own ho) (Nat.le_refl _))
     clear ho
     clear hb)
  | (go_at_call 14; refine (HC.out).mono ?_; rintro e w103 ⟨low, high, cb, rfl, hr, hb⟩
     have HS_1 := hide (Kept.keep (S := fun W => ((Below w.heap.size w W ∧ w.heap.size ≤ W.heap.size) ∧ Blk W X1 24 #[.int .i64 xd, .slice A xt.length c])) _ _ HS_0.out hb)
     have HR := hide hr
     clear hr
     clear HC
     clear hb))
 clear x0 x1
 have HS0 := hide HS_1.out
 clear HS
 have HS := hide HS0.out
 clear HS0
 try clear HS_0
 have HNM := hide (refNumber_any xd A xt.length c w.heap.size xt w103 (HP.out _ HS.out.1.1) HS.out.1.2)
 obtain ⟨x0, x1, _, _⟩ := (HS.out.2).two
 cases hn : numOK xd xt
 ·rw [hn] at HNM
  obtain ⟨rfl, rfl, rfl⟩ := bounds_bad hn HR.out
  clear HR hn
  go_wp2_with (first
   | (go_at_call 9; refine (HK.out _ HS_0.out.1.1).mono ?_; rintro e wz ⟨rfl, hbz⟩
      have HBe := hide (HS_0.out.1.1.trans (hbz.mono HS_0.out.1.2))
      clear hbz)
   | (go_at_call 15; refine HNM.out.mono ?_; rintro e wn ⟨rfl, hb⟩
      have HS_0 := hide (Kept.keep (S := fun W => ((Below w.heap.size w W ∧ w.heap.size ≤ W.heap.size) ∧ Blk W X1 24 #[.int .i64 xd, .slice A xt.length c])) _ _ HS.out hb)
      clear hb))
  all_goals
   go_ret
   exact ⟨rfl, HBe.out⟩
 rw [hn] at HNM
 by_cases hd : 1 ≤ den ∧ den ≤ 1000000000
 rotate_left 1
 ·by_cases hd1 : den < 1
  ·obtain ⟨rfl, rfl, rfl⟩ := bounds_far hn hd HR.out
   clear HR hn hd
   go_wp2_with (first
    | (go_at_call 9; refine (HK.out _ HS_0.out.1.1).mono ?_; rintro e wz ⟨rfl, hbz⟩
       have HBe := hide (HS_0.out.1.1.trans (hbz.mono HS_0.out.1.2))
       clear hbz)
    | (go_at_call 15; refine HNM.out.mono ?_; rintro e wn ⟨rfl, hb⟩
       have HS_0 := hide (Kept.keep (S := fun W => ((Below w.heap.size w W ∧ w.heap.size ≤ W.heap.size) ∧ Blk W X1 24 #[.int .i64 xd, .slice A xt.length c])) _ _ HS.out hb)
       clear hb))
   all_goals
    go_ret
    exact ⟨rfl, HBe.out⟩
  ·have hd2 : 1000000000 < den := by omega
   obtain ⟨rfl, rfl, rfl⟩ := bounds_far hn hd HR.out
   clear HR hn hd
   go_wp2_with (first
    | (go_at_call 9; refine (HK.out _ HS_0.out.1.1).mono ?_; rintro e wz ⟨rfl, hbz⟩
       have HBe := hide (HS_0.out.1.1.trans (hbz.mono HS_0.out.1.2))
       clear hbz)
    | (go_at_call 15; refine HNM.out.mono ?_; rintro e wn ⟨rfl, hb⟩
       have HS_0 := hide (Kept.keep (S := fun W => ((Below w.heap.size w W ∧ w.heap.size ≤ W.heap.size) ∧ Blk W X1 24 #[.int .i64 xd, .slice A xt.length c])) _ _ HS.out hb)
       clear hb))
   all_goals
    go_ret
    exact ⟨rfl, HBe.out⟩
 obtain ⟨rfl, hbl, hbs⟩ := bounds_ok hn hd HR.out
 have HBL := hide hbl
 have HBS := hide hbs
 have hd1 : ¬ den < 1 := by omega
 have hd2 : ¬ 1000000000 < den := by omega
 clear HR hbl hbs
 go_upto_region 11 with (first
  | (go_at_call 15; refine (HNM.out).mono ?_; rintro e w104 ⟨rfl, hb⟩
     have HS_0 := hide (Kept.keep (S := fun W => ((Below w.heap.size w W ∧ w.heap.size ≤ W.heap.size) ∧ Blk W X1 24 #[.int .i64 xd, .slice A xt.length c])) _ _ HS.out hb)
     clear hb))
 clear x0 x1 HNM hd1 hd2
 have HS0 := hide HS_0.out
 clear HS
 have HS := hide HS0.out
 clear HS0
 obtain ⟨xdn, hxdn⟩ := Int.eq_ofNat_of_zero_le (show 0 ≤ xd by have := (numOK_parts hn).1; omega)
 obtain ⟨dn, hdn⟩ := Int.eq_ofNat_of_zero_le (show 0 ≤ den by omega)
 have HBW := hide (fun W (hb : Below w.heap.size w W) (hB : w.heap.size ≤ W.heap.size) => (show Calls Tryz.prog 16 #[.agg #[.int .i64 xd, .slice A xt.length c], .int .i64 den] W fun e w' => ∃ r, e = .returned (.int .i64 r) ∧ BelowRes xd xt den r ∧ Below W.heap.size W w' by
  subst hxdn hdn
  exact refBelow_any xdn A xt.length c xt dn w.heap.size W (HP.out W hb) hB hn (by omega) (by omega)))
 clear hxdn hdn
 have HBE := hide (fun W (hb : Below w.heap.size w W) (hB : w.heap.size ≤ W.heap.size) => beside10_any xd A xt.length c xt den low w.heap.size W (HP.out W hb) hB hn hd (by have := HBL.out.2.2; omega) (by have := HBL.out.2.2; omega))
 have hlb := HBL.out.2.2.1
 obtain ⟨x0, x1, _, _⟩ := (HS.out.2).two
 go_upto_region 12 with (first
  | (go_at_call 16; refine (HBW.out w104 HS.out.1.1 HS.out.1.2).mono ?_; rintro e w105 ⟨r, rfl, hr, hb⟩
     have HS_0 := hide (Kept.keep (S := fun W => ((Below w.heap.size w W ∧ w.heap.size ≤ W.heap.size) ∧ Blk W X1 24 #[.int .i64 xd, .slice A xt.length c])) _ _ HS.out hb)
     obtain rfl := BelowRes.unique hn HBL.out hr
     clear hr
     clear hb))
 clear x0 x1
 have HS0 := hide HS_0.out
 clear HS
 have HS := hide HS0.out
 clear HS0
 obtain ⟨x0, x1, _, _⟩ := (HS.out.2).two
 go_upto_region 13 with fail
 have HBEW := hide (HBE.out w105 HS.out.1.1 HS.out.1.2)
 clear HBW HBE
 go_wp2_with fail
 refine HBEW.out.mono ?_
 rintro e wb ⟨s, rfl, hs, hb⟩
 have HS_0 := hide (Kept.keep (S := fun W => ((Below w.heap.size w W ∧ w.heap.size ≤ W.heap.size) ∧ Blk W X1 24 #[.int .i64 xd, .slice A xt.length c])) _ _ HS.out hb)
 have hsh := HBS.out s hs
 clear hb hs HBS HBL HBEW hn x0 x1
 rcases hsh with ⟨h1, rfl⟩ | ⟨h1, rfl⟩
 ·go_wp2_with (first
   | (go_at_call 9; refine (HK.out _ HS_0.out.1.1).mono ?_; rintro e wz ⟨rfl, hbz⟩
      have HBe := hide (HS_0.out.1.1.trans (hbz.mono HS_0.out.1.2))
      clear hbz))
  all_goals
   go_ret
   exact ⟨rfl, HBe.out⟩
 ·go_wp2_with (first
   | (go_at_call 9; refine (HK.out _ HS_0.out.1.1).mono ?_; rintro e wz ⟨rfl, hbz⟩
      have HBe := hide (HS_0.out.1.1.trans (hbz.mono HS_0.out.1.2))
      clear hbz))
  all_goals
   go_ret
   exact ⟨rfl, HBe.out⟩
end Go.Proofs.YthkblgglmohciaaGreatDoor
