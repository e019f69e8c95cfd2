import Derived.Test.YtfmnnceacdpbdaaGreatDoorFieAToBetA
import Derived.Test.YtfmnnceacdpbdaaGreatDoorVarN
import Derived.Test.YtfmnnceacdpbdaaGreatDoorLawU
import Derived.Test.YtfmnnceacdpbdaaGreatDoorFloAToFmtA
import Derived.Test.YtfmnnceacdpbdaaGreatDoorKnwAToKnwB
set_option linter.unusedVariables false
set_option linter.unusedSimpArgs false
namespace Go.Proofs.YtfmnnceacdpbdaaGreatDoor
open Go.RowKit
theorem make_lit (W : World) (num D : Int) : Calls Tryz.prog 15 #[.int .i64 D, .slice (some ⟨W.heap.size, 0, none⟩) 1 1] (W.alloc (.cells #[.int .i64 num, .int .i64 1] 34)) (NumPost W (makeS D [(num, 1)])) := by
 refine (make_one W num D).mono ?_
 rintro e w' ⟨A, n, c, rfl, ho, hb⟩
 rw [World.size_alloc] at ho hb
 exact ⟨A, n, c, rfl, own_le ho (by omega), ((Below.refl _ _).alloc (Nat.le_refl _) _).trans (hb.mono (by omega))⟩
set_option maxHeartbeats 16000000 in
set_option maxRecDepth 100000 in
theorem between_any (xd : Int) (A : Option Addr) (n c : Nat) (xt : List (Int × Int)) (f0 k0 : Int) (w : World) (hx : TermsQ w w.heap.size A n c xt) (hf0 : 0 ≤ f0 ∧ f0 ≤ 65535) (hk0 : 0 ≤ k0 ∧ k0 ≤ 255)
  (hE : ErrVars w) (hM : MaxV w) (htab : Lib.TabIs Tryz.prog w "internal/strconv.uint64pow10" .u64 Lib.pow10Tab) :
  Calls Tryz.prog 5 #[.agg #[.int .i64 xd, .slice A n c], .int .u16 f0, .int .u8 k0] w fun e w' => e = .returned (.bool true) ∧ Below w.heap.size w w' := by
 obtain ⟨gp, hgp⟩ := Option.isSome_iff_exists.1 Tryz.pow10g
 have HK : Hid (∀ W, Below w.heap.size w W → Calls Tryz.prog 11 #[] W fun e w' => e = .returned (.bool true) ∧ Below W.heap.size W w') := hide (fun W hW => known1_any W (hE.below hW (Nat.le_refl _)) (hM.below hW (Nat.le_refl _)) (TabIs_below_ hgp htab hW))
 have hl := hx.len
 subst hl
 have hmx := Rq.nmax hx
 have HP := hide (fun W (hb : Below w.heap.size w W) => Rq.below hx hb)
 have HLG := hide (fun W => long1_any xd A xt.length c W (by omega))
 clear hx hE hM htab hgp
 go_enter Tryz.func5, Tryz.ntmps5
 go_upto_region 1 with fail
 have HS : Hid ((Below w.heap.size w (w.alloc (.cells #[.int .i64 xd, .slice A xt.length c] 24)) ∧ w.heap.size ≤ (w.alloc (.cells #[.int .i64 xd, .slice A xt.length c] 24)).heap.size) ∧ Blk (w.alloc (.cells #[.int .i64 xd, .slice A xt.length c] 24)) w.heap.size 24 #[.int .i64 xd, .slice A xt.length c]) := hide ⟨⟨(Below.refl _ _).alloc (Nat.le_refl _) _, by simp⟩, Blk.new w _ _⟩
 obtain ⟨X3, hX3⟩ : ∃ X, X = w.heap.size := ⟨_, rfl⟩
 rw [show Blk (w.alloc (.cells #[.int .i64 xd, .slice A xt.length c] 24)) w.heap.size 24 #[.int .i64 xd, .slice A xt.length c] ↔ Blk (w.alloc (.cells #[.int .i64 xd, .slice A xt.length c] 24)) X3 24 #[.int .i64 xd, .slice A xt.length c] by rw [hX3]] at HS
 rw [← hX3] at ⊢
 clear hX3
 generalize w.alloc (.cells #[.int .i64 xd, .slice A xt.length c] 24) = W1 at *
 obtain ⟨x0, x1, _, _⟩ := HS.out.2.two
 have HLG1 := hide (HLG.out W1)
 by_cases h8 : 8 < xt.length
 case' pos =>
  rw [decide_eq_true h8] at HLG1
  go_wp2_with (first
   | (go_at_call 10; refine HLG1.out.mono ?_; rintro e w1 ⟨rfl, hb1⟩
      have HB1 := hide (HS.out.1.1.trans (hb1.mono HS.out.1.2)); have hz1 := HB1.out.size
      clear hb1)
   | (go_at_call 11; refine (HK.out _ HB1.out).mono ?_; rintro e wz ⟨rfl, hbz⟩
      have HBe := hide (HB1.out.trans (hbz.mono hz1))
      clear hbz))
  all_goals
   go_ret
   exact ⟨rfl, HBe.out⟩
 rw [decide_eq_false h8] at HLG1
 have HOWN := hide (fun W (hb : Below w.heap.size w W) (hB : w.heap.size ≤ W.heap.size) => own1_any xd A xt.length c w.heap.size xt W (HP.out W hb) hB (by omega))
 clear HLG h8
 cases hn : numOK xd xt
 case' false =>
  have hdummy := trivial
  go_upto_region 2 with (first
   | (go_at_call 10; refine (HLG1.out).mono ?_; rintro e w101 ⟨rfl, hb⟩
      have HS_0 := hide (Kept.keep (S := fun W => ((Below w.heap.size w W ∧ w.heap.size ≤ W.heap.size) ∧ Blk W X3 24 #[.int .i64 xd, .slice A xt.length c])) _ _ HS.out hb)
      clear x0 x1
      obtain ⟨x0, x1, _, _⟩ := HS_0.out.2.two
      clear hb)
   | (go_at_call 14; refine (HOWN.out w101 HS_0.out.1.1 HS_0.out.1.2).mono ?_; rintro e w102 ⟨A9, n9, c9, rfl, ho, hb⟩
      have HS_1 := hide (Kept.keep (S := fun W => ((Below w.heap.size w W ∧ w.heap.size ≤ W.heap.size) ∧ Blk W X3 24 #[.int .i64 xd, .slice A xt.length c])) _ _ HS_0.out hb)
      have hc := check_any xd A9 n9 c9 w102.heap.size xt w102 (Rd.of_own ho) (Nat.le_refl _)
      rw [hn] at hc
      have HC := hide hc
      clear ho hc
      clear hb)
   | (go_at_call 13; refine (HC.out).mono ?_; rintro e w103 ⟨rfl, hb⟩
      have HS_2 := hide (Kept.keep (S := fun W => ((Below w.heap.size w W ∧ w.heap.size ≤ W.heap.size) ∧ Blk W X3 24 #[.int .i64 xd, .slice A xt.length c])) _ _ HS_1.out hb)
      clear HC
      clear hb))
  have HS0 := hide HS_2.out
  clear HS
  have HS := hide HS0.out
  clear HS0
  clear HS_0 HS_1
  have HBk := hide HS.out.1
  go_wp2_with (first
   | (go_at_call 11; refine (HK.out _ HBk.out.1).mono ?_; rintro e wz ⟨rfl, hbz⟩
      have HBe := hide (HBk.out.1.trans (hbz.mono HBk.out.2))
      clear hbz))
  all_goals
   go_ret
   exact ⟨rfl, HBe.out⟩
 go_upto_region 3 with (first
  | (go_at_call 10; refine (HLG1.out).mono ?_; rintro e w101 ⟨rfl, hb⟩
     have HS_0 := hide (Kept.keep (S := fun W => ((Below w.heap.size w W ∧ w.heap.size ≤ W.heap.size) ∧ Blk W X3 24 #[.int .i64 xd, .slice A xt.length c])) _ _ HS.out hb)
     clear x0 x1
     obtain ⟨x0, x1, _, _⟩ := HS_0.out.2.two
     clear hb)
  | (go_at_call 14; refine (HOWN.out w101 HS_0.out.1.1 HS_0.out.1.2).mono ?_; rintro e w102 ⟨A9, n9, c9, rfl, ho, hb⟩
     have HS_1 := hide (Kept.keep (S := fun W => ((Below w.heap.size w W ∧ w.heap.size ≤ W.heap.size) ∧ Blk W X3 24 #[.int .i64 xd, .slice A xt.length c])) _ _ HS_0.out hb)
     have hc := check_any xd A9 n9 c9 w102.heap.size xt w102 (Rd.of_own ho) (Nat.le_refl _)
     rw [hn] at hc
     have HC := hide hc
     clear ho hc
     clear hb)
  | (go_at_call 13; refine (HC.out).mono ?_; rintro e w103 ⟨rfl, hb⟩
     have HS_2 := hide (Kept.keep (S := fun W => ((Below w.heap.size w W ∧ w.heap.size ≤ W.heap.size) ∧ Blk W X3 24 #[.int .i64 xd, .slice A xt.length c])) _ _ HS_1.out hb)
     clear HC
     clear hb))
 clear x0 x1 HLG1
 have HS0 := hide HS_2.out
 clear HS
 have HS := hide HS0.out
 clear HS0
 clear HS_0 HS_1
 obtain ⟨x0, x1, _, _⟩ := HS.out.2.two
 go_upto_region 4 with fail
 obtain ⟨f, hf⟩ : ∃ f, f = 1 + f0 % 40000 := ⟨_, rfl⟩
 obtain ⟨k, hk⟩ : ∃ k, k = 1 + k0 % 20 := ⟨_, rfl⟩
 rw [← hf, ← hk]
 have hfb : 1 ≤ f ∧ f ≤ 40000 := by omega
 have hkb : 1 ≤ k ∧ k ≤ 20 := by omega
 clear hf hk hf0 hk0
 have hfkb : 1 ≤ f * k ∧ f * k ≤ 800000 := ⟨by have := Int.mul_le_mul hfb.1 hkb.1 (by decide) (by omega); omega, by have := Int.mul_le_mul hfb.2 hkb.2 (by omega) (by decide); omega⟩
 have hfk : IntKind.i64.wrap (f * k) = f * k := by rw [IntKind.wrap_i64]; omega
 go_upto_region 5 with (first
  | (go_at_call 14; refine (HOWN.out w103 HS.out.1.1 HS.out.1.2).mono ?_; rintro e w104 ⟨A9, n9, c9, rfl, ho, hb⟩
     have HS_0 := hide (Kept.keep (S := fun W => ((Below w.heap.size w W ∧ w.heap.size ≤ W.heap.size) ∧ Blk W X3 24 #[.int .i64 xd, .slice A xt.length c])) _ _ HS.out hb)
     have HC := hide (bounds_flat xd A9 n9 c9 xt f w104.heap.size w104 (Rd.of_own ho) (Nat.le_refl _))
     clear ho
     clear hb)
  | (go_at_call 23; refine (HC.out).mono ?_; rintro e w105 ⟨low, high, cb, rfl, hr, hb⟩
     have HS_1 := hide (Kept.keep (S := fun W => ((Below w.heap.size w W ∧ w.heap.size ≤ W.heap.size) ∧ Blk W X3 24 #[.int .i64 xd, .slice A xt.length c])) _ _ HS_0.out hb)
     obtain ⟨rfl, hp⟩ := bounds_is hn (by omega) hr
     have HP1 := hide hp
     clear hr hp
     clear HC
     clear hb))
 clear x0 x1
 have HS0 := hide HS_1.out
 clear HS
 have HS := hide HS0.out
 clear HS0
 clear HS_0 HS_1
 obtain ⟨x0, x1, _, _⟩ := HS.out.2.two
 go_upto_region 6 with (first
  | (go_at_call 14; refine (HOWN.out w105 HS.out.1.1 HS.out.1.2).mono ?_; rintro e w106 ⟨A9, n9, c9, rfl, ho, hb⟩
     have HS_0 := hide (Kept.keep (S := fun W => ((Below w.heap.size w W ∧ w.heap.size ≤ W.heap.size) ∧ Blk W X3 24 #[.int .i64 xd, .slice A xt.length c])) _ _ HS.out hb)
     have HC := hide (bounds_flat xd A9 n9 c9 xt (f * k) w106.heap.size w106 (Rd.of_own ho) (Nat.le_refl _))
     clear ho
     clear hb)
  | (go_at_call 23; refine (HC.out).mono ?_; rintro e w107 ⟨less, more, cb, rfl, hr, hb⟩
     have HS_1 := hide (Kept.keep (S := fun W => ((Below w.heap.size w W ∧ w.heap.size ≤ W.heap.size) ∧ Blk W X3 24 #[.int .i64 xd, .slice A xt.length c])) _ _ HS_0.out hb)
     obtain ⟨rfl, hp⟩ := bounds_is hn (by omega) hr
     have HP2 := hide hp
     clear hr hp
     clear HC
     clear hb))
 clear x0 x1
 have HS0 := hide HS_1.out
 clear HS
 have HS := hide HS0.out
 clear HS0
 clear HS_0 HS_1
 obtain ⟨x0, x1, _, _⟩ := HS.out.2.two
 go_upto_region 7 with (first
  | (go_at_call 14; refine (HOWN.out w107 HS.out.1.1 HS.out.1.2).mono ?_; rintro e w108 ⟨A9, n9, c9, rfl, ho, hb⟩
     have HS_0 := hide (Kept.keep (S := fun W => ((Below w.heap.size w W ∧ w.heap.size ≤ W.heap.size) ∧ Blk W X3 24 #[.int .i64 xd, .slice A xt.length c])) _ _ HS.out hb)
     have HC := hide (floor_flat xd A9 n9 c9 xt w108.heap.size w108 (Rd.of_own ho) (Nat.le_refl _))
     clear ho
     clear hb)
  | (go_at_call 24; refine (HC.out).mono ?_; rintro e w109 ⟨fl, cb, rfl, hr, hb⟩
     have HS_1 := hide (Kept.keep (S := fun W => ((Below w.heap.size w W ∧ w.heap.size ≤ W.heap.size) ∧ Blk W X3 24 #[.int .i64 xd, .slice A xt.length c])) _ _ HS_0.out hb)
     have HFL := hide hr
     clear hr
     clear HC
     clear hb))
 clear x0 x1
 have HS0 := hide HS_1.out
 clear HS
 have HS := hide HS0.out
 clear HS0
 clear HS_0 HS_1
 obtain ⟨x0, x1, _, _⟩ := HS.out.2.two
 go_upto_region 8 with (first
  | (go_at_call 14; refine (HOWN.out w109 HS.out.1.1 HS.out.1.2).mono ?_; rintro e w110 ⟨A9, n9, c9, rfl, ho, hb⟩
     have HS_0 := hide (Kept.keep (S := fun W => ((Below w.heap.size w W ∧ w.heap.size ≤ W.heap.size) ∧ Blk W X3 24 #[.int .i64 xd, .slice A xt.length c])) _ _ HS.out hb)
     have HC := hide (bounds_flat xd A9 n9 c9 xt 1 w110.heap.size w110 (Rd.of_own ho) (Nat.le_refl _))
     clear ho
     clear hb)
  | (go_at_call 23; refine (HC.out).mono ?_; rintro e w111 ⟨l1, h1, cb2, rfl, hr, hb⟩
     have HS_1 := hide (Kept.keep (S := fun W => ((Below w.heap.size w W ∧ w.heap.size ≤ W.heap.size) ∧ Blk W X3 24 #[.int .i64 xd, .slice A xt.length c])) _ _ HS_0.out hb)
     have HFB := hide hr
     clear hr
     clear HC
     clear hb))
 clear x0 x1
 have HS0 := hide HS_1.out
 clear HS
 have HS := hide HS0.out
 clear HS0
 clear HS_0 HS_1
 obtain ⟨x0, x1, _, _⟩ := HS.out.2.two
 have hN := IsN.self hn
 have hxd := hN.pos
 obtain ⟨hcf, hbf⟩ : cb = 0 ∧ BelowRes xd xt 1 fl := by
  rcases HFL.out with ⟨h, _⟩ | ⟨_, h1, h2⟩
  ·rw [hn] at h; cases h
  ·exact ⟨h1, h2⟩
 obtain ⟨hcf2, hp3⟩ := bounds_is hn (by decide) HFB.out
 have hfl := LowOf.unique hxd (hN.low hbf) hp3.lo
 subst hcf hcf2 hfl
 have hbd := HP1.out.bound hn hfb
 obtain ⟨hfi1, hfi2, hfi3⟩ := HP1.out.fine hxd hkb.1 HP2.out
 have hst := HP1.out.step
 have hsub : IntKind.i64.wrap (high - low) = high - low := by rw [IntKind.wrap_i64]; omega
 have hm1 := mul_bd (a := low) (b := k) (A := 1000000000000) (B := 20) (by omega) (by omega)
 have hm2 := mul_bd (a := high) (b := k) (A := 1000000000001) (B := 20) (by omega) (by omega)
 have hw1 : IntKind.i64.wrap (low * k) = low * k := by rw [IntKind.wrap_i64]; omega
 have hw2 : IntKind.i64.wrap (high * k) = high * k := by rw [IntKind.wrap_i64]; omega
 have HFI := hide (show low * k ≤ less ∧ more ≤ high * k ∧ less ≤ more from ⟨hfi1, hfi2, hfi3⟩)
 have HBD := hide hbd
 clear hbf hp3 HFL HFB hm1 hm2 hfi1 hfi2 hfi3 hN
 have hnl1 : ¬ low < -1000000000000 := by omega
 have hnl2 : ¬ 1000000000000 < low := by omega
 clear hsub
 rcases hst with hst | hst
 ·subst hst
  have hd : low + 1 - low = 1 := by omega
  go_upto_region 10 with fail
  obtain ⟨hfi1, hfi2, hfi3⟩ := HFI.out
  have hq1 : ¬ less < low * k := by omega
  have hq2 : ¬ (low + 1) * k < more := by omega
  have hq3 : ¬ more < less := by omega
  go_upto_region 12 with fail
  clear hq1 hq2 hq3 hfi1 hfi2 hfi3 hw1 hw2 hd
  by_cases hr1 : low < -100000
  ·clear x0 x1
   have HBk := hide HS.out.1
   go_wp2_with (first
    | (go_at_call 11; refine (HK.out _ HBk.out.1).mono ?_; rintro e wz ⟨rfl, hbz⟩
       have HBe := hide (HBk.out.1.trans (hbz.mono HBk.out.2))
       clear hbz))
   all_goals
    go_ret
    exact ⟨rfl, HBe.out⟩
  by_cases hr2 : 100000 < (low + 1)
  ·clear x0 x1
   have HBk := hide HS.out.1
   go_wp2_with (first
    | (go_at_call 11; refine (HK.out _ HBk.out.1).mono ?_; rintro e wz ⟨rfl, hbz⟩
       have HBe := hide (HBk.out.1.trans (hbz.mono HBk.out.2))
       clear hbz))
   all_goals
    go_ret
    exact ⟨rfl, HBe.out⟩
  obtain ⟨d1, q1, hm1, hn1, he1⟩ := make_intS (num := low) (D := f) (by omega) (by omega)
  obtain ⟨d2, q2, hm2, hn2, he2⟩ := make_intS (num := (low + 1)) (D := f) (by omega) (by omega)
  have HM1 : Hid (∀ W, Calls Tryz.prog 15 #[.int .i64 f, .slice (some ⟨W.heap.size, 0, none⟩) 1 1] (W.alloc (.cells #[.int .i64 low, .int .i64 1] 34)) (NumPost W (d1, ratT q1, 0))) := hide (fun W => hm1 ▸ make_lit W low f)
  have HM2 : Hid (∀ W, Calls Tryz.prog 15 #[.int .i64 f, .slice (some ⟨W.heap.size, 0, none⟩) 1 1] (W.alloc (.cells #[.int .i64 (low + 1), .int .i64 1] 34)) (NumPost W (d2, ratT q2, 0))) := hide (fun W => hm2 ▸ make_lit W (low + 1) f)
  have HE := hide (And.intro (And.intro hn1 he1) (And.intro hn2 he2))
  clear hm1 hm2 hn1 he1 hn2 he2
  go_upto_region 15 with (first
   | (go_at_call 15; refine (HM1.out w111).mono ?_; rintro e w112 ⟨A14, n14, c14, rfl, ho, hb⟩
      have HS_0 := hide (Kept.keep (S := fun W => ((Below w.heap.size w W ∧ w.heap.size ≤ W.heap.size) ∧ Blk W X3 24 #[.int .i64 xd, .slice A xt.length c])) _ _ HS.out hb)
      have HO := hide (own_le ho (Nat.zero_le _))
      clear ho
      clear hb))
  clear x0 x1
  have HS3 := hide (And.intro (Kept.keep (S := fun W => ((Below w.heap.size w W ∧ w.heap.size ≤ W.heap.size) ∧ Blk W X3 24 #[.int .i64 xd, .slice A xt.length c])) _ _ HS_0.out ((Below.refl _ _).alloc (Nat.le_refl _) (.cells #[.int .i64 (d1), .slice A14 n14 c14] 24))) (Vr.new (d := d1) HO.out))
  obtain ⟨X20, hX⟩ : ∃ X, X = w112.heap.size := ⟨_, rfl⟩
  rw [← hX] at HS3 ⊢
  clear hX HS_0 HO HS
  generalize w112.alloc (.cells #[.int .i64 (d1), .slice A14 n14 c14] 24) = W113 at *
  have HS := hide HS3.out
  clear HS3
  go_upto_region 16 with (first
   | (go_at_call 15; refine (HM2.out W113).mono ?_; rintro e w114 ⟨A15, n15, c15, rfl, ho, hb⟩
      have HS_0 := hide (Kept.keep (S := fun W => (((Below w.heap.size w W ∧ w.heap.size ≤ W.heap.size) ∧ Blk W X3 24 #[.int .i64 xd, .slice A xt.length c]) ∧ Vr X20 (d1) A14 n14 c14 (ratT q1) W)) _ _ HS.out hb)
      have HO := hide (own_le ho (Nat.zero_le _))
      clear ho
      clear hb))
  have HS3 := hide (And.intro (Kept.keep (S := fun W => (((Below w.heap.size w W ∧ w.heap.size ≤ W.heap.size) ∧ Blk W X3 24 #[.int .i64 xd, .slice A xt.length c]) ∧ Vr X20 (d1) A14 n14 c14 (ratT q1) W)) _ _ HS_0.out ((Below.refl _ _).alloc (Nat.le_refl _) (.cells #[.int .i64 (d2), .slice A15 n15 c15] 24))) (Vr.new (d := d2) HO.out))
  obtain ⟨X21, hX⟩ : ∃ X, X = w114.heap.size := ⟨_, rfl⟩
  rw [← hX] at HS3 ⊢
  clear hX HS_0 HO HS
  generalize w114.alloc (.cells #[.int .i64 (d2), .slice A15 n15 c15] 24) = W115 at *
  have HS := hide HS3.out
  clear HS3
  obtain ⟨u20, v20, _, _⟩ := (HS.out.1.2.1).two
  have h20 : X20 < W115.heap.size := (HS.out.1.2.1).lt
  have HN20 : Hid (n14 ≤ 1000) := hide (Vr.le (HS.out.1.2) (by unfold ratT; split <;> simp))
  obtain ⟨u3, v3, _, _⟩ := (HS.out.1.1.2).two
  have h3 : X3 < W115.heap.size := (HS.out.1.1.2).lt
  have HN3 := hide trivial
  have HGd : Hid (((((Below w.heap.size w W115.drew ∧ w.heap.size ≤ W115.drew.heap.size) ∧ Blk W115.drew X3 24 #[.int .i64 xd, .slice A xt.length c]) ∧ Vr X20 (d1) A14 n14 c14 (ratT q1) W115.drew) ∧ Vr X21 (d2) A15 n15 c15 (ratT q2) W115.drew) ∧ (Below W115.heap.size W115 W115.drew ∧ W115.heap.size ≤ W115.drew.heap.size)) := hide ⟨Kept.keep (S := fun W => ((((Below w.heap.size w W ∧ w.heap.size ≤ W.heap.size) ∧ Blk W X3 24 #[.int .i64 xd, .slice A xt.length c]) ∧ Vr X20 (d1) A14 n14 c14 (ratT q1) W) ∧ Vr X21 (d2) A15 n15 c15 (ratT q2) W)) _ _ HS.out (Below.drew (Below.refl _ _)), Below.drew (Below.refl _ _), Nat.le_refl _⟩
  refine wp_region_flow 7 (fun W' => Below W115.heap.size W115 W') (fun _ _ _ => True) [] (fun W' => ((((Below w.heap.size w W' ∧ w.heap.size ≤ W'.heap.size) ∧ Blk W' X3 24 #[.int .i64 xd, .slice A xt.length c]) ∧ Vr X20 (d1) A14 n14 c14 (ratT q1) W') ∧ Vr X21 (d2) A15 n15 c15 (ratT q2) W') ∧ (Below W115.heap.size W115 W' ∧ W115.heap.size ≤ W'.heap.size)) (by kernel_rfl)
   (Floats.of (by decide +kernel) (fun c a d v w => by cases d <;> exact Iff.rfl) (by intro i hi; cases hi) (fun _ _ _ _ _ _ => trivial))
   (fun _ _ _ h => h) (by decide) HGd.out (fun W h => h.2.1) (fun HFL => ?_)
  refine Safe.take 0 (v := ?_) rfl rfl HFL (by decide +kernel) (fun W h => h.2.1) (by rfl) (fun W hF => ?_) ?_
  rotate_left 1
  focus (have hF := hF (by decide +kernel); have e1 := (hF.cell (p := ⟨X20, 0, none⟩) h20).trans u20; have e2 := (hF.cell (p := ⟨X20, 1, none⟩) h20).trans v20; clear hF; go_simp; first | done | with_reducible rfl)
  (try simp only [Act.put, List.setIfInBounds_toArray, List.set_cons_zero, List.set_cons_succ])
  refine Safe.take 1 (v := ?_) rfl rfl HFL (by decide +kernel) (fun W h => h.2.1) (by rfl) (fun W hF => ?_) ?_
  rotate_left 1
  focus (have hF := hF (by decide +kernel); have e1 := (hF.cell (p := ⟨X3, 0, none⟩) h3).trans u3; have e2 := (hF.cell (p := ⟨X3, 1, none⟩) h3).trans v3; clear hF; go_simp; first | done | with_reducible rfl)
  (try simp only [Act.put, List.setIfInBounds_toArray, List.set_cons_zero, List.set_cons_succ])
  refine Safe.on 2 (fun x : Sl => .agg #[.int .i64 (xd), .slice x.1 x.2.1 x.2.2]) (fun x W => OwnN 0 x (xt) W) rfl rfl HFL (by decide +kernel) (fun W h => h.2.1) (fun W hG K' hK => ?_) (fun x2 hF2 => ?_)
  focus
   have HC := hide (HOWN.out W (hG.1.1.1.1.1) (hG.1.1.1.1.2))
   clear hG
   go_simp
   go_wp2_with (first
    | (go_at_call 14; refine HC.out.mono ?_; rintro e w6 ⟨A, n, c, rfl, ho, hb⟩
       have HO := hide (own_le ho (Nat.zero_le _)); have HBB := hide hb; clear ho hb))
   exact hK.out (A, n, c) _ HO.out HBB.out
  (try simp only [Act.put, List.setIfInBounds_toArray, List.set_cons_zero, List.set_cons_succ])
  refine Safe.on 3 (fun x : Int × Int => .tuple #[.int .i64 x.1, .int .i64 x.2]) (fun x W => (fun p cp => CmpRes d1 (ratT q1) xd xt p cp) x.1 x.2) rfl rfl HFL (by decide +kernel) hF2 (fun W hG K' hK => ?_) (fun x3 hF3 => ?_)
  focus
   have HC := hide (compare_flat (d1) A14 n14 c14 (ratT q1) (xd) x2.1 x2.2.1 x2.2.2 (xt)  W.heap.size W (terms_own (hG.1.1.1.2.2)) (terms_own (hG.2)) (Nat.le_refl _) )
   clear hG
   go_simp
   go_wp2_with (first
    | (go_at_call 25; refine HC.out.mono ?_; rintro e w6 ⟨q1, q2, rfl, hr, hb⟩
       have HQ := hide hr; clear hr
       have HBB := hide hb; clear hb))
   exact hK.out (q1, q2) _ HQ.out HBB.out
  (try simp only [Act.put, List.setIfInBounds_toArray, List.set_cons_zero, List.set_cons_succ])
  refine Safe.fin rfl hF3 (fun W116 hG hHeld => ?_)
  have HS0 := hide (hG.1.1.1)
  have HR := hide hG.2
  clear hG HGd HFL hF2 hF3 HS u20 v20 h20 HN20 u3 v3 h3 HN3
  have HS := hide HS0.out
  clear HS0
  refine wpTill_take 4 rfl (by decide +kernel) (fun c a w h => by first | exact h | (cases h; done)) (by rfl) (v := ?_) ?_ hHeld (fun hHeld' => ?_)
  rotate_left 1
  focus (intro w' hSw; obtain ⟨hC, hF, hG⟩ := hSw; clear hG; clear hF; go_simp; first | done | with_reducible rfl)
  clear hHeld
  rename Till _ _ _ _ _ _ _ => hHeld
  (try simp only [Act.put, List.setIfInBounds_toArray, List.set_cons_zero, List.set_cons_succ])
  refine wpTill_take 5 rfl (by decide +kernel) (fun c a w h => by first | exact h | (cases h; done)) (by rfl) (v := ?_) ?_ hHeld (fun hHeld' => ?_)
  rotate_left 1
  focus (intro w' hSw; obtain ⟨hC, hF, hG⟩ := hSw; clear hG; clear hF; go_simp; first | done | with_reducible rfl)
  clear hHeld
  rename Till _ _ _ _ _ _ _ => hHeld
  (try simp only [Act.put, List.setIfInBounds_toArray, List.set_cons_zero, List.set_cons_succ])
  refine wpTill_take 6 rfl (by decide +kernel) (fun c a w h => by first | exact h | (cases h; done)) (by rfl) (v := ?_) ?_ hHeld (fun hHeld' => ?_)
  rotate_left 1
  focus (intro w' hSw; obtain ⟨hC, hF, hG⟩ := hSw; clear hG; clear hF; go_simp; first | done | with_reducible rfl)
  clear hHeld
  rename Till _ _ _ _ _ _ _ => hHeld
  (try simp only [Act.put, List.setIfInBounds_toArray, List.set_cons_zero, List.set_cons_succ])
  refine wpTill_one 7 rfl (by decide +kernel) (fun K hK => ?_)
  go_simp
  refine hK.out _ _ ⟨trivial, fun h => absurd h (by decide +kernel), fun _ => trivial⟩ (fun hHeld => ?_)
  clear hK K
  (try simp only [Act.put, List.setIfInBounds_toArray, List.set_cons_zero, List.set_cons_succ])
  refine wpTill_take 8 rfl (by decide +kernel) (fun c a w h => by first | exact h | (cases h; done)) (by rfl) (v := ?_) ?_ hHeld (fun hHeld' => ?_)
  rotate_left 1
  focus (intro w' hSw; obtain ⟨hC, hF, hG⟩ := hSw; clear hG; clear hF; go_simp; first | done | with_reducible rfl)
  clear hHeld
  rename Till _ _ _ _ _ _ _ => hHeld
  (try simp only [Act.put, List.setIfInBounds_toArray, List.set_cons_zero, List.set_cons_succ])
  refine wpTill_done (by decide +kernel) ?_
  clear hHeld
  obtain ⟨p, cp⟩ := x3
  dsimp only at HR
  have HC1 := hide HR
  clear HR
  go_upto_region 17 with fail
  obtain ⟨u3, v3, _, _⟩ := (HS.out.1.1.2).two
  have h3 : X3 < W116.heap.size := (HS.out.1.1.2).lt
  have HN3 := hide trivial
  obtain ⟨u21, v21, _, _⟩ := (HS.out.2.1).two
  have h21 : X21 < W116.heap.size := (HS.out.2.1).lt
  have HN21 : Hid (n15 ≤ 1000) := hide (Vr.le (HS.out.2) (by unfold ratT; split <;> simp))
  have HGd : Hid (((((Below w.heap.size w W116.drew ∧ w.heap.size ≤ W116.drew.heap.size) ∧ Blk W116.drew X3 24 #[.int .i64 xd, .slice A xt.length c]) ∧ Vr X20 (d1) A14 n14 c14 (ratT q1) W116.drew) ∧ Vr X21 (d2) A15 n15 c15 (ratT q2) W116.drew) ∧ (Below W116.heap.size W116 W116.drew ∧ W116.heap.size ≤ W116.drew.heap.size)) := hide ⟨Kept.keep (S := fun W => ((((Below w.heap.size w W ∧ w.heap.size ≤ W.heap.size) ∧ Blk W X3 24 #[.int .i64 xd, .slice A xt.length c]) ∧ Vr X20 (d1) A14 n14 c14 (ratT q1) W) ∧ Vr X21 (d2) A15 n15 c15 (ratT q2) W)) _ _ HS.out (Below.drew (Below.refl _ _)), Below.drew (Below.refl _ _), Nat.le_refl _⟩
  refine wp_region_flow 7 (fun W' => Below W116.heap.size W116 W') (fun _ _ _ => True) [] (fun W' => ((((Below w.heap.size w W' ∧ w.heap.size ≤ W'.heap.size) ∧ Blk W' X3 24 #[.int .i64 xd, .slice A xt.length c]) ∧ Vr X20 (d1) A14 n14 c14 (ratT q1) W') ∧ Vr X21 (d2) A15 n15 c15 (ratT q2) W') ∧ (Below W116.heap.size W116 W' ∧ W116.heap.size ≤ W'.heap.size)) (by kernel_rfl)
   (Floats.of (by decide +kernel) (fun c a d v w => by cases d <;> exact Iff.rfl) (by intro i hi; cases hi) (fun _ _ _ _ _ _ => trivial))
   (fun _ _ _ h => h) (by decide) HGd.out (fun W h => h.2.1) (fun HFL => ?_)
  refine Safe.take 0 (v := ?_) rfl rfl HFL (by decide +kernel) (fun W h => h.2.1) (by rfl) (fun W hF => ?_) ?_
  rotate_left 1
  focus (have hF := hF (by decide +kernel); have e1 := (hF.cell (p := ⟨X3, 0, none⟩) h3).trans u3; have e2 := (hF.cell (p := ⟨X3, 1, none⟩) h3).trans v3; clear hF; go_simp; first | done | with_reducible rfl)
  (try simp only [Act.put, List.setIfInBounds_toArray, List.set_cons_zero, List.set_cons_succ])
  refine Safe.take 2 (v := ?_) rfl rfl HFL (by decide +kernel) (fun W h => h.2.1) (by rfl) (fun W hF => ?_) ?_
  rotate_left 1
  focus (have hF := hF (by decide +kernel); have e1 := (hF.cell (p := ⟨X21, 0, none⟩) h21).trans u21; have e2 := (hF.cell (p := ⟨X21, 1, none⟩) h21).trans v21; clear hF; go_simp; first | done | with_reducible rfl)
  (try simp only [Act.put, List.setIfInBounds_toArray, List.set_cons_zero, List.set_cons_succ])
  refine Safe.on 1 (fun x : Sl => .agg #[.int .i64 (xd), .slice x.1 x.2.1 x.2.2]) (fun x W => OwnN 0 x (xt) W) rfl rfl HFL (by decide +kernel) (fun W h => h.2.1) (fun W hG K' hK => ?_) (fun x1 hF1 => ?_)
  focus
   have HC := hide (HOWN.out W (hG.1.1.1.1.1) (hG.1.1.1.1.2))
   clear hG
   go_simp
   go_wp2_with (first
    | (go_at_call 14; refine HC.out.mono ?_; rintro e w6 ⟨A, n, c, rfl, ho, hb⟩
       have HO := hide (own_le ho (Nat.zero_le _)); have HBB := hide hb; clear ho hb))
   exact hK.out (A, n, c) _ HO.out HBB.out
  (try simp only [Act.put, List.setIfInBounds_toArray, List.set_cons_zero, List.set_cons_succ])
  refine Safe.on 3 (fun x : Int × Int => .tuple #[.int .i64 x.1, .int .i64 x.2]) (fun x W => (fun p cp => CmpRes xd xt d2 (ratT q2) p cp) x.1 x.2) rfl rfl HFL (by decide +kernel) hF1 (fun W hG K' hK => ?_) (fun x3 hF3 => ?_)
  focus
   have HC := hide (compare_flat (xd) x1.1 x1.2.1 x1.2.2 (xt) (d2) A15 n15 c15 (ratT q2)  W.heap.size W (terms_own (hG.2)) (terms_own (hG.1.1.2.2)) (Nat.le_refl _) )
   clear hG
   go_simp
   go_wp2_with (first
    | (go_at_call 25; refine HC.out.mono ?_; rintro e w6 ⟨q1, q2, rfl, hr, hb⟩
       have HQ := hide hr; clear hr
       have HBB := hide hb; clear hb))
   exact hK.out (q1, q2) _ HQ.out HBB.out
  (try simp only [Act.put, List.setIfInBounds_toArray, List.set_cons_zero, List.set_cons_succ])
  refine Safe.fin rfl hF3 (fun W117 hG hHeld => ?_)
  have HS0 := hide (hG.1.1.1)
  have HR := hide hG.2
  clear hG HGd HFL hF1 hF3 HS u3 v3 h3 HN3 u21 v21 h21 HN21
  have HS := hide HS0.out
  clear HS0
  refine wpTill_take 4 rfl (by decide +kernel) (fun c a w h => by first | exact h | (cases h; done)) (by rfl) (v := ?_) ?_ hHeld (fun hHeld' => ?_)
  rotate_left 1
  focus (intro w' hSw; obtain ⟨hC, hF, hG⟩ := hSw; clear hG; clear hF; go_simp; first | done | with_reducible rfl)
  clear hHeld
  rename Till _ _ _ _ _ _ _ => hHeld
  (try simp only [Act.put, List.setIfInBounds_toArray, List.set_cons_zero, List.set_cons_succ])
  refine wpTill_take 5 rfl (by decide +kernel) (fun c a w h => by first | exact h | (cases h; done)) (by rfl) (v := ?_) ?_ hHeld (fun hHeld' => ?_)
  rotate_left 1
  focus (intro w' hSw; obtain ⟨hC, hF, hG⟩ := hSw; clear hG; clear hF; go_simp; first | done | with_reducible rfl)
  clear hHeld
  rename Till _ _ _ _ _ _ _ => hHeld
  (try simp only [Act.put, List.setIfInBounds_toArray, List.set_cons_zero, List.set_cons_succ])
  refine wpTill_take 6 rfl (by decide +kernel) (fun c a w h => by first | exact h | (cases h; done)) (by rfl) (v := ?_) ?_ hHeld (fun hHeld' => ?_)
  rotate_left 1
  focus (intro w' hSw; obtain ⟨hC, hF, hG⟩ := hSw; clear hG; clear hF; go_simp; first | done | with_reducible rfl)
  clear hHeld
  rename Till _ _ _ _ _ _ _ => hHeld
  (try simp only [Act.put, List.setIfInBounds_toArray, List.set_cons_zero, List.set_cons_succ])
  refine wpTill_one 7 rfl (by decide +kernel) (fun K hK => ?_)
  go_simp
  refine hK.out _ _ ⟨trivial, fun h => absurd h (by decide +kernel), fun _ => trivial⟩ (fun hHeld => ?_)
  clear hK K
  (try simp only [Act.put, List.setIfInBounds_toArray, List.set_cons_zero, List.set_cons_succ])
  refine wpTill_take 8 rfl (by decide +kernel) (fun c a w h => by first | exact h | (cases h; done)) (by rfl) (v := ?_) ?_ hHeld (fun hHeld' => ?_)
  rotate_left 1
  focus (intro w' hSw; obtain ⟨hC, hF, hG⟩ := hSw; clear hG; clear hF; go_simp; first | done | with_reducible rfl)
  clear hHeld
  rename Till _ _ _ _ _ _ _ => hHeld
  (try simp only [Act.put, List.setIfInBounds_toArray, List.set_cons_zero, List.set_cons_succ])
  refine wpTill_done (by decide +kernel) ?_
  clear hHeld
  obtain ⟨q, cq⟩ := x3
  dsimp only at HR
  have HC2 := hide HR
  clear HR
  obtain ⟨rfl, rfl, hp0, hq0, hiff⟩ := HP1.out.sides hn hfb.1 HE.out.1.1 HE.out.1.2 HE.out.2.1 HE.out.2.2 HC1.out HC2.out
  clear HC1 HC2 HE
  go_upto_region 18 with fail
  have hp1 : ¬ p = 0 := fun h => by have := hiff.2 (.inl h); omega
  have hq1 : ¬ q = 0 := fun h => by have := hiff.2 (.inr h); omega
  have hp2 : (p == 0) = false := by simpa using hp1
  have hq2 : (q == 0) = false := by simpa using hq1
  have hlh : (low == low + 1) = false := by simp; omega
  clear hiff hp1 hq1
  have HBk := hide HS.out.1.1.1
  go_wp2_with (first
   | (go_at_call 11; refine (HK.out _ HBk.out.1).mono ?_; rintro e wz ⟨rfl, hbz⟩
      have HBe := hide (HBk.out.1.trans (hbz.mono HBk.out.2))
      clear hbz))
  all_goals
   go_ret
   exact ⟨rfl, HBe.out⟩
 ·subst hst
  have hd : high - high = 0 := by omega
  go_upto_region 10 with fail
  obtain ⟨hfi1, hfi2, hfi3⟩ := HFI.out
  have hq1 : ¬ less < high * k := by omega
  have hq2 : ¬ high * k < more := by omega
  have hq3 : ¬ more < less := by omega
  go_upto_region 12 with fail
  clear hq1 hq2 hq3 hfi1 hfi2 hfi3 hw1 hw2 hd
  by_cases hr1 : high < -100000
  ·clear x0 x1
   have HBk := hide HS.out.1
   go_wp2_with (first
    | (go_at_call 11; refine (HK.out _ HBk.out.1).mono ?_; rintro e wz ⟨rfl, hbz⟩
       have HBe := hide (HBk.out.1.trans (hbz.mono HBk.out.2))
       clear hbz))
   all_goals
    go_ret
    exact ⟨rfl, HBe.out⟩
  by_cases hr2 : 100000 < high
  ·clear x0 x1
   have HBk := hide HS.out.1
   go_wp2_with (first
    | (go_at_call 11; refine (HK.out _ HBk.out.1).mono ?_; rintro e wz ⟨rfl, hbz⟩
       have HBe := hide (HBk.out.1.trans (hbz.mono HBk.out.2))
       clear hbz))
   all_goals
    go_ret
    exact ⟨rfl, HBe.out⟩
  obtain ⟨d1, q1, hm1, hn1, he1⟩ := make_intS (num := high) (D := f) (by omega) (by omega)
  obtain ⟨d2, q2, hm2, hn2, he2⟩ := make_intS (num := high) (D := f) (by omega) (by omega)
  have HM1 : Hid (∀ W, Calls Tryz.prog 15 #[.int .i64 f, .slice (some ⟨W.heap.size, 0, none⟩) 1 1] (W.alloc (.cells #[.int .i64 high, .int .i64 1] 34)) (NumPost W (d1, ratT q1, 0))) := hide (fun W => hm1 ▸ make_lit W high f)
  have HM2 : Hid (∀ W, Calls Tryz.prog 15 #[.int .i64 f, .slice (some ⟨W.heap.size, 0, none⟩) 1 1] (W.alloc (.cells #[.int .i64 high, .int .i64 1] 34)) (NumPost W (d2, ratT q2, 0))) := hide (fun W => hm2 ▸ make_lit W high f)
  have HE := hide (And.intro (And.intro hn1 he1) (And.intro hn2 he2))
  clear hm1 hm2 hn1 he1 hn2 he2
  go_upto_region 15 with (first
   | (go_at_call 15; refine (HM1.out w111).mono ?_; rintro e w112 ⟨A14, n14, c14, rfl, ho, hb⟩
      have HS_0 := hide (Kept.keep (S := fun W => ((Below w.heap.size w W ∧ w.heap.size ≤ W.heap.size) ∧ Blk W X3 24 #[.int .i64 xd, .slice A xt.length c])) _ _ HS.out hb)
      have HO := hide (own_le ho (Nat.zero_le _))
      clear ho
      clear hb))
  clear x0 x1
  have HS3 := hide (And.intro (Kept.keep (S := fun W => ((Below w.heap.size w W ∧ w.heap.size ≤ W.heap.size) ∧ Blk W X3 24 #[.int .i64 xd, .slice A xt.length c])) _ _ HS_0.out ((Below.refl _ _).alloc (Nat.le_refl _) (.cells #[.int .i64 (d1), .slice A14 n14 c14] 24))) (Vr.new (d := d1) HO.out))
  obtain ⟨X20, hX⟩ : ∃ X, X = w112.heap.size := ⟨_, rfl⟩
  rw [← hX] at HS3 ⊢
  clear hX HS_0 HO HS
  generalize w112.alloc (.cells #[.int .i64 (d1), .slice A14 n14 c14] 24) = W113 at *
  have HS := hide HS3.out
  clear HS3
  go_upto_region 16 with (first
   | (go_at_call 15; refine (HM2.out W113).mono ?_; rintro e w114 ⟨A15, n15, c15, rfl, ho, hb⟩
      have HS_0 := hide (Kept.keep (S := fun W => (((Below w.heap.size w W ∧ w.heap.size ≤ W.heap.size) ∧ Blk W X3 24 #[.int .i64 xd, .slice A xt.length c]) ∧ Vr X20 (d1) A14 n14 c14 (ratT q1) W)) _ _ HS.out hb)
      have HO := hide (own_le ho (Nat.zero_le _))
      clear ho
      clear hb))
  have HS3 := hide (And.intro (Kept.keep (S := fun W => (((Below w.heap.size w W ∧ w.heap.size ≤ W.heap.size) ∧ Blk W X3 24 #[.int .i64 xd, .slice A xt.length c]) ∧ Vr X20 (d1) A14 n14 c14 (ratT q1) W)) _ _ HS_0.out ((Below.refl _ _).alloc (Nat.le_refl _) (.cells #[.int .i64 (d2), .slice A15 n15 c15] 24))) (Vr.new (d := d2) HO.out))
  obtain ⟨X21, hX⟩ : ∃ X, X = w114.heap.size := ⟨_, rfl⟩
  rw [← hX] at HS3 ⊢
  clear hX HS_0 HO HS
  generalize w114.alloc (.cells #[.int .i64 (d2), .slice A15 n15 c15] 24) = W115 at *
  have HS := hide HS3.out
  clear HS3
  obtain ⟨u20, v20, _, _⟩ := (HS.out.1.2.1).two
  have h20 : X20 < W115.heap.size := (HS.out.1.2.1).lt
  have HN20 : Hid (n14 ≤ 1000) := hide (Vr.le (HS.out.1.2) (by unfold ratT; split <;> simp))
  obtain ⟨u3, v3, _, _⟩ := (HS.out.1.1.2).two
  have h3 : X3 < W115.heap.size := (HS.out.1.1.2).lt
  have HN3 := hide trivial
  have HGd : Hid (((((Below w.heap.size w W115.drew ∧ w.heap.size ≤ W115.drew.heap.size) ∧ Blk W115.drew X3 24 #[.int .i64 xd, .slice A xt.length c]) ∧ Vr X20 (d1) A14 n14 c14 (ratT q1) W115.drew) ∧ Vr X21 (d2) A15 n15 c15 (ratT q2) W115.drew) ∧ (Below W115.heap.size W115 W115.drew ∧ W115.heap.size ≤ W115.drew.heap.size)) := hide ⟨Kept.keep (S := fun W => ((((Below w.heap.size w W ∧ w.heap.size ≤ W.heap.size) ∧ Blk W X3 24 #[.int .i64 xd, .slice A xt.length c]) ∧ Vr X20 (d1) A14 n14 c14 (ratT q1) W) ∧ Vr X21 (d2) A15 n15 c15 (ratT q2) W)) _ _ HS.out (Below.drew (Below.refl _ _)), Below.drew (Below.refl _ _), Nat.le_refl _⟩
  refine wp_region_flow 7 (fun W' => Below W115.heap.size W115 W') (fun _ _ _ => True) [] (fun W' => ((((Below w.heap.size w W' ∧ w.heap.size ≤ W'.heap.size) ∧ Blk W' X3 24 #[.int .i64 xd, .slice A xt.length c]) ∧ Vr X20 (d1) A14 n14 c14 (ratT q1) W') ∧ Vr X21 (d2) A15 n15 c15 (ratT q2) W') ∧ (Below W115.heap.size W115 W' ∧ W115.heap.size ≤ W'.heap.size)) (by kernel_rfl)
   (Floats.of (by decide +kernel) (fun c a d v w => by cases d <;> exact Iff.rfl) (by intro i hi; cases hi) (fun _ _ _ _ _ _ => trivial))
   (fun _ _ _ h => h) (by decide) HGd.out (fun W h => h.2.1) (fun HFL => ?_)
  refine Safe.take 0 (v := ?_) rfl rfl HFL (by decide +kernel) (fun W h => h.2.1) (by rfl) (fun W hF => ?_) ?_
  rotate_left 1
  focus (have hF := hF (by decide +kernel); have e1 := (hF.cell (p := ⟨X20, 0, none⟩) h20).trans u20; have e2 := (hF.cell (p := ⟨X20, 1, none⟩) h20).trans v20; clear hF; go_simp; first | done | with_reducible rfl)
  (try simp only [Act.put, List.setIfInBounds_toArray, List.set_cons_zero, List.set_cons_succ])
  refine Safe.take 1 (v := ?_) rfl rfl HFL (by decide +kernel) (fun W h => h.2.1) (by rfl) (fun W hF => ?_) ?_
  rotate_left 1
  focus (have hF := hF (by decide +kernel); have e1 := (hF.cell (p := ⟨X3, 0, none⟩) h3).trans u3; have e2 := (hF.cell (p := ⟨X3, 1, none⟩) h3).trans v3; clear hF; go_simp; first | done | with_reducible rfl)
  (try simp only [Act.put, List.setIfInBounds_toArray, List.set_cons_zero, List.set_cons_succ])
  refine Safe.on 2 (fun x : Sl => .agg #[.int .i64 (xd), .slice x.1 x.2.1 x.2.2]) (fun x W => OwnN 0 x (xt) W) rfl rfl HFL (by decide +kernel) (fun W h => h.2.1) (fun W hG K' hK => ?_) (fun x2 hF2 => ?_)
  focus
   have HC := hide (HOWN.out W (hG.1.1.1.1.1) (hG.1.1.1.1.2))
   clear hG
   go_simp
   go_wp2_with (first
    | (go_at_call 14; refine HC.out.mono ?_; rintro e w6 ⟨A, n, c, rfl, ho, hb⟩
       have HO := hide (own_le ho (Nat.zero_le _)); have HBB := hide hb; clear ho hb))
   exact hK.out (A, n, c) _ HO.out HBB.out
  (try simp only [Act.put, List.setIfInBounds_toArray, List.set_cons_zero, List.set_cons_succ])
  refine Safe.on 3 (fun x : Int × Int => .tuple #[.int .i64 x.1, .int .i64 x.2]) (fun x W => (fun p cp => CmpRes d1 (ratT q1) xd xt p cp) x.1 x.2) rfl rfl HFL (by decide +kernel) hF2 (fun W hG K' hK => ?_) (fun x3 hF3 => ?_)
  focus
   have HC := hide (compare_flat (d1) A14 n14 c14 (ratT q1) (xd) x2.1 x2.2.1 x2.2.2 (xt)  W.heap.size W (terms_own (hG.1.1.1.2.2)) (terms_own (hG.2)) (Nat.le_refl _) )
   clear hG
   go_simp
   go_wp2_with (first
    | (go_at_call 25; refine HC.out.mono ?_; rintro e w6 ⟨q1, q2, rfl, hr, hb⟩
       have HQ := hide hr; clear hr
       have HBB := hide hb; clear hb))
   exact hK.out (q1, q2) _ HQ.out HBB.out
  (try simp only [Act.put, List.setIfInBounds_toArray, List.set_cons_zero, List.set_cons_succ])
  refine Safe.fin rfl hF3 (fun W116 hG hHeld => ?_)
  have HS0 := hide (hG.1.1.1)
  have HR := hide hG.2
  clear hG HGd HFL hF2 hF3 HS u20 v20 h20 HN20 u3 v3 h3 HN3
  have HS := hide HS0.out
  clear HS0
  refine wpTill_take 4 rfl (by decide +kernel) (fun c a w h => by first | exact h | (cases h; done)) (by rfl) (v := ?_) ?_ hHeld (fun hHeld' => ?_)
  rotate_left 1
  focus (intro w' hSw; obtain ⟨hC, hF, hG⟩ := hSw; clear hG; clear hF; go_simp; first | done | with_reducible rfl)
  clear hHeld
  rename Till _ _ _ _ _ _ _ => hHeld
  (try simp only [Act.put, List.setIfInBounds_toArray, List.set_cons_zero, List.set_cons_succ])
  refine wpTill_take 5 rfl (by decide +kernel) (fun c a w h => by first | exact h | (cases h; done)) (by rfl) (v := ?_) ?_ hHeld (fun hHeld' => ?_)
  rotate_left 1
  focus (intro w' hSw; obtain ⟨hC, hF, hG⟩ := hSw; clear hG; clear hF; go_simp; first | done | with_reducible rfl)
  clear hHeld
  rename Till _ _ _ _ _ _ _ => hHeld
  (try simp only [Act.put, List.setIfInBounds_toArray, List.set_cons_zero, List.set_cons_succ])
  refine wpTill_take 6 rfl (by decide +kernel) (fun c a w h => by first | exact h | (cases h; done)) (by rfl) (v := ?_) ?_ hHeld (fun hHeld' => ?_)
  rotate_left 1
  focus (intro w' hSw; obtain ⟨hC, hF, hG⟩ := hSw; clear hG; clear hF; go_simp; first | done | with_reducible rfl)
  clear hHeld
  rename Till _ _ _ _ _ _ _ => hHeld
  (try simp only [Act.put, List.setIfInBounds_toArray, List.set_cons_zero, List.set_cons_succ])
  refine wpTill_one 7 rfl (by decide +kernel) (fun K hK => ?_)
  go_simp
  refine hK.out _ _ ⟨trivial, fun h => absurd h (by decide +kernel), fun _ => trivial⟩ (fun hHeld => ?_)
  clear hK K
  (try simp only [Act.put, List.setIfInBounds_toArray, List.set_cons_zero, List.set_cons_succ])
  refine wpTill_take 8 rfl (by decide +kernel) (fun c a w h => by first | exact h | (cases h; done)) (by rfl) (v := ?_) ?_ hHeld (fun hHeld' => ?_)
  rotate_left 1
  focus (intro w' hSw; obtain ⟨hC, hF, hG⟩ := hSw; clear hG; clear hF; go_simp; first | done | with_reducible rfl)
  clear hHeld
  rename Till _ _ _ _ _ _ _ => hHeld
  (try simp only [Act.put, List.setIfInBounds_toArray, List.set_cons_zero, List.set_cons_succ])
  refine wpTill_done (by decide +kernel) ?_
  clear hHeld
  obtain ⟨p, cp⟩ := x3
  dsimp only at HR
  have HC1 := hide HR
  clear HR
  go_upto_region 17 with fail
  obtain ⟨u3, v3, _, _⟩ := (HS.out.1.1.2).two
  have h3 : X3 < W116.heap.size := (HS.out.1.1.2).lt
  have HN3 := hide trivial
  obtain ⟨u21, v21, _, _⟩ := (HS.out.2.1).two
  have h21 : X21 < W116.heap.size := (HS.out.2.1).lt
  have HN21 : Hid (n15 ≤ 1000) := hide (Vr.le (HS.out.2) (by unfold ratT; split <;> simp))
  have HGd : Hid (((((Below w.heap.size w W116.drew ∧ w.heap.size ≤ W116.drew.heap.size) ∧ Blk W116.drew X3 24 #[.int .i64 xd, .slice A xt.length c]) ∧ Vr X20 (d1) A14 n14 c14 (ratT q1) W116.drew) ∧ Vr X21 (d2) A15 n15 c15 (ratT q2) W116.drew) ∧ (Below W116.heap.size W116 W116.drew ∧ W116.heap.size ≤ W116.drew.heap.size)) := hide ⟨Kept.keep (S := fun W => ((((Below w.heap.size w W ∧ w.heap.size ≤ W.heap.size) ∧ Blk W X3 24 #[.int .i64 xd, .slice A xt.length c]) ∧ Vr X20 (d1) A14 n14 c14 (ratT q1) W) ∧ Vr X21 (d2) A15 n15 c15 (ratT q2) W)) _ _ HS.out (Below.drew (Below.refl _ _)), Below.drew (Below.refl _ _), Nat.le_refl _⟩
  refine wp_region_flow 7 (fun W' => Below W116.heap.size W116 W') (fun _ _ _ => True) [] (fun W' => ((((Below w.heap.size w W' ∧ w.heap.size ≤ W'.heap.size) ∧ Blk W' X3 24 #[.int .i64 xd, .slice A xt.length c]) ∧ Vr X20 (d1) A14 n14 c14 (ratT q1) W') ∧ Vr X21 (d2) A15 n15 c15 (ratT q2) W') ∧ (Below W116.heap.size W116 W' ∧ W116.heap.size ≤ W'.heap.size)) (by kernel_rfl)
   (Floats.of (by decide +kernel) (fun c a d v w => by cases d <;> exact Iff.rfl) (by intro i hi; cases hi) (fun _ _ _ _ _ _ => trivial))
   (fun _ _ _ h => h) (by decide) HGd.out (fun W h => h.2.1) (fun HFL => ?_)
  refine Safe.take 0 (v := ?_) rfl rfl HFL (by decide +kernel) (fun W h => h.2.1) (by rfl) (fun W hF => ?_) ?_
  rotate_left 1
  focus (have hF := hF (by decide +kernel); have e1 := (hF.cell (p := ⟨X3, 0, none⟩) h3).trans u3; have e2 := (hF.cell (p := ⟨X3, 1, none⟩) h3).trans v3; clear hF; go_simp; first | done | with_reducible rfl)
  (try simp only [Act.put, List.setIfInBounds_toArray, List.set_cons_zero, List.set_cons_succ])
  refine Safe.take 2 (v := ?_) rfl rfl HFL (by decide +kernel) (fun W h => h.2.1) (by rfl) (fun W hF => ?_) ?_
  rotate_left 1
  focus (have hF := hF (by decide +kernel); have e1 := (hF.cell (p := ⟨X21, 0, none⟩) h21).trans u21; have e2 := (hF.cell (p := ⟨X21, 1, none⟩) h21).trans v21; clear hF; go_simp; first | done | with_reducible rfl)
  (try simp only [Act.put, List.setIfInBounds_toArray, List.set_cons_zero, List.set_cons_succ])
  refine Safe.on 1 (fun x : Sl => .agg #[.int .i64 (xd), .slice x.1 x.2.1 x.2.2]) (fun x W => OwnN 0 x (xt) W) rfl rfl HFL (by decide +kernel) (fun W h => h.2.1) (fun W hG K' hK => ?_) (fun x1 hF1 => ?_)
  focus
   have HC := hide (HOWN.out W (hG.1.1.1.1.1) (hG.1.1.1.1.2))
   clear hG
   go_simp
   go_wp2_with (first
    | (go_at_call 14; refine HC.out.mono ?_; rintro e w6 ⟨A, n, c, rfl, ho, hb⟩
       have HO := hide (own_le ho (Nat.zero_le _)); have HBB := hide hb; clear ho hb))
   exact hK.out (A, n, c) _ HO.out HBB.out
  (try simp only [Act.put, List.setIfInBounds_toArray, List.set_cons_zero, List.set_cons_succ])
  refine Safe.on 3 (fun x : Int × Int => .tuple #[.int .i64 x.1, .int .i64 x.2]) (fun x W => (fun p cp => CmpRes xd xt d2 (ratT q2) p cp) x.1 x.2) rfl rfl HFL (by decide +kernel) hF1 (fun W hG K' hK => ?_) (fun x3 hF3 => ?_)
  focus
   have HC := hide (compare_flat (xd) x1.1 x1.2.1 x1.2.2 (xt) (d2) A15 n15 c15 (ratT q2)  W.heap.size W (terms_own (hG.2)) (terms_own (hG.1.1.2.2)) (Nat.le_refl _) )
   clear hG
   go_simp
   go_wp2_with (first
    | (go_at_call 25; refine HC.out.mono ?_; rintro e w6 ⟨q1, q2, rfl, hr, hb⟩
       have HQ := hide hr; clear hr
       have HBB := hide hb; clear hb))
   exact hK.out (q1, q2) _ HQ.out HBB.out
  (try simp only [Act.put, List.setIfInBounds_toArray, List.set_cons_zero, List.set_cons_succ])
  refine Safe.fin rfl hF3 (fun W117 hG hHeld => ?_)
  have HS0 := hide (hG.1.1.1)
  have HR := hide hG.2
  clear hG HGd HFL hF1 hF3 HS u3 v3 h3 HN3 u21 v21 h21 HN21
  have HS := hide HS0.out
  clear HS0
  refine wpTill_take 4 rfl (by decide +kernel) (fun c a w h => by first | exact h | (cases h; done)) (by rfl) (v := ?_) ?_ hHeld (fun hHeld' => ?_)
  rotate_left 1
  focus (intro w' hSw; obtain ⟨hC, hF, hG⟩ := hSw; clear hG; clear hF; go_simp; first | done | with_reducible rfl)
  clear hHeld
  rename Till _ _ _ _ _ _ _ => hHeld
  (try simp only [Act.put, List.setIfInBounds_toArray, List.set_cons_zero, List.set_cons_succ])
  refine wpTill_take 5 rfl (by decide +kernel) (fun c a w h => by first | exact h | (cases h; done)) (by rfl) (v := ?_) ?_ hHeld (fun hHeld' => ?_)
  rotate_left 1
  focus (intro w' hSw; obtain ⟨hC, hF, hG⟩ := hSw; clear hG; clear hF; go_simp; first | done | with_reducible rfl)
  clear hHeld
  rename Till _ _ _ _ _ _ _ => hHeld
  (try simp only [Act.put, List.setIfInBounds_toArray, List.set_cons_zero, List.set_cons_succ])
  refine wpTill_take 6 rfl (by decide +kernel) (fun c a w h => by first | exact h | (cases h; done)) (by rfl) (v := ?_) ?_ hHeld (fun hHeld' => ?_)
  rotate_left 1
  focus (intro w' hSw; obtain ⟨hC, hF, hG⟩ := hSw; clear hG; clear hF; go_simp; first | done | with_reducible rfl)
  clear hHeld
  rename Till _ _ _ _ _ _ _ => hHeld
  (try simp only [Act.put, List.setIfInBounds_toArray, List.set_cons_zero, List.set_cons_succ])
  refine wpTill_one 7 rfl (by decide +kernel) (fun K hK => ?_)
  go_simp
  refine hK.out _ _ ⟨trivial, fun h => absurd h (by decide +kernel), fun _ => trivial⟩ (fun hHeld => ?_)
  clear hK K
  (try simp only [Act.put, List.setIfInBounds_toArray, List.set_cons_zero, List.set_cons_succ])
  refine wpTill_take 8 rfl (by decide +kernel) (fun c a w h => by first | exact h | (cases h; done)) (by rfl) (v := ?_) ?_ hHeld (fun hHeld' => ?_)
  rotate_left 1
  focus (intro w' hSw; obtain ⟨hC, hF, hG⟩ := hSw; clear hG; clear hF; go_simp; first | done | with_reducible rfl)
  clear hHeld
  rename Till _ _ _ _ _ _ _ => hHeld
  (try simp only [Act.put, List.setIfInBounds_toArray, List.set_cons_zero, List.set_cons_succ])
  refine wpTill_done (by decide +kernel) ?_
  clear hHeld
  obtain ⟨q, cq⟩ := x3
  dsimp only at HR
  have HC2 := hide HR
  clear HR
  obtain ⟨rfl, rfl, hp0, hq0, hiff⟩ := HP1.out.sides hn hfb.1 HE.out.1.1 HE.out.1.2 HE.out.2.1 HE.out.2.2 HC1.out HC2.out
  clear HC1 HC2 HE
  go_upto_region 18 with fail
  have hor := hiff.1 rfl
  clear hiff
  by_cases hp1 : p = 0
  ·subst hp1
   have HBk := hide HS.out.1.1.1
   go_wp2_with (first
    | (go_at_call 11; refine (HK.out _ HBk.out.1).mono ?_; rintro e wz ⟨rfl, hbz⟩
       have HBe := hide (HBk.out.1.trans (hbz.mono HBk.out.2))
       clear hbz))
   all_goals
    go_ret
    exact ⟨rfl, HBe.out⟩
  ·have hp2 : (p == 0) = false := by simpa using hp1
   obtain rfl : q = 0 := hor.resolve_left hp1
   clear hor hp1
   have HBk := hide HS.out.1.1.1
   go_wp2_with (first
    | (go_at_call 11; refine (HK.out _ HBk.out.1).mono ?_; rintro e wz ⟨rfl, hbz⟩
       have HBe := hide (HBk.out.1.trans (hbz.mono HBk.out.2))
       clear hbz))
   all_goals
    go_ret
    exact ⟨rfl, HBe.out⟩
end Go.Proofs.YtfmnnceacdpbdaaGreatDoor
