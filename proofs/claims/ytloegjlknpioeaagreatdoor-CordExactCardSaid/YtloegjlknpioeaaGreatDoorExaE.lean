import Derived.Test.YtloegjlknpioeaaGreatDoorCircToExaD
set_option linter.unusedVariables false
set_option linter.unusedSimpArgs false
namespace Go.Proofs.YtloegjlknpioeaaGreatDoor
open Go.RowKit
set_option maxHeartbeats 16000000 in
set_option maxRecDepth 100000 in
theorem exact_any (nm dn un ov fi : Int) (w : World) (hnm : 0 ≤ nm ∧ nm ≤ 255) (hdn : 0 ≤ dn ∧ dn ≤ 255) (hun : 0 ≤ un ∧ un ≤ 255) (hov : 0 ≤ ov ∧ ov ≤ 255) (hfi : 0 ≤ fi ∧ fi ≤ 65535) (hE : ErrVars w) (htab : Lib.TabIs Tryz.prog w "internal/strconv.uint64pow10" .u64 Lib.pow10Tab) :
  Calls Tryz.prog 8 #[.agg #[.int .u8 nm, .int .u8 dn, .int .u8 un, .int .u8 ov, .int .u16 fi]] w fun e w' => e = .returned (.bool true) ∧ Below w.heap.size w w' := by
 obtain ⟨gp, hgp⟩ := Option.isSome_iff_exists.1 Tryz.pow10g
 have HK : Hid (∀ W, Below w.heap.size w W → Calls Tryz.prog 12 #[] W fun e w' => e = .returned (.bool true) ∧ Below W.heap.size W w') := hide (fun W hW => known_any W (hE.below hW (Nat.le_refl _)) (TabIs_below_ hgp htab hW))
 clear hE htab hgp
 obtain ⟨a, ha⟩ : ∃ a : Int, 1 + nm % 40 = a := ⟨_, rfl⟩
 obtain ⟨b, hb⟩ : ∃ b : Int, 1 + dn % 40 = b := ⟨_, rfl⟩
 obtain ⟨f, hf⟩ : ∃ f : Int, 1 + fi = f := ⟨_, rfl⟩
 obtain ⟨t, ht⟩ : ∃ t : Int, un % 20 = t := ⟨_, rfl⟩
 have hab : 1 ≤ a ∧ a ≤ 40 := by omega
 have hbb : 1 ≤ b ∧ b ≤ 40 := by omega
 have hfb : 1 ≤ f ∧ f ≤ 65536 := by omega
 have htb : 0 ≤ t ∧ t ≤ 19 := by omega
 have hw1 : IntKind.i64.wrap nm = nm := by rw [IntKind.wrap_i64]; omega
 have hw2 : IntKind.i64.wrap (nm.tmod 40) = nm % 40 := by rw [Int.tmod_eq_emod_of_nonneg (by omega), IntKind.wrap_i64]; omega
 have hw3 : IntKind.i64.wrap (1 + nm.tmod 40) = a := by rw [Int.tmod_eq_emod_of_nonneg (by omega), IntKind.wrap_i64]; omega
 have hw4 : IntKind.i64.wrap (1 + nm % 40) = a := by rw [IntKind.wrap_i64]; omega
 have hw5 : IntKind.i64.wrap dn = dn := by rw [IntKind.wrap_i64]; omega
 have hw6 : IntKind.i64.wrap (dn.tmod 40) = dn % 40 := by rw [Int.tmod_eq_emod_of_nonneg (by omega), IntKind.wrap_i64]; omega
 have hw7 : IntKind.i64.wrap (1 + dn.tmod 40) = b := by rw [Int.tmod_eq_emod_of_nonneg (by omega), IntKind.wrap_i64]; omega
 have hw8 : IntKind.i64.wrap (1 + dn % 40) = b := by rw [IntKind.wrap_i64]; omega
 have hw9 : IntKind.i64.wrap fi = fi := by rw [IntKind.wrap_i64]; omega
 have hwa : IntKind.i64.wrap (1 + fi) = f := by rw [IntKind.wrap_i64]; omega
 have hA := sq_bd hab
 have hB := sq_bd hbb
 obtain ⟨A, hAe⟩ : ∃ A : Int, a * a = A := ⟨_, rfl⟩
 obtain ⟨B, hBe⟩ : ∃ B : Int, b * b = B := ⟨_, rfl⟩
 rw [hAe] at hA
 rw [hBe] at hB
 obtain ⟨B4, hB4⟩ : ∃ B4 : Int, 4 * b * b = B4 := ⟨_, rfl⟩
 obtain ⟨B40, hB40⟩ : ∃ B40 : Int, 40 * b * b = B40 := ⟨_, rfl⟩
 have h4e : B4 = 4 * B := by rw [← hB4, ← hBe, Int.mul_assoc]
 have h40e : B40 = 40 * B := by rw [← hB40, ← hBe, Int.mul_assoc]
 have h4b : 4 ≤ B4 ∧ B4 ≤ 6400 := by omega
 have h40b : 40 ≤ B40 ∧ B40 ≤ 64000 := by omega
 obtain ⟨qd, qc, mk1, HQ1, qn, _⟩ := make_rat (num := B4) (D := A) (by omega) (by omega)
 obtain ⟨ld, lc, mk2, HQ2, ln, _⟩ := make_rat (num := B40 - 1 - t) (D := A * 10) (by omega) (by omega)
 obtain ⟨hd, hc, mk3, HQ3, hn, _⟩ := make_rat (num := B40 + ov) (D := A * 10) (by omega) (by omega)
 obtain ⟨rd, rc, mk4, HQ4, rn, r1, r2, r3, r4⟩ := make_rat (num := a) (D := b) (by omega) (by omega)
 obtain ⟨sd, sc, mk5, HQ5, sn, _⟩ := make_rat (num := b) (D := a) (by omega) (by omega)
 obtain ⟨pl, wn⟩ := plus_one rn (by omega) (by omega)
 have HQ6 : Hid (RQ (rd, ratT (rc + rd)) (a + b) b) := hide ⟨by omega, rc + rd, rfl, wn, by rw [Int.add_mul, r4]; grind⟩
 have HQ1 := hide HQ1; have HQ2 := hide HQ2; have HQ3 := hide HQ3; have HQ4 := hide HQ4; have HQ5 := hide HQ5
 have MK1 := hide mk1; have MK2 := hide mk2; have MK3 := hide mk3; have MK4 := hide mk4; have MK5 := hide mk5; have HPL := hide pl
 have HAE := hide hAe; have HBE := hide hBe; have H4E := hide h4e; have H40E := hide h40e
 clear mk1 mk2 mk3 mk4 mk5 pl qn ln hn rn sn wn r1 r2 r3 r4 h4e h40e hBe
 have hv1 : IntKind.i64.wrap (a * a) = A := by rw [hAe, IntKind.wrap_i64]; omega
 have hv2 : IntKind.i64.wrap (4 * b * b) = B4 := by rw [hB4, IntKind.wrap_i64]; omega
 have hv3 : IntKind.i64.wrap (40 * b * b) = B40 := by rw [hB40, IntKind.wrap_i64]; omega
 go_enter Tryz.func8, Tryz.ntmps8
 go_upto_region 1 with fail
 have HB0 := hide (((Below.refl w.heap.size w).alloc (Nat.le_refl _) (.cells #[.int .u8 nm, .int .u8 dn, .int .u8 un, .int .u8 ov, .int .u16 fi] 69)).drew)
 have HP0 := hide ((Blk.new w 69 #[.int .u8 nm, .int .u8 dn, .int .u8 un, .int .u8 ov, .int .u16 fi]).drew)
 obtain ⟨W, hW⟩ : ∃ W, W = w.alloc (.cells #[.int .u8 nm, .int .u8 dn, .int .u8 un, .int .u8 ov, .int .u16 fi] 69) := ⟨_, rfl⟩
 rw [← hW] at HB0 HP0 ⊢
 have p0 : W.drew.cell? ⟨w.heap.size, 0, none⟩ = some (.int .u8 nm) := HP0.out.cell 0
 have p1 : W.drew.cell? ⟨w.heap.size, 1, none⟩ = some (.int .u8 dn) := HP0.out.cell 1
 have p4 : W.drew.cell? ⟨w.heap.size, 4, none⟩ = some (.int .u16 fi) := HP0.out.cell 4
 clear hW
 refine wp_region_till (fun w' => w' = W.drew) 50 (fun _ => True) 50 (fun _ => True) (by kernel_rfl) ⟨rfl, fun _ => trivial, fun _ => trivial⟩ (fun hHeld => ?_)
 refine wpTill_take 0 rfl (by decide +kernel) (fun c a w h => by first | exact h | (cases h; done)) (by rfl) (v := ?_) ?_ hHeld (fun hHeld' => ?_)
 rotate_left 1
 focus (intro w' hSw; obtain ⟨hC, hF, hG⟩ := hSw; clear hG; clear hC; clear hF; go_simp; first | done | with_reducible rfl)
 clear hHeld
 rename Till _ _ _ _ _ _ _ => hHeld
 (try simp only [Act.put, List.setIfInBounds_toArray, List.set_cons_zero, List.set_cons_succ])
 refine wpTill_take 1 rfl (by decide +kernel) (fun c a w h => by first | exact h | (cases h; done)) (by rfl) (v := ?_) ?_ hHeld (fun hHeld' => ?_)
 rotate_left 1
 focus (intro w' hSw; obtain ⟨hC, hF, hG⟩ := hSw; clear hG; subst hC; clear hF; go_simp; first | done | with_reducible rfl)
 clear hHeld
 rename Till _ _ _ _ _ _ _ => hHeld
 (try simp only [Act.put, List.setIfInBounds_toArray, List.set_cons_zero, List.set_cons_succ])
 refine wpTill_take 2 rfl (by decide +kernel) (fun c a w h => by first | exact h | (cases h; done)) (by rfl) (v := ?_) ?_ hHeld (fun hHeld' => ?_)
 rotate_left 1
 focus (intro w' hSw; obtain ⟨hC, hF, hG⟩ := hSw; clear hG; clear hC; clear hF; go_simp; first | done | with_reducible rfl)
 clear hHeld
 rename Till _ _ _ _ _ _ _ => hHeld
 (try simp only [Act.put, List.setIfInBounds_toArray, List.set_cons_zero, List.set_cons_succ])
 refine wpTill_take 3 rfl (by decide +kernel) (fun c a w h => by first | exact h | (cases h; done)) (by rfl) (v := ?_) ?_ hHeld (fun hHeld' => ?_)
 rotate_left 1
 focus (intro w' hSw; obtain ⟨hC, hF, hG⟩ := hSw; clear hG; clear hC; clear hF; go_simp; first | done | with_reducible rfl)
 clear hHeld
 rename Till _ _ _ _ _ _ _ => hHeld
 (try simp only [Act.put, List.setIfInBounds_toArray, List.set_cons_zero, List.set_cons_succ])
 refine wpTill_take 4 rfl (by decide +kernel) (fun c a w h => by first | exact h | (cases h; done)) (by rfl) (v := ?_) ?_ hHeld (fun hHeld' => ?_)
 rotate_left 1
 focus (intro w' hSw; obtain ⟨hC, hF, hG⟩ := hSw; clear hG; clear hC; clear hF; go_simp; first | done | with_reducible rfl)
 clear hHeld
 rename Till _ _ _ _ _ _ _ => hHeld
 (try simp only [Act.put, List.setIfInBounds_toArray, List.set_cons_zero, List.set_cons_succ])
 refine wpTill_take 5 rfl (by decide +kernel) (fun c a w h => by first | exact h | (cases h; done)) (by rfl) (v := ?_) ?_ hHeld (fun hHeld' => ?_)
 rotate_left 1
 focus (intro w' hSw; obtain ⟨hC, hF, hG⟩ := hSw; clear hG; clear hC; clear hF; go_simp; first | done | with_reducible rfl)
 clear hHeld
 rename Till _ _ _ _ _ _ _ => hHeld
 (try simp only [Act.put, List.setIfInBounds_toArray, List.set_cons_zero, List.set_cons_succ])
 refine wpTill_take 6 rfl (by decide +kernel) (fun c a w h => by first | exact h | (cases h; done)) (by rfl) (v := ?_) ?_ hHeld (fun hHeld' => ?_)
 rotate_left 1
 focus (intro w' hSw; obtain ⟨hC, hF, hG⟩ := hSw; clear hG; subst hC; clear hF; go_simp; first | done | with_reducible rfl)
 clear hHeld
 rename Till _ _ _ _ _ _ _ => hHeld
 (try simp only [Act.put, List.setIfInBounds_toArray, List.set_cons_zero, List.set_cons_succ])
 refine wpTill_take 7 rfl (by decide +kernel) (fun c a w h => by first | exact h | (cases h; done)) (by rfl) (v := ?_) ?_ hHeld (fun hHeld' => ?_)
 rotate_left 1
 focus (intro w' hSw; obtain ⟨hC, hF, hG⟩ := hSw; clear hG; clear hC; clear hF; go_simp; first | done | with_reducible rfl)
 clear hHeld
 rename Till _ _ _ _ _ _ _ => hHeld
 (try simp only [Act.put, List.setIfInBounds_toArray, List.set_cons_zero, List.set_cons_succ])
 refine wpTill_take 8 rfl (by decide +kernel) (fun c a w h => by first | exact h | (cases h; done)) (by rfl) (v := ?_) ?_ hHeld (fun hHeld' => ?_)
 rotate_left 1
 focus (intro w' hSw; obtain ⟨hC, hF, hG⟩ := hSw; clear hG; clear hC; clear hF; go_simp; first | done | with_reducible rfl)
 clear hHeld
 rename Till _ _ _ _ _ _ _ => hHeld
 (try simp only [Act.put, List.setIfInBounds_toArray, List.set_cons_zero, List.set_cons_succ])
 refine wpTill_take 9 rfl (by decide +kernel) (fun c a w h => by first | exact h | (cases h; done)) (by rfl) (v := ?_) ?_ hHeld (fun hHeld' => ?_)
 rotate_left 1
 focus (intro w' hSw; obtain ⟨hC, hF, hG⟩ := hSw; clear hG; clear hC; clear hF; go_simp; first | done | with_reducible rfl)
 clear hHeld
 rename Till _ _ _ _ _ _ _ => hHeld
 (try simp only [Act.put, List.setIfInBounds_toArray, List.set_cons_zero, List.set_cons_succ])
 refine wpTill_take 10 rfl (by decide +kernel) (fun c a w h => by first | exact h | (cases h; done)) (by rfl) (v := ?_) ?_ hHeld (fun hHeld' => ?_)
 rotate_left 1
 focus (intro w' hSw; obtain ⟨hC, hF, hG⟩ := hSw; clear hG; clear hC; clear hF; go_simp; first | done | with_reducible rfl)
 clear hHeld
 rename Till _ _ _ _ _ _ _ => hHeld
 (try simp only [Act.put, List.setIfInBounds_toArray, List.set_cons_zero, List.set_cons_succ])
 refine wpTill_take 11 rfl (by decide +kernel) (fun c a w h => by first | exact h | (cases h; done)) (by rfl) (v := ?_) ?_ hHeld (fun hHeld' => ?_)
 rotate_left 1
 focus (intro w' hSw; obtain ⟨hC, hF, hG⟩ := hSw; clear hG; subst hC; clear hF; go_simp; first | done | with_reducible rfl)
 clear hHeld
 rename Till _ _ _ _ _ _ _ => hHeld
 (try simp only [Act.put, List.setIfInBounds_toArray, List.set_cons_zero, List.set_cons_succ])
 refine wpTill_take 12 rfl (by decide +kernel) (fun c a w h => by first | exact h | (cases h; done)) (by rfl) (v := ?_) ?_ hHeld (fun hHeld' => ?_)
 rotate_left 1
 focus (intro w' hSw; obtain ⟨hC, hF, hG⟩ := hSw; clear hG; clear hC; clear hF; go_simp; first | done | with_reducible rfl)
 clear hHeld
 rename Till _ _ _ _ _ _ _ => hHeld
 (try simp only [Act.put, List.setIfInBounds_toArray, List.set_cons_zero, List.set_cons_succ])
 refine wpTill_take 13 rfl (by decide +kernel) (fun c a w h => by first | exact h | (cases h; done)) (by rfl) (v := ?_) ?_ hHeld (fun hHeld' => ?_)
 rotate_left 1
 focus (intro w' hSw; obtain ⟨hC, hF, hG⟩ := hSw; clear hG; clear hC; clear hF; go_simp; first | done | with_reducible rfl)
 clear hHeld
 rename Till _ _ _ _ _ _ _ => hHeld
 (try simp only [Act.put, List.setIfInBounds_toArray, List.set_cons_zero, List.set_cons_succ])
 refine wpTill_take 14 rfl (by decide +kernel) (fun c a w h => by first | exact h | (cases h; done)) (by rfl) (v := ?_) ?_ hHeld (fun hHeld' => ?_)
 rotate_left 1
 focus (intro w' hSw; obtain ⟨hC, hF, hG⟩ := hSw; clear hG; clear hC; clear hF; go_simp; first | done | with_reducible rfl)
 clear hHeld
 rename Till _ _ _ _ _ _ _ => hHeld
 (try simp only [Act.put, List.setIfInBounds_toArray, List.set_cons_zero, List.set_cons_succ])
 refine wpTill_take 15 rfl (by decide +kernel) (fun c a w h => by first | exact h | (cases h; done)) (by rfl) (v := ?_) ?_ hHeld (fun hHeld' => ?_)
 rotate_left 1
 focus (intro w' hSw; obtain ⟨hC, hF, hG⟩ := hSw; clear hG; clear hC; clear hF; go_simp; first | done | with_reducible rfl)
 clear hHeld
 rename Till _ _ _ _ _ _ _ => hHeld
 (try simp only [Act.put, List.setIfInBounds_toArray, List.set_cons_zero, List.set_cons_succ])
 refine wpTill_take 16 rfl (by decide +kernel) (fun c a w h => by first | exact h | (cases h; done)) (by rfl) (v := ?_) ?_ hHeld (fun hHeld' => ?_)
 rotate_left 1
 focus (intro w' hSw; obtain ⟨hC, hF, hG⟩ := hSw; clear hG; clear hC; clear hF; go_simp; first | done | with_reducible rfl)
 clear hHeld
 rename Till _ _ _ _ _ _ _ => hHeld
 (try simp only [Act.put, List.setIfInBounds_toArray, List.set_cons_zero, List.set_cons_succ])
 refine wpTill_done (by decide +kernel) ?_
 clear hHeld
 clear hw1 hw2 hw3 hw4 hw5 hw6 hw7 hw8 hw9 hwa p0 p1 p4 ha hb hf
 have HB1 := hide HB0.out
 have HP1 := hide HP0.out
 clear HB0 HP0
 obtain ⟨X1, hX1⟩ : ∃ X, X = w.heap.size := ⟨_, rfl⟩
 rw [← hX1] at HP1 ⊢
 have hzw : w.heap.size ≤ W.drew.heap.size := HB1.out.size
 have HS : Hid ((Below w.heap.size w W.drew ∧ w.heap.size ≤ W.drew.heap.size) ∧ Blk W.drew X1 69 #[.int .u8 nm, .int .u8 dn, .int .u8 un, .int .u8 ov, .int .u16 fi]) := hide ⟨⟨HB1.out, hzw⟩, HP1.out⟩
 clear HB1 HP1 hzw hX1
 rw [show IntKind.i64.wrap f = f by rw [IntKind.wrap_i64]; omega]
 generalize W.drew = W1 at *
 have HM := hide (make_one W1 (B4) (A))
 rw [MK1.out] at HM
 clear MK1
 go_upto_region 3 with (first
  | (go_at_call 38; refine HM.out.mono ?_; rintro e w2 ⟨A6, n6, c6, rfl, ho, hb⟩
     have HS2 := hide (Kept.keep (S := fun W => ((Below w.heap.size w W ∧ w.heap.size ≤ W.heap.size) ∧ Blk W X1 69 #[.int .u8 nm, .int .u8 dn, .int .u8 un, .int .u8 ov, .int .u16 fi])) _ _ HS.out (((Below.refl _ _).alloc (Nat.le_refl _) _).trans (hb.mono (by simp))))
     have HO2 := hide (own_le ho (Nat.zero_le _))
     clear ho hb HM))
 have HS3 := hide (And.intro (Kept.keep (S := fun W => ((Below w.heap.size w W ∧ w.heap.size ≤ W.heap.size) ∧ Blk W X1 69 #[.int .u8 nm, .int .u8 dn, .int .u8 un, .int .u8 ov, .int .u16 fi])) _ _ HS2.out ((Below.refl _ _).alloc (Nat.le_refl _) (.cells #[.int .i64 (qd), .slice A6 n6 c6] 33))) (Vr.new (d := qd) HO2.out))
 obtain ⟨X6, hX⟩ : ∃ X, X = w2.heap.size := ⟨_, rfl⟩
 rw [← hX] at HS3 ⊢
 clear hX HS2 HO2 HS
 generalize w2.alloc (.cells #[.int .i64 qd, .slice A6 n6 c6] 33) = W2 at *
 have HS := hide HS3.out
 clear HS3
 have d2 : W2.cell? ⟨X1, 2, none⟩ = some (.int .u8 un) := HS.out.1.2.cell 2
 have HM := hide (make_one W2 (B40 - 1 - t) (A * 10))
 rw [MK2.out] at HM
 clear MK2
 go_upto_region 6 with (first
  | (go_at_call 38; refine HM.out.mono ?_; rintro e w2 ⟨A8, n8, c8, rfl, ho, hb⟩
     have HS2 := hide (Kept.keep (S := fun W => (((Below w.heap.size w W ∧ w.heap.size ≤ W.heap.size) ∧ Blk W X1 69 #[.int .u8 nm, .int .u8 dn, .int .u8 un, .int .u8 ov, .int .u16 fi]) ∧ Vr X6 qd A6 n6 c6 (ratT qc) W)) _ _ HS.out (((Below.refl _ _).alloc (Nat.le_refl _) _).trans (hb.mono (by simp))))
     have HO2 := hide (own_le ho (Nat.zero_le _))
     clear ho hb HM))
 have HS3 := hide (And.intro (Kept.keep (S := fun W => (((Below w.heap.size w W ∧ w.heap.size ≤ W.heap.size) ∧ Blk W X1 69 #[.int .u8 nm, .int .u8 dn, .int .u8 un, .int .u8 ov, .int .u16 fi]) ∧ Vr X6 qd A6 n6 c6 (ratT qc) W)) _ _ HS2.out ((Below.refl _ _).alloc (Nat.le_refl _) (.cells #[.int .i64 (ld), .slice A8 n8 c8] 33))) (Vr.new (d := ld) HO2.out))
 obtain ⟨X8, hX⟩ : ∃ X, X = w2.heap.size := ⟨_, rfl⟩
 rw [← hX] at HS3 ⊢
 clear hX HS2 HO2 HS
 generalize w2.alloc (.cells #[.int .i64 ld, .slice A8 n8 c8] 33) = W3 at *
 have HS := hide HS3.out
 clear HS3
 clear d2
 have d3 : W3.cell? ⟨X1, 3, none⟩ = some (.int .u8 ov) := HS.out.1.1.2.cell 3
 have HM := hide (make_one W3 (B40 + ov) (A * 10))
 rw [MK3.out] at HM
 clear MK3
 go_upto_region 7 with (first
  | (go_at_call 38; refine HM.out.mono ?_; rintro e w2 ⟨A9, n9, c9, rfl, ho, hb⟩
     have HS2 := hide (Kept.keep (S := fun W => ((((Below w.heap.size w W ∧ w.heap.size ≤ W.heap.size) ∧ Blk W X1 69 #[.int .u8 nm, .int .u8 dn, .int .u8 un, .int .u8 ov, .int .u16 fi]) ∧ Vr X6 qd A6 n6 c6 (ratT qc) W) ∧ Vr X8 ld A8 n8 c8 (ratT lc) W)) _ _ HS.out (((Below.refl _ _).alloc (Nat.le_refl _) _).trans (hb.mono (by simp))))
     have HO2 := hide (own_le ho (Nat.zero_le _))
     clear ho hb HM))
 have HS3 := hide (And.intro (Kept.keep (S := fun W => ((((Below w.heap.size w W ∧ w.heap.size ≤ W.heap.size) ∧ Blk W X1 69 #[.int .u8 nm, .int .u8 dn, .int .u8 un, .int .u8 ov, .int .u16 fi]) ∧ Vr X6 qd A6 n6 c6 (ratT qc) W) ∧ Vr X8 ld A8 n8 c8 (ratT lc) W)) _ _ HS2.out ((Below.refl _ _).alloc (Nat.le_refl _) (.cells #[.int .i64 (hd), .slice A9 n9 c9] 33))) (Vr.new (d := hd) HO2.out))
 obtain ⟨X9, hX⟩ : ∃ X, X = w2.heap.size := ⟨_, rfl⟩
 rw [← hX] at HS3 ⊢
 clear hX HS2 HO2 HS
 generalize w2.alloc (.cells #[.int .i64 hd, .slice A9 n9 c9] 33) = W4 at *
 have HS := hide HS3.out
 clear HS3
 clear d3
 have HM := hide (make_one W4 (a) (b))
 rw [MK4.out] at HM
 clear MK4
 go_upto_region 8 with (first
  | (go_at_call 38; refine HM.out.mono ?_; rintro e w2 ⟨A11, n11, c11, rfl, ho, hb⟩
     have HS2 := hide (Kept.keep (S := fun W => (((((Below w.heap.size w W ∧ w.heap.size ≤ W.heap.size) ∧ Blk W X1 69 #[.int .u8 nm, .int .u8 dn, .int .u8 un, .int .u8 ov, .int .u16 fi]) ∧ Vr X6 qd A6 n6 c6 (ratT qc) W) ∧ Vr X8 ld A8 n8 c8 (ratT lc) W) ∧ Vr X9 hd A9 n9 c9 (ratT hc) W)) _ _ HS.out (((Below.refl _ _).alloc (Nat.le_refl _) _).trans (hb.mono (by simp))))
     have HO2 := hide (own_le ho (Nat.zero_le _))
     clear ho hb HM))
 have HS3 := hide (And.intro (Kept.keep (S := fun W => (((((Below w.heap.size w W ∧ w.heap.size ≤ W.heap.size) ∧ Blk W X1 69 #[.int .u8 nm, .int .u8 dn, .int .u8 un, .int .u8 ov, .int .u16 fi]) ∧ Vr X6 qd A6 n6 c6 (ratT qc) W) ∧ Vr X8 ld A8 n8 c8 (ratT lc) W) ∧ Vr X9 hd A9 n9 c9 (ratT hc) W)) _ _ HS2.out ((Below.refl _ _).alloc (Nat.le_refl _) (.cells #[.int .i64 (rd), .slice A11 n11 c11] 33))) (Vr.new (d := rd) HO2.out))
 obtain ⟨X11, hX⟩ : ∃ X, X = w2.heap.size := ⟨_, rfl⟩
 rw [← hX] at HS3 ⊢
 clear hX HS2 HO2 HS
 generalize w2.alloc (.cells #[.int .i64 rd, .slice A11 n11 c11] 33) = W5 at *
 have HS := hide HS3.out
 clear HS3
 go_upto_region 10 with fail
 obtain ⟨u11, v11, _, _⟩ := (HS.out.2.1).two
 have h11 : X11 < W5.heap.size := (HS.out.2.1).lt
 obtain ⟨u8, v8, _, _⟩ := (HS.out.1.1.2.1).two
 have h8 : X8 < W5.heap.size := (HS.out.1.1.2.1).lt
 obtain ⟨u9, v9, _, _⟩ := (HS.out.1.2.1).two
 have h9 : X9 < W5.heap.size := (HS.out.1.2.1).lt
 have HN11 : Hid (n11 ≤ 1000) := hide (Vr.small HS.out.2)
 have HN8 : Hid (n8 ≤ 1000) := hide (Vr.small HS.out.1.1.2)
 have HN9 : Hid (n9 ≤ 1000) := hide (Vr.small HS.out.1.2)
 have HGd : Hid (((((((Below w.heap.size w W5.drew ∧ w.heap.size ≤ W5.drew.heap.size) ∧ Blk W5.drew X1 69 #[.int .u8 nm, .int .u8 dn, .int .u8 un, .int .u8 ov, .int .u16 fi]) ∧ Vr X6 qd A6 n6 c6 (ratT qc) W5.drew) ∧ Vr X8 ld A8 n8 c8 (ratT lc) W5.drew) ∧ Vr X9 hd A9 n9 c9 (ratT hc) W5.drew) ∧ Vr X11 rd A11 n11 c11 (ratT rc) W5.drew) ∧ (Below W5.heap.size W5 W5.drew ∧ W5.heap.size ≤ W5.drew.heap.size)) := hide ⟨Kept.keep (S := fun W => ((((((Below w.heap.size w W ∧ w.heap.size ≤ W.heap.size) ∧ Blk W X1 69 #[.int .u8 nm, .int .u8 dn, .int .u8 un, .int .u8 ov, .int .u16 fi]) ∧ Vr X6 qd A6 n6 c6 (ratT qc) W) ∧ Vr X8 ld A8 n8 c8 (ratT lc) W) ∧ Vr X9 hd A9 n9 c9 (ratT hc) W) ∧ Vr X11 rd A11 n11 c11 (ratT rc) W)) _ _ HS.out (Below.drew (Below.refl _ _)), Below.drew (Below.refl _ _), Nat.le_refl _⟩
 refine wp_region_flow 13 (fun W' => Below W5.heap.size W5 W') (fun _ _ _ => True) [] (fun W' => ((((((Below w.heap.size w W' ∧ w.heap.size ≤ W'.heap.size) ∧ Blk W' X1 69 #[.int .u8 nm, .int .u8 dn, .int .u8 un, .int .u8 ov, .int .u16 fi]) ∧ Vr X6 qd A6 n6 c6 (ratT qc) W') ∧ Vr X8 ld A8 n8 c8 (ratT lc) W') ∧ Vr X9 hd A9 n9 c9 (ratT hc) W') ∧ Vr X11 rd A11 n11 c11 (ratT rc) W') ∧ (Below W5.heap.size W5 W' ∧ W5.heap.size ≤ W'.heap.size)) (by kernel_rfl)
  (Floats.of (by decide +kernel) (fun c a d v w => by cases d <;> exact Iff.rfl) (by intro i hi; cases hi) (fun _ _ _ _ _ _ => trivial))
  (fun _ _ _ h => h) (by decide) HGd.out (fun W h => h.2.1) (fun HFL => ?_)
 refine Safe.take 0 (v := ?_) rfl rfl HFL (by decide +kernel) (fun W h => h.2.1) (by rfl) (fun W hF => ?_) ?_
 rotate_left 1
 focus (have hF := hF (by decide +kernel); have e1 := (hF.cell (p := ⟨X11, 0, none⟩) h11).trans u11; have e2 := (hF.cell (p := ⟨X11, 1, none⟩) h11).trans v11; clear hF; go_simp; first | done | with_reducible rfl)
 (try simp only [Act.put, List.setIfInBounds_toArray, List.set_cons_zero, List.set_cons_succ])
 refine Safe.take 2 (v := ?_) rfl rfl HFL (by decide +kernel) (fun W h => h.2.1) (by rfl) (fun W hF => ?_) ?_
 rotate_left 1
 focus (have hF := hF (by decide +kernel); have e1 := (hF.cell (p := ⟨X8, 0, none⟩) h8).trans u8; have e2 := (hF.cell (p := ⟨X8, 1, none⟩) h8).trans v8; clear hF; go_simp; first | done | with_reducible rfl)
 (try simp only [Act.put, List.setIfInBounds_toArray, List.set_cons_zero, List.set_cons_succ])
 refine Safe.take 4 (v := ?_) rfl rfl HFL (by decide +kernel) (fun W h => h.2.1) (by rfl) (fun W hF => ?_) ?_
 rotate_left 1
 focus (have hF := hF (by decide +kernel); have e1 := (hF.cell (p := ⟨X9, 0, none⟩) h9).trans u9; have e2 := (hF.cell (p := ⟨X9, 1, none⟩) h9).trans v9; clear hF; go_simp; first | done | with_reducible rfl)
 (try simp only [Act.put, List.setIfInBounds_toArray, List.set_cons_zero, List.set_cons_succ])
 refine Safe.take 7 (v := ?_) rfl rfl HFL (by decide +kernel) (fun W h => h.2.1) (by rfl) (fun W hF => ?_) ?_
 rotate_left 1
 focus (clear hF; go_simp; first | done | with_reducible rfl)
 (try simp only [Act.put, List.setIfInBounds_toArray, List.set_cons_zero, List.set_cons_succ])
 refine Safe.on 1 (fun x : Sl => .agg #[.int .i64 (rd), .slice x.1 x.2.1 x.2.2]) (fun x W => OwnN 0 x (ratT rc) W) rfl rfl HFL (by decide +kernel) (fun W h => h.2.1) (fun W hG K' hK => ?_) (fun x1 hF1 => ?_)
 focus
  have HC := hide (own_num_any rd A11 n11 c11 W.heap.size (ratT rc) W (Rq.of (terms_own (hG.1.2.2))) (Nat.le_refl _) HN11.out)
  clear hG
  go_simp
  go_wp2_with (first
   | (go_at_call 19; refine HC.out.mono ?_; rintro e w6 ⟨A, n, c, rfl, ho, hb⟩
      have HO := hide (own_le ho (Nat.zero_le _)); have HBB := hide hb; clear ho hb))
  exact hK.out (A, n, c) _ HO.out HBB.out
 (try simp only [Act.put, List.setIfInBounds_toArray, List.set_cons_zero, List.set_cons_succ])
 refine Safe.on 3 (fun x : Sl => .agg #[.int .i64 (ld), .slice x.1 x.2.1 x.2.2]) (fun x W => OwnN 0 x (ratT lc) W) rfl rfl HFL (by decide +kernel) hF1 (fun W hG K' hK => ?_) (fun x3 hF3 => ?_)
 focus
  have HC := hide (own_num_any ld A8 n8 c8 W.heap.size (ratT lc) W (Rq.of (terms_own (hG.1.1.1.1.2.2))) (Nat.le_refl _) HN8.out)
  clear hG
  go_simp
  go_wp2_with (first
   | (go_at_call 19; refine HC.out.mono ?_; rintro e w6 ⟨A, n, c, rfl, ho, hb⟩
      have HO := hide (own_le ho (Nat.zero_le _)); have HBB := hide hb; clear ho hb))
  exact hK.out (A, n, c) _ HO.out HBB.out
 (try simp only [Act.put, List.setIfInBounds_toArray, List.set_cons_zero, List.set_cons_succ])
 refine Safe.on 5 (fun x : Sl => .agg #[.int .i64 (hd), .slice x.1 x.2.1 x.2.2]) (fun x W => OwnN 0 x (ratT hc) W) rfl rfl HFL (by decide +kernel) hF3 (fun W hG K' hK => ?_) (fun x5 hF5 => ?_)
 focus
  have HC := hide (own_num_any hd A9 n9 c9 W.heap.size (ratT hc) W (Rq.of (terms_own (hG.1.1.1.1.2.2))) (Nat.le_refl _) HN9.out)
  clear hG
  go_simp
  go_wp2_with (first
   | (go_at_call 19; refine HC.out.mono ?_; rintro e w6 ⟨A, n, c, rfl, ho, hb⟩
      have HO := hide (own_le ho (Nat.zero_le _)); have HBB := hide hb; clear ho hb))
  exact hK.out (A, n, c) _ HO.out HBB.out
 (try simp only [Act.put, List.setIfInBounds_toArray, List.set_cons_zero, List.set_cons_succ])
 refine Safe.take 6 (v := ?_) rfl rfl HFL (by decide +kernel) hF5 (by rfl) (fun W hF => ?_) ?_
 rotate_left 1
 focus (clear hF; go_simp; first | done | with_reducible rfl)
 (try simp only [Act.put, List.setIfInBounds_toArray, List.set_cons_zero, List.set_cons_succ])
 refine Safe.on 8 (fun x : Int × Int × Int => .tuple #[.int .i64 x.1, .int .i64 x.2.1, .int .i64 x.2.2]) (fun x W => CircleRes (rd, ratT rc) (ld, ratT lc) (hd, ratT hc) f x.1 x.2.1 x.2.2) rfl rfl HFL (by decide +kernel) hF5 (fun W hG K' hK => ?_) (fun x8 hF8 => ?_)
 focus
  have HC := hide (circling_any rd x1.1 x1.2.1 x1.2.2 (ratT rc) ld x3.1 x3.2.1 x3.2.2 (ratT lc) hd x5.1 x5.2.1 x5.2.2 (ratT hc) f W.heap.size W (terms_own (hG.1.1.2)) (terms_own (hG.1.2)) (terms_own (hG.2)) (Nat.le_refl _))
  clear hG
  go_simp
  go_wp2_with (first
   | (go_at_call 27; refine HC.out.mono ?_; rintro e w6 ⟨low, high, cc, rfl, hcr, hb⟩
      have HCR := hide hcr; have HBB := hide hb; clear hcr hb))
  exact hK.out (low, high, cc) _ HCR.out HBB.out
 (try simp only [Act.put, List.setIfInBounds_toArray, List.set_cons_zero, List.set_cons_succ])
 refine Safe.fin rfl hF8 (fun W6 hG hHeld => ?_)
 have HS0 := hide (hG.1.1.1.1.1)
 have HCR := hide hG.2
 clear hG HGd HFL hF1 hF3 hF5 hF8 HS u11 v11 h11 HN11 u8 v8 h8 HN8 u9 v9 h9 HN9
 have HS := hide HS0.out
 clear HS0
 refine wpTill_take 9 rfl (by decide +kernel) (fun c a w h => by first | exact h | (cases h; done)) (by rfl) (v := ?_) ?_ hHeld (fun hHeld' => ?_)
 rotate_left 1
 focus (intro w' hSw; obtain ⟨hC, hF, hG⟩ := hSw; clear hG; clear hF; go_simp; first | done | with_reducible rfl)
 clear hHeld
 rename Till _ _ _ _ _ _ _ => hHeld
 (try simp only [Act.put, List.setIfInBounds_toArray, List.set_cons_zero, List.set_cons_succ])
 refine wpTill_take 10 rfl (by decide +kernel) (fun c a w h => by first | exact h | (cases h; done)) (by rfl) (v := ?_) ?_ hHeld (fun hHeld' => ?_)
 rotate_left 1
 focus (intro w' hSw; obtain ⟨hC, hF, hG⟩ := hSw; clear hG; clear hF; go_simp; first | done | with_reducible rfl)
 clear hHeld
 rename Till _ _ _ _ _ _ _ => hHeld
 (try simp only [Act.put, List.setIfInBounds_toArray, List.set_cons_zero, List.set_cons_succ])
 refine wpTill_take 11 rfl (by decide +kernel) (fun c a w h => by first | exact h | (cases h; done)) (by rfl) (v := ?_) ?_ hHeld (fun hHeld' => ?_)
 rotate_left 1
 focus (intro w' hSw; obtain ⟨hC, hF, hG⟩ := hSw; clear hG; clear hF; go_simp; first | done | with_reducible rfl)
 clear hHeld
 rename Till _ _ _ _ _ _ _ => hHeld
 (try simp only [Act.put, List.setIfInBounds_toArray, List.set_cons_zero, List.set_cons_succ])
 refine wpTill_take 12 rfl (by decide +kernel) (fun c a w h => by first | exact h | (cases h; done)) (by rfl) (v := ?_) ?_ hHeld (fun hHeld' => ?_)
 rotate_left 1
 focus (intro w' hSw; obtain ⟨hC, hF, hG⟩ := hSw; clear hG; clear hF; go_simp; first | done | with_reducible rfl)
 clear hHeld
 rename Till _ _ _ _ _ _ _ => hHeld
 (try simp only [Act.put, List.setIfInBounds_toArray, List.set_cons_zero, List.set_cons_succ])
 refine wpTill_one 13 rfl (by decide +kernel) (fun K hK => ?_)
 go_simp
 refine hK.out _ _ ⟨trivial, fun h => absurd h (by decide +kernel), fun _ => trivial⟩ (fun hHeld => ?_)
 clear hK K
 (try simp only [Act.put, List.setIfInBounds_toArray, List.set_cons_zero, List.set_cons_succ])
 refine wpTill_take 14 rfl (by decide +kernel) (fun c a w h => by first | exact h | (cases h; done)) (by rfl) (v := ?_) ?_ hHeld (fun hHeld' => ?_)
 rotate_left 1
 focus (intro w' hSw; obtain ⟨hC, hF, hG⟩ := hSw; clear hG; clear hF; go_simp; first | done | with_reducible rfl)
 clear hHeld
 rename Till _ _ _ _ _ _ _ => hHeld
 (try simp only [Act.put, List.setIfInBounds_toArray, List.set_cons_zero, List.set_cons_succ])
 refine wpTill_take 15 rfl (by decide +kernel) (fun c a w h => by first | exact h | (cases h; done)) (by rfl) (v := ?_) ?_ hHeld (fun hHeld' => ?_)
 rotate_left 1
 focus (intro w' hSw; obtain ⟨hC, hF, hG⟩ := hSw; clear hG; clear hF; go_simp; first | done | with_reducible rfl)
 clear hHeld
 rename Till _ _ _ _ _ _ _ => hHeld
 (try simp only [Act.put, List.setIfInBounds_toArray, List.set_cons_zero, List.set_cons_succ])
 refine wpTill_done (by decide +kernel) ?_
 clear hHeld
 obtain ⟨x, y, c1⟩ := x8
 dsimp only at HCR
 have HP1 := hide (circ_RQ HQ4.out (by omega) HQ2.out (by omega) HQ3.out (Int.mul_le_mul_of_nonneg_right (by omega) (by omega)) hfb HCR.out)
 clear HCR
 go_upto_region 11 with fail
 obtain ⟨u11, v11, _, _⟩ := (HS.out.2.1).two
 have h11 : X11 < W6.heap.size := (HS.out.2.1).lt
 obtain ⟨u6, v6, _, _⟩ := (HS.out.1.1.1.2.1).two
 have h6 : X6 < W6.heap.size := (HS.out.1.1.1.2.1).lt
 obtain ⟨u9, v9, _, _⟩ := (HS.out.1.2.1).two
 have h9 : X9 < W6.heap.size := (HS.out.1.2.1).lt
 have HN11 : Hid (n11 ≤ 1000) := hide (Vr.small HS.out.2)
 have HN6 : Hid (n6 ≤ 1000) := hide (Vr.small HS.out.1.1.1.2)
 have HN9 : Hid (n9 ≤ 1000) := hide (Vr.small HS.out.1.2)
 have HGd : Hid (((((((Below w.heap.size w W6.drew ∧ w.heap.size ≤ W6.drew.heap.size) ∧ Blk W6.drew X1 69 #[.int .u8 nm, .int .u8 dn, .int .u8 un, .int .u8 ov, .int .u16 fi]) ∧ Vr X6 qd A6 n6 c6 (ratT qc) W6.drew) ∧ Vr X8 ld A8 n8 c8 (ratT lc) W6.drew) ∧ Vr X9 hd A9 n9 c9 (ratT hc) W6.drew) ∧ Vr X11 rd A11 n11 c11 (ratT rc) W6.drew) ∧ (Below W6.heap.size W6 W6.drew ∧ W6.heap.size ≤ W6.drew.heap.size)) := hide ⟨Kept.keep (S := fun W => ((((((Below w.heap.size w W ∧ w.heap.size ≤ W.heap.size) ∧ Blk W X1 69 #[.int .u8 nm, .int .u8 dn, .int .u8 un, .int .u8 ov, .int .u16 fi]) ∧ Vr X6 qd A6 n6 c6 (ratT qc) W) ∧ Vr X8 ld A8 n8 c8 (ratT lc) W) ∧ Vr X9 hd A9 n9 c9 (ratT hc) W) ∧ Vr X11 rd A11 n11 c11 (ratT rc) W)) _ _ HS.out (Below.drew (Below.refl _ _)), Below.drew (Below.refl _ _), Nat.le_refl _⟩
 refine wp_region_flow 13 (fun W' => Below W6.heap.size W6 W') (fun _ _ _ => True) [] (fun W' => ((((((Below w.heap.size w W' ∧ w.heap.size ≤ W'.heap.size) ∧ Blk W' X1 69 #[.int .u8 nm, .int .u8 dn, .int .u8 un, .int .u8 ov, .int .u16 fi]) ∧ Vr X6 qd A6 n6 c6 (ratT qc) W') ∧ Vr X8 ld A8 n8 c8 (ratT lc) W') ∧ Vr X9 hd A9 n9 c9 (ratT hc) W') ∧ Vr X11 rd A11 n11 c11 (ratT rc) W') ∧ (Below W6.heap.size W6 W' ∧ W6.heap.size ≤ W'.heap.size)) (by kernel_rfl)
  (Floats.of (by decide +kernel) (fun c a d v w => by cases d <;> exact Iff.rfl) (by intro i hi; cases hi) (fun _ _ _ _ _ _ => trivial))
  (fun _ _ _ h => h) (by decide) HGd.out (fun W h => h.2.1) (fun HFL => ?_)
 refine Safe.take 0 (v := ?_) rfl rfl HFL (by decide +kernel) (fun W h => h.2.1) (by rfl) (fun W hF => ?_) ?_
 rotate_left 1
 focus (have hF := hF (by decide +kernel); have e1 := (hF.cell (p := ⟨X11, 0, none⟩) h11).trans u11; have e2 := (hF.cell (p := ⟨X11, 1, none⟩) h11).trans v11; clear hF; go_simp; first | done | with_reducible rfl)
 (try simp only [Act.put, List.setIfInBounds_toArray, List.set_cons_zero, List.set_cons_succ])
 refine Safe.take 2 (v := ?_) rfl rfl HFL (by decide +kernel) (fun W h => h.2.1) (by rfl) (fun W hF => ?_) ?_
 rotate_left 1
 focus (have hF := hF (by decide +kernel); have e1 := (hF.cell (p := ⟨X6, 0, none⟩) h6).trans u6; have e2 := (hF.cell (p := ⟨X6, 1, none⟩) h6).trans v6; clear hF; go_simp; first | done | with_reducible rfl)
 (try simp only [Act.put, List.setIfInBounds_toArray, List.set_cons_zero, List.set_cons_succ])
 refine Safe.take 4 (v := ?_) rfl rfl HFL (by decide +kernel) (fun W h => h.2.1) (by rfl) (fun W hF => ?_) ?_
 rotate_left 1
 focus (have hF := hF (by decide +kernel); have e1 := (hF.cell (p := ⟨X9, 0, none⟩) h9).trans u9; have e2 := (hF.cell (p := ⟨X9, 1, none⟩) h9).trans v9; clear hF; go_simp; first | done | with_reducible rfl)
 (try simp only [Act.put, List.setIfInBounds_toArray, List.set_cons_zero, List.set_cons_succ])
 refine Safe.take 7 (v := ?_) rfl rfl HFL (by decide +kernel) (fun W h => h.2.1) (by rfl) (fun W hF => ?_) ?_
 rotate_left 1
 focus (clear hF; go_simp; first | done | with_reducible rfl)
 (try simp only [Act.put, List.setIfInBounds_toArray, List.set_cons_zero, List.set_cons_succ])
 refine Safe.on 1 (fun x : Sl => .agg #[.int .i64 (rd), .slice x.1 x.2.1 x.2.2]) (fun x W => OwnN 0 x (ratT rc) W) rfl rfl HFL (by decide +kernel) (fun W h => h.2.1) (fun W hG K' hK => ?_) (fun x1 hF1 => ?_)
 focus
  have HC := hide (own_num_any rd A11 n11 c11 W.heap.size (ratT rc) W (Rq.of (terms_own (hG.1.2.2))) (Nat.le_refl _) HN11.out)
  clear hG
  go_simp
  go_wp2_with (first
   | (go_at_call 19; refine HC.out.mono ?_; rintro e w6 ⟨A, n, c, rfl, ho, hb⟩
      have HO := hide (own_le ho (Nat.zero_le _)); have HBB := hide hb; clear ho hb))
  exact hK.out (A, n, c) _ HO.out HBB.out
 (try simp only [Act.put, List.setIfInBounds_toArray, List.set_cons_zero, List.set_cons_succ])
 refine Safe.on 3 (fun x : Sl => .agg #[.int .i64 (qd), .slice x.1 x.2.1 x.2.2]) (fun x W => OwnN 0 x (ratT qc) W) rfl rfl HFL (by decide +kernel) hF1 (fun W hG K' hK => ?_) (fun x3 hF3 => ?_)
 focus
  have HC := hide (own_num_any qd A6 n6 c6 W.heap.size (ratT qc) W (Rq.of (terms_own (hG.1.1.1.1.1.2.2))) (Nat.le_refl _) HN6.out)
  clear hG
  go_simp
  go_wp2_with (first
   | (go_at_call 19; refine HC.out.mono ?_; rintro e w6 ⟨A, n, c, rfl, ho, hb⟩
      have HO := hide (own_le ho (Nat.zero_le _)); have HBB := hide hb; clear ho hb))
  exact hK.out (A, n, c) _ HO.out HBB.out
 (try simp only [Act.put, List.setIfInBounds_toArray, List.set_cons_zero, List.set_cons_succ])
 refine Safe.on 5 (fun x : Sl => .agg #[.int .i64 (hd), .slice x.1 x.2.1 x.2.2]) (fun x W => OwnN 0 x (ratT hc) W) rfl rfl HFL (by decide +kernel) hF3 (fun W hG K' hK => ?_) (fun x5 hF5 => ?_)
 focus
  have HC := hide (own_num_any hd A9 n9 c9 W.heap.size (ratT hc) W (Rq.of (terms_own (hG.1.1.1.1.2.2))) (Nat.le_refl _) HN9.out)
  clear hG
  go_simp
  go_wp2_with (first
   | (go_at_call 19; refine HC.out.mono ?_; rintro e w6 ⟨A, n, c, rfl, ho, hb⟩
      have HO := hide (own_le ho (Nat.zero_le _)); have HBB := hide hb; clear ho hb))
  exact hK.out (A, n, c) _ HO.out HBB.out
 (try simp only [Act.put, List.setIfInBounds_toArray, List.set_cons_zero, List.set_cons_succ])
 refine Safe.take 6 (v := ?_) rfl rfl HFL (by decide +kernel) hF5 (by rfl) (fun W hF => ?_) ?_
 rotate_left 1
 focus (clear hF; go_simp; first | done | with_reducible rfl)
 (try simp only [Act.put, List.setIfInBounds_toArray, List.set_cons_zero, List.set_cons_succ])
 refine Safe.on 8 (fun x : Int × Int × Int => .tuple #[.int .i64 x.1, .int .i64 x.2.1, .int .i64 x.2.2]) (fun x W => CircleRes (rd, ratT rc) (qd, ratT qc) (hd, ratT hc) f x.1 x.2.1 x.2.2) rfl rfl HFL (by decide +kernel) hF5 (fun W hG K' hK => ?_) (fun x8 hF8 => ?_)
 focus
  have HC := hide (circling_any rd x1.1 x1.2.1 x1.2.2 (ratT rc) qd x3.1 x3.2.1 x3.2.2 (ratT qc) hd x5.1 x5.2.1 x5.2.2 (ratT hc) f W.heap.size W (terms_own (hG.1.1.2)) (terms_own (hG.1.2)) (terms_own (hG.2)) (Nat.le_refl _))
  clear hG
  go_simp
  go_wp2_with (first
   | (go_at_call 27; refine HC.out.mono ?_; rintro e w6 ⟨low, high, cc, rfl, hcr, hb⟩
      have HCR := hide hcr; have HBB := hide hb; clear hcr hb))
  exact hK.out (low, high, cc) _ HCR.out HBB.out
 (try simp only [Act.put, List.setIfInBounds_toArray, List.set_cons_zero, List.set_cons_succ])
 refine Safe.fin rfl hF8 (fun W7 hG hHeld => ?_)
 have HS0 := hide (hG.1.1.1.1.1)
 have HCR := hide hG.2
 clear hG HGd HFL hF1 hF3 hF5 hF8 HS u11 v11 h11 HN11 u6 v6 h6 HN6 u9 v9 h9 HN9
 have HS := hide HS0.out
 clear HS0
 refine wpTill_take 9 rfl (by decide +kernel) (fun c a w h => by first | exact h | (cases h; done)) (by rfl) (v := ?_) ?_ hHeld (fun hHeld' => ?_)
 rotate_left 1
 focus (intro w' hSw; obtain ⟨hC, hF, hG⟩ := hSw; clear hG; clear hF; go_simp; first | done | with_reducible rfl)
 clear hHeld
 rename Till _ _ _ _ _ _ _ => hHeld
 (try simp only [Act.put, List.setIfInBounds_toArray, List.set_cons_zero, List.set_cons_succ])
 refine wpTill_take 10 rfl (by decide +kernel) (fun c a w h => by first | exact h | (cases h; done)) (by rfl) (v := ?_) ?_ hHeld (fun hHeld' => ?_)
 rotate_left 1
 focus (intro w' hSw; obtain ⟨hC, hF, hG⟩ := hSw; clear hG; clear hF; go_simp; first | done | with_reducible rfl)
 clear hHeld
 rename Till _ _ _ _ _ _ _ => hHeld
 (try simp only [Act.put, List.setIfInBounds_toArray, List.set_cons_zero, List.set_cons_succ])
 refine wpTill_take 11 rfl (by decide +kernel) (fun c a w h => by first | exact h | (cases h; done)) (by rfl) (v := ?_) ?_ hHeld (fun hHeld' => ?_)
 rotate_left 1
 focus (intro w' hSw; obtain ⟨hC, hF, hG⟩ := hSw; clear hG; clear hF; go_simp; first | done | with_reducible rfl)
 clear hHeld
 rename Till _ _ _ _ _ _ _ => hHeld
 (try simp only [Act.put, List.setIfInBounds_toArray, List.set_cons_zero, List.set_cons_succ])
 refine wpTill_take 12 rfl (by decide +kernel) (fun c a w h => by first | exact h | (cases h; done)) (by rfl) (v := ?_) ?_ hHeld (fun hHeld' => ?_)
 rotate_left 1
 focus (intro w' hSw; obtain ⟨hC, hF, hG⟩ := hSw; clear hG; clear hF; go_simp; first | done | with_reducible rfl)
 clear hHeld
 rename Till _ _ _ _ _ _ _ => hHeld
 (try simp only [Act.put, List.setIfInBounds_toArray, List.set_cons_zero, List.set_cons_succ])
 refine wpTill_one 13 rfl (by decide +kernel) (fun K hK => ?_)
 go_simp
 refine hK.out _ _ ⟨trivial, fun h => absurd h (by decide +kernel), fun _ => trivial⟩ (fun hHeld => ?_)
 clear hK K
 (try simp only [Act.put, List.setIfInBounds_toArray, List.set_cons_zero, List.set_cons_succ])
 refine wpTill_take 14 rfl (by decide +kernel) (fun c a w h => by first | exact h | (cases h; done)) (by rfl) (v := ?_) ?_ hHeld (fun hHeld' => ?_)
 rotate_left 1
 focus (intro w' hSw; obtain ⟨hC, hF, hG⟩ := hSw; clear hG; clear hF; go_simp; first | done | with_reducible rfl)
 clear hHeld
 rename Till _ _ _ _ _ _ _ => hHeld
 (try simp only [Act.put, List.setIfInBounds_toArray, List.set_cons_zero, List.set_cons_succ])
 refine wpTill_take 15 rfl (by decide +kernel) (fun c a w h => by first | exact h | (cases h; done)) (by rfl) (v := ?_) ?_ hHeld (fun hHeld' => ?_)
 rotate_left 1
 focus (intro w' hSw; obtain ⟨hC, hF, hG⟩ := hSw; clear hG; clear hF; go_simp; first | done | with_reducible rfl)
 clear hHeld
 rename Till _ _ _ _ _ _ _ => hHeld
 (try simp only [Act.put, List.setIfInBounds_toArray, List.set_cons_zero, List.set_cons_succ])
 refine wpTill_done (by decide +kernel) ?_
 clear hHeld
 obtain ⟨u, v, c2⟩ := x8
 dsimp only at HCR
 have HP2 := hide (circ_RQ HQ4.out (by omega) HQ1.out (by omega) HQ3.out (by
  have e1 : B4 * (A * 10) = B40 * A := by rw [H4E.out, H40E.out]; grind
  rw [e1]
  exact Int.mul_le_mul_of_nonneg_right (by omega) (by omega)) hfb HCR.out)
 clear HCR
 go_upto_region 12 with fail
 have HM := hide (make_one W7 (b) (a))
 rw [MK5.out] at HM
 clear MK5
 go_upto_region 13 with (first
  | (go_at_call 38; refine HM.out.mono ?_; rintro e w2 ⟨A17, n17, c17, rfl, ho, hb⟩
     have HS2 := hide (Kept.keep (S := fun W => ((((((Below w.heap.size w W ∧ w.heap.size ≤ W.heap.size) ∧ Blk W X1 69 #[.int .u8 nm, .int .u8 dn, .int .u8 un, .int .u8 ov, .int .u16 fi]) ∧ Vr X6 qd A6 n6 c6 (ratT qc) W) ∧ Vr X8 ld A8 n8 c8 (ratT lc) W) ∧ Vr X9 hd A9 n9 c9 (ratT hc) W) ∧ Vr X11 rd A11 n11 c11 (ratT rc) W)) _ _ HS.out (((Below.refl _ _).alloc (Nat.le_refl _) _).trans (hb.mono (by simp))))
     have HO2 := hide (own_le ho (Nat.zero_le _))
     clear ho hb HM))
 have HS3 := hide (And.intro (Kept.keep (S := fun W => ((((((Below w.heap.size w W ∧ w.heap.size ≤ W.heap.size) ∧ Blk W X1 69 #[.int .u8 nm, .int .u8 dn, .int .u8 un, .int .u8 ov, .int .u16 fi]) ∧ Vr X6 qd A6 n6 c6 (ratT qc) W) ∧ Vr X8 ld A8 n8 c8 (ratT lc) W) ∧ Vr X9 hd A9 n9 c9 (ratT hc) W) ∧ Vr X11 rd A11 n11 c11 (ratT rc) W)) _ _ HS2.out ((Below.refl _ _).alloc (Nat.le_refl _) (.cells #[.int .i64 (sd), .slice A17 n17 c17] 33))) (Vr.new (d := sd) HO2.out))
 obtain ⟨X17, hX⟩ : ∃ X, X = w2.heap.size := ⟨_, rfl⟩
 rw [← hX] at HS3 ⊢
 clear hX HS2 HO2 HS
 generalize w2.alloc (.cells #[.int .i64 sd, .slice A17 n17 c17] 33) = W8 at *
 have HS := hide HS3.out
 clear HS3
 obtain ⟨u17, v17, _, _⟩ := (HS.out.2.1).two
 have h17 : X17 < W8.heap.size := (HS.out.2.1).lt
 obtain ⟨u8, v8, _, _⟩ := (HS.out.1.1.1.2.1).two
 have h8 : X8 < W8.heap.size := (HS.out.1.1.1.2.1).lt
 obtain ⟨u9, v9, _, _⟩ := (HS.out.1.1.2.1).two
 have h9 : X9 < W8.heap.size := (HS.out.1.1.2.1).lt
 have HN17 : Hid (n17 ≤ 1000) := hide (Vr.small HS.out.2)
 have HN8 : Hid (n8 ≤ 1000) := hide (Vr.small HS.out.1.1.1.2)
 have HN9 : Hid (n9 ≤ 1000) := hide (Vr.small HS.out.1.1.2)
 have HGd : Hid ((((((((Below w.heap.size w W8.drew ∧ w.heap.size ≤ W8.drew.heap.size) ∧ Blk W8.drew X1 69 #[.int .u8 nm, .int .u8 dn, .int .u8 un, .int .u8 ov, .int .u16 fi]) ∧ Vr X6 qd A6 n6 c6 (ratT qc) W8.drew) ∧ Vr X8 ld A8 n8 c8 (ratT lc) W8.drew) ∧ Vr X9 hd A9 n9 c9 (ratT hc) W8.drew) ∧ Vr X11 rd A11 n11 c11 (ratT rc) W8.drew) ∧ Vr X17 sd A17 n17 c17 (ratT sc) W8.drew) ∧ (Below W8.heap.size W8 W8.drew ∧ W8.heap.size ≤ W8.drew.heap.size)) := hide ⟨Kept.keep (S := fun W => (((((((Below w.heap.size w W ∧ w.heap.size ≤ W.heap.size) ∧ Blk W X1 69 #[.int .u8 nm, .int .u8 dn, .int .u8 un, .int .u8 ov, .int .u16 fi]) ∧ Vr X6 qd A6 n6 c6 (ratT qc) W) ∧ Vr X8 ld A8 n8 c8 (ratT lc) W) ∧ Vr X9 hd A9 n9 c9 (ratT hc) W) ∧ Vr X11 rd A11 n11 c11 (ratT rc) W) ∧ Vr X17 sd A17 n17 c17 (ratT sc) W)) _ _ HS.out (Below.drew (Below.refl _ _)), Below.drew (Below.refl _ _), Nat.le_refl _⟩
 refine wp_region_flow 13 (fun W' => Below W8.heap.size W8 W') (fun _ _ _ => True) [] (fun W' => (((((((Below w.heap.size w W' ∧ w.heap.size ≤ W'.heap.size) ∧ Blk W' X1 69 #[.int .u8 nm, .int .u8 dn, .int .u8 un, .int .u8 ov, .int .u16 fi]) ∧ Vr X6 qd A6 n6 c6 (ratT qc) W') ∧ Vr X8 ld A8 n8 c8 (ratT lc) W') ∧ Vr X9 hd A9 n9 c9 (ratT hc) W') ∧ Vr X11 rd A11 n11 c11 (ratT rc) W') ∧ Vr X17 sd A17 n17 c17 (ratT sc) W') ∧ (Below W8.heap.size W8 W' ∧ W8.heap.size ≤ W'.heap.size)) (by kernel_rfl)
  (Floats.of (by decide +kernel) (fun c a d v w => by cases d <;> exact Iff.rfl) (by intro i hi; cases hi) (fun _ _ _ _ _ _ => trivial))
  (fun _ _ _ h => h) (by decide) HGd.out (fun W h => h.2.1) (fun HFL => ?_)
 refine Safe.take 0 (v := ?_) rfl rfl HFL (by decide +kernel) (fun W h => h.2.1) (by rfl) (fun W hF => ?_) ?_
 rotate_left 1
 focus (have hF := hF (by decide +kernel); have e1 := (hF.cell (p := ⟨X17, 0, none⟩) h17).trans u17; have e2 := (hF.cell (p := ⟨X17, 1, none⟩) h17).trans v17; clear hF; go_simp; first | done | with_reducible rfl)
 (try simp only [Act.put, List.setIfInBounds_toArray, List.set_cons_zero, List.set_cons_succ])
 refine Safe.take 2 (v := ?_) rfl rfl HFL (by decide +kernel) (fun W h => h.2.1) (by rfl) (fun W hF => ?_) ?_
 rotate_left 1
 focus (have hF := hF (by decide +kernel); have e1 := (hF.cell (p := ⟨X8, 0, none⟩) h8).trans u8; have e2 := (hF.cell (p := ⟨X8, 1, none⟩) h8).trans v8; clear hF; go_simp; first | done | with_reducible rfl)
 (try simp only [Act.put, List.setIfInBounds_toArray, List.set_cons_zero, List.set_cons_succ])
 refine Safe.take 4 (v := ?_) rfl rfl HFL (by decide +kernel) (fun W h => h.2.1) (by rfl) (fun W hF => ?_) ?_
 rotate_left 1
 focus (have hF := hF (by decide +kernel); have e1 := (hF.cell (p := ⟨X9, 0, none⟩) h9).trans u9; have e2 := (hF.cell (p := ⟨X9, 1, none⟩) h9).trans v9; clear hF; go_simp; first | done | with_reducible rfl)
 (try simp only [Act.put, List.setIfInBounds_toArray, List.set_cons_zero, List.set_cons_succ])
 refine Safe.take 7 (v := ?_) rfl rfl HFL (by decide +kernel) (fun W h => h.2.1) (by rfl) (fun W hF => ?_) ?_
 rotate_left 1
 focus (clear hF; go_simp; first | done | with_reducible rfl)
 (try simp only [Act.put, List.setIfInBounds_toArray, List.set_cons_zero, List.set_cons_succ])
 refine Safe.on 1 (fun x : Sl => .agg #[.int .i64 (sd), .slice x.1 x.2.1 x.2.2]) (fun x W => OwnN 0 x (ratT sc) W) rfl rfl HFL (by decide +kernel) (fun W h => h.2.1) (fun W hG K' hK => ?_) (fun x1 hF1 => ?_)
 focus
  have HC := hide (own_num_any sd A17 n17 c17 W.heap.size (ratT sc) W (Rq.of (terms_own (hG.1.2.2))) (Nat.le_refl _) HN17.out)
  clear hG
  go_simp
  go_wp2_with (first
   | (go_at_call 19; refine HC.out.mono ?_; rintro e w6 ⟨A, n, c, rfl, ho, hb⟩
      have HO := hide (own_le ho (Nat.zero_le _)); have HBB := hide hb; clear ho hb))
  exact hK.out (A, n, c) _ HO.out HBB.out
 (try simp only [Act.put, List.setIfInBounds_toArray, List.set_cons_zero, List.set_cons_succ])
 refine Safe.on 3 (fun x : Sl => .agg #[.int .i64 (ld), .slice x.1 x.2.1 x.2.2]) (fun x W => OwnN 0 x (ratT lc) W) rfl rfl HFL (by decide +kernel) hF1 (fun W hG K' hK => ?_) (fun x3 hF3 => ?_)
 focus
  have HC := hide (own_num_any ld A8 n8 c8 W.heap.size (ratT lc) W (Rq.of (terms_own (hG.1.1.1.1.1.2.2))) (Nat.le_refl _) HN8.out)
  clear hG
  go_simp
  go_wp2_with (first
   | (go_at_call 19; refine HC.out.mono ?_; rintro e w6 ⟨A, n, c, rfl, ho, hb⟩
      have HO := hide (own_le ho (Nat.zero_le _)); have HBB := hide hb; clear ho hb))
  exact hK.out (A, n, c) _ HO.out HBB.out
 (try simp only [Act.put, List.setIfInBounds_toArray, List.set_cons_zero, List.set_cons_succ])
 refine Safe.on 5 (fun x : Sl => .agg #[.int .i64 (hd), .slice x.1 x.2.1 x.2.2]) (fun x W => OwnN 0 x (ratT hc) W) rfl rfl HFL (by decide +kernel) hF3 (fun W hG K' hK => ?_) (fun x5 hF5 => ?_)
 focus
  have HC := hide (own_num_any hd A9 n9 c9 W.heap.size (ratT hc) W (Rq.of (terms_own (hG.1.1.1.1.1.2.2))) (Nat.le_refl _) HN9.out)
  clear hG
  go_simp
  go_wp2_with (first
   | (go_at_call 19; refine HC.out.mono ?_; rintro e w6 ⟨A, n, c, rfl, ho, hb⟩
      have HO := hide (own_le ho (Nat.zero_le _)); have HBB := hide hb; clear ho hb))
  exact hK.out (A, n, c) _ HO.out HBB.out
 (try simp only [Act.put, List.setIfInBounds_toArray, List.set_cons_zero, List.set_cons_succ])
 refine Safe.take 6 (v := ?_) rfl rfl HFL (by decide +kernel) hF5 (by rfl) (fun W hF => ?_) ?_
 rotate_left 1
 focus (clear hF; go_simp; first | done | with_reducible rfl)
 (try simp only [Act.put, List.setIfInBounds_toArray, List.set_cons_zero, List.set_cons_succ])
 refine Safe.on 8 (fun x : Int × Int × Int => .tuple #[.int .i64 x.1, .int .i64 x.2.1, .int .i64 x.2.2]) (fun x W => SquareRes (sd, ratT sc) (ld, ratT lc) (hd, ratT hc) f x.1 x.2.1 x.2.2) rfl rfl HFL (by decide +kernel) hF5 (fun W hG K' hK => ?_) (fun x8 hF8 => ?_)
 focus
  have HC := hide (squaring_any sd x1.1 x1.2.1 x1.2.2 (ratT sc) ld x3.1 x3.2.1 x3.2.2 (ratT lc) hd x5.1 x5.2.1 x5.2.2 (ratT hc) f W.heap.size W (terms_own (hG.1.1.2)) (terms_own (hG.1.2)) (terms_own (hG.2)) (Nat.le_refl _))
  clear hG
  go_simp
  go_wp2_with (first
   | (go_at_call 30; refine HC.out.mono ?_; rintro e w6 ⟨low, high, cc, rfl, hcr, hb⟩
      have HCR := hide hcr; have HBB := hide hb; clear hcr hb))
  exact hK.out (low, high, cc) _ HCR.out HBB.out
 (try simp only [Act.put, List.setIfInBounds_toArray, List.set_cons_zero, List.set_cons_succ])
 refine Safe.fin rfl hF8 (fun W9 hG hHeld => ?_)
 have HS0 := hide (hG.1.1.1.1.1)
 have HCR := hide hG.2
 clear hG HGd HFL hF1 hF3 hF5 hF8 HS u17 v17 h17 HN17 u8 v8 h8 HN8 u9 v9 h9 HN9
 have HS := hide HS0.out
 clear HS0
 refine wpTill_take 9 rfl (by decide +kernel) (fun c a w h => by first | exact h | (cases h; done)) (by rfl) (v := ?_) ?_ hHeld (fun hHeld' => ?_)
 rotate_left 1
 focus (intro w' hSw; obtain ⟨hC, hF, hG⟩ := hSw; clear hG; clear hF; go_simp; first | done | with_reducible rfl)
 clear hHeld
 rename Till _ _ _ _ _ _ _ => hHeld
 (try simp only [Act.put, List.setIfInBounds_toArray, List.set_cons_zero, List.set_cons_succ])
 refine wpTill_take 10 rfl (by decide +kernel) (fun c a w h => by first | exact h | (cases h; done)) (by rfl) (v := ?_) ?_ hHeld (fun hHeld' => ?_)
 rotate_left 1
 focus (intro w' hSw; obtain ⟨hC, hF, hG⟩ := hSw; clear hG; clear hF; go_simp; first | done | with_reducible rfl)
 clear hHeld
 rename Till _ _ _ _ _ _ _ => hHeld
 (try simp only [Act.put, List.setIfInBounds_toArray, List.set_cons_zero, List.set_cons_succ])
 refine wpTill_take 11 rfl (by decide +kernel) (fun c a w h => by first | exact h | (cases h; done)) (by rfl) (v := ?_) ?_ hHeld (fun hHeld' => ?_)
 rotate_left 1
 focus (intro w' hSw; obtain ⟨hC, hF, hG⟩ := hSw; clear hG; clear hF; go_simp; first | done | with_reducible rfl)
 clear hHeld
 rename Till _ _ _ _ _ _ _ => hHeld
 (try simp only [Act.put, List.setIfInBounds_toArray, List.set_cons_zero, List.set_cons_succ])
 refine wpTill_take 12 rfl (by decide +kernel) (fun c a w h => by first | exact h | (cases h; done)) (by rfl) (v := ?_) ?_ hHeld (fun hHeld' => ?_)
 rotate_left 1
 focus (intro w' hSw; obtain ⟨hC, hF, hG⟩ := hSw; clear hG; clear hF; go_simp; first | done | with_reducible rfl)
 clear hHeld
 rename Till _ _ _ _ _ _ _ => hHeld
 (try simp only [Act.put, List.setIfInBounds_toArray, List.set_cons_zero, List.set_cons_succ])
 refine wpTill_one 13 rfl (by decide +kernel) (fun K hK => ?_)
 go_simp
 refine hK.out _ _ ⟨trivial, fun h => absurd h (by decide +kernel), fun _ => trivial⟩ (fun hHeld => ?_)
 clear hK K
 (try simp only [Act.put, List.setIfInBounds_toArray, List.set_cons_zero, List.set_cons_succ])
 refine wpTill_take 14 rfl (by decide +kernel) (fun c a w h => by first | exact h | (cases h; done)) (by rfl) (v := ?_) ?_ hHeld (fun hHeld' => ?_)
 rotate_left 1
 focus (intro w' hSw; obtain ⟨hC, hF, hG⟩ := hSw; clear hG; clear hF; go_simp; first | done | with_reducible rfl)
 clear hHeld
 rename Till _ _ _ _ _ _ _ => hHeld
 (try simp only [Act.put, List.setIfInBounds_toArray, List.set_cons_zero, List.set_cons_succ])
 refine wpTill_take 15 rfl (by decide +kernel) (fun c a w h => by first | exact h | (cases h; done)) (by rfl) (v := ?_) ?_ hHeld (fun hHeld' => ?_)
 rotate_left 1
 focus (intro w' hSw; obtain ⟨hC, hF, hG⟩ := hSw; clear hG; clear hF; go_simp; first | done | with_reducible rfl)
 clear hHeld
 rename Till _ _ _ _ _ _ _ => hHeld
 (try simp only [Act.put, List.setIfInBounds_toArray, List.set_cons_zero, List.set_cons_succ])
 refine wpTill_done (by decide +kernel) ?_
 clear hHeld
 obtain ⟨m, n, c3⟩ := x8
 dsimp only at HCR
 have HP3 := hide (square_RQ HQ5.out (by omega) HQ2.out (by omega) HQ3.out (by omega) (Int.mul_le_mul_of_nonneg_right (by omega) (by omega)) hfb HCR.out)
 clear HCR
 go_upto_region 14 with fail
 rcases HP1.out with k1 | ⟨k1, fl1, cl1⟩
 ·subst k1
  have HBk := hide HS.out.1.1.1.1.1.1.1
  go_wp2_with (first
   | (go_at_call 12; refine (HK.out _ HBk.out).mono ?_; rintro e wz ⟨rfl, hbz⟩
      have HBe := hide (HBk.out.trans (hbz.mono HBk.out.size))
      clear hbz))
  all_goals
   go_ret
   exact ⟨rfl, HBe.out⟩
 subst k1
 rcases HP2.out with k2 | ⟨k2, fl2, cl2⟩
 ·subst k2
  have HBk := hide HS.out.1.1.1.1.1.1.1
  go_wp2_with (first
   | (go_at_call 12; refine (HK.out _ HBk.out).mono ?_; rintro e wz ⟨rfl, hbz⟩
      have HBe := hide (HBk.out.trans (hbz.mono HBk.out.size))
      clear hbz))
  all_goals
   go_ret
   exact ⟨rfl, HBe.out⟩
 subst k2
 rcases HP3.out with k3 | ⟨k3, fl3, cl3⟩
 ·subst k3
  have HBk := hide HS.out.1.1.1.1.1.1.1
  go_wp2_with (first
   | (go_at_call 12; refine (HK.out _ HBk.out).mono ?_; rintro e wz ⟨rfl, hbz⟩
      have HBe := hide (HBk.out.trans (hbz.mono HBk.out.size))
      clear hbz))
  all_goals
   go_ret
   exact ⟨rfl, HBe.out⟩
 subst k3
 have hL : 0 < 40 * (b * b) - 1 - t := by have := HBE.out; omega
 obtain ⟨y1, y2, y3, y4, y5, y6, y7⟩ := exact_first (o := ov) hab hbb htb.1 hov.1 hfb.1 hL (by simpa only [HAE.out, HBE.out, H40E.out, H4E.out] using fl1) (by simpa only [HAE.out, HBE.out, H40E.out, H4E.out] using cl1) (by simpa only [HAE.out, HBE.out, H40E.out, H4E.out] using fl2) (by simpa only [HAE.out, HBE.out, H40E.out, H4E.out] using cl2) (by simpa only [HAE.out, HBE.out, H40E.out, H4E.out] using fl3) (by simpa only [HAE.out, HBE.out, H40E.out, H4E.out] using cl3)
 subst y3
 have HL := hide hL
 have HF1 := hide fl1; have HC1' := hide cl1; have HC2' := hide cl2
 clear hL fl1 cl1 fl2 cl2 fl3 cl3 HP1 HP2 HP3
 go_upto_region 18 with fail
 clear y1 y2 y6 y7 y5
 obtain ⟨u0, u1, _, _⟩ := (HS.out.1.2.1).two
 have HN := hide (Vr.small HS.out.1.2)
 have HC1 := hide (own_num_any rd A11 n11 c11 W9.heap.size (ratT rc) W9 (Rq.of (terms_own (HS.out.1.2.2))) (Nat.le_refl _) HN.out)
 go_upto_region 19 with (first
  | (go_at_call 19; refine HC1.out.mono ?_; rintro e w4 ⟨A4, n4, c4', rfl, ho, hb⟩
     have HS4 := hide (Kept.keep (S := fun W => (((((((Below w.heap.size w W ∧ w.heap.size ≤ W.heap.size) ∧ Blk W X1 69 #[.int .u8 nm, .int .u8 dn, .int .u8 un, .int .u8 ov, .int .u16 fi]) ∧ Vr X6 qd A6 n6 c6 (ratT qc) W) ∧ Vr X8 ld A8 n8 c8 (ratT lc) W) ∧ Vr X9 hd A9 n9 c9 (ratT hc) W) ∧ Vr X11 rd A11 n11 c11 (ratT rc) W) ∧ Vr X17 sd A17 n17 c17 (ratT sc) W)) _ _ HS.out hb)
     have HO4 := hide (own_le ho (Nat.zero_le _))
     clear ho hb HC1)
  | (go_at_call 17; refine (lawNumber_any 1 1 _).mono ?_; rintro e w5 ⟨A5, n5, c5, rfl, ho, hb⟩
     have HS5 := hide (Kept.keep (S := fun W => (((((((Below w.heap.size w W ∧ w.heap.size ≤ W.heap.size) ∧ Blk W X1 69 #[.int .u8 nm, .int .u8 dn, .int .u8 un, .int .u8 ov, .int .u16 fi]) ∧ Vr X6 qd A6 n6 c6 (ratT qc) W) ∧ Vr X8 ld A8 n8 c8 (ratT lc) W) ∧ Vr X9 hd A9 n9 c9 (ratT hc) W) ∧ Vr X11 rd A11 n11 c11 (ratT rc) W) ∧ Vr X17 sd A17 n17 c17 (ratT sc) W)) _ _ HS4.out hb)
     have HO4 := hide (own_below HO4.out hb)
     have HO5 := hide (own_le ho (Nat.zero_le _))
     have HC2 := hide (add_flat rd A4 n4 c4' (ratT rc) 1 A5 n5 c5 [(1, 1)] w5.heap.size w5 (terms_own HO4.out) (terms_own HO5.out) (Nat.le_refl _))
     rw [HPL.out] at HC2
     clear ho hb)
  | (go_at_call 22; refine HC2.out.mono ?_; rintro e w2 ⟨A21, n21, c21, rfl, ho, hb⟩
     have HS2 := hide (Kept.keep (S := fun W => (((((((Below w.heap.size w W ∧ w.heap.size ≤ W.heap.size) ∧ Blk W X1 69 #[.int .u8 nm, .int .u8 dn, .int .u8 un, .int .u8 ov, .int .u16 fi]) ∧ Vr X6 qd A6 n6 c6 (ratT qc) W) ∧ Vr X8 ld A8 n8 c8 (ratT lc) W) ∧ Vr X9 hd A9 n9 c9 (ratT hc) W) ∧ Vr X11 rd A11 n11 c11 (ratT rc) W) ∧ Vr X17 sd A17 n17 c17 (ratT sc) W)) _ _ HS5.out hb)
     have HO2 := hide (own_le ho (Nat.zero_le _))
     clear ho hb HC2 HO4 HO5 HS4 HS5))
 clear u0 u1 HN
 have HS3 := hide (And.intro (Kept.keep (S := fun W => (((((((Below w.heap.size w W ∧ w.heap.size ≤ W.heap.size) ∧ Blk W X1 69 #[.int .u8 nm, .int .u8 dn, .int .u8 un, .int .u8 ov, .int .u16 fi]) ∧ Vr X6 qd A6 n6 c6 (ratT qc) W) ∧ Vr X8 ld A8 n8 c8 (ratT lc) W) ∧ Vr X9 hd A9 n9 c9 (ratT hc) W) ∧ Vr X11 rd A11 n11 c11 (ratT rc) W) ∧ Vr X17 sd A17 n17 c17 (ratT sc) W)) _ _ HS2.out ((Below.refl _ _).alloc (Nat.le_refl _) (.cells #[.int .i64 rd, .slice A21 n21 c21] 33))) (Vr.new (d := rd) HO2.out))
 obtain ⟨X21, hX⟩ : ∃ X, X = w2.heap.size := ⟨_, rfl⟩
 rw [← hX] at HS3 ⊢
 clear hX HS2 HO2 HS
 generalize w2.alloc (.cells #[.int .i64 rd, .slice A21 n21 c21] 33) = W10 at *
 have HS := hide HS3.out
 clear HS3
 obtain ⟨u21, v21, _, _⟩ := (HS.out.2.1).two
 have h21 : X21 < W10.heap.size := (HS.out.2.1).lt
 obtain ⟨u8, v8, _, _⟩ := (HS.out.1.1.1.1.2.1).two
 have h8 : X8 < W10.heap.size := (HS.out.1.1.1.1.2.1).lt
 obtain ⟨u9, v9, _, _⟩ := (HS.out.1.1.1.2.1).two
 have h9 : X9 < W10.heap.size := (HS.out.1.1.1.2.1).lt
 have HN21 : Hid (n21 ≤ 1000) := hide (Vr.small HS.out.2)
 have HN8 : Hid (n8 ≤ 1000) := hide (Vr.small HS.out.1.1.1.1.2)
 have HN9 : Hid (n9 ≤ 1000) := hide (Vr.small HS.out.1.1.1.2)
 have HGd : Hid (((((((((Below w.heap.size w W10.drew ∧ w.heap.size ≤ W10.drew.heap.size) ∧ Blk W10.drew X1 69 #[.int .u8 nm, .int .u8 dn, .int .u8 un, .int .u8 ov, .int .u16 fi]) ∧ Vr X6 qd A6 n6 c6 (ratT qc) W10.drew) ∧ Vr X8 ld A8 n8 c8 (ratT lc) W10.drew) ∧ Vr X9 hd A9 n9 c9 (ratT hc) W10.drew) ∧ Vr X11 rd A11 n11 c11 (ratT rc) W10.drew) ∧ Vr X17 sd A17 n17 c17 (ratT sc) W10.drew) ∧ Vr X21 rd A21 n21 c21 (ratT (rc + rd)) W10.drew) ∧ (Below W10.heap.size W10 W10.drew ∧ W10.heap.size ≤ W10.drew.heap.size)) := hide ⟨Kept.keep (S := fun W => ((((((((Below w.heap.size w W ∧ w.heap.size ≤ W.heap.size) ∧ Blk W X1 69 #[.int .u8 nm, .int .u8 dn, .int .u8 un, .int .u8 ov, .int .u16 fi]) ∧ Vr X6 qd A6 n6 c6 (ratT qc) W) ∧ Vr X8 ld A8 n8 c8 (ratT lc) W) ∧ Vr X9 hd A9 n9 c9 (ratT hc) W) ∧ Vr X11 rd A11 n11 c11 (ratT rc) W) ∧ Vr X17 sd A17 n17 c17 (ratT sc) W) ∧ Vr X21 rd A21 n21 c21 (ratT (rc + rd)) W)) _ _ HS.out (Below.drew (Below.refl _ _)), Below.drew (Below.refl _ _), Nat.le_refl _⟩
 refine wp_region_flow 12 (fun W' => Below W10.heap.size W10 W') (fun _ _ _ => True) [] (fun W' => ((((((((Below w.heap.size w W' ∧ w.heap.size ≤ W'.heap.size) ∧ Blk W' X1 69 #[.int .u8 nm, .int .u8 dn, .int .u8 un, .int .u8 ov, .int .u16 fi]) ∧ Vr X6 qd A6 n6 c6 (ratT qc) W') ∧ Vr X8 ld A8 n8 c8 (ratT lc) W') ∧ Vr X9 hd A9 n9 c9 (ratT hc) W') ∧ Vr X11 rd A11 n11 c11 (ratT rc) W') ∧ Vr X17 sd A17 n17 c17 (ratT sc) W') ∧ Vr X21 rd A21 n21 c21 (ratT (rc + rd)) W') ∧ (Below W10.heap.size W10 W' ∧ W10.heap.size ≤ W'.heap.size)) (by kernel_rfl)
  (Floats.of (by decide +kernel) (fun c a d v w => by cases d <;> exact Iff.rfl) (by intro i hi; cases hi) (fun _ _ _ _ _ _ => trivial))
  (fun _ _ _ h => h) (by decide) HGd.out (fun W h => h.2.1) (fun HFL => ?_)
 refine Safe.take 0 (v := ?_) rfl rfl HFL (by decide +kernel) (fun W h => h.2.1) (by rfl) (fun W hF => ?_) ?_
 rotate_left 1
 focus (have hF := hF (by decide +kernel); have e1 := (hF.cell (p := ⟨X21, 0, none⟩) h21).trans u21; have e2 := (hF.cell (p := ⟨X21, 1, none⟩) h21).trans v21; clear hF; go_simp; first | done | with_reducible rfl)
 (try simp only [Act.put, List.setIfInBounds_toArray, List.set_cons_zero, List.set_cons_succ])
 refine Safe.take 1 (v := ?_) rfl rfl HFL (by decide +kernel) (fun W h => h.2.1) (by rfl) (fun W hF => ?_) ?_
 rotate_left 1
 focus (have hF := hF (by decide +kernel); have e1 := (hF.cell (p := ⟨X8, 0, none⟩) h8).trans u8; have e2 := (hF.cell (p := ⟨X8, 1, none⟩) h8).trans v8; clear hF; go_simp; first | done | with_reducible rfl)
 (try simp only [Act.put, List.setIfInBounds_toArray, List.set_cons_zero, List.set_cons_succ])
 refine Safe.take 3 (v := ?_) rfl rfl HFL (by decide +kernel) (fun W h => h.2.1) (by rfl) (fun W hF => ?_) ?_
 rotate_left 1
 focus (have hF := hF (by decide +kernel); have e1 := (hF.cell (p := ⟨X9, 0, none⟩) h9).trans u9; have e2 := (hF.cell (p := ⟨X9, 1, none⟩) h9).trans v9; clear hF; go_simp; first | done | with_reducible rfl)
 (try simp only [Act.put, List.setIfInBounds_toArray, List.set_cons_zero, List.set_cons_succ])
 refine Safe.take 6 (v := ?_) rfl rfl HFL (by decide +kernel) (fun W h => h.2.1) (by rfl) (fun W hF => ?_) ?_
 rotate_left 1
 focus (clear hF; go_simp; first | done | with_reducible rfl)
 (try simp only [Act.put, List.setIfInBounds_toArray, List.set_cons_zero, List.set_cons_succ])
 refine Safe.on 2 (fun x : Sl => .agg #[.int .i64 (ld), .slice x.1 x.2.1 x.2.2]) (fun x W => OwnN 0 x (ratT lc) W) rfl rfl HFL (by decide +kernel) (fun W h => h.2.1) (fun W hG K' hK => ?_) (fun x2 hF2 => ?_)
 focus
  have HC := hide (own_num_any ld A8 n8 c8 W.heap.size (ratT lc) W (Rq.of (terms_own (hG.1.1.1.1.1.2.2))) (Nat.le_refl _) HN8.out)
  clear hG
  go_simp
  go_wp2_with (first
   | (go_at_call 19; refine HC.out.mono ?_; rintro e w6 ⟨A, n, c, rfl, ho, hb⟩
      have HO := hide (own_le ho (Nat.zero_le _)); have HBB := hide hb; clear ho hb))
  exact hK.out (A, n, c) _ HO.out HBB.out
 (try simp only [Act.put, List.setIfInBounds_toArray, List.set_cons_zero, List.set_cons_succ])
 refine Safe.on 4 (fun x : Sl => .agg #[.int .i64 (hd), .slice x.1 x.2.1 x.2.2]) (fun x W => OwnN 0 x (ratT hc) W) rfl rfl HFL (by decide +kernel) hF2 (fun W hG K' hK => ?_) (fun x4 hF4 => ?_)
 focus
  have HC := hide (own_num_any hd A9 n9 c9 W.heap.size (ratT hc) W (Rq.of (terms_own (hG.1.1.1.1.1.2.2))) (Nat.le_refl _) HN9.out)
  clear hG
  go_simp
  go_wp2_with (first
   | (go_at_call 19; refine HC.out.mono ?_; rintro e w6 ⟨A, n, c, rfl, ho, hb⟩
      have HO := hide (own_le ho (Nat.zero_le _)); have HBB := hide hb; clear ho hb))
  exact hK.out (A, n, c) _ HO.out HBB.out
 (try simp only [Act.put, List.setIfInBounds_toArray, List.set_cons_zero, List.set_cons_succ])
 refine Safe.take 5 (v := ?_) rfl rfl HFL (by decide +kernel) hF4 (by rfl) (fun W hF => ?_) ?_
 rotate_left 1
 focus (clear hF; go_simp; first | done | with_reducible rfl)
 (try simp only [Act.put, List.setIfInBounds_toArray, List.set_cons_zero, List.set_cons_succ])
 refine Safe.on 7 (fun x : Int × Int × Int => .tuple #[.int .i64 x.1, .int .i64 x.2.1, .int .i64 x.2.2]) (fun x W => CircleRes (rd, ratT (rc + rd)) (ld, ratT lc) (hd, ratT hc) f x.1 x.2.1 x.2.2) rfl rfl HFL (by decide +kernel) hF4 (fun W hG K' hK => ?_) (fun x7 hF7 => ?_)
 focus
  have HC := hide (circling_any rd A21 n21 c21 (ratT (rc + rd)) ld x2.1 x2.2.1 x2.2.2 (ratT lc) hd x4.1 x4.2.1 x4.2.2 (ratT hc) f W.heap.size W (terms_own (hG.1.1.1.2.2)) (terms_own (hG.1.2)) (terms_own (hG.2)) (Nat.le_refl _))
  clear hG
  go_simp
  go_wp2_with (first
   | (go_at_call 27; refine HC.out.mono ?_; rintro e w6 ⟨low, high, cc, rfl, hcr, hb⟩
      have HCR := hide hcr; have HBB := hide hb; clear hcr hb))
  exact hK.out (low, high, cc) _ HCR.out HBB.out
 (try simp only [Act.put, List.setIfInBounds_toArray, List.set_cons_zero, List.set_cons_succ])
 refine Safe.fin rfl hF7 (fun W11 hG hHeld => ?_)
 have HS0 := hide (hG.1.1.1.1)
 have HCR := hide hG.2
 clear hG HGd HFL hF2 hF4 hF7 HS u21 v21 h21 HN21 u8 v8 h8 HN8 u9 v9 h9 HN9
 have HS := hide HS0.out
 clear HS0
 refine wpTill_take 8 rfl (by decide +kernel) (fun c a w h => by first | exact h | (cases h; done)) (by rfl) (v := ?_) ?_ hHeld (fun hHeld' => ?_)
 rotate_left 1
 focus (intro w' hSw; obtain ⟨hC, hF, hG⟩ := hSw; clear hG; clear hF; go_simp; first | done | with_reducible rfl)
 clear hHeld
 rename Till _ _ _ _ _ _ _ => hHeld
 (try simp only [Act.put, List.setIfInBounds_toArray, List.set_cons_zero, List.set_cons_succ])
 refine wpTill_take 9 rfl (by decide +kernel) (fun c a w h => by first | exact h | (cases h; done)) (by rfl) (v := ?_) ?_ hHeld (fun hHeld' => ?_)
 rotate_left 1
 focus (intro w' hSw; obtain ⟨hC, hF, hG⟩ := hSw; clear hG; clear hF; go_simp; first | done | with_reducible rfl)
 clear hHeld
 rename Till _ _ _ _ _ _ _ => hHeld
 (try simp only [Act.put, List.setIfInBounds_toArray, List.set_cons_zero, List.set_cons_succ])
 refine wpTill_take 10 rfl (by decide +kernel) (fun c a w h => by first | exact h | (cases h; done)) (by rfl) (v := ?_) ?_ hHeld (fun hHeld' => ?_)
 rotate_left 1
 focus (intro w' hSw; obtain ⟨hC, hF, hG⟩ := hSw; clear hG; clear hF; go_simp; first | done | with_reducible rfl)
 clear hHeld
 rename Till _ _ _ _ _ _ _ => hHeld
 (try simp only [Act.put, List.setIfInBounds_toArray, List.set_cons_zero, List.set_cons_succ])
 refine wpTill_take 11 rfl (by decide +kernel) (fun c a w h => by first | exact h | (cases h; done)) (by rfl) (v := ?_) ?_ hHeld (fun hHeld' => ?_)
 rotate_left 1
 focus (intro w' hSw; obtain ⟨hC, hF, hG⟩ := hSw; clear hG; clear hF; go_simp; first | done | with_reducible rfl)
 clear hHeld
 rename Till _ _ _ _ _ _ _ => hHeld
 (try simp only [Act.put, List.setIfInBounds_toArray, List.set_cons_zero, List.set_cons_succ])
 refine wpTill_one 12 rfl (by decide +kernel) (fun K hK => ?_)
 go_simp
 refine hK.out _ _ ⟨trivial, fun h => absurd h (by decide +kernel), fun _ => trivial⟩ (fun hHeld => ?_)
 clear hK K
 (try simp only [Act.put, List.setIfInBounds_toArray, List.set_cons_zero, List.set_cons_succ])
 refine wpTill_take 13 rfl (by decide +kernel) (fun c a w h => by first | exact h | (cases h; done)) (by rfl) (v := ?_) ?_ hHeld (fun hHeld' => ?_)
 rotate_left 1
 focus (intro w' hSw; obtain ⟨hC, hF, hG⟩ := hSw; clear hG; clear hF; go_simp; first | done | with_reducible rfl)
 clear hHeld
 rename Till _ _ _ _ _ _ _ => hHeld
 (try simp only [Act.put, List.setIfInBounds_toArray, List.set_cons_zero, List.set_cons_succ])
 refine wpTill_take 14 rfl (by decide +kernel) (fun c a w h => by first | exact h | (cases h; done)) (by rfl) (v := ?_) ?_ hHeld (fun hHeld' => ?_)
 rotate_left 1
 focus (intro w' hSw; obtain ⟨hC, hF, hG⟩ := hSw; clear hG; clear hF; go_simp; first | done | with_reducible rfl)
 clear hHeld
 rename Till _ _ _ _ _ _ _ => hHeld
 (try simp only [Act.put, List.setIfInBounds_toArray, List.set_cons_zero, List.set_cons_succ])
 refine wpTill_done (by decide +kernel) ?_
 clear hHeld
 obtain ⟨p, q, c4⟩ := x7
 dsimp only at HCR
 have HP4 := hide (circ_RQ HQ6.out (by omega) HQ2.out (by omega) HQ3.out (Int.mul_le_mul_of_nonneg_right (by omega) (by omega)) hfb HCR.out)
 clear HCR
 rcases HP4.out with k4 | ⟨k4, fl4, cl4⟩
 ·subst k4
  have HBk := hide HS.out.1.1.1.1.1.1.1.1
  go_wp2_with (first
   | (go_at_call 12; refine (HK.out _ HBk.out).mono ?_; rintro e wz ⟨rfl, hbz⟩
      have HBe := hide (HBk.out.trans (hbz.mono HBk.out.size))
      clear hbz))
  all_goals
   go_ret
   exact ⟨rfl, HBe.out⟩
 subst k4
 obtain ⟨z1, z2, z3, z4, z5, z6, z7⟩ := exact_second (t := t) (o := ov) hab hbb htb hov hfb HL.out (by simpa only [HAE.out, HBE.out, H40E.out, H4E.out] using HF1.out) (by simpa only [HAE.out, HBE.out, H40E.out, H4E.out] using HC1'.out) (by simpa only [HAE.out, HBE.out, H40E.out, H4E.out] using HC2'.out) y4 (by simpa only [HAE.out, HBE.out, H40E.out, H4E.out] using fl4) (by simpa only [HAE.out, HBE.out, H40E.out, H4E.out] using cl4)
 clear fl4 cl4 HP4 HF1 HC1' HC2' HL
 obtain ⟨g1, g2, hg⟩ : ∃ g1 g2, nearS 0 v p q = (g1, g2) := ⟨_, _, rfl⟩
 have HNR := hide (nearer_any 0 v p q W11 (by omega) (by omega) (by omega) (by omega))
 rw [hg] at HNR z3 z4
 dsimp only at HNR z3 z4
 subst z3
 have HBk := hide HS.out.1.1.1.1.1.1.1.1
 clear hg
 go_upto_region 23 with (first
  | (go_at_call 39; refine HNR.out.mono ?_; rintro e w12 ⟨rfl, hb⟩
     have HBn := hide (HBk.out.trans (hb.mono HBk.out.size))
     clear hb))
 by_cases hg1 : g1 = -1
 ·subst hg1
  clear z4
  go_wp2_with (first
   | (go_at_call 12; refine (HK.out _ HBn.out).mono ?_; rintro e wz ⟨rfl, hbz⟩
      have HBe := hide (HBn.out.trans (hbz.mono HBn.out.size))
      clear hbz))
  all_goals
   go_ret
   exact ⟨rfl, HBe.out⟩
 ·have z8 : max 0 p ≤ v := by
   rcases z4 with h | h
   ·exact absurd h hg1
   ·exact h.2
  have z9 : p ≤ v := by omega
  clear z4
  go_wp2_with (first
   | (go_at_call 12; refine (HK.out _ HBn.out).mono ?_; rintro e wz ⟨rfl, hbz⟩
      have HBe := hide (HBn.out.trans (hbz.mono HBn.out.size))
      clear hbz))
  all_goals
   go_ret
   exact ⟨rfl, HBe.out⟩
end Go.Proofs.YtloegjlknpioeaaGreatDoor
