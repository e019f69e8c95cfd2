/-
  The reference's Nearer.
  chitilaw02.CordCompares returns true.
-/
import Derived.Test.YtaacnbnmlfhnaaaGreatDoorLawBToLawC
import Derived.Handy
import Derived.Test.YtaacnbnmlfhnaaaGreatDoorBaseToHead
import Derived.Test.YtaacnbnmlfhnaaaGreatDoorKnown
set_option linter.unusedVariables false
set_option linter.unusedSimpArgs false
namespace Go.Proofs.YtaacnbnmlfhnaaaGreatDoor
open Go.RowKit

theorem nearS_no {a b c d : Int} (h : b < a ∨ d < c ∨ a < -100000000000000 ∨ 100000000000000 < b ∨ c < -100000000000000 ∨ 100000000000000 < d) : nearS a b c d = (0, 2) := by
  unfold nearS
  rw [if_pos]
  rw [Bool.eq_false_iff]
  intro hh
  simp only [sizeOK, Bool.and_eq_true, decide_eq_true_eq] at hh
  omega
theorem nearS_ok {a b c d : Int} (h : (-100000000000000 ≤ a ∧ a ≤ b ∧ b ≤ 100000000000000) ∧ -100000000000000 ≤ c ∧ c ≤ d ∧ d ≤ 100000000000000) :
    nearS a b c d = if mostS2 a b < leastS c d then (-1, 0) else if mostS2 c d < leastS a b then (1, 0) else (0, 0) := by
  unfold nearS
  rw [if_neg]
  rw [Bool.not_eq_false]
  simp only [sizeOK, Bool.and_eq_true, decide_eq_true_eq]
  omega

set_option maxHeartbeats 2000000 in
set_option maxRecDepth 100000 in
theorem refNearer_any (a b c d : Int) (w : World) (ha : -9223372036854775808 ≤ a ∧ a ≤ 9223372036854775807) (hb : -9223372036854775808 ≤ b ∧ b ≤ 9223372036854775807) (hc : -9223372036854775808 ≤ c ∧ c ≤ 9223372036854775807) (hd : -9223372036854775808 ≤ d ∧ d ≤ 9223372036854775807) :
    Calls Tryz.prog 57 #[.agg #[.int .i64 a, .int .i64 b], .agg #[.int .i64 c, .int .i64 d]] w fun e w' => e = .returned (.tuple #[.int .i64 (nearS a b c d).1, .int .i64 (nearS a b c d).2]) ∧ Below w.heap.size w w' := by
  obtain ⟨w0, hw0⟩ : ∃ w0, w0 = (w.alloc (.cells #[.int .i64 a, .int .i64 b] 73)).alloc (.cells #[.int .i64 c, .int .i64 d] 73) := ⟨_, rfl⟩
  have hz0 : w0.heap.size = w.heap.size + 2 := by rw [hw0]; simp
  have h01 : Below w.heap.size w w0 := by rw [hw0]; exact ((Below.refl _ _).alloc (Nat.le_refl _) _).alloc (by simp) _
  have HX0 : Hid (Blk w0 w.heap.size 73 #[.int .i64 a, .int .i64 b]) := hide (by rw [hw0]; exact (Blk.new w _ _).alloc _)
  have HY0 : Hid (Blk w0 (w.heap.size + 1) 73 #[.int .i64 c, .int .i64 d]) := hide (by
    rw [hw0]
    have h := Blk.new (w.alloc (.cells #[.int .i64 a, .int .i64 b] 73)) 73 #[.int .i64 c, .int .i64 d]
    rwa [World.size_alloc] at h)
  have HB0 := hide h01
  have HE := hide (And.intro ha (And.intro hb (And.intro hc hd)))
  clear h01 ha hb hc hd
  go_enter Tryz.func57, Tryz.ntmps57
  go_wp2_with fail
  all_goals try rw [← hw0]
  all_goals first
    | (go_ret2
       refine ⟨?_, HB0.out⟩
       rw [nearS_no (by omega)]
       rfl)
    | skip
  have hq : (-100000000000000 ≤ a ∧ a ≤ b ∧ b ≤ 100000000000000) ∧ -100000000000000 ≤ c ∧ c ≤ d ∧ d ≤ 100000000000000 := by omega
  obtain ⟨W, hW⟩ : ∃ W, W = ((w0.alloc (.cells #[.int .i64 a, .int .i64 b, .int .i64 c, .int .i64 d] 150)).alloc (.cells #[.int .i64 0, .int .i64 0] 73)).alloc (.cells #[.int .i64 0, .int .i64 0] 73) := ⟨_, rfl⟩
  rw [← hW]
  have hzW : W.heap.size = w.heap.size + 1 + 1 + 1 + 1 + 1 := by rw [hW]; simp [hz0]
  have HT : Hid (Blk W (w.heap.size + 1 + 1) 150 #[.int .i64 a, .int .i64 b, .int .i64 c, .int .i64 d]) := hide (by
    rw [hW]
    have h := Blk.new w0 150 #[.int .i64 a, .int .i64 b, .int .i64 c, .int .i64 d]
    rw [hz0] at h
    exact (h.alloc _).alloc _)
  have HL : Hid (Blk W (w.heap.size + 1 + 1 + 1) 73 #[.int .i64 0, .int .i64 0]) := hide (by
    rw [hW]
    have h := Blk.new (w0.alloc (.cells #[.int .i64 a, .int .i64 b, .int .i64 c, .int .i64 d] 150)) 73 #[.int .i64 0, .int .i64 0]
    rw [World.size_alloc, hz0] at h
    exact h.alloc _)
  have HM : Hid (Blk W (w.heap.size + 1 + 1 + 1 + 1) 73 #[.int .i64 0, .int .i64 0]) := hide (by
    rw [hW]
    have h := Blk.new ((w0.alloc (.cells #[.int .i64 a, .int .i64 b, .int .i64 c, .int .i64 d] 150)).alloc (.cells #[.int .i64 0, .int .i64 0] 73)) 73 #[.int .i64 0, .int .i64 0]
    rwa [World.size_alloc, World.size_alloc, hz0] at h)
  have HBW : Hid (Below w.heap.size w W) := hide (by
    rw [hW]
    exact ((HB0.out.alloc (by omega) _).alloc (by simp; omega) _).alloc (by simp; omega) _)
  have hn1 : IntKind.i64.wrap (-a) = -a := by rw [IntKind.wrap_i64]; omega
  have hn2 : IntKind.i64.wrap (-b) = -b := by rw [IntKind.wrap_i64]; omega
  have hn3 : IntKind.i64.wrap (-c) = -c := by rw [IntKind.wrap_i64]; omega
  have hn4 : IntKind.i64.wrap (-d) = -d := by rw [IntKind.wrap_i64]; omega
  have HQ := hide hq
  clear hq hz0 hW
  obtain ⟨p6, hp6⟩ : ∃ p6, w.heap.size + 1 + 1 = p6 := ⟨_, rfl⟩
  rw [hp6] at HT HL HM ⊢
  obtain ⟨p7, hp7⟩ : ∃ p7, p6 + 1 = p7 := ⟨_, rfl⟩
  rw [hp7] at HL HM ⊢
  obtain ⟨p8, hp8⟩ : ∃ p8, p7 + 1 = p8 := ⟨_, rfl⟩
  rw [hp8] at HM ⊢
  have HP := hide (And.intro hp6 (And.intro hp7 hp8))
  have HZ := hide hzW
  clear hp6 hp7 hp8 hzW
  refine wp_loop_rounds 3 ?_
  have hM1 : max b (-a) = mostS2 a b := rfl
  have hM2 : max d (-c) = mostS2 c d := rfl
  have hL1 : (if (if 0 < a then a else 0) < -b then -b else if 0 < a then a else 0) = leastS a b := by unfold leastS; split <;> split <;> omega
  have hL2 : (if (if 0 < c then c else 0) < -d then -d else if 0 < c then c else 0) = leastS c d := by unfold leastS; split <;> split <;> omega
  rw [rounds_succ]
  go_wp2_with fail
  obtain ⟨t0, t1, t2, t3⟩ : W.cell? ⟨p6, 0, none⟩ = some (.int .i64 a) ∧ W.cell? ⟨p6, 1, none⟩ = some (.int .i64 b) ∧ W.cell? ⟨p6, 2, none⟩ = some (.int .i64 c) ∧ W.cell? ⟨p6, 3, none⟩ = some (.int .i64 d) := ⟨HT.out.cell 0, HT.out.cell 1, HT.out.cell 2, HT.out.cell 3⟩
  obtain ⟨m0, m1, mf0, mf1⟩ := HM.out.two
  refine wp_region_head 12 1 (fun w' => w'.cell? ⟨p6, 0, none⟩ = some (.int .i64 a) ∧ w'.cell? ⟨p6, 1, none⟩ = some (.int .i64 b) ∧ w'.cell? ⟨p6, 2, none⟩ = some (.int .i64 c) ∧ w'.cell? ⟨p6, 3, none⟩ = some (.int .i64 d)) (by kernel_rfl) rfl (by kernel_rfl) (fun _ _ d _ _ h => by cases d <;> exact h) ⟨t0, t1, t2, t3⟩ ?_
  simp only [List.take_succ_cons, List.take_zero, List.drop_succ_cons, List.drop_zero]
  iterate 12
    first
    | (refine wpHead_run (v := ?_) (by rfl) ?_ ?_
       rotate_left 1
       focus (intro w' hSw; (try dsimp only at hSw); go_simp; done)
       simp only [Act.put, List.setIfInBounds_toArray, List.set_cons_zero, List.set_cons_succ])
    | (refine wpHead_run (v := ?_) (by rfl) ?_ ?_
       rotate_left 1
       focus (intro w' hSw; (try dsimp only at hSw); go_simp; with_reducible rfl)
       simp only [Act.put, List.setIfInBounds_toArray, List.set_cons_zero, List.set_cons_succ])
  refine wpHead_nil ?_
  refine wpTail_cons (fun K hK => ?_)
  go_simp
  have HT' := hide (Blk.drew ((HT.out.far (p := ⟨p8, 0, none⟩) (by have := HP.out; simp only []; omega) (.int .i64 (mostS2 a b)))))
  have HL' := hide (Blk.drew ((HL.out.far (p := ⟨p8, 0, none⟩) (by have := HP.out; simp only []; omega) (.int .i64 (mostS2 a b)))))
  have HM' := hide (Blk.drew (HM.out.set_ 0 (.int .i64 (mostS2 a b))))
  have HBW' := hide (Below.drew (Below.setCell HBW.out (p := ⟨p8, 0, none⟩) (by have := HP.out; simp only []; omega) (.int .i64 (mostS2 a b))))
  have HZ' : Hid (((W.setCell ⟨p8, 0, none⟩ (.int .i64 (mostS2 a b))).drew).heap.size = w.heap.size + 1 + 1 + 1 + 1 + 1) := hide (by have h := HZ.out; simpa using h)
  refine hK.out _ _ ⟨HT'.out.cell 0, HT'.out.cell 1, HT'.out.cell 2, HT'.out.cell 3⟩ (fun hHeld => ?_)
  clear hK K hHeld t0 t1 t2 t3 m0 m1 mf0 mf1 HT HL HM HBW HZ
  refine wpTail_nil ?_
  simp only [List.setIfInBounds_toArray, List.set_cons_zero, List.set_cons_succ] at HM'
  revert HT' HL' HM' HBW' HZ'
  generalize (W.setCell ⟨p8, 0, none⟩ (.int .i64 (mostS2 a b))).drew = W2
  intro HT HL HBW HZ HM
  go_wp2_with fail
  obtain ⟨t0, t1, t2, t3⟩ : W2.cell? ⟨p6, 0, none⟩ = some (.int .i64 a) ∧ W2.cell? ⟨p6, 1, none⟩ = some (.int .i64 b) ∧ W2.cell? ⟨p6, 2, none⟩ = some (.int .i64 c) ∧ W2.cell? ⟨p6, 3, none⟩ = some (.int .i64 d) := ⟨HT.out.cell 0, HT.out.cell 1, HT.out.cell 2, HT.out.cell 3⟩
  obtain ⟨m0, m1, mf0, mf1⟩ := HL.out.two
  refine wp_region_head 12 1 (fun w' => w'.cell? ⟨p6, 0, none⟩ = some (.int .i64 a) ∧ w'.cell? ⟨p6, 1, none⟩ = some (.int .i64 b) ∧ w'.cell? ⟨p6, 2, none⟩ = some (.int .i64 c) ∧ w'.cell? ⟨p6, 3, none⟩ = some (.int .i64 d)) (by kernel_rfl) rfl (by kernel_rfl) (fun _ _ d _ _ h => by cases d <;> exact h) ⟨t0, t1, t2, t3⟩ ?_
  simp only [List.take_succ_cons, List.take_zero, List.drop_succ_cons, List.drop_zero]
  iterate 12
    first
    | (refine wpHead_run (v := ?_) (by rfl) ?_ ?_
       rotate_left 1
       focus (intro w' hSw; (try dsimp only at hSw); go_simp; done)
       simp only [Act.put, List.setIfInBounds_toArray, List.set_cons_zero, List.set_cons_succ])
    | (refine wpHead_run (v := ?_) (by rfl) ?_ ?_
       rotate_left 1
       focus (intro w' hSw; (try dsimp only at hSw); go_simp; with_reducible rfl)
       simp only [Act.put, List.setIfInBounds_toArray, List.set_cons_zero, List.set_cons_succ])
  refine wpHead_nil ?_
  refine wpTail_cons (fun K hK => ?_)
  go_simp
  have HT' := hide (Blk.drew ((HT.out.far (p := ⟨p7, 0, none⟩) (by have := HP.out; simp only []; omega) (.int .i64 (leastS a b)))))
  have HM' := hide (Blk.drew ((HM.out.far (p := ⟨p7, 0, none⟩) (by have := HP.out; simp only []; omega) (.int .i64 (leastS a b)))))
  have HL' := hide (Blk.drew (HL.out.set_ 0 (.int .i64 (leastS a b))))
  have HBW' := hide (Below.drew (Below.setCell HBW.out (p := ⟨p7, 0, none⟩) (by have := HP.out; simp only []; omega) (.int .i64 (leastS a b))))
  have HZ' : Hid (((W2.setCell ⟨p7, 0, none⟩ (.int .i64 (leastS a b))).drew).heap.size = w.heap.size + 1 + 1 + 1 + 1 + 1) := hide (by have h := HZ.out; simpa using h)
  refine hK.out _ _ ⟨HT'.out.cell 0, HT'.out.cell 1, HT'.out.cell 2, HT'.out.cell 3⟩ (fun hHeld => ?_)
  clear hK K hHeld t0 t1 t2 t3 m0 m1 mf0 mf1 HT HL HM HBW HZ
  refine wpTail_nil ?_
  simp only [List.setIfInBounds_toArray, List.set_cons_zero, List.set_cons_succ] at HL'
  revert HT' HL' HM' HBW' HZ'
  generalize (W2.setCell ⟨p7, 0, none⟩ (.int .i64 (leastS a b))).drew = W3
  intro HT HM HBW HZ HL
  go_wp2_with fail
  rw [rounds_succ]
  go_wp2_with fail
  obtain ⟨t0, t1, t2, t3⟩ : W3.cell? ⟨p6, 0, none⟩ = some (.int .i64 a) ∧ W3.cell? ⟨p6, 1, none⟩ = some (.int .i64 b) ∧ W3.cell? ⟨p6, 2, none⟩ = some (.int .i64 c) ∧ W3.cell? ⟨p6, 3, none⟩ = some (.int .i64 d) := ⟨HT.out.cell 0, HT.out.cell 1, HT.out.cell 2, HT.out.cell 3⟩
  obtain ⟨m0, m1, mf0, mf1⟩ := HM.out.two
  refine wp_region_head 12 1 (fun w' => w'.cell? ⟨p6, 0, none⟩ = some (.int .i64 a) ∧ w'.cell? ⟨p6, 1, none⟩ = some (.int .i64 b) ∧ w'.cell? ⟨p6, 2, none⟩ = some (.int .i64 c) ∧ w'.cell? ⟨p6, 3, none⟩ = some (.int .i64 d)) (by kernel_rfl) rfl (by kernel_rfl) (fun _ _ d _ _ h => by cases d <;> exact h) ⟨t0, t1, t2, t3⟩ ?_
  simp only [List.take_succ_cons, List.take_zero, List.drop_succ_cons, List.drop_zero]
  iterate 12
    first
    | (refine wpHead_run (v := ?_) (by rfl) ?_ ?_
       rotate_left 1
       focus (intro w' hSw; (try dsimp only at hSw); go_simp; done)
       simp only [Act.put, List.setIfInBounds_toArray, List.set_cons_zero, List.set_cons_succ])
    | (refine wpHead_run (v := ?_) (by rfl) ?_ ?_
       rotate_left 1
       focus (intro w' hSw; (try dsimp only at hSw); go_simp; with_reducible rfl)
       simp only [Act.put, List.setIfInBounds_toArray, List.set_cons_zero, List.set_cons_succ])
  refine wpHead_nil ?_
  refine wpTail_cons (fun K hK => ?_)
  go_simp
  have HT' := hide (Blk.drew ((HT.out.far (p := ⟨p8, 1, none⟩) (by have := HP.out; simp only []; omega) (.int .i64 (mostS2 c d)))))
  have HL' := hide (Blk.drew ((HL.out.far (p := ⟨p8, 1, none⟩) (by have := HP.out; simp only []; omega) (.int .i64 (mostS2 c d)))))
  have HM' := hide (Blk.drew (HM.out.set_ 1 (.int .i64 (mostS2 c d))))
  have HBW' := hide (Below.drew (Below.setCell HBW.out (p := ⟨p8, 1, none⟩) (by have := HP.out; simp only []; omega) (.int .i64 (mostS2 c d))))
  have HZ' : Hid (((W3.setCell ⟨p8, 1, none⟩ (.int .i64 (mostS2 c d))).drew).heap.size = w.heap.size + 1 + 1 + 1 + 1 + 1) := hide (by have h := HZ.out; simpa using h)
  refine hK.out _ _ ⟨HT'.out.cell 0, HT'.out.cell 1, HT'.out.cell 2, HT'.out.cell 3⟩ (fun hHeld => ?_)
  clear hK K hHeld t0 t1 t2 t3 m0 m1 mf0 mf1 HT HL HM HBW HZ
  refine wpTail_nil ?_
  simp only [List.setIfInBounds_toArray, List.set_cons_zero, List.set_cons_succ] at HM'
  revert HT' HL' HM' HBW' HZ'
  generalize (W3.setCell ⟨p8, 1, none⟩ (.int .i64 (mostS2 c d))).drew = W4
  intro HT HL HBW HZ HM
  go_wp2_with fail
  obtain ⟨t0, t1, t2, t3⟩ : W4.cell? ⟨p6, 0, none⟩ = some (.int .i64 a) ∧ W4.cell? ⟨p6, 1, none⟩ = some (.int .i64 b) ∧ W4.cell? ⟨p6, 2, none⟩ = some (.int .i64 c) ∧ W4.cell? ⟨p6, 3, none⟩ = some (.int .i64 d) := ⟨HT.out.cell 0, HT.out.cell 1, HT.out.cell 2, HT.out.cell 3⟩
  obtain ⟨m0, m1, mf0, mf1⟩ := HL.out.two
  refine wp_region_head 12 1 (fun w' => w'.cell? ⟨p6, 0, none⟩ = some (.int .i64 a) ∧ w'.cell? ⟨p6, 1, none⟩ = some (.int .i64 b) ∧ w'.cell? ⟨p6, 2, none⟩ = some (.int .i64 c) ∧ w'.cell? ⟨p6, 3, none⟩ = some (.int .i64 d)) (by kernel_rfl) rfl (by kernel_rfl) (fun _ _ d _ _ h => by cases d <;> exact h) ⟨t0, t1, t2, t3⟩ ?_
  simp only [List.take_succ_cons, List.take_zero, List.drop_succ_cons, List.drop_zero]
  iterate 12
    first
    | (refine wpHead_run (v := ?_) (by rfl) ?_ ?_
       rotate_left 1
       focus (intro w' hSw; (try dsimp only at hSw); go_simp; done)
       simp only [Act.put, List.setIfInBounds_toArray, List.set_cons_zero, List.set_cons_succ])
    | (refine wpHead_run (v := ?_) (by rfl) ?_ ?_
       rotate_left 1
       focus (intro w' hSw; (try dsimp only at hSw); go_simp; with_reducible rfl)
       simp only [Act.put, List.setIfInBounds_toArray, List.set_cons_zero, List.set_cons_succ])
  refine wpHead_nil ?_
  refine wpTail_cons (fun K hK => ?_)
  go_simp
  have HT' := hide (Blk.drew ((HT.out.far (p := ⟨p7, 1, none⟩) (by have := HP.out; simp only []; omega) (.int .i64 (leastS c d)))))
  have HM' := hide (Blk.drew ((HM.out.far (p := ⟨p7, 1, none⟩) (by have := HP.out; simp only []; omega) (.int .i64 (leastS c d)))))
  have HL' := hide (Blk.drew (HL.out.set_ 1 (.int .i64 (leastS c d))))
  have HBW' := hide (Below.drew (Below.setCell HBW.out (p := ⟨p7, 1, none⟩) (by have := HP.out; simp only []; omega) (.int .i64 (leastS c d))))
  have HZ' : Hid (((W4.setCell ⟨p7, 1, none⟩ (.int .i64 (leastS c d))).drew).heap.size = w.heap.size + 1 + 1 + 1 + 1 + 1) := hide (by have h := HZ.out; simpa using h)
  refine hK.out _ _ ⟨HT'.out.cell 0, HT'.out.cell 1, HT'.out.cell 2, HT'.out.cell 3⟩ (fun hHeld => ?_)
  clear hK K hHeld t0 t1 t2 t3 m0 m1 mf0 mf1 HT HL HM HBW HZ
  refine wpTail_nil ?_
  simp only [List.setIfInBounds_toArray, List.set_cons_zero, List.set_cons_succ] at HL'
  revert HT' HL' HM' HBW' HZ'
  generalize (W4.setCell ⟨p7, 1, none⟩ (.int .i64 (leastS c d))).drew = W5
  intro HT HM HBW HZ HL
  go_wp2_with fail
  obtain ⟨l0, l1, _, _⟩ := HL.out.two
  obtain ⟨m0, m1, _, _⟩ := HM.out.two
  rw [rounds_succ]
  go_wp2_with fail
  all_goals
    go_ret2
    refine ⟨?_, HBW.out⟩
    rw [nearS_ok HQ.out]
    first
    | (rw [if_pos (by omega)]; rfl)
    | (rw [if_neg (by omega), if_pos (by omega)]; rfl)
    | (rw [if_neg (by omega), if_neg (by omega)]; rfl)
end Go.Proofs.YtaacnbnmlfhnaaaGreatDoor

namespace Go.Proofs.YtaacnbnmlfhnaaaGreatDoor
open Go.RowKit

theorem nearS_swap (a b c d : Int) : ∃ r s, nearS a b c d = (r, s) ∧ nearS c d a b = (-r, s) ∧ -1 ≤ r ∧ r ≤ 1 := by
  by_cases h : (-100000000000000 ≤ a ∧ a ≤ b ∧ b ≤ 100000000000000) ∧ -100000000000000 ≤ c ∧ c ≤ d ∧ d ≤ 100000000000000
  · rw [nearS_ok h, nearS_ok ⟨h.2, h.1⟩]
    have h1 : leastS a b ≤ mostS2 a b := by unfold leastS mostS2; omega
    have h2 : leastS c d ≤ mostS2 c d := by unfold leastS mostS2; omega
    by_cases h3 : mostS2 a b < leastS c d
    · rw [if_pos h3, if_neg (by omega), if_pos h3]
      exact ⟨-1, 0, rfl, rfl, by omega, by omega⟩
    · by_cases h4 : mostS2 c d < leastS a b
      · rw [if_neg h3, if_pos h4, if_pos h4]
        exact ⟨1, 0, rfl, rfl, by omega, by omega⟩
      · rw [if_neg h3, if_neg h4, if_neg h4, if_neg h3]
        exact ⟨0, 0, rfl, rfl, by omega, by omega⟩
  · rw [nearS_no (by omega), nearS_no (by omega)]
    exact ⟨0, 2, rfl, rfl, by omega, by omega⟩

set_option maxHeartbeats 2000000 in
set_option maxRecDepth 100000 in
theorem compares_any (a b c d : Int) (w : World) (ha : -9223372036854775808 ≤ a ∧ a ≤ 9223372036854775807) (hb : -9223372036854775808 ≤ b ∧ b ≤ 9223372036854775807) (hc : -9223372036854775808 ≤ c ∧ c ≤ 9223372036854775807) (hd : -9223372036854775808 ≤ d ∧ d ≤ 9223372036854775807)
    (hE : ErrVars w) (htab : Lib.TabIs Tryz.prog w "internal/strconv.uint64pow10" .u64 Lib.pow10Tab) :
    Calls Tryz.prog 10 #[.agg #[.int .i64 a, .int .i64 b], .agg #[.int .i64 c, .int .i64 d]] w fun e w' => e = .returned (.bool true) ∧ Below w.heap.size w w' := by
  obtain ⟨w0, hw0⟩ : ∃ w0, w0 = (w.alloc (.cells #[.int .i64 a, .int .i64 b] 73)).alloc (.cells #[.int .i64 c, .int .i64 d] 73) := ⟨_, rfl⟩
  have hz0 : w0.heap.size = w.heap.size + 2 := by rw [hw0]; simp
  have h01 : Below w.heap.size w w0 := by rw [hw0]; exact ((Below.refl _ _).alloc (Nat.le_refl _) _).alloc (by simp) _
  have HX0 : Hid (Blk w0 w.heap.size 73 #[.int .i64 a, .int .i64 b]) := hide (by rw [hw0]; exact (Blk.new w _ _).alloc _)
  have HY0 : Hid (Blk w0 (w.heap.size + 1) 73 #[.int .i64 c, .int .i64 d]) := hide (by
    rw [hw0]
    have h := Blk.new (w.alloc (.cells #[.int .i64 a, .int .i64 b] 73)) 73 #[.int .i64 c, .int .i64 d]
    rwa [World.size_alloc] at h)
  have HB0 := hide h01
  obtain ⟨r, s, h1, h2, hr1, hr2⟩ := nearS_swap a b c d
  have HS1 := hide (fun W => nearer_any a b c d W ha hb hc hd)
  have HS2 := hide (fun W => nearer_any c d a b W hc hd ha hb)
  have HS3 := hide (fun W => refNearer_any a b c d W ha hb hc hd)
  rw [h1] at HS1 HS3
  rw [h2] at HS2
  have hwr : IntKind.i64.wrap (-r) = -r := by rw [IntKind.wrap_i64]; omega
  obtain ⟨gp, hgp⟩ := Option.isSome_iff_exists.1 Tryz.pow10g
  have HK : Hid (∀ W, Below w.heap.size w W → Calls Tryz.prog 17 #[] W fun e w' => e = .returned (.bool true) ∧ Below W.heap.size W w') := hide (fun W hW => known_any W (hE.below hW (Nat.le_refl _)) (TabIs_below_ hgp htab hW))
  clear h01 ha hb hc hd hE htab h1 h2
  go_enter Tryz.func10, Tryz.ntmps10
  go_wp2_with fail
  rw [← hw0]
  clear hw0
  obtain ⟨x0, x1, _, _⟩ := HX0.out.two
  obtain ⟨y0, y1, _, _⟩ := HY0.out.two
  go_wp2_with (first
    | (go_at_call 56; refine (HS1.out _).mono ?_; rintro e w1 ⟨rfl, hb1⟩
       have hz1 := hb1.size
       have HX1 := hide (HX0.out.below hb1 (by omega)); have HY1 := hide (HY0.out.below hb1 (by omega)); have HB1 := hide (HB0.out.trans (hb1.mono (by omega)))
       obtain ⟨x0, x1, _, _⟩ := HX1.out.two
       obtain ⟨y0, y1, _, _⟩ := HY1.out.two
       clear hb1 HS1)
    | (go_at_call 56; refine (HS2.out _).mono ?_; rintro e w2 ⟨rfl, hb2⟩
       have hz2 := hb2.size
       have HX2 := hide (HX1.out.below hb2 (by omega)); have HY2 := hide (HY1.out.below hb2 (by omega)); have HB2 := hide (HB1.out.trans (hb2.mono (by omega)))
       obtain ⟨x0, x1, _, _⟩ := HX2.out.two
       obtain ⟨y0, y1, _, _⟩ := HY2.out.two
       clear hb2 HS2)
    | (go_at_call 57; refine (HS3.out _).mono ?_; rintro e w3 ⟨rfl, hb3⟩
       have hz3 := hb3.size
       have HB3 := hide (HB2.out.trans (hb3.mono (by omega)))
       clear hb3 HS3)
    | (go_at_call 17; refine (HK.out _ HB3.out).mono ?_; rintro e w4 ⟨rfl, hb4⟩
       have HB4 := hide (HB3.out.trans (hb4.mono (by omega)))
       clear hb4))
  all_goals
    go_ret
    exact ⟨rfl, HB4.out⟩
end Go.Proofs.YtaacnbnmlfhnaaaGreatDoor
