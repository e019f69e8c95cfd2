/-
  cord.sizeOf, Nearer; the reference's Nearer.
  cord.Nearer.
-/
import Derived.Test.YtloegjlknpioeaaGreatDoorSgnToLawA
import Derived.Test.YtloegjlknpioeaaGreatDoorBaseToHead
set_option linter.unusedVariables false
set_option linter.unusedSimpArgs false
namespace Go.Proofs.YtloegjlknpioeaaGreatDoor
open Go.RowKit

theorem Tryz.sizeSize : (Tryz.prog.info? 128).map (·.size) = some 2 := by kernel_rfl
def sizeOK (a b : Int) : Bool := decide (a ≤ b) && decide (-100000000000000 ≤ a) && decide (b ≤ 100000000000000)
def leastS (a b : Int) : Int := max (max 0 a) (-b)
def mostS2 (a b : Int) : Int := max b (-a)
def SizePost (w : World) (a b : Int) (e : Ending) (w' : World) : Prop :=
  ∃ l m ok, e = .returned (.tuple #[.agg #[.int .i64 l, .int .i64 m], .bool ok]) ∧ ok = sizeOK a b ∧ (sizeOK a b = true → l = leastS a b ∧ m = mostS2 a b) ∧ Below w.heap.size w w'

set_option maxHeartbeats 2000000 in
set_option maxRecDepth 100000 in
theorem sizeOf_any (a b : Int) (w : World) (ha : -9223372036854775808 ≤ a ∧ a ≤ 9223372036854775807) (hb : -9223372036854775808 ≤ b ∧ b ≤ 9223372036854775807) :
    Calls Tryz.prog 86 #[.agg #[.int .i64 a, .int .i64 b]] w (SizePost w a b) := by
  obtain ⟨w0, hw0⟩ : ∃ w0, w0 = (w.alloc (.cells #[.int .i64 a, .int .i64 b] 53)).alloc (.cells #[.int .i64 0, .int .i64 0] 128) := ⟨_, rfl⟩
  have hz0 : w0.heap.size = w.heap.size + 2 := by rw [hw0]; simp
  have h01 : Below w.heap.size w w0 := by rw [hw0]; exact ((Below.refl _ _).alloc (Nat.le_refl _) _).alloc (by simp) _
  have HX0 : Hid (Blk w0 w.heap.size 53 #[.int .i64 a, .int .i64 b]) := hide (by rw [hw0]; exact (Blk.new w _ _).alloc _)
  have HR0 : Hid (Blk w0 (w.heap.size + 1) 128 #[.int .i64 0, .int .i64 0]) := hide (by
    rw [hw0]
    have h := Blk.new (w.alloc (.cells #[.int .i64 a, .int .i64 b] 53)) 128 #[.int .i64 0, .int .i64 0]
    rwa [World.size_alloc] at h)
  have HB0 := hide h01
  clear h01
  go_enter Tryz.func86, Tryz.ntmps86
  go_wp2
  rw [← hw0]
  clear hw0
  obtain ⟨x0, x1, _, _⟩ := HX0.out.two
  obtain ⟨r0, r1, rf0, rf1⟩ := HR0.out.two
  by_cases h1 : a ≤ b
  · by_cases h2 : -100000000000000 ≤ a
    · by_cases h3 : b ≤ 100000000000000
      · have HOK : Hid (sizeOK a b = true) := hide (by simp [sizeOK, h1, h2, h3])
        have hn1 : IntKind.i64.wrap (-b) = -b := by rw [IntKind.wrap_i64]; omega
        have hn2 : IntKind.i64.wrap (-a) = -a := by rw [IntKind.wrap_i64]; omega
        have HS1 : Hid ((w0.drew).cell? ⟨w.heap.size, 0, none⟩ = some (.int .i64 a) ∧ (w0.drew).cell? ⟨w.heap.size, 1, none⟩ = some (.int .i64 b)) := hide ⟨x0, x1⟩
        have HS2 : Hid (∀ u v, ((w0.drew.setCell ⟨w.heap.size + 1, 0, none⟩ u).setCell ⟨w.heap.size + 1, 1, none⟩ v).cell? ⟨w.heap.size, 0, none⟩ = some (.int .i64 a) ∧ ((w0.drew.setCell ⟨w.heap.size + 1, 0, none⟩ u).setCell ⟨w.heap.size + 1, 1, none⟩ v).cell? ⟨w.heap.size, 1, none⟩ = some (.int .i64 b)) := hide (fun u v => ⟨((HX0.out.drew.far (p := ⟨w.heap.size + 1, 0, none⟩) (by simp) u).far (p := ⟨w.heap.size + 1, 1, none⟩) (by simp) v).cell 0, ((HX0.out.drew.far (p := ⟨w.heap.size + 1, 0, none⟩) (by simp) u).far (p := ⟨w.heap.size + 1, 1, none⟩) (by simp) v).cell 1⟩)
        refine wp_region_head 28 2 (fun w' => w'.cell? ⟨w.heap.size, 0, none⟩ = some (.int .i64 a) ∧ w'.cell? ⟨w.heap.size, 1, none⟩ = some (.int .i64 b)) (by kernel_rfl) rfl (by kernel_rfl) (fun _ _ d _ _ h => by cases d <;> exact h) HS1.out ?_
        simp only [List.take_succ_cons, List.take_zero, List.drop_succ_cons, List.drop_zero]
        iterate 28
          first
          | (refine wpHead_run (v := ?_) (by rfl) ?_ ?_
             rotate_left 1
             focus (intro w' hSw; (try dsimp only at hSw); go_simp; done)
             simp only [Act.put, List.setIfInBounds_toArray, List.set_cons_zero, List.set_cons_succ])
          | (refine wpHead_run (v := ?_) (by rfl) ?_ ?_
             rotate_left 1
             focus (intro w' hSw; (try dsimp only at hSw); go_simp; with_reducible rfl)
             simp only [Act.put, List.setIfInBounds_toArray, List.set_cons_zero, List.set_cons_succ])
          | (refine wpHead_skip (by rfl) ?_
             simp only [Act.put, List.setIfInBounds_toArray, List.set_cons_zero, List.set_cons_succ])
        refine wpHead_nil ?_
        refine wpTail_cons (fun K hK => ?_)
        go_simp
        refine hK.out _ _ (HS2.out _ _) (fun hHeld => ?_)
        clear hK K
        refine wpTail_cons (fun K hK => ?_)
        go_simp
        refine hK.out _ _ (HS2.out _ _) (fun hHeld2 => ?_)
        clear hK K
        refine wpTail_nil ?_
        go_wp2
        all_goals
          refine bodyPost_cell_tmp (p := 2) (u := 3) (ty := 128) rfl rfl (Blk.drew ((HR0.out.set_ 0 _).set_ 1 _)) Tryz.underlying128 rfl Tryz.sizeSize rfl ?_
          refine ⟨_, _, _, rfl, HOK.out.symm, ?_, Below.drew (Below.setCell (Below.setCell HB0.out (p := ⟨w.heap.size + 1, 0, none⟩) (by simp) _) (p := ⟨w.heap.size + 1, 1, none⟩) (by simp) _)⟩
          exact fun _ => ⟨by unfold leastS; omega, by unfold mostS2; omega⟩
      · have HOK : Hid (sizeOK a b = false) := hide (by simp [sizeOK, h3])
        have hdf : decide (b ≤ 100000000000000) = false := by simp [h3]
        have HS1 : Hid ((w0.drew).cell? ⟨w.heap.size, 0, none⟩ = some (.int .i64 a) ∧ (w0.drew).cell? ⟨w.heap.size, 1, none⟩ = some (.int .i64 b)) := hide ⟨x0, x1⟩
        have HS2 : Hid (∀ u v, ((w0.drew.setCell ⟨w.heap.size + 1, 0, none⟩ u).setCell ⟨w.heap.size + 1, 1, none⟩ v).cell? ⟨w.heap.size, 0, none⟩ = some (.int .i64 a) ∧ ((w0.drew.setCell ⟨w.heap.size + 1, 0, none⟩ u).setCell ⟨w.heap.size + 1, 1, none⟩ v).cell? ⟨w.heap.size, 1, none⟩ = some (.int .i64 b)) := hide (fun u v => ⟨((HX0.out.drew.far (p := ⟨w.heap.size + 1, 0, none⟩) (by simp) u).far (p := ⟨w.heap.size + 1, 1, none⟩) (by simp) v).cell 0, ((HX0.out.drew.far (p := ⟨w.heap.size + 1, 0, none⟩) (by simp) u).far (p := ⟨w.heap.size + 1, 1, none⟩) (by simp) v).cell 1⟩)
        refine wp_region_head 28 2 (fun w' => w'.cell? ⟨w.heap.size, 0, none⟩ = some (.int .i64 a) ∧ w'.cell? ⟨w.heap.size, 1, none⟩ = some (.int .i64 b)) (by kernel_rfl) rfl (by kernel_rfl) (fun _ _ d _ _ h => by cases d <;> exact h) HS1.out ?_
        simp only [List.take_succ_cons, List.take_zero, List.drop_succ_cons, List.drop_zero]
        iterate 28
          first
          | (refine wpHead_run (v := ?_) (by rfl) ?_ ?_
             rotate_left 1
             focus (intro w' hSw; (try dsimp only at hSw); go_simp; done)
             simp only [Act.put, List.setIfInBounds_toArray, List.set_cons_zero, List.set_cons_succ])
          | (refine wpHead_run (v := ?_) (by rfl) ?_ ?_
             rotate_left 1
             focus (intro w' hSw; (try dsimp only at hSw); go_simp; with_reducible rfl)
             simp only [Act.put, List.setIfInBounds_toArray, List.set_cons_zero, List.set_cons_succ])
          | (refine wpHead_skip (by rfl) ?_
             simp only [Act.put, List.setIfInBounds_toArray, List.set_cons_zero, List.set_cons_succ])
        refine wpHead_nil ?_
        refine wpTail_cons (fun K hK => ?_)
        go_simp
        refine hK.out _ _ (HS2.out _ _) (fun hHeld => ?_)
        clear hK K
        refine wpTail_cons (fun K hK => ?_)
        go_simp
        refine hK.out _ _ (HS2.out _ _) (fun hHeld2 => ?_)
        clear hK K
        refine wpTail_nil ?_
        go_wp2
        all_goals
          refine bodyPost_cell_tmp (p := 2) (u := 3) (ty := 128) rfl rfl (Blk.drew ((HR0.out.set_ 0 _).set_ 1 _)) Tryz.underlying128 rfl Tryz.sizeSize rfl ?_
          refine ⟨_, _, _, rfl, HOK.out.symm, ?_, Below.drew (Below.setCell (Below.setCell HB0.out (p := ⟨w.heap.size + 1, 0, none⟩) (by simp) _) (p := ⟨w.heap.size + 1, 1, none⟩) (by simp) _)⟩
          exact fun h => by rw [HOK.out] at h; cases h
    · have HOK : Hid (sizeOK a b = false) := hide (by simp [sizeOK, h2])
      have hdf : decide (-100000000000000 ≤ a) = false := by simp [h2]
      have HS1 : Hid ((w0.drew).cell? ⟨w.heap.size, 0, none⟩ = some (.int .i64 a) ∧ (w0.drew).cell? ⟨w.heap.size, 1, none⟩ = some (.int .i64 b)) := hide ⟨x0, x1⟩
      have HS2 : Hid (∀ u v, ((w0.drew.setCell ⟨w.heap.size + 1, 0, none⟩ u).setCell ⟨w.heap.size + 1, 1, none⟩ v).cell? ⟨w.heap.size, 0, none⟩ = some (.int .i64 a) ∧ ((w0.drew.setCell ⟨w.heap.size + 1, 0, none⟩ u).setCell ⟨w.heap.size + 1, 1, none⟩ v).cell? ⟨w.heap.size, 1, none⟩ = some (.int .i64 b)) := hide (fun u v => ⟨((HX0.out.drew.far (p := ⟨w.heap.size + 1, 0, none⟩) (by simp) u).far (p := ⟨w.heap.size + 1, 1, none⟩) (by simp) v).cell 0, ((HX0.out.drew.far (p := ⟨w.heap.size + 1, 0, none⟩) (by simp) u).far (p := ⟨w.heap.size + 1, 1, none⟩) (by simp) v).cell 1⟩)
      refine wp_region_head 28 2 (fun w' => w'.cell? ⟨w.heap.size, 0, none⟩ = some (.int .i64 a) ∧ w'.cell? ⟨w.heap.size, 1, none⟩ = some (.int .i64 b)) (by kernel_rfl) rfl (by kernel_rfl) (fun _ _ d _ _ h => by cases d <;> exact h) HS1.out ?_
      simp only [List.take_succ_cons, List.take_zero, List.drop_succ_cons, List.drop_zero]
      iterate 28
        first
        | (refine wpHead_run (v := ?_) (by rfl) ?_ ?_
           rotate_left 1
           focus (intro w' hSw; (try dsimp only at hSw); go_simp; done)
           simp only [Act.put, List.setIfInBounds_toArray, List.set_cons_zero, List.set_cons_succ])
        | (refine wpHead_run (v := ?_) (by rfl) ?_ ?_
           rotate_left 1
           focus (intro w' hSw; (try dsimp only at hSw); go_simp; with_reducible rfl)
           simp only [Act.put, List.setIfInBounds_toArray, List.set_cons_zero, List.set_cons_succ])
        | (refine wpHead_skip (by rfl) ?_
           simp only [Act.put, List.setIfInBounds_toArray, List.set_cons_zero, List.set_cons_succ])
      refine wpHead_nil ?_
      refine wpTail_cons (fun K hK => ?_)
      go_simp
      refine hK.out _ _ (HS2.out _ _) (fun hHeld => ?_)
      clear hK K
      refine wpTail_cons (fun K hK => ?_)
      go_simp
      refine hK.out _ _ (HS2.out _ _) (fun hHeld2 => ?_)
      clear hK K
      refine wpTail_nil ?_
      go_wp2
      all_goals
        refine bodyPost_cell_tmp (p := 2) (u := 3) (ty := 128) rfl rfl (Blk.drew ((HR0.out.set_ 0 _).set_ 1 _)) Tryz.underlying128 rfl Tryz.sizeSize rfl ?_
        refine ⟨_, _, _, rfl, HOK.out.symm, ?_, Below.drew (Below.setCell (Below.setCell HB0.out (p := ⟨w.heap.size + 1, 0, none⟩) (by simp) _) (p := ⟨w.heap.size + 1, 1, none⟩) (by simp) _)⟩
        exact fun h => by rw [HOK.out] at h; cases h
  · have HOK : Hid (sizeOK a b = false) := hide (by simp [sizeOK, h1])
    have hdf : decide (a ≤ b) = false := by simp [h1]
    have HS1 : Hid ((w0.drew).cell? ⟨w.heap.size, 0, none⟩ = some (.int .i64 a) ∧ (w0.drew).cell? ⟨w.heap.size, 1, none⟩ = some (.int .i64 b)) := hide ⟨x0, x1⟩
    have HS2 : Hid (∀ u v, ((w0.drew.setCell ⟨w.heap.size + 1, 0, none⟩ u).setCell ⟨w.heap.size + 1, 1, none⟩ v).cell? ⟨w.heap.size, 0, none⟩ = some (.int .i64 a) ∧ ((w0.drew.setCell ⟨w.heap.size + 1, 0, none⟩ u).setCell ⟨w.heap.size + 1, 1, none⟩ v).cell? ⟨w.heap.size, 1, none⟩ = some (.int .i64 b)) := hide (fun u v => ⟨((HX0.out.drew.far (p := ⟨w.heap.size + 1, 0, none⟩) (by simp) u).far (p := ⟨w.heap.size + 1, 1, none⟩) (by simp) v).cell 0, ((HX0.out.drew.far (p := ⟨w.heap.size + 1, 0, none⟩) (by simp) u).far (p := ⟨w.heap.size + 1, 1, none⟩) (by simp) v).cell 1⟩)
    refine wp_region_head 28 2 (fun w' => w'.cell? ⟨w.heap.size, 0, none⟩ = some (.int .i64 a) ∧ w'.cell? ⟨w.heap.size, 1, none⟩ = some (.int .i64 b)) (by kernel_rfl) rfl (by kernel_rfl) (fun _ _ d _ _ h => by cases d <;> exact h) HS1.out ?_
    simp only [List.take_succ_cons, List.take_zero, List.drop_succ_cons, List.drop_zero]
    iterate 28
      first
      | (refine wpHead_run (v := ?_) (by rfl) ?_ ?_
         rotate_left 1
         focus (intro w' hSw; (try dsimp only at hSw); go_simp; done)
         simp only [Act.put, List.setIfInBounds_toArray, List.set_cons_zero, List.set_cons_succ])
      | (refine wpHead_run (v := ?_) (by rfl) ?_ ?_
         rotate_left 1
         focus (intro w' hSw; (try dsimp only at hSw); go_simp; with_reducible rfl)
         simp only [Act.put, List.setIfInBounds_toArray, List.set_cons_zero, List.set_cons_succ])
      | (refine wpHead_skip (by rfl) ?_
         simp only [Act.put, List.setIfInBounds_toArray, List.set_cons_zero, List.set_cons_succ])
    refine wpHead_nil ?_
    refine wpTail_cons (fun K hK => ?_)
    go_simp
    refine hK.out _ _ (HS2.out _ _) (fun hHeld => ?_)
    clear hK K
    refine wpTail_cons (fun K hK => ?_)
    go_simp
    refine hK.out _ _ (HS2.out _ _) (fun hHeld2 => ?_)
    clear hK K
    refine wpTail_nil ?_
    go_wp2
    all_goals
      refine bodyPost_cell_tmp (p := 2) (u := 3) (ty := 128) rfl rfl (Blk.drew ((HR0.out.set_ 0 _).set_ 1 _)) Tryz.underlying128 rfl Tryz.sizeSize rfl ?_
      refine ⟨_, _, _, rfl, HOK.out.symm, ?_, Below.drew (Below.setCell (Below.setCell HB0.out (p := ⟨w.heap.size + 1, 0, none⟩) (by simp) _) (p := ⟨w.heap.size + 1, 1, none⟩) (by simp) _)⟩
      exact fun h => by rw [HOK.out] at h; cases h
end Go.Proofs.YtloegjlknpioeaaGreatDoor

namespace Go.Proofs.YtloegjlknpioeaaGreatDoor
open Go.RowKit

/-- Which of two errors is surely less, or the error. -/
def nearS (a b c d : Int) : Int × Int :=
  if (sizeOK a b && sizeOK c d) = false then (0, 2) else if mostS2 a b < leastS c d then (-1, 0) else if mostS2 c d < leastS a b then (1, 0) else (0, 0)

set_option maxHeartbeats 2000000 in
set_option maxRecDepth 100000 in
theorem nearer_any (a b c d : Int) (w : World) (ha : -9223372036854775808 ≤ a ∧ a ≤ 9223372036854775807) (hb : -9223372036854775808 ≤ b ∧ b ≤ 9223372036854775807) (hc : -9223372036854775808 ≤ c ∧ c ≤ 9223372036854775807) (hd : -9223372036854775808 ≤ d ∧ d ≤ 9223372036854775807) :
    Calls Tryz.prog 39 #[.agg #[.int .i64 a, .int .i64 b], .agg #[.int .i64 c, .int .i64 d]] w fun e w' => e = .returned (.tuple #[.int .i64 (nearS a b c d).1, .int .i64 (nearS a b c d).2]) ∧ Below w.heap.size w w' := by
  obtain ⟨w0, hw0⟩ : ∃ w0, w0 = (w.alloc (.cells #[.int .i64 a, .int .i64 b] 53)).alloc (.cells #[.int .i64 c, .int .i64 d] 53) := ⟨_, rfl⟩
  have hz0 : w0.heap.size = w.heap.size + 2 := by rw [hw0]; simp
  have h01 : Below w.heap.size w w0 := by rw [hw0]; exact ((Below.refl _ _).alloc (Nat.le_refl _) _).alloc (by simp) _
  have HX0 : Hid (Blk w0 w.heap.size 53 #[.int .i64 a, .int .i64 b]) := hide (by rw [hw0]; exact (Blk.new w _ _).alloc _)
  have HY0 : Hid (Blk w0 (w.heap.size + 1) 53 #[.int .i64 c, .int .i64 d]) := hide (by
    rw [hw0]
    have h := Blk.new (w.alloc (.cells #[.int .i64 a, .int .i64 b] 53)) 53 #[.int .i64 c, .int .i64 d]
    rwa [World.size_alloc] at h)
  have HB0 := hide h01
  have HS1 := hide (fun W => sizeOf_any a b W ha hb)
  have HS2 := hide (fun W => sizeOf_any c d W hc hd)
  have hle : Hid (∀ r, nearS a b c d = r → nearS a b c d = r) := hide (fun _ h => h)
  obtain ⟨res, hres⟩ : ∃ res, nearS a b c d = res := ⟨_, rfl⟩
  rw [hres]
  unfold nearS at hres
  unfold SizePost at HS1 HS2
  generalize sizeOK a b = o1 at *
  generalize sizeOK c d = o2 at *
  have HRES := hide hres
  clear h01 hres hle ha hb hc hd
  go_enter Tryz.func39, Tryz.ntmps39
  go_wp2_with fail
  rw [← hw0]
  clear hw0
  obtain ⟨x0, x1, _, _⟩ := HX0.out.two
  obtain ⟨y0, y1, _, _⟩ := HY0.out.two
  cases o1 <;> cases o2
  all_goals
    go_wp2_with (first
      | (go_at_call_of 86 a; refine (HS1.out _).mono ?_; rintro e w1 ⟨l1, m1, ok1, rfl, hok1, hv1, hb1⟩; subst hok1
         have hba : Below w0.heap.size w0 (w1.alloc (.cells #[.int .i64 l1, .int .i64 m1] 128)) := hb1.alloc hb1.size _
         have HY1 := hide (HY0.out.below hba (by omega)); have HB1 := hide (HB0.out.trans (hba.mono (by omega)))
         have HN1 := hide (Blk.new w1 128 #[.int .i64 l1, .int .i64 m1])
         have hz1 := hb1.size
         obtain ⟨u0, u1, _, _⟩ := HY1.out.two
         have HV1 := hide hv1
         clear hb1 hba hv1)
      | (go_at_call_of 86 c; refine (HS2.out _).mono ?_; rintro e w2 ⟨l2, m2, ok2, rfl, hok2, hv2, hb2⟩; subst hok2
         (try simp only [World.size_alloc] at hb2)
         have hz2 := hb2.size
         simp only [World.size_alloc] at hz2
         have HN2 := hide ((HN1.out.below hb2 (by omega)).alloc (.cells #[.int .i64 l2, .int .i64 m2] 128))
         have HM2 := hide (Blk.new w2 128 #[.int .i64 l2, .int .i64 m2])
         have HB2 := hide ((HB1.out.trans (hb2.mono (by omega))).alloc (by omega) (.cells #[.int .i64 l2, .int .i64 m2] 128))
         obtain ⟨n0, n1, _, _⟩ := HN2.out.two
         obtain ⟨m0, m1', _, _⟩ := HM2.out.two
         have HV2 := hide hv2
         clear hb2 hv2))
  all_goals
    go_ret2
    refine ⟨?_, HB2.out⟩
    have hf := HRES.out
    first
    | (have hr : res = (0, 2) := by rw [← hf]; rfl
       subst hr; rfl)
    | (obtain ⟨e1, e2⟩ := HV1.out (by trivial)
       obtain ⟨e3, e4⟩ := HV2.out (by trivial)
       subst e1 e2 e3 e4
       first
       | (have hr : res = (-1, 0) := by rw [← hf, if_neg (by simp), if_pos (by omega)]
          subst hr; rfl)
       | (have hr : res = (1, 0) := by rw [← hf, if_neg (by simp), if_neg (by omega), if_pos (by omega)]
          subst hr; rfl)
       | (have hr : res = (0, 0) := by rw [← hf, if_neg (by simp), if_neg (by omega), if_neg (by omega)]
          subst hr; rfl))
end Go.Proofs.YtloegjlknpioeaaGreatDoor
