import Derived.Test.YtfmnnceacdpbdaaGreatDoorOrdBToOrdD
import Derived.Test.YtfmnnceacdpbdaaGreatDoorLinCToLinD
set_option linter.unusedVariables false
set_option linter.unusedSimpArgs false
namespace Go.Proofs.YtfmnnceacdpbdaaGreatDoor
open Go.RowKit
theorem sign_one {a r s : Int} (h : SignOf [(a, r)] s) : (a = 0 ∧ s = 0) ∨ (0 < a ∧ s = 1) ∨ (a < 0 ∧ s = -1) := by
 unfold SignOf at h
 by_cases h0 : a = 0
 ·subst h0
  rcases h with ⟨_, h⟩ | ⟨h, _⟩
  ·exact .inl ⟨rfl, h⟩
  ·simp [nzT] at h
 ·have hf : [(a, r)].filter nzT = [(a, r)] := by simp [nzT, h0]
  rw [hf] at h
  rcases h with ⟨h, _⟩ | ⟨_, hs, k, hk⟩
  ·simp at h
  ·unfold verdict at hk
   rcases Int.lt_or_le a 0 with ha | ha
   ·right; right
    simp only [bTop, aLow, aTop, bLow, List.map_cons, List.map_nil, ha, if_true, List.sum_cons, List.sum_nil, Nat.add_zero] at hk
    rw [if_neg (by omega)] at hk
    split at hk
    ·exact ⟨ha, hk.symm⟩
    ·exact absurd hk.symm hs
   ·right; left
    have hna : ¬ a < 0 := by omega
    simp only [bTop, aLow, aTop, bLow, List.map_cons, List.map_nil, hna, if_false, List.sum_cons, List.sum_nil, Nat.add_zero] at hk
    split at hk
    ·exact ⟨by omega, hk.symm⟩
    ·rw [if_neg (by omega)] at hk
     exact absurd hk.symm hs
theorem sq_lt {x y : Nat} (h : x * x < y * y) : x < y := by
 rcases Nat.lt_or_ge x y with h1 | h1
 ·exact h1
 ·have := Nat.mul_le_mul h1 h1; omega
theorem sign_two {a b r s : Int} (ha : 0 < a) (hb : b < 0) (hr : 0 < r) (h : SignOf [(a, 1), (b, r)] s) : (s = 1 ∧ b.natAbs * b.natAbs * r.toNat < a.natAbs * a.natAbs) ∨ (s = -1 ∧ a.natAbs * a.natAbs < b.natAbs * b.natAbs * r.toNat) := by
 unfold SignOf at h
 have hf : [(a, 1), (b, r)].filter nzT = [(a, 1), (b, r)] := by
  have h1 : a ≠ 0 := by omega
  have h2 : b ≠ 0 := by omega
  simp [nzT, h1, h2]
 rw [hf] at h
 rcases h with ⟨h, _⟩ | ⟨_, hs, k, hk⟩
 ·simp at h
 ·unfold verdict at hk
  have hna : ¬ a < 0 := by omega
  simp only [bTop, aLow, aTop, bLow, List.map_cons, List.map_nil, hna, hb, if_false, if_true, List.sum_cons, List.sum_nil, Nat.add_zero, Nat.zero_add] at hk
  have hbp := bits_pos k
  generalize hB : bits k * bits k = BB at *
  have hBB : 0 < BB := by rw [← hB]; exact Nat.mul_pos hbp hbp
  have ea : sqTk (a, 1) k = a.natAbs * a.natAbs * BB := by unfold sqTk sqT; rw [hB]; simp
  have eb : sqTk (b, r) k = b.natAbs * b.natAbs * r.toNat * BB := by unfold sqTk sqT; rw [hB]
  split at hk
  ·rename_i hlt
   refine .inl ⟨hk.symm, ?_⟩
   unfold topT lowT at hlt
   rw [ea, eb] at hlt
   have h1 := le_isqU (b.natAbs * b.natAbs * r.toNat * BB)
   have h2 := (isq_at (a.natAbs * a.natAbs * BB)).le
   have h3 := Nat.mul_lt_mul_of_lt_of_lt hlt hlt
   have h4 : b.natAbs * b.natAbs * r.toNat * BB < a.natAbs * a.natAbs * BB := by omega
   exact Nat.lt_of_mul_lt_mul_right h4
  ·split at hk
   ·rename_i _ hlt
    refine .inr ⟨hk.symm, ?_⟩
    unfold topT lowT at hlt
    rw [ea, eb] at hlt
    have h1 := le_isqU (a.natAbs * a.natAbs * BB)
    have h2 := (isq_at (b.natAbs * b.natAbs * r.toNat * BB)).le
    have h3 := Nat.mul_lt_mul_of_lt_of_lt hlt hlt
    have h4 : a.natAbs * a.natAbs * BB < b.natAbs * b.natAbs * r.toNat * BB := by omega
    exact Nat.lt_of_mul_lt_mul_right h4
   ·exact absurd hk.symm hs
theorem sign_neg {a b r s : Int} (ha : a ≤ 0) (hb : b < 0) (h : SignOf [(a, 1), (b, r)] s) : s = -1 := by
 by_cases h0 : a = 0
 ·subst h0
  have h2 : SignOf [(b, r)] s := by
   unfold SignOf at h ⊢
   rw [show [((0 : Int), (1 : Int)), (b, r)].filter nzT = [(b, r)].filter nzT by simp [nzT]] at h
   exact h
  rcases sign_one h2 with ⟨h4, _⟩ | ⟨h4, _⟩ | ⟨_, h4⟩
  ·omega
  ·omega
  ·exact h4
 ·unfold SignOf at h
  have hf : [(a, 1), (b, r)].filter nzT = [(a, 1), (b, r)] := by
   have h2 : b ≠ 0 := by omega
   simp [nzT, h0, h2]
  rw [hf] at h
  rcases h with ⟨h, _⟩ | ⟨_, hs, k, hk⟩
  ·simp at h
  ·unfold verdict at hk
   have hna : a < 0 := by omega
   simp only [bTop, aLow, aTop, bLow, List.map_cons, List.map_nil, hna, hb, if_true, List.sum_cons, List.sum_nil, Nat.add_zero] at hk
   rw [if_neg (by omega)] at hk
   split at hk
   ·exact hk.symm
   ·exact absurd hk.symm hs
theorem less_two (a b m v k : Int) : lessT [(a, 1), (b, 2)] m [(v, 1)] k = [(a * m + v * -k, 1), (b * m, 2)] := by
 rfl
theorem less_one (a m v k : Int) : lessT [(a, 1)] m [(v, 1)] k = [(a * m + v * -k, 1)] := by
 rfl
end Go.Proofs.YtfmnnceacdpbdaaGreatDoor
