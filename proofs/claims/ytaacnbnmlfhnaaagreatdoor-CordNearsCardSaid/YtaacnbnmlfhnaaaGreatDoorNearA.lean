/-
  Plain law: the document's way to the nearest numerator is the program's; the records of the document are those of the program.
-/
import Derived.Test.YtaacnbnmlfhnaaaGreatDoorCordNToCordO
set_option linter.unusedVariables false
set_option linter.unusedSimpArgs false
namespace Go.Proofs.YtaacnbnmlfhnaaaGreatDoor

theorem around_eq {m : Int} {k : Nat} (hk : k ≤ 94869) (h : ∀ j : Nat, j < k → ((j : Int) + 1) * ((j : Int) + 1) ≤ m) (h2 : ¬ ((k : Int) + 1) * ((k : Int) + 1) ≤ m) :
    numR (4 * m) = if (2 * (k : Int) + 1) * (2 * (k : Int) + 1) ≤ 4 * m then (k : Int) + 1 else k := by
  have h0 : ∀ j : Nat, j < k → (2 * (j : Int) + 1) * (2 * (j : Int) + 1) ≤ 4 * m := fun j hj => by
    have h3 := h j hj
    have e : (2 * (j : Int) + 1) * (2 * (j : Int) + 1) = 4 * (((j : Int) + 1) * ((j : Int) + 1)) - (4 * j + 3) := by grind
    omega
  by_cases h4 : (2 * (k : Int) + 1) * (2 * (k : Int) + 1) ≤ 4 * m
  · rw [if_pos h4]
    have e1 : numR (4 * m) = ((k + 1 : Nat) : Int) := numR_eq (by omega) (fun j hj => by
      rcases Nat.lt_or_ge j k with h5 | h5
      · exact h0 j h5
      · obtain rfl : j = k := by omega
        exact h4) (by
        intro h5
        have e : (2 * ((k + 1 : Nat) : Int) + 1) * (2 * ((k + 1 : Nat) : Int) + 1) = 4 * (((k : Int) + 1) * ((k : Int) + 1)) + (4 * k + 5) := by push_cast; grind
        omega)
    rw [e1]; omega
  · rw [if_neg h4]
    exact numR_eq (by omega) h0 h4

/-- The numerator that is nearest for a denominator: what is known of it. -/
def IsNum (b : Int) (k : Nat) : Prop := k ≤ 94869 ∧ (∀ j : Nat, j < k → (2 * (j : Int) + 1) * (2 * (j : Int) + 1) ≤ b) ∧ ¬ (2 * (k : Int) + 1) * (2 * (k : Int) + 1) ≤ b
theorem IsNum.eq {b : Int} {k : Nat} (h : IsNum b k) : numR b = k := numR_eq (by have := h.1; omega) h.2.1 h.2.2
theorem isNum_up (b : Int) : ∀ m : Nat, (∀ j : Nat, j < m → (2 * (j : Int) + 1) * (2 * (j : Int) + 1) ≤ b) ∨ ∃ k : Nat, k < m ∧ (∀ j : Nat, j < k → (2 * (j : Int) + 1) * (2 * (j : Int) + 1) ≤ b) ∧ ¬ (2 * (k : Int) + 1) * (2 * (k : Int) + 1) ≤ b
  | 0 => .inl fun j hj => absurd hj (by omega)
  | m + 1 => by
    rcases isNum_up b m with h | ⟨k, hk, h⟩
    · by_cases h1 : (2 * (m : Int) + 1) * (2 * (m : Int) + 1) ≤ b
      · refine .inl fun j hj => ?_
        rcases Nat.lt_or_ge j m with h5 | h5
        · exact h j h5
        · obtain rfl : j = m := by omega
          exact h1
      · exact .inr ⟨m, by omega, h, h1⟩
    · exact .inr ⟨k, by omega, h⟩
theorem isNum_some {b : Int} (hb : b ≤ 36000000000) : ∃ k, IsNum b k := by
  rcases isNum_up b 94870 with h | ⟨k, hk, h1, h2⟩
  · have h1 := h 94869 (by omega)
    have := odd_sq_le (k := 94869) (by omega) (by omega)
    omega
  · exact ⟨k, by omega, h1, h2⟩
theorem IsNum.grow {b c : Int} {k : Nat} (h : IsNum b k) (hc : b ≤ c) : ∀ j : Nat, j < k → (2 * (j : Int) + 1) * (2 * (j : Int) + 1) ≤ c := fun j hj => Int.le_trans (h.2.1 j hj) hc

/-- The condition of the document. -/
def refCloser (n a b c d : Int) : Bool :=
  if (decide (n * b * b ≤ a * a) && decide (n * d * d ≤ c * c)) = true then decide (a * d < c * b)
  else if (!decide (n * b * b ≤ a * a) && !decide (n * d * d ≤ c * c)) = true then decide (c * b < a * d)
  else if decide (n * b * b ≤ a * a) = true then decide ((a * d + c * b) * (a * d + c * b) < 4 * n * b * b * d * d)
  else decide (4 * n * b * b * d * d < (a * d + c * b) * (a * d + c * b))
theorem refCloser_eq (n a b c d : Int) : refCloser n a b c d = nearCloser (a, b) (c, d) n := by
  unfold refCloser nearCloser nearOver
  dsimp only
  generalize (a * d + c * b) * (a * d + c * b) = s
  generalize 4 * n * b * b * d * d = t
  generalize a * d = p
  generalize c * b = q
  generalize n * b * b = nb
  generalize n * d * d = nd
  by_cases h1 : nb ≤ a * a <;> by_cases h2 : nd ≤ c * c <;> simp [h1, h2] <;> omega

theorem recF_step {n : Int} {m d : Int} {best : Int × Int} (hd : 1 < d) (hm : d ≤ m) {k : Nat} (hk : IsNum (4 * n * d * d) k) :
    recF n (m + 1 - d).toNat d best = if nearCloser ((k : Int), d) best n = true then ((k : Int), d) :: recF n (m + 1 - (d + 1)).toNat (d + 1) ((k : Int), d) else recF n (m + 1 - (d + 1)).toNat (d + 1) best := by
  obtain ⟨f, hf⟩ : ∃ f : Nat, (m + 1 - d).toNat = f + 1 := ⟨(m + 1 - d).toNat - 1, by omega⟩
  have hf2 : (m + 1 - (d + 1)).toNat = f := by omega
  rw [hf, hf2]
  conv => lhs; unfold recF
  rw [hk.eq, decide_eq_true hd]
  cases nearCloser ((k : Int), d) best n <;> simp
theorem recS_start {n m : Int} (hm : 1 ≤ m) {k : Nat} (hk : IsNum (4 * n * 1 * 1) k) : recS n m = ((k : Int), 1) :: recF n (m + 1 - 2).toNat 2 ((k : Int), 1) := by
  obtain ⟨f, hf⟩ : ∃ f : Nat, m.toNat = f + 1 := ⟨m.toNat - 1, by omega⟩
  have hf2 : (m + 1 - 2).toNat = f := by omega
  unfold recS
  rw [hf, hf2]
  conv => lhs; unfold recF
  rw [hk.eq]
  simp
theorem recF_done (n : Int) {m d : Int} (hd : m < d) (best : Int × Int) : recF n (m + 1 - d).toNat d best = [] := by
  rw [show (m + 1 - d).toNat = 0 by omega]
  rfl
end Go.Proofs.YtaacnbnmlfhnaaaGreatDoor
