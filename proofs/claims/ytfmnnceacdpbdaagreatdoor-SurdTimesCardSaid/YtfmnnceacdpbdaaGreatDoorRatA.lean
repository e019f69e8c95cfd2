import Derived.Test.YtfmnnceacdpbdaaGreatDoorComToAppQ
import Derived.Test.YtfmnnceacdpbdaaGreatDoorRefA
import Derived.Test.YtfmnnceacdpbdaaGreatDoorSignDToOrdA
import Derived.Test.YtfmnnceacdpbdaaGreatDoorSgn
import Derived.Test.YtfmnnceacdpbdaaGreatDoorMakeA
set_option linter.unusedVariables false
set_option linter.unusedSimpArgs false
namespace Go.Proofs.YtfmnnceacdpbdaaGreatDoor
open Go.RowKit
def ratT (c : Int) : List (Int × Int) := if c = 0 then [] else [(c, 1)]
theorem ratT_zero : ratT 0 = [] := rfl
theorem ratT_some {c : Int} (h : c ≠ 0) : ratT c = [(c, 1)] := if_neg h
theorem split1Q : splitN 1 = (1, 1) := by decide +kernel
def gcdQ (v den : Int) : Int := (gcdL [den, v] : Int)
def normQ (v den : Int) : Int × List (Int × Int) × Int :=
 if 100000 < den.tdiv (gcdQ v den) ∨ inB (v.tdiv (gcdQ v den)) (-100000) 100000 = false then (0, [], 10) else (den.tdiv (gcdQ v den), ratT (v.tdiv (gcdQ v den)), 0)
theorem gcdL_two (a b : Int) : gcdL [a, b] = Nat.gcd a.natAbs b.natAbs := by
 unfold gcdL
 simp
theorem gcdL_single (a : Int) : gcdL [a] = a.natAbs := by
 unfold gcdL
 simp
theorem gcdQ_pos {v den : Int} (h : 0 < den) : 0 < gcdQ v den := by
 have := gcdL_pos (l := [den, v]) (x := den) (by simp) (by omega)
 unfold gcdQ
 omega
theorem gcdQ_dvd (v den : Int) : gcdQ v den ∣ v ∧ gcdQ v den ∣ den := by
 unfold gcdQ
 rw [gcdL_two]
 exact ⟨Int.ofNat_dvd_left.2 (Nat.gcd_dvd_right _ _), Int.ofNat_dvd_left.2 (Nat.gcd_dvd_left _ _)⟩
theorem gcdQ_zero {den : Int} (h : 0 < den) : gcdQ 0 den = den := by
 unfold gcdQ
 rw [gcdL_two]
 simp
 omega
theorem norm_unique {v den d c : Int} (hden : 0 < den) (hd : 0 < d) (hg : gcdL [d, c] = 1) (h : c * den = v * d) : den.tdiv (gcdQ v den) = d ∧ v.tdiv (gcdQ v den) = c := by
 rw [gcdL_two] at hg
 have h1 : d.natAbs ∣ c.natAbs * den.natAbs := by
  rw [← Int.natAbs_mul, h, Int.natAbs_mul]
  exact Nat.dvd_mul_left _ _
 have h2 : d.natAbs ∣ den.natAbs := Nat.Coprime.dvd_of_dvd_mul_left hg h1
 obtain ⟨k, rfl⟩ := Int.natAbs_dvd_natAbs.1 h2
 have hv : v = c * k := by
  have h3 : v * d = (c * k) * d := by rw [← h, Int.mul_comm d k, Int.mul_assoc]
  exact Int.eq_of_mul_eq_mul_right (by omega) h3
 subst hv
 have hk : 0 < k := by
  rcases Int.lt_or_le 0 k with hk | hk
  ·exact hk
  ·have := Int.mul_le_mul_of_nonneg_left hk (Int.le_of_lt hd)
   rw [Int.mul_zero] at this; omega
 have hG : gcdQ (c * k) (d * k) = k := by
  unfold gcdQ
  rw [gcdL_two, Int.natAbs_mul, Int.natAbs_mul, Nat.gcd_mul_right, hg, Nat.one_mul]
  omega
 rw [hG]
 exact ⟨Int.mul_tdiv_cancel _ (by omega), Int.mul_tdiv_cancel _ (by omega)⟩
theorem norm_parts {v den : Int} (hden : 0 < den) : 0 < den.tdiv (gcdQ v den) ∧ gcdL [den.tdiv (gcdQ v den), v.tdiv (gcdQ v den)] = 1 ∧ v.tdiv (gcdQ v den) * den = v * den.tdiv (gcdQ v den) ∧ (v.tdiv (gcdQ v den) = 0 ↔ v = 0) ∧
  den.tdiv (gcdQ v den) ≤ den ∧ (v.tdiv (gcdQ v den)).natAbs ≤ v.natAbs := by
 have hp := gcdQ_pos (v := v) hden
 obtain ⟨⟨c, hc⟩, ⟨d, hd⟩⟩ := gcdQ_dvd v den
 have hG : gcdQ v den = (Nat.gcd den.natAbs v.natAbs : Nat) := by unfold gcdQ; rw [gcdL_two]
 generalize hg : gcdQ v den = g at *
 have e1 : den.tdiv g = d := by rw [hd, Int.mul_comm]; exact Int.mul_tdiv_cancel _ (by omega)
 have e2 : v.tdiv g = c := by rw [hc, Int.mul_comm]; exact Int.mul_tdiv_cancel _ (by omega)
 rw [e1, e2]
 have hd0 : 0 < d := by
  rcases Int.lt_or_le 0 d with h | h
  ·exact h
  ·have := Int.mul_le_mul_of_nonneg_left h (Int.le_of_lt hp)
   rw [Int.mul_zero] at this; omega
 refine ⟨hd0, ?_, ?_, ?_, ?_, ?_⟩
 ·rw [gcdL_two]
  have h1 : Nat.gcd den.natAbs v.natAbs = g.natAbs * Nat.gcd d.natAbs c.natAbs := by rw [hd, hc, Int.natAbs_mul, Int.natAbs_mul, Nat.gcd_mul_left]
  have h2 : g.natAbs = g.natAbs * Nat.gcd d.natAbs c.natAbs := by rw [← h1]; omega
  exact Nat.eq_of_mul_eq_mul_left (show 0 < g.natAbs by omega) (by omega)
 ·rw [hd, hc, ← Int.mul_assoc, Int.mul_comm c g]
 ·constructor
  ·intro h; rw [hc, h, Int.mul_zero]
  ·intro h
   rw [hc] at h
   rcases Int.mul_eq_zero.1 h with h | h
   ·omega
   ·exact h
 ·rw [hd]
  have := Int.mul_le_mul_of_nonneg_right (show 1 ≤ g by omega) (Int.le_of_lt hd0)
  omega
 ·rw [hc, Int.natAbs_mul]
  exact Nat.le_mul_of_pos_left _ (by omega)
theorem over_one {v den : Int} (hden : 0 < den) : overS [(1, v)] den = normQ v den := by
 have hG : overG [(1, v)] den = gcdQ v den := by
  rw [overG_eq, if_neg (by omega)]; rfl
 obtain ⟨h1, _, _, h4, _, _⟩ := norm_parts (v := v) hden
 have hT : overT [(1, v)] den = ratT (v.tdiv (gcdQ v den)) := by
  unfold overT
  rw [hG]
  by_cases hv : v = 0
  ·subst hv
   rw [Int.zero_tdiv, ratT_zero]
   exact termsG_done _ (fun p hp => by rw [List.mem_singleton.1 hp])
  ·have h5 := termsG_step (xs := []) (ys := []) (r := 1) (c := v) (gcdQ v den) (by simp) hv (fun p hp => by simp at hp)
   have h6 : termsG (([] ++ (1, 0) :: [] : List (Int × Int)).filter nz) (gcdQ v den) = [] := termsG_done _ (fun p hp => by
    have := List.mem_singleton.1 (by simpa using hp); rw [this])
   rw [h6] at h5
   rw [ratT_some (fun h => hv (h4.1 h))]
   simpa using h5
 unfold overS normQ
 rw [hT, hG]
 have hlen : ¬ 4 < (ratT (v.tdiv (gcdQ v den))).length := by unfold ratT; split <;> simp
 rw [if_neg hlen]
 by_cases hc : v.tdiv (gcdQ v den) = 0
 ·rw [hc, ratT_zero]
  simp [inB]
 ·rw [ratT_some hc]
  simp [tooBig]
theorem over_nil {den : Int} (hden : 0 < den) : overS [] den = normQ 0 den := by
 rw [← over_one hden]
 have hG : overG [(1, 0)] den = overG [] den := by
  rw [overG_eq, overG_eq, if_neg (by omega), if_neg (by omega)]
  show ((gcdL [den, 0] : Nat) : Int) = ((gcdL [den] : Nat) : Int)
  rw [gcdL_two, gcdL_single]; simp
 have hT : overT [(1, 0)] den = overT [] den := by
  unfold overT
  rw [hG]
  rfl
 unfold overS
 rw [hG, hT]
theorem numOK_rat {d c : Int} : numOK d (ratT c) = true ↔ (1 ≤ d ∧ d ≤ 100000) ∧ (-100000 ≤ c ∧ c ≤ 100000) ∧ gcdL [d, c] = 1 := by
 by_cases hc : c = 0
 ·subst hc
  rw [ratT_zero, gcdL_two]
  unfold numOK
  rw [List.map_nil, gcdL_single]
  simp [inB, chkT]
 ·rw [ratT_some hc]
  unfold numOK
  simp [inB, chkT, okT, split1Q, hc]
  exact and_assoc
theorem normQ_ok {v den d : Int} {t : List (Int × Int)} (hden : 0 < den) (h : normQ v den = (d, t, 0)) : ∃ c, t = ratT c ∧ c * den = v * d ∧ numOK d (ratT c) = true := by
 obtain ⟨h1, h2, h3, _, _, _⟩ := norm_parts (v := v) hden
 unfold normQ at h
 split at h
 ·injection h with _ h; injection h with _ h; omega
 ·rename_i hn
  injection h with e1 h
  injection h with e2 _
  subst e1
  refine ⟨_, e2.symm, h3, numOK_rat.2 ⟨⟨by omega, ?_⟩, ?_, h2⟩⟩
  ·rcases Int.lt_or_le 100000 (den.tdiv (gcdQ v den)) with h | h
   ·exact absurd (.inl h) hn
   ·exact h
  ·cases hi : inB (v.tdiv (gcdQ v den)) (-100000) 100000
   ·exact absurd (.inr hi) hn
   ·simpa [inB] using hi
theorem normQ_code (v den : Int) : (normQ v den).2.2 = 0 ∨ normQ v den = (0, [], 10) := by
 unfold normQ
 split
 ·exact .inr rfl
 ·exact .inl rfl
theorem normQ_eq {v den d c : Int} (hden : 0 < den) (hn : numOK d (ratT c) = true) (h : c * den = v * d) : normQ v den = (d, ratT c, 0) := by
 obtain ⟨h1, h2, h3⟩ := numOK_rat.1 hn
 obtain ⟨e1, e2⟩ := norm_unique hden (by omega) h3 h
 unfold normQ
 rw [e1, e2, if_neg]
 rintro (h | h)
 ·omega
 ·rw [show inB c (-100000) 100000 = true by simpa [inB] using h2] at h
  cases h
theorem add_rat (kv : List (Int × Int)) (b m : Int) (v : Int) (h : kv = [(1, v)] ∨ (kv = [] ∧ v = 0)) : (addAll kv (ratT b) m = [(1, v + b * m)] ∨ (addAll kv (ratT b) m = [] ∧ v + b * m = 0)) := by
 by_cases hb : b = 0
 ·subst hb
  rw [ratT_zero, Int.zero_mul, Int.add_zero]
  exact h
 ·left
  rw [ratT_some hb]
  show addRoot kv (b * m) 1 = _
  unfold addRoot
  rw [if_pos (by decide), show (1 : Int).toNat = 1 from rfl, split1Q]
  rcases h with rfl | ⟨rfl, rfl⟩
  ·simp [addS]
  ·simp [addS]
theorem over_kv {kv : List (Int × Int)} {v den : Int} (h : kv = [(1, v)] ∨ (kv = [] ∧ v = 0)) (hden : 0 < den) : overS kv den = normQ v den := by
 rcases h with rfl | ⟨rfl, rfl⟩
 ·exact over_one hden
 ·exact over_nil hden
theorem plus_ratS {xd yd a b k : Int} (hx : numOK xd (ratT a) = true) (hy : numOK yd (ratT b) = true) : plusS xd (ratT a) yd (ratT b) k = normQ (a * yd + b * (k * xd)) (xd * yd) := by
 obtain ⟨h1, _, _⟩ := numOK_rat.1 hx
 obtain ⟨h2, _, _⟩ := numOK_rat.1 hy
 unfold plusS
 rw [hx, hy]
 simp only [Bool.and_self, if_true]
 have e1 := add_rat [] a yd 0 (.inr ⟨rfl, rfl⟩)
 rw [Int.zero_add] at e1
 exact over_kv (add_rat _ b (k * xd) _ e1) (Int.mul_pos (by omega) (by omega))
theorem make_ratS {num D : Int} (hn : 0 ≤ num ∧ num ≤ 100000) (hD : 1 ≤ D ∧ D ≤ 100000) : makeS D [(num, 1)] = normQ num D ∧ (normQ num D).2.2 = 0 := by
 have e : addAll [] [(num, 1)] 1 = [(1, num)] := by
  show addRoot [] (num * 1) 1 = _
  unfold addRoot
  rw [if_pos (by decide), show (1 : Int).toNat = 1 from rfl, split1Q]
  simp [addS]
 constructor
 ·unfold makeS
  rw [if_neg (by simp), if_neg, e]
  ·exact over_one (by omega)
  ·rintro (h | h)
   ·rw [show inB D 1 100000 = true by simpa [inB] using hD] at h; cases h
   ·rw [List.any_cons, List.any_nil, Bool.or_false] at h
    have : badT (num, 1) = false := by
     unfold badT
     rw [show inB num (-100000) 100000 = true by simp [inB]; omega]
     show (!true || !inB 1 0 1000) = false
     decide
    rw [this] at h; cases h
 ·obtain ⟨h1, _, _, _, h5, h6⟩ := norm_parts (v := num) (den := D) (by omega)
  unfold normQ
  rw [if_neg]
  rintro (h | h)
  ·omega
  ·rw [show inB (num.tdiv (gcdQ num D)) (-100000) 100000 = true by simp [inB]; omega] at h; cases h
theorem less_rat (a yd b xd : Int) : lessT (ratT a) yd (ratT b) xd = [(a * yd - b * xd, 1)] ∨ (lessT (ratT a) yd (ratT b) xd = [] ∧ a = 0 ∧ b = 0) := by
 unfold lessT lessS
 by_cases ha : a = 0
 ·subst ha
  by_cases hb : b = 0
  ·subst hb
   exact .inr ⟨rfl, rfl, rfl⟩
  ·left
   rw [ratT_zero, ratT_some hb]
   simp [addB, addS, swapT, Int.mul_neg]
 ·left
  rw [ratT_some ha]
  by_cases hb : b = 0
  ·subst hb
   rw [ratT_zero]
   simp [addB, addS, swapT]
  ·rw [ratT_some hb]
   simp [addB, addS, swapT, Int.mul_neg, Int.sub_eq_add_neg]
theorem cmp_rat {xd a yd b s c : Int} (hx : numOK xd (ratT a) = true) (hy : numOK yd (ratT b) = true) (h : CmpRes xd (ratT a) yd (ratT b) s c) :
  c = 0 ∧ ((a * yd = b * xd ∧ s = 0) ∨ (b * xd < a * yd ∧ s = 1) ∨ (a * yd < b * xd ∧ s = -1)) := by
 rcases h with ⟨_, h, rfl⟩ | ⟨h, _, _⟩
 ·refine ⟨rfl, ?_⟩
  rcases less_rat a yd b xd with e | ⟨e, rfl, rfl⟩
  ·rw [e] at h
   rcases sign_one h with ⟨h1, h2⟩ | ⟨h1, h2⟩ | ⟨h1, h2⟩
   ·exact .inl ⟨by omega, h2⟩
   ·exact .inr (.inl ⟨by omega, h2⟩)
   ·exact .inr (.inr ⟨by omega, h2⟩)
  ·rw [e] at h
   rcases h with ⟨_, h⟩ | ⟨h, _⟩
   ·exact .inl ⟨by omega, h⟩
   ·exact absurd rfl h
 ·rw [hx, hy] at h; cases h
theorem sign_rat {d a s c : Int} (hx : numOK d (ratT a) = true) (h : SignRes d (ratT a) s c) : c = 0 ∧ ((a = 0 ∧ s = 0) ∨ (0 < a ∧ s = 1) ∨ (a < 0 ∧ s = -1)) := by
 rcases h with ⟨_, h, rfl⟩ | ⟨h, _, _⟩
 ·refine ⟨rfl, ?_⟩
  by_cases ha : a = 0
  ·subst ha
   rcases h with ⟨_, h⟩ | ⟨h, _⟩
   ·exact .inl ⟨rfl, h⟩
   ·exact absurd rfl h
  ·rw [ratT_some ha] at h
   exact sign_one h
 ·rw [hx] at h; cases h
theorem parts_rat (d c : Int) : partsS d (ratT c) = if c = 0 then (0, 1, true) else (c, d, true) := by
 by_cases hc : c = 0
 ·subst hc; rfl
 ·rw [ratT_some hc, if_neg hc]; rfl
theorem numOK_pos {d c : Int} (h : numOK d (ratT c) = true) : 0 < d := by
 have := (numOK_rat.1 h).1; omega
theorem gcdL_one (c : Int) : gcdL [1, c] = 1 := by rw [gcdL_two]; simp
theorem gcdL_one' (d : Int) : gcdL [d, 1] = 1 := by rw [gcdL_two]; simp
theorem wholeN_rat (n : Int) : wholeN n = (1, ratT n) := by
 unfold wholeN ratT
 split <;> rfl
end Go.Proofs.YtfmnnceacdpbdaaGreatDoor
