import Derived.Test.YtloegjlknpioeaaGreatDoorRefAToRefE
import Derived.Test.YtloegjlknpioeaaGreatDoorSignDToOrdA
import Derived.Test.YtloegjlknpioeaaGreatDoorCordGToCordH
import Derived.Test.YtloegjlknpioeaaGreatDoorSgnToLawA
import Derived.Test.YtloegjlknpioeaaGreatDoorMakeAToMakeB
import Derived.Test.YtloegjlknpioeaaGreatDoorGreAToGreB
set_option linter.unusedVariables false
set_option linter.unusedSimpArgs false
namespace Go.Proofs.YtloegjlknpioeaaGreatDoor
open Go.RowKit
def ratT (c : Int) : List (Int × Int) := if c = 0 then [] else [(c, 1)]
theorem ratT_zero : ratT 0 = [] := rfl
theorem ratT_some {c : Int} (h : c ≠ 0) : ratT c = [(c, 1)] := if_neg h
theorem split1Q : splitN 1 = (1, 1) := by decide +kernel
def gcdQ (v den : Int) : Int := (gcdL [den, v] : Int)
def normQ (v den : Int) : Int × List (Int × Int) × Int :=
 if 100000 < den.tdiv (gcdQ v den) ∨ inB (v.tdiv (gcdQ v den)) (-100000) 100000 = false then (0, [], 10) else (den.tdiv (gcdQ v den), ratT (v.tdiv (gcdQ v den)), 0)
theorem gcdL_two (a b : Int) : gcdL [a, b] = Nat.gcd a.natAbs b.natAbs := by
 unfold gcdL
 simp
theorem gcdL_single (a : Int) : gcdL [a] = a.natAbs := by
 unfold gcdL
 simp
theorem gcdQ_pos {v den : Int} (h : 0 < den) : 0 < gcdQ v den := by
 have := gcdL_pos (l := [den, v]) (x := den) (by simp) (by omega)
 unfold gcdQ
 omega
theorem gcdQ_dvd (v den : Int) : gcdQ v den ∣ v ∧ gcdQ v den ∣ den := by
 unfold gcdQ
 rw [gcdL_two]
 exact ⟨Int.ofNat_dvd_left.2 (Nat.gcd_dvd_right _ _), Int.ofNat_dvd_left.2 (Nat.gcd_dvd_left _ _)⟩
theorem gcdQ_zero {den : Int} (h : 0 < den) : gcdQ 0 den = den := by
 unfold gcdQ
 rw [gcdL_two]
 simp
 omega
theorem norm_unique {v den d c : Int} (hden : 0 < den) (hd : 0 < d) (hg : gcdL [d, c] = 1) (h : c * den = v * d) : den.tdiv (gcdQ v den) = d ∧ v.tdiv (gcdQ v den) = c := by
 rw [gcdL_two] at hg
 have h1 : d.natAbs ∣ c.natAbs * den.natAbs := by
  rw [← Int.natAbs_mul, h, Int.natAbs_mul]
  exact Nat.dvd_mul_left _ _
 have h2 : d.natAbs ∣ den.natAbs := Nat.Coprime.dvd_of_dvd_mul_left hg h1
 obtain ⟨k, rfl⟩ := Int.natAbs_dvd_natAbs.1 h2
 have hv : v = c * k := by
  have h3 : v * d = (c * k) * d := by rw [← h, Int.mul_comm d k, Int.mul_assoc]
  exact Int.eq_of_mul_eq_mul_right (by omega) h3
 subst hv
 have hk : 0 < k := by
  rcases Int.lt_or_le 0 k with hk | hk
  ·exact hk
  ·have := Int.mul_le_mul_of_nonneg_left hk (Int.le_of_lt hd)
   rw [Int.mul_zero] at this; omega
 have hG : gcdQ (c * k) (d * k) = k := by
  unfold gcdQ
  rw [gcdL_two, Int.natAbs_mul, Int.natAbs_mul, Nat.gcd_mul_right, hg, Nat.one_mul]
  omega
 rw [hG]
 exact ⟨Int.mul_tdiv_cancel _ (by omega), Int.mul_tdiv_cancel _ (by omega)⟩
theorem norm_parts {v den : Int} (hden : 0 < den) : 0 < den.tdiv (gcdQ v den) ∧ gcdL [den.tdiv (gcdQ v den), v.tdiv (gcdQ v den)] = 1 ∧ v.tdiv (gcdQ v den) * den = v * den.tdiv (gcdQ v den) ∧ (v.tdiv (gcdQ v den) = 0 ↔ v = 0) ∧
  den.tdiv (gcdQ v den) ≤ den ∧ (v.tdiv (gcdQ v den)).natAbs ≤ v.natAbs := by
 have hp := gcdQ_pos (v := v) hden
 obtain ⟨⟨c, hc⟩, ⟨d, hd⟩⟩ := gcdQ_dvd v den
 have hG : gcdQ v den = (Nat.gcd den.natAbs v.natAbs : Nat) := by unfold gcdQ; rw [gcdL_two]
 generalize hg : gcdQ v den = g at *
 have e1 : den.tdiv g = d := by rw [hd, Int.mul_comm]; exact Int.mul_tdiv_cancel _ (by omega)
 have e2 : v.tdiv g = c := by rw [hc, Int.mul_comm]; exact Int.mul_tdiv_cancel _ (by omega)
 rw [e1, e2]
 have hd0 : 0 < d := by
  rcases Int.lt_or_le 0 d with h | h
  ·exact h
  ·have := Int.mul_le_mul_of_nonneg_left h (Int.le_of_lt hp)
   rw [Int.mul_zero] at this; omega
 refine ⟨hd0, ?_, ?_, ?_, ?_, ?_⟩
 ·rw [gcdL_two]
  have h1 : Nat.gcd den.natAbs v.natAbs = g.natAbs * Nat.gcd d.natAbs c.natAbs := by rw [hd, hc, Int.natAbs_mul, Int.natAbs_mul, Nat.gcd_mul_left]
  have h2 : g.natAbs = g.natAbs * Nat.gcd d.natAbs c.natAbs := by rw [← h1]; omega
  exact Nat.eq_of_mul_eq_mul_left (show 0 < g.natAbs by omega) (by omega)
 ·rw [hd, hc, ← Int.mul_assoc, Int.mul_comm c g]
 ·constructor
  ·intro h; rw [hc, h, Int.mul_zero]
  ·intro h
   rw [hc] at h
   rcases Int.mul_eq_zero.1 h with h | h
   ·omega
   ·exact h
 ·rw [hd]
  have := Int.mul_le_mul_of_nonneg_right (show 1 ≤ g by omega) (Int.le_of_lt hd0)
  omega
 ·rw [hc, Int.natAbs_mul]
  exact Nat.le_mul_of_pos_left _ (by omega)
theorem over_one {v den : Int} (hden : 0 < den) : overS [(1, v)] den = normQ v den := by
 have hG : overG [(1, v)] den = gcdQ v den := by
  rw [overG_eq, if_neg (by omega)]; rfl
 obtain ⟨h1, _, _, h4, _, _⟩ := norm_parts (v := v) hden
 have hT : overT [(1, v)] den = ratT (v.tdiv (gcdQ v den)) := by
  unfold overT
  rw [hG]
  by_cases hv : v = 0
  ·subst hv
   rw [Int.zero_tdiv, ratT_zero]
   exact termsG_done _ (fun p hp => by rw [List.mem_singleton.1 hp])
  ·have h5 := termsG_step (xs := []) (ys := []) (r := 1) (c := v) (gcdQ v den) (by simp) hv (fun p hp => by simp at hp)
   have h6 : termsG (([] ++ (1, 0) :: [] : List (Int × Int)).filter nz) (gcdQ v den) = [] := termsG_done _ (fun p hp => by
    have := List.mem_singleton.1 (by simpa using hp); rw [this])
   rw [h6] at h5
   rw [ratT_some (fun h => hv (h4.1 h))]
   simpa using h5
 unfold overS normQ
 rw [hT, hG]
 have hlen : ¬ 4 < (ratT (v.tdiv (gcdQ v den))).length := by unfold ratT; split <;> simp
 rw [if_neg hlen]
 by_cases hc : v.tdiv (gcdQ v den) = 0
 ·rw [hc, ratT_zero]
  simp [inB]
 ·rw [ratT_some hc]
  simp [tooBig]
theorem over_nil {den : Int} (hden : 0 < den) : overS [] den = normQ 0 den := by
 rw [← over_one hden]
 have hG : overG [(1, 0)] den = overG [] den := by
  rw [overG_eq, overG_eq, if_neg (by omega), if_neg (by omega)]
  show ((gcdL [den, 0] : Nat) : Int) = ((gcdL [den] : Nat) : Int)
  rw [gcdL_two, gcdL_single]; simp
 have hT : overT [(1, 0)] den = overT [] den := by
  unfold overT
  rw [hG]
  rfl
 unfold overS
 rw [hG, hT]
theorem numOK_rat {d c : Int} : numOK d (ratT c) = true ↔ (1 ≤ d ∧ d ≤ 100000) ∧ (-100000 ≤ c ∧ c ≤ 100000) ∧ gcdL [d, c] = 1 := by
 by_cases hc : c = 0
 ·subst hc
  rw [ratT_zero, gcdL_two]
  unfold numOK
  rw [List.map_nil, gcdL_single]
  simp [inB, chkT]
 ·rw [ratT_some hc]
  unfold numOK
  simp [inB, chkT, okT, split1Q, hc]
  exact and_assoc
theorem normQ_ok {v den d : Int} {t : List (Int × Int)} (hden : 0 < den) (h : normQ v den = (d, t, 0)) : ∃ c, t = ratT c ∧ c * den = v * d ∧ numOK d (ratT c) = true := by
 obtain ⟨h1, h2, h3, _, _, _⟩ := norm_parts (v := v) hden
 unfold normQ at h
 split at h
 ·injection h with _ h; injection h with _ h; omega
 ·rename_i hn
  injection h with e1 h
  injection h with e2 _
  subst e1
  refine ⟨_, e2.symm, h3, numOK_rat.2 ⟨⟨by omega, ?_⟩, ?_, h2⟩⟩
  ·rcases Int.lt_or_le 100000 (den.tdiv (gcdQ v den)) with h | h
   ·exact absurd (.inl h) hn
   ·exact h
  ·cases hi : inB (v.tdiv (gcdQ v den)) (-100000) 100000
   ·exact absurd (.inr hi) hn
   ·simpa [inB] using hi
theorem normQ_code (v den : Int) : (normQ v den).2.2 = 0 ∨ normQ v den = (0, [], 10) := by
 unfold normQ
 split
 ·exact .inr rfl
 ·exact .inl rfl
theorem normQ_eq {v den d c : Int} (hden : 0 < den) (hn : numOK d (ratT c) = true) (h : c * den = v * d) : normQ v den = (d, ratT c, 0) := by
 obtain ⟨h1, h2, h3⟩ := numOK_rat.1 hn
 obtain ⟨e1, e2⟩ := norm_unique hden (by omega) h3 h
 unfold normQ
 rw [e1, e2, if_neg]
 rintro (h | h)
 ·omega
 ·rw [show inB c (-100000) 100000 = true by simpa [inB] using h2] at h
  cases h
theorem add_rat (kv : List (Int × Int)) (b m : Int) (v : Int) (h : kv = [(1, v)] ∨ (kv = [] ∧ v = 0)) : (addAll kv (ratT b) m = [(1, v + b * m)] ∨ (addAll kv (ratT b) m = [] ∧ v + b * m = 0)) := by
 by_cases hb : b = 0
 ·subst hb
  rw [ratT_zero, Int.zero_mul, Int.add_zero]
  exact h
 ·left
  rw [ratT_some hb]
  show addRoot kv (b * m) 1 = _
  unfold addRoot
  rw [if_pos (by decide), show (1 : Int).toNat = 1 from rfl, split1Q]
  rcases h with rfl | ⟨rfl, rfl⟩
  ·simp [addS]
  ·simp [addS]
theorem over_kv {kv : List (Int × Int)} {v den : Int} (h : kv = [(1, v)] ∨ (kv = [] ∧ v = 0)) (hden : 0 < den) : overS kv den = normQ v den := by
 rcases h with rfl | ⟨rfl, rfl⟩
 ·exact over_one hden
 ·exact over_nil hden
theorem plus_ratS {xd yd a b k : Int} (hx : numOK xd (ratT a) = true) (hy : numOK yd (ratT b) = true) : plusS xd (ratT a) yd (ratT b) k = normQ (a * yd + b * (k * xd)) (xd * yd) := by
 obtain ⟨h1, _, _⟩ := numOK_rat.1 hx
 obtain ⟨h2, _, _⟩ := numOK_rat.1 hy
 unfold plusS
 rw [hx, hy]
 simp only [Bool.and_self, if_true]
 have e1 := add_rat [] a yd 0 (.inr ⟨rfl, rfl⟩)
 rw [Int.zero_add] at e1
 exact over_kv (add_rat _ b (k * xd) _ e1) (Int.mul_pos (by omega) (by omega))
theorem make_ratS {num D : Int} (hn : 0 ≤ num ∧ num ≤ 100000) (hD : 1 ≤ D ∧ D ≤ 100000) : makeS D [(num, 1)] = normQ num D ∧ (normQ num D).2.2 = 0 := by
 have e : addAll [] [(num, 1)] 1 = [(1, num)] := by
  show addRoot [] (num * 1) 1 = _
  unfold addRoot
  rw [if_pos (by decide), show (1 : Int).toNat = 1 from rfl, split1Q]
  simp [addS]
 constructor
 ·unfold makeS
  rw [if_neg (by simp), if_neg, e]
  ·exact over_one (by omega)
  ·rintro (h | h)
   ·rw [show inB D 1 100000 = true by simpa [inB] using hD] at h; cases h
   ·rw [List.any_cons, List.any_nil, Bool.or_false] at h
    have : badT (num, 1) = false := by
     unfold badT
     rw [show inB num (-100000) 100000 = true by simp [inB]; omega]
     show (!true || !inB 1 0 1000) = false
     decide
    rw [this] at h; cases h
 ·obtain ⟨h1, _, _, _, h5, h6⟩ := norm_parts (v := num) (den := D) (by omega)
  unfold normQ
  rw [if_neg]
  rintro (h | h)
  ·omega
  ·rw [show inB (num.tdiv (gcdQ num D)) (-100000) 100000 = true by simp [inB]; omega] at h; cases h
theorem less_rat (a yd b xd : Int) : lessT (ratT a) yd (ratT b) xd = [(a * yd - b * xd, 1)] ∨ (lessT (ratT a) yd (ratT b) xd = [] ∧ a = 0 ∧ b = 0) := by
 unfold lessT lessS
 by_cases ha : a = 0
 ·subst ha
  by_cases hb : b = 0
  ·subst hb
   exact .inr ⟨rfl, rfl, rfl⟩
  ·left
   rw [ratT_zero, ratT_some hb]
   simp [addB, addS, swapT, Int.mul_neg]
 ·left
  rw [ratT_some ha]
  by_cases hb : b = 0
  ·subst hb
   rw [ratT_zero]
   simp [addB, addS, swapT]
  ·rw [ratT_some hb]
   simp [addB, addS, swapT, Int.mul_neg, Int.sub_eq_add_neg]
theorem cmp_rat {xd a yd b s c : Int} (hx : numOK xd (ratT a) = true) (hy : numOK yd (ratT b) = true) (h : CmpRes xd (ratT a) yd (ratT b) s c) :
  c = 0 ∧ ((a * yd = b * xd ∧ s = 0) ∨ (b * xd < a * yd ∧ s = 1) ∨ (a * yd < b * xd ∧ s = -1)) := by
 rcases h with ⟨_, h, rfl⟩ | ⟨h, _, _⟩
 ·refine ⟨rfl, ?_⟩
  rcases less_rat a yd b xd with e | ⟨e, rfl, rfl⟩
  ·rw [e] at h
   rcases sign_one h with ⟨h1, h2⟩ | ⟨h1, h2⟩ | ⟨h1, h2⟩
   ·exact .inl ⟨by omega, h2⟩
   ·exact .inr (.inl ⟨by omega, h2⟩)
   ·exact .inr (.inr ⟨by omega, h2⟩)
  ·rw [e] at h
   rcases h with ⟨_, h⟩ | ⟨h, _⟩
   ·exact .inl ⟨by omega, h⟩
   ·exact absurd rfl h
 ·rw [hx, hy] at h; cases h
theorem sign_rat {d a s c : Int} (hx : numOK d (ratT a) = true) (h : SignRes d (ratT a) s c) : c = 0 ∧ ((a = 0 ∧ s = 0) ∨ (0 < a ∧ s = 1) ∨ (a < 0 ∧ s = -1)) := by
 rcases h with ⟨_, h, rfl⟩ | ⟨h, _, _⟩
 ·refine ⟨rfl, ?_⟩
  by_cases ha : a = 0
  ·subst ha
   rcases h with ⟨_, h⟩ | ⟨h, _⟩
   ·exact .inl ⟨rfl, h⟩
   ·exact absurd rfl h
  ·rw [ratT_some ha] at h
   exact sign_one h
 ·rw [hx] at h; cases h
theorem parts_rat (d c : Int) : partsS d (ratT c) = if c = 0 then (0, 1, true) else (c, d, true) := by
 by_cases hc : c = 0
 ·subst hc; rfl
 ·rw [ratT_some hc, if_neg hc]; rfl
end Go.Proofs.YtloegjlknpioeaaGreatDoor
namespace Go.Proofs.YtloegjlknpioeaaGreatDoor
open Go.RowKit
structure ChainQ (xd xc sd sc rd rc bf : Int) : Prop where
 s : numOK sd (ratT sc) = true
 r : numOK rd (ratT rc) = true
 eq : (sc * rd + rc * sd) * xd = xc * (sd * rd)
 pos : 0 ≤ rc
 one : 1 ≤ bf
 small : rc * bf < rd
theorem numOK_pos {d c : Int} (h : numOK d (ratT c) = true) : 0 < d := by
 have := (numOK_rat.1 h).1; omega
theorem ChainQ.diff {xd xc sd sc rd rc bf : Int} (hx : numOK xd (ratT xc) = true) (h : ChainQ xd xc sd sc rd rc bf) : plusS xd (ratT xc) sd (ratT sc) (-1) = (rd, ratT rc, 0) := by
 rw [plus_ratS hx h.s]
 refine normQ_eq (Int.mul_pos (numOK_pos hx) (numOK_pos h.s)) h.r ?_
 have e := h.eq
 simp only [Int.add_mul, Int.mul_add, Int.neg_mul, Int.mul_neg, Int.one_mul, Int.mul_one, Int.mul_comm, Int.mul_left_comm, Int.mul_assoc] at e ⊢
 omega
theorem ChainQ.last {xd xc sd sc rd rc bf : Int} (hx : numOK xd (ratT xc) = true) (h : ChainQ xd xc sd sc rd rc bf) : plusS sd (ratT sc) rd (ratT rc) 1 = (xd, ratT xc, 0) := by
 rw [plus_ratS h.s h.r]
 refine normQ_eq (Int.mul_pos (numOK_pos h.s) (numOK_pos h.r)) hx ?_
 have e := h.eq
 simp only [Int.add_mul, Int.mul_add, Int.neg_mul, Int.mul_neg, Int.one_mul, Int.mul_one, Int.mul_comm, Int.mul_left_comm, Int.mul_assoc] at e ⊢
 omega
theorem gcdL_one (c : Int) : gcdL [1, c] = 1 := by rw [gcdL_two]; simp
theorem gcdL_one' (d : Int) : gcdL [d, 1] = 1 := by rw [gcdL_two]; simp
theorem ChainQ.start {xd xc : Int} (hx : numOK xd (ratT xc) = true) (h0 : 0 ≤ xc) (hw : xc / xd ≤ 1000) : ChainQ xd xc 1 (xc / xd) xd (xc % xd) 1 ∧ plusS xd (ratT xc) 1 (ratT (xc / xd)) (-1) = (xd, ratT (xc % xd), 0) := by
 obtain ⟨h1, h2, h3⟩ := numOK_rat.1 hx
 have hq0 : 0 ≤ xc / xd := Int.ediv_nonneg h0 (by omega)
 have hr0 : 0 ≤ xc % xd := Int.emod_nonneg xc (by omega)
 have hr1 : xc % xd < xd := Int.emod_lt_of_pos xc (by omega)
 have he := Int.mul_ediv_add_emod xc xd
 have hc : ChainQ xd xc 1 (xc / xd) xd (xc % xd) 1 := by
  refine ⟨numOK_rat.2 ⟨by omega, by omega, gcdL_one _⟩, numOK_rat.2 ⟨h1, by omega, ?_⟩, ?_, hr0, Int.le_refl _, by omega⟩
  ·obtain ⟨X, rfl⟩ := Int.eq_ofNat_of_zero_le h0
   obtain ⟨D, rfl⟩ := Int.eq_ofNat_of_zero_le (show 0 ≤ xd by omega)
   rw [gcdL_two] at h3 ⊢
   rw [show ((X : Int) % (D : Int)) = ((X % D : Nat) : Int) by omega]
   rw [Int.natAbs_natCast, Int.natAbs_natCast] at h3 ⊢
   rw [Nat.gcd_comm, ← Nat.gcd_rec]
   exact h3
  ·rw [Int.mul_one, Int.one_mul]
   rw [show xc / xd * xd + xc % xd = xc by rw [Int.mul_comm]; exact he]
 exact ⟨hc, hc.diff hx⟩
theorem mark_next {rd rc bf : Int} (hr : 0 < rc) (hrd : 0 < rd) (hs : rc * bf < rd) (h1 : 1 ≤ bf) : bf < (rd + rc - 1).tdiv rc ∧ rd ≤ rc * (rd + rc - 1).tdiv rc ∧ rc * ((rd + rc - 1).tdiv rc - 1) < rd := by
 rw [Int.tdiv_eq_ediv_of_nonneg (by omega)]
 have e1 := Int.mul_ediv_add_emod (rd + rc - 1) rc
 have e2 := Int.emod_nonneg (rd + rc - 1) (show rc ≠ 0 by omega)
 have e3 := Int.emod_lt_of_pos (rd + rc - 1) hr
 generalize (rd + rc - 1) / rc = d at *
 have h2 : rd ≤ rc * d := by omega
 refine ⟨?_, h2, by rw [Int.mul_sub]; omega⟩
 rcases Int.lt_or_le bf d with h | h
 ·exact h
 ·have := Int.mul_le_mul_of_nonneg_left h (Int.le_of_lt hr)
  omega
theorem ChainQ.next {xd xc sd sc rd rc bf d s1 c' e1 ec : Int} (hx : numOK xd (ratT xc) = true) (h : ChainQ xd xc sd sc rd rc bf) (hr : 0 < rc) (h1 : rd ≤ rc * d) (h2 : rc * (d - 1) < rd) (hbd : bf < d)
  (hc : c' * (rd * d) = (rc * d + 1 * (-1 * rd)) * s1) (hn : numOK s1 (ratT c') = true) (hs : ec * (sd * d) = (sc * d + 1 * (1 * sd)) * e1) (hm : numOK e1 (ratT ec) = true) : ChainQ xd xc e1 ec s1 c' d := by
 have hd0 : 0 < d := by have := h.one; omega
 have hrd := numOK_pos h.r
 have hsd := numOK_pos h.s
 have hs1 := numOK_pos hn
 have hxd := numOK_pos hx
 have hrdd : 0 < rd * d := Int.mul_pos hrd hd0
 refine ⟨hm, hn, ?_, ?_, by have := h.one; omega, ?_⟩
 ·have k1 := congrArg (fun t => t * (s1 * (xd * rd))) hs
  have k2 := congrArg (fun t => t * (e1 * (xd * sd))) hc
  have k3 := congrArg (fun t => t * (e1 * (s1 * d))) h.eq
  have hK : 0 < sd * (d * rd) := Int.mul_pos hsd (Int.mul_pos hd0 hrd)
  refine Int.eq_of_mul_eq_mul_right (a := sd * (d * rd)) (by omega) ?_
  try dsimp only at k1 k2 k3
  clear hc hs h1 h2 hrdd hK
  simp only [Int.add_mul, Int.mul_add, Int.neg_mul, Int.mul_neg, Int.one_mul, Int.mul_one, Int.mul_comm, Int.mul_left_comm, Int.mul_assoc] at k1 k2 k3 ⊢
  omega
 ·rcases Int.lt_or_le c' 0 with hneg | hp
  ·have k1 := Int.mul_neg_of_neg_of_pos hneg hrdd
   have k2 : 0 ≤ (rc * d + 1 * (-1 * rd)) * s1 := Int.mul_nonneg (by omega) (by omega)
   omega
  ·exact hp
 ·rcases Int.lt_or_le (c' * d) s1 with hp | hneg
  ·exact hp
  ·have k1 := Int.mul_le_mul_of_nonneg_right hneg (Int.le_of_lt hrd)
   have k2 : c' * d * rd = (rc * d - rd) * s1 := by
    rw [Int.mul_assoc, Int.mul_comm d rd, hc]
    congr 1
    omega
   rw [k2, Int.mul_comm s1 rd] at k1
   have k3 : rd ≤ rc * d - rd := Int.le_of_mul_le_mul_right k1 hs1
   rw [Int.mul_sub, Int.mul_one] at h2
   have k4 : rc * 1 ≤ rc * bf := Int.mul_le_mul_of_nonneg_left h.one (Int.le_of_lt hr)
   have k5 := h.small
   omega
theorem numOK_one {d : Int} (h : 1 ≤ d ∧ d ≤ 100000) : numOK d (ratT 1) = true := numOK_rat.2 ⟨h, by omega, gcdL_one' d⟩
theorem greedyF_nil : ∀ (k : Nat) (r : Int × List (Int × Int)), (greedyF k r).1 = [] → (greedyF k r).2 = r
 | 0, r, _ => rfl
 | k + 1, r, h => by
  rw [greedyF] at h ⊢
  split
  ·rfl
  ·rename_i h0
   rw [if_neg h0] at h
   split
   ·rfl
   ·rename_i h1
    rw [if_neg h1] at h
    cases h
theorem greedyF_len : ∀ (k : Nat) (r : Int × List (Int × Int)), (greedyF k r).1.length ≤ k
 | 0, r => by simp [greedyF]
 | k + 1, r => by
  rw [greedyF]
  split
  ·simp
  ·split
   ·simp
   ·simp only [List.length_cons]
    have := greedyF_len k ((plusS r.1 r.2 (((partsS r.1 r.2).2.1 + (partsS r.1 r.2).1 - 1).tdiv (partsS r.1 r.2).1) [(1, 1)] (-1)).1, (plusS r.1 r.2 (((partsS r.1 r.2).2.1 + (partsS r.1 r.2).1 - 1).tdiv (partsS r.1 r.2).1) [(1, 1)] (-1)).2.1)
    omega
theorem greedyF_cons {k : Nat} {rd rc d : Int} {t : List Int} {q : Int × List (Int × Int)} (h : greedyF k (rd, ratT rc) = (d :: t, q)) : ∃ j s1 s2, k = j + 1 ∧ rc ≠ 0 ∧ d = (rd + rc - 1).tdiv rc ∧ d ≤ 1000 ∧
  plusS rd (ratT rc) d (ratT 1) (-1) = (s1, s2, 0) ∧ greedyF j (s1, s2) = (t, q) := by
 cases k with
 | zero => rw [greedyF] at h; cases h
 | succ j =>
  have hp := parts_rat rd rc
  by_cases hc : rc = 0
  ·rw [if_pos hc] at hp
   rw [greedyF_zero (by rw [hp])] at h
   cases h
  ·rw [if_neg hc] at hp
   obtain ⟨s1, s2, s3, hs⟩ : ∃ a b c, plusS rd (ratT rc) ((rd + rc - 1).tdiv rc) [(1, 1)] (-1) = (a, b, c) := ⟨_, _, _, rfl⟩
   by_cases hst : 1000 < (rd + rc - 1).tdiv rc ∨ s3 ≠ 0
   ·rw [greedyF_stop (s := (s1, s2, s3)) hp hs hst] at h
    cases h
   ·rw [greedyF_next (s := (s1, s2, s3)) hp hs hc hst] at h
    injection h with e1 e2
    injection e1 with e1 e3
    have h3 : s3 = 0 := Classical.not_not.1 (fun h => hst (.inr h))
    subst h3
    refine ⟨j, s1, s2, rfl, hc, e1.symm, ?_, ?_, ?_⟩
    ·rw [← e1]; rcases Int.lt_or_le 1000 ((rd + rc - 1).tdiv rc) with h | h
     ·exact absurd (.inl h) hst
     ·exact h
    ·rw [← e1]; exact hs
    ·exact Prod.ext e3 e2
theorem div_same {xc xd num D : Int} (hxd : 0 < xd) (hD : 0 < D) (h : xc * D = num * xd) : xc / xd = num / D := by
 have e1 := Int.mul_ediv_add_emod xc xd
 have e2 := Int.emod_nonneg xc (show xd ≠ 0 by omega)
 have e3 := Int.emod_lt_of_pos xc hxd
 generalize xc / xd = q at *
 generalize xc % xd = r at *
 have k1 : xc * D = xd * (q * D) + r * D := by rw [← e1, Int.add_mul, Int.mul_assoc]
 have k2 : 0 ≤ r * D := Int.mul_nonneg e2 (Int.le_of_lt hD)
 have k3 : r * D < xd * D := Int.mul_lt_mul_of_pos_right e3 hD
 have k4 : xd * (q * D) ≤ xd * num := by rw [Int.mul_comm xd num]; omega
 have k5 : xd * num < xd * (q * D + D) := by rw [Int.mul_add, Int.mul_comm xd num]; omega
 have k6 : q * D ≤ num := Int.le_of_mul_le_mul_left k4 hxd
 have k7 : num < q * D + D := Int.lt_of_mul_lt_mul_left k5 (Int.le_of_lt hxd)
 have k8 : q ≤ num / D := Int.le_ediv_of_mul_le hD k6
 have k9 : num / D < q + 1 := Int.ediv_lt_of_lt_mul hD (by rw [Int.add_mul, Int.one_mul]; exact k7)
 omega
theorem wholeN_rat (n : Int) : wholeN n = (1, ratT n) := by
 unfold wholeN ratT
 split <;> rfl
theorem greedyS_rat {xd xc mo : Int} (hx : numOK xd (ratT xc) = true) (h0 : 0 ≤ xc) (hm : 0 ≤ mo ∧ mo ≤ 8) : greedyS xd (ratT xc) mo = if 1000 < xc / xd then (0, [], (0, []), 3)
  else (xc / xd, (greedyF mo.toNat (xd, ratT (xc % xd))).1, (greedyF mo.toNat (xd, ratT (xc % xd))).2, 0) := by
 have hxd := numOK_pos hx
 have hi : inB mo 0 8 = true := by simpa [inB] using hm
 have hq0 : 0 ≤ xc / xd := Int.ediv_nonneg h0 (by omega)
 have hp : ∃ den, partsS xd (ratT xc) = (xc, den, true) ∧ xc.tdiv den = xc / xd := by
  rw [parts_rat]
  by_cases hc : xc = 0
  ·subst hc
   exact ⟨1, by rw [if_pos rfl], by simp⟩
  ·exact ⟨xd, by rw [if_neg hc], Int.tdiv_eq_ediv_of_nonneg h0⟩
 obtain ⟨den, hp, hq⟩ := hp
 unfold greedyS
 rw [if_neg (by rw [hx]; simp)]
 simp only [hp, hq]
 by_cases h1 : 1000 < xc / xd
 ·rw [if_pos h1, if_pos (.inr (.inr (.inl h1)))]
 ·rw [if_neg h1, if_neg, wholeN_rat]
  ·simp only [(ChainQ.start hx h0 (by omega)).2]
  ·rintro (h | h | h | h)
   ·cases h
   ·omega
   ·exact h1 h
   ·rw [hi] at h; cases h
end Go.Proofs.YtloegjlknpioeaaGreatDoor
