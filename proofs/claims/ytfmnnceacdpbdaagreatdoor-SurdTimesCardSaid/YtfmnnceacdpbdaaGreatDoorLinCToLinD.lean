import Derived.Test.YtfmnnceacdpbdaaGreatDoorLinAToLinB
set_option linter.unusedVariables false
set_option linter.unusedSimpArgs false
namespace Go.Proofs.YtfmnnceacdpbdaaGreatDoor.LI
def conv (ts : List (Int × Int)) : List (Int × Nat) := ts.map fun t => (t.1, t.2.toNat)
def slack (m : Nat) (ts : List (Int × Int)) : Nat := (ts.map fun t => t.1.natAbs * m * (t.2.toNat * t.2.toNat) + 1).sum
theorem term_near {ps : List Nat} (hp : ∀ p ∈ ps, Pr p) (k : Nat) (t : Int × Int) (hf : Fac ps t.2.toNat) :
  (bits k : Int) * (t.1 * ev (bits k) (rs (bits k)) ps (rt ps t.2.toNat)) ≤ ((bits k ^ ps.length : Nat) : Int) * ((if t.1 < 0 then 0 else lowT t k : Nat) - (if t.1 < 0 then lowT t k else 0 : Nat) : Int) + ((bits k ^ ps.length : Nat) : Int) * ((t.1.natAbs * ps.length * (t.2.toNat * t.2.toNat) + 1 : Nat) : Int) ∧
  ((bits k ^ ps.length : Nat) : Int) * ((if t.1 < 0 then 0 else lowT t k : Nat) - (if t.1 < 0 then lowT t k else 0 : Nat) : Int) ≤ (bits k : Int) * (t.1 * ev (bits k) (rs (bits k)) ps (rt ps t.2.toNat)) + ((bits k ^ ps.length : Nat) : Int) * ((t.1.natAbs * ps.length * (t.2.toNat * t.2.toNat) + 1 : Nat) : Int) := by
 have hok : ∀ p ∈ ps, bits k ≤ rs (bits k) p ∧ rs (bits k) p ≤ p * bits k ∧ rs (bits k) p * rs (bits k) p ≤ p * (bits k * bits k) ∧ p * (bits k * bits k) ≤ rs (bits k) p * rs (bits k) p + 2 * rs (bits k) p := fun p h => rs_ok (by have := (hp p h).1; omega)
 obtain ⟨g, hg, hg1, hg2⟩ := ev_rt (B := bits k) (s := rs (bits k)) (fun p h => ⟨(hok p h).1, (hok p h).2.2.1⟩) hf
 have hm := ev_mul (B := bits k) (s := rs (bits k)) (fun p h => ⟨by have := (hp p h).1; omega, (hok p h).2⟩) (rt ps t.2.toNat) (rt ps t.2.toNat)
 rw [rt_sq hf, ev_kon, hg, M_rt hf] at hm
 have hl : lowT t k = isq (t.1.natAbs * t.1.natAbs * t.2.toNat * (bits k * bits k)) := rfl
 rw [hg, hl]
 obtain ⟨c, hc⟩ : ∃ c, c = t.1.natAbs := ⟨_, rfl⟩
 rw [← hc]
 generalize t.2.toNat = n at *
 generalize bits k ^ ps.length = P at *
 generalize ps.length = m at *
 generalize bits k = B at *
 have hlow : B * (n * (P * P)) ≤ B * (g * g) + 2 * m * (n * n * (P * P)) := by
  have e : (B : Int) * ((g : Int) * g - (P : Int) * ((n : Int) * P)) = ((B * (g * g) : Nat) : Int) - ((B * (n * (P * P)) : Nat) : Int) := by
   simp only [Int.natCast_mul]; grind
  rw [e] at hm
  omega
 obtain ⟨n1, n2⟩ := near (C := c) hg1 hg2 hlow
 generalize isq (c * c * n * (B * B)) = L at *
 have f1 : ((B * (c * g) : Nat) : Int) ≤ ((P * L + P : Nat) : Int) := by exact_mod_cast n1
 have f2 : ((P * L : Nat) : Int) ≤ ((B * (c * g) + c * m * (n * n) * P : Nat) : Int) := by exact_mod_cast n2
 have f3 : (P : Int) * ((c * m * (n * n) + 1 : Nat) : Int) = ((c * m * (n * n) * P : Nat) : Int) + (P : Int) := by
  simp only [Int.natCast_mul, Int.natCast_add]; grind
 have f4 : ((P * L : Nat) : Int) = (P : Int) * L := Int.natCast_mul _ _
 have f5 : 0 ≤ ((c * m * (n * n) * P : Nat) : Int) := Int.natCast_nonneg _
 rw [f3]
 by_cases h0 : t.1 < 0
 ·simp only [if_pos h0]
  have e1 : (B : Int) * (t.1 * (g : Int)) = -((B * (c * g) : Nat) : Int) := by
   have : t.1 = -(c : Int) := by omega
   rw [this]; simp only [Int.natCast_mul]; grind
  have e2 : (P : Int) * (((0 : Nat) : Int) - (L : Int)) = -((P * L : Nat) : Int) := by rw [f4]; grind
  rw [e1, e2]
  rw [Int.natCast_add] at f1 f2
  omega
 ·simp only [if_neg h0]
  have e1 : (B : Int) * (t.1 * (g : Int)) = ((B * (c * g) : Nat) : Int) := by
   have : t.1 = (c : Int) := by omega
   rw [this]; simp only [Int.natCast_mul]
  have e2 : (P : Int) * ((L : Int) - ((0 : Nat) : Int)) = ((P * L : Nat) : Int) := by rw [f4]; grind
  rw [e1, e2]
  rw [Int.natCast_add] at f1 f2
  omega
theorem sum_near {ps : List Nat} (hp : ∀ p ∈ ps, Pr p) (k : Nat) : ∀ (ts : List (Int × Int)), (∀ t ∈ ts, Fac ps t.2.toNat) →
  (bits k : Int) * ev (bits k) (rs (bits k)) ps (tot ps (conv ts)) ≤ ((bits k ^ ps.length : Nat) : Int) * ((aLow ts k : Int) - (bLow ts k : Int)) + ((bits k ^ ps.length : Nat) : Int) * (slack ps.length ts : Int) ∧
  ((bits k ^ ps.length : Nat) : Int) * ((aLow ts k : Int) - (bLow ts k : Int)) ≤ (bits k : Int) * ev (bits k) (rs (bits k)) ps (tot ps (conv ts)) + ((bits k ^ ps.length : Nat) : Int) * (slack ps.length ts : Int)
 | [], _ => by
  have h : ev (bits k) (rs (bits k)) ps (tot ps (conv [])) = 0 := ev_zero
  rw [h]
  simp [aLow, bLow, slack]
 | t :: ts, h => by
  have h1 := term_near hp k t (h t (by simp))
  have h2 := sum_near hp k ts (fun u hu => h u (List.mem_cons_of_mem _ hu))
  have e1 : ev (bits k) (rs (bits k)) ps (tot ps (conv (t :: ts))) = t.1 * ev (bits k) (rs (bits k)) ps (rt ps t.2.toNat) + ev (bits k) (rs (bits k)) ps (tot ps (conv ts)) := by
   show ev _ _ ps (t.1 * rt ps t.2.toNat + tot ps (conv ts)) = _
   rw [ev_add, ev_sc]
  have e2 : aLow (t :: ts) k = (if t.1 < 0 then 0 else lowT t k) + aLow ts k := rfl
  have e3 : bLow (t :: ts) k = (if t.1 < 0 then lowT t k else 0) + bLow ts k := rfl
  have e4 : slack ps.length (t :: ts) = (t.1.natAbs * ps.length * (t.2.toNat * t.2.toNat) + 1) + slack ps.length ts := rfl
  rw [e1, e2, e3, e4]
  generalize t.1 * ev (bits k) (rs (bits k)) ps (rt ps t.2.toNat) = x at *
  generalize ev (bits k) (rs (bits k)) ps (tot ps (conv ts)) = y at *
  generalize (t.1.natAbs * ps.length * (t.2.toNat * t.2.toNat) + 1) = s1 at *
  generalize slack ps.length ts = s2 at *
  generalize (if t.1 < 0 then 0 else lowT t k) = a1 at *
  generalize (if t.1 < 0 then lowT t k else 0) = b1 at *
  generalize aLow ts k = a2 at *
  generalize bLow ts k = b2 at *
  generalize ((bits k ^ ps.length : Nat) : Int) = P at *
  generalize (bits k : Int) = B at *
  have g1 : B * (x + y) = B * x + B * y := Int.mul_add _ _ _
  have g2 : P * (((a1 + a2 : Nat) : Int) - ((b1 + b2 : Nat) : Int)) = P * ((a1 : Int) - (b1 : Int)) + P * ((a2 : Int) - (b2 : Int)) := by rw [Int.natCast_add, Int.natCast_add]; grind
  have g3 : P * ((s1 + s2 : Nat) : Int) = P * (s1 : Int) + P * (s2 : Int) := by rw [Int.natCast_add]; grind
  rw [g1, g2, g3]
  omega
theorem top_low (t : Int × Int) (k : Nat) : topT t k ≤ lowT t k + 1 := isqU_le _
theorem sums_close (ts : List (Int × Int)) (k : Nat) : aTop ts k ≤ aLow ts k + ts.length ∧ bTop ts k ≤ bLow ts k + ts.length := by
 induction ts with
 | nil => simp [aTop, aLow, bTop, bLow]
 | cons t ts ih =>
  have h := top_low t k
  unfold aTop aLow bTop bLow at *
  simp only [List.map_cons, List.sum_cons, List.length_cons]
  split <;> omega
theorem conv_keys {ts : List (Int × Int)} (h0 : ∀ t ∈ ts, 0 ≤ t.2) {n : Int} (hn : 0 ≤ n) (h : n ∉ ts.map (·.2)) : n.toNat ∉ (conv ts).map (·.2) := by
 intro hm
 unfold conv at hm
 rw [List.map_map] at hm
 obtain ⟨t, ht, e⟩ := List.mem_map.1 hm
 have h1 := h0 t ht
 have e' : t.2.toNat = n.toNat := e
 exact h (List.mem_map.2 ⟨t, ht, by omega⟩)
theorem decided {ps : List Nat} (hp : ∀ p ∈ ps, Pr p) (hnd : ps.Nodup) {ts : List (Int × Int)} (hne : ts ≠ []) (hf : ∀ t ∈ ts, Fac ps t.2.toNat) (hc : ∀ t ∈ ts, t.1 ≠ 0) (h0 : ∀ t ∈ ts, 0 ≤ t.2) (hk : (ts.map (·.2)).Nodup) :
  ∃ Y : Nat, Y ≤ ((conv ts).map fun t => t.1.natAbs * t.2).sum ^ (2 ^ ps.length - 1) ∧ ∀ k, (slack ps.length ts + ts.length) * Y + 2 * ps.length * ((conv ts).map fun t => t.1.natAbs * t.2).sum * Y < bits k → verdict ts k ≠ 0 := by
 have hfc : ∀ t ∈ conv ts, Fac ps t.2 := by
  intro t ht
  obtain ⟨u, hu, rfl⟩ := List.mem_map.1 ht
  exact hf u hu
 have hx : tot ps (conv ts) ≠ zero ps := by
  cases ts with
  | nil => exact absurd rfl hne
  | cons t ts =>
   simp only [List.map_cons, List.nodup_cons] at hk
   exact tot_ne (hc t (by simp)) hfc (conv_keys (fun u hu => h0 u (List.mem_cons_of_mem _ hu)) (h0 t (by simp)) hk.1)
 obtain ⟨Y, hY, hap⟩ := apart hp hnd hx
 have hM := M_tot (ps := ps) (conv ts) hfc
 refine ⟨Y, Nat.le_trans hY (Nat.pow_le_pow_left hM _), fun k hlt hv => ?_⟩
 have hs := sum_near hp k ts hf
 have hcl := sums_close ts k
 have hd1 : ¬ bTop ts k < aLow ts k := fun h => by rw [verdict_of_pos h] at hv; omega
 have hd2 : ¬ aTop ts k < bLow ts k := fun h => by rw [verdict_of_neg h] at hv; omega
 have hB := bits_pos k
 have h1 := hap (bits k) (rs (bits k)) (slack ps.length ts + ts.length) hB (fun p h => (rs_ok (by have := (hp p h).1; omega)).2) ?_
 ·have h2 : 2 * ps.length * M ps (tot ps (conv ts)) * Y ≤ 2 * ps.length * ((conv ts).map fun t => t.1.natAbs * t.2).sum * Y := Nat.mul_le_mul_right _ (Nat.mul_le_mul_left _ hM)
  omega
 ·generalize ev (bits k) (rs (bits k)) ps (tot ps (conv ts)) = x at *
  generalize bits k ^ ps.length = P at *
  generalize bits k = B at *
  generalize slack ps.length ts = S at *
  have e1 : B * x.natAbs = ((B : Int) * x).natAbs := by rw [Int.natAbs_mul]; rfl
  rw [e1]
  have e2 : ((S + ts.length) * P : Nat) = P * S + P * ts.length := by grind
  rw [e2]
  have hab : (aLow ts k : Int) - (bLow ts k : Int) ≤ (ts.length : Int) ∧ -(ts.length : Int) ≤ (aLow ts k : Int) - (bLow ts k : Int) := by omega
  have g1 := Int.mul_le_mul_of_nonneg_left hab.1 (Int.natCast_nonneg P)
  have g2 := Int.mul_le_mul_of_nonneg_left hab.2 (Int.natCast_nonneg P)
  rw [Int.mul_neg] at g2
  generalize (P : Int) * ((aLow ts k : Int) - (bLow ts k : Int)) = u at *
  have g3 : ((P * S + P * ts.length : Nat) : Int) = (P : Int) * S + (P : Int) * ts.length := by simp only [Int.natCast_mul, Int.natCast_add]
  generalize (B : Int) * x = v at *
  omega
end Go.Proofs.YtfmnnceacdpbdaaGreatDoor.LI
namespace Go.Proofs.YtfmnnceacdpbdaaGreatDoor
open LI
theorem sum_le_mul {α : Type} (f : α → Nat) (c : Nat) : ∀ l : List α, (∀ x ∈ l, f x ≤ c) → (l.map f).sum ≤ l.length * c
 | [], _ => by simp
 | x :: l, h => by
  have h1 := h x (by simp)
  have h2 := sum_le_mul f c l (fun y hy => h y (List.mem_cons_of_mem _ hy))
  simp only [List.map_cons, List.sum_cons, List.length_cons, Nat.add_mul]
  omega
def RootOK (r : Int) : Prop := 1 ≤ r ∧ r ≤ 1000 ∧ SqFree r.toNat
theorem decided_any (K : Nat) (hK : 93 + 75 * 2 ^ 36 ≤ 16 * K) {ts : List (Int × Int)} (hne : ts ≠ []) (hc : ∀ t ∈ ts, t.1 ≠ 0 ∧ -4000000000000000000 ≤ t.1 ∧ t.1 ≤ 4000000000000000000) (hr : ∀ t ∈ ts, RootOK t.2) (hk : (ts.map (·.2)).Nodup) (hl : ts.length ≤ 9) :
  verdict ts K ≠ 0 := by
 obtain ⟨qs, h1, h2, h3⟩ := all_factors ts hr
 have hfac : ∀ t ∈ ts, Fac (once qs) t.2.toNat := by
  intro t ht
  obtain ⟨l, g1, g2, g3, g4⟩ := h3 t ht
  exact fac_of (fun p hp => h1 p (mem_once.1 hp)) g1 g2 (fun p hp => mem_once.2 (g3 p hp)) g4
 obtain ⟨Y, hY, hd⟩ := decided (fun p hp => h1 p (mem_once.1 hp)) (once_nodup qs) hne hfac (fun t ht => (hc t ht).1) (fun t ht => by have := (hr t ht).1; omega) hk
 refine hd K ?_
 have hm : (once qs).length ≤ 36 := by have := once_len qs; omega
 generalize (once qs).length = m at *
 have hX : ((conv ts).map fun t => t.1.natAbs * t.2).sum ≤ 2 ^ 75 := by
  have h5 := sum_le_mul (fun t : Int × Nat => t.1.natAbs * t.2) (4000000000000000000 * 1000) (conv ts) (fun t ht => by
   obtain ⟨u, hu, rfl⟩ := List.mem_map.1 ht
   have := hc u hu
   have := hr u hu
   exact Nat.mul_le_mul (by show u.1.natAbs ≤ _; omega) (by show u.2.toNat ≤ _; have := this.2.1; omega))
  have h6 : (conv ts).length = ts.length := by simp [conv]
  rw [h6] at h5
  omega
 have hS : slack m ts ≤ 9 * (4000000000000000000 * 36 * (1000 * 1000) + 1) := by
  have h5 := sum_le_mul (fun t : Int × Int => t.1.natAbs * m * (t.2.toNat * t.2.toNat) + 1) (4000000000000000000 * 36 * (1000 * 1000) + 1) ts (fun t ht => by
   have := hc t ht
   have := hr t ht
   have hn : t.2.toNat ≤ 1000 := by have := this.2.1; omega
   have := Nat.mul_le_mul (Nat.mul_le_mul (show t.1.natAbs ≤ 4000000000000000000 by omega) hm) (Nat.mul_le_mul hn hn)
   omega)
  have h6 := Nat.mul_le_mul_right (4000000000000000000 * 36 * (1000 * 1000) + 1) hl
  exact Nat.le_trans h5 h6
 generalize ((conv ts).map fun t => t.1.natAbs * t.2).sum = X at *
 generalize slack m ts = S at *
 have hE : 2 ^ m ≤ 2 ^ 36 := Nat.pow_le_pow_right (by omega) hm
 obtain ⟨E, hEE⟩ : ∃ E : Nat, E = 2 ^ 36 := ⟨_, rfl⟩
 rw [← hEE] at hE hK
 clear hEE
 have hY2 : Y ≤ 2 ^ (75 * E) := by
  refine Nat.le_trans hY (Nat.le_trans (Nat.pow_le_pow_left hX _) ?_)
  rw [← Nat.pow_mul]
  exact Nat.pow_le_pow_right (by omega) (by omega)
 have hb : bits K = 2 ^ (16 * K) := by
  unfold bits
  rw [show (65536 : Nat) = 2 ^ 16 from rfl, ← Nat.pow_mul]
 rw [hb]
 have h7 : (S + ts.length) * Y + 2 * m * X * Y ≤ 2 ^ 92 * Y := by
  rw [← Nat.add_mul]
  refine Nat.mul_le_mul_right _ ?_
  have := Nat.mul_le_mul (Nat.mul_le_mul_left 2 hm) hX
  omega
 have h8 : 2 ^ 92 * Y ≤ 2 ^ 92 * 2 ^ (75 * E) := Nat.mul_le_mul_left _ hY2
 rw [← Nat.pow_add] at h8
 have h9 : 2 ^ (92 + 75 * E) < 2 ^ (16 * K) := Nat.pow_lt_pow_right (by omega) (by omega)
 omega
theorem SignOf.exists_ (ts : List (Int × Int)) (hc : ∀ t ∈ ts, -4000000000000000000 ≤ t.1 ∧ t.1 ≤ 4000000000000000000) (hr : ∀ t ∈ ts, RootOK t.2) (hk : (ts.map (·.2)).Nodup) (hl : ts.length ≤ 9) :
  ∃ K, K ≤ 500000000000 ∧ (ts.filter nzT = [] ∨ verdict (ts.filter nzT) K ≠ 0) := by
 refine ⟨500000000000, Nat.le_refl _, ?_⟩
 by_cases h : ts.filter nzT = []
 ·exact .inl h
 ·refine .inr (decided_any _ (by decide) h (fun t ht => ⟨?_, hc t (List.mem_filter.1 ht).1⟩) (fun t ht => hr t (List.mem_filter.1 ht).1) (List.Nodup.sublist (List.filter_sublist.map _) hk) (Nat.le_trans (List.length_filter_le _ _) hl))
  have := (List.mem_filter.1 ht).2
  intro e
  rw [nzT, e] at this
  cases this
end Go.Proofs.YtfmnnceacdpbdaaGreatDoor
