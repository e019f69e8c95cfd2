import Derived.Test.YthkblgglmohciaaGreatDoorProdAToProdM
set_option linter.unusedVariables false
set_option linter.unusedSimpArgs false
namespace Go.Proofs.YthkblgglmohciaaGreatDoor
open Go.RowKit
def sgnK (k : Nat) : Int := if k % 2 = 0 then 1 else -1
theorem sgnK_succ (k : Nat) : sgnK (k + 1) = -sgnK k := by unfold sgnK; split <;> split <;> omega
theorem sgnK_bd (k : Nat) : -1 ≤ sgnK k ∧ sgnK k ≤ 1 := by unfold sgnK; split <;> omega
def turnL (yd : Int) (l : List (Int × Int)) : List (Int × Int) := l.mapIdx fun i t => (t.1 * (sgnK i * yd), t.2)
def normL (l : List (Int × Int)) : Int := (l.mapIdx fun i t => sgnK i * t.1 * t.1 * t.2).sum
theorem turnL_snoc (yd : Int) (l : List (Int × Int)) (t : Int × Int) : turnL yd (l ++ [t]) = turnL yd l ++ [(t.1 * (sgnK l.length * yd), t.2)] := by
 unfold turnL; rw [List.mapIdx_append]; simp
theorem normL_snoc (l : List (Int × Int)) (t : Int × Int) : normL (l ++ [t]) = normL l + sgnK l.length * t.1 * t.1 * t.2 := by
 unfold normL; rw [List.mapIdx_append, List.sum_append]; simp
theorem turnL_len (yd : Int) (l : List (Int × Int)) : (turnL yd l).length = l.length := by simp [turnL]
def turnK (yd : Int) (yt : List (Int × Int)) (k : Nat) : List (Int × Int) := turnL yd (yt.take k) ++ yt.drop k
theorem turnK_len (yd : Int) (yt : List (Int × Int)) (k : Nat) (h : k ≤ yt.length) : (turnK yd yt k).length = yt.length := by
 unfold turnK; rw [List.length_append, turnL_len]; simp; omega
theorem turnK_at (yd : Int) (yt : List (Int × Int)) (k : Nat) (h : k < yt.length) : (turnK yd yt k)[k]? = some yt[k] := by
 unfold turnK
 rw [List.getElem?_append_right (by rw [turnL_len]; simp; omega), turnL_len]
 simp [Nat.min_eq_left (Nat.le_of_lt h)]
theorem turnK_set (yd : Int) (yt : List (Int × Int)) (k : Nat) (h : k < yt.length) : (turnK yd yt k).set k (yt[k].1 * (sgnK k * yd), yt[k].2) = turnK yd yt (k + 1) := by
 unfold turnK
 rw [take_snoc yt k h, turnL_snoc, List.drop_eq_getElem_cons h, List.set_append_right _ _ (by rw [turnL_len]; simp; omega), turnL_len]
 simp only [List.length_take, Nat.min_eq_left (Nat.le_of_lt h), Nat.sub_self, List.set_cons_zero, List.append_assoc, List.cons_append, List.nil_append]
theorem cells2_set1 : ∀ (l : List (Value × Value)) (i : Nat) (u : Value) (h : i < l.length), (cells2 l).set (i * 2) u = cells2 (l.set i (u, l[i].2))
 | x :: l, 0, u, _ => rfl
 | x :: l, i + 1, u, h => by
  have h1 := cells2_set1 l i u (by simpa using h)
  have e : cells2 (x :: l) = x.1 :: x.2 :: cells2 l := rfl
  rw [e, show (i + 1) * 2 = i * 2 + 2 by omega]
  show x.1 :: x.2 :: ((cells2 l).set (i * 2) u) = _
  rw [h1]
  rfl
theorem cellsT_set1 (ts : List (Int × Int)) (i : Nat) (c : Int) (h : i < ts.length) : (cellsT ts).set (i * 2) (.int .i64 c) = cellsT (ts.set i (c, ts[i].2)) := by
 have h1 := cells2_set1 (ts.map encT) i (.int .i64 c) (by simpa using h)
 unfold cellsT
 rw [h1, List.map_set]
 simp [encT]
def quoS (xd : Int) (xt : List (Int × Int)) (yd : Int) (yt : List (Int × Int)) : Int × List (Int × Int) × Int :=
 if (numOK xd xt && numOK yd yt) = true then
  if yt.length = 0 then (0, [], 7) else if 2 < yt.length then (0, [], 11) else overS (prodS [] xt (turnL yd yt)) (xd * normL yt)
 else (0, [], 2)
theorem norm_two {c d r q : Int} (hc : c ≠ 0) (hd : d ≠ 0) (hcb : -100000 ≤ c ∧ c ≤ 100000) (hdb : -100000 ≤ d ∧ d ≤ 100000) (hr : RootOK r) (hq : RootOK q) (hrq : r ≠ q) : c * c * r ≠ d * d * q := by
 intro he
 obtain ⟨K, hK⟩ : ∃ K, 93 + 75 * 2 ^ 36 ≤ 16 * K := ⟨500000000000, by decide⟩
 have hv := decided_any K hK (ts := [((c.natAbs : Int), r), (-(d.natAbs : Int), q)]) (by simp) (by
  intro t ht
  simp only [List.mem_cons, List.not_mem_nil, or_false] at ht
  rcases ht with rfl | rfl
  ·show (c.natAbs : Int) ≠ 0 ∧ -_ ≤ (c.natAbs : Int) ∧ (c.natAbs : Int) ≤ _; omega
  ·show -(d.natAbs : Int) ≠ 0 ∧ -_ ≤ -(d.natAbs : Int) ∧ -(d.natAbs : Int) ≤ _; omega) (by
  intro t ht
  simp only [List.mem_cons, List.not_mem_nil, or_false] at ht
  rcases ht with rfl | rfl
  ·exact hr
  ·exact hq) (by simp [hrq]) (by simp)
 refine hv ?_
 have h1 : ¬ ((c.natAbs : Int) < 0) := by omega
 have h2 : -(d.natAbs : Int) < 0 := by omega
 have hsq : sqT ((c.natAbs : Int), r) = sqT (-(d.natAbs : Int), q) := by
  unfold sqT
  simp only [Int.natAbs_natCast, Int.natAbs_neg]
  have e1 : ((c.natAbs * c.natAbs * r.toNat : Nat) : Int) = c * c * r := by
   rw [Int.natCast_mul, Int.natAbs_mul_self, Int.toNat_of_nonneg (by have := hr.1; omega)]
  have e2 : ((d.natAbs * d.natAbs * q.toNat : Nat) : Int) = d * d * q := by
   rw [Int.natCast_mul, Int.natAbs_mul_self, Int.toNat_of_nonneg (by have := hq.1; omega)]
  omega
 have e3 : aLow [((c.natAbs : Int), r), (-(d.natAbs : Int), q)] K = bLow [((c.natAbs : Int), r), (-(d.natAbs : Int), q)] K := by
  unfold aLow bLow
  simp only [List.map_cons, List.map_nil, List.sum_cons, List.sum_nil, if_neg h1, if_pos h2, lowT, sqTk, hsq]
  omega
 have e4 : aTop [((c.natAbs : Int), r), (-(d.natAbs : Int), q)] K = bTop [((c.natAbs : Int), r), (-(d.natAbs : Int), q)] K := by
  unfold aTop bTop
  simp only [List.map_cons, List.map_nil, List.sum_cons, List.sum_nil, if_neg h1, if_pos h2, topT, sqTk, hsq]
  omega
 have h5 := aLow_aTop [((c.natAbs : Int), r), (-(d.natAbs : Int), q)] K
 unfold verdict
 rw [if_neg (by omega), if_neg (by omega)]
theorem norm_ok {yd : Int} {yt : List (Int × Int)} (hok : numOK yd yt = true) (h1 : yt.length ≠ 0) (h2 : ¬ 2 < yt.length) : normL yt ≠ 0 ∧ -40000000000000 ≤ normL yt ∧ normL yt ≤ 40000000000000 := by
 obtain ⟨_, _, _, hp⟩ := numOK_parts hok
 obtain ⟨hr, hn⟩ := numOK_roots hok
 have hbd : ∀ t ∈ yt, 1 ≤ t.1 * t.1 * t.2 ∧ t.1 * t.1 * t.2 ≤ 10000000000000 := fun t ht => by
  obtain ⟨a1, a2, a3, a4⟩ := (hp t ht).1
  have h3 := mul_bd (mul_bd a4 a4) (b := t.2) (B := 1000) ⟨by omega, by omega⟩
  refine ⟨?_, by omega⟩
  have h4 : 0 < t.1 * t.1 := by rcases Int.lt_or_gt_of_ne a3 with h | h; exact Int.mul_pos_of_neg_of_neg h h; exact Int.mul_pos h h
  have := Int.mul_pos h4 (show 0 < t.2 by omega)
  omega
 match yt, h1, h2, hbd, hn, hr, hp with
 | [t], _, _, hbd, _, _, _ =>
  have := hbd t (by simp)
  have e : normL [t] = t.1 * t.1 * t.2 := by simp [normL, sgnK]
  rw [e]; omega
 | [t, u], _, _, hbd, hn, hr, hp =>
  have g1 := hbd t (by simp)
  have g2 := hbd u (by simp)
  have e : normL [t, u] = t.1 * t.1 * t.2 - u.1 * u.1 * u.2 := by simp [normL, sgnK, Int.neg_mul]; omega
  rw [e]
  have hne : t.2 ≠ u.2 := by intro he; simp [he] at hn
  have h3 := norm_two (hp t (by simp)).1.2.2.1 (hp u (by simp)).1.2.2.1 (hp t (by simp)).1.2.2.2 (hp u (by simp)).1.2.2.2 (hr t (by simp)) (hr u (by simp)) hne
  omega
 | _ :: _ :: _ :: _, _, h2, _, _, _, _ => exact absurd (by simp) h2
end Go.Proofs.YthkblgglmohciaaGreatDoor
