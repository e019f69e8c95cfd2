import Derived.Test.YtfmnnceacdpbdaaGreatDoorAsyToAsyW
import Derived.Test.YtfmnnceacdpbdaaGreatDoorTimAToTimC
import Derived.Test.YtfmnnceacdpbdaaGreatDoorMovAToMovB
set_option linter.unusedVariables false
set_option linter.unusedSimpArgs false
namespace Go.Proofs.YtfmnnceacdpbdaaGreatDoor
open LI
def RootF (r : Int) : Prop := 1 ≤ r ∧ SqFree r.toNat
theorem RootOK.free {r : Int} (h : RootOK r) : RootF r := ⟨h.1, h.2.2⟩
theorem all_factors' : ∀ (ts : List (Int × Int)), (∀ t ∈ ts, RootF t.2) → ∃ qs : List Nat, (∀ p ∈ qs, Pr p) ∧ ∀ t ∈ ts, ∃ l : List Nat, (∀ p ∈ l, Pr p) ∧ l.Nodup ∧ (∀ p ∈ l, p ∈ qs) ∧ prod l = t.2.toNat
 | [], _ => ⟨[], by simp, by simp⟩
 | t :: ts, h => by
  obtain ⟨qs, h1, h3⟩ := all_factors' ts (fun u hu => h u (List.mem_cons_of_mem _ hu))
  obtain ⟨g1, g3⟩ := h t (by simp)
  obtain ⟨l, hl, hs, hp⟩ := factors t.2.toNat (by omega) g3
  refine ⟨l ++ qs, ?_, ?_⟩
  ·intro p hp
   rcases List.mem_append.1 hp with h | h
   ·exact hl p h
   ·exact h1 p h
  ·intro u hu
   rcases List.mem_cons.1 hu with rfl | hu
   ·exact ⟨l, hl, hs.imp (fun h => by omega), fun p hp => List.mem_append.2 (.inl hp), hp⟩
   ·obtain ⟨l', k1, k2, k3, k4⟩ := h3 u hu
    exact ⟨l', k1, k2, fun p hp => List.mem_append.2 (.inr (k3 p hp)), k4⟩
theorem SignOf.exists_any (ts : List (Int × Int)) (hr : ∀ t ∈ ts, RootF t.2) (hk : (ts.map (·.2)).Nodup) : ∃ K, ts.filter nzT = [] ∨ verdict (ts.filter nzT) K ≠ 0 := by
 by_cases h : ts.filter nzT = []
 ·exact ⟨0, .inl h⟩
 ·have hr' : ∀ t ∈ ts.filter nzT, RootF t.2 := fun t ht => hr t (List.mem_filter.1 ht).1
  obtain ⟨qs, h1, h3⟩ := all_factors' (ts.filter nzT) hr'
  obtain ⟨Y, _, hd⟩ := decided (ps := once qs) (fun p hp => h1 p (mem_once.1 hp)) (once_nodup qs) h (fun t ht => by
   obtain ⟨l, g1, g2, g3, g4⟩ := h3 t ht
   exact fac_of (fun p hp => h1 p (mem_once.1 hp)) g1 g2 (fun p hp => mem_once.2 (g3 p hp)) g4) (fun t ht e => by
   have h2 := (List.mem_filter.1 ht).2
   rw [nzT, e] at h2
   cases h2) (fun t ht => by have := (hr' t ht).1; omega) (List.Nodup.sublist (List.filter_sublist.map _) hk)
  generalize (slack (once qs).length (ts.filter nzT) + (ts.filter nzT).length) * Y + 2 * (once qs).length * ((conv (ts.filter nzT)).map fun t => t.1.natAbs * t.2).sum * Y = Z at hd
  exact ⟨Z + 1, .inr (hd (Z + 1) (by have := bits_ge (Z + 1); omega))⟩
theorem cf_swap : ∀ (kv : List (Int × Int)) (r : Int), (kv.map (·.1)).Nodup → cf (kv.map swapT) r = getS kv r
 | [], _, _ => rfl
 | (a, x) :: t, r, h => by
  rw [List.map_cons, List.nodup_cons] at h
  rw [List.map_cons, cf_cons, cf_swap t r h.2]
  show (if r = a then x else 0) + getS t r = if r = a then x else getS t r
  split
  ·rename_i e
   subst e
   have : getS t r = 0 := by
    rcases getS_mem t r with h1 | h1
    ·exact h1
    ·exact absurd (List.mem_map_of_mem (f := (·.1)) h1) h.1
   omega
  ·omega
theorem zero_free {kv : List (Int × Int)} (hn : (kv.map (·.1)).Nodup) (hf : ∀ r ∈ kv.map (·.1), RootF r) (h : Bdd (linK kv)) (r : Int) : getS kv r = 0 := by
 have hk : (kv.map swapT).map (·.2) = kv.map (·.1) := by rw [List.map_map]; rfl
 obtain ⟨K, hK⟩ := SignOf.exists_any (kv.map swapT) (fun t ht => hf _ (by rw [← hk]; exact List.mem_map_of_mem ht)) (by rw [hk]; exact hn)
 have hb : Bdd (linT (kv.map swapT)) := h.congr fun k => (linT_swap kv k).symm
 have hz : (kv.map swapT).filter nzT = [] := by
  rcases hK with h1 | h1
  ·exact h1
  ·exfalso
   rcases verdict_range ((kv.map swapT).filter nzT) K with h2 | h2 | h2
   ·exact (verdict_grows h2).not_bdd (hb.congr fun k => (linT_nz _ k).symm)
   ·exact (verdict_falls h2).not_bdd (hb.neg.congr fun k => by rw [linT_nz _ k])
   ·exact h1 h2
 rcases getS_mem kv r with h1 | h1
 ·exact h1
 ·rcases Decidable.em (getS kv r = 0) with h3 | h3
  ·exact h3
  ·have h4 : (getS kv r, r) ∈ (kv.map swapT).filter nzT := List.mem_filter.2 ⟨List.mem_map.2 ⟨_, h1, rfl⟩, by simp [nzT, h3]⟩
   rw [hz] at h4; cases h4
def scaleK (kv : List (Int × Int)) (m : Int) : List (Int × Int) := kv.map fun p => (p.1, p.2 * m)
theorem scaleK_keys (kv : List (Int × Int)) (m : Int) : (scaleK kv m).map (·.1) = kv.map (·.1) := by unfold scaleK; rw [List.map_map]; rfl
theorem getS_scale : ∀ (kv : List (Int × Int)) (m r : Int), getS (scaleK kv m) r = getS kv r * m
 | [], m, r => by show (0 : Int) = 0 * m; omega
 | (a, x) :: t, m, r => by
  show (if r = a then x * m else getS (scaleK t m) r) = (if r = a then x else getS t r) * m
  rw [getS_scale t m r]
  split <;> rfl
theorem linK_scale : ∀ (kv : List (Int × Int)) (m : Int) (k : Nat), linK (scaleK kv m) k = m * linK kv k
 | [], m, k => by show (0 : Int) = m * 0; omega
 | p :: t, m, k => by
  show linK ((p.1, p.2 * m) :: scaleK t m) k = _
  rw [linK_cons, linK_cons, linK_scale t m k, Int.mul_add, Int.mul_comm p.2 m, Int.mul_assoc]
theorem Near.bdd {f g : Nat → Int} (h : Near f g) : Bdd fun k => f k - g k := h
theorem coef_near {kv : List (Int × Int)} {ts : List (Int × Int)} {m den : Int} (hn : (kv.map (·.1)).Nodup) (hf : ∀ r ∈ kv.map (·.1), RootF r) (ht : ∀ t ∈ ts, RootF t.2) (h : Near (fun k => m * linK kv k) (fun k => den * linT ts k)) (r : Int) : getS kv r * m = cf ts r * den := by
 have hk := addB_keys (P := RootF) ts (scaleK kv m) (-den) (by rw [scaleK_keys]; exact hn) (by rw [scaleK_keys]; exact hf) ht
 have hz := zero_free hk.1 hk.2 (Bdd.congr (fun k => by (try dsimp only); rw [linK_addB, linK_scale, Int.neg_mul]; omega) h.bdd) r
 rw [getS_addB, getS_scale, Int.mul_neg] at hz
 omega
theorem gcdL_dvd_of {n : Nat} {l : List Int} (h : ∀ x ∈ l, n ∣ x.natAbs) : n ∣ gcdL l := by
 have key : ∀ (l : List Int) (g : Nat), n ∣ g → (∀ x ∈ l, n ∣ x.natAbs) → n ∣ l.foldl (fun g x => Nat.gcd g x.natAbs) g := fun l => by
  induction l with
  | nil => intro g hg _; exact hg
  | cons x l ih => intro g hg h; exact ih _ (Nat.dvd_gcd hg (h x (by simp))) (fun y hy => h y (List.mem_cons_of_mem _ hy))
 exact key l 0 (Nat.dvd_zero n) h
theorem gcdL_scaleI (m : Int) (l : List Int) : gcdL (l.map fun x => x * m) = gcdL l * m.natAbs := by
 have key : ∀ (l : List Int) (g : Nat), (l.map fun x => x * m).foldl (fun g x => Nat.gcd g x.natAbs) (g * m.natAbs) = l.foldl (fun g x => Nat.gcd g x.natAbs) g * m.natAbs := fun l => by
  induction l with
  | nil => intro g; rfl
  | cons x l ih =>
   intro g
   rw [List.map_cons, List.foldl_cons, List.foldl_cons, Int.natAbs_mul, Nat.gcd_mul_right]
   exact ih _
 have := key l 0
 rw [Nat.zero_mul] at this
 exact this
theorem chkT_le : ∀ {ts : List (Int × Int)} {last : Int}, chkT last ts = true → (ts.map (·.2)).Pairwise (fun a b => a ≤ b)
 | [], _, _ => by simp
 | t :: ts, last, h => by
  rw [List.map_cons, List.pairwise_cons]
  refine ⟨fun r hr => ?_, chkT_le (chkT_tail h)⟩
  obtain ⟨u, hu, rfl⟩ := List.mem_map.1 hr
  have := (chkT_gt ts t.2 (chkT_tail h) u hu).1
  omega
theorem getS_mapT : ∀ (ts : List (Int × Int)) (G r : Int), (ts.map (·.2)).Nodup → getS (ts.map fun t => (t.2, t.1 * G)) r = cf ts r * G
 | [], G, r, _ => by show (0 : Int) = 0 * G; omega
 | t :: ts, G, r, h => by
  rw [List.map_cons, List.nodup_cons] at h
  rw [List.map_cons, cf_cons, Int.add_mul]
  show (if r = t.2 then t.1 * G else getS (ts.map fun t => (t.2, t.1 * G)) r) = _
  rw [getS_mapT ts G r h.2]
  split
  ·rename_i e
   rw [cf_none ts r (fun u hu e' => h.1 (by rw [← e, ← e']; exact List.mem_map_of_mem hu))]; omega
  ·omega
theorem numOK_small {d : Int} {ts : List (Int × Int)} (h : numOK d ts = true) : ts.any tooBig = false := by
 rw [List.any_eq_false]
 intro t ht
 obtain ⟨a1, a2, a3, a4⟩ := ((numOK_parts h).2.2.2 t ht).1
 have e : inB t.1 (-100000) 100000 = true := by simp [inB]; omega
 unfold tooBig
 rw [e]
 simp; omega
theorem over_scaled {d G : Int} {ts : List (Int × Int)} (ho : numOK d ts = true) (hG : G ≠ 0) : overS (ts.map fun t => (t.2, t.1 * G)) (d * G) = (d, ts, 0) := by
 obtain ⟨p1, p2, p3, p4⟩ := numOK_parts ho
 obtain ⟨c1, c2⟩ := numOK_chk ho
 have hnd := (numOK_roots ho).2
 have hnz : (ts.map fun t => (t.2, t.1 * G)).filter nz = ts.map fun t => (t.2, t.1 * G) := by
  rw [List.filter_eq_self]
  intro p hp
  obtain ⟨t, ht, rfl⟩ := List.mem_map.1 hp
  have := (p4 t ht).1.2.2.1
  simp [nz, Int.mul_ne_zero this hG]
 have hg : overG (ts.map fun t => (t.2, t.1 * G)) (d * G) = G := by
  have e1 : d * G :: (ts.map fun t => (t.2, t.1 * G)).map (·.2) = (d :: ts.map (·.1)).map fun x => x * G := by
   rw [List.map_cons, List.map_map, List.map_map]; rfl
  rw [overG_eq, e1, gcdL_scaleI, c2, Nat.one_mul]
  rcases Int.lt_or_le G 0 with h | h
  ·rw [if_pos (Int.mul_neg_of_pos_of_neg (by omega) h)]; omega
  ·rw [if_neg (by have := Int.mul_nonneg (show 0 ≤ d by omega) h; omega)]; omega
 have hkeys : (ts.map fun t => (t.2, t.1 * G)).map (·.1) = ts.map (·.2) := by rw [List.map_map]; rfl
 have hs : sortI (ts.map (·.2)) = ts.map (·.2) := sorted_unique _ _ (sortI_perm _) (sortI_sorted _) (chkT_le c1)
 have hT : overT (ts.map fun t => (t.2, t.1 * G)) (d * G) = ts := by
  unfold overT termsG
  rw [hg, hnz, hkeys, hs, List.map_map]
  have e2 : ts.map ((fun r => ((getS (ts.map fun t => (t.2, t.1 * G)) r).tdiv G, r)) ∘ fun t : Int × Int => t.2) = ts.map id := by
   refine List.map_congr_left (fun t ht => ?_)
   have e3 := getS_of_mem (kv := ts.map fun t => (t.2, t.1 * G)) (by rw [hkeys]; exact hnd) (t.2, t.1 * G) (List.mem_map.2 ⟨t, ht, rfl⟩)
   show ((getS (ts.map fun t => (t.2, t.1 * G)) t.2).tdiv G, t.2) = t
   dsimp only at e3
   rw [e3, Int.mul_tdiv_cancel _ hG]
  rw [e2, List.map_id]
 unfold overS
 rw [hT, hg, Int.mul_tdiv_cancel _ hG, if_neg (by omega), numOK_small ho]
 rw [if_neg]
 simp; omega
theorem overS_eq {kv : List (Int × Int)} {den d : Int} {ts : List (Int × Int)} (hn : (kv.map (·.1)).Nodup) (hd : den ≠ 0) (ho : numOK d ts = true) (h : ∀ r, getS kv r * d = cf ts r * den) : overS kv den = (d, ts, 0) := by
 obtain ⟨p1, p2, p3, p4⟩ := numOK_parts ho
 obtain ⟨c1, c2⟩ := numOK_chk ho
 have hnd := (numOK_roots ho).2
 have hdv : d ∣ den := by
  have g1 := gcdL_scaleI den (d :: ts.map (·.1))
  rw [c2, Nat.one_mul] at g1
  have g2 : d.natAbs ∣ gcdL ((d :: ts.map (·.1)).map fun x => x * den) := gcdL_dvd_of (fun x hx => by
   rw [List.map_cons, List.mem_cons] at hx
   rcases hx with rfl | hx
   ·exact Int.natAbs_dvd_natAbs.2 (Int.dvd_mul_right d den)
   ·rw [List.map_map] at hx
    obtain ⟨t, ht, rfl⟩ := List.mem_map.1 hx
    have g3 := h t.2
    have g4 : cf ts t.2 = t.1 := by
     have g5 := getS_mapT ts 1 t.2 hnd
     have g6 := getS_of_mem (kv := ts.map fun t => (t.2, t.1 * 1)) (by rw [List.map_map]; exact hnd) (t.2, t.1 * 1) (List.mem_map.2 ⟨t, ht, rfl⟩)
     dsimp only at g6
     rw [g6] at g5
     omega
    rw [g4] at g3
    show d.natAbs ∣ (t.1 * den).natAbs
    rw [← g3]
    exact Int.natAbs_dvd_natAbs.2 (Int.dvd_mul_left _ d))
  rw [g1] at g2
  exact Int.natAbs_dvd_natAbs.1 g2
 obtain ⟨G, rfl⟩ := hdv
 have hG : G ≠ 0 := fun e => hd (by rw [e, Int.mul_zero])
 rw [← over_scaled ho hG]
 refine overS_ext hn (by rw [List.map_map]; exact hnd) (fun r => ?_) _
 rw [getS_mapT ts G r hnd]
 have := h r
 rw [Int.mul_comm d G, ← Int.mul_assoc] at this
 exact Int.eq_of_mul_eq_mul_right (show d ≠ 0 by omega) this
theorem overS_near {kv : List (Int × Int)} {den d : Int} {ts : List (Int × Int)} (hn : (kv.map (·.1)).Nodup) (hf : ∀ r ∈ kv.map (·.1), RootF r) (hd : den ≠ 0) (ho : numOK d ts = true) (h : Near (fun k => d * linK kv k) (fun k => den * linT ts k)) : overS kv den = (d, ts, 0) :=
 overS_eq hn hd ho (coef_near hn hf (fun t ht => ((numOK_roots ho).1 t ht).free) h)
theorem overS_code (kv : List (Int × Int)) (den : Int) : (overS kv den).2.2 = 0 ∨ overS kv den = (0, [], 10) ∨ (overS kv den = (0, [], 8) ∧ 4 < kv.length) := by
 unfold overS
 split
 ·rename_i h
  refine .inr (.inr ⟨rfl, ?_⟩)
  have : (overT kv den).length ≤ kv.length := by
   unfold overT termsG
   rw [List.length_map, (sortI_perm _).length_eq, List.length_map]
   exact List.length_filter_le _ _
  omega
 ·split
  ·exact .inr (.inl rfl)
  ·exact .inl rfl
theorem overS_neg {kv : List (Int × Int)} {den : Int} (h : den < 0) : overS kv den = overS (scaleK kv (-1)) (-den) := by
 have hG : overG (scaleK kv (-1)) (-den) = -overG kv den := by
  have e1 : -den :: (scaleK kv (-1)).map (·.2) = (den :: kv.map (·.2)).map fun x => x * -1 := by
   unfold scaleK
   rw [List.map_cons, List.map_map, List.map_map, Int.mul_neg, Int.mul_one]; rfl
  rw [overG_eq, overG_eq, e1, gcdL_scaleI, if_neg (by omega), if_pos h]
  simp
 have hnz : (scaleK kv (-1)).filter nz = scaleK (kv.filter nz) (-1) := by
  unfold scaleK
  rw [List.filter_map]
  congr 1
  refine List.filter_congr (fun p _ => ?_)
  show decide (p.2 * -1 ≠ 0) = decide (p.2 ≠ 0)
  rw [decide_eq_decide]
  omega
 have hT : overT (scaleK kv (-1)) (-den) = overT kv den := by
  unfold overT termsG
  rw [hG, hnz, scaleK_keys]
  refine List.map_congr_left (fun r _ => ?_)
  rw [getS_scale, Int.mul_neg, Int.mul_one, Int.tdiv_neg, Int.neg_tdiv, Int.neg_neg]
 unfold overS
 rw [hT, hG, Int.tdiv_neg, Int.neg_tdiv, Int.neg_neg]
theorem overS_valid {kv : List (Int × Int)} {den d : Int} {ts : List (Int × Int)} (hn : (kv.map (·.1)).Nodup) (hf : ∀ r ∈ kv.map (·.1), RootF r) (hd : den ≠ 0) (h : overS kv den = (d, ts, 0)) : numOK d ts = true := by
 have key : ∀ {kv : List (Int × Int)} {den : Int}, (kv.map (·.1)).Nodup → (∀ r ∈ kv.map (·.1), RootF r) → 0 < den → overS kv den = (d, ts, 0) → numOK d ts = true := by
  intro kv den hn hf hd h
  have e1 : overS (kv.filter nz) den = overS kv den := overS_ext (filter_keys _ hn) hn (fun r => by
   rcases getS_mem kv r with h1 | h1
   ·rcases getS_mem (kv.filter nz) r with h2 | h2
    ·rw [h1, h2]
    ·exact (getS_of_mem hn _ (List.mem_filter.1 h2).1).symm
   ·by_cases h0 : getS kv r = 0
    ·rcases getS_mem (kv.filter nz) r with h2 | h2
     ·rw [h0, h2]
     ·exact (getS_of_mem hn _ (List.mem_filter.1 h2).1).symm
    ·exact getS_of_mem (filter_keys _ hn) (r, getS kv r) (List.mem_filter.2 ⟨h1, by simp [nz, h0]⟩)) den
  rw [← e1] at h
  refine overS_numOK (filter_keys _ hn) (fun r hr => ?_) hd h
  have hr' : r ∈ kv.map (·.1) := List.Sublist.subset (List.filter_sublist.map _) hr
  refine ⟨(hf r hr').1, ?_, (hf r hr').2⟩
  have hff : (kv.filter nz).filter nz = kv.filter nz := by rw [List.filter_filter]; simp
  have hm : ((getS (kv.filter nz) r).tdiv (overG (kv.filter nz) den), r) ∈ overT (kv.filter nz) den := by
   unfold overT termsG
   rw [hff]
   exact List.mem_map.2 ⟨r, (sortI_perm _).mem_iff.2 hr, rfl⟩
  unfold overS at h
  split at h
  ·injection h with _ h; injection h with _ h; cases h
  ·split at h
   ·injection h with _ h; injection h with _ h; cases h
   ·rename_i hb
    simp only [Bool.or_eq_true, decide_eq_true_eq, List.any_eq_true, not_or, not_exists, not_and] at hb
    have := hb.2 _ hm
    unfold tooBig at this
    simp only [Bool.or_eq_true, decide_eq_true_eq, not_or] at this
    omega
 rcases Int.lt_or_le 0 den with h0 | h0
 ·exact key hn hf h0 h
 ·rw [overS_neg (show den < 0 by omega)] at h
  exact key (by rw [scaleK_keys]; exact hn) (by rw [scaleK_keys]; exact hf) (by omega) h
end Go.Proofs.YtfmnnceacdpbdaaGreatDoor
namespace Go.Proofs.YtfmnnceacdpbdaaGreatDoor
theorem Near.unsmul {f g : Nat → Int} {c : Int} (hc : c ≠ 0) (h : Near (fun k => c * f k) (fun k => c * g k)) : Near f g := by
 obtain ⟨C, hC0, h⟩ := Bdd.nonneg h
 refine ⟨C, fun k => ?_⟩
 have h1 := h k
 dsimp only at h1 ⊢
 rw [← Int.mul_sub] at h1
 generalize f k - g k = x at *
 have h2 : (c * x).natAbs ≤ C.natAbs := by omega
 rw [Int.natAbs_mul] at h2
 have h3 : 1 * x.natAbs ≤ c.natAbs * x.natAbs := Nat.mul_le_mul_right _ (by omega)
 omega
theorem MulN.assoc {f g k h m p : Nat → Int} (H1 : MulN f g h) (H2 : MulN g k m) (H3 : MulN f m p) (of : OB f) (ok : OB k) : MulN h k p := by
 obtain ⟨C, H1⟩ := H1; obtain ⟨D, H2⟩ := H2; obtain ⟨E, H3⟩ := H3; obtain ⟨F, of⟩ := of; obtain ⟨K, ok⟩ := ok
 refine ⟨E + F * D + C * K, fun n => ?_⟩
 have a1 := mul_abs (of n) (H2 n)
 have a2 := mul_abs (H1 n) (ok n)
 have a3 := mul_abs (a := (bits n : Int)) (A := bits n) ⟨by have := bitsI_pos n; omega, Int.le_refl _⟩ (H3 n)
 have key : bits n * (h n * k n - bits n * p n) = bits n * (f n * m n - bits n * p n) + f n * (g n * k n - bits n * m n) - (f n * g n - bits n * h n) * k n := by grind
 have e1 : F * bits n * (D * bits n) = F * D * bits n * bits n := by grind
 have e2 : C * bits n * (K * bits n) = C * K * bits n * bits n := by grind
 have e3 : (bits n : Int) * (E * bits n) = E * bits n * bits n := by grind
 have e4 : (E + F * D + C * K) * bits n * bits n = E * bits n * bits n + F * D * bits n * bits n + C * K * bits n * bits n := by grind
 rw [e1] at a1
 rw [e2] at a2
 rw [e3] at a3
 constructor
 ·have := le_of_mul_bits (a := -(h n * k n - bits n * p n)) (C := (E + F * D + C * K) * bits n) (k := n) (by rw [Int.mul_neg, e4]; omega)
  omega
 ·exact le_of_mul_bits (k := n) (by rw [e4]; omega)
theorem MulN.cst (c : Int) (f : Nat → Int) : MulN f (fun k => c * bits k) (fun k => c * f k) := ⟨0, fun k => by
 have h : f k * (c * bits k) - bits k * (c * f k) = 0 := by grind
 dsimp only
 omega⟩
theorem rt_self {r : Int} (h : 1 ≤ r) : MulN (rtA r) (rtA r) (fun k => r * bits k) := by
 obtain ⟨n, rfl⟩ := Int.eq_ofNat_of_zero_le (show 0 ≤ r by omega)
 exact (rt_mul (r := n) (q := n) (by omega) n 1 1 (Nat.one_mul n).symm (Nat.one_mul n).symm (by omega)).congr (fun _ => rfl) (fun _ => rfl) (fun k => by
  have : (((1 * 1 : Nat) : Int)) = 1 := rfl
  rw [this, rtA_one])
theorem turn_mul {yd : Int} {yt : List (Int × Int)} (h1 : yt.length ≠ 0) (h2 : ¬ 2 < yt.length) (hr : ∀ u ∈ yt, 1 ≤ u.2) : MulN (linT (turnL yd yt)) (linT yt) (fun k => yd * normL yt * bits k) := by
 match yt, h1, h2, hr with
 | [a], _, _, hr =>
  have e1 : turnL yd [a] = [(a.1 * (1 * yd), a.2)] := rfl
  have e2 : normL [a] = 1 * a.1 * a.1 * a.2 + 0 := rfl
  refine (((rt_self (hr a (by simp))).smul a.1).comm.smul (a.1 * yd)).comm.congr (fun k => ?_) (fun k => ?_) (fun k => ?_)
  ·rw [e1, linT_cons, linT_nil]; (try dsimp only); grind
  ·rw [linT_cons, linT_nil]; (try dsimp only); grind
  ·(try dsimp only); rw [e2]; grind
 | [a, b], _, _, hr =>
  have e1 : turnL yd [a, b] = [(a.1 * (1 * yd), a.2), (b.1 * (-1 * yd), b.2)] := rfl
  have e2 : normL [a, b] = 1 * a.1 * a.1 * a.2 + (-1 * b.1 * b.1 * b.2 + 0) := rfl
  obtain ⟨C, hC⟩ := rt_self (hr a (by simp)); obtain ⟨D, hD⟩ := rt_self (hr b (by simp))
  refine ⟨((yd * a.1 * a.1).natAbs : Int) * C + ((yd * b.1 * b.1).natAbs : Int) * D, fun k => ?_⟩
  have a1 := mul_abs (a := yd * a.1 * a.1) (A := (yd * a.1 * a.1).natAbs) (by omega) (hC k)
  have a2 := mul_abs (a := yd * b.1 * b.1) (A := (yd * b.1 * b.1).natAbs) (by omega) (hD k)
  dsimp only at a1 a2 ⊢
  rw [e1, e2, linT_cons, linT_cons, linT_nil, linT_cons, linT_cons, linT_nil]
  dsimp only
  have e3 : (a.1 * (1 * yd) * rtA a.2 k + (b.1 * (-1 * yd) * rtA b.2 k + 0)) * (a.1 * rtA a.2 k + (b.1 * rtA b.2 k + 0)) - bits k * (yd * (1 * a.1 * a.1 * a.2 + (-1 * b.1 * b.1 * b.2 + 0)) * bits k) =
   yd * a.1 * a.1 * (rtA a.2 k * rtA a.2 k - bits k * (a.2 * bits k)) - yd * b.1 * b.1 * (rtA b.2 k * rtA b.2 k - bits k * (b.2 * bits k)) := by grind
  have e4 : (((yd * a.1 * a.1).natAbs : Int) * C + ((yd * b.1 * b.1).natAbs : Int) * D) * bits k = ((yd * a.1 * a.1).natAbs : Int) * (C * bits k) + ((yd * b.1 * b.1).natAbs : Int) * (D * bits k) := by rw [Int.add_mul, Int.mul_assoc _ C, Int.mul_assoc _ D]
  rw [e3, e4]
  omega
 | _ :: _ :: _ :: _, _, h2, _ => exact absurd (by simp) h2
theorem mulK_free {t u : Int × Int} (ht : RootF t.2) (hu : RootF u.2) : RootF (mulK t u) := by
 obtain ⟨h1, f1⟩ := ht; obtain ⟨h2, f2⟩ := hu
 have e := split_mul (a := t.2.toNat) (b := u.2.toNat) (by omega) (by omega) f1 f2
 obtain ⟨_, g1, _, g2⟩ := splitN_spec (t.2.toNat * u.2.toNat) (Nat.mul_pos (by omega) (by omega))
 rw [e] at g1 g2
 dsimp only at g1 g2
 have e2 : gcdL [t.2, u.2] = Nat.gcd t.2.toNat u.2.toNat := by
  rw [gcdL_two]
  congr 1 <;> omega
 unfold mulK
 rw [e2]
 exact ⟨by omega, by rw [Int.toNat_natCast]; exact g1⟩
theorem addS_mem {kv : List (Int × Int)} {r c q : Int} (h : q ∈ (addS kv r c).map (·.1)) : q ∈ kv.map (·.1) ∨ q = r := by
 rw [addS_keys] at h
 split at h
 ·exact .inl h
 ·rcases List.mem_append.1 h with h | h
  ·exact .inl h
  ·exact .inr (by simpa using h)
theorem prodR_keys {P : Int → Prop} : ∀ (b kv : List (Int × Int)) (t : Int × Int), (∀ r ∈ kv.map (·.1), P r) → (∀ u ∈ b, P (mulK t u)) → ∀ r ∈ (prodR kv t b).map (·.1), P r
 | [], _, _, h, _ => h
 | u :: b, kv, t, h, hb => prodR_keys b _ t (fun r hr => by
   rcases addS_mem hr with h1 | h1
   ·exact h r h1
   ·rw [h1]; exact hb u (by simp)) (fun v hv => hb v (List.mem_cons_of_mem _ hv))
theorem prodS_keys {P : Int → Prop} : ∀ (a b kv : List (Int × Int)), (∀ r ∈ kv.map (·.1), P r) → (∀ t ∈ a, ∀ u ∈ b, P (mulK t u)) → ∀ r ∈ (prodS kv a b).map (·.1), P r
 | [], _, _, h, _ => h
 | t :: a, b, kv, h, hb => prodS_keys a b _ (prodR_keys b kv t h (hb t (by simp))) (fun v hv => hb v (List.mem_cons_of_mem _ hv))
theorem prod_free {a b : List (Int × Int)} (ha : ∀ t ∈ a, RootF t.2) (hb : ∀ t ∈ b, RootF t.2) : ∀ r ∈ (prodS [] a b).map (·.1), RootF r :=
 prodS_keys a b [] (by simp) (fun t ht u hu => mulK_free (ha t ht) (hb u hu))
theorem numOK_free {d : Int} {ts : List (Int × Int)} (h : numOK d ts = true) : ∀ t ∈ ts, RootF t.2 := fun t ht => ((numOK_roots h).1 t ht).free
theorem turn_free {yd : Int} {yt : List (Int × Int)} (h : ∀ t ∈ yt, RootF t.2) : ∀ t ∈ turnL yd yt, RootF t.2 := fun u hu => by
 obtain ⟨t, ht, i, rfl⟩ := mem_turnL hu
 exact h t ht
theorem numOK_d {d : Int} {ts : List (Int × Int)} (h : numOK d ts = true) : 0 < d := by have := (numOK_parts h).1; omega
theorem plus_free {xd yd m : Int} {xt yt : List (Int × Int)} (hx : numOK xd xt = true) (hy : numOK yd yt = true) : ((addAll (addAll [] xt yd) yt m).map (·.1)).Nodup ∧ ∀ r ∈ (addAll (addAll [] xt yd) yt m).map (·.1), RootF r :=
 ⟨addAll_nodup' yt _ _ (addAll_nodup' xt [] _ (by simp)), fun r hr => (addAll_keys yt _ _ (addAll_keys xt [] _ (by simp) (numOK_le hx)) (numOK_le hy) r hr).free⟩
theorem plus_lin (xd yd m : Int) (xt yt : List (Int × Int)) : Near (linK (addAll (addAll [] xt yd) yt (m * xd))) (fun k => yd * linT xt k + m * xd * linT yt k) :=
 (linK_addAll yt _ _).trans (((linK_addAll xt [] yd).add (Near.refl fun k => m * xd * linT yt k)).trans (Near.of_eq fun k => by (try dsimp only); rw [linK_nil]; omega))
theorem IsN.self {d : Int} {ts : List (Int × Int)} (h : numOK d ts = true) : IsN d (linT ts) d ts := ⟨h, 1, by omega, by omega, Near.of_eq fun k => by omega⟩
theorem IsN.pos {D d : Int} {X : Nat → Int} {ts : List (Int × Int)} (h : IsN D X d ts) : 0 < D := by
 obtain ⟨h1, G, hG, rfl, _⟩ := h
 exact Int.mul_pos (numOK_d h1) hG
theorem IsN.near {D d : Int} {X Y : Nat → Int} {ts : List (Int × Int)} (h : IsN D X d ts) (hn : Near X Y) : IsN D Y d ts := by
 obtain ⟨h1, G, hG, h2, h3⟩ := h
 exact ⟨h1, G, hG, h2, h3.trans hn⟩
theorem IsN.ob {D d : Int} {X : Nat → Int} {ts : List (Int × Int)} (h : IsN D X d ts) : OB X := by
 obtain ⟨_, G, _, _, h3⟩ := h
 exact OB.near (OB.smul G (linT_OB ts)) h3
theorem IsN.val {D d : Int} {X : Nat → Int} {ts : List (Int × Int)} (h : IsN D X d ts) : Near (fun k => D * linT ts k) (fun k => d * X k) := by
 obtain ⟨_, G, _, rfl, h3⟩ := h
 exact (Near.of_eq fun k => by (try dsimp only); grind).trans (h3.smul d)
theorem IsN.of_val {D d : Int} {X : Nat → Int} {ts : List (Int × Int)} (ho : numOK d ts = true) {G : Int} (hG : 0 < G) (hD : D = d * G) (h : Near (fun k => D * linT ts k) (fun k => d * X k)) : IsN D X d ts := by
 refine ⟨ho, G, hG, hD, ?_⟩
 subst hD
 exact Near.unsmul (c := d) (by have := numOK_d ho; omega) ((Near.of_eq fun k => by (try dsimp only); grind).trans h)
theorem IsN.same {D D' d d' : Int} {X X' : Nat → Int} {ts ts' : List (Int × Int)} (h : IsN D X d ts) (h' : IsN D' X' d' ts') (hn : Near (fun k => D' * X k) (fun k => D * X' k)) : d = d' ∧ ts = ts' := by
 have hD := h.pos; have hD' := h'.pos
 refine same_near h.1 h'.1 (Near.unsmul (c := D * D') (Int.mul_ne_zero (by omega) (by omega)) ?_)
 refine Near.trans (Near.of_eq fun k => ?_) ((h.val.smul (D' * d')).trans (Near.trans (Near.of_eq fun k => ?_) ((hn.smul (d * d')).trans (Near.trans (Near.of_eq fun k => ?_) ((h'.val.symm.smul (D * d)).trans (Near.of_eq fun k => ?_)))))) <;> (try dsimp only) <;> grind
theorem plus_is {D1 D2 xd yd m d : Int} {X Y : Nat → Int} {xt yt ts : List (Int × Int)} (hx : IsN D1 X xd xt) (hy : IsN D2 Y yd yt) (h : plusS xd xt yd yt m = (d, ts, 0)) : IsN (D1 * D2) (fun k => D2 * X k + m * D1 * Y k) d ts := by
 have hv := plusS_numOK h
 obtain ⟨_, _, G, hG, hE, hN⟩ := plusS_lin h
 obtain ⟨_, G1, hG1, rfl, h1⟩ := hx
 obtain ⟨_, G2, hG2, rfl, h2⟩ := hy
 refine ⟨hv, G * (G1 * G2), Int.mul_pos hG (Int.mul_pos hG1 hG2), by
  have e : d * (G * (G1 * G2)) = d * G * (G1 * G2) := by grind
  rw [e, ← hE]; grind, ?_⟩
 refine Near.trans (Near.of_eq fun k => ?_) ((hN.smul (G1 * G2)).trans (Near.trans (Near.of_eq fun k => ?_) ((h1.smul (yd * G2)).add (h2.smul (m * (xd * G1)))))) <;> (try dsimp only) <;> grind
theorem plus_near {xd yd m d : Int} {xt yt ts : List (Int × Int)} (hx : numOK xd xt = true) (hy : numOK yd yt = true) (ho : numOK d ts = true) (h : Near (fun k => d * (yd * linT xt k + m * xd * linT yt k)) (fun k => xd * yd * linT ts k)) : plusS xd xt yd yt m = (d, ts, 0) := by
 obtain ⟨f1, f2⟩ := plus_free (m := m * xd) hx hy
 unfold plusS
 rw [hx, hy, if_pos (by rfl)]
 exact overS_near f1 f2 (Int.mul_ne_zero (by have := numOK_d hx; omega) (by have := numOK_d hy; omega)) ho (((plus_lin xd yd m xt yt).smul d).trans h)
theorem getS_addAll : ∀ (l kv : List (Int × Int)) (m r : Int), getS (addAll kv l m) r = getS kv r + getS (addAll [] l m) r
 | [], kv, m, r => by show getS kv r = getS kv r + 0; omega
 | t :: l, kv, m, r => by
  show getS (addAll (addRoot kv (t.1 * m) t.2) l m) r = getS kv r + getS (addAll (addRoot [] (t.1 * m) t.2) l m) r
  rw [getS_addAll l (addRoot kv (t.1 * m) t.2), getS_addAll l (addRoot [] (t.1 * m) t.2), getS_addRoot, getS_addRoot]
  show _ = _ + (0 + _ + _)
  omega
theorem plus_comm (xd yd : Int) (xt yt : List (Int × Int)) : plusS xd xt yd yt 1 = plusS yd yt xd xt 1 := by
 unfold plusS
 rw [Bool.and_comm]
 split
 ·rw [Int.mul_comm yd xd]
  refine overS_ext (addAll_nodup' yt _ _ (addAll_nodup' xt [] _ (by simp))) (addAll_nodup' xt _ _ (addAll_nodup' yt [] _ (by simp))) (fun r => ?_) _
  simp only [Int.one_mul]
  rw [getS_addAll yt (addAll [] xt yd) xd r, getS_addAll xt (addAll [] yt xd) yd r]; omega
 ·rfl
theorem linT_tab (a b : List (Int × Int)) (k : Nat) : linK (prodS [] a b) k = tabK a b k := by rw [linK_prodS, linK_nil]; omega
theorem prod_mul {a b : List (Int × Int)} (ha : ∀ t ∈ a, RootF t.2) (hb : ∀ t ∈ b, RootF t.2) : MulN (linT a) (linT b) (linK (prodS [] a b)) :=
 (mul_tab (fun u hu => (hb u hu).1) a (fun u hu => (ha u hu).1)).congr (fun _ => rfl) (fun _ => rfl) (fun k => (linT_tab a b k).symm)
theorem MulN.near_l {f g h f' : Nat → Int} (H : MulN f g h) (hg : OB g) (hn : Near f f') : MulN f' g h := (H.comm.near hg hn).comm
theorem MulN.smul_l {f g h : Nat → Int} (c : Int) (H : MulN f g h) : MulN (fun k => c * f k) g (fun k => c * h k) := (H.comm.smul c).comm
theorem mul_is {D1 D2 xd yd d : Int} {X Y P : Nat → Int} {xt yt ts : List (Int × Int)} (hx : IsN D1 X xd xt) (hy : IsN D2 Y yd yt) (hp : MulN X Y P) (h : mulS xd xt yd yt = (d, ts, 0)) : IsN (D1 * D2) P d ts := by
 obtain ⟨k1, k2, G, hG, hE, hN⟩ := mulS_lin h
 have hv : numOK d ts = true := by
  unfold mulS at h
  rw [k1, k2, if_pos (by rfl)] at h
  exact overS_valid (prodS_nodup xt yt [] (by simp)) (prod_free (numOK_free k1) (numOK_free k2)) (Int.mul_ne_zero (by have := numOK_d k1; omega) (by have := numOK_d k2; omega)) h
 have oX := hx.ob; have oY := hy.ob
 obtain ⟨_, G1, hG1, rfl, h1⟩ := hx
 obtain ⟨_, G2, hG2, rfl, h2⟩ := hy
 refine ⟨hv, G * (G1 * G2), Int.mul_pos hG (Int.mul_pos hG1 hG2), by
  have e : d * (G * (G1 * G2)) = d * G * (G1 * G2) := by grind
  rw [e, ← hE]; grind, ?_⟩
 have m1 := ((hN.smul G2).near (linT_OB xt) h2).smul_l G1
 have m2 := m1.near_l oY h1
 exact (Near.of_eq fun k => by (try dsimp only); grind).trans (m2.unique hp)
theorem mul_near {xd yd d : Int} {xt yt ts : List (Int × Int)} {P : Nat → Int} (hx : numOK xd xt = true) (hy : numOK yd yt = true) (ho : numOK d ts = true) (hp : MulN (linT xt) (linT yt) P) (h : Near (fun k => d * P k) (fun k => xd * yd * linT ts k)) : mulS xd xt yd yt = (d, ts, 0) := by
 unfold mulS
 rw [hx, hy, if_pos (by rfl)]
 exact overS_near (prodS_nodup xt yt [] (by simp)) (prod_free (numOK_free hx) (numOK_free hy)) (Int.mul_ne_zero (by have := numOK_d hx; omega) (by have := numOK_d hy; omega)) ho ((((prod_mul (numOK_free hx) (numOK_free hy)).unique hp).smul d).trans h)
def mulAt (t u : Int × Int) (r : Int) : Int := if r = mulK t u then mulC t u else 0
theorem mulAt_comm (t u : Int × Int) (r : Int) : mulAt t u r = mulAt u t r := by
 unfold mulAt mulK mulC
 rw [gcdL_two, gcdL_two, Nat.gcd_comm u.2.natAbs, Nat.mul_comm (u.2.toNat / _), Int.mul_comm u.1]
theorem getS_prodR : ∀ (b kv : List (Int × Int)) (t : Int × Int) (r : Int), getS (prodR kv t b) r = getS kv r + (b.map fun u => mulAt t u r).sum
 | [], kv, t, r => by simp [prodR]
 | u :: b, kv, t, r => by
  show getS (prodR (addS kv (mulK t u) (mulC t u)) t b) r = _
  rw [getS_prodR b, getS_addS, List.map_cons, List.sum_cons]
  show _ + (if r = mulK t u then mulC t u else 0) + _ = _ + ((if r = mulK t u then mulC t u else 0) + _)
  omega
theorem getS_prodS : ∀ (a b kv : List (Int × Int)) (r : Int), getS (prodS kv a b) r = getS kv r + (a.map fun t => (b.map fun u => mulAt t u r).sum).sum
 | [], b, kv, r => by simp [prodS]
 | t :: a, b, kv, r => by
  show getS (prodS (prodR kv t b) a b) r = _
  rw [getS_prodS a, getS_prodR, List.map_cons, List.sum_cons]
  omega
theorem sum_addI {α : Type} (f g : α → Int) : ∀ l : List α, (l.map fun x => f x + g x).sum = (l.map f).sum + (l.map g).sum
 | [] => rfl
 | x :: l => by simp only [List.map_cons, List.sum_cons]; rw [sum_addI f g l]; omega
theorem sum_zeroI {α : Type} : ∀ l : List α, (l.map fun _ => (0 : Int)).sum = 0
 | [] => rfl
 | x :: l => by simp only [List.map_cons, List.sum_cons]; rw [sum_zeroI l]; omega
theorem sum_swapI {α β : Type} (f : α → β → Int) (b : List β) : ∀ a : List α, (a.map fun t => (b.map fun u => f t u).sum).sum = (b.map fun u => (a.map fun t => f t u).sum).sum
 | [] => by simp only [List.map_nil, List.sum_nil]; exact (sum_zeroI b).symm
 | t :: a => by simp only [List.map_cons, List.sum_cons]; rw [sum_swapI f b a, sum_addI]
theorem mul_comm_ (xd yd : Int) (xt yt : List (Int × Int)) : mulS xd xt yd yt = mulS yd yt xd xt := by
 unfold mulS
 rw [Bool.and_comm]
 split
 ·rw [Int.mul_comm yd xd]
  refine overS_ext (prodS_nodup xt yt [] (by simp)) (prodS_nodup yt xt [] (by simp)) (fun r => ?_) _
  rw [getS_prodS, getS_prodS, sum_swapI]
  congr 2
  exact List.map_congr_left (fun u _ => by congr 1; exact List.map_congr_left (fun t _ => mulAt_comm t u r))
 ·rfl
theorem quo_parts {xd yd : Int} {xt yt : List (Int × Int)} (hx : numOK xd xt = true) (hy : numOK yd yt = true) (h1 : yt.length ≠ 0) (h2 : ¬ 2 < yt.length) : quoS xd xt yd yt = overS (prodS [] xt (turnL yd yt)) (xd * normL yt) ∧ xd * normL yt ≠ 0 ∧
  MulN (linT xt) (linT (turnL yd yt)) (linK (prodS [] xt (turnL yd yt))) ∧ MulN (linT (turnL yd yt)) (linT yt) (fun k => yd * normL yt * bits k) ∧ ((prodS [] xt (turnL yd yt)).map (·.1)).Nodup ∧ ∀ r ∈ (prodS [] xt (turnL yd yt)).map (·.1), RootF r := by
 have hT := turn_free (yd := yd) (numOK_free hy)
 refine ⟨?_, Int.mul_ne_zero (by have := numOK_d hx; omega) (norm_ok hy h1 h2).1, prod_mul (numOK_free hx) hT, turn_mul h1 h2 (numOK_ge hy), prodS_nodup _ _ [] (by simp), prod_free (numOK_free hx) hT⟩
 unfold quoS
 rw [hx, hy, if_pos (by rfl), if_neg h1, if_neg h2]
theorem quo_near {xd yd d : Int} {xt yt ts : List (Int × Int)} {P : Nat → Int} (hx : numOK xd xt = true) (hy : numOK yd yt = true) (h1 : yt.length ≠ 0) (h2 : ¬ 2 < yt.length) (ho : numOK d ts = true) (hp : MulN (linT ts) (linT yt) P)
  (h : Near (fun k => xd * P k) (fun k => d * yd * linT xt k)) : quoS xd xt yd yt = (d, ts, 0) := by
 obtain ⟨e, hd, m1, m2, f1, f2⟩ := quo_parts hx hy h1 h2
 rw [e]
 refine overS_near f1 f2 hd ho ?_
 have m3 := (MulN.assoc hp m2.comm (MulN.cst _ _) (linT_OB ts) (linT_OB _)).smul_l xd
 have m4 := m3.near_l (linT_OB _) h
 have m5 := m4.unique (m1.smul_l (d * yd))
 refine Near.unsmul (c := yd) (by have := numOK_d hy; omega) (Near.trans (Near.of_eq fun k => ?_) (m5.symm.trans (Near.of_eq fun k => ?_))) <;> (try dsimp only) <;> grind
theorem quoS_lin {xd yd d : Int} {xt yt ts : List (Int × Int)} (h : quoS xd xt yd yt = (d, ts, 0)) : numOK xd xt = true ∧ numOK yd yt = true ∧ numOK d ts = true ∧ yt.length ≠ 0 ∧ ¬ 2 < yt.length ∧ ∃ P, MulN (linT ts) (linT yt) P ∧ Near (fun k => xd * P k) (fun k => d * yd * linT xt k) := by
 have hk : (numOK xd xt && numOK yd yt) = true ∧ yt.length ≠ 0 ∧ ¬ 2 < yt.length := by
  unfold quoS at h
  split at h
  ·rename_i hk
   refine ⟨hk, ?_⟩
   split at h
   ·injection h with _ h; injection h with _ h; cases h
   ·split at h
    ·injection h with _ h; injection h with _ h; cases h
    ·rename_i a b; exact ⟨a, b⟩
  ·injection h with _ h; injection h with _ h; cases h
 obtain ⟨hk, h1, h2⟩ := hk
 rw [Bool.and_eq_true] at hk
 obtain ⟨hx, hy⟩ := hk
 obtain ⟨e, hd, m1, m2, f1, f2⟩ := quo_parts hx hy h1 h2
 rw [e] at h
 have ho := overS_valid f1 f2 hd h
 obtain ⟨G, hG, _, hE, hL⟩ := overS_ok f1 hd h
 have mp := prod_mul (numOK_free ho) (numOK_free hy)
 refine ⟨hx, hy, ho, h1, h2, _, mp, ?_⟩
 have m3 := MulN.assoc m1 m2 (MulN.cst (yd * normL yt) (linT xt)) (linT_OB xt) (linT_OB yt)
 have m4 := m3.near_l (linT_OB yt) (Near.of_eq fun k => (hL k).symm)
 have m5 := (mp.smul_l G).unique m4
 refine Near.unsmul hG (Near.trans (Near.of_eq fun k => ?_) ((m5.smul xd).trans (Near.of_eq fun k => ?_)))
 ·(try dsimp only); grind
 ·(try dsimp only)
  have : xd * (yd * normL yt * linT xt k) = yd * linT xt k * (xd * normL yt) := by grind
  rw [this, hE]; grind
end Go.Proofs.YtfmnnceacdpbdaaGreatDoor
