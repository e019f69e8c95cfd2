import Derived.Test.YtfmnnceacdpbdaaGreatDoorSurdIToSurdJ
set_option linter.unusedVariables false
set_option linter.unusedSimpArgs false
namespace Go.Proofs.YtfmnnceacdpbdaaGreatDoor
open Go.RowKit
def partsR (den : Int) (l : List (Int × Int)) : Int × List (Int × Int) × Int := overS (addAll [] l 1) den
theorem sortI_head {l l' : List Int} {r : Int} (hp : l.Perm (r :: l')) (hr : ∀ x ∈ l', r ≤ x) : sortI l = r :: sortI l' := by
 have h : (sortI l).Perm (r :: sortI l') := (sortI_perm l).trans (hp.trans ((sortI_perm l').symm.cons r))
 exact sorted_unique _ _ h (sortI_sorted l) (List.pairwise_cons.2 ⟨fun x hx => hr x ((sortI_perm l').mem_iff.1 hx), sortI_sorted l'⟩)
theorem nz_true {r c : Int} (h : c ≠ 0) : nz (r, c) = true := by simp [nz, h]
theorem nz_false (r : Int) : nz (r, 0) = false := by simp [nz]
theorem filter_some {xs ys : List (Int × Int)} {r c : Int} (h : c ≠ 0) : (xs ++ (r, c) :: ys).filter nz = xs.filter nz ++ (r, c) :: ys.filter nz := by
 rw [List.filter_append, List.filter_cons, nz_true h, if_pos rfl]
theorem filter_zero {xs ys : List (Int × Int)} {r : Int} : (xs ++ (r, 0) :: ys).filter nz = xs.filter nz ++ ys.filter nz := by
 rw [List.filter_append, List.filter_cons, nz_false]
 simp
theorem termsG_step {xs ys : List (Int × Int)} {r c : Int} (G : Int) (hn : ((xs ++ (r, c) :: ys).map (·.1)).Nodup) (hc : c ≠ 0) (hl : ∀ p ∈ xs ++ ys, p.2 ≠ 0 → r ≤ p.1) :
  termsG ((xs ++ (r, c) :: ys).filter nz) G = (c.tdiv G, r) :: termsG ((xs ++ (r, 0) :: ys).filter nz) G := by
 rw [filter_some hc, filter_zero]
 have hsub : (((xs.filter nz ++ (r, c) :: ys.filter nz)).map (·.1)).Nodup := by
  have h : (xs.filter nz ++ (r, c) :: ys.filter nz).Sublist (xs ++ (r, c) :: ys) := List.Sublist.append List.filter_sublist (List.Sublist.cons_cons _ List.filter_sublist)
  exact (h.map (·.1)).nodup hn
 have hmem : ∀ p ∈ xs.filter nz ++ ys.filter nz, p ∈ xs ++ ys ∧ p.2 ≠ 0 := fun p hp => by
  rcases List.mem_append.1 hp with h | h
  ·obtain ⟨h1, h2⟩ := List.mem_filter.1 h
   exact ⟨List.mem_append_left _ h1, by simpa [nz] using h2⟩
  ·obtain ⟨h1, h2⟩ := List.mem_filter.1 h
   exact ⟨List.mem_append_right _ h1, by simpa [nz] using h2⟩
 generalize xs.filter nz = X at *
 generalize ys.filter nz = Y at *
 have hperm : ((X ++ (r, c) :: Y).map (·.1)).Perm (r :: (X ++ Y).map (·.1)) := by
  have h := (List.perm_middle (a := (r, c)) (l₁ := X) (l₂ := Y)).map (·.1)
  rw [List.map_cons] at h
  exact h
 have hsub2 : ((X ++ Y).map (·.1)).Nodup := by
  have := hperm.nodup_iff.1 hsub
  exact (List.nodup_cons.1 this).2
 unfold termsG
 rw [sortI_head hperm (fun x hx => by
  obtain ⟨p, hp, rfl⟩ := List.mem_map.1 hx
  exact hl p (hmem p hp).1 (hmem p hp).2), List.map_cons]
 rw [getS_of_mem hsub (r, c) (by simp)]
 congr 1
 refine List.map_congr_left fun x hx => ?_
 obtain ⟨p, hp, rfl⟩ := List.mem_map.1 ((sortI_perm _).mem_iff.1 hx)
 rw [getS_of_mem hsub p (by rcases List.mem_append.1 hp with h | h <;> simp [h]), getS_of_mem hsub2 p hp]
theorem termsG_done {kv : List (Int × Int)} (G : Int) (h : ∀ p ∈ kv, p.2 = 0) : termsG (kv.filter nz) G = [] := by
 have e : kv.filter nz = [] := List.filter_eq_nil_iff.2 fun p hp => by simp [nz, h p hp]
 rw [e]
 unfold termsG
 have : sortI [] = [] := (sortI_perm []).eq_nil
 simp [this]
theorem gcdL_nz : ∀ (kv : List (Int × Int)) (g : Nat), (kv.map (·.2)).foldl (fun g x => Nat.gcd g x.natAbs) g = ((kv.filter nz).map (·.2)).foldl (fun g x => Nat.gcd g x.natAbs) g
 | [], _ => rfl
 | (r, c) :: kv, g => by
  by_cases h : c = 0
  ·subst h
   rw [List.filter_cons, nz_false]
   simp only [List.map_cons, List.foldl_cons, Int.natAbs_zero, Nat.gcd_zero_right, Bool.false_eq_true, if_false]
   exact gcdL_nz kv g
  ·rw [List.filter_cons, nz_true h, if_pos rfl]
   simp only [List.map_cons, List.foldl_cons]
   exact gcdL_nz kv _
theorem overG_eq (kv : List (Int × Int)) (den : Int) : overG kv den = if den < 0 then -(gcdL (den :: kv.map (·.2)) : Int) else (gcdL (den :: kv.map (·.2)) : Int) := by
 have e : gcdL ((kv.filter nz).map (·.2) ++ [den]) = gcdL (den :: kv.map (·.2)) := by
  rw [gcdL_perm (List.perm_append_singleton den ((kv.filter nz).map (·.2)))]
  unfold gcdL
  rw [List.foldl_cons, List.foldl_cons]
  exact (gcdL_nz kv _).symm
 unfold overG
 rw [e]
theorem addAll_append (kv a b : List (Int × Int)) (m : Int) : addAll kv (a ++ b) m = addAll (addAll kv a m) b m := by
 unfold addAll; rw [List.foldl_append]
theorem addAll_map (kv l : List (Int × Int)) (m : Int) : addAll kv (l.map fun t => (t.1 * m, t.2)) 1 = addAll kv l m := by
 unfold addAll
 rw [List.foldl_map]
 simp only [Int.mul_one]
theorem partsR_plus (xd yd times : Int) (xt yt : List (Int × Int)) :
  partsR (xd * yd) (xt.map (fun t => (t.1 * yd, t.2)) ++ yt.map (fun t => (times * t.1 * xd, t.2))) = overS (addAll (addAll [] xt yd) yt (times * xd)) (xd * yd) := by
 unfold partsR
 rw [addAll_append, addAll_map]
 congr 1
 rw [← addAll_map _ yt (times * xd)]
 congr 1
 refine List.map_congr_left fun t _ => ?_
 rw [Int.mul_comm times t.1, Int.mul_assoc]
end Go.Proofs.YtfmnnceacdpbdaaGreatDoor
