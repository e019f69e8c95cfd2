import Derived.Test.YthkblgglmohciaaGreatDoorRefAToRefE
import Derived.Test.YthkblgglmohciaaGreatDoorAsyToAsyW
import Derived.Test.YthkblgglmohciaaGreatDoorQuoB
import Derived.Test.YthkblgglmohciaaGreatDoorMakeA
import Derived.Test.YthkblgglmohciaaGreatDoorCom
import Derived.Test.YthkblgglmohciaaGreatDoorSignDToOrdA
import Derived.Test.YthkblgglmohciaaGreatDoorOrdBToSgn
import Derived.Test.YthkblgglmohciaaGreatDoorRootB
set_option linter.unusedVariables false
set_option linter.unusedSimpArgs false
namespace Go.Proofs.YthkblgglmohciaaGreatDoor
theorem split_unique {s r s' r' : Nat} (hs : 1 ≤ s) (hs' : 1 ≤ s') (hr : SqFree r) (hr' : SqFree r') (h : s * s * r = s' * s' * r') : s = s' ∧ r = r' := by
 have hg : 0 < Nat.gcd s s' := Nat.gcd_pos_of_pos_left _ hs
 obtain ⟨u, hu⟩ := Nat.gcd_dvd_left s s'
 obtain ⟨v, hv⟩ := Nat.gcd_dvd_right s s'
 have hc : Nat.Coprime u v := by
  have e : Nat.gcd s s' * Nat.gcd u v = Nat.gcd s s' * 1 := by
   rw [← Nat.gcd_mul_left, ← hu, ← hv, Nat.mul_one]
  exact Nat.eq_of_mul_eq_mul_left hg e
 generalize Nat.gcd s s' = g at *
 subst hu
 subst hv
 have h2 : u * u * r = v * v * r' := by
  refine Nat.eq_of_mul_eq_mul_left (Nat.mul_pos hg hg) ?_
  have e1 : g * g * (u * u * r) = g * u * (g * u) * r := by simp only [Nat.mul_comm, Nat.mul_left_comm, Nat.mul_assoc]
  have e2 : g * g * (v * v * r') = g * v * (g * v) * r' := by simp only [Nat.mul_comm, Nat.mul_left_comm, Nat.mul_assoc]
  rw [e1, e2, h]
 have hcc : Nat.Coprime (v * v) (u * u) := Nat.Coprime.mul_left (Nat.Coprime.mul_right hc.symm hc.symm) (Nat.Coprime.mul_right hc.symm hc.symm)
 have hv1 : v = 1 := by
  have d1 : v * v ∣ r := by
   refine Nat.Coprime.dvd_of_dvd_mul_left hcc ?_
   rw [h2]; exact Nat.dvd_mul_right _ _
  rcases Nat.lt_or_ge v 2 with k | k
  ·have : v ≠ 0 := by rintro rfl; simp at hs'
   omega
  ·exact absurd d1 (hr v k)
 have hu1 : u = 1 := by
  have d1 : u * u ∣ r' := by
   refine Nat.Coprime.dvd_of_dvd_mul_left hcc.symm ?_
   rw [← h2]; exact Nat.dvd_mul_right _ _
  rcases Nat.lt_or_ge u 2 with k | k
  ·have : u ≠ 0 := by rintro rfl; simp at hs
   omega
  ·exact absurd d1 (hr' u k)
 subst hv1
 subst hu1
 exact ⟨rfl, by omega⟩
theorem SqFree.mul {x y : Nat} (hx : SqFree x) (hy : SqFree y) (hc : Nat.Coprime x y) (hx0 : 1 ≤ x) (hy0 : 1 ≤ y) : SqFree (x * y) := by
 intro e he hd
 have h1 : e ∣ x * y := Nat.dvd_trans (Nat.dvd_mul_right e e) hd
 have h2 : Nat.gcd e (x * y) = Nat.gcd e x * Nat.gcd e y := Nat.Coprime.gcd_mul e hc
 rw [Nat.gcd_eq_left h1] at h2
 have hdx : 1 ≤ Nat.gcd e x := Nat.gcd_pos_of_pos_right _ hx0
 have hdy : 1 ≤ Nat.gcd e y := Nat.gcd_pos_of_pos_right _ hy0
 have k1 : Nat.gcd e x * Nat.gcd e x ∣ x := by
  have c1 : Nat.Coprime (Nat.gcd e x) y := Nat.Coprime.coprime_dvd_left (Nat.gcd_dvd_right e x) hc
  refine Nat.Coprime.dvd_of_dvd_mul_right (Nat.Coprime.mul_left c1 c1) (Nat.dvd_trans ?_ hd)
  exact Nat.mul_dvd_mul (Nat.gcd_dvd_left e x) (Nat.gcd_dvd_left e x)
 have k2 : Nat.gcd e y * Nat.gcd e y ∣ y := by
  have c1 : Nat.Coprime (Nat.gcd e y) x := Nat.Coprime.coprime_dvd_left (Nat.gcd_dvd_right e y) hc.symm
  refine Nat.Coprime.dvd_of_dvd_mul_left (Nat.Coprime.mul_left c1 c1) (Nat.dvd_trans ?_ hd)
  exact Nat.mul_dvd_mul (Nat.gcd_dvd_left e y) (Nat.gcd_dvd_left e y)
 have j1 : Nat.gcd e x < 2 := by
  rcases Nat.lt_or_ge (Nat.gcd e x) 2 with k | k
  ·exact k
  ·exact absurd k1 (hx _ k)
 have j2 : Nat.gcd e y < 2 := by
  rcases Nat.lt_or_ge (Nat.gcd e y) 2 with k | k
  ·exact k
  ·exact absurd k2 (hy _ k)
 have e1 : Nat.gcd e x = 1 := by omega
 have e2 : Nat.gcd e y = 1 := by omega
 rw [e1, e2] at h2
 omega
theorem SqFree.of_dvd {x y : Nat} (hy : SqFree y) (h : x ∣ y) : SqFree x := fun e he hd => hy e he (Nat.dvd_trans hd h)
theorem split_mul {a b : Nat} (ha : 1 ≤ a) (hb : 1 ≤ b) (fa : SqFree a) (fb : SqFree b) : splitN (a * b) = (Nat.gcd a b, a / Nat.gcd a b * (b / Nat.gcd a b)) := by
 have hg : 0 < Nat.gcd a b := Nat.gcd_pos_of_pos_left _ ha
 obtain ⟨h1, h2, h3, _⟩ := splitN_spec (a * b) (Nat.mul_pos ha hb)
 have hx := Nat.div_mul_cancel (Nat.gcd_dvd_left a b)
 have hy := Nat.div_mul_cancel (Nat.gcd_dvd_right a b)
 have hc : Nat.Coprime (a / Nat.gcd a b) (b / Nat.gcd a b) := Nat.coprime_div_gcd_div_gcd hg
 have hx0 : 1 ≤ a / Nat.gcd a b := Nat.div_pos (Nat.le_of_dvd ha (Nat.gcd_dvd_left a b)) hg
 have hy0 : 1 ≤ b / Nat.gcd a b := Nat.div_pos (Nat.le_of_dvd hb (Nat.gcd_dvd_right a b)) hg
 have hf := SqFree.mul (fa.of_dvd ⟨_, hx.symm⟩) (fb.of_dvd ⟨_, hy.symm⟩) hc hx0 hy0
 have he : Nat.gcd a b * Nat.gcd a b * (a / Nat.gcd a b * (b / Nat.gcd a b)) = a * b := by
  generalize a / Nat.gcd a b = x at *
  generalize b / Nat.gcd a b = y at *
  generalize Nat.gcd a b = g at *
  rw [← hx, ← hy]
  simp only [Nat.mul_comm, Nat.mul_left_comm, Nat.mul_assoc]
 obtain ⟨e1, e2⟩ := split_unique h3 hg h2 hf (h1.trans he.symm)
 exact Prod.ext e1 e2
def timesL (xt yt : List (Int × Int)) : List (Int × Int) := xt.flatMap fun t => yt.map fun u => (t.1 * u.1, t.2 * u.2)
theorem addAll_row {t : Int × Int} (ht : RootOK t.2) : ∀ (yt kv : List (Int × Int)), (∀ u ∈ yt, RootOK u.2) → addAll kv (yt.map fun u => (t.1 * u.1, t.2 * u.2)) 1 = prodR kv t yt
 | [], _, _ => rfl
 | u :: yt, kv, h => by
  have hu := h u (by simp)
  have e : addRoot kv (t.1 * u.1 * 1) (t.2 * u.2) = addS kv (mulK t u) (mulC t u) := by
   obtain ⟨a, ha⟩ := Int.eq_ofNat_of_zero_le (show 0 ≤ t.2 by have := ht.1; omega)
   obtain ⟨b, hb⟩ := Int.eq_ofNat_of_zero_le (show 0 ≤ u.2 by have := hu.1; omega)
   have ha1 : 1 ≤ a := by have := ht.1; omega
   have hb1 : 1 ≤ b := by have := hu.1; omega
   have fa : SqFree a := by have := ht.2.2; rwa [ha, Int.toNat_natCast] at this
   have fb : SqFree b := by have := hu.2.2; rwa [hb, Int.toNat_natCast] at this
   have hs := split_mul ha1 hb1 fa fb
   unfold addRoot mulK mulC
   rw [ha, hb, show ∀ x y : Int, gcdL [x, y] = Nat.gcd x.natAbs y.natAbs from fun x y => by unfold gcdL; simp, Int.natAbs_natCast, Int.natAbs_natCast, Int.toNat_natCast, Int.toNat_natCast, ← Int.natCast_mul, Int.toNat_natCast, hs, if_pos (by have := Nat.mul_pos ha1 hb1; omega)]
   dsimp only
   rw [Int.mul_one]
  show addAll (addRoot kv (t.1 * u.1 * 1) (t.2 * u.2)) (yt.map fun u => (t.1 * u.1, t.2 * u.2)) 1 = _
  rw [e]
  exact addAll_row ht yt _ (fun u hu => h u (by simp [hu]))
theorem addAll_times : ∀ (xt yt kv : List (Int × Int)), (∀ t ∈ xt, RootOK t.2) → (∀ u ∈ yt, RootOK u.2) → addAll kv (timesL xt yt) 1 = prodS kv xt yt
 | [], _, _, _, _ => rfl
 | t :: xt, yt, kv, h, h' => by
  have e : timesL (t :: xt) yt = (yt.map fun u => (t.1 * u.1, t.2 * u.2)) ++ timesL xt yt := rfl
  rw [e, addAll_append, addAll_row (h t (by simp)) yt kv h', addAll_times xt yt _ (fun u hu => h u (by simp [hu])) h']
  rfl
theorem times_eq {xd yd : Int} {xt yt : List (Int × Int)} (hx : numOK xd xt = true) (hy : numOK yd yt = true) : partsR (xd * yd) (timesL xt yt) = mulS xd xt yd yt := by
 unfold partsR mulS
 rw [hx, hy, addAll_times xt yt [] (numOK_roots hx).1 (numOK_roots hy).1]
 rfl
end Go.Proofs.YthkblgglmohciaaGreatDoor
namespace Go.Proofs.YthkblgglmohciaaGreatDoor
theorem nodup_of_keys {kv : List (Int × Int)} (h : (kv.map (·.1)).Nodup) : kv.Nodup := by
 rw [List.nodup_iff_pairwise_ne] at *
 rw [List.pairwise_map] at h
 exact h.imp (fun h e => h (by rw [e]))
theorem filter_keys {kv : List (Int × Int)} (p : Int × Int → Bool) (h : (kv.map (·.1)).Nodup) : ((kv.filter p).map (·.1)).Nodup :=
 h.sublist (List.Sublist.map _ List.filter_sublist)
theorem mem_nz {kv : List (Int × Int)} (h : (kv.map (·.1)).Nodup) (p : Int × Int) : p ∈ kv.filter nz ↔ p.2 ≠ 0 ∧ getS kv p.1 = p.2 := by
 rw [List.mem_filter]
 constructor
 ·rintro ⟨h1, h2⟩
  exact ⟨by simpa [nz] using h2, getS_of_mem h p h1⟩
 ·rintro ⟨h1, h2⟩
  rcases getS_mem kv p.1 with h3 | h3
  ·exact absurd (h2.symm.trans h3) h1
  ·rw [h2] at h3
   exact ⟨h3, by simp [nz, h1]⟩
theorem getS_perm {l l' : List (Int × Int)} (h : (l.map (·.1)).Nodup) (h' : (l'.map (·.1)).Nodup) (hp : l.Perm l') (r : Int) : getS l r = getS l' r := by
 rcases getS_mem l r with h1 | h1
 ·rcases getS_mem l' r with h2 | h2
  ·rw [h1, h2]
  ·exact getS_of_mem h _ (hp.mem_iff.2 h2)
 ·exact (getS_of_mem h' _ (hp.mem_iff.1 h1)).symm
theorem overS_ext {kv kv' : List (Int × Int)} (h : (kv.map (·.1)).Nodup) (h' : (kv'.map (·.1)).Nodup) (he : ∀ r, getS kv r = getS kv' r) (den : Int) : overS kv den = overS kv' den := by
 have hp : (kv.filter nz).Perm (kv'.filter nz) := by
  refine (List.perm_ext_iff_of_nodup (nodup_of_keys (filter_keys _ h)) (nodup_of_keys (filter_keys _ h'))).2 (fun p => ?_)
  rw [mem_nz h, mem_nz h', he]
 have hG : overG kv den = overG kv' den := by
  unfold overG
  rw [gcdL_perm ((hp.map (·.2)).append_right [den])]
 have hT : overT kv den = overT kv' den := by
  unfold overT termsG
  rw [sortI_perm_eq (hp.map (·.1)), hG]
  refine List.map_congr_left (fun r _ => ?_)
  rw [getS_perm (filter_keys _ h) (filter_keys _ h') hp r]
 unfold overS
 rw [hG, hT]
theorem getS_addRoot (kv : List (Int × Int)) (c n r : Int) : getS (addRoot kv c n) r = getS kv r + (if 0 < n then (if r = ((splitN n.toNat).2 : Int) then c * ((splitN n.toNat).1 : Int) else 0) else 0) := by
 unfold addRoot
 split
 ·rw [getS_addS]
 ·omega
def overL (yd : Int) (a b : Int × Int) (xt : List (Int × Int)) : List (Int × Int) := xt.flatMap fun t => [(t.1 * a.1 * yd, t.2 * a.2), (-t.1 * b.1 * yd, t.2 * b.2)]
theorem overL_one (yd : Int) (a : Int × Int) : ∀ (xt kv kv' : List (Int × Int)), (∀ r, getS kv r = getS kv' r) → ∀ r, getS (addAll kv (overL yd a (0, 1) xt) 1) r = getS (addAll kv' (timesL xt [(a.1 * (1 * yd), a.2)]) 1) r
 | [], _, _, h, r => h r
 | t :: xt, kv, kv', h, r => by
  have e1 : overL yd a (0, 1) (t :: xt) = (t.1 * a.1 * yd, t.2 * a.2) :: (-t.1 * 0 * yd, t.2 * 1) :: overL yd a (0, 1) xt := rfl
  have e2 : timesL (t :: xt) [(a.1 * (1 * yd), a.2)] = (t.1 * (a.1 * (1 * yd)), t.2 * a.2) :: timesL xt [(a.1 * (1 * yd), a.2)] := rfl
  rw [e1, e2]
  show getS (addAll (addRoot (addRoot kv (t.1 * a.1 * yd * 1) (t.2 * a.2)) (-t.1 * 0 * yd * 1) (t.2 * 1)) (overL yd a (0, 1) xt) 1) r = getS (addAll (addRoot kv' (t.1 * (a.1 * (1 * yd)) * 1) (t.2 * a.2)) (timesL xt [(a.1 * (1 * yd), a.2)]) 1) r
  refine overL_one yd a xt _ _ (fun q => ?_) r
  rw [getS_addRoot, getS_addRoot, getS_addRoot, h q]
  have e3 : -t.1 * 0 * yd * 1 = 0 := by simp
  have e4 : t.1 * a.1 * yd * 1 = t.1 * (a.1 * (1 * yd)) * 1 := by rw [Int.one_mul, Int.mul_assoc t.1]
  rw [e3, e4]
  simp
theorem overL_two (yd : Int) (a b : Int × Int) : ∀ xt : List (Int × Int), overL yd a b xt = timesL xt [(a.1 * (1 * yd), a.2), (b.1 * (-1 * yd), b.2)]
 | [] => rfl
 | t :: xt => by
  have e1 : overL yd a b (t :: xt) = (t.1 * a.1 * yd, t.2 * a.2) :: (-t.1 * b.1 * yd, t.2 * b.2) :: overL yd a b xt := rfl
  have e2 : timesL (t :: xt) [(a.1 * (1 * yd), a.2), (b.1 * (-1 * yd), b.2)] = (t.1 * (a.1 * (1 * yd)), t.2 * a.2) :: (t.1 * (b.1 * (-1 * yd)), t.2 * b.2) :: timesL xt [(a.1 * (1 * yd), a.2), (b.1 * (-1 * yd), b.2)] := rfl
  rw [e1, e2, overL_two yd a b xt]
  have e4 : t.1 * a.1 * yd = t.1 * (a.1 * (1 * yd)) := by rw [Int.one_mul, Int.mul_assoc t.1]
  have e5 : -t.1 * b.1 * yd = t.1 * (b.1 * (-1 * yd)) := by
   rw [Int.neg_mul, Int.neg_mul, Int.neg_mul, Int.one_mul, Int.mul_neg, Int.mul_neg, Int.mul_assoc t.1]
  rw [e4, e5]
theorem over_two {xd yd : Int} {xt : List (Int × Int)} {a b : Int × Int} (hx : numOK xd xt = true) (hy : numOK yd [a, b] = true) : partsR (xd * (a.1 * a.1 * a.2 - b.1 * b.1 * b.2)) (overL yd a b xt) = quoS xd xt yd [a, b] := by
 have hr := (numOK_roots hy).1
 have e : turnL yd [a, b] = [(a.1 * (1 * yd), a.2), (b.1 * (-1 * yd), b.2)] := rfl
 have n : normL [a, b] = a.1 * a.1 * a.2 - b.1 * b.1 * b.2 := by
  show 1 * a.1 * a.1 * a.2 + (-1 * b.1 * b.1 * b.2 + 0) = _
  rw [Int.one_mul, Int.neg_mul, Int.one_mul, Int.neg_mul, Int.neg_mul]; omega
 unfold quoS partsR
 rw [hx, hy, if_pos (show (true && true) = true from rfl), if_neg (by simp), if_neg (by simp), e, n, overL_two, addAll_times xt _ [] (numOK_roots hx).1 (fun u hu => by
  rcases List.mem_cons.1 hu with rfl | hu
  ·exact hr a (by simp)
  ·rcases List.mem_cons.1 hu with rfl | hu
   ·exact hr b (by simp)
   ·simp at hu)]
theorem over_oneR {xd yd : Int} {xt : List (Int × Int)} {a : Int × Int} (hx : numOK xd xt = true) (hy : numOK yd [a] = true) : partsR (xd * (a.1 * a.1 * a.2 - 0 * 0 * 1)) (overL yd a (0, 1) xt) = quoS xd xt yd [a] := by
 have hr := (numOK_roots hy).1
 have e : turnL yd [a] = [(a.1 * (1 * yd), a.2)] := rfl
 have n : normL [a] = a.1 * a.1 * a.2 - 0 * 0 * 1 := by
  show 1 * a.1 * a.1 * a.2 + 0 = _
  rw [Int.one_mul]; omega
 unfold quoS partsR
 rw [hx, hy, if_pos (show (true && true) = true from rfl), if_neg (by simp), if_neg (by simp), e, n, ← addAll_times xt _ [] (numOK_roots hx).1 (fun u hu => by
  rcases List.mem_cons.1 hu with rfl | hu
  ·exact hr a (by simp)
  ·simp at hu)]
 exact overS_ext (addAll_nodup _ _ _ (by simp)) (addAll_nodup _ _ _ (by simp)) (overL_one yd a xt [] [] (fun _ => rfl)) _
theorem over_bounds {xd yd : Int} {xt : List (Int × Int)} {c r : Int} (hx : numOK xd xt = true) (hyd : 1 ≤ yd ∧ yd ≤ 100000) (hc : -100000 ≤ c ∧ c ≤ 100000) (hr : RootOK r) : ∀ u ∈ xt, ∀ s : Int, (s = u.1 ∨ s = -u.1) → (0 ≤ u.2 * r ∧ u.2 * r ≤ 100000000000) ∧ -1000000000000000000 ≤ s * c * yd * ((splitN (u.2 * r).toNat).1 : Int) ∧ s * c * yd * ((splitN (u.2 * r).toNat).1 : Int) ≤ 1000000000000000000 := by
 intro u hu s hs
 obtain ⟨⟨a1, a2, a3, a4⟩, a5⟩ := (numOK_parts hx).2.2.2 u hu
 have fa := ((numOK_roots hx).1 u hu).2.2
 obtain ⟨b1, b2, fb⟩ := hr
 obtain ⟨cu, ru⟩ := u
 dsimp only at *
 obtain ⟨a, rfl⟩ := Int.eq_ofNat_of_zero_le (show 0 ≤ ru by omega)
 obtain ⟨b, rfl⟩ := Int.eq_ofNat_of_zero_le (show 0 ≤ r by omega)
 rw [Int.toNat_natCast] at fa fb
 rw [← Int.natCast_mul, Int.toNat_natCast, split_mul (by omega) (by omega) fa fb]
 have hg : Nat.gcd a b ≤ a := Nat.gcd_le_left b (by omega)
 have h1 := mul_bd (a := s) (A := 100000) (by omega) hc
 have h2 := mul_bd h1 (b := yd) (B := 100000) (by omega)
 have h3 := mul_bd h2 (b := (Nat.gcd a b : Int)) (B := 1000) (by omega)
 have h4 : a * b ≤ 1000 * 1000 := Nat.mul_le_mul (by omega) (by omega)
 dsimp only
 generalize s * c * yd * (Nat.gcd a b : Int) = z at *
 generalize a * b = y at *
 omega
end Go.Proofs.YthkblgglmohciaaGreatDoor
namespace Go.Proofs.YthkblgglmohciaaGreatDoor
open Go.RowKit
def ratT (c : Int) : List (Int × Int) := if c = 0 then [] else [(c, 1)]
theorem ratT_zero : ratT 0 = [] := rfl
theorem ratT_some {c : Int} (h : c ≠ 0) : ratT c = [(c, 1)] := if_neg h
theorem split1Q : splitN 1 = (1, 1) := by decide +kernel
def gcdQ (v den : Int) : Int := (gcdL [den, v] : Int)
def normQ (v den : Int) : Int × List (Int × Int) × Int :=
 if 100000 < den.tdiv (gcdQ v den) ∨ inB (v.tdiv (gcdQ v den)) (-100000) 100000 = false then (0, [], 10) else (den.tdiv (gcdQ v den), ratT (v.tdiv (gcdQ v den)), 0)
theorem gcdL_two (a b : Int) : gcdL [a, b] = Nat.gcd a.natAbs b.natAbs := by
 unfold gcdL
 simp
theorem gcdL_single (a : Int) : gcdL [a] = a.natAbs := by
 unfold gcdL
 simp
theorem gcdQ_pos {v den : Int} (h : 0 < den) : 0 < gcdQ v den := by
 have := gcdL_pos (l := [den, v]) (x := den) (by simp) (by omega)
 unfold gcdQ
 omega
theorem gcdQ_dvd (v den : Int) : gcdQ v den ∣ v ∧ gcdQ v den ∣ den := by
 unfold gcdQ
 rw [gcdL_two]
 exact ⟨Int.ofNat_dvd_left.2 (Nat.gcd_dvd_right _ _), Int.ofNat_dvd_left.2 (Nat.gcd_dvd_left _ _)⟩
theorem gcdQ_zero {den : Int} (h : 0 < den) : gcdQ 0 den = den := by
 unfold gcdQ
 rw [gcdL_two]
 simp
 omega
theorem norm_unique {v den d c : Int} (hden : 0 < den) (hd : 0 < d) (hg : gcdL [d, c] = 1) (h : c * den = v * d) : den.tdiv (gcdQ v den) = d ∧ v.tdiv (gcdQ v den) = c := by
 rw [gcdL_two] at hg
 have h1 : d.natAbs ∣ c.natAbs * den.natAbs := by
  rw [← Int.natAbs_mul, h, Int.natAbs_mul]
  exact Nat.dvd_mul_left _ _
 have h2 : d.natAbs ∣ den.natAbs := Nat.Coprime.dvd_of_dvd_mul_left hg h1
 obtain ⟨k, rfl⟩ := Int.natAbs_dvd_natAbs.1 h2
 have hv : v = c * k := by
  have h3 : v * d = (c * k) * d := by rw [← h, Int.mul_comm d k, Int.mul_assoc]
  exact Int.eq_of_mul_eq_mul_right (by omega) h3
 subst hv
 have hk : 0 < k := by
  rcases Int.lt_or_le 0 k with hk | hk
  ·exact hk
  ·have := Int.mul_le_mul_of_nonneg_left hk (Int.le_of_lt hd)
   rw [Int.mul_zero] at this; omega
 have hG : gcdQ (c * k) (d * k) = k := by
  unfold gcdQ
  rw [gcdL_two, Int.natAbs_mul, Int.natAbs_mul, Nat.gcd_mul_right, hg, Nat.one_mul]
  omega
 rw [hG]
 exact ⟨Int.mul_tdiv_cancel _ (by omega), Int.mul_tdiv_cancel _ (by omega)⟩
theorem norm_parts {v den : Int} (hden : 0 < den) : 0 < den.tdiv (gcdQ v den) ∧ gcdL [den.tdiv (gcdQ v den), v.tdiv (gcdQ v den)] = 1 ∧ v.tdiv (gcdQ v den) * den = v * den.tdiv (gcdQ v den) ∧ (v.tdiv (gcdQ v den) = 0 ↔ v = 0) ∧
  den.tdiv (gcdQ v den) ≤ den ∧ (v.tdiv (gcdQ v den)).natAbs ≤ v.natAbs := by
 have hp := gcdQ_pos (v := v) hden
 obtain ⟨⟨c, hc⟩, ⟨d, hd⟩⟩ := gcdQ_dvd v den
 have hG : gcdQ v den = (Nat.gcd den.natAbs v.natAbs : Nat) := by unfold gcdQ; rw [gcdL_two]
 generalize hg : gcdQ v den = g at *
 have e1 : den.tdiv g = d := by rw [hd, Int.mul_comm]; exact Int.mul_tdiv_cancel _ (by omega)
 have e2 : v.tdiv g = c := by rw [hc, Int.mul_comm]; exact Int.mul_tdiv_cancel _ (by omega)
 rw [e1, e2]
 have hd0 : 0 < d := by
  rcases Int.lt_or_le 0 d with h | h
  ·exact h
  ·have := Int.mul_le_mul_of_nonneg_left h (Int.le_of_lt hp)
   rw [Int.mul_zero] at this; omega
 refine ⟨hd0, ?_, ?_, ?_, ?_, ?_⟩
 ·rw [gcdL_two]
  have h1 : Nat.gcd den.natAbs v.natAbs = g.natAbs * Nat.gcd d.natAbs c.natAbs := by rw [hd, hc, Int.natAbs_mul, Int.natAbs_mul, Nat.gcd_mul_left]
  have h2 : g.natAbs = g.natAbs * Nat.gcd d.natAbs c.natAbs := by rw [← h1]; omega
  exact Nat.eq_of_mul_eq_mul_left (show 0 < g.natAbs by omega) (by omega)
 ·rw [hd, hc, ← Int.mul_assoc, Int.mul_comm c g]
 ·constructor
  ·intro h; rw [hc, h, Int.mul_zero]
  ·intro h
   rw [hc] at h
   rcases Int.mul_eq_zero.1 h with h | h
   ·omega
   ·exact h
 ·rw [hd]
  have := Int.mul_le_mul_of_nonneg_right (show 1 ≤ g by omega) (Int.le_of_lt hd0)
  omega
 ·rw [hc, Int.natAbs_mul]
  exact Nat.le_mul_of_pos_left _ (by omega)
theorem over_one {v den : Int} (hden : 0 < den) : overS [(1, v)] den = normQ v den := by
 have hG : overG [(1, v)] den = gcdQ v den := by
  rw [overG_eq, if_neg (by omega)]; rfl
 obtain ⟨h1, _, _, h4, _, _⟩ := norm_parts (v := v) hden
 have hT : overT [(1, v)] den = ratT (v.tdiv (gcdQ v den)) := by
  unfold overT
  rw [hG]
  by_cases hv : v = 0
  ·subst hv
   rw [Int.zero_tdiv, ratT_zero]
   exact termsG_done _ (fun p hp => by rw [List.mem_singleton.1 hp])
  ·have h5 := termsG_step (xs := []) (ys := []) (r := 1) (c := v) (gcdQ v den) (by simp) hv (fun p hp => by simp at hp)
   have h6 : termsG (([] ++ (1, 0) :: [] : List (Int × Int)).filter nz) (gcdQ v den) = [] := termsG_done _ (fun p hp => by
    have := List.mem_singleton.1 (by simpa using hp); rw [this])
   rw [h6] at h5
   rw [ratT_some (fun h => hv (h4.1 h))]
   simpa using h5
 unfold overS normQ
 rw [hT, hG]
 have hlen : ¬ 4 < (ratT (v.tdiv (gcdQ v den))).length := by unfold ratT; split <;> simp
 rw [if_neg hlen]
 by_cases hc : v.tdiv (gcdQ v den) = 0
 ·rw [hc, ratT_zero]
  simp [inB]
 ·rw [ratT_some hc]
  simp [tooBig]
theorem over_nil {den : Int} (hden : 0 < den) : overS [] den = normQ 0 den := by
 rw [← over_one hden]
 have hG : overG [(1, 0)] den = overG [] den := by
  rw [overG_eq, overG_eq, if_neg (by omega), if_neg (by omega)]
  show ((gcdL [den, 0] : Nat) : Int) = ((gcdL [den] : Nat) : Int)
  rw [gcdL_two, gcdL_single]; simp
 have hT : overT [(1, 0)] den = overT [] den := by
  unfold overT
  rw [hG]
  rfl
 unfold overS
 rw [hG, hT]
theorem numOK_rat {d c : Int} : numOK d (ratT c) = true ↔ (1 ≤ d ∧ d ≤ 100000) ∧ (-100000 ≤ c ∧ c ≤ 100000) ∧ gcdL [d, c] = 1 := by
 by_cases hc : c = 0
 ·subst hc
  rw [ratT_zero, gcdL_two]
  unfold numOK
  rw [List.map_nil, gcdL_single]
  simp [inB, chkT]
 ·rw [ratT_some hc]
  unfold numOK
  simp [inB, chkT, okT, split1Q, hc]
  exact and_assoc
theorem normQ_ok {v den d : Int} {t : List (Int × Int)} (hden : 0 < den) (h : normQ v den = (d, t, 0)) : ∃ c, t = ratT c ∧ c * den = v * d ∧ numOK d (ratT c) = true := by
 obtain ⟨h1, h2, h3, _, _, _⟩ := norm_parts (v := v) hden
 unfold normQ at h
 split at h
 ·injection h with _ h; injection h with _ h; omega
 ·rename_i hn
  injection h with e1 h
  injection h with e2 _
  subst e1
  refine ⟨_, e2.symm, h3, numOK_rat.2 ⟨⟨by omega, ?_⟩, ?_, h2⟩⟩
  ·rcases Int.lt_or_le 100000 (den.tdiv (gcdQ v den)) with h | h
   ·exact absurd (.inl h) hn
   ·exact h
  ·cases hi : inB (v.tdiv (gcdQ v den)) (-100000) 100000
   ·exact absurd (.inr hi) hn
   ·simpa [inB] using hi
theorem normQ_code (v den : Int) : (normQ v den).2.2 = 0 ∨ normQ v den = (0, [], 10) := by
 unfold normQ
 split
 ·exact .inr rfl
 ·exact .inl rfl
theorem normQ_eq {v den d c : Int} (hden : 0 < den) (hn : numOK d (ratT c) = true) (h : c * den = v * d) : normQ v den = (d, ratT c, 0) := by
 obtain ⟨h1, h2, h3⟩ := numOK_rat.1 hn
 obtain ⟨e1, e2⟩ := norm_unique hden (by omega) h3 h
 unfold normQ
 rw [e1, e2, if_neg]
 rintro (h | h)
 ·omega
 ·rw [show inB c (-100000) 100000 = true by simpa [inB] using h2] at h
  cases h
theorem add_rat (kv : List (Int × Int)) (b m : Int) (v : Int) (h : kv = [(1, v)] ∨ (kv = [] ∧ v = 0)) : (addAll kv (ratT b) m = [(1, v + b * m)] ∨ (addAll kv (ratT b) m = [] ∧ v + b * m = 0)) := by
 by_cases hb : b = 0
 ·subst hb
  rw [ratT_zero, Int.zero_mul, Int.add_zero]
  exact h
 ·left
  rw [ratT_some hb]
  show addRoot kv (b * m) 1 = _
  unfold addRoot
  rw [if_pos (by decide), show (1 : Int).toNat = 1 from rfl, split1Q]
  rcases h with rfl | ⟨rfl, rfl⟩
  ·simp [addS]
  ·simp [addS]
theorem over_kv {kv : List (Int × Int)} {v den : Int} (h : kv = [(1, v)] ∨ (kv = [] ∧ v = 0)) (hden : 0 < den) : overS kv den = normQ v den := by
 rcases h with rfl | ⟨rfl, rfl⟩
 ·exact over_one hden
 ·exact over_nil hden
theorem plus_ratS {xd yd a b k : Int} (hx : numOK xd (ratT a) = true) (hy : numOK yd (ratT b) = true) : plusS xd (ratT a) yd (ratT b) k = normQ (a * yd + b * (k * xd)) (xd * yd) := by
 obtain ⟨h1, _, _⟩ := numOK_rat.1 hx
 obtain ⟨h2, _, _⟩ := numOK_rat.1 hy
 unfold plusS
 rw [hx, hy]
 simp only [Bool.and_self, if_true]
 have e1 := add_rat [] a yd 0 (.inr ⟨rfl, rfl⟩)
 rw [Int.zero_add] at e1
 exact over_kv (add_rat _ b (k * xd) _ e1) (Int.mul_pos (by omega) (by omega))
theorem make_ratS {num D : Int} (hn : 0 ≤ num ∧ num ≤ 100000) (hD : 1 ≤ D ∧ D ≤ 100000) : makeS D [(num, 1)] = normQ num D ∧ (normQ num D).2.2 = 0 := by
 have e : addAll [] [(num, 1)] 1 = [(1, num)] := by
  show addRoot [] (num * 1) 1 = _
  unfold addRoot
  rw [if_pos (by decide), show (1 : Int).toNat = 1 from rfl, split1Q]
  simp [addS]
 constructor
 ·unfold makeS
  rw [if_neg (by simp), if_neg, e]
  ·exact over_one (by omega)
  ·rintro (h | h)
   ·rw [show inB D 1 100000 = true by simpa [inB] using hD] at h; cases h
   ·rw [List.any_cons, List.any_nil, Bool.or_false] at h
    have : badT (num, 1) = false := by
     unfold badT
     rw [show inB num (-100000) 100000 = true by simp [inB]; omega]
     show (!true || !inB 1 0 1000) = false
     decide
    rw [this] at h; cases h
 ·obtain ⟨h1, _, _, _, h5, h6⟩ := norm_parts (v := num) (den := D) (by omega)
  unfold normQ
  rw [if_neg]
  rintro (h | h)
  ·omega
  ·rw [show inB (num.tdiv (gcdQ num D)) (-100000) 100000 = true by simp [inB]; omega] at h; cases h
theorem less_rat (a yd b xd : Int) : lessT (ratT a) yd (ratT b) xd = [(a * yd - b * xd, 1)] ∨ (lessT (ratT a) yd (ratT b) xd = [] ∧ a = 0 ∧ b = 0) := by
 unfold lessT lessS
 by_cases ha : a = 0
 ·subst ha
  by_cases hb : b = 0
  ·subst hb
   exact .inr ⟨rfl, rfl, rfl⟩
  ·left
   rw [ratT_zero, ratT_some hb]
   simp [addB, addS, swapT, Int.mul_neg]
 ·left
  rw [ratT_some ha]
  by_cases hb : b = 0
  ·subst hb
   rw [ratT_zero]
   simp [addB, addS, swapT]
  ·rw [ratT_some hb]
   simp [addB, addS, swapT, Int.mul_neg, Int.sub_eq_add_neg]
theorem cmp_rat {xd a yd b s c : Int} (hx : numOK xd (ratT a) = true) (hy : numOK yd (ratT b) = true) (h : CmpRes xd (ratT a) yd (ratT b) s c) :
  c = 0 ∧ ((a * yd = b * xd ∧ s = 0) ∨ (b * xd < a * yd ∧ s = 1) ∨ (a * yd < b * xd ∧ s = -1)) := by
 rcases h with ⟨_, h, rfl⟩ | ⟨h, _, _⟩
 ·refine ⟨rfl, ?_⟩
  rcases less_rat a yd b xd with e | ⟨e, rfl, rfl⟩
  ·rw [e] at h
   rcases sign_one h with ⟨h1, h2⟩ | ⟨h1, h2⟩ | ⟨h1, h2⟩
   ·exact .inl ⟨by omega, h2⟩
   ·exact .inr (.inl ⟨by omega, h2⟩)
   ·exact .inr (.inr ⟨by omega, h2⟩)
  ·rw [e] at h
   rcases h with ⟨_, h⟩ | ⟨h, _⟩
   ·exact .inl ⟨by omega, h⟩
   ·exact absurd rfl h
 ·rw [hx, hy] at h; cases h
theorem sign_rat {d a s c : Int} (hx : numOK d (ratT a) = true) (h : SignRes d (ratT a) s c) : c = 0 ∧ ((a = 0 ∧ s = 0) ∨ (0 < a ∧ s = 1) ∨ (a < 0 ∧ s = -1)) := by
 rcases h with ⟨_, h, rfl⟩ | ⟨h, _, _⟩
 ·refine ⟨rfl, ?_⟩
  by_cases ha : a = 0
  ·subst ha
   rcases h with ⟨_, h⟩ | ⟨h, _⟩
   ·exact .inl ⟨rfl, h⟩
   ·exact absurd rfl h
  ·rw [ratT_some ha] at h
   exact sign_one h
 ·rw [hx] at h; cases h
theorem parts_rat (d c : Int) : partsS d (ratT c) = if c = 0 then (0, 1, true) else (c, d, true) := by
 by_cases hc : c = 0
 ·subst hc; rfl
 ·rw [ratT_some hc, if_neg hc]; rfl
theorem numOK_pos {d c : Int} (h : numOK d (ratT c) = true) : 0 < d := by
 have := (numOK_rat.1 h).1; omega
theorem gcdL_one (c : Int) : gcdL [1, c] = 1 := by rw [gcdL_two]; simp
theorem gcdL_one' (d : Int) : gcdL [d, 1] = 1 := by rw [gcdL_two]; simp
theorem wholeN_rat (n : Int) : wholeN n = (1, ratT n) := by
 unfold wholeN ratT
 split <;> rfl
end Go.Proofs.YthkblgglmohciaaGreatDoor
namespace Go.Proofs.YthkblgglmohciaaGreatDoor
def Ge (f : Nat → Int) : Prop := Grows f ∨ Bdd f
def Lt (f : Nat → Int) : Prop := Grows fun k => -f k
theorem Ge.not_lt {f : Nat → Int} (h : Ge f) (h' : Lt f) : False := by
 rcases h with h | h
 ·exact h.not_neg h'
 ·exact Grows.not_bdd h' h.neg
theorem Sg.ge {f : Nat → Int} {s : Int} (h : Sg f s) (hs : 0 ≤ s) : Ge f := by
 rcases h with ⟨_, h⟩ | ⟨h, _⟩ | ⟨_, h⟩
 ·exact .inl h
 ·omega
 ·exact .inr h
theorem Sg.lt {f : Nat → Int} {s : Int} (h : Sg f s) (hs : s < 0) : Lt f := by
 rcases h with ⟨h, _⟩ | ⟨_, h⟩ | ⟨h, _⟩
 ·omega
 ·exact h
 ·omega
theorem Ge.near {f g : Nat → Int} (h : Ge f) (hn : Near f g) : Ge g := by
 rcases h with h | h
 ·exact .inl (h.near hn)
 ·exact .inr ((Bdd.add h hn.symm).congr fun k => by (try dsimp only); omega)
theorem Ge.add {f g : Nat → Int} (hf : Ge f) (hg : Ge g) : Ge fun k => f k + g k := by
 rcases hf with hf | hf <;> rcases hg with hg | hg
 ·exact .inl (hf.add hg)
 ·exact .inl (hf.near (Bdd.congr (fun k => by (try dsimp only); omega) hg.neg))
 ·exact .inl (hg.near (Bdd.congr (fun k => by (try dsimp only); omega) hf.neg))
 ·exact .inr (hf.add hg)
theorem Grows.add_ge {f g : Nat → Int} (hf : Grows f) (hg : Ge g) : Grows fun k => f k + g k := by
 rcases hg with hg | hg
 ·exact hf.add hg
 ·exact hf.near (Bdd.congr (fun k => by (try dsimp only); omega) hg.neg)
theorem Ge.smul {f : Nat → Int} {c : Int} (hc : 0 < c) (h : Ge f) : Ge fun k => c * f k := by
 rcases h with h | h
 ·exact .inl (h.smul hc)
 ·exact .inr (h.smul c)
theorem grows_bits {c : Int} (hc : 0 < c) : Grows fun k => c * bits k := ⟨1, 0, by omega, fun k _ => by
 have := Int.mul_le_mul_of_nonneg_right (show 1 ≤ c by omega) (Int.le_of_lt (bitsI_pos k))
 dsimp only
 omega⟩
theorem ge_bits {c : Int} (hc : 0 ≤ c) : Ge fun k => c * bits k := by
 rcases Int.lt_or_le 0 c with h | h
 ·exact .inl (grows_bits h)
 ·obtain rfl : c = 0 := by omega
  exact .inr (Bdd.zero.congr fun k => by simp)
theorem rtA_one (k : Nat) : rtA 1 k = bits k := by
 unfold rtA
 rw [show (1 : Int).toNat = 1 from rfl, Nat.one_mul, isq_sq]
theorem linT_rat (c : Int) (k : Nat) : linT (ratT c) k = c * bits k := by
 unfold ratT
 split
 ·rename_i h; subst h; simp [linT]
 ·simp [linT, rtA_one]
theorem linT_int (c : Int) (k : Nat) : linT [(c, 1)] k = c * bits k := by simp [linT, rtA_one]
def LowOf (X : Nat → Int) (D f l : Int) : Prop := Ge (fun k => f * X k - D * l * bits k) ∧ Lt (fun k => f * X k - D * (l + 1) * bits k)
theorem LowOf.le {X : Nat → Int} {D f l l' : Int} (hD : 0 < D) (h : LowOf X D f l) (h' : Ge (fun k => f * X k - D * l' * bits k)) : l' ≤ l := by
 rcases Int.lt_or_le l l' with hl | hl
 ·exfalso
  refine Ge.not_lt (Ge.near (Ge.add h' (ge_bits (c := D * (l' - l - 1)) (Int.mul_nonneg (Int.le_of_lt hD) (by omega)))) (Near.of_eq fun k => ?_)) h.2
  (try dsimp only)
  grind
 ·exact hl
theorem LowOf.unique {X : Nat → Int} {D f l l' : Int} (hD : 0 < D) (h : LowOf X D f l) (h' : LowOf X D f l') : l = l' :=
 Int.le_antisymm (h'.le hD h.1) (h.le hD h'.1)
theorem Lt.near {f g : Nat → Int} (h : Lt f) (hn : Near f g) : Lt g := Grows.near h hn.neg
theorem LowOf.shift {X Y : Nat → Int} {D f l c : Int} (hn : Near Y (fun k => X k + c * D * bits k)) (h : LowOf X D f l) : LowOf Y D f (l + c * f) := by
 have h1 := hn.smul f
 refine ⟨h.1.near ?_, h.2.near ?_⟩
 ·refine Near.trans (Near.of_eq fun k => ?_) ((h1.symm).sub (Near.refl fun k => D * (l + c * f) * bits k))
  (try dsimp only); grind
 ·refine Near.trans (Near.of_eq fun k => ?_) ((h1.symm).sub (Near.refl fun k => D * (l + c * f + 1) * bits k))
  (try dsimp only); grind
def IsN (xd : Int) (X : Nat → Int) (rd : Int) (rt : List (Int × Int)) : Prop := numOK rd rt = true ∧ ∃ G, 0 < G ∧ xd = rd * G ∧ Near (fun k => G * linT rt k) X
theorem IsN.sg {xd rd m v s : Int} {X : Nat → Int} {rt : List (Int × Int)} (h : IsN xd X rd rt) (hs : SignOf (lessT rt m [(v, 1)] rd) s) : Sg (fun k => m * X k - xd * v * bits k) s := by
 obtain ⟨_, G, hG, rfl, hn⟩ := h
 have h1 := Sg.smul hG hs.sg
 refine h1.near ((Near.of_eq fun k => ?_).trans ((hn.smul m).sub (Near.refl fun k => rd * G * v * bits k)))
 (try dsimp only)
 rw [linT_lessT, linT_int]
 grind
theorem IsN.cmp {xd rd q s c : Int} {X : Nat → Int} {rt : List (Int × Int)} (h : IsN xd X rd rt) (hq : numOK 1 (ratT q) = true) (hc : CmpRes rd rt 1 (ratT q) s c) : Sg (fun k => X k - xd * q * bits k) s := by
 rcases hc with ⟨_, hs, _⟩ | ⟨hs, _, _⟩
 ·obtain ⟨_, G, hG, rfl, hn⟩ := h
  have h1 := Sg.smul hG hs.sg
  refine h1.near ((Near.of_eq fun k => ?_).trans (hn.sub (Near.refl fun k => rd * G * q * bits k)))
  (try dsimp only)
  rw [linT_lessT, linT_rat]
  grind
 ·rw [h.1, hq] at hs; cases hs
theorem IsN.low {xd rd f l : Int} {X : Nat → Int} {rt : List (Int × Int)} (h : IsN xd X rd rt) (hb : BelowRes rd rt f l) : LowOf X xd f l := by
 obtain ⟨⟨s, h1, h2⟩, ⟨t, h3, h4⟩, _⟩ := hb
 exact ⟨(h.sg h2).ge h1, (h.sg h4).lt h3⟩
theorem addS_new : ∀ (kv : List (Int × Int)) (r c : Int), r ∉ kv.map (·.1) → addS kv r c = kv ++ [(r, c)]
 | [], _, _, _ => rfl
 | (a, x) :: t, r, c, h => by
  unfold addS
  rw [if_neg (fun e => h (by simp [e])), addS_new t r c (fun hm => h (by simp [hm]))]; rfl
theorem addAll_free : ∀ (ts kv : List (Int × Int)) (m : Int), (∀ t ∈ ts, RootOK t.2) → (ts.map (·.2)).Nodup → (∀ t ∈ ts, t.2 ∉ kv.map (·.1)) → addAll kv ts m = kv ++ ts.map (fun t => (t.2, t.1 * m))
 | [], kv, m, _, _, _ => by simp [addAll]
 | t :: ts, kv, m, h1, h2, h3 => by
  have hr := h1 t (by simp)
  rw [List.map_cons, List.nodup_cons] at h2
  have e : addRoot kv (t.1 * m) t.2 = kv ++ [(t.2, t.1 * m)] := by
   unfold addRoot
   rw [if_pos (by have := hr.1; omega), splitN_of_free _ (by have := hr.1; omega) hr.2.2]
   dsimp only
   rw [Int.toNat_of_nonneg (by have := hr.1; omega), addS_new _ _ _ (h3 t (by simp))]; simp
  have := addAll_free ts (addRoot kv (t.1 * m) t.2) m (fun u hu => h1 u (by simp [hu])) h2.2 (fun u hu => by
   rw [e, List.map_append, List.mem_append]
   rintro (h | h)
   ·exact h3 u (by simp [hu]) h
   ·simp only [List.map_cons, List.map_nil, List.mem_singleton] at h
    exact h2.1 (by rw [← h]; exact List.mem_map_of_mem hu))
  show addAll (addRoot kv (t.1 * m) t.2) ts m = _
  rw [this, e]; simp
theorem root_over {s q : Int} (hs : 1 ≤ s ∧ s ≤ 100000) (hq : q ≤ 1000) : overS [(q, s)] 1 = (1, [(s, q)], 0) := by
 have hs0 : s ≠ 0 := by omega
 have hnz : [(q, s)].filter nz = [(q, s)] := by simp [nz, hs0]
 have hG : overG [(q, s)] 1 = 1 := by unfold overG; rw [hnz]; simp [gcdL]
 have hT : overT [(q, s)] 1 = [(s, q)] := by
  unfold overT termsG; rw [hG, hnz]
  simp [sortI, getS]
 unfold overS
 rw [hT, hG]
 have h1 : tooBig (s, q) = false := by unfold tooBig; simp [inB]; omega
 simp [h1]
theorem root_of {n : Int} (hn : 1 ≤ n ∧ n ≤ 1000) {r : Int × List (Int × Int) × Int} (h : RootRes (wholeN n).1 (wholeN n).2 r) : ∃ s q : Int, r = (1, [(s, q)], 0) ∧ 1 ≤ s ∧ s ≤ 31 ∧ RootOK q ∧ Near (rtA n) (fun k => s * rtA q k) := by
 obtain ⟨N, rfl⟩ := Int.eq_ofNat_of_zero_le (show 0 ≤ n by omega)
 have hN : 1 ≤ N := by omega
 obtain ⟨h1, h2, h3, h4⟩ := splitN_spec N hN
 have h5 := (splitN_le N hN).2
 have hs31 : (splitN N).1 ≤ 31 := by
  rcases Nat.lt_or_ge 31 (splitN N).1 with g | g
  ·have g1 := Nat.mul_le_mul (show 32 ≤ (splitN N).1 from g) (show 32 ≤ (splitN N).1 from g)
   have g2 := Nat.mul_le_mul_left ((splitN N).1 * (splitN N).1) h4
   omega
  ·exact g
 have hw : wholeN (N : Int) = (1, [((N : Int), 1)]) := by rw [wholeN_rat, ratT_some (by omega)]
 rw [hw] at h
 have hok : numOK 1 [((N : Int), 1)] = true := by rw [← ratT_some (show (N : Int) ≠ 0 by omega)]; exact numOK_rat.2 ⟨by omega, by omega, gcdL_one _⟩
 refine ⟨((splitN N).1 : Int), ((splitN N).2 : Int), ?_, by omega, by omega, ⟨by omega, by omega, by rw [Int.toNat_natCast]; exact h2⟩, rtA_split hN⟩
 rcases h with ⟨h, _⟩ | ⟨_, s, hs, h⟩
 ·rw [hok] at h; cases h
 ·rcases sign_one hs with ⟨g, _⟩ | ⟨_, g⟩ | ⟨g, _⟩
  ·omega
  ·rcases h with ⟨h, _⟩ | ⟨h, _⟩ | ⟨_, h⟩
   ·omega
   ·omega
   ·have e0 : rootP 1 [((N : Int), 1)] = overS (intoS [] (N : Int) 1 1) 1 := by unfold rootP; simp
    rw [h]
    show rootP 1 [((N : Int), 1)] = _
    rw [e0]
    have e : intoS [] (N : Int) 1 1 = [(((splitN N).2 : Int), ((splitN N).1 : Int))] := by
     unfold intoS
     rw [if_pos (by omega), Int.mul_one, Int.toNat_natCast]
     simp [addS]
    rw [e]
    exact root_over (by omega) (by omega)
  ·omega
theorem opp_of {rd xd : Int} {rt : List (Int × Int)} {X : Nat → Int} (h : IsN xd X rd rt) : (plusS 1 [] rd rt (-1)).2.2 = 0 ∧ IsN xd (fun k => -X k) (plusS 1 [] rd rt (-1)).1 (plusS 1 [] rd rt (-1)).2.1 := by
 obtain ⟨hok, G, hG, hGe, hn⟩ := h
 have hp := numOK_parts hok
 obtain ⟨hr1, hr2⟩ := numOK_roots hok
 have h0 : numOK 1 [] = true := by decide +kernel
 have hcode : (plusS 1 [] rd rt (-1)).2.2 = 0 := by
  unfold plusS
  rw [h0, hok]
  simp only [Bool.and_self, if_true]
  have e : addAll (addAll [] [] rd) rt (-1 * 1) = rt.map (fun t => (t.2, t.1 * (-1 * 1))) := by
   rw [show addAll [] [] rd = [] from rfl, addAll_free rt [] _ hr1 hr2 (by simp)]; rfl
  rw [e]
  have hk : (rt.map (fun t => (t.2, t.1 * (-1 * 1)))).map (·.1) = rt.map (·.2) := by rw [List.map_map]; rfl
  refine overS_small (by rw [hk]; exact hr2) (by rw [List.length_map]; exact hp.2.2.1) (fun r => ?_) (fun r hr => ?_) (by omega)
  ·rcases getS_mem (rt.map (fun t => (t.2, t.1 * (-1 * 1)))) r with h | h
   ·rw [h]; omega
   ·obtain ⟨t, ht, he⟩ := List.mem_map.1 h
    injection he with _ he
    have := (hp.2.2.2 t ht).1.2.2.2
    rw [← he]; omega
  ·rw [hk] at hr
   obtain ⟨t, ht, rfl⟩ := List.mem_map.1 hr
   exact (hr1 t ht).2.1
 refine ⟨hcode, ?_⟩
 obtain ⟨d, t, c, he⟩ : ∃ d t c, plusS 1 [] rd rt (-1) = (d, t, c) := ⟨_, _, _, rfl⟩
 rw [he] at hcode ⊢
 dsimp only at hcode ⊢
 subst hcode
 obtain ⟨_, _, G2, hG2, hGe2, hGn2⟩ := plusS_lin he
 refine ⟨plusS_numOK he, G2 * G, Int.mul_pos hG2 hG, by rw [hGe, ← Int.mul_assoc, ← hGe2, Int.one_mul], ?_⟩
 refine Near.trans (Near.of_eq fun k => ?_) ((hGn2.smul G).trans (Near.trans (Near.of_eq fun k => ?_) hn.neg))
 ·(try dsimp only); grind
 ·(try dsimp only); rw [linT_nil]; grind
end Go.Proofs.YthkblgglmohciaaGreatDoor
namespace Go.Proofs.YthkblgglmohciaaGreatDoor
theorem Grows.not_nonpos {f : Nat → Int} (h : Grows f) (h0 : ∀ k, f k ≤ 0) : False := by
 obtain ⟨D, k0, hD, h⟩ := h
 have := Grows.pos hD (h k0 (Nat.le_refl _))
 have := h0 k0
 omega
theorem Grows.le {f g : Nat → Int} (h : Grows f) (h0 : ∀ k, f k ≤ g k) : Grows g := by
 obtain ⟨D, k0, hD, h⟩ := h
 exact ⟨D, k0, hD, fun k hk => Int.le_trans (h k hk) (Int.mul_le_mul_of_nonneg_left (h0 k) (Int.le_of_lt hD))⟩
theorem Sg.one {f : Nat → Int} {s : Int} (h : Sg f s) (hs : 0 < s) : Grows f := by
 rcases h with ⟨_, h⟩ | ⟨h, _⟩ | ⟨h, _⟩
 ·exact h
 ·omega
 ·omega
theorem Sg.of_grows {f : Nat → Int} {s : Int} (h : Sg f s) (hg : Grows f) : s = 1 := h.unique (.inl ⟨rfl, hg⟩)
theorem rtA_le32 {n : Int} (hn : n ≤ 1000) (k : Nat) : rtA n k ≤ 32 * bits k := by
 unfold rtA
 have h1 := isq_le (n.toNat * (bits k * bits k))
 have h2 : n.toNat * (bits k * bits k) < (32 * bits k + 1) * (32 * bits k + 1) := by
  have g1 : n.toNat * (bits k * bits k) ≤ 1024 * (bits k * bits k) := Nat.mul_le_mul_right _ (by omega)
  have g2 : 1024 * (bits k * bits k) = (32 * bits k) * (32 * bits k) := by rw [Nat.mul_mul_mul_comm]
  have g3 : (32 * bits k) * (32 * bits k) < (32 * bits k + 1) * (32 * bits k + 1) := Nat.mul_self_lt_mul_self (Nat.lt_succ_self _)
  omega
 have := root_le h1 h2
 omega
end Go.Proofs.YthkblgglmohciaaGreatDoor
namespace Go.Proofs.YthkblgglmohciaaGreatDoor
open LI
def RootF (r : Int) : Prop := 1 ≤ r ∧ SqFree r.toNat
theorem RootOK.free {r : Int} (h : RootOK r) : RootF r := ⟨h.1, h.2.2⟩
theorem all_factors' : ∀ (ts : List (Int × Int)), (∀ t ∈ ts, RootF t.2) → ∃ qs : List Nat, (∀ p ∈ qs, Pr p) ∧ ∀ t ∈ ts, ∃ l : List Nat, (∀ p ∈ l, Pr p) ∧ l.Nodup ∧ (∀ p ∈ l, p ∈ qs) ∧ prod l = t.2.toNat
 | [], _ => ⟨[], by simp, by simp⟩
 | t :: ts, h => by
  obtain ⟨qs, h1, h3⟩ := all_factors' ts (fun u hu => h u (List.mem_cons_of_mem _ hu))
  obtain ⟨g1, g3⟩ := h t (by simp)
  obtain ⟨l, hl, hs, hp⟩ := factors t.2.toNat (by omega) g3
  refine ⟨l ++ qs, ?_, ?_⟩
  ·intro p hp
   rcases List.mem_append.1 hp with h | h
   ·exact hl p h
   ·exact h1 p h
  ·intro u hu
   rcases List.mem_cons.1 hu with rfl | hu
   ·exact ⟨l, hl, hs.imp (fun h => by omega), fun p hp => List.mem_append.2 (.inl hp), hp⟩
   ·obtain ⟨l', k1, k2, k3, k4⟩ := h3 u hu
    exact ⟨l', k1, k2, fun p hp => List.mem_append.2 (.inr (k3 p hp)), k4⟩
theorem SignOf.exists_any (ts : List (Int × Int)) (hr : ∀ t ∈ ts, RootF t.2) (hk : (ts.map (·.2)).Nodup) : ∃ K, ts.filter nzT = [] ∨ verdict (ts.filter nzT) K ≠ 0 := by
 by_cases h : ts.filter nzT = []
 ·exact ⟨0, .inl h⟩
 ·have hr' : ∀ t ∈ ts.filter nzT, RootF t.2 := fun t ht => hr t (List.mem_filter.1 ht).1
  obtain ⟨qs, h1, h3⟩ := all_factors' (ts.filter nzT) hr'
  obtain ⟨Y, _, hd⟩ := decided (ps := once qs) (fun p hp => h1 p (mem_once.1 hp)) (once_nodup qs) h (fun t ht => by
   obtain ⟨l, g1, g2, g3, g4⟩ := h3 t ht
   exact fac_of (fun p hp => h1 p (mem_once.1 hp)) g1 g2 (fun p hp => mem_once.2 (g3 p hp)) g4) (fun t ht e => by
   have h2 := (List.mem_filter.1 ht).2
   rw [nzT, e] at h2
   cases h2) (fun t ht => by have := (hr' t ht).1; omega) (List.Nodup.sublist (List.filter_sublist.map _) hk)
  generalize (slack (once qs).length (ts.filter nzT) + (ts.filter nzT).length) * Y + 2 * (once qs).length * ((conv (ts.filter nzT)).map fun t => t.1.natAbs * t.2).sum * Y = Z at hd
  exact ⟨Z + 1, .inr (hd (Z + 1) (by have := bits_ge (Z + 1); omega))⟩
theorem cf_swap : ∀ (kv : List (Int × Int)) (r : Int), (kv.map (·.1)).Nodup → cf (kv.map swapT) r = getS kv r
 | [], _, _ => rfl
 | (a, x) :: t, r, h => by
  rw [List.map_cons, List.nodup_cons] at h
  rw [List.map_cons, cf_cons, cf_swap t r h.2]
  show (if r = a then x else 0) + getS t r = if r = a then x else getS t r
  split
  ·rename_i e
   subst e
   have : getS t r = 0 := by
    rcases getS_mem t r with h1 | h1
    ·exact h1
    ·exact absurd (List.mem_map_of_mem (f := (·.1)) h1) h.1
   omega
  ·omega
theorem zero_free {kv : List (Int × Int)} (hn : (kv.map (·.1)).Nodup) (hf : ∀ r ∈ kv.map (·.1), RootF r) (h : Bdd (linK kv)) (r : Int) : getS kv r = 0 := by
 have hk : (kv.map swapT).map (·.2) = kv.map (·.1) := by rw [List.map_map]; rfl
 obtain ⟨K, hK⟩ := SignOf.exists_any (kv.map swapT) (fun t ht => hf _ (by rw [← hk]; exact List.mem_map_of_mem ht)) (by rw [hk]; exact hn)
 have hb : Bdd (linT (kv.map swapT)) := h.congr fun k => (linT_swap kv k).symm
 have hz : (kv.map swapT).filter nzT = [] := by
  rcases hK with h1 | h1
  ·exact h1
  ·exfalso
   rcases verdict_range ((kv.map swapT).filter nzT) K with h2 | h2 | h2
   ·exact (verdict_grows h2).not_bdd (hb.congr fun k => (linT_nz _ k).symm)
   ·exact (verdict_falls h2).not_bdd (hb.neg.congr fun k => by rw [linT_nz _ k])
   ·exact h1 h2
 rcases getS_mem kv r with h1 | h1
 ·exact h1
 ·rcases Decidable.em (getS kv r = 0) with h3 | h3
  ·exact h3
  ·have h4 : (getS kv r, r) ∈ (kv.map swapT).filter nzT := List.mem_filter.2 ⟨List.mem_map.2 ⟨_, h1, rfl⟩, by simp [nzT, h3]⟩
   rw [hz] at h4; cases h4
def scaleK (kv : List (Int × Int)) (m : Int) : List (Int × Int) := kv.map fun p => (p.1, p.2 * m)
theorem scaleK_keys (kv : List (Int × Int)) (m : Int) : (scaleK kv m).map (·.1) = kv.map (·.1) := by unfold scaleK; rw [List.map_map]; rfl
theorem getS_scale : ∀ (kv : List (Int × Int)) (m r : Int), getS (scaleK kv m) r = getS kv r * m
 | [], m, r => by show (0 : Int) = 0 * m; omega
 | (a, x) :: t, m, r => by
  show (if r = a then x * m else getS (scaleK t m) r) = (if r = a then x else getS t r) * m
  rw [getS_scale t m r]
  split <;> rfl
theorem linK_scale : ∀ (kv : List (Int × Int)) (m : Int) (k : Nat), linK (scaleK kv m) k = m * linK kv k
 | [], m, k => by show (0 : Int) = m * 0; omega
 | p :: t, m, k => by
  show linK ((p.1, p.2 * m) :: scaleK t m) k = _
  rw [linK_cons, linK_cons, linK_scale t m k, Int.mul_add, Int.mul_comm p.2 m, Int.mul_assoc]
theorem Near.bdd {f g : Nat → Int} (h : Near f g) : Bdd fun k => f k - g k := h
theorem coef_near {kv : List (Int × Int)} {ts : List (Int × Int)} {m den : Int} (hn : (kv.map (·.1)).Nodup) (hf : ∀ r ∈ kv.map (·.1), RootF r) (ht : ∀ t ∈ ts, RootF t.2) (h : Near (fun k => m * linK kv k) (fun k => den * linT ts k)) (r : Int) : getS kv r * m = cf ts r * den := by
 have hk := addB_keys (P := RootF) ts (scaleK kv m) (-den) (by rw [scaleK_keys]; exact hn) (by rw [scaleK_keys]; exact hf) ht
 have hz := zero_free hk.1 hk.2 (Bdd.congr (fun k => by (try dsimp only); rw [linK_addB, linK_scale, Int.neg_mul]; omega) h.bdd) r
 rw [getS_addB, getS_scale, Int.mul_neg] at hz
 omega
theorem gcdL_dvd_of {n : Nat} {l : List Int} (h : ∀ x ∈ l, n ∣ x.natAbs) : n ∣ gcdL l := by
 have key : ∀ (l : List Int) (g : Nat), n ∣ g → (∀ x ∈ l, n ∣ x.natAbs) → n ∣ l.foldl (fun g x => Nat.gcd g x.natAbs) g := fun l => by
  induction l with
  | nil => intro g hg _; exact hg
  | cons x l ih => intro g hg h; exact ih _ (Nat.dvd_gcd hg (h x (by simp))) (fun y hy => h y (List.mem_cons_of_mem _ hy))
 exact key l 0 (Nat.dvd_zero n) h
theorem gcdL_scaleI (m : Int) (l : List Int) : gcdL (l.map fun x => x * m) = gcdL l * m.natAbs := by
 have key : ∀ (l : List Int) (g : Nat), (l.map fun x => x * m).foldl (fun g x => Nat.gcd g x.natAbs) (g * m.natAbs) = l.foldl (fun g x => Nat.gcd g x.natAbs) g * m.natAbs := fun l => by
  induction l with
  | nil => intro g; rfl
  | cons x l ih =>
   intro g
   rw [List.map_cons, List.foldl_cons, List.foldl_cons, Int.natAbs_mul, Nat.gcd_mul_right]
   exact ih _
 have := key l 0
 rw [Nat.zero_mul] at this
 exact this
theorem chkT_le : ∀ {ts : List (Int × Int)} {last : Int}, chkT last ts = true → (ts.map (·.2)).Pairwise (fun a b => a ≤ b)
 | [], _, _ => by simp
 | t :: ts, last, h => by
  rw [List.map_cons, List.pairwise_cons]
  refine ⟨fun r hr => ?_, chkT_le (chkT_tail h)⟩
  obtain ⟨u, hu, rfl⟩ := List.mem_map.1 hr
  have := (chkT_gt ts t.2 (chkT_tail h) u hu).1
  omega
theorem getS_mapT : ∀ (ts : List (Int × Int)) (G r : Int), (ts.map (·.2)).Nodup → getS (ts.map fun t => (t.2, t.1 * G)) r = cf ts r * G
 | [], G, r, _ => by show (0 : Int) = 0 * G; omega
 | t :: ts, G, r, h => by
  rw [List.map_cons, List.nodup_cons] at h
  rw [List.map_cons, cf_cons, Int.add_mul]
  show (if r = t.2 then t.1 * G else getS (ts.map fun t => (t.2, t.1 * G)) r) = _
  rw [getS_mapT ts G r h.2]
  split
  ·rename_i e
   rw [cf_none ts r (fun u hu e' => h.1 (by rw [← e, ← e']; exact List.mem_map_of_mem hu))]; omega
  ·omega
theorem numOK_small {d : Int} {ts : List (Int × Int)} (h : numOK d ts = true) : ts.any tooBig = false := by
 rw [List.any_eq_false]
 intro t ht
 obtain ⟨a1, a2, a3, a4⟩ := ((numOK_parts h).2.2.2 t ht).1
 have e : inB t.1 (-100000) 100000 = true := by simp [inB]; omega
 unfold tooBig
 rw [e]
 simp; omega
theorem over_scaled {d G : Int} {ts : List (Int × Int)} (ho : numOK d ts = true) (hG : G ≠ 0) : overS (ts.map fun t => (t.2, t.1 * G)) (d * G) = (d, ts, 0) := by
 obtain ⟨p1, p2, p3, p4⟩ := numOK_parts ho
 obtain ⟨c1, c2⟩ := numOK_chk ho
 have hnd := (numOK_roots ho).2
 have hnz : (ts.map fun t => (t.2, t.1 * G)).filter nz = ts.map fun t => (t.2, t.1 * G) := by
  rw [List.filter_eq_self]
  intro p hp
  obtain ⟨t, ht, rfl⟩ := List.mem_map.1 hp
  have := (p4 t ht).1.2.2.1
  simp [nz, Int.mul_ne_zero this hG]
 have hg : overG (ts.map fun t => (t.2, t.1 * G)) (d * G) = G := by
  have e1 : d * G :: (ts.map fun t => (t.2, t.1 * G)).map (·.2) = (d :: ts.map (·.1)).map fun x => x * G := by
   rw [List.map_cons, List.map_map, List.map_map]; rfl
  rw [overG_eq, e1, gcdL_scaleI, c2, Nat.one_mul]
  rcases Int.lt_or_le G 0 with h | h
  ·rw [if_pos (Int.mul_neg_of_pos_of_neg (by omega) h)]; omega
  ·rw [if_neg (by have := Int.mul_nonneg (show 0 ≤ d by omega) h; omega)]; omega
 have hkeys : (ts.map fun t => (t.2, t.1 * G)).map (·.1) = ts.map (·.2) := by rw [List.map_map]; rfl
 have hs : sortI (ts.map (·.2)) = ts.map (·.2) := sorted_unique _ _ (sortI_perm _) (sortI_sorted _) (chkT_le c1)
 have hT : overT (ts.map fun t => (t.2, t.1 * G)) (d * G) = ts := by
  unfold overT termsG
  rw [hg, hnz, hkeys, hs, List.map_map]
  have e2 : ts.map ((fun r => ((getS (ts.map fun t => (t.2, t.1 * G)) r).tdiv G, r)) ∘ fun t : Int × Int => t.2) = ts.map id := by
   refine List.map_congr_left (fun t ht => ?_)
   have e3 := getS_of_mem (kv := ts.map fun t => (t.2, t.1 * G)) (by rw [hkeys]; exact hnd) (t.2, t.1 * G) (List.mem_map.2 ⟨t, ht, rfl⟩)
   show ((getS (ts.map fun t => (t.2, t.1 * G)) t.2).tdiv G, t.2) = t
   dsimp only at e3
   rw [e3, Int.mul_tdiv_cancel _ hG]
  rw [e2, List.map_id]
 unfold overS
 rw [hT, hg, Int.mul_tdiv_cancel _ hG, if_neg (by omega), numOK_small ho]
 rw [if_neg]
 simp; omega
theorem overS_eq {kv : List (Int × Int)} {den d : Int} {ts : List (Int × Int)} (hn : (kv.map (·.1)).Nodup) (hd : den ≠ 0) (ho : numOK d ts = true) (h : ∀ r, getS kv r * d = cf ts r * den) : overS kv den = (d, ts, 0) := by
 obtain ⟨p1, p2, p3, p4⟩ := numOK_parts ho
 obtain ⟨c1, c2⟩ := numOK_chk ho
 have hnd := (numOK_roots ho).2
 have hdv : d ∣ den := by
  have g1 := gcdL_scaleI den (d :: ts.map (·.1))
  rw [c2, Nat.one_mul] at g1
  have g2 : d.natAbs ∣ gcdL ((d :: ts.map (·.1)).map fun x => x * den) := gcdL_dvd_of (fun x hx => by
   rw [List.map_cons, List.mem_cons] at hx
   rcases hx with rfl | hx
   ·exact Int.natAbs_dvd_natAbs.2 (Int.dvd_mul_right d den)
   ·rw [List.map_map] at hx
    obtain ⟨t, ht, rfl⟩ := List.mem_map.1 hx
    have g3 := h t.2
    have g4 : cf ts t.2 = t.1 := by
     have g5 := getS_mapT ts 1 t.2 hnd
     have g6 := getS_of_mem (kv := ts.map fun t => (t.2, t.1 * 1)) (by rw [List.map_map]; exact hnd) (t.2, t.1 * 1) (List.mem_map.2 ⟨t, ht, rfl⟩)
     dsimp only at g6
     rw [g6] at g5
     omega
    rw [g4] at g3
    show d.natAbs ∣ (t.1 * den).natAbs
    rw [← g3]
    exact Int.natAbs_dvd_natAbs.2 (Int.dvd_mul_left _ d))
  rw [g1] at g2
  exact Int.natAbs_dvd_natAbs.1 g2
 obtain ⟨G, rfl⟩ := hdv
 have hG : G ≠ 0 := fun e => hd (by rw [e, Int.mul_zero])
 rw [← over_scaled ho hG]
 refine overS_ext hn (by rw [List.map_map]; exact hnd) (fun r => ?_) _
 rw [getS_mapT ts G r hnd]
 have := h r
 rw [Int.mul_comm d G, ← Int.mul_assoc] at this
 exact Int.eq_of_mul_eq_mul_right (show d ≠ 0 by omega) this
theorem overS_near {kv : List (Int × Int)} {den d : Int} {ts : List (Int × Int)} (hn : (kv.map (·.1)).Nodup) (hf : ∀ r ∈ kv.map (·.1), RootF r) (hd : den ≠ 0) (ho : numOK d ts = true) (h : Near (fun k => d * linK kv k) (fun k => den * linT ts k)) : overS kv den = (d, ts, 0) :=
 overS_eq hn hd ho (coef_near hn hf (fun t ht => ((numOK_roots ho).1 t ht).free) h)
theorem overS_code (kv : List (Int × Int)) (den : Int) : (overS kv den).2.2 = 0 ∨ overS kv den = (0, [], 10) ∨ (overS kv den = (0, [], 8) ∧ 4 < kv.length) := by
 unfold overS
 split
 ·rename_i h
  refine .inr (.inr ⟨rfl, ?_⟩)
  have : (overT kv den).length ≤ kv.length := by
   unfold overT termsG
   rw [List.length_map, (sortI_perm _).length_eq, List.length_map]
   exact List.length_filter_le _ _
  omega
 ·split
  ·exact .inr (.inl rfl)
  ·exact .inl rfl
theorem overS_neg {kv : List (Int × Int)} {den : Int} (h : den < 0) : overS kv den = overS (scaleK kv (-1)) (-den) := by
 have hG : overG (scaleK kv (-1)) (-den) = -overG kv den := by
  have e1 : -den :: (scaleK kv (-1)).map (·.2) = (den :: kv.map (·.2)).map fun x => x * -1 := by
   unfold scaleK
   rw [List.map_cons, List.map_map, List.map_map, Int.mul_neg, Int.mul_one]; rfl
  rw [overG_eq, overG_eq, e1, gcdL_scaleI, if_neg (by omega), if_pos h]
  simp
 have hnz : (scaleK kv (-1)).filter nz = scaleK (kv.filter nz) (-1) := by
  unfold scaleK
  rw [List.filter_map]
  congr 1
  refine List.filter_congr (fun p _ => ?_)
  show decide (p.2 * -1 ≠ 0) = decide (p.2 ≠ 0)
  rw [decide_eq_decide]
  omega
 have hT : overT (scaleK kv (-1)) (-den) = overT kv den := by
  unfold overT termsG
  rw [hG, hnz, scaleK_keys]
  refine List.map_congr_left (fun r _ => ?_)
  rw [getS_scale, Int.mul_neg, Int.mul_one, Int.tdiv_neg, Int.neg_tdiv, Int.neg_neg]
 unfold overS
 rw [hT, hG, Int.tdiv_neg, Int.neg_tdiv, Int.neg_neg]
theorem overS_valid {kv : List (Int × Int)} {den d : Int} {ts : List (Int × Int)} (hn : (kv.map (·.1)).Nodup) (hf : ∀ r ∈ kv.map (·.1), RootF r) (hd : den ≠ 0) (h : overS kv den = (d, ts, 0)) : numOK d ts = true := by
 have key : ∀ {kv : List (Int × Int)} {den : Int}, (kv.map (·.1)).Nodup → (∀ r ∈ kv.map (·.1), RootF r) → 0 < den → overS kv den = (d, ts, 0) → numOK d ts = true := by
  intro kv den hn hf hd h
  have e1 : overS (kv.filter nz) den = overS kv den := overS_ext (filter_keys _ hn) hn (fun r => by
   rcases getS_mem kv r with h1 | h1
   ·rcases getS_mem (kv.filter nz) r with h2 | h2
    ·rw [h1, h2]
    ·exact (getS_of_mem hn _ (List.mem_filter.1 h2).1).symm
   ·by_cases h0 : getS kv r = 0
    ·rcases getS_mem (kv.filter nz) r with h2 | h2
     ·rw [h0, h2]
     ·exact (getS_of_mem hn _ (List.mem_filter.1 h2).1).symm
    ·exact getS_of_mem (filter_keys _ hn) (r, getS kv r) (List.mem_filter.2 ⟨h1, by simp [nz, h0]⟩)) den
  rw [← e1] at h
  refine overS_numOK (filter_keys _ hn) (fun r hr => ?_) hd h
  have hr' : r ∈ kv.map (·.1) := List.Sublist.subset (List.filter_sublist.map _) hr
  refine ⟨(hf r hr').1, ?_, (hf r hr').2⟩
  have hff : (kv.filter nz).filter nz = kv.filter nz := by rw [List.filter_filter]; simp
  have hm : ((getS (kv.filter nz) r).tdiv (overG (kv.filter nz) den), r) ∈ overT (kv.filter nz) den := by
   unfold overT termsG
   rw [hff]
   exact List.mem_map.2 ⟨r, (sortI_perm _).mem_iff.2 hr, rfl⟩
  unfold overS at h
  split at h
  ·injection h with _ h; injection h with _ h; cases h
  ·split at h
   ·injection h with _ h; injection h with _ h; cases h
   ·rename_i hb
    simp only [Bool.or_eq_true, decide_eq_true_eq, List.any_eq_true, not_or, not_exists, not_and] at hb
    have := hb.2 _ hm
    unfold tooBig at this
    simp only [Bool.or_eq_true, decide_eq_true_eq, not_or] at this
    omega
 rcases Int.lt_or_le 0 den with h0 | h0
 ·exact key hn hf h0 h
 ·rw [overS_neg (show den < 0 by omega)] at h
  exact key (by rw [scaleK_keys]; exact hn) (by rw [scaleK_keys]; exact hf) (by omega) h
end Go.Proofs.YthkblgglmohciaaGreatDoor
namespace Go.Proofs.YthkblgglmohciaaGreatDoor
theorem Near.unsmul {f g : Nat → Int} {c : Int} (hc : c ≠ 0) (h : Near (fun k => c * f k) (fun k => c * g k)) : Near f g := by
 obtain ⟨C, hC0, h⟩ := Bdd.nonneg h
 refine ⟨C, fun k => ?_⟩
 have h1 := h k
 dsimp only at h1 ⊢
 rw [← Int.mul_sub] at h1
 generalize f k - g k = x at *
 have h2 : (c * x).natAbs ≤ C.natAbs := by omega
 rw [Int.natAbs_mul] at h2
 have h3 : 1 * x.natAbs ≤ c.natAbs * x.natAbs := Nat.mul_le_mul_right _ (by omega)
 omega
theorem MulN.assoc {f g k h m p : Nat → Int} (H1 : MulN f g h) (H2 : MulN g k m) (H3 : MulN f m p) (of : OB f) (ok : OB k) : MulN h k p := by
 obtain ⟨C, H1⟩ := H1; obtain ⟨D, H2⟩ := H2; obtain ⟨E, H3⟩ := H3; obtain ⟨F, of⟩ := of; obtain ⟨K, ok⟩ := ok
 refine ⟨E + F * D + C * K, fun n => ?_⟩
 have a1 := mul_abs (of n) (H2 n)
 have a2 := mul_abs (H1 n) (ok n)
 have a3 := mul_abs (a := (bits n : Int)) (A := bits n) ⟨by have := bitsI_pos n; omega, Int.le_refl _⟩ (H3 n)
 have key : bits n * (h n * k n - bits n * p n) = bits n * (f n * m n - bits n * p n) + f n * (g n * k n - bits n * m n) - (f n * g n - bits n * h n) * k n := by grind
 have e1 : F * bits n * (D * bits n) = F * D * bits n * bits n := by grind
 have e2 : C * bits n * (K * bits n) = C * K * bits n * bits n := by grind
 have e3 : (bits n : Int) * (E * bits n) = E * bits n * bits n := by grind
 have e4 : (E + F * D + C * K) * bits n * bits n = E * bits n * bits n + F * D * bits n * bits n + C * K * bits n * bits n := by grind
 rw [e1] at a1
 rw [e2] at a2
 rw [e3] at a3
 constructor
 ·have := le_of_mul_bits (a := -(h n * k n - bits n * p n)) (C := (E + F * D + C * K) * bits n) (k := n) (by rw [Int.mul_neg, e4]; omega)
  omega
 ·exact le_of_mul_bits (k := n) (by rw [e4]; omega)
theorem MulN.cst (c : Int) (f : Nat → Int) : MulN f (fun k => c * bits k) (fun k => c * f k) := ⟨0, fun k => by
 have h : f k * (c * bits k) - bits k * (c * f k) = 0 := by grind
 dsimp only
 omega⟩
theorem rt_self {r : Int} (h : 1 ≤ r) : MulN (rtA r) (rtA r) (fun k => r * bits k) := by
 obtain ⟨n, rfl⟩ := Int.eq_ofNat_of_zero_le (show 0 ≤ r by omega)
 exact (rt_mul (r := n) (q := n) (by omega) n 1 1 (Nat.one_mul n).symm (Nat.one_mul n).symm (by omega)).congr (fun _ => rfl) (fun _ => rfl) (fun k => by
  have : (((1 * 1 : Nat) : Int)) = 1 := rfl
  rw [this, rtA_one])
theorem turn_mul {yd : Int} {yt : List (Int × Int)} (h1 : yt.length ≠ 0) (h2 : ¬ 2 < yt.length) (hr : ∀ u ∈ yt, 1 ≤ u.2) : MulN (linT (turnL yd yt)) (linT yt) (fun k => yd * normL yt * bits k) := by
 match yt, h1, h2, hr with
 | [a], _, _, hr =>
  have e1 : turnL yd [a] = [(a.1 * (1 * yd), a.2)] := rfl
  have e2 : normL [a] = 1 * a.1 * a.1 * a.2 + 0 := rfl
  refine (((rt_self (hr a (by simp))).smul a.1).comm.smul (a.1 * yd)).comm.congr (fun k => ?_) (fun k => ?_) (fun k => ?_)
  ·rw [e1, linT_cons, linT_nil]; (try dsimp only); grind
  ·rw [linT_cons, linT_nil]; (try dsimp only); grind
  ·(try dsimp only); rw [e2]; grind
 | [a, b], _, _, hr =>
  have e1 : turnL yd [a, b] = [(a.1 * (1 * yd), a.2), (b.1 * (-1 * yd), b.2)] := rfl
  have e2 : normL [a, b] = 1 * a.1 * a.1 * a.2 + (-1 * b.1 * b.1 * b.2 + 0) := rfl
  obtain ⟨C, hC⟩ := rt_self (hr a (by simp)); obtain ⟨D, hD⟩ := rt_self (hr b (by simp))
  refine ⟨((yd * a.1 * a.1).natAbs : Int) * C + ((yd * b.1 * b.1).natAbs : Int) * D, fun k => ?_⟩
  have a1 := mul_abs (a := yd * a.1 * a.1) (A := (yd * a.1 * a.1).natAbs) (by omega) (hC k)
  have a2 := mul_abs (a := yd * b.1 * b.1) (A := (yd * b.1 * b.1).natAbs) (by omega) (hD k)
  dsimp only at a1 a2 ⊢
  rw [e1, e2, linT_cons, linT_cons, linT_nil, linT_cons, linT_cons, linT_nil]
  dsimp only
  have e3 : (a.1 * (1 * yd) * rtA a.2 k + (b.1 * (-1 * yd) * rtA b.2 k + 0)) * (a.1 * rtA a.2 k + (b.1 * rtA b.2 k + 0)) - bits k * (yd * (1 * a.1 * a.1 * a.2 + (-1 * b.1 * b.1 * b.2 + 0)) * bits k) =
   yd * a.1 * a.1 * (rtA a.2 k * rtA a.2 k - bits k * (a.2 * bits k)) - yd * b.1 * b.1 * (rtA b.2 k * rtA b.2 k - bits k * (b.2 * bits k)) := by grind
  have e4 : (((yd * a.1 * a.1).natAbs : Int) * C + ((yd * b.1 * b.1).natAbs : Int) * D) * bits k = ((yd * a.1 * a.1).natAbs : Int) * (C * bits k) + ((yd * b.1 * b.1).natAbs : Int) * (D * bits k) := by rw [Int.add_mul, Int.mul_assoc _ C, Int.mul_assoc _ D]
  rw [e3, e4]
  omega
 | _ :: _ :: _ :: _, _, h2, _ => exact absurd (by simp) h2
theorem mulK_free {t u : Int × Int} (ht : RootF t.2) (hu : RootF u.2) : RootF (mulK t u) := by
 obtain ⟨h1, f1⟩ := ht; obtain ⟨h2, f2⟩ := hu
 have e := split_mul (a := t.2.toNat) (b := u.2.toNat) (by omega) (by omega) f1 f2
 obtain ⟨_, g1, _, g2⟩ := splitN_spec (t.2.toNat * u.2.toNat) (Nat.mul_pos (by omega) (by omega))
 rw [e] at g1 g2
 dsimp only at g1 g2
 have e2 : gcdL [t.2, u.2] = Nat.gcd t.2.toNat u.2.toNat := by
  rw [gcdL_two]
  congr 1 <;> omega
 unfold mulK
 rw [e2]
 exact ⟨by omega, by rw [Int.toNat_natCast]; exact g1⟩
theorem addS_mem {kv : List (Int × Int)} {r c q : Int} (h : q ∈ (addS kv r c).map (·.1)) : q ∈ kv.map (·.1) ∨ q = r := by
 rw [addS_keys] at h
 split at h
 ·exact .inl h
 ·rcases List.mem_append.1 h with h | h
  ·exact .inl h
  ·exact .inr (by simpa using h)
theorem prodR_keys {P : Int → Prop} : ∀ (b kv : List (Int × Int)) (t : Int × Int), (∀ r ∈ kv.map (·.1), P r) → (∀ u ∈ b, P (mulK t u)) → ∀ r ∈ (prodR kv t b).map (·.1), P r
 | [], _, _, h, _ => h
 | u :: b, kv, t, h, hb => prodR_keys b _ t (fun r hr => by
   rcases addS_mem hr with h1 | h1
   ·exact h r h1
   ·rw [h1]; exact hb u (by simp)) (fun v hv => hb v (List.mem_cons_of_mem _ hv))
theorem prodS_keys {P : Int → Prop} : ∀ (a b kv : List (Int × Int)), (∀ r ∈ kv.map (·.1), P r) → (∀ t ∈ a, ∀ u ∈ b, P (mulK t u)) → ∀ r ∈ (prodS kv a b).map (·.1), P r
 | [], _, _, h, _ => h
 | t :: a, b, kv, h, hb => prodS_keys a b _ (prodR_keys b kv t h (hb t (by simp))) (fun v hv => hb v (List.mem_cons_of_mem _ hv))
theorem prod_free {a b : List (Int × Int)} (ha : ∀ t ∈ a, RootF t.2) (hb : ∀ t ∈ b, RootF t.2) : ∀ r ∈ (prodS [] a b).map (·.1), RootF r :=
 prodS_keys a b [] (by simp) (fun t ht u hu => mulK_free (ha t ht) (hb u hu))
theorem numOK_free {d : Int} {ts : List (Int × Int)} (h : numOK d ts = true) : ∀ t ∈ ts, RootF t.2 := fun t ht => ((numOK_roots h).1 t ht).free
theorem turn_free {yd : Int} {yt : List (Int × Int)} (h : ∀ t ∈ yt, RootF t.2) : ∀ t ∈ turnL yd yt, RootF t.2 := fun u hu => by
 obtain ⟨t, ht, i, rfl⟩ := mem_turnL hu
 exact h t ht
theorem numOK_d {d : Int} {ts : List (Int × Int)} (h : numOK d ts = true) : 0 < d := by have := (numOK_parts h).1; omega
theorem plus_free {xd yd m : Int} {xt yt : List (Int × Int)} (hx : numOK xd xt = true) (hy : numOK yd yt = true) : ((addAll (addAll [] xt yd) yt m).map (·.1)).Nodup ∧ ∀ r ∈ (addAll (addAll [] xt yd) yt m).map (·.1), RootF r :=
 ⟨addAll_nodup' yt _ _ (addAll_nodup' xt [] _ (by simp)), fun r hr => (addAll_keys yt _ _ (addAll_keys xt [] _ (by simp) (numOK_le hx)) (numOK_le hy) r hr).free⟩
theorem plus_lin (xd yd m : Int) (xt yt : List (Int × Int)) : Near (linK (addAll (addAll [] xt yd) yt (m * xd))) (fun k => yd * linT xt k + m * xd * linT yt k) :=
 (linK_addAll yt _ _).trans (((linK_addAll xt [] yd).add (Near.refl fun k => m * xd * linT yt k)).trans (Near.of_eq fun k => by (try dsimp only); rw [linK_nil]; omega))
theorem IsN.self {d : Int} {ts : List (Int × Int)} (h : numOK d ts = true) : IsN d (linT ts) d ts := ⟨h, 1, by omega, by omega, Near.of_eq fun k => by omega⟩
theorem IsN.pos {D d : Int} {X : Nat → Int} {ts : List (Int × Int)} (h : IsN D X d ts) : 0 < D := by
 obtain ⟨h1, G, hG, rfl, _⟩ := h
 exact Int.mul_pos (numOK_d h1) hG
theorem IsN.near {D d : Int} {X Y : Nat → Int} {ts : List (Int × Int)} (h : IsN D X d ts) (hn : Near X Y) : IsN D Y d ts := by
 obtain ⟨h1, G, hG, h2, h3⟩ := h
 exact ⟨h1, G, hG, h2, h3.trans hn⟩
theorem IsN.ob {D d : Int} {X : Nat → Int} {ts : List (Int × Int)} (h : IsN D X d ts) : OB X := by
 obtain ⟨_, G, _, _, h3⟩ := h
 exact OB.near (OB.smul G (linT_OB ts)) h3
theorem IsN.val {D d : Int} {X : Nat → Int} {ts : List (Int × Int)} (h : IsN D X d ts) : Near (fun k => D * linT ts k) (fun k => d * X k) := by
 obtain ⟨_, G, _, rfl, h3⟩ := h
 exact (Near.of_eq fun k => by (try dsimp only); grind).trans (h3.smul d)
theorem IsN.of_val {D d : Int} {X : Nat → Int} {ts : List (Int × Int)} (ho : numOK d ts = true) {G : Int} (hG : 0 < G) (hD : D = d * G) (h : Near (fun k => D * linT ts k) (fun k => d * X k)) : IsN D X d ts := by
 refine ⟨ho, G, hG, hD, ?_⟩
 subst hD
 exact Near.unsmul (c := d) (by have := numOK_d ho; omega) ((Near.of_eq fun k => by (try dsimp only); grind).trans h)
theorem IsN.same {D D' d d' : Int} {X X' : Nat → Int} {ts ts' : List (Int × Int)} (h : IsN D X d ts) (h' : IsN D' X' d' ts') (hn : Near (fun k => D' * X k) (fun k => D * X' k)) : d = d' ∧ ts = ts' := by
 have hD := h.pos; have hD' := h'.pos
 refine same_near h.1 h'.1 (Near.unsmul (c := D * D') (Int.mul_ne_zero (by omega) (by omega)) ?_)
 refine Near.trans (Near.of_eq fun k => ?_) ((h.val.smul (D' * d')).trans (Near.trans (Near.of_eq fun k => ?_) ((hn.smul (d * d')).trans (Near.trans (Near.of_eq fun k => ?_) ((h'.val.symm.smul (D * d)).trans (Near.of_eq fun k => ?_)))))) <;> (try dsimp only) <;> grind
theorem plus_is {D1 D2 xd yd m d : Int} {X Y : Nat → Int} {xt yt ts : List (Int × Int)} (hx : IsN D1 X xd xt) (hy : IsN D2 Y yd yt) (h : plusS xd xt yd yt m = (d, ts, 0)) : IsN (D1 * D2) (fun k => D2 * X k + m * D1 * Y k) d ts := by
 have hv := plusS_numOK h
 obtain ⟨_, _, G, hG, hE, hN⟩ := plusS_lin h
 obtain ⟨_, G1, hG1, rfl, h1⟩ := hx
 obtain ⟨_, G2, hG2, rfl, h2⟩ := hy
 refine ⟨hv, G * (G1 * G2), Int.mul_pos hG (Int.mul_pos hG1 hG2), by
  have e : d * (G * (G1 * G2)) = d * G * (G1 * G2) := by grind
  rw [e, ← hE]; grind, ?_⟩
 refine Near.trans (Near.of_eq fun k => ?_) ((hN.smul (G1 * G2)).trans (Near.trans (Near.of_eq fun k => ?_) ((h1.smul (yd * G2)).add (h2.smul (m * (xd * G1)))))) <;> (try dsimp only) <;> grind
theorem plus_near {xd yd m d : Int} {xt yt ts : List (Int × Int)} (hx : numOK xd xt = true) (hy : numOK yd yt = true) (ho : numOK d ts = true) (h : Near (fun k => d * (yd * linT xt k + m * xd * linT yt k)) (fun k => xd * yd * linT ts k)) : plusS xd xt yd yt m = (d, ts, 0) := by
 obtain ⟨f1, f2⟩ := plus_free (m := m * xd) hx hy
 unfold plusS
 rw [hx, hy, if_pos (by rfl)]
 exact overS_near f1 f2 (Int.mul_ne_zero (by have := numOK_d hx; omega) (by have := numOK_d hy; omega)) ho (((plus_lin xd yd m xt yt).smul d).trans h)
theorem getS_addAll : ∀ (l kv : List (Int × Int)) (m r : Int), getS (addAll kv l m) r = getS kv r + getS (addAll [] l m) r
 | [], kv, m, r => by show getS kv r = getS kv r + 0; omega
 | t :: l, kv, m, r => by
  show getS (addAll (addRoot kv (t.1 * m) t.2) l m) r = getS kv r + getS (addAll (addRoot [] (t.1 * m) t.2) l m) r
  rw [getS_addAll l (addRoot kv (t.1 * m) t.2), getS_addAll l (addRoot [] (t.1 * m) t.2), getS_addRoot, getS_addRoot]
  show _ = _ + (0 + _ + _)
  omega
theorem plus_comm (xd yd : Int) (xt yt : List (Int × Int)) : plusS xd xt yd yt 1 = plusS yd yt xd xt 1 := by
 unfold plusS
 rw [Bool.and_comm]
 split
 ·rw [Int.mul_comm yd xd]
  refine overS_ext (addAll_nodup' yt _ _ (addAll_nodup' xt [] _ (by simp))) (addAll_nodup' xt _ _ (addAll_nodup' yt [] _ (by simp))) (fun r => ?_) _
  simp only [Int.one_mul]
  rw [getS_addAll yt (addAll [] xt yd) xd r, getS_addAll xt (addAll [] yt xd) yd r]; omega
 ·rfl
theorem linT_tab (a b : List (Int × Int)) (k : Nat) : linK (prodS [] a b) k = tabK a b k := by rw [linK_prodS, linK_nil]; omega
theorem prod_mul {a b : List (Int × Int)} (ha : ∀ t ∈ a, RootF t.2) (hb : ∀ t ∈ b, RootF t.2) : MulN (linT a) (linT b) (linK (prodS [] a b)) :=
 (mul_tab (fun u hu => (hb u hu).1) a (fun u hu => (ha u hu).1)).congr (fun _ => rfl) (fun _ => rfl) (fun k => (linT_tab a b k).symm)
theorem MulN.near_l {f g h f' : Nat → Int} (H : MulN f g h) (hg : OB g) (hn : Near f f') : MulN f' g h := (H.comm.near hg hn).comm
theorem MulN.smul_l {f g h : Nat → Int} (c : Int) (H : MulN f g h) : MulN (fun k => c * f k) g (fun k => c * h k) := (H.comm.smul c).comm
theorem mul_is {D1 D2 xd yd d : Int} {X Y P : Nat → Int} {xt yt ts : List (Int × Int)} (hx : IsN D1 X xd xt) (hy : IsN D2 Y yd yt) (hp : MulN X Y P) (h : mulS xd xt yd yt = (d, ts, 0)) : IsN (D1 * D2) P d ts := by
 obtain ⟨k1, k2, G, hG, hE, hN⟩ := mulS_lin h
 have hv : numOK d ts = true := by
  unfold mulS at h
  rw [k1, k2, if_pos (by rfl)] at h
  exact overS_valid (prodS_nodup xt yt [] (by simp)) (prod_free (numOK_free k1) (numOK_free k2)) (Int.mul_ne_zero (by have := numOK_d k1; omega) (by have := numOK_d k2; omega)) h
 have oX := hx.ob; have oY := hy.ob
 obtain ⟨_, G1, hG1, rfl, h1⟩ := hx
 obtain ⟨_, G2, hG2, rfl, h2⟩ := hy
 refine ⟨hv, G * (G1 * G2), Int.mul_pos hG (Int.mul_pos hG1 hG2), by
  have e : d * (G * (G1 * G2)) = d * G * (G1 * G2) := by grind
  rw [e, ← hE]; grind, ?_⟩
 have m1 := ((hN.smul G2).near (linT_OB xt) h2).smul_l G1
 have m2 := m1.near_l oY h1
 exact (Near.of_eq fun k => by (try dsimp only); grind).trans (m2.unique hp)
theorem mul_near {xd yd d : Int} {xt yt ts : List (Int × Int)} {P : Nat → Int} (hx : numOK xd xt = true) (hy : numOK yd yt = true) (ho : numOK d ts = true) (hp : MulN (linT xt) (linT yt) P) (h : Near (fun k => d * P k) (fun k => xd * yd * linT ts k)) : mulS xd xt yd yt = (d, ts, 0) := by
 unfold mulS
 rw [hx, hy, if_pos (by rfl)]
 exact overS_near (prodS_nodup xt yt [] (by simp)) (prod_free (numOK_free hx) (numOK_free hy)) (Int.mul_ne_zero (by have := numOK_d hx; omega) (by have := numOK_d hy; omega)) ho ((((prod_mul (numOK_free hx) (numOK_free hy)).unique hp).smul d).trans h)
def mulAt (t u : Int × Int) (r : Int) : Int := if r = mulK t u then mulC t u else 0
theorem mulAt_comm (t u : Int × Int) (r : Int) : mulAt t u r = mulAt u t r := by
 unfold mulAt mulK mulC
 rw [gcdL_two, gcdL_two, Nat.gcd_comm u.2.natAbs, Nat.mul_comm (u.2.toNat / _), Int.mul_comm u.1]
theorem getS_prodR : ∀ (b kv : List (Int × Int)) (t : Int × Int) (r : Int), getS (prodR kv t b) r = getS kv r + (b.map fun u => mulAt t u r).sum
 | [], kv, t, r => by simp [prodR]
 | u :: b, kv, t, r => by
  show getS (prodR (addS kv (mulK t u) (mulC t u)) t b) r = _
  rw [getS_prodR b, getS_addS, List.map_cons, List.sum_cons]
  show _ + (if r = mulK t u then mulC t u else 0) + _ = _ + ((if r = mulK t u then mulC t u else 0) + _)
  omega
theorem getS_prodS : ∀ (a b kv : List (Int × Int)) (r : Int), getS (prodS kv a b) r = getS kv r + (a.map fun t => (b.map fun u => mulAt t u r).sum).sum
 | [], b, kv, r => by simp [prodS]
 | t :: a, b, kv, r => by
  show getS (prodS (prodR kv t b) a b) r = _
  rw [getS_prodS a, getS_prodR, List.map_cons, List.sum_cons]
  omega
theorem sum_addI {α : Type} (f g : α → Int) : ∀ l : List α, (l.map fun x => f x + g x).sum = (l.map f).sum + (l.map g).sum
 | [] => rfl
 | x :: l => by simp only [List.map_cons, List.sum_cons]; rw [sum_addI f g l]; omega
theorem sum_zeroI {α : Type} : ∀ l : List α, (l.map fun _ => (0 : Int)).sum = 0
 | [] => rfl
 | x :: l => by simp only [List.map_cons, List.sum_cons]; rw [sum_zeroI l]; omega
theorem sum_swapI {α β : Type} (f : α → β → Int) (b : List β) : ∀ a : List α, (a.map fun t => (b.map fun u => f t u).sum).sum = (b.map fun u => (a.map fun t => f t u).sum).sum
 | [] => by simp only [List.map_nil, List.sum_nil]; exact (sum_zeroI b).symm
 | t :: a => by simp only [List.map_cons, List.sum_cons]; rw [sum_swapI f b a, sum_addI]
theorem mul_comm_ (xd yd : Int) (xt yt : List (Int × Int)) : mulS xd xt yd yt = mulS yd yt xd xt := by
 unfold mulS
 rw [Bool.and_comm]
 split
 ·rw [Int.mul_comm yd xd]
  refine overS_ext (prodS_nodup xt yt [] (by simp)) (prodS_nodup yt xt [] (by simp)) (fun r => ?_) _
  rw [getS_prodS, getS_prodS, sum_swapI]
  congr 2
  exact List.map_congr_left (fun u _ => by congr 1; exact List.map_congr_left (fun t _ => mulAt_comm t u r))
 ·rfl
theorem quo_parts {xd yd : Int} {xt yt : List (Int × Int)} (hx : numOK xd xt = true) (hy : numOK yd yt = true) (h1 : yt.length ≠ 0) (h2 : ¬ 2 < yt.length) : quoS xd xt yd yt = overS (prodS [] xt (turnL yd yt)) (xd * normL yt) ∧ xd * normL yt ≠ 0 ∧
  MulN (linT xt) (linT (turnL yd yt)) (linK (prodS [] xt (turnL yd yt))) ∧ MulN (linT (turnL yd yt)) (linT yt) (fun k => yd * normL yt * bits k) ∧ ((prodS [] xt (turnL yd yt)).map (·.1)).Nodup ∧ ∀ r ∈ (prodS [] xt (turnL yd yt)).map (·.1), RootF r := by
 have hT := turn_free (yd := yd) (numOK_free hy)
 refine ⟨?_, Int.mul_ne_zero (by have := numOK_d hx; omega) (norm_ok hy h1 h2).1, prod_mul (numOK_free hx) hT, turn_mul h1 h2 (numOK_ge hy), prodS_nodup _ _ [] (by simp), prod_free (numOK_free hx) hT⟩
 unfold quoS
 rw [hx, hy, if_pos (by rfl), if_neg h1, if_neg h2]
theorem quo_near {xd yd d : Int} {xt yt ts : List (Int × Int)} {P : Nat → Int} (hx : numOK xd xt = true) (hy : numOK yd yt = true) (h1 : yt.length ≠ 0) (h2 : ¬ 2 < yt.length) (ho : numOK d ts = true) (hp : MulN (linT ts) (linT yt) P)
  (h : Near (fun k => xd * P k) (fun k => d * yd * linT xt k)) : quoS xd xt yd yt = (d, ts, 0) := by
 obtain ⟨e, hd, m1, m2, f1, f2⟩ := quo_parts hx hy h1 h2
 rw [e]
 refine overS_near f1 f2 hd ho ?_
 have m3 := (MulN.assoc hp m2.comm (MulN.cst _ _) (linT_OB ts) (linT_OB _)).smul_l xd
 have m4 := m3.near_l (linT_OB _) h
 have m5 := m4.unique (m1.smul_l (d * yd))
 refine Near.unsmul (c := yd) (by have := numOK_d hy; omega) (Near.trans (Near.of_eq fun k => ?_) (m5.symm.trans (Near.of_eq fun k => ?_))) <;> (try dsimp only) <;> grind
theorem quoS_lin {xd yd d : Int} {xt yt ts : List (Int × Int)} (h : quoS xd xt yd yt = (d, ts, 0)) : numOK xd xt = true ∧ numOK yd yt = true ∧ numOK d ts = true ∧ yt.length ≠ 0 ∧ ¬ 2 < yt.length ∧ ∃ P, MulN (linT ts) (linT yt) P ∧ Near (fun k => xd * P k) (fun k => d * yd * linT xt k) := by
 have hk : (numOK xd xt && numOK yd yt) = true ∧ yt.length ≠ 0 ∧ ¬ 2 < yt.length := by
  unfold quoS at h
  split at h
  ·rename_i hk
   refine ⟨hk, ?_⟩
   split at h
   ·injection h with _ h; injection h with _ h; cases h
   ·split at h
    ·injection h with _ h; injection h with _ h; cases h
    ·rename_i a b; exact ⟨a, b⟩
  ·injection h with _ h; injection h with _ h; cases h
 obtain ⟨hk, h1, h2⟩ := hk
 rw [Bool.and_eq_true] at hk
 obtain ⟨hx, hy⟩ := hk
 obtain ⟨e, hd, m1, m2, f1, f2⟩ := quo_parts hx hy h1 h2
 rw [e] at h
 have ho := overS_valid f1 f2 hd h
 obtain ⟨G, hG, _, hE, hL⟩ := overS_ok f1 hd h
 have mp := prod_mul (numOK_free ho) (numOK_free hy)
 refine ⟨hx, hy, ho, h1, h2, _, mp, ?_⟩
 have m3 := MulN.assoc m1 m2 (MulN.cst (yd * normL yt) (linT xt)) (linT_OB xt) (linT_OB yt)
 have m4 := m3.near_l (linT_OB yt) (Near.of_eq fun k => (hL k).symm)
 have m5 := (mp.smul_l G).unique m4
 refine Near.unsmul hG (Near.trans (Near.of_eq fun k => ?_) ((m5.smul xd).trans (Near.of_eq fun k => ?_)))
 ·(try dsimp only); grind
 ·(try dsimp only)
  have : xd * (yd * normL yt * linT xt k) = yd * linT xt k * (xd * normL yt) := by grind
  rw [this, hE]; grind
end Go.Proofs.YthkblgglmohciaaGreatDoor
