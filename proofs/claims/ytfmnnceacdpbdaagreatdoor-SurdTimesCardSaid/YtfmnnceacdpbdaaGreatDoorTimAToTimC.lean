import Derived.Test.YtfmnnceacdpbdaaGreatDoorRefA
import Derived.Test.YtfmnnceacdpbdaaGreatDoorAsyToAsyW
import Derived.Test.YtfmnnceacdpbdaaGreatDoorQuoB
import Derived.Test.YtfmnnceacdpbdaaGreatDoorMakeA
set_option linter.unusedVariables false
set_option linter.unusedSimpArgs false
namespace Go.Proofs.YtfmnnceacdpbdaaGreatDoor
theorem split_unique {s r s' r' : Nat} (hs : 1 ≤ s) (hs' : 1 ≤ s') (hr : SqFree r) (hr' : SqFree r') (h : s * s * r = s' * s' * r') : s = s' ∧ r = r' := by
 have hg : 0 < Nat.gcd s s' := Nat.gcd_pos_of_pos_left _ hs
 obtain ⟨u, hu⟩ := Nat.gcd_dvd_left s s'
 obtain ⟨v, hv⟩ := Nat.gcd_dvd_right s s'
 have hc : Nat.Coprime u v := by
  have e : Nat.gcd s s' * Nat.gcd u v = Nat.gcd s s' * 1 := by
   rw [← Nat.gcd_mul_left, ← hu, ← hv, Nat.mul_one]
  exact Nat.eq_of_mul_eq_mul_left hg e
 generalize Nat.gcd s s' = g at *
 subst hu
 subst hv
 have h2 : u * u * r = v * v * r' := by
  refine Nat.eq_of_mul_eq_mul_left (Nat.mul_pos hg hg) ?_
  have e1 : g * g * (u * u * r) = g * u * (g * u) * r := by simp only [Nat.mul_comm, Nat.mul_left_comm, Nat.mul_assoc]
  have e2 : g * g * (v * v * r') = g * v * (g * v) * r' := by simp only [Nat.mul_comm, Nat.mul_left_comm, Nat.mul_assoc]
  rw [e1, e2, h]
 have hcc : Nat.Coprime (v * v) (u * u) := Nat.Coprime.mul_left (Nat.Coprime.mul_right hc.symm hc.symm) (Nat.Coprime.mul_right hc.symm hc.symm)
 have hv1 : v = 1 := by
  have d1 : v * v ∣ r := by
   refine Nat.Coprime.dvd_of_dvd_mul_left hcc ?_
   rw [h2]; exact Nat.dvd_mul_right _ _
  rcases Nat.lt_or_ge v 2 with k | k
  ·have : v ≠ 0 := by rintro rfl; simp at hs'
   omega
  ·exact absurd d1 (hr v k)
 have hu1 : u = 1 := by
  have d1 : u * u ∣ r' := by
   refine Nat.Coprime.dvd_of_dvd_mul_left hcc.symm ?_
   rw [← h2]; exact Nat.dvd_mul_right _ _
  rcases Nat.lt_or_ge u 2 with k | k
  ·have : u ≠ 0 := by rintro rfl; simp at hs
   omega
  ·exact absurd d1 (hr' u k)
 subst hv1
 subst hu1
 exact ⟨rfl, by omega⟩
theorem SqFree.mul {x y : Nat} (hx : SqFree x) (hy : SqFree y) (hc : Nat.Coprime x y) (hx0 : 1 ≤ x) (hy0 : 1 ≤ y) : SqFree (x * y) := by
 intro e he hd
 have h1 : e ∣ x * y := Nat.dvd_trans (Nat.dvd_mul_right e e) hd
 have h2 : Nat.gcd e (x * y) = Nat.gcd e x * Nat.gcd e y := Nat.Coprime.gcd_mul e hc
 rw [Nat.gcd_eq_left h1] at h2
 have hdx : 1 ≤ Nat.gcd e x := Nat.gcd_pos_of_pos_right _ hx0
 have hdy : 1 ≤ Nat.gcd e y := Nat.gcd_pos_of_pos_right _ hy0
 have k1 : Nat.gcd e x * Nat.gcd e x ∣ x := by
  have c1 : Nat.Coprime (Nat.gcd e x) y := Nat.Coprime.coprime_dvd_left (Nat.gcd_dvd_right e x) hc
  refine Nat.Coprime.dvd_of_dvd_mul_right (Nat.Coprime.mul_left c1 c1) (Nat.dvd_trans ?_ hd)
  exact Nat.mul_dvd_mul (Nat.gcd_dvd_left e x) (Nat.gcd_dvd_left e x)
 have k2 : Nat.gcd e y * Nat.gcd e y ∣ y := by
  have c1 : Nat.Coprime (Nat.gcd e y) x := Nat.Coprime.coprime_dvd_left (Nat.gcd_dvd_right e y) hc.symm
  refine Nat.Coprime.dvd_of_dvd_mul_left (Nat.Coprime.mul_left c1 c1) (Nat.dvd_trans ?_ hd)
  exact Nat.mul_dvd_mul (Nat.gcd_dvd_left e y) (Nat.gcd_dvd_left e y)
 have j1 : Nat.gcd e x < 2 := by
  rcases Nat.lt_or_ge (Nat.gcd e x) 2 with k | k
  ·exact k
  ·exact absurd k1 (hx _ k)
 have j2 : Nat.gcd e y < 2 := by
  rcases Nat.lt_or_ge (Nat.gcd e y) 2 with k | k
  ·exact k
  ·exact absurd k2 (hy _ k)
 have e1 : Nat.gcd e x = 1 := by omega
 have e2 : Nat.gcd e y = 1 := by omega
 rw [e1, e2] at h2
 omega
theorem SqFree.of_dvd {x y : Nat} (hy : SqFree y) (h : x ∣ y) : SqFree x := fun e he hd => hy e he (Nat.dvd_trans hd h)
theorem split_mul {a b : Nat} (ha : 1 ≤ a) (hb : 1 ≤ b) (fa : SqFree a) (fb : SqFree b) : splitN (a * b) = (Nat.gcd a b, a / Nat.gcd a b * (b / Nat.gcd a b)) := by
 have hg : 0 < Nat.gcd a b := Nat.gcd_pos_of_pos_left _ ha
 obtain ⟨h1, h2, h3, _⟩ := splitN_spec (a * b) (Nat.mul_pos ha hb)
 have hx := Nat.div_mul_cancel (Nat.gcd_dvd_left a b)
 have hy := Nat.div_mul_cancel (Nat.gcd_dvd_right a b)
 have hc : Nat.Coprime (a / Nat.gcd a b) (b / Nat.gcd a b) := Nat.coprime_div_gcd_div_gcd hg
 have hx0 : 1 ≤ a / Nat.gcd a b := Nat.div_pos (Nat.le_of_dvd ha (Nat.gcd_dvd_left a b)) hg
 have hy0 : 1 ≤ b / Nat.gcd a b := Nat.div_pos (Nat.le_of_dvd hb (Nat.gcd_dvd_right a b)) hg
 have hf := SqFree.mul (fa.of_dvd ⟨_, hx.symm⟩) (fb.of_dvd ⟨_, hy.symm⟩) hc hx0 hy0
 have he : Nat.gcd a b * Nat.gcd a b * (a / Nat.gcd a b * (b / Nat.gcd a b)) = a * b := by
  generalize a / Nat.gcd a b = x at *
  generalize b / Nat.gcd a b = y at *
  generalize Nat.gcd a b = g at *
  rw [← hx, ← hy]
  simp only [Nat.mul_comm, Nat.mul_left_comm, Nat.mul_assoc]
 obtain ⟨e1, e2⟩ := split_unique h3 hg h2 hf (h1.trans he.symm)
 exact Prod.ext e1 e2
def timesL (xt yt : List (Int × Int)) : List (Int × Int) := xt.flatMap fun t => yt.map fun u => (t.1 * u.1, t.2 * u.2)
theorem addAll_row {t : Int × Int} (ht : RootOK t.2) : ∀ (yt kv : List (Int × Int)), (∀ u ∈ yt, RootOK u.2) → addAll kv (yt.map fun u => (t.1 * u.1, t.2 * u.2)) 1 = prodR kv t yt
 | [], _, _ => rfl
 | u :: yt, kv, h => by
  have hu := h u (by simp)
  have e : addRoot kv (t.1 * u.1 * 1) (t.2 * u.2) = addS kv (mulK t u) (mulC t u) := by
   obtain ⟨a, ha⟩ := Int.eq_ofNat_of_zero_le (show 0 ≤ t.2 by have := ht.1; omega)
   obtain ⟨b, hb⟩ := Int.eq_ofNat_of_zero_le (show 0 ≤ u.2 by have := hu.1; omega)
   have ha1 : 1 ≤ a := by have := ht.1; omega
   have hb1 : 1 ≤ b := by have := hu.1; omega
   have fa : SqFree a := by have := ht.2.2; rwa [ha, Int.toNat_natCast] at this
   have fb : SqFree b := by have := hu.2.2; rwa [hb, Int.toNat_natCast] at this
   have hs := split_mul ha1 hb1 fa fb
   unfold addRoot mulK mulC
   rw [ha, hb, show ∀ x y : Int, gcdL [x, y] = Nat.gcd x.natAbs y.natAbs from fun x y => by unfold gcdL; simp, Int.natAbs_natCast, Int.natAbs_natCast, Int.toNat_natCast, Int.toNat_natCast, ← Int.natCast_mul, Int.toNat_natCast, hs, if_pos (by have := Nat.mul_pos ha1 hb1; omega)]
   dsimp only
   rw [Int.mul_one]
  show addAll (addRoot kv (t.1 * u.1 * 1) (t.2 * u.2)) (yt.map fun u => (t.1 * u.1, t.2 * u.2)) 1 = _
  rw [e]
  exact addAll_row ht yt _ (fun u hu => h u (by simp [hu]))
theorem addAll_times : ∀ (xt yt kv : List (Int × Int)), (∀ t ∈ xt, RootOK t.2) → (∀ u ∈ yt, RootOK u.2) → addAll kv (timesL xt yt) 1 = prodS kv xt yt
 | [], _, _, _, _ => rfl
 | t :: xt, yt, kv, h, h' => by
  have e : timesL (t :: xt) yt = (yt.map fun u => (t.1 * u.1, t.2 * u.2)) ++ timesL xt yt := rfl
  rw [e, addAll_append, addAll_row (h t (by simp)) yt kv h', addAll_times xt yt _ (fun u hu => h u (by simp [hu])) h']
  rfl
theorem times_eq {xd yd : Int} {xt yt : List (Int × Int)} (hx : numOK xd xt = true) (hy : numOK yd yt = true) : partsR (xd * yd) (timesL xt yt) = mulS xd xt yd yt := by
 unfold partsR mulS
 rw [hx, hy, addAll_times xt yt [] (numOK_roots hx).1 (numOK_roots hy).1]
 rfl
end Go.Proofs.YtfmnnceacdpbdaaGreatDoor
namespace Go.Proofs.YtfmnnceacdpbdaaGreatDoor
theorem nodup_of_keys {kv : List (Int × Int)} (h : (kv.map (·.1)).Nodup) : kv.Nodup := by
 rw [List.nodup_iff_pairwise_ne] at *
 rw [List.pairwise_map] at h
 exact h.imp (fun h e => h (by rw [e]))
theorem filter_keys {kv : List (Int × Int)} (p : Int × Int → Bool) (h : (kv.map (·.1)).Nodup) : ((kv.filter p).map (·.1)).Nodup :=
 h.sublist (List.Sublist.map _ List.filter_sublist)
theorem mem_nz {kv : List (Int × Int)} (h : (kv.map (·.1)).Nodup) (p : Int × Int) : p ∈ kv.filter nz ↔ p.2 ≠ 0 ∧ getS kv p.1 = p.2 := by
 rw [List.mem_filter]
 constructor
 ·rintro ⟨h1, h2⟩
  exact ⟨by simpa [nz] using h2, getS_of_mem h p h1⟩
 ·rintro ⟨h1, h2⟩
  rcases getS_mem kv p.1 with h3 | h3
  ·exact absurd (h2.symm.trans h3) h1
  ·rw [h2] at h3
   exact ⟨h3, by simp [nz, h1]⟩
theorem getS_perm {l l' : List (Int × Int)} (h : (l.map (·.1)).Nodup) (h' : (l'.map (·.1)).Nodup) (hp : l.Perm l') (r : Int) : getS l r = getS l' r := by
 rcases getS_mem l r with h1 | h1
 ·rcases getS_mem l' r with h2 | h2
  ·rw [h1, h2]
  ·exact getS_of_mem h _ (hp.mem_iff.2 h2)
 ·exact (getS_of_mem h' _ (hp.mem_iff.1 h1)).symm
theorem overS_ext {kv kv' : List (Int × Int)} (h : (kv.map (·.1)).Nodup) (h' : (kv'.map (·.1)).Nodup) (he : ∀ r, getS kv r = getS kv' r) (den : Int) : overS kv den = overS kv' den := by
 have hp : (kv.filter nz).Perm (kv'.filter nz) := by
  refine (List.perm_ext_iff_of_nodup (nodup_of_keys (filter_keys _ h)) (nodup_of_keys (filter_keys _ h'))).2 (fun p => ?_)
  rw [mem_nz h, mem_nz h', he]
 have hG : overG kv den = overG kv' den := by
  unfold overG
  rw [gcdL_perm ((hp.map (·.2)).append_right [den])]
 have hT : overT kv den = overT kv' den := by
  unfold overT termsG
  rw [sortI_perm_eq (hp.map (·.1)), hG]
  refine List.map_congr_left (fun r _ => ?_)
  rw [getS_perm (filter_keys _ h) (filter_keys _ h') hp r]
 unfold overS
 rw [hG, hT]
theorem getS_addRoot (kv : List (Int × Int)) (c n r : Int) : getS (addRoot kv c n) r = getS kv r + (if 0 < n then (if r = ((splitN n.toNat).2 : Int) then c * ((splitN n.toNat).1 : Int) else 0) else 0) := by
 unfold addRoot
 split
 ·rw [getS_addS]
 ·omega
def overL (yd : Int) (a b : Int × Int) (xt : List (Int × Int)) : List (Int × Int) := xt.flatMap fun t => [(t.1 * a.1 * yd, t.2 * a.2), (-t.1 * b.1 * yd, t.2 * b.2)]
theorem overL_one (yd : Int) (a : Int × Int) : ∀ (xt kv kv' : List (Int × Int)), (∀ r, getS kv r = getS kv' r) → ∀ r, getS (addAll kv (overL yd a (0, 1) xt) 1) r = getS (addAll kv' (timesL xt [(a.1 * (1 * yd), a.2)]) 1) r
 | [], _, _, h, r => h r
 | t :: xt, kv, kv', h, r => by
  have e1 : overL yd a (0, 1) (t :: xt) = (t.1 * a.1 * yd, t.2 * a.2) :: (-t.1 * 0 * yd, t.2 * 1) :: overL yd a (0, 1) xt := rfl
  have e2 : timesL (t :: xt) [(a.1 * (1 * yd), a.2)] = (t.1 * (a.1 * (1 * yd)), t.2 * a.2) :: timesL xt [(a.1 * (1 * yd), a.2)] := rfl
  rw [e1, e2]
  show getS (addAll (addRoot (addRoot kv (t.1 * a.1 * yd * 1) (t.2 * a.2)) (-t.1 * 0 * yd * 1) (t.2 * 1)) (overL yd a (0, 1) xt) 1) r = getS (addAll (addRoot kv' (t.1 * (a.1 * (1 * yd)) * 1) (t.2 * a.2)) (timesL xt [(a.1 * (1 * yd), a.2)]) 1) r
  refine overL_one yd a xt _ _ (fun q => ?_) r
  rw [getS_addRoot, getS_addRoot, getS_addRoot, h q]
  have e3 : -t.1 * 0 * yd * 1 = 0 := by simp
  have e4 : t.1 * a.1 * yd * 1 = t.1 * (a.1 * (1 * yd)) * 1 := by rw [Int.one_mul, Int.mul_assoc t.1]
  rw [e3, e4]
  simp
theorem overL_two (yd : Int) (a b : Int × Int) : ∀ xt : List (Int × Int), overL yd a b xt = timesL xt [(a.1 * (1 * yd), a.2), (b.1 * (-1 * yd), b.2)]
 | [] => rfl
 | t :: xt => by
  have e1 : overL yd a b (t :: xt) = (t.1 * a.1 * yd, t.2 * a.2) :: (-t.1 * b.1 * yd, t.2 * b.2) :: overL yd a b xt := rfl
  have e2 : timesL (t :: xt) [(a.1 * (1 * yd), a.2), (b.1 * (-1 * yd), b.2)] = (t.1 * (a.1 * (1 * yd)), t.2 * a.2) :: (t.1 * (b.1 * (-1 * yd)), t.2 * b.2) :: timesL xt [(a.1 * (1 * yd), a.2), (b.1 * (-1 * yd), b.2)] := rfl
  rw [e1, e2, overL_two yd a b xt]
  have e4 : t.1 * a.1 * yd = t.1 * (a.1 * (1 * yd)) := by rw [Int.one_mul, Int.mul_assoc t.1]
  have e5 : -t.1 * b.1 * yd = t.1 * (b.1 * (-1 * yd)) := by
   rw [Int.neg_mul, Int.neg_mul, Int.neg_mul, Int.one_mul, Int.mul_neg, Int.mul_neg, Int.mul_assoc t.1]
  rw [e4, e5]
theorem over_two {xd yd : Int} {xt : List (Int × Int)} {a b : Int × Int} (hx : numOK xd xt = true) (hy : numOK yd [a, b] = true) : partsR (xd * (a.1 * a.1 * a.2 - b.1 * b.1 * b.2)) (overL yd a b xt) = quoS xd xt yd [a, b] := by
 have hr := (numOK_roots hy).1
 have e : turnL yd [a, b] = [(a.1 * (1 * yd), a.2), (b.1 * (-1 * yd), b.2)] := rfl
 have n : normL [a, b] = a.1 * a.1 * a.2 - b.1 * b.1 * b.2 := by
  show 1 * a.1 * a.1 * a.2 + (-1 * b.1 * b.1 * b.2 + 0) = _
  rw [Int.one_mul, Int.neg_mul, Int.one_mul, Int.neg_mul, Int.neg_mul]; omega
 unfold quoS partsR
 rw [hx, hy, if_pos (show (true && true) = true from rfl), if_neg (by simp), if_neg (by simp), e, n, overL_two, addAll_times xt _ [] (numOK_roots hx).1 (fun u hu => by
  rcases List.mem_cons.1 hu with rfl | hu
  ·exact hr a (by simp)
  ·rcases List.mem_cons.1 hu with rfl | hu
   ·exact hr b (by simp)
   ·simp at hu)]
theorem over_oneR {xd yd : Int} {xt : List (Int × Int)} {a : Int × Int} (hx : numOK xd xt = true) (hy : numOK yd [a] = true) : partsR (xd * (a.1 * a.1 * a.2 - 0 * 0 * 1)) (overL yd a (0, 1) xt) = quoS xd xt yd [a] := by
 have hr := (numOK_roots hy).1
 have e : turnL yd [a] = [(a.1 * (1 * yd), a.2)] := rfl
 have n : normL [a] = a.1 * a.1 * a.2 - 0 * 0 * 1 := by
  show 1 * a.1 * a.1 * a.2 + 0 = _
  rw [Int.one_mul]; omega
 unfold quoS partsR
 rw [hx, hy, if_pos (show (true && true) = true from rfl), if_neg (by simp), if_neg (by simp), e, n, ← addAll_times xt _ [] (numOK_roots hx).1 (fun u hu => by
  rcases List.mem_cons.1 hu with rfl | hu
  ·exact hr a (by simp)
  ·simp at hu)]
 exact overS_ext (addAll_nodup _ _ _ (by simp)) (addAll_nodup _ _ _ (by simp)) (overL_one yd a xt [] [] (fun _ => rfl)) _
theorem over_bounds {xd yd : Int} {xt : List (Int × Int)} {c r : Int} (hx : numOK xd xt = true) (hyd : 1 ≤ yd ∧ yd ≤ 100000) (hc : -100000 ≤ c ∧ c ≤ 100000) (hr : RootOK r) : ∀ u ∈ xt, ∀ s : Int, (s = u.1 ∨ s = -u.1) → (0 ≤ u.2 * r ∧ u.2 * r ≤ 100000000000) ∧ -1000000000000000000 ≤ s * c * yd * ((splitN (u.2 * r).toNat).1 : Int) ∧ s * c * yd * ((splitN (u.2 * r).toNat).1 : Int) ≤ 1000000000000000000 := by
 intro u hu s hs
 obtain ⟨⟨a1, a2, a3, a4⟩, a5⟩ := (numOK_parts hx).2.2.2 u hu
 have fa := ((numOK_roots hx).1 u hu).2.2
 obtain ⟨b1, b2, fb⟩ := hr
 obtain ⟨cu, ru⟩ := u
 dsimp only at *
 obtain ⟨a, rfl⟩ := Int.eq_ofNat_of_zero_le (show 0 ≤ ru by omega)
 obtain ⟨b, rfl⟩ := Int.eq_ofNat_of_zero_le (show 0 ≤ r by omega)
 rw [Int.toNat_natCast] at fa fb
 rw [← Int.natCast_mul, Int.toNat_natCast, split_mul (by omega) (by omega) fa fb]
 have hg : Nat.gcd a b ≤ a := Nat.gcd_le_left b (by omega)
 have h1 := mul_bd (a := s) (A := 100000) (by omega) hc
 have h2 := mul_bd h1 (b := yd) (B := 100000) (by omega)
 have h3 := mul_bd h2 (b := (Nat.gcd a b : Int)) (B := 1000) (by omega)
 have h4 : a * b ≤ 1000 * 1000 := Nat.mul_le_mul (by omega) (by omega)
 dsimp only
 generalize s * c * yd * (Nat.gcd a b : Int) = z at *
 generalize a * b = y at *
 omega
end Go.Proofs.YtfmnnceacdpbdaaGreatDoor
