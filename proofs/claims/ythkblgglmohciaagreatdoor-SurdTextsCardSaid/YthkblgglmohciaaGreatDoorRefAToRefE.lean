import Derived.Test.YthkblgglmohciaaGreatDoorSurdGToSurdM
import Derived.Test.YthkblgglmohciaaGreatDoorWeakRToAppQ
import Derived.Test.YthkblgglmohciaaGreatDoorMakeA
import Derived.Test.YthkblgglmohciaaGreatDoorQuoA
import Derived.Test.YthkblgglmohciaaGreatDoorBaseToHead
set_option linter.unusedVariables false
set_option linter.unusedSimpArgs false
namespace Go.Proofs.YthkblgglmohciaaGreatDoor
open Go.RowKit
def partsR (den : Int) (l : List (Int × Int)) : Int × List (Int × Int) × Int := overS (addAll [] l 1) den
theorem sortI_head {l l' : List Int} {r : Int} (hp : l.Perm (r :: l')) (hr : ∀ x ∈ l', r ≤ x) : sortI l = r :: sortI l' := by
 have h : (sortI l).Perm (r :: sortI l') := (sortI_perm l).trans (hp.trans ((sortI_perm l').symm.cons r))
 exact sorted_unique _ _ h (sortI_sorted l) (List.pairwise_cons.2 ⟨fun x hx => hr x ((sortI_perm l').mem_iff.1 hx), sortI_sorted l'⟩)
theorem nz_true {r c : Int} (h : c ≠ 0) : nz (r, c) = true := by simp [nz, h]
theorem nz_false (r : Int) : nz (r, 0) = false := by simp [nz]
theorem filter_some {xs ys : List (Int × Int)} {r c : Int} (h : c ≠ 0) : (xs ++ (r, c) :: ys).filter nz = xs.filter nz ++ (r, c) :: ys.filter nz := by
 rw [List.filter_append, List.filter_cons, nz_true h, if_pos rfl]
theorem filter_zero {xs ys : List (Int × Int)} {r : Int} : (xs ++ (r, 0) :: ys).filter nz = xs.filter nz ++ ys.filter nz := by
 rw [List.filter_append, List.filter_cons, nz_false]
 simp
theorem termsG_step {xs ys : List (Int × Int)} {r c : Int} (G : Int) (hn : ((xs ++ (r, c) :: ys).map (·.1)).Nodup) (hc : c ≠ 0) (hl : ∀ p ∈ xs ++ ys, p.2 ≠ 0 → r ≤ p.1) :
  termsG ((xs ++ (r, c) :: ys).filter nz) G = (c.tdiv G, r) :: termsG ((xs ++ (r, 0) :: ys).filter nz) G := by
 rw [filter_some hc, filter_zero]
 have hsub : (((xs.filter nz ++ (r, c) :: ys.filter nz)).map (·.1)).Nodup := by
  have h : (xs.filter nz ++ (r, c) :: ys.filter nz).Sublist (xs ++ (r, c) :: ys) := List.Sublist.append List.filter_sublist (List.Sublist.cons_cons _ List.filter_sublist)
  exact (h.map (·.1)).nodup hn
 have hmem : ∀ p ∈ xs.filter nz ++ ys.filter nz, p ∈ xs ++ ys ∧ p.2 ≠ 0 := fun p hp => by
  rcases List.mem_append.1 hp with h | h
  ·obtain ⟨h1, h2⟩ := List.mem_filter.1 h
   exact ⟨List.mem_append_left _ h1, by simpa [nz] using h2⟩
  ·obtain ⟨h1, h2⟩ := List.mem_filter.1 h
   exact ⟨List.mem_append_right _ h1, by simpa [nz] using h2⟩
 generalize xs.filter nz = X at *
 generalize ys.filter nz = Y at *
 have hperm : ((X ++ (r, c) :: Y).map (·.1)).Perm (r :: (X ++ Y).map (·.1)) := by
  have h := (List.perm_middle (a := (r, c)) (l₁ := X) (l₂ := Y)).map (·.1)
  rw [List.map_cons] at h
  exact h
 have hsub2 : ((X ++ Y).map (·.1)).Nodup := by
  have := hperm.nodup_iff.1 hsub
  exact (List.nodup_cons.1 this).2
 unfold termsG
 rw [sortI_head hperm (fun x hx => by
  obtain ⟨p, hp, rfl⟩ := List.mem_map.1 hx
  exact hl p (hmem p hp).1 (hmem p hp).2), List.map_cons]
 rw [getS_of_mem hsub (r, c) (by simp)]
 congr 1
 refine List.map_congr_left fun x hx => ?_
 obtain ⟨p, hp, rfl⟩ := List.mem_map.1 ((sortI_perm _).mem_iff.1 hx)
 rw [getS_of_mem hsub p (by rcases List.mem_append.1 hp with h | h <;> simp [h]), getS_of_mem hsub2 p hp]
theorem termsG_done {kv : List (Int × Int)} (G : Int) (h : ∀ p ∈ kv, p.2 = 0) : termsG (kv.filter nz) G = [] := by
 have e : kv.filter nz = [] := List.filter_eq_nil_iff.2 fun p hp => by simp [nz, h p hp]
 rw [e]
 unfold termsG
 have : sortI [] = [] := (sortI_perm []).eq_nil
 simp [this]
theorem gcdL_nz : ∀ (kv : List (Int × Int)) (g : Nat), (kv.map (·.2)).foldl (fun g x => Nat.gcd g x.natAbs) g = ((kv.filter nz).map (·.2)).foldl (fun g x => Nat.gcd g x.natAbs) g
 | [], _ => rfl
 | (r, c) :: kv, g => by
  by_cases h : c = 0
  ·subst h
   rw [List.filter_cons, nz_false]
   simp only [List.map_cons, List.foldl_cons, Int.natAbs_zero, Nat.gcd_zero_right, Bool.false_eq_true, if_false]
   exact gcdL_nz kv g
  ·rw [List.filter_cons, nz_true h, if_pos rfl]
   simp only [List.map_cons, List.foldl_cons]
   exact gcdL_nz kv _
theorem overG_eq (kv : List (Int × Int)) (den : Int) : overG kv den = if den < 0 then -(gcdL (den :: kv.map (·.2)) : Int) else (gcdL (den :: kv.map (·.2)) : Int) := by
 have e : gcdL ((kv.filter nz).map (·.2) ++ [den]) = gcdL (den :: kv.map (·.2)) := by
  rw [gcdL_perm (List.perm_append_singleton den ((kv.filter nz).map (·.2)))]
  unfold gcdL
  rw [List.foldl_cons, List.foldl_cons]
  exact (gcdL_nz kv _).symm
 unfold overG
 rw [e]
theorem addAll_append (kv a b : List (Int × Int)) (m : Int) : addAll kv (a ++ b) m = addAll (addAll kv a m) b m := by
 unfold addAll; rw [List.foldl_append]
theorem addAll_map (kv l : List (Int × Int)) (m : Int) : addAll kv (l.map fun t => (t.1 * m, t.2)) 1 = addAll kv l m := by
 unfold addAll
 rw [List.foldl_map]
 simp only [Int.mul_one]
theorem partsR_plus (xd yd times : Int) (xt yt : List (Int × Int)) :
  partsR (xd * yd) (xt.map (fun t => (t.1 * yd, t.2)) ++ yt.map (fun t => (times * t.1 * xd, t.2))) = overS (addAll (addAll [] xt yd) yt (times * xd)) (xd * yd) := by
 unfold partsR
 rw [addAll_append, addAll_map]
 congr 1
 rw [← addAll_map _ yt (times * xd)]
 congr 1
 refine List.map_congr_left fun t _ => ?_
 rw [Int.mul_comm times t.1, Int.mul_assoc]
end Go.Proofs.YthkblgglmohciaaGreatDoor
namespace Go.Proofs.YthkblgglmohciaaGreatDoor
open Go.RowKit
set_option maxHeartbeats 1000000 in
theorem refIn_any (n a b : Int) (w : World) : Calls Tryz.prog 42 #[.int .i64 n, .int .i64 a, .int .i64 b] w fun e w' => e = .returned (.bool (inB n a b)) ∧ w' = w := by
 unfold inB
 by_cases h1 : a ≤ n
 all_goals
  go_enter Tryz.func42, Tryz.ntmps42
  go_wp2
  go_ret
  exact ⟨by first | (simp [h1]; done) | (simp [h1]; omega), rfl⟩
set_option maxHeartbeats 1000000 in
theorem refAbs_any (n : Int) (w : World) (h : -9000000000000000000 ≤ n ∧ n ≤ 9000000000000000000) : Calls Tryz.prog 45 #[.int .i64 n] w fun e w' => e = .returned (.int .i64 (n.natAbs : Int)) ∧ w' = w := by
 have hm : max n (-n) = (n.natAbs : Int) := by omega
 have hw : IntKind.i64.wrap (-n) = -n := by rw [IntKind.wrap_i64]; omega
 go_enter Tryz.func45, Tryz.ntmps45
 go_wp2
 go_ret
 exact ⟨by first | rfl | simp [hm] | (congr 1; congr 1), rfl⟩
set_option maxHeartbeats 2000000 in
set_option maxRecDepth 100000 in
theorem divides_any (a b : Int) (w : World) (ha : -9000000000000000000 ≤ a ∧ a ≤ 9000000000000000000) (hb : -9000000000000000000 ≤ b ∧ b ≤ 9000000000000000000) :
  Calls Tryz.prog 44 #[.int .i64 a, .int .i64 b] w fun e w' => e = .returned (.int .i64 (Nat.gcd a.natAbs b.natAbs : Int)) ∧ ∃ m, w' = w.drewN m := by
 have HA := hide (fun W => refAbs_any a W ha)
 have HBB := hide (fun W => refAbs_any b W hb)
 obtain ⟨p0, hp0⟩ : ∃ p : Nat, p = a.natAbs := ⟨_, rfl⟩
 obtain ⟨q0, hq0⟩ : ∃ q : Nat, q = b.natAbs := ⟨_, rfl⟩
 have hpb : p0 ≤ 9000000000000000000 := by omega
 have hqb : q0 ≤ 9000000000000000000 := by omega
 rw [← hp0] at HA ⊢
 rw [← hq0] at HBB ⊢
 clear hp0 hq0 ha hb
 go_enter Tryz.func44, Tryz.ntmps44
 go_wp2_with (first
  | (go_at_call_of 45 a; refine (HA.out _).mono ?_; rintro e w1 ⟨rfl, hw1⟩; subst w1)
  | (go_at_call_of 45 b; refine (HBB.out _).mono ?_; rintro e w1 ⟨rfl, hw1⟩; subst w1))
 go_loopw [0, 1] (fun x y W => ∃ (p q : Nat), x = .int .i64 p ∧ y = .int .i64 q ∧ Nat.gcd p q = Nat.gcd p0 q0 ∧ p ≤ 9000000000000000000 ∧ q ≤ 9000000000000000000 ∧ ∃ m, W = w.drewN m) (fun _ y _ => (intOf y).toNat)
 case atStart => exact ⟨p0, q0, rfl, rfl, rfl, hpb, hqb, 0, rfl⟩
 case round =>
  obtain ⟨p, q, rfl, rfl, hg, hp, hq, m, rfl⟩ := hrel
  have HG := hide hg
  have HDD := hide (fun p => dd w m p)
  have HWm := hide (⟨m, rfl⟩ : ∃ m', w.drewN m = w.drewN m')
  clear hg HA HBB
  generalize w.drewN m = W at *
  by_cases hq0 : (q : Int) = 0
  ·obtain rfl : q = 0 := by omega
   go_wp2
   go_ret
   have := HG.out
   rw [Nat.gcd_zero_right] at this
   exact ⟨by rw [this]; rfl, HWm.out⟩
  ·have hlt : p % q < q := Nat.mod_lt _ (by omega)
   have hge := Nat.gcd_rec q p
   have HE : Hid (Nat.gcd q (p % q) = Nat.gcd p0 q0) := hide (by rw [← HG.out, Nat.gcd_comm p q, Nat.gcd_rec q p, Nat.gcd_comm])
   have hc : ((p % q : Nat) : Int) = (p : Int) % (q : Int) := Int.natCast_emod p q
   clear hge
   go_wp2
   go_quiet (fail)
   go_wp2
   obtain ⟨m2, hm2⟩ := HDD.out nq
   exact ⟨⟨q, p % q, rfl, by congr 1 <;> omega, HE.out, by omega, by omega, m2, hm2⟩, by simp [intOf]; omega⟩
set_option maxHeartbeats 2000000 in
set_option maxRecDepth 100000 in
theorem refFree_any (n : Nat) (w : World) (h1 : 1 ≤ n) (h2 : n ≤ 1000000) : Calls Tryz.prog 43 #[.int .i64 n] w fun e w' => e = .returned (.bool (decide ((splitN n).1 ≤ 1))) ∧ w' = w := by
 have HS := hide (splitN_free n h1)
 have HP := hide (splitN_spec n h1).2.2.1
 go_enter Tryz.func43, Tryz.ntmps43
 go_wp2
 go_loopw [3] (fun i W => ∃ d : Nat, i = .int .i64 d ∧ 2 ≤ d ∧ d ≤ 1001 ∧ (∀ e : Nat, 2 ≤ e → e < d → ¬ e * e ∣ n) ∧ W = w) (fun i _ => 1002 - (intOf i).toNat)
 case atStart => exact ⟨2, rfl, by omega, by omega, fun e h h' => by omega, rfl⟩
 case round =>
  obtain ⟨d, rfl, hd, hd2, hno, rfl⟩ := hrel
  have HN := hide hno
  clear hno
  have hm := mul_bd (a := (d : Int)) (b := (d : Int)) (A := 1001) (B := 1001) (by omega) (by omega)
  have hpos : 0 < (d : Int) * (d : Int) := Int.mul_pos (by omega) (by omega)
  have hcast : ((d * d : Nat) : Int) = (d : Int) * (d : Int) := Int.natCast_mul d d
  by_cases hle : (d : Int) * (d : Int) ≤ (n : Int)
  ·have hd3 : d ≤ 1000 := by
    rcases Nat.lt_or_ge 1000 d with h | h
    ·have h5 : 1001 * 1001 ≤ d * d := Nat.mul_le_mul h h
     omega
    ·exact h
   have hdv : ((n : Int) % ((d : Int) * (d : Int)) = 0) ↔ d * d ∣ n := by
    rw [← hcast, ← Int.natCast_emod, Nat.dvd_iff_mod_eq_zero]
    omega
   by_cases hz : (n : Int) % ((d : Int) * (d : Int)) = 0
   ·have HF : Hid (decide ((splitN n).1 ≤ 1) = false) := hide (decide_eq_false (fun h => by
     have h3 := HP.out
     exact HS.out.1 (by omega) d hd (hdv.1 hz)))
    have hzb : ((n : Int) % ((d : Int) * (d : Int)) == 0) = true := by simpa using hz
    clear hdv hcast
    generalize hdd : (d : Int) * (d : Int) = s at *
    go_wp2
    go_ret
    exact ⟨by rw [HF.out]; rfl, by trivial⟩
   ·have HN2 := hide (show ∀ e : Nat, 2 ≤ e → e < d + 1 → ¬ e * e ∣ n from fun e h3 h4 => by
     rcases Nat.lt_or_ge e d with h5 | h5
     ·exact HN.out e h3 h5
     ·obtain rfl : e = d := by omega
      exact fun h => hz (hdv.2 h))
    have hzb : ((n : Int) % ((d : Int) * (d : Int)) == 0) = false := by simpa using hz
    clear hdv hcast
    generalize hdd : (d : Int) * (d : Int) = s at *
    go_wp2
    exact ⟨⟨d + 1, by go_num, by omega, by omega, HN2.out, by trivial⟩, by simp [intOf]; omega⟩
  ·have HF : Hid (decide ((splitN n).1 ≤ 1) = true) := hide (decide_eq_true (by
    have : SqFree n := fun e he hdv => by
     rcases Nat.lt_or_ge e d with h5 | h5
     ·exact HN.out e he h5 hdv
     ·have h6 := Nat.le_of_dvd (by omega) hdv
      have h7 : d * d ≤ e * e := Nat.mul_le_mul h5 h5
      omega
    have := HS.out.2 this
    omega))
   clear hcast
   generalize hdd : (d : Int) * (d : Int) = s at *
   go_wp2
   go_ret
   exact ⟨by rw [HF.out]; rfl, by trivial⟩
end Go.Proofs.YthkblgglmohciaaGreatDoor
namespace Go.Proofs.YthkblgglmohciaaGreatDoor
open Go.RowKit
theorem gcd_snoc (den : Int) (ts : List (Int × Int)) (k : Nat) (hk : k < ts.length) : gcdL (den :: (ts.take (k + 1)).map (·.1)) = Nat.gcd (gcdL (den :: (ts.take k).map (·.1))) (ts[k].1).natAbs := by
 rw [take_snoc ts k hk, List.map_append, List.map_singleton, ← List.cons_append, gcdL_snoc]
def lastT (ts : List (Int × Int)) (k : Nat) : Int := if k = 0 then 0 else (ts[k - 1]?.map (·.2)).getD 0
set_option maxHeartbeats 8000000 in
set_option maxRecDepth 100000 in
theorem refNumber_any (den : Int) (A : Option Addr) (n c B : Nat) (ts : List (Int × Int)) (w : World) (hx : TermsQ w B A n c ts) (hB : B ≤ w.heap.size) :
  Calls Tryz.prog 15 #[.agg #[.int .i64 den, .slice A n c]] w fun e w' => e = .returned (.bool (numOK den ts)) ∧ Below w.heap.size w w' := by
 have hlx := hx.len
 subst hlx
 have hnx := Rq.nmax hx
 obtain ⟨w0, hw0⟩ : ∃ w0, w0 = w.alloc (.cells #[.int .i64 den, .slice A ts.length c] 24) := ⟨_, rfl⟩
 have hz0 : w0.heap.size = w.heap.size + 1 := by rw [hw0]; simp
 have HX0 : Hid (Blk w0 w.heap.size 24 #[.int .i64 den, .slice A ts.length c]) := hide (by rw [hw0]; exact Blk.new w _ _)
 have HB0 : Hid (Below w.heap.size w w0) := hide (by rw [hw0]; exact (Below.refl _ _).alloc (Nat.le_refl _) _)
 have HT := hide (fun W (hb : Below w.heap.size w W) => Rq.below hx (hb.mono hB))
 have HIN := hide (fun W => refIn_any den 1 100000 W)
 clear hx
 cases hden : inB den 1 100000
 ·have HN : Hid (numOK den ts = false) := hide (by unfold numOK; rw [hden]; rfl)
  rw [hden] at HIN
  go_enter Tryz.func15, Tryz.ntmps15
  go_upto_region 1 with fail
  rw [← hw0]
  clear hw0
  obtain ⟨x0, x1, _, _⟩ := HX0.out.two
  go_wp2_with (first
   | (go_at_call 42; refine (HIN.out _).mono ?_; rintro e w1 ⟨rfl, hw1⟩; subst w1))
  go_ret
  exact ⟨by rw [HN.out]; rfl, HB0.out⟩
 by_cases h4 : 4 < (ts.length : Int)
 ·have HN : Hid (numOK den ts = false) := hide (by unfold numOK; rw [show decide (ts.length ≤ 4) = false from decide_eq_false (by omega)]; simp)
  rw [hden] at HIN
  go_enter Tryz.func15, Tryz.ntmps15
  go_upto_region 1 with fail
  rw [← hw0]
  clear hw0
  obtain ⟨x0, x1, _, _⟩ := HX0.out.two
  go_wp2_with (first
   | (go_at_call 42; refine (HIN.out _).mono ?_; rintro e w1 ⟨rfl, hw1⟩; subst w1))
  go_ret
  exact ⟨by rw [HN.out]; rfl, HB0.out⟩
 have hdb : 1 ≤ den ∧ den ≤ 100000 := by simpa [inB] using hden
 have HN : Hid (numOK den ts = (chkT 0 ts && decide (gcdL (den :: ts.map (·.1)) = 1))) := hide (by unfold numOK; rw [hden, decide_eq_true (show ts.length ≤ 4 by omega)]; simp)
 rw [hden] at HIN
 clear hden
 go_enter Tryz.func15, Tryz.ntmps15
 go_upto_region 1 with fail
 rw [← hw0]
 clear hw0
 obtain ⟨x0, x1, _, _⟩ := HX0.out.two
 go_wp2_with (first
  | (go_at_call 42; refine (HIN.out _).mono ?_; rintro e w1 ⟨rfl, hw1⟩; subst w1))
 go_loopw [3, 4] (fun g i W => ∃ k : Nat, k ≤ ts.length ∧ g = .int .i64 (gcdL (den :: (ts.take k).map (·.1)) : Int) ∧ gcdL (den :: (ts.take k).map (·.1)) ≤ 100000 ∧ i = .int .i64 k ∧ chkT 0 ts = chkT (lastT ts k) (ts.drop k) ∧ 0 ≤ lastT ts k ∧ Below w.heap.size w W ∧ Blk W w.heap.size 24 #[.int .i64 den, .slice A ts.length c]) (fun _ i _ => ts.length - (intOf i).toNat)
 case atStart =>
  have hg : gcdL [den] = den.natAbs := by simp [gcdL]
  refine ⟨0, by omega, ?_, ?_, rfl, rfl, by unfold lastT; simp, HB0.out, HX0.out⟩
  ·rw [List.take_zero, List.map_nil, hg]
   congr 1; omega
  ·rw [List.take_zero, List.map_nil, hg]
   omega
 case round =>
  obtain ⟨k, hk, rfl, hgb, rfl, hchk, hl0, hb, hX⟩ := hrel
  have HB := hide hb
  have HX := hide hX
  have HC := hide hchk
  have hbz := hb.size
  have HTq := hide (HT.out _ hb)
  clear hb hX hchk x0 x1 HX0 HB0
  obtain ⟨x0, x1, _, _⟩ := HX.out.two
  by_cases hkl : (k : Int) < (ts.length : Int)
  ·have hk1 : k < ts.length := by omega
   obtain ⟨ad, rfl, had, ha0, ha1⟩ := TermsQ.at_ HTq.out hk1
   have HGS := hide (gcd_snoc den ts k hk1)
   have HOK : Hid (chkT 0 ts = (okT (lastT ts k) ts[k] && chkT ts[k].2 (ts.drop (k + 1)))) := hide (chkT_drop hk1 HC.out)
   have HL1 : Hid (lastT ts (k + 1) = ts[k].2) := hide (by unfold lastT; simp [hk1])
   have hprev : k = 0 ∨ ∃ j, k = j + 1 ∧ lastT ts k = (ts[j]?.map (·.2)).getD 0 := by
    rcases Nat.eq_zero_or_pos k with h | h
    ·exact .inl h
    ·exact .inr ⟨k - 1, by omega, by unfold lastT; rw [if_neg (by omega)]⟩
   have hgp : 0 < gcdL (den :: (ts.take k).map (·.1)) := gcdL_pos (List.mem_cons_self) (show den ≠ 0 by omega)
   generalize hg : gcdL (den :: (ts.take k).map (·.1)) = g at *
   obtain ⟨t, ht⟩ : ∃ t, t = ts[k] := ⟨_, rfl⟩
   rw [← ht] at ha0 ha1 HGS HOK HL1
   clear ht hg
   obtain ⟨co, ro⟩ := t
   dsimp only at ha0 ha1
   have HGS := hide HGS.out
   have HBAD := hide (show okT (lastT ts k) (co, ro) = false → numOK den ts = false from fun h => by rw [HN.out, HOK.out, h]; rfl)
   have HL1 : Hid (lastT ts (k + 1) = ro) := hide HL1.out
   have HI1 := hide (fun W => refIn_any ro 1 1000 W)
   have HI2 := hide (fun W => refIn_any co (-100000) 100000 W)
   have HP5 : Hid (∀ j, k = j + 1 → ∃ pr, ts[j]?.map (·.2) = some pr ∧ (wr.alloc (.cells #[.int .i64 co, .int .i64 ro] 52)).cell? ⟨(ad.add (j * 2)).block, (ad.add (j * 2)).off + 1, none⟩ = some (.int .i64 pr)) := hide (fun j hj => by
    have hj1 : j < ts.length := by omega
    obtain ⟨ad', e, hb', _, h1⟩ := TermsQ.at_ HTq.out hj1
    injection e with e
    subst e
    exact ⟨ts[j].2, by simp [hj1], (World.cell?_alloc_lt _ _ _ (by show (ad.add (j * 2)).block < _; rw [addr_block]; omega)).trans h1⟩)
   have HB5 := hide (HB.out.alloc hbz (.cells #[.int .i64 co, .int .i64 ro] 52))
   have HX5 := hide (HX.out.alloc (.cells #[.int .i64 co, .int .i64 ro] 52))
   have HT5 := hide (Blk.new wr 52 #[.int .i64 co, .int .i64 ro])
   go_upto_region 8 with fail
   clear x0 x1 ha0 ha1 HTq HX HB hbz
   obtain ⟨P5, hP5⟩ : ∃ P5, P5 = wr.heap.size := ⟨_, rfl⟩
   rw [← hP5] at HT5 ⊢
   clear hP5
   generalize wr.alloc (.cells #[.int .i64 co, .int .i64 ro] 52) = W5 at *
   obtain ⟨x0, x1, _, _⟩ := HX5.out.two
   obtain ⟨y0, y1, _, _⟩ := HT5.out.two
   cases h1 : inB ro 1 1000
   ·rw [h1] at HI1
    have HF := hide (HBAD.out (by
     have h2 : ro < 1 ∨ 1000 < ro := by
      rcases Int.lt_or_le ro 1 with h | h
      ·exact .inl h
      ·rcases Int.lt_or_le 1000 ro with h' | h'
       ·exact .inr h'
       ·simp [inB, h, h'] at h1
     unfold okT
     rcases h2 with h2 | h2
     ·rw [decide_eq_false (show ¬ lastT ts k < ro by omega)]; rfl
     ·rw [decide_eq_false (show ¬ ro ≤ 1000 by omega)]; simp))
    go_quiet (first | (go_at_call_of 42 ro; refine Calls.quiet_of_same (HI1.out _)) | (go_at_call_of 42 co; refine Calls.quiet_of_same (HI2.out _)) | (go_at_call 43; refine Calls.quiet_of_same (HFR.out _)))
    go_wp2
    go_ret
    exact ⟨by rw [HF.out]; rfl, below_drewN HB5.out _⟩
   rw [h1] at HI1
   have hrb : 1 ≤ ro ∧ ro ≤ 1000 := by simpa [inB] using h1
   have HFR := hide (fun W => refFree_any ro.toNat W (by omega) (by omega))
   rw [Int.toNat_of_nonneg (by omega)] at HFR
   cases hfr : decide ((splitN ro.toNat).1 ≤ 1)
   ·rw [hfr] at HFR
    have HF := hide (HBAD.out (by unfold okT; dsimp only; rw [hfr]; simp))
    go_quiet (first | (go_at_call_of 42 ro; refine Calls.quiet_of_same (HI1.out _)) | (go_at_call_of 42 co; refine Calls.quiet_of_same (HI2.out _)) | (go_at_call 43; refine Calls.quiet_of_same (HFR.out _)))
    go_wp2
    go_ret
    exact ⟨by rw [HF.out]; rfl, below_drewN HB5.out _⟩
   rw [hfr] at HFR
   rcases hprev with h0 | ⟨j, h0, hlj⟩
   ·have hl : lastT ts k = 0 := by rw [h0]; rfl
    have hkz : ¬ 0 < (k : Int) := by omega
    by_cases hc0 : co = 0
    ·have hcb0 : (co == 0) = true := by simpa using hc0
     have HF := hide (HBAD.out (by unfold okT; dsimp only; rw [decide_eq_false (show ¬ co ≠ 0 by omega)]; simp))
     go_quiet (first | (go_at_call_of 42 ro; refine Calls.quiet_of_same (HI1.out _)) | (go_at_call_of 42 co; refine Calls.quiet_of_same (HI2.out _)) | (go_at_call 43; refine Calls.quiet_of_same (HFR.out _)))
     go_wp2
     go_ret
     exact ⟨by rw [HF.out]; rfl, below_drewN HB5.out _⟩
    have hcb0 : (co == 0) = false := by simpa using hc0
    cases h5 : inB co (-100000) 100000
    ·rw [h5] at HI2
     have HF := hide (HBAD.out (by unfold okT; dsimp only; rw [h5]; simp))
     go_quiet (first | (go_at_call_of 42 ro; refine Calls.quiet_of_same (HI1.out _)) | (go_at_call_of 42 co; refine Calls.quiet_of_same (HI2.out _)) | (go_at_call 43; refine Calls.quiet_of_same (HFR.out _)))
     go_wp2
     go_ret
     exact ⟨by rw [HF.out]; rfl, below_drewN HB5.out _⟩
    rw [h5] at HI2
    have HOK2 := hide (show okT (lastT ts k) (co, ro) = true by unfold okT; rw [decide_eq_true (show lastT ts k < ro by omega), decide_eq_true (show ro ≤ 1000 by omega), decide_eq_true (show co ≠ 0 from hc0), h5, hfr]; rfl)
    have hcb : -100000 ≤ co ∧ co ≤ 100000 := by simpa [inB] using h5
    have HDV := hide (fun W => divides_any (g : Int) co W (by omega) (by omega))
    rw [Int.natAbs_natCast] at HDV
    go_quiet (first | (go_at_call_of 42 ro; refine Calls.quiet_of_same (HI1.out _)) | (go_at_call_of 42 co; refine Calls.quiet_of_same (HI2.out _)) | (go_at_call 43; refine Calls.quiet_of_same (HFR.out _)))
    go_wp2_with (first
     | (go_at_call 44; refine (HDV.out _).mono ?_; rintro e w6 ⟨rfl, m6, rfl⟩))
    refine ⟨⟨k + 1, by omega, by rw [HGS.out], by rw [HGS.out]; exact Nat.le_trans (Nat.gcd_le_left _ hgp) hgb, by go_num, ?_, by rw [HL1.out]; omega, (by first | exact below_drewN HB5.out _ | exact below_drewN (below_drewN HB5.out _) _), HX5.out⟩, by simp [intOf]; omega⟩
    rw [HOK.out, HOK2.out, HL1.out]; rfl
   ·obtain ⟨pr, hpr, hcp⟩ := HP5.out j h0
    have hl : lastT ts k = pr := by rw [hlj, hpr]; rfl
    have hkz : 0 < (k : Int) := by omega
    have hkj : (k : Int) - 1 = (j : Int) := by omega
    by_cases hpo : ro ≤ pr
    ·have HF := hide (HBAD.out (by unfold okT; dsimp only; rw [decide_eq_false (show ¬ lastT ts k < ro by omega)]; rfl))
     go_quiet (first | (go_at_call_of 42 ro; refine Calls.quiet_of_same (HI1.out _)) | (go_at_call_of 42 co; refine Calls.quiet_of_same (HI2.out _)) | (go_at_call 43; refine Calls.quiet_of_same (HFR.out _)))
     go_wp2
     go_ret
     exact ⟨by rw [HF.out]; rfl, below_drewN HB5.out _⟩
    have hpo2 : ¬ ro ≤ pr := hpo
    by_cases hc0 : co = 0
    ·have hcb0 : (co == 0) = true := by simpa using hc0
     have HF := hide (HBAD.out (by unfold okT; dsimp only; rw [decide_eq_false (show ¬ co ≠ 0 by omega)]; simp))
     go_quiet (first | (go_at_call_of 42 ro; refine Calls.quiet_of_same (HI1.out _)) | (go_at_call_of 42 co; refine Calls.quiet_of_same (HI2.out _)) | (go_at_call 43; refine Calls.quiet_of_same (HFR.out _)))
     go_wp2
     go_ret
     exact ⟨by rw [HF.out]; rfl, below_drewN HB5.out _⟩
    have hcb0 : (co == 0) = false := by simpa using hc0
    cases h5 : inB co (-100000) 100000
    ·rw [h5] at HI2
     have HF := hide (HBAD.out (by unfold okT; dsimp only; rw [h5]; simp))
     go_quiet (first | (go_at_call_of 42 ro; refine Calls.quiet_of_same (HI1.out _)) | (go_at_call_of 42 co; refine Calls.quiet_of_same (HI2.out _)) | (go_at_call 43; refine Calls.quiet_of_same (HFR.out _)))
     go_wp2
     go_ret
     exact ⟨by rw [HF.out]; rfl, below_drewN HB5.out _⟩
    rw [h5] at HI2
    have HOK2 := hide (show okT (lastT ts k) (co, ro) = true by unfold okT; rw [decide_eq_true (show lastT ts k < ro by omega), decide_eq_true (show ro ≤ 1000 by omega), decide_eq_true (show co ≠ 0 from hc0), h5, hfr]; rfl)
    have hcb : -100000 ≤ co ∧ co ≤ 100000 := by simpa [inB] using h5
    have HDV := hide (fun W => divides_any (g : Int) co W (by omega) (by omega))
    rw [Int.natAbs_natCast] at HDV
    go_quiet (first | (go_at_call_of 42 ro; refine Calls.quiet_of_same (HI1.out _)) | (go_at_call_of 42 co; refine Calls.quiet_of_same (HI2.out _)) | (go_at_call 43; refine Calls.quiet_of_same (HFR.out _)))
    go_wp2_with (first
     | (go_at_call 44; refine (HDV.out _).mono ?_; rintro e w6 ⟨rfl, m6, rfl⟩))
    refine ⟨⟨k + 1, by omega, by rw [HGS.out], by rw [HGS.out]; exact Nat.le_trans (Nat.gcd_le_left _ hgp) hgb, by go_num, ?_, by rw [HL1.out]; omega, (by first | exact below_drewN HB5.out _ | exact below_drewN (below_drewN HB5.out _) _), HX5.out⟩, by simp [intOf]; omega⟩
    rw [HOK.out, HOK2.out, HL1.out]; rfl
  ·obtain rfl : k = ts.length := by omega
   have HE : Hid (numOK den ts = decide (gcdL (den :: ts.map (·.1)) = 1)) := hide (by
    rw [HN.out, HC.out, List.drop_length]
    exact Bool.true_and _)
   have e1 : (ts.take ts.length).map (·.1) = ts.map (·.1) := by rw [List.take_length]
   rw [e1] at hgb
   simp only [e1]
   generalize gcdL (den :: ts.map (·.1)) = g at *
   go_wp2
   go_ret
   exact ⟨by rw [HE.out]; by_cases hg1 : g = 1 <;> simp [hg1] <;> omega, HB.out⟩
end Go.Proofs.YthkblgglmohciaaGreatDoor
namespace Go.Proofs.YthkblgglmohciaaGreatDoor
open Go.RowKit
def outT (kv : List (Int × Int)) : List (Int × Int) := kv.map fun p => (p.2, p.1)
theorem outT_len (kv : List (Int × Int)) : (outT kv).length = kv.length := by simp [outT]
theorem outT_snoc (kv : List (Int × Int)) (p : Int × Int) : outT (kv ++ [p]) = outT kv ++ [(p.2, p.1)] := by simp [outT]
def updS (kv : List (Int × Int)) (r c : Int) : List (Int × Int) := kv.map fun p => if p.1 = r then (p.1, p.2 + c) else p
theorem updS_len (kv : List (Int × Int)) (r c : Int) : (updS kv r c).length = kv.length := by simp [updS]
theorem updS_none : ∀ (kv : List (Int × Int)) (r c : Int), hasS kv r = false → updS kv r c = kv
 | [], _, _, _ => rfl
 | p :: t, r, c, h => by
  unfold hasS at h
  rw [List.any_cons, Bool.or_eq_false_iff] at h
  have h1 : ¬ p.1 = r := by simpa using h.1
  have h2 := updS_none t r c h.2
  unfold updS at h2 ⊢
  rw [List.map_cons, h2, if_neg h1]
theorem addS_upd : ∀ (kv : List (Int × Int)) (r c : Int), (kv.map (·.1)).Nodup → addS kv r c = if hasS kv r then updS kv r c else kv ++ [(r, c)]
 | [], r, c, _ => by simp [addS, hasS]
 | (a, x) :: t, r, c, hn => by
  simp only [List.map_cons, List.nodup_cons] at hn
  by_cases h : r = a
  ·subst h
   have h1 : hasS t r = false := by
    cases hh : hasS t r
    ·rfl
    ·exact absurd (hasS_mem.1 hh) hn.1
   have h2 : hasS ((r, x) :: t) r = true := by simp [hasS]
   rw [h2]
   have h3 := updS_none t r c h1
   unfold updS at h3 ⊢
   simp [addS, h3]
  ·have h1 := addS_upd t r c hn.2
   have h2 : hasS ((a, x) :: t) r = hasS t r := by unfold hasS; rw [List.any_cons, decide_eq_false (show ¬ a = r from fun e => h e.symm)]; rfl
   rw [h2]
   have h3 : ¬ a = r := fun e => h e.symm
   simp only [addS, if_neg h, h1]
   cases hasS t r
   ·simp
   ·simp [updS, h3]
def updK (kv : List (Int × Int)) (r c : Int) (k : Nat) : List (Int × Int) := updS (kv.take k) r c ++ kv.drop k
theorem updK_len (kv : List (Int × Int)) (r c : Int) (k : Nat) : (updK kv r c k).length = kv.length := by
 unfold updK; rw [List.length_append, updS_len, List.length_take, List.length_drop]; omega
theorem updK_zero (kv : List (Int × Int)) (r c : Int) : updK kv r c 0 = kv := by simp [updK, updS]
theorem updK_all (kv : List (Int × Int)) (r c : Int) : updK kv r c kv.length = updS kv r c := by simp [updK]
theorem updK_at {kv : List (Int × Int)} (r c : Int) {k : Nat} (h : k < kv.length) : (updK kv r c k)[k]'(by rw [updK_len]; exact h) = kv[k] := by
 unfold updK
 rw [List.getElem_append_right (by rw [updS_len, List.length_take]; omega)]
 simp [updS_len, Nat.min_eq_left (Nat.le_of_lt h)]
theorem updK_no {kv : List (Int × Int)} {r : Int} (c : Int) {k : Nat} (h : k < kv.length) (hr : ¬ kv[k].1 = r) : updK kv r c (k + 1) = updK kv r c k := by
 unfold updK
 rw [take_snoc kv k h, List.drop_eq_getElem_cons h]
 unfold updS
 rw [List.map_append, List.map_singleton, if_neg hr, List.append_assoc]
 rfl
theorem updK_yes {kv : List (Int × Int)} {r : Int} (c : Int) {k : Nat} (h : k < kv.length) (hr : kv[k].1 = r) : (updK kv r c k).set k (kv[k].1, kv[k].2 + c) = updK kv r c (k + 1) := by
 unfold updK
 rw [take_snoc kv k h, List.drop_eq_getElem_cons h, List.set_append_right _ _ (by rw [updS_len, List.length_take]; omega)]
 have e : k - (updS (kv.take k) r c).length = 0 := by rw [updS_len, List.length_take]; omega
 rw [e, List.set_cons_zero]
 unfold updS
 rw [List.map_append, List.map_singleton, if_pos hr, List.append_assoc]
 rfl
theorem hasS_take {kv : List (Int × Int)} (r : Int) {k : Nat} (h : k < kv.length) : hasS (kv.take (k + 1)) r = (hasS (kv.take k) r || decide (kv[k].1 = r)) := by
 unfold hasS; rw [take_snoc kv k h, List.any_append]; simp
end Go.Proofs.YthkblgglmohciaaGreatDoor
namespace Go.Proofs.YthkblgglmohciaaGreatDoor
open Go.RowKit
structure OutI (w W : World) (o : Value) (kv : List (Int × Int)) : Prop where
 row : W.ownsRow (w.heap.size + 1) 52 2 o kv.length (cellsT (outT kv))
 res : Blk W w.heap.size 24 #[.int .i64 0, .slice none 0 0]
 below : Below w.heap.size w W
theorem OutI.under {w W W' : World} {o : Value} {kv : List (Int × Int)} (h : OutI w W o kv) (hb : Below W.heap.size W W') : OutI w W' o kv :=
 ⟨own_below h.row hb, h.res.below hb h.res.lt, h.below.trans (hb.mono h.below.size)⟩
theorem OutI.alloc {w W : World} {o : Value} {kv : List (Int × Int)} (h : OutI w W o kv) (x : Obj) : OutI w (W.alloc x) o kv := h.under ((Below.refl _ _).alloc (Nat.le_refl _) x)
theorem OutI.drewN {w W : World} {o : Value} {kv : List (Int × Int)} (h : OutI w W o kv) (q : Nat) : OutI w (W.drewN q) o kv := h.under (below_drewN (Below.refl _ _) q)
theorem OutI.set {w W : World} {o : Value} {kv : List (Int × Int)} {P : Nat} (h : OutI w W o kv) (ho : o.ownBlock ≠ some P) (hP : w.heap.size < P) (i : Nat) (u : Value) : OutI w (W.setCell ⟨P, i, none⟩ u) o kv :=
 ⟨ownsRow_setCell_other h.row ho u, h.res.far (by show _ ≠ P; omega) u, h.below.setCell (by show _ ≤ P; omega) u⟩
theorem OutI.put {w W : World} {g cap : Nat} {kv kv' : List (Int × Int)} {j : Nat} {x : Int} (h : OutI w W (.slice (some ⟨g, 0, none⟩) kv.length cap) kv) (hj : j < kv.length) (e : kv.set j (kv[j].1, x) = kv') : OutI w (W.setCell ⟨g, j * 2, none⟩ (.int .i64 x)) (.slice (some ⟨g, 0, none⟩) kv.length cap) kv' := by
 have hg := (h.row.lt g rfl).1
 have h1 := World.ownsRow.stored h.row (j * 2) (.int .i64 x)
 have hjo : j < (outT kv).length := by rw [outT_len]; exact hj
 rw [cellsT_set1 _ j _ hjo] at h1
 have e4 : (outT kv)[j] = (kv[j].2, kv[j].1) := by simp [outT]
 have e2 : (outT kv).set j (x, (outT kv)[j].2) = outT kv' := by
  rw [e4, ← e]
  unfold outT
  rw [List.map_set]
 rw [e2] at h1
 have e3 : kv'.length = kv.length := by rw [← e]; simp
 exact ⟨by rw [e3]; exact h1.1, h.res.far (by show _ ≠ g; omega) _, h.below.setCell (by show _ ≤ g; omega) _⟩
theorem splitB {n s r : Nat} (h : s * s * r = n) (hr : 1 ≤ r) (hn : n ≤ 100000000000) : s ≤ 400000 := by
 rcases Nat.lt_or_ge 400000 s with h1 | h1
 ·have h2 : 400001 * 400001 ≤ s * s := Nat.mul_le_mul h1 h1
  have h3 : s * s ≤ s * s * r := Nat.le_mul_of_pos_right _ hr
  omega
 ·exact h1
theorem outK_at {kv : List (Int × Int)} (r c : Int) {k : Nat} (h : k < kv.length) (h2 : k < (outT (updK kv r c k)).length) : (outT (updK kv r c k))[k] = (kv[k].2, kv[k].1) := by
 have h3 : ∀ (m : List (Int × Int)) (hm : k < (outT m).length) (hm2 : k < m.length), (outT m)[k] = (m[k].2, m[k].1) := fun m hm hm2 => by simp [outT]
 rw [h3 _ h2 (by rw [updK_len]; exact h), updK_at r c h]
theorem OutI.snoc {w V w3 : World} {o v : Value} {kv : List (Int × Int)} {r x : Int} {ob : Obj} (h : OutI w V o kv) (hrow : w3.ownsRow (w.heap.size + 1) 52 2 v (kv.length + 1) (cellsT (outT kv) ++ [.int .i64 x, .int .i64 r])) (hg : (V.alloc ob).grownBy w3 o.ownBlock) : OutI w w3 v (kv ++ [(r, x)]) := by
 have hlt : ∀ j, o.ownBlock = some j → w.heap.size + 1 ≤ j := fun j e => (h.row.lt j e).1
 refine ⟨?_, (h.res.alloc ob).grown hg (fun e => by have := hlt _ e; omega), (h.below.alloc h.below.size ob).grown hg (by have := h.below.size; simp; omega) (fun j e => by have := hlt _ e; omega)⟩
 rw [outT_snoc, cellsT_snoc, List.length_append, List.length_singleton]
 exact hrow
theorem splitF_ge : ∀ (f d sq rest : Nat), 1 ≤ d → sq ≤ (splitF f d sq rest).1
 | 0, _, _, _, _ => Nat.le_refl _
 | f + 1, d, sq, rest, h => by
  unfold splitF
  split
  ·split
   ·exact Nat.le_trans (Nat.le_mul_of_pos_right _ h) (splitF_ge f d (sq * d) _ h)
   ·exact splitF_ge f (d + 1) sq rest (by omega)
  ·exact Nat.le_refl _
theorem mul_less {a b c M : Int} (h0 : 0 ≤ b) (h : b ≤ c) (hm : -M ≤ a * c ∧ a * c ≤ M) : -M ≤ a * b ∧ a * b ≤ M := by
 rcases Int.le_total 0 a with ha | ha
 ·have h1 := Int.mul_le_mul_of_nonneg_left h ha
  have h2 := Int.mul_nonneg ha h0
  omega
 ·have h1 := Int.mul_le_mul_of_nonneg_left h (show 0 ≤ -a by omega)
  have h2 := Int.mul_nonneg (show 0 ≤ -a by omega) h0
  rw [Int.neg_mul] at h1 h2
  rw [Int.neg_mul] at h1
  omega
end Go.Proofs.YthkblgglmohciaaGreatDoor
