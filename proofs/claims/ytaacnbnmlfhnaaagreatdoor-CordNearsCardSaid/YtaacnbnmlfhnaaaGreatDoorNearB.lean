/-
  chitiref02.Around, near, Closer: what they compute.
-/
import Derived.Test.YtaacnbnmlfhnaaaGreatDoorNearA
set_option linter.unusedVariables false
set_option linter.unusedSimpArgs false
namespace Go.Proofs.YtaacnbnmlfhnaaaGreatDoor
open Go.RowKit

theorem sq_le9 {k : Int} (h : k * k ≤ 9000000000) (hk : 0 ≤ k) : k ≤ 94868 := by
  rcases Int.lt_or_le 94868 k with h1 | h1
  · have h2 : (94869 : Int) * 94869 ≤ k * k := Int.mul_le_mul (by omega) (by omega) (by omega) (by omega)
    exact absurd (Int.le_trans h2 h) (by decide)
  · exact h1
theorem nd_pos {n d : Int} (hn : 1 ≤ n ∧ n ≤ 1000) (hd : 1 ≤ d ∧ d ≤ 3000) : 1 ≤ n * d * d ∧ n * d * d ≤ 9000000000 := by
  have h1 := mul_bd (a := n) (b := d) (A := 1000) (B := 3000) (by omega) (by omega)
  have h2 := mul_bd (a := n * d) (b := d) (A := 3000000) (B := 3000) (by omega) (by omega)
  have h3 : 0 < n * d * d := Int.mul_pos (Int.mul_pos (by omega) (by omega)) (by omega)
  omega

set_option maxHeartbeats 2000000 in
set_option maxRecDepth 100000 in
theorem around_any (n d : Int) (w : World) (hn : 1 ≤ n ∧ n ≤ 1000) (hd : 1 ≤ d ∧ d ≤ 3000) :
    Calls Tryz.prog 51 #[.int .i64 n, .int .i64 d] w fun e w' => e = .returned (.int .i64 (numR (4 * n * d * d))) ∧ w' = w := by
  have h1 := mul_bd (a := n) (b := d) (A := 1000) (B := 3000) (by omega) (by omega)
  have h2 := nd_pos hn hd
  have e1 : 4 * n * d = 4 * (n * d) := by rw [Int.mul_assoc]
  have e2 : 4 * n * d * d = 4 * (n * d * d) := by rw [e1, Int.mul_assoc]
  rw [e2]
  rw [e1] at e2
  generalize hnd : n * d = nd at *
  generalize hm : nd * d = m at *
  go_enter Tryz.func51, Tryz.ntmps51
  go_wp2
  go_loopw [5] (fun i W => ∃ k : Nat, k ≤ 94869 ∧ i = .int .i64 k ∧ (∀ j : Nat, j < k → ((j : Int) + 1) * ((j : Int) + 1) ≤ m) ∧ W = w) (fun i _ => 94870 - (intOf i).toNat)
  case atStart => exact ⟨0, by omega, rfl, fun j hj => by omega, rfl⟩
  case round =>
    obtain ⟨k, hk, rfl, hj, rfl⟩ := hrel
    have HJ := hide hj
    clear hj
    have h3 := mul_bd (a := (k : Int) + 1) (b := (k : Int) + 1) (A := 94870) (B := 94870) (by omega) (by omega)
    have h4 := mul_bd (a := 2 * (k : Int) + 1) (b := 2 * (k : Int) + 1) (A := 189739) (B := 189739) (by omega) (by omega)
    have HK := hide (show ((k : Int) + 1) * ((k : Int) + 1) ≤ m → (k : Int) + 1 ≤ 94868 from fun h => sq_le9 (by omega) (by omega))
    by_cases hc : ((k : Int) + 1) * ((k : Int) + 1) ≤ m
    · have HC := hide hc
      have hk2 := HK.out hc
      generalize hs : ((k : Int) + 1) * ((k : Int) + 1) = s at *
      go_wp2
      refine ⟨⟨k + 1, by omega, by go_num, fun j hj => ?_, by trivial⟩, by simp [intOf]; omega⟩
      rcases Nat.lt_or_ge j k with h5 | h5
      · exact HJ.out j h5
      · obtain rfl : j = k := by omega
        rw [hs]
        exact HC.out
    · have HA := hide (around_eq hk HJ.out hc)
      by_cases hq : (2 * (k : Int) + 1) * (2 * (k : Int) + 1) ≤ 4 * m
      · rw [if_pos hq] at HA
        generalize hs : ((k : Int) + 1) * ((k : Int) + 1) = s at *
        generalize hs2 : (2 * (k : Int) + 1) * (2 * (k : Int) + 1) = s2 at *
        go_wp2
        go_ret
        exact ⟨by rw [HA.out]; rfl, by trivial⟩
      · rw [if_neg hq] at HA
        generalize hs : ((k : Int) + 1) * ((k : Int) + 1) = s at *
        generalize hs2 : (2 * (k : Int) + 1) * (2 * (k : Int) + 1) = s2 at *
        go_wp2
        go_ret
        exact ⟨by rw [HA.out]; rfl, by trivial⟩

set_option maxHeartbeats 2000000 in
set_option maxRecDepth 100000 in
theorem refNear_any (n d : Int) (f : Nat) (w : World) (hn : 1 ≤ n ∧ n ≤ 1000) (hd : 1 ≤ d ∧ d ≤ 3000) (hf : f ≤ 94869) (hj0 : ∀ j : Nat, j < f → (2 * (j : Int) + 1) * (2 * (j : Int) + 1) ≤ 4 * n * d * d) :
    Calls Tryz.prog 102 #[.int .i64 n, .int .i64 d, .int .i64 f] w fun e w' => e = .returned (.int .i64 (numR (4 * n * d * d))) ∧ w' = w := by
  have h1 := mul_bd (a := n) (b := d) (A := 1000) (B := 3000) (by omega) (by omega)
  have h2 := nd_pos hn hd
  have e1 : 4 * n * d = 4 * (n * d) := by rw [Int.mul_assoc]
  have e2 : 4 * n * d * d = 4 * (n * d * d) := by rw [e1, Int.mul_assoc]
  rw [e2]
  rw [e2] at hj0
  rw [e1] at e2
  generalize hnd : n * d = nd at *
  generalize hm : nd * d = m at *
  have HJ0 := hide hj0
  clear hj0
  have hmx : max (0 : Int) ((f : Int) - 1) = ((f - 1 : Nat) : Int) := by omega
  go_enter Tryz.func102, Tryz.ntmps102
  go_wp2
  go_loopw [7] (fun i W => ∃ k : Nat, k ≤ 94869 ∧ i = .int .i64 k ∧ (∀ j : Nat, j < k → (2 * (j : Int) + 1) * (2 * (j : Int) + 1) ≤ 4 * m) ∧ W = w) (fun i _ => 94870 - (intOf i).toNat)
  case atStart => exact ⟨f - 1, by omega, by first | rfl | (congr 1; omega), fun j hj => HJ0.out j (by omega), rfl⟩
  case round =>
    obtain ⟨k, hk, rfl, hj, rfl⟩ := hrel
    have HJ := hide hj
    clear hj hmx
    have h4 := mul_bd (a := 2 * (k : Int) + 1) (b := 2 * (k : Int) + 1) (A := 189739) (B := 189739) (by omega) (by omega)
    by_cases hc : (2 * (k : Int) + 1) * (2 * (k : Int) + 1) ≤ 4 * m
    · have HC := hide hc
      have hk2 := odd_sq_le (k := (k : Int)) (by omega) (by omega)
      generalize hs : (2 * (k : Int) + 1) * (2 * (k : Int) + 1) = s at *
      go_wp2
      refine ⟨⟨k + 1, by omega, by go_num, fun j hj => ?_, by trivial⟩, by simp [intOf]; omega⟩
      rcases Nat.lt_or_ge j k with h5 | h5
      · exact HJ.out j h5
      · obtain rfl : j = k := by omega
        rw [hs]
        exact HC.out
    · have HN := hide (show IsNum (4 * m) k from ⟨hk, HJ.out, hc⟩)
      generalize hs : (2 * (k : Int) + 1) * (2 * (k : Int) + 1) = s at *
      go_wp2
      go_ret
      exact ⟨by rw [HN.out.eq]; rfl, by trivial⟩

set_option maxHeartbeats 4000000 in
set_option maxRecDepth 100000 in
theorem refCloser_any (n a b c d : Int) (w : World) (ha : 0 ≤ a ∧ a ≤ 100000) (hb : 0 ≤ b ∧ b ≤ 3000) (hc : 0 ≤ c ∧ c ≤ 100000) (hd : 0 ≤ d ∧ d ≤ 3000) (hn : 1 ≤ n ∧ n ≤ 1000) :
    Calls Tryz.prog 103 #[.int .i64 n, .int .i64 a, .int .i64 b, .int .i64 c, .int .i64 d] w fun e w' => e = .returned (.bool (refCloser n a b c d)) ∧ w' = w := by
  unfold refCloser
  have k1 := mul_bd (a := a) (b := a) (A := 100000) (B := 100000) (by omega) (by omega)
  have k2 := mul_bd (a := c) (b := c) (A := 100000) (B := 100000) (by omega) (by omega)
  have k3 := mul_bd (a := n) (b := b) (A := 1000) (B := 3000) (by omega) (by omega)
  have k4 := mul_bd (a := n * b) (b := b) (A := 3000000) (B := 3000) (by omega) (by omega)
  have k5 := mul_bd (a := n) (b := d) (A := 1000) (B := 3000) (by omega) (by omega)
  have k6 := mul_bd (a := n * d) (b := d) (A := 3000000) (B := 3000) (by omega) (by omega)
  have h1 := mul_bd (a := a) (b := d) (A := 100000) (B := 3000) (by omega) (by omega)
  have h2 := mul_bd (a := c) (b := b) (A := 100000) (B := 3000) (by omega) (by omega)
  have h4 := mul_bd (a := 4 * n) (b := b) (A := 4000) (B := 3000) (by omega) (by omega)
  generalize haa : a * a = aa at *
  generalize hcc : c * c = cc at *
  generalize hnb : n * b = nb at *
  generalize hnbb : nb * b = nbb at *
  generalize hnd : n * d = nd at *
  generalize hndd : nd * d = ndd at *
  generalize had : a * d = p at *
  generalize hcb : c * b = q at *
  have h3 := mul_bd (a := p + q) (b := p + q) (A := 600000000) (B := 600000000) (by omega) (by omega)
  generalize hss : (p + q) * (p + q) = ss at *
  generalize hk1 : 4 * n * b = t1 at *
  have h5 := mul_bd (a := t1) (b := b) (A := 12000000) (B := 3000) (by omega) (by omega)
  generalize hk2 : t1 * b = t2 at *
  have h6 := mul_bd (a := t2) (b := d) (A := 36000000000) (B := 3000) (by omega) (by omega)
  generalize hk3 : t2 * d = t3 at *
  have h7 := mul_bd (a := t3) (b := d) (A := 108000000000000) (B := 3000) (by omega) (by omega)
  generalize hk4 : t3 * d = t4 at *
  by_cases g1 : nbb ≤ aa <;> by_cases g2 : ndd ≤ cc
  all_goals
    go_enter Tryz.func103, Tryz.ntmps103
    go_wp2
    all_goals go_ret
    all_goals exact ⟨by simp [g1, g2], by trivial⟩
end Go.Proofs.YtaacnbnmlfhnaaaGreatDoor
