/-
  The law's own ints.
-/
import Derived.Test.YtaacnbnmlfhnaaaGreatDoorSgnToLawA
import Derived.Test.YtaacnbnmlfhnaaaGreatDoorWeak
set_option linter.unusedVariables false
set_option linter.unusedSimpArgs false
namespace Go.Proofs.YtaacnbnmlfhnaaaGreatDoor
open Go.RowKit

set_option maxHeartbeats 2000000 in
set_option maxRecDepth 100000 in
theorem lawInts_any (A : Option Addr) (n c : Nat) (xs : List Int) (A2 : Option Addr) (n2 c2 : Nat) (ys : List Int) (B : Nat) (w : World) (hx : IntsQ w B A n c xs) (hy : IntsQ w B A2 n2 c2 ys) (hB : B ≤ w.heap.size) :
    Calls Tryz.prog 50 #[.slice A n c, .slice A2 n2 c2] w fun e w' => e = .returned (.bool (decide (xs = ys))) ∧ ∃ m, w' = w.drewN m := by
  have hlx := hx.len
  have hly := hy.len
  subst hlx
  subst hly
  have hnx := Rq.nmax hx
  have hny := Rq.nmax hy
  have HTX := hide hx
  have HTY := hide hy
  clear hx hy
  go_enter Tryz.func50, Tryz.ntmps50
  by_cases hl : (xs.length : Int) = (ys.length : Int)
  · go_wp2
    go_loopw [5] (fun i W => ∃ (k : Nat), k ≤ xs.length ∧ i = .int .i64 k ∧ xs.take k = ys.take k ∧ ∃ q, W = w.drewN q) (fun i _ => xs.length - (intOf i).toNat)
    case atStart => exact ⟨0, by omega, rfl, rfl, 0, rfl⟩
    case round =>
      obtain ⟨k, hk, rfl, hpre, q, rfl⟩ := hrel
      have HPRE := hide hpre
      have HTXq : Hid (IntsQ (w.drewN q) B A xs.length c xs) := hide HTX.out
      have HTYq : Hid (IntsQ (w.drewN q) B A2 ys.length c2 ys) := hide HTY.out
      have HBq : Hid (∃ m, w.drewN q = w.drewN m) := hide ⟨q, rfl⟩
      have HDD := hide (fun p => dd w q p)
      clear hpre
      generalize w.drewN q = W at *
      by_cases hkl : (k : Int) < (xs.length : Int)
      · have hk1 : k < xs.length := by omega
        have hk2 : k < ys.length := by omega
        obtain ⟨ad, rfl, -, ha0⟩ := HTXq.out.at_ hk1
        obtain ⟨ad2, rfl, -, hb0⟩ := HTYq.out.at_ hk2
        have hky : (k : Int) < (ys.length : Int) := by omega
        go_wp2
        have htk1 := List.take_succ_eq_append_getElem hk1
        have htk2 := List.take_succ_eq_append_getElem hk2
        by_cases heq : xs[k] = ys[k]
        · have HTK : Hid (xs.take (k + 1) = ys.take (k + 1)) := hide (by rw [htk1, htk2, HPRE.out, heq])
          rw [heq] at ha0
          clear htk1 htk2 heq
          go_quiet (fail)
          go_wp2
          obtain ⟨q2, hq2⟩ := HDD.out nq
          exact ⟨⟨k + 1, by omega, by go_num, HTK.out, q2, hq2⟩, by simp [intOf]; omega⟩
        · have HNE := hide (show ¬ xs = ys from fun e => heq (by simp only [e]))
          clear htk1 htk2
          go_quiet (fail)
          go_wp2
          go_ret
          exact ⟨by simp [HNE.out], HDD.out nq⟩
      · obtain rfl : k = xs.length := by omega
        go_wp2
        go_ret
        have hpre := HPRE.out
        rw [List.take_of_length_le (Nat.le_refl _), List.take_of_length_le (by omega)] at hpre
        exact ⟨by simp [hpre], HBq.out⟩
  · go_wp2
    go_ret
    have hne : ¬ xs = ys := fun e => hl (by rw [e])
    exact ⟨by simp [hne], 0, rfl⟩
end Go.Proofs.YtaacnbnmlfhnaaaGreatDoor
