/-
  chitiref02.Records: the document's records are those of the program.
-/
import Derived.Test.YtaacnbnmlfhnaaaGreatDoorNearB
import Derived.Test.YtaacnbnmlfhnaaaGreatDoorNearC
set_option linter.unusedVariables false
set_option linter.unusedSimpArgs false
namespace Go.Proofs.YtaacnbnmlfhnaaaGreatDoor
open Go.RowKit

theorem nd_grow {n d : Int} (hn : 1 ≤ n) (hd : 1 ≤ d) : 4 * n * d * d ≤ 4 * n * (d + 1) * (d + 1) := by
  have e : 4 * n * (d + 1) * (d + 1) = 4 * n * d * d + 4 * n * (2 * d + 1) := by grind
  have : 0 ≤ 4 * n * (2 * d + 1) := Int.mul_nonneg (by omega) (by omega)
  omega
theorem nd_bd {n d : Int} (hn : 1 ≤ n ∧ n ≤ 1000) (hd : 1 ≤ d ∧ d ≤ 3000) : 4 * n * d * d ≤ 36000000000 := by
  have h := nd_pos hn hd
  have e : 4 * n * d * d = 4 * (n * d * d) := by rw [Int.mul_assoc 4 n d, Int.mul_assoc]
  omega

set_option maxHeartbeats 4000000 in
set_option maxRecDepth 100000 in
theorem refRecords_any (n most : Int) (w : World) (hn : 1 ≤ n ∧ n ≤ 1000) (hm : 1 ≤ most ∧ most ≤ 3000) :
    Calls Tryz.prog 49 #[.int .i64 n, .int .i64 most] w fun e w' => ∃ (A : Option Addr) (c : Nat),
      e = .returned (.slice A ((recS n most).map (·.2)).length c) ∧ Ints w' w'.heap.size A ((recS n most).map (·.2)).length c ((recS n most).map (·.2)) ∧ Below w.heap.size w w' := by
  rw [List.length_map]
  obtain ⟨i0, hi0, hz0, hz1, hz2⟩ := info_parts Tryz.infoInt
  have HLIT := hide (World.ownsRow_lit (base := w.heap.size) (e := 3) (size := 1) w #[.int .i64 1] 1 (by simp) (by unfold maxLen; omega) rfl)
  have HB0 := hide ((Below.refl w.heap.size w).alloc (Nat.le_refl _) (.cells #[.int .i64 1] 3))
  obtain ⟨k1, hk1⟩ := isNum_some (b := 4 * n * 1 * 1) (nd_bd hn (by omega))
  have HAR := hide (fun W => around_any n 1 W hn (by omega))
  rw [hk1.eq] at HAR
  have HST := hide (recS_start (m := most) hm.1 hk1)
  have hk1b := hk1.1
  have HLEN := hide (show ∀ pre rest : List (Int × Int), pre ++ rest = recS n most → pre.length ≤ 3000 from fun pre rest h => by
    have h1 := recF_len n most.toNat 1 (0, 0)
    have h2 : (recS n most).length ≤ most.toNat := h1
    rw [← h, List.length_append] at h2
    omega)
  clear hk1
  go_enter Tryz.func49, Tryz.ntmps49
  go_wp2_with (first
    | (go_at_call 51; refine (HAR.out _).mono ?_; rintro e w1 ⟨rfl, hw1⟩; subst w1))
  obtain ⟨W0, hW0⟩ : ∃ W0, W0 = w.alloc (.cells #[.int .i64 1] 3) := ⟨_, rfl⟩
  rw [← hW0] at HLIT HB0 ⊢
  clear hW0
  go_loopw [5, 6, 7, 8, 9] (fun o a b m d W => ∃ (pre : List (Int × Int)) (x y : Int) (k dd : Nat), W.ownsRow w.heap.size 3 1 o pre.length (dens pre) ∧ a = .int .i64 x ∧ b = .int .i64 y ∧ m = .int .i64 k ∧ d = .int .i64 dd ∧ 2 ≤ dd ∧ (dd : Int) ≤ most + 1 ∧ k ≤ 94869 ∧
    (∀ j : Nat, j < k → (2 * (j : Int) + 1) * (2 * (j : Int) + 1) ≤ 4 * n * dd * dd) ∧ (0 ≤ x ∧ x ≤ 100000) ∧ (1 ≤ y ∧ y ≤ 3000) ∧ pre ++ recF n (most + 1 - dd).toNat dd (x, y) = recS n most ∧ Below w.heap.size w W) (fun _ _ _ _ d _ => (most + 1 - intOf d).toNat)
  case atStart =>
    refine ⟨[((k1 : Int), 1)], k1, 1, 0, 2, HLIT.out, rfl, rfl, rfl, rfl, by omega, by omega, by omega, fun j hj => by omega, by omega, by omega, ?_, HB0.out⟩
    rw [HST.out]
    rfl
  case round =>
    obtain ⟨pre, x, y, k, dd, ho, rfl, rfl, rfl, rfl, hd2, hdm, hk, hj, hx, hy, hpre, hb⟩ := hrel
    have HO := hide ho
    have HP := hide hpre
    have HB := hide hb
    have HJ := hide hj
    have hbz := hb.size
    clear ho hpre hb hj HST HLIT HB0 HAR
    by_cases hlt : (dd : Int) ≤ most
    · have hdd : 1 ≤ (dd : Int) ∧ (dd : Int) ≤ 3000 := by omega
      obtain ⟨k2, hk2⟩ := isNum_some (b := 4 * n * dd * dd) (nd_bd hn hdd)
      have HNE := hide (fun W => refNear_any n dd k W hn hdd hk HJ.out)
      rw [hk2.eq] at HNE
      have hk2b := hk2.1
      have HCL := hide (fun W => refCloser_any n k2 dd x y W (by omega) (by omega) (by omega) (by omega) hn)
      rw [refCloser_eq] at HCL
      have HST := hide (recF_step (n := n) (m := most) (best := (x, y)) (show 1 < (dd : Int) by omega) hlt hk2)
      have HJ2 := hide (show ∀ j : Nat, j < k2 → (2 * (j : Int) + 1) * (2 * (j : Int) + 1) ≤ 4 * n * ((dd + 1 : Nat) : Int) * ((dd + 1 : Nat) : Int) from fun j hj => by
        have := hk2.grow (nd_grow (n := n) (d := (dd : Int)) hn.1 hdd.1) j hj
        rw [show ((dd + 1 : Nat) : Int) = (dd : Int) + 1 by omega]
        exact this)
      have hlen := HLEN.out _ _ HP.out
      have HPR := hide HP.out
      rw [HST.out] at HPR
      have hdc : ((dd + 1 : Nat) : Int) = (dd : Int) + 1 := by omega
      clear HST HP hk2 HJ
      cases hcl : nearCloser ((k2 : Int), (dd : Int)) (x, y) n
      · rw [hcl] at HCL HPR
        simp only [Bool.false_eq_true, if_false] at HPR
        have HPR := hide HPR.out
        go_wp2_with (first
          | (go_at_call 102; refine (HNE.out _).mono ?_; rintro e w1 ⟨rfl, hw1⟩; subst w1)
          | (go_at_call 103; refine (HCL.out _).mono ?_; rintro e w1 ⟨rfl, hw1⟩; subst w1))
        refine ⟨⟨pre, x, y, k2, dd + 1, HO.out, rfl, rfl, rfl, by go_num, by omega, by omega, hk2b, HJ2.out, hx, hy, ?_, HB.out⟩, by simp [intOf]; omega⟩
        rw [hdc]
        exact HPR.out
      · rw [hcl] at HCL HPR
        simp only [if_true] at HPR
        have HPR := hide HPR.out
        obtain ⟨A3, c3, rfl⟩ := own_shape HO.out
        go_wp2_with (first
          | (go_at_call 102; refine (HNE.out _).mono ?_; rintro e w1 ⟨rfl, hw1⟩; subst w1)
          | (go_at_call 103; refine (HCL.out _).mono ?_; rintro e w1 ⟨rfl, hw1⟩; subst w1)
          | (at_builtin; refine wpList_append_own _ rfl _ _ 66 rfl w.heap.size 3 i0 (.int .i64 0) 1 8 Tryz.underlying66 hi0 hz0 hz1 hz2 rfl (by decide) (.slice A3 pre.length c3) pre.length _ rfl (World.ownsRow.alloc HO.out _) ⟨wr.heap.size, 0, none⟩ 1 1 [.int .i64 dd] rfl rfl (cell_new1 _ _ _) (by simp [Value.oneCell']) (by unfold maxLen; omega) (by omega) (by simp; omega) ?_; intro v' w3 ho3 hg3 _; obtain ⟨A4, c4, rfl⟩ := own_shape ho3; have HO3 := hide ho3; have HG3 := hide hg3; clear ho3 hg3))
        have hnr : ∀ j, (Value.slice A3 pre.length c3).ownBlock = some j → w.heap.size ≤ j := fun j e => (HO.out.lt j e).1
        refine ⟨⟨pre ++ [((k2 : Int), (dd : Int))], k2, dd, k2, dd + 1, ?_, rfl, rfl, rfl, by go_num, by omega, by omega, hk2b, HJ2.out, by omega, by omega, ?_, ?_⟩, by simp [intOf]; omega⟩
        · have e5 : dens (pre ++ [((k2 : Int), (dd : Int))]) = dens pre ++ [.int .i64 dd] := by simp [dens]
          rw [e5, List.length_append, List.length_singleton]
          exact HO3.out
        · rw [hdc, List.append_assoc]
          exact HPR.out
        · exact (HB.out.alloc hbz _).grown HG3.out (by simp; omega) hnr
    · have HD := hide (recF_done n (m := most) (d := dd) (by omega) (x, y))
      have hpre := HP.out
      rw [HD.out, List.append_nil] at hpre
      subst hpre
      obtain ⟨A3, c3, rfl⟩ := own_shape HO.out
      go_wp2
      go_ret
      refine ⟨A3, c3, rfl, ?_, HB.out⟩
      have h2 := Rd.of_own HO.out
      have e5 : dens (recS n most) = ((recS n most).map (·.2)).map (Value.int .i64) := by simp [dens]
      rw [e5] at h2
      exact h2
end Go.Proofs.YtaacnbnmlfhnaaaGreatDoor
