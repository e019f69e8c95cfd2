/-
  chitilaw02.CordNears returns true.
-/
import Derived.Test.YtaacnbnmlfhnaaaGreatDoorLawF
import Derived.Test.YtaacnbnmlfhnaaaGreatDoorNearD
import Derived.Test.YtaacnbnmlfhnaaaGreatDoorKnown
set_option linter.unusedVariables false
set_option linter.unusedSimpArgs false
namespace Go.Proofs.YtaacnbnmlfhnaaaGreatDoor
open Go.RowKit

theorem recF_mem (n : Int) : ∀ (k : Nat) (d : Int) (best : Int × Int), ∀ x ∈ recF n k d best, x.1 = numR (4 * n * x.2 * x.2) ∧ d ≤ x.2 ∧ x.2 < d + k
  | 0, _, _, x, hx => by cases hx
  | k + 1, d, best, x, hx => by
    unfold recF at hx
    split at hx
    · obtain ⟨h1, h2, h3⟩ := recF_mem n k (d + 1) best x hx
      exact ⟨h1, by omega, by omega⟩
    · rcases List.mem_cons.1 hx with rfl | hx
      · exact ⟨rfl, Int.le_refl _, by show d < _; omega⟩
      · obtain ⟨h1, h2, h3⟩ := recF_mem n k (d + 1) _ x hx
        exact ⟨h1, by omega, by omega⟩
theorem recS_last {n most : Int} (hn : 1 ≤ n ∧ n ≤ 1000) (hm : 1 ≤ most ∧ most ≤ 3000) : ∃ (L : List Int) (a d : Int), (recS n most).map (·.2) = L ∧ lastP (recS n most) = (a, d) ∧ a = numR (4 * n * d * d) ∧ (1 ≤ d ∧ d ≤ 3000) ∧ 0 < L.length ∧ L.length ≤ 3000 ∧ L[L.length - 1]? = some d := by
  obtain ⟨k1, hk1⟩ := isNum_some (b := 4 * n * 1 * 1) (nd_bd hn (by omega))
  have h1 := recS_start (m := most) hm.1 hk1
  have hlen : (recS n most).length ≤ most.toNat := recF_len n most.toNat 1 (0, 0)
  have hne : recS n most ≠ [] := by rw [h1]; simp
  obtain ⟨x, hx⟩ : ∃ x, (recS n most).getLast? = some x := by
    cases h : (recS n most).getLast? with
    | none => exact absurd (List.getLast?_eq_none_iff.1 h) hne
    | some x => exact ⟨x, rfl⟩
  have hmem : x ∈ recS n most := List.mem_of_getLast? hx
  obtain ⟨h2, h3, h4⟩ := recF_mem n most.toNat 1 (0, 0) x hmem
  have hp : 0 < (recS n most).length := List.length_pos_iff.2 hne
  refine ⟨_, x.1, x.2, rfl, by simp [lastP, hx], h2, ⟨h3, by omega⟩, by simpa using hp, by simp; omega, ?_⟩
  rw [List.getLast?_eq_getElem?] at hx
  rw [List.length_map, List.getElem?_map, hx]
  rfl

set_option maxHeartbeats 2000000 in
set_option maxRecDepth 100000 in
theorem nears_any (n most : Int) (w : World) (hn0 : -9223372036854775808 ≤ n ∧ n ≤ 9223372036854775807) (hm0 : -9223372036854775808 ≤ most ∧ most ≤ 9223372036854775807)
    (hE : ErrVars w) (htab : Lib.TabIs Tryz.prog w "internal/strconv.uint64pow10" .u64 Lib.pow10Tab) :
    Calls Tryz.prog 8 #[.int .i64 n, .int .i64 most] w fun e w' => e = .returned (.bool true) ∧ Below w.heap.size w w' := by
  obtain ⟨gp, hgp⟩ := Option.isSome_iff_exists.1 Tryz.pow10g
  have HK : Hid (∀ W, Below w.heap.size w W → Calls Tryz.prog 17 #[] W fun e w' => e = .returned (.bool true) ∧ Below W.heap.size W w') := hide (fun W hW => known_any W (hE.below hW (Nat.le_refl _)) (TabIs_below_ hgp htab hW))
  have HN := hide (fun W => nearest_any n most W)
  have HR := hide (fun W => cordRecords_any n most W)
  clear hE htab hgp
  by_cases h : (1 ≤ n ∧ n ≤ 1000) ∧ 1 ≤ most ∧ most ≤ 3000
  · obtain ⟨hn, hm⟩ := h
    obtain ⟨L, a, d, hL, hlp, had, hd, hL0, hL1, hLd⟩ := recS_last hn hm
    have hin : (inB n 1 1000 && inB most 1 3000) = true := by simp [inB, hn.1, hn.2, hm.1, hm.2]
    have e1 : nearestS n most = (a, d, 0) := by unfold nearestS; rw [if_pos hin, hlp]
    have e2 : recordsS n most = (L, 0) := by unfold recordsS; rw [if_pos hin, hL]
    rw [e1] at HN
    rw [e2] at HR
    have HRR := hide (fun W => refRecords_any n most W hn hm)
    rw [hL] at HRR
    have HAR := hide (fun W => around_any n d W hn hd)
    rw [← had] at HAR
    have HLD := hide hLd
    clear hL hlp had e1 e2 hin hLd
    go_enter Tryz.func8, Tryz.ntmps8
    go_wp2_with (first
      | (go_at_call 47; refine (HN.out _).mono ?_; rintro e w1 ⟨rfl, hb1⟩; have HB1 := hide hb1; have hz1 := hb1.size; clear hb1)
      | (go_at_call 48; refine (HR.out _).mono ?_; rintro e w2 ⟨A1, c1, rfl, hI1, hb2⟩; have HI1 := hide (Rq.of hI1); have HB2 := hide (HB1.out.trans (hb2.mono hz1)); have hz2 := HB2.out.size; clear hb2 hI1)
      | (go_at_call 49; refine (HRR.out _).mono ?_; rintro e w3 ⟨A2, c2, rfl, hI2, hb3⟩; have HI3 := hide (Rq.below HI1.out hb3); have HI2 := hide hI2; have HB3 := hide (HB2.out.trans (hb3.mono hz2)); have hz3 := HB3.out.size; have hz23 := hb3.size; clear hb3 hI2
         obtain ⟨ad, rfl, hc⟩ := HI2.out.at_ (i := L.length - 1) (by omega)
         have hLx : L[L.length - 1]'(by omega) = d := by
           have h5 := HLD.out
           rw [List.getElem?_eq_getElem (by omega)] at h5
           injection h5
         rw [hLx] at hc
         clear hLx)
      | (go_at_call 50; refine (lawInts_any A1 L.length c1 L (some ad) L.length c2 L w3.heap.size w3 (Rq.more HI3.out hz23) (Rq.of HI2.out) (Nat.le_refl _)).mono ?_; rintro e w4 ⟨rfl, m4, rfl⟩; rw [decide_eq_true (rfl : L = L)]; have HB4 := hide (below_drewN HB3.out m4); have hz4 := HB4.out.size)
      | (go_at_call 51; refine (HAR.out _).mono ?_; rintro e w5 ⟨rfl, hw5⟩; subst w5)
      | (go_at_call 17; refine (HK.out _ HB4.out).mono ?_; rintro e w6 ⟨rfl, hb6⟩; have HB6 := hide (HB4.out.trans (hb6.mono hz4)); clear hb6))
    all_goals
      go_ret
      exact ⟨rfl, HB6.out⟩
  · have hin : ¬ (inB n 1 1000 && inB most 1 3000) = true := by
      intro h1
      apply h
      simp [inB] at h1
      omega
    have e1 : nearestS n most = (0, 0, 3) := by unfold nearestS; rw [if_neg hin]
    have e2 : recordsS n most = ([], 3) := by unfold recordsS; rw [if_neg hin]
    rw [e1] at HN
    rw [e2] at HR
    have h4 : n < 1 ∨ (¬ n < 1 ∧ 1000 < n) ∨ (¬ n < 1 ∧ ¬ 1000 < n ∧ most < 1) ∨ (¬ n < 1 ∧ ¬ 1000 < n ∧ ¬ most < 1 ∧ 3000 < most) := by omega
    clear e1 e2 hin h
    rcases h4 with h4 | ⟨h4, h5⟩ | ⟨h4, h5, h6⟩ | ⟨h4, h5, h6, h7⟩
    all_goals
      go_enter Tryz.func8, Tryz.ntmps8
      go_wp2_with (first
        | (go_at_call 47; refine (HN.out _).mono ?_; rintro e w1 ⟨rfl, hb1⟩; have HB1 := hide hb1; have hz1 := hb1.size; clear hb1)
        | (go_at_call 48; refine (HR.out _).mono ?_; rintro e w2 ⟨A1, c1, rfl, hI1, hb2⟩; have HB2 := hide (HB1.out.trans (hb2.mono hz1)); have hz2 := HB2.out.size; clear hb2 hI1)
        | (go_at_call 17; refine (HK.out _ HB2.out).mono ?_; rintro e w6 ⟨rfl, hb6⟩; have HB6 := hide (HB2.out.trans (hb6.mono hz2)); clear hb6))
      go_ret
      exact ⟨rfl, HB6.out⟩
end Go.Proofs.YtaacnbnmlfhnaaaGreatDoor
