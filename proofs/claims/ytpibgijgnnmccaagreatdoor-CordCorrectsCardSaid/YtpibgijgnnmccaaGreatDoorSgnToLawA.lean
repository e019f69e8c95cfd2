import Derived.Test.YtpibgijgnnmccaaGreatDoorOrdBToOrdD
import Derived.Test.YtpibgijgnnmccaaGreatDoorLinCToLinD
import Derived.Test.YtpibgijgnnmccaaGreatDoorCordSToCordV
import Derived.Test.YtpibgijgnnmccaaGreatDoorRuleToSqr
import Derived.Test.YtpibgijgnnmccaaGreatDoorCordIToCordJ
import Derived.Deep.Cut
import Derived.Laws.StructEq
set_option linter.unusedVariables false
set_option linter.unusedSimpArgs false
namespace Go.Proofs.YtpibgijgnnmccaaGreatDoor
open Go.RowKit
theorem sign_one {a r s : Int} (h : SignOf [(a, r)] s) : (a = 0 ∧ s = 0) ∨ (0 < a ∧ s = 1) ∨ (a < 0 ∧ s = -1) := by
 unfold SignOf at h
 by_cases h0 : a = 0
 ·subst h0
  rcases h with ⟨_, h⟩ | ⟨h, _⟩
  ·exact .inl ⟨rfl, h⟩
  ·simp [nzT] at h
 ·have hf : [(a, r)].filter nzT = [(a, r)] := by simp [nzT, h0]
  rw [hf] at h
  rcases h with ⟨h, _⟩ | ⟨_, hs, k, hk⟩
  ·simp at h
  ·unfold verdict at hk
   rcases Int.lt_or_le a 0 with ha | ha
   ·right; right
    simp only [bTop, aLow, aTop, bLow, List.map_cons, List.map_nil, ha, if_true, List.sum_cons, List.sum_nil, Nat.add_zero] at hk
    rw [if_neg (by omega)] at hk
    split at hk
    ·exact ⟨ha, hk.symm⟩
    ·exact absurd hk.symm hs
   ·right; left
    have hna : ¬ a < 0 := by omega
    simp only [bTop, aLow, aTop, bLow, List.map_cons, List.map_nil, hna, if_false, List.sum_cons, List.sum_nil, Nat.add_zero] at hk
    split at hk
    ·exact ⟨by omega, hk.symm⟩
    ·rw [if_neg (by omega)] at hk
     exact absurd hk.symm hs
theorem sq_lt {x y : Nat} (h : x * x < y * y) : x < y := by
 rcases Nat.lt_or_ge x y with h1 | h1
 ·exact h1
 ·have := Nat.mul_le_mul h1 h1; omega
theorem sign_two {a b r s : Int} (ha : 0 < a) (hb : b < 0) (hr : 0 < r) (h : SignOf [(a, 1), (b, r)] s) : (s = 1 ∧ b.natAbs * b.natAbs * r.toNat < a.natAbs * a.natAbs) ∨ (s = -1 ∧ a.natAbs * a.natAbs < b.natAbs * b.natAbs * r.toNat) := by
 unfold SignOf at h
 have hf : [(a, 1), (b, r)].filter nzT = [(a, 1), (b, r)] := by
  have h1 : a ≠ 0 := by omega
  have h2 : b ≠ 0 := by omega
  simp [nzT, h1, h2]
 rw [hf] at h
 rcases h with ⟨h, _⟩ | ⟨_, hs, k, hk⟩
 ·simp at h
 ·unfold verdict at hk
  have hna : ¬ a < 0 := by omega
  simp only [bTop, aLow, aTop, bLow, List.map_cons, List.map_nil, hna, hb, if_false, if_true, List.sum_cons, List.sum_nil, Nat.add_zero, Nat.zero_add] at hk
  have hbp := bits_pos k
  generalize hB : bits k * bits k = BB at *
  have hBB : 0 < BB := by rw [← hB]; exact Nat.mul_pos hbp hbp
  have ea : sqTk (a, 1) k = a.natAbs * a.natAbs * BB := by unfold sqTk sqT; rw [hB]; simp
  have eb : sqTk (b, r) k = b.natAbs * b.natAbs * r.toNat * BB := by unfold sqTk sqT; rw [hB]
  split at hk
  ·rename_i hlt
   refine .inl ⟨hk.symm, ?_⟩
   unfold topT lowT at hlt
   rw [ea, eb] at hlt
   have h1 := le_isqU (b.natAbs * b.natAbs * r.toNat * BB)
   have h2 := (isq_at (a.natAbs * a.natAbs * BB)).le
   have h3 := Nat.mul_lt_mul_of_lt_of_lt hlt hlt
   have h4 : b.natAbs * b.natAbs * r.toNat * BB < a.natAbs * a.natAbs * BB := by omega
   exact Nat.lt_of_mul_lt_mul_right h4
  ·split at hk
   ·rename_i _ hlt
    refine .inr ⟨hk.symm, ?_⟩
    unfold topT lowT at hlt
    rw [ea, eb] at hlt
    have h1 := le_isqU (a.natAbs * a.natAbs * BB)
    have h2 := (isq_at (b.natAbs * b.natAbs * r.toNat * BB)).le
    have h3 := Nat.mul_lt_mul_of_lt_of_lt hlt hlt
    have h4 : a.natAbs * a.natAbs * BB < b.natAbs * b.natAbs * r.toNat * BB := by omega
    exact Nat.lt_of_mul_lt_mul_right h4
   ·exact absurd hk.symm hs
theorem sign_neg {a b r s : Int} (ha : a ≤ 0) (hb : b < 0) (h : SignOf [(a, 1), (b, r)] s) : s = -1 := by
 by_cases h0 : a = 0
 ·subst h0
  have h2 : SignOf [(b, r)] s := by
   unfold SignOf at h ⊢
   rw [show [((0 : Int), (1 : Int)), (b, r)].filter nzT = [(b, r)].filter nzT by simp [nzT]] at h
   exact h
  rcases sign_one h2 with ⟨h4, _⟩ | ⟨h4, _⟩ | ⟨_, h4⟩
  ·omega
  ·omega
  ·exact h4
 ·unfold SignOf at h
  have hf : [(a, 1), (b, r)].filter nzT = [(a, 1), (b, r)] := by
   have h2 : b ≠ 0 := by omega
   simp [nzT, h0, h2]
  rw [hf] at h
  rcases h with ⟨h, _⟩ | ⟨_, hs, k, hk⟩
  ·simp at h
  ·unfold verdict at hk
   have hna : a < 0 := by omega
   simp only [bTop, aLow, aTop, bLow, List.map_cons, List.map_nil, hna, hb, if_true, List.sum_cons, List.sum_nil, Nat.add_zero] at hk
   rw [if_neg (by omega)] at hk
   split at hk
   ·exact hk.symm
   ·exact absurd hk.symm hs
theorem less_two (a b m v k : Int) : lessT [(a, 1), (b, 2)] m [(v, 1)] k = [(a * m + v * -k, 1), (b * m, 2)] := by
 rfl
theorem less_one (a m v k : Int) : lessT [(a, 1)] m [(v, 1)] k = [(a * m + v * -k, 1)] := by
 rfl
end Go.Proofs.YtpibgijgnnmccaaGreatDoor
namespace Go.Proofs.YtpibgijgnnmccaaGreatDoor
open Go.RowKit
theorem known_parse : parseS ⟨#[49, 43, 49, 47, 51]⟩ = (1, [(false, [3])], 0) := by decide +kernel
theorem known_near : nearestS 2 100 = (140, 99, 0) := by decide +kernel
theorem known_chain : chainS 1 [(false, [3])] 2 2 = (1, [(false, [3]), (false, [3, 4]), (true, [3, 4, 34])], 0) := by decide +kernel
theorem known_ok : oldOK 1 [(false, [3]), (false, [3, 4]), (true, [3, 4, 34])] = true := by decide +kernel
theorem known_text : textS 1 [(false, [3]), (false, [3, 4]), (true, [3, 4, 34])] = [49, 43, 49, 47, 51, 43, 49, 47, 51, 42, 52, 45, 49, 47, 51, 42, 52, 42, 51, 52] := by decide +kernel
theorem known_value : valueS 1 [(false, [3]), (false, [3, 4]), (true, [3, 4, 34])] = (408, [(577, 1)], 0) := by decide +kernel
theorem known_mul1 : mulS 15 [(13, 1)] 15 [(13, 1)] = (225, [(169, 1)], 0) := by decide +kernel
theorem known_mul2 : mulS 225 [(169, 1)] (wholeN 4).1 (wholeN 4).2 = (225, [(676, 1)], 0) := by decide +kernel
theorem known_quo1 : quoS 225 [(676, 1)] 7 [(22, 1)] = (2475, [(2366, 1)], 0) := by decide +kernel
theorem known_quo2 : quoS 225 [(676, 1)] 71 [(223, 1)] = (50175, [(47996, 1)], 0) := by decide +kernel
theorem known_root : rootP (wholeN 2).1 (wholeN 2).2 = (1, [(1, 2)], 0) := by decide +kernel
theorem sort_two : sortI [1, 2] = [1, 2] := by
 unfold sortI
 simp [List.mergeSort, List.MergeSort.Internal.splitInTwo, List.merge, leI]
theorem known_diff : plusS 408 [(577, 1)] 1 [(1, 2)] (-1) = (408, [(577, 1), (-408, 2)], 0) := by
 have hk : addAll (addAll [] [(577, 1)] 1) [(1, 2)] (-1 * 408) = [(1, 577), (2, -408)] := by decide +kernel
 have hG : overG [(1, 577), (2, -408)] (408 * 1) = 1 := by decide +kernel
 have hT : overT [(1, 577), (2, -408)] (408 * 1) = [(577, 1), (-408, 2)] := by
  unfold overT termsG
  rw [hG, show ((List.filter nz [((1 : Int), (577 : Int)), (2, -408)]).map (·.1)) = [1, 2] from by decide +kernel, sort_two]
  decide +kernel
 unfold plusS
 rw [if_pos (by decide +kernel), hk]
 unfold overS
 rw [hT, hG]
 decide +kernel
theorem bounds_two {low : Int} (h : BelowRes 408 [(577, 1), (-408, 2)] 1000000 low) : low = 2 := by
 obtain ⟨⟨s, hs, h1⟩, ⟨s2, hs2, h2⟩, h3, _⟩ := h
 rw [less_two] at h1 h2
 have hA : 0 < 577 * 1000000 + low * -408 := by
  rcases Int.lt_or_le 0 (577 * 1000000 + low * -408) with h | h
  ·exact h
  ·exfalso
   have h4 := sign_neg h (by decide) h1
   omega
 rcases sign_two hA (by decide) (by decide) h1 with ⟨rfl, h4⟩ | ⟨rfl, _⟩
 ·have h5 : (577 * 1000000 + low * -408).natAbs = (577 * 1000000 + low * -408).toNat := by omega
  have h6 : low ≤ 2 := by
   rcases Int.lt_or_le 2 low with h | h
   ·exfalso
    have h7 : (577 * 1000000 + low * -408).natAbs ≤ 576998776 := by omega
    have h8 := Nat.mul_le_mul h7 h7
    have h9 : (-408 * 1000000 : Int).natAbs * (-408 * 1000000 : Int).natAbs * (2 : Int).toNat = 332928000000000000 := by decide
    rw [h9] at h4
    omega
   ·exact h
  have hA2 : 0 < 577 * 1000000 + (low + 1) * -408 := by omega
  rcases sign_two hA2 (by decide) (by decide) h2 with ⟨rfl, _⟩ | ⟨rfl, h10⟩
  ·omega
  ·rcases Int.lt_or_le low 2 with h | h
   ·exfalso
    have h7 : 576999184 ≤ (577 * 1000000 + (low + 1) * -408).natAbs := by omega
    have h8 := Nat.mul_le_mul h7 h7
    have h9 : (-408 * 1000000 : Int).natAbs * (-408 * 1000000 : Int).natAbs * (2 : Int).toNat = 332928000000000000 := by decide
    rw [h9] at h10
    omega
   ·omega
 ·omega
theorem known_off {low high c : Int} (h : OffRes 408 [(577, 1)] 2 1000000 low high c) : low = 2 ∧ high = 3 ∧ c = 0 := by
 obtain ⟨r, hd, hb⟩ := h
 have hr : r = (408, [(577, 1), (-408, 2)], 0) := by
  rcases hd with ⟨h1, _⟩ | ⟨_, h1, _⟩ | ⟨_, _, r', hr', rfl⟩
  ·exact absurd h1 (by decide +kernel)
  ·exact absurd h1 (by decide +kernel)
  ·have hr2 : r' = (1, [(1, 2)], 0) := by
    rcases hr' with ⟨h1, _⟩ | ⟨_, s, hs, h2⟩
    ·exact absurd h1 (by decide +kernel)
    ·have hs1 : s = 1 := by
      have h3 : SignOf [(2, 1)] s := hs
      rcases sign_one h3 with ⟨h4, _⟩ | ⟨_, h4⟩ | ⟨h4, _⟩
      ·omega
      ·exact h4
      ·omega
     subst hs1
     rcases h2 with ⟨h4, _⟩ | ⟨h4, _⟩ | ⟨_, h4⟩
     ·omega
     ·omega
     ·rw [h4, known_root]
   rw [hr2]
   exact known_diff
 subst hr
 rcases hb with ⟨h1, _⟩ | ⟨_, h1⟩
 ·exact absurd rfl h1
 ·rcases h1 with ⟨h1, _⟩ | ⟨_, h1, _⟩ | ⟨_, _, hc, hbl, hh⟩
  ·exact absurd h1 (by decide +kernel)
  ·exact absurd h1 (by decide +kernel)
  ·have hlow := bounds_two hbl
   subst hlow
   rcases hh with ⟨_, hh⟩ | ⟨hs, _⟩
   ·exact ⟨rfl, hh, hc⟩
   ·exfalso
    have h2 : SignOf [(577 * 1000000 + 2 * -408, 1), (-408 * 1000000, 2)] 0 := by rw [← less_two]; exact hs
    rcases sign_two (by decide) (by decide) (by decide) h2 with ⟨h3, _⟩ | ⟨h3, _⟩ <;> omega
theorem bounds_one {xd a den low high c : Int} (hok : numOK xd [(a, 1)] = true) (hin : inB den 1 1000000000 = true) (h : BoundsRes xd [(a, 1)] den low high c) :
  c = 0 ∧ 0 ≤ a * den + low * -xd ∧ a * den + (low + 1) * -xd < 0 ∧ ((0 < a * den + low * -xd ∧ high = low + 1) ∨ (a * den + low * -xd = 0 ∧ high = low)) := by
 rcases h with ⟨h1, _⟩ | ⟨_, h1, _⟩ | ⟨_, _, hc, ⟨⟨s, hs, h1⟩, ⟨s2, hs2, h2⟩, _⟩, hh⟩
 ·rw [hok] at h1; cases h1
 ·rw [hin] at h1; cases h1
 ·rw [less_one] at h1 h2
  refine ⟨hc, ?_, ?_, ?_⟩
  ·rcases sign_one h1 with ⟨h3, _⟩ | ⟨h3, _⟩ | ⟨_, h3⟩ <;> omega
  ·rcases sign_one h2 with ⟨_, h3⟩ | ⟨_, h3⟩ | ⟨h3, _⟩ <;> omega
  ·rcases hh with ⟨⟨s3, hs3, h3⟩, h4⟩ | ⟨h3, h4⟩
   ·rw [less_one] at h3
    refine .inl ⟨?_, h4⟩
    rcases sign_one h3 with ⟨_, h5⟩ | ⟨h5, _⟩ | ⟨_, h5⟩ <;> omega
   ·rw [less_one] at h3
    refine .inr ⟨?_, h4⟩
    rcases sign_one h3 with ⟨h5, _⟩ | ⟨_, h5⟩ | ⟨_, h5⟩ <;> omega
theorem known_steps : stepsF ([(fun x _ => mulS x.1 x.2 (wholeN 4).1 (wholeN 4).2), (fun x y => quoS x.1 x.2 y.1 y.2)] ++ [fun x _ => plusS x.1 x.2 (wholeN 1).1 (wholeN 1).2 (-1)]) (225, [(169, 1)]) (225, [(169, 1)]) (7, [(22, 1)]) (71, [(223, 1)]) = ((2475, [(-109, 1)]), (50175, [(-2179, 1)]), 0) := by decide +kernel
theorem known_square {low high c : Int} (h : SquareRes (15, [(13, 1)]) (71, [(223, 1)]) (7, [(22, 1)]) 10000 low high c) : low = -441 ∧ high = -434 ∧ c = 0 := by
 obtain ⟨r, ⟨s, e, hs, hr⟩, hh⟩ := h
 have hs0 : s = 1 ∧ e = 0 := by
  rcases hs with ⟨_, h1, h2⟩ | ⟨h1, _⟩
  ·refine ⟨?_, h2⟩
   have h3 : SignOf [(13, 1)] s := h1
   rcases sign_one h3 with ⟨h4, _⟩ | ⟨_, h4⟩ | ⟨h4, _⟩ <;> omega
  ·exact absurd h1 (by decide +kernel)
 obtain ⟨rfl, rfl⟩ := hs0
 have hr0 : r = 0 := by
  rcases hr with ⟨h1, _⟩ | ⟨_, p, ⟨o, e2, s2, f, hc, hs2, hp⟩, hr⟩
  ·exact absurd rfl h1
  ·have ho : o = -1 ∧ e2 = 0 := by
    rcases hc with ⟨_, h1, h2⟩ | ⟨h1, _⟩
    ·refine ⟨?_, h2⟩
     have h3 : SignOf [(223 * 7 + 22 * -71, 1)] o := by rw [← less_one]; exact h1
     rcases sign_one h3 with ⟨h4, _⟩ | ⟨h4, _⟩ | ⟨_, h4⟩ <;> omega
    ·exact absurd h1 (by decide +kernel)
   have hs3 : s2 = 1 ∧ f = 0 := by
    rcases hs2 with ⟨_, h1, h2⟩ | ⟨h1, _⟩
    ·refine ⟨?_, h2⟩
     have h3 : SignOf [(223, 1)] s2 := h1
     rcases sign_one h3 with ⟨h4, _⟩ | ⟨_, h4⟩ | ⟨h4, _⟩ <;> omega
    ·exact absurd h1 (by decide +kernel)
   obtain ⟨rfl, rfl⟩ := ho
   obtain ⟨rfl, rfl⟩ := hs3
   have hp1 : p = true := by rw [hp]; decide
   rw [hr, if_pos hp1, if_neg (by omega)]
 subst hr0
 rcases hh with ⟨h1, _⟩ | ⟨_, hh⟩
 ·exact absurd rfl h1
 ·rcases hh with ⟨h1, _⟩ | ⟨_, r, hr, hh⟩
  ·exact absurd h1 (by decide +kernel)
  ·have hr2 : r = ((2475, [(-109, 1)]), (50175, [(-2179, 1)]), 0) := by
    rw [← hr, ← known_steps]
    rw [show numOf (mulS (15, [((13 : Int), (1 : Int))]).1 (15, [((13 : Int), (1 : Int))]).2 (15, [((13 : Int), (1 : Int))]).1 (15, [((13 : Int), (1 : Int))]).2) = (225, [(169, 1)]) from by decide +kernel]
   subst hr2
   rcases hh with ⟨h1, _⟩ | ⟨_, l1, h1, c1, hb1, hh⟩
   ·exact absurd rfl h1
   ·have hb1' : BoundsRes 2475 [(-109, 1)] 10000 l1 h1 c1 := hb1
    obtain ⟨rfl, b1, b2, _⟩ := bounds_one (by decide +kernel) (by decide +kernel) hb1'
    rcases hh with ⟨h2, _⟩ | ⟨_, l2, hb2, hlow⟩
    ·exact absurd rfl h2
    ·have hb2' : BoundsRes 50175 [(-2179, 1)] 10000 l2 high c := hb2
     obtain ⟨hc, b3, b4, b5⟩ := bounds_one (by decide +kernel) (by decide +kernel) hb2'
     refine ⟨?_, ?_, hc⟩
     ·omega
     ·rcases b5 with ⟨_, b5⟩ | ⟨b5, _⟩ <;> omega
end Go.Proofs.YtpibgijgnnmccaaGreatDoor
namespace Go.Proofs.YtpibgijgnnmccaaGreatDoor
open Go.RowKit
set_option maxHeartbeats 1000000 in
set_option maxRecDepth 100000 in
theorem lawNumber_any (num den : Int) (w : World) : Calls Tryz.prog 26 #[.int .i64 num, .int .i64 den] w (ValPost w (den, [(num, 1)])) := by
 have HO1 := hide (fun x : Array Value => (show ((w.alloc (.cells x 33)).alloc (.cells #[.int .i64 num, .int .i64 1] 71)).ownsRow (w.heap.size + 1) 71 2 (.slice (some ⟨w.heap.size + 1, 0, none⟩) 1 1) 1 (cellsT [(num, 1)]) by
  have h := World.ownsRow_lit (base := w.heap.size + 1) (e := 71) (size := 2) (w.alloc (.cells x 33)) #[.int .i64 num, .int .i64 1] 1 (by simp) (by unfold maxLen; omega) rfl
  rw [World.size_alloc] at h
  exact h))
 have HN := hide (Blk.new w 33 #[.int .i64 0, .slice none 0 0])
 have HN2 := hide (HN.out.alloc (.cells #[.int .i64 num, .int .i64 1] 71))
 have HB := hide (((Below.refl w.heap.size w).alloc (Nat.le_refl _) (.cells #[.int .i64 0, .slice none 0 0] 33)).alloc (by simp) (.cells #[.int .i64 num, .int .i64 1] 71))
 go_enter Tryz.func26, Tryz.ntmps26
 go_wp2
 refine bodyPost_cell (p := 4) (ty := 33) rfl rfl ((Blk.new w _ _).alloc _) (d := _) rfl Tryz.underlying33 Tryz.sizeNumber rfl ?_
 exact ⟨_, _, _, rfl, own_le (HO1.out _) (by omega), ((Below.refl w.heap.size w).alloc (Nat.le_refl _) _).alloc (by simp) _⟩
theorem Tryz.guardTerm : Tryz.prog.eqGuardType Tryz.prog.depth 71 = false := by kernel_rfl
theorem neq_term (a b c d : Int) (w : World) : (binOp .neq 71 (.agg #[.int .i64 a, .int .i64 b]) (.agg #[.int .i64 c, .int .i64 d])).run Tryz.prog w = .ok (.bool (!decide ((a, b) = (c, d)))) w := by
 have hi := Tryz.underlying3
 have hS : Tryz.prog.underlying 71 = some (.struct (Tryz.prog.fieldsOf 71)) := by kernel_rfl
 have hp : Tryz.prog.stoodInHeld 71 = false := by kernel_rfl
 rw [run_neq_struct, show (10000 : Nat) = 9999 + 1 from rfl, run_equalIn_agg w 9999 71 _ _ hS hp]
 simp only [Program.fieldsOf, Tryz.underlying71]
 go_simp
 by_cases h1 : a = c <;> by_cases h2 : b = d <;> simp [h1, h2]
set_option maxHeartbeats 2000000 in
set_option maxRecDepth 100000 in
theorem lawSame_any (xd : Int) (A : Option Addr) (n c : Nat) (xt : List (Int × Int)) (yd : Int) (A2 : Option Addr) (n2 c2 : Nat) (yt : List (Int × Int)) (B : Nat) (w : World) (hx : Terms w B A n c xt) (hy : Terms w B A2 n2 c2 yt) (hB : B ≤ w.heap.size) :
  Calls Tryz.prog 34 #[.agg #[.int .i64 xd, .slice A n c], .agg #[.int .i64 yd, .slice A2 n2 c2]] w fun e w' => e = .returned (.bool (decide (xd = yd) && decide (xt = yt))) ∧ Below w.heap.size w w' := by
 have hlx := hx.len
 have hly := hy.len
 subst hlx
 subst hly
 have hnx := hx.nmax
 have hny := hy.nmax
 obtain ⟨w0, hw0⟩ : ∃ w0, w0 = (w.alloc (.cells #[.int .i64 xd, .slice A xt.length c] 33)).alloc (.cells #[.int .i64 yd, .slice A2 yt.length c2] 33) := ⟨_, rfl⟩
 have hz0 : w0.heap.size = w.heap.size + 2 := by rw [hw0]; simp
 have h01 : Below w.heap.size w w0 := by rw [hw0]; exact ((Below.refl _ _).alloc (Nat.le_refl _) _).alloc (by simp) _
 have HX0 : Hid (Blk w0 w.heap.size 33 #[.int .i64 xd, .slice A xt.length c]) := hide (by rw [hw0]; exact (Blk.new w _ _).alloc _)
 have HY0 : Hid (Blk w0 (w.heap.size + 1) 33 #[.int .i64 yd, .slice A2 yt.length c2]) := hide (by
  rw [hw0]
  have h := Blk.new (w.alloc (.cells #[.int .i64 xd, .slice A xt.length c] 33)) 33 #[.int .i64 yd, .slice A2 yt.length c2]
  rwa [World.size_alloc] at h)
 have HTX := hide (Rd.below hx (h01.mono hB)); have HTY := hide (Rd.below hy (h01.mono hB))
 have HB0 := hide h01
 clear hx hy h01
 go_enter Tryz.func34, Tryz.ntmps34
 go_upto_region 1 with fail
 rw [← hw0]
 clear hw0
 obtain ⟨x0, x1, _, _⟩ := HX0.out.two
 obtain ⟨y0, y1, _, _⟩ := HY0.out.two
 by_cases hd : xd = yd
 ·by_cases hl : (xt.length : Int) = (yt.length : Int)
  ·go_wp2
   go_loopw [5] (fun i W => ∃ (k : Nat), k ≤ xt.length ∧ i = .int .i64 k ∧ xt.take k = yt.take k ∧ ∃ q, W = w0.drewN q) (fun i _ => xt.length - (intOf i).toNat)
   case atStart => exact ⟨0, by omega, rfl, rfl, 0, rfl⟩
   case round =>
    obtain ⟨k, hk, rfl, hpre, q, rfl⟩ := hrel
    have HPRE := hide hpre
    have HX := hide (HX0.out.drewN q); have HY := hide (HY0.out.drewN q)
    have HTXq : Hid (Terms (w0.drewN q) B A xt.length c xt) := hide HTX.out
    have HTYq : Hid (Terms (w0.drewN q) B A2 yt.length c2 yt) := hide HTY.out
    have HBq : Hid (Below w.heap.size w (w0.drewN q)) := hide ⟨HB0.out.os, HB0.out.tape, HB0.out.output, HB0.out.size, HB0.out.block⟩
    have HDD := hide (fun p => dd w0 q p)
    clear hpre x0 x1 y0 y1
    generalize w0.drewN q = W at *
    obtain ⟨x0, x1, _, _⟩ := HX.out.two
    obtain ⟨y0, y1, _, _⟩ := HY.out.two
    by_cases hkl : (k : Int) < (xt.length : Int)
    ·have hk1 : k < xt.length := by omega
     have hk2 : k < yt.length := by omega
     obtain ⟨ad, rfl, ha0, ha1⟩ := HTXq.out.at_ hk1
     obtain ⟨ad2, rfl, hb0, hb1⟩ := HTYq.out.at_ hk2
     have hky : (k : Int) < (yt.length : Int) := by omega
     go_wp2
     have hnq := fun W => neq_term xt[k].1 xt[k].2 yt[k].1 yt[k].2 W
     have hgt := Tryz.guardTerm
     have htk1 := List.take_succ_eq_append_getElem hk1
     have htk2 := List.take_succ_eq_append_getElem hk2
     by_cases heq : xt[k] = yt[k]
     ·have h1 : xt[k].1 = yt[k].1 := by rw [heq]
      have h2 : xt[k].2 = yt[k].2 := by rw [heq]
      have HTK : Hid (xt.take (k + 1) = yt.take (k + 1)) := hide (by rw [htk1, htk2, HPRE.out, heq])
      rw [h1] at ha0
      rw [h2] at ha1
      simp only [h1, h2] at hnq
      clear htk1 htk2 heq h1 h2
      go_quiet (fail)
      go_wp2
      obtain ⟨q2, hq2⟩ := HDD.out nq
      exact ⟨⟨k + 1, by omega, by go_num, HTK.out, q2, hq2⟩, by simp [intOf]; omega⟩
     ·have hne : ¬ xt = yt := fun e => heq (by simp only [e])
      have hd2 : (decide ((xt[k].1, xt[k].2) = (yt[k].1, yt[k].2))) = false := decide_eq_false heq
      simp only [hd2] at hnq
      have HNE := hide hne
      clear htk1 htk2 heq hne hd2
      go_quiet (fail)
      go_wp2
      go_ret
      exact ⟨by simp [HNE.out], ⟨HBq.out.os, HBq.out.tape, HBq.out.output, HBq.out.size, HBq.out.block⟩⟩
    ·obtain rfl : k = xt.length := by omega
     go_wp2
     go_ret
     have hpre := HPRE.out
     rw [List.take_of_length_le (Nat.le_refl _), List.take_of_length_le (by omega)] at hpre
     exact ⟨by simp [hd, hpre], HBq.out⟩
  ·go_wp2
   go_ret
   have hne : ¬ xt = yt := fun e => hl (by rw [e])
   exact ⟨by simp [hd, hne], HB0.out⟩
 ·go_wp2
  go_ret
  exact ⟨by simp [hd], HB0.out⟩
end Go.Proofs.YtpibgijgnnmccaaGreatDoor
