/-
  The law's own large and olds.
-/
import Derived.Test.YtaacnbnmlfhnaaaGreatDoorLawF
set_option linter.unusedVariables false
set_option linter.unusedSimpArgs false
namespace Go.Proofs.YtaacnbnmlfhnaaaGreatDoor
open Go.RowKit

/-- More than the statements look at. -/
def largeS (l : List (Bool × List Int)) : Bool := l.any (fun p => decide (10 < p.2.length)) || decide (12 < l.length)
theorem largeS_not {l : List (Bool × List Int)} (h : largeS l = false) : l.length ≤ 12 ∧ ∀ p ∈ l, p.2.length ≤ 10 := by
  unfold largeS at h
  rw [Bool.or_eq_false_iff] at h
  refine ⟨by simpa using h.2, fun p hp => ?_⟩
  have h1 := List.any_eq_false.1 h.1 p hp
  simpa using h1

set_option maxHeartbeats 2000000 in
set_option maxRecDepth 100000 in
theorem large_any (wh : Int) (A : Option Addr) (n c B : Nat) (l : List PieceV) (w : World) (hp : PiecesQ w B A n c l) (hB : B ≤ w.heap.size) :
    Calls Tryz.prog 16 #[.agg #[.int .i64 wh, .slice A n c]] w fun e w' => e = .returned (.bool (largeS (l.map PieceV.flat))) ∧ Below w.heap.size w w' := by
  have hl := hp.len
  subst hl
  have hn := hp.1.nmax
  obtain ⟨w0, hw0⟩ : ∃ w0, w0 = w.alloc (.cells #[.int .i64 wh, .slice A l.length c] 24) := ⟨_, rfl⟩
  have HX0 : Hid (Blk w0 w.heap.size 24 #[.int .i64 wh, .slice A l.length c]) := hide (by rw [hw0]; exact Blk.new w _ _)
  have HB0 : Hid (Below w.heap.size w w0) := hide (by rw [hw0]; exact (Below.refl _ _).alloc (Nat.le_refl _) _)
  have HP := hide (hp.below (HB0.out.mono hB))
  clear hp
  go_enter Tryz.func16, Tryz.ntmps16
  go_upto_region 1 with fail
  rw [← hw0]
  clear hw0
  obtain ⟨x0, x1, _, _⟩ := HX0.out.two
  go_wp2
  go_loopw [3] (fun i W => ∃ (k : Nat), k ≤ l.length ∧ i = .int .i64 k ∧ (∀ j (hj : j < l.length), j < k → ¬ 10 < l[j].ms.length) ∧ W = w0) (fun i _ => l.length - (intOf i).toNat)
  case atStart => exact ⟨0, by omega, rfl, fun j _ hj => by omega, rfl⟩
  case round =>
    obtain ⟨k, hk, rfl, hpre, rfl⟩ := hrel
    have HPRE := hide hpre
    clear hpre
    by_cases hkl : (k : Int) < (l.length : Int)
    · have hk1 : k < l.length := by omega
      obtain ⟨ad, rfl, -, ha0, ha1⟩ := HP.out.at_ hk1
      have hpi := IntsQ.len (HP.out.2 l[k] (List.getElem_mem hk1))
      rw [← hpi] at ha1
      by_cases h10 : 10 < (l[k].ms.length : Int)
      · have HL : Hid (largeS (l.map PieceV.flat) = true) := hide (by
          unfold largeS
          have : (l.map PieceV.flat).any (fun p => decide (10 < p.2.length)) = true := List.any_eq_true.2 ⟨l[k].flat, List.mem_map_of_mem (List.getElem_mem hk1), decide_eq_true (show 10 < l[k].ms.length by omega)⟩
          rw [this]; rfl)
        go_wp2
        go_ret
        exact ⟨by rw [HL.out]; rfl, HB0.out⟩
      · have HN := hide (show ∀ j (hj : j < l.length), j < k + 1 → ¬ 10 < l[j].ms.length from fun j hj h => by
          rcases Nat.lt_or_ge j k with h5 | h5
          · exact HPRE.out j hj h5
          · obtain rfl : j = k := by omega
            omega)
        go_wp2
        exact ⟨⟨k + 1, by omega, by go_num, HN.out, by trivial⟩, by simp [intOf]; omega⟩
    · obtain rfl : k = l.length := by omega
      have HL : Hid (largeS (l.map PieceV.flat) = decide (12 < (l.length : Int))) := hide (by
        unfold largeS
        have : (l.map PieceV.flat).any (fun p => decide (10 < p.2.length)) = false := List.any_eq_false.2 fun p hp => by
          obtain ⟨q, hq, rfl⟩ := List.mem_map.1 hp
          obtain ⟨j, hj, rfl⟩ := List.mem_iff_getElem.1 hq
          have h5 : decide (10 < l[j].ms.length) = false := decide_eq_false (HPRE.out j hj hj)
          rw [show (l[j].flat).2 = l[j].ms from rfl, h5]
          simp
        rw [this, List.length_map, Bool.false_or, decide_eq_decide]; omega)
      go_wp2
      go_ret
      exact ⟨by rw [HL.out]; rfl, HB0.out⟩

theorem flat_take_succ {l : List PieceV} {k : Nat} (hk : k < l.length) : (l.map PieceV.flat).take (k + 1) = (l.map PieceV.flat).take k ++ [l[k].flat] := by
  have h : k < (l.map PieceV.flat).length := by simpa using hk
  rw [List.take_succ_eq_append_getElem h, List.getElem_map]

set_option maxHeartbeats 4000000 in
set_option maxRecDepth 100000 in
theorem olds_any (xw : Int) (A : Option Addr) (n c : Nat) (xl : List PieceV) (yw : Int) (A2 : Option Addr) (n2 c2 : Nat) (yl : List PieceV) (B : Nat) (w : World) (hx : PiecesQ w B A n c xl) (hy : PiecesQ w B A2 n2 c2 yl) (hB : B ≤ w.heap.size) :
    Calls Tryz.prog 22 #[.agg #[.int .i64 xw, .slice A n c], .agg #[.int .i64 yw, .slice A2 n2 c2]] w fun e w' => e = .returned (.bool (decide (xw = yw) && decide (xl.map PieceV.flat = yl.map PieceV.flat))) ∧ Below w.heap.size w w' := by
  have hlx := hx.len
  have hly := hy.len
  subst hlx
  subst hly
  have hnx := hx.1.nmax
  have hny := hy.1.nmax
  obtain ⟨w0, hw0⟩ : ∃ w0, w0 = (w.alloc (.cells #[.int .i64 xw, .slice A xl.length c] 24)).alloc (.cells #[.int .i64 yw, .slice A2 yl.length c2] 24) := ⟨_, rfl⟩
  have hz0 : w0.heap.size = w.heap.size + 2 := by rw [hw0]; simp
  have h01 : Below w.heap.size w w0 := by rw [hw0]; exact ((Below.refl _ _).alloc (Nat.le_refl _) _).alloc (by simp) _
  have HX0 : Hid (Blk w0 w.heap.size 24 #[.int .i64 xw, .slice A xl.length c]) := hide (by rw [hw0]; exact (Blk.new w _ _).alloc _)
  have HY0 : Hid (Blk w0 (w.heap.size + 1) 24 #[.int .i64 yw, .slice A2 yl.length c2]) := hide (by
    rw [hw0]
    have h := Blk.new (w.alloc (.cells #[.int .i64 xw, .slice A xl.length c] 24)) 24 #[.int .i64 yw, .slice A2 yl.length c2]
    rwa [World.size_alloc] at h)
  have HTX := hide (PiecesQ.below hx (h01.mono hB)); have HTY := hide (PiecesQ.below hy (h01.mono hB))
  have HB0 := hide h01
  clear hx hy h01
  go_enter Tryz.func22, Tryz.ntmps22
  go_upto_region 1 with fail
  rw [← hw0]
  clear hw0
  obtain ⟨x0, x1, _, _⟩ := HX0.out.two
  obtain ⟨y0, y1, _, _⟩ := HY0.out.two
  by_cases hd : xw = yw
  · by_cases hl : (xl.length : Int) = (yl.length : Int)
    · go_wp2
      go_loopw [5] (fun i W => ∃ (k : Nat), k ≤ xl.length ∧ i = .int .i64 k ∧ (xl.map PieceV.flat).take k = (yl.map PieceV.flat).take k ∧ ∃ q, W = w0.drewN q) (fun i _ => xl.length - (intOf i).toNat)
      case atStart => exact ⟨0, by omega, rfl, rfl, 0, rfl⟩
      case round =>
        obtain ⟨k, hk, rfl, hpre, q, rfl⟩ := hrel
        have HPRE := hide hpre
        have HX := hide (HX0.out.drewN q); have HY := hide (HY0.out.drewN q)
        have HTXq : Hid (PiecesQ (w0.drewN q) B A xl.length c xl) := hide HTX.out
        have HTYq : Hid (PiecesQ (w0.drewN q) B A2 yl.length c2 yl) := hide HTY.out
        have HBq : Hid (Below w.heap.size w (w0.drewN q)) := hide (below_drewN HB0.out q)
        have hzq : (w0.drewN q).heap.size = w.heap.size + 2 := hz0
        have HDD := hide (fun p => dd w0 q p)
        clear hpre x0 x1 y0 y1
        generalize w0.drewN q = W at *
        obtain ⟨x0, x1, _, _⟩ := HX.out.two
        obtain ⟨y0, y1, _, _⟩ := HY.out.two
        by_cases hkl : (k : Int) < (xl.length : Int)
        · have hk1 : k < xl.length := by omega
          have hk2 : k < yl.length := by omega
          obtain ⟨ad, rfl, -, ha0, ha1⟩ := HTXq.out.at_ hk1
          obtain ⟨ad2, rfl, -, hb0, hb1⟩ := HTYq.out.at_ hk2
          have hI1 := HTXq.out.2 xl[k] (List.getElem_mem hk1)
          have hI2 := HTYq.out.2 yl[k] (List.getElem_mem hk2)
          have hky : (k : Int) < (yl.length : Int) := by omega
          have htk1 := flat_take_succ hk1
          have htk2 := flat_take_succ hk2
          have HNE := hide (show xl[k].flat ≠ yl[k].flat → ¬ xl.map PieceV.flat = yl.map PieceV.flat from fun h e => h (by
            have h1 : (xl.map PieceV.flat)[k]? = (yl.map PieceV.flat)[k]? := by rw [e]
            rw [List.getElem?_map, List.getElem?_map, List.getElem?_eq_getElem hk1, List.getElem?_eq_getElem hk2] at h1
            simpa using h1))
          generalize xl[k] = px at *
          generalize yl[k] = py at *
          obtain ⟨mx, Ax, nx, cx, xs⟩ := px
          obtain ⟨my, Ay, ny, cy, ys⟩ := py
          dsimp only at ha0 ha1 hb0 hb1 hI1 hI2
          have HLI := hide (fun q => lawInts_any Ax nx cx xs Ay ny cy ys B (W.drewN q) hI1 hI2 (by show B ≤ W.heap.size; omega))
          by_cases hmm : mx = my
          · subst hmm
            by_cases hxy : xs = ys
            · rw [decide_eq_true hxy] at HLI
              have HTK : Hid ((xl.map PieceV.flat).take (k + 1) = (yl.map PieceV.flat).take (k + 1)) := hide (by rw [htk1, htk2, HPRE.out, hxy]; rfl)
              clear htk1 htk2 hxy hI1 hI2 HNE
              go_wp2
              go_quiet (first | (go_at_call 50; refine Calls.quiet_of (HLI.out _)))
              go_wp2
              obtain ⟨q2, hq2⟩ := HDD.out nq
              exact ⟨⟨k + 1, by omega, by go_num, HTK.out, q2, hq2⟩, by simp [intOf]; omega⟩
            · rw [decide_eq_false hxy] at HLI
              have hne := HNE.out (fun e => hxy (by simpa [PieceV.flat] using e))
              have HNE2 := hide hne
              clear htk1 htk2 hxy hI1 hI2 HNE hne
              go_wp2
              go_quiet (first | (go_at_call 50; refine Calls.quiet_of (HLI.out _)))
              go_wp2
              go_ret
              exact ⟨by simp [HNE2.out], below_drewN HBq.out _⟩
          · have hne := HNE.out (fun e => hmm (by simp [PieceV.flat] at e; exact e.1))
            have HNE2 := hide hne
            have hdm : (mx != my) = true := by simpa using hmm
            clear htk1 htk2 hI1 hI2 HNE hne HLI
            go_wp2
            go_quiet (fail)
            go_wp2
            go_ret
            exact ⟨by simp [HNE2.out], below_drewN HBq.out _⟩
        · obtain rfl : k = xl.length := by omega
          go_wp2
          go_ret
          have hpre := HPRE.out
          rw [List.take_of_length_le (by simp), List.take_of_length_le (by simp; omega)] at hpre
          exact ⟨by simp [hd, hpre], HBq.out⟩
    · go_wp2
      go_ret
      have hne : ¬ xl.map PieceV.flat = yl.map PieceV.flat := fun e => hl (by have h5 := congrArg List.length e; simp only [List.length_map] at h5; omega)
      exact ⟨by simp [hd, hne], HB0.out⟩
  · go_wp2
    go_ret
    exact ⟨by simp [hd], HB0.out⟩
end Go.Proofs.YtaacnbnmlfhnaaaGreatDoor
