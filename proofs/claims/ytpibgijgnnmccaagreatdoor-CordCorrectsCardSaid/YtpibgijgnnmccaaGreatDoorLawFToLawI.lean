import Derived.Test.YtpibgijgnnmccaaGreatDoorSgnToLawA
import Derived.Test.YtpibgijgnnmccaaGreatDoorWeakToAppQ
import Derived.Test.YtpibgijgnnmccaaGreatDoorCordSToCordV
set_option linter.unusedVariables false
set_option linter.unusedSimpArgs false
namespace Go.Proofs.YtpibgijgnnmccaaGreatDoor
open Go.RowKit
set_option maxHeartbeats 2000000 in
set_option maxRecDepth 100000 in
theorem lawInts_any (A : Option Addr) (n c : Nat) (xs : List Int) (A2 : Option Addr) (n2 c2 : Nat) (ys : List Int) (B : Nat) (w : World) (hx : IntsQ w B A n c xs) (hy : IntsQ w B A2 n2 c2 ys) (hB : B ≤ w.heap.size) :
  Calls Tryz.prog 49 #[.slice A n c, .slice A2 n2 c2] w fun e w' => e = .returned (.bool (decide (xs = ys))) ∧ ∃ m, w' = w.drewN m := by
 have hlx := hx.len
 have hly := hy.len
 subst hlx
 subst hly
 have hnx := Rq.nmax hx
 have hny := Rq.nmax hy
 have HTX := hide hx
 have HTY := hide hy
 clear hx hy
 go_enter Tryz.func49, Tryz.ntmps49
 by_cases hl : (xs.length : Int) = (ys.length : Int)
 ·go_wp2
  go_loopw [5] (fun i W => ∃ (k : Nat), k ≤ xs.length ∧ i = .int .i64 k ∧ xs.take k = ys.take k ∧ ∃ q, W = w.drewN q) (fun i _ => xs.length - (intOf i).toNat)
  case atStart => exact ⟨0, by omega, rfl, rfl, 0, rfl⟩
  case round =>
   obtain ⟨k, hk, rfl, hpre, q, rfl⟩ := hrel
   have HPRE := hide hpre
   have HTXq : Hid (IntsQ (w.drewN q) B A xs.length c xs) := hide HTX.out
   have HTYq : Hid (IntsQ (w.drewN q) B A2 ys.length c2 ys) := hide HTY.out
   have HBq : Hid (∃ m, w.drewN q = w.drewN m) := hide ⟨q, rfl⟩
   have HDD := hide (fun p => dd w q p)
   clear hpre
   generalize w.drewN q = W at *
   by_cases hkl : (k : Int) < (xs.length : Int)
   ·have hk1 : k < xs.length := by omega
    have hk2 : k < ys.length := by omega
    obtain ⟨ad, rfl, -, ha0⟩ := HTXq.out.at_ hk1
    obtain ⟨ad2, rfl, -, hb0⟩ := HTYq.out.at_ hk2
    have hky : (k : Int) < (ys.length : Int) := by omega
    go_wp2
    have htk1 := List.take_succ_eq_append_getElem hk1
    have htk2 := List.take_succ_eq_append_getElem hk2
    by_cases heq : xs[k] = ys[k]
    ·have HTK : Hid (xs.take (k + 1) = ys.take (k + 1)) := hide (by rw [htk1, htk2, HPRE.out, heq])
     rw [heq] at ha0
     clear htk1 htk2 heq
     go_quiet (fail)
     go_wp2
     obtain ⟨q2, hq2⟩ := HDD.out nq
     exact ⟨⟨k + 1, by omega, by go_num, HTK.out, q2, hq2⟩, by simp [intOf]; omega⟩
    ·have HNE := hide (show ¬ xs = ys from fun e => heq (by simp only [e]))
     clear htk1 htk2
     go_quiet (fail)
     go_wp2
     go_ret
     exact ⟨by simp [HNE.out], HDD.out nq⟩
   ·obtain rfl : k = xs.length := by omega
    go_wp2
    go_ret
    have hpre := HPRE.out
    rw [List.take_of_length_le (Nat.le_refl _), List.take_of_length_le (by omega)] at hpre
    exact ⟨by simp [hpre], HBq.out⟩
 ·go_wp2
  go_ret
  have hne : ¬ xs = ys := fun e => hl (by rw [e])
  exact ⟨by simp [hne], 0, rfl⟩
end Go.Proofs.YtpibgijgnnmccaaGreatDoor
namespace Go.Proofs.YtpibgijgnnmccaaGreatDoor
open Go.RowKit
def largeS (l : List (Bool × List Int)) : Bool := l.any (fun p => decide (10 < p.2.length)) || decide (12 < l.length)
theorem largeS_not {l : List (Bool × List Int)} (h : largeS l = false) : l.length ≤ 12 ∧ ∀ p ∈ l, p.2.length ≤ 10 := by
 unfold largeS at h
 rw [Bool.or_eq_false_iff] at h
 refine ⟨by simpa using h.2, fun p hp => ?_⟩
 have h1 := List.any_eq_false.1 h.1 p hp
 simpa using h1
set_option maxHeartbeats 2000000 in
set_option maxRecDepth 100000 in
theorem large_any (wh : Int) (A : Option Addr) (n c B : Nat) (l : List PieceV) (w : World) (hp : PiecesQ w B A n c l) (hB : B ≤ w.heap.size) :
  Calls Tryz.prog 20 #[.agg #[.int .i64 wh, .slice A n c]] w fun e w' => e = .returned (.bool (largeS (l.map PieceV.flat))) ∧ Below w.heap.size w w' := by
 have hl := hp.len
 subst hl
 have hn := hp.1.nmax
 obtain ⟨w0, hw0⟩ : ∃ w0, w0 = w.alloc (.cells #[.int .i64 wh, .slice A l.length c] 24) := ⟨_, rfl⟩
 have HX0 : Hid (Blk w0 w.heap.size 24 #[.int .i64 wh, .slice A l.length c]) := hide (by rw [hw0]; exact Blk.new w _ _)
 have HB0 : Hid (Below w.heap.size w w0) := hide (by rw [hw0]; exact (Below.refl _ _).alloc (Nat.le_refl _) _)
 have HP := hide (hp.below (HB0.out.mono hB))
 clear hp
 go_enter Tryz.func20, Tryz.ntmps20
 go_upto_region 1 with fail
 rw [← hw0]
 clear hw0
 obtain ⟨x0, x1, _, _⟩ := HX0.out.two
 go_wp2
 go_loopw [3] (fun i W => ∃ (k : Nat), k ≤ l.length ∧ i = .int .i64 k ∧ (∀ j (hj : j < l.length), j < k → ¬ 10 < l[j].ms.length) ∧ W = w0) (fun i _ => l.length - (intOf i).toNat)
 case atStart => exact ⟨0, by omega, rfl, fun j _ hj => by omega, rfl⟩
 case round =>
  obtain ⟨k, hk, rfl, hpre, rfl⟩ := hrel
  have HPRE := hide hpre
  clear hpre
  by_cases hkl : (k : Int) < (l.length : Int)
  ·have hk1 : k < l.length := by omega
   obtain ⟨ad, rfl, -, ha0, ha1⟩ := HP.out.at_ hk1
   have hpi := IntsQ.len (HP.out.2 l[k] (List.getElem_mem hk1))
   rw [← hpi] at ha1
   by_cases h10 : 10 < (l[k].ms.length : Int)
   ·have HL : Hid (largeS (l.map PieceV.flat) = true) := hide (by
     unfold largeS
     have : (l.map PieceV.flat).any (fun p => decide (10 < p.2.length)) = true := List.any_eq_true.2 ⟨l[k].flat, List.mem_map_of_mem (List.getElem_mem hk1), decide_eq_true (show 10 < l[k].ms.length by omega)⟩
     rw [this]; rfl)
    go_wp2
    go_ret
    exact ⟨by rw [HL.out]; rfl, HB0.out⟩
   ·have HN := hide (show ∀ j (hj : j < l.length), j < k + 1 → ¬ 10 < l[j].ms.length from fun j hj h => by
     rcases Nat.lt_or_ge j k with h5 | h5
     ·exact HPRE.out j hj h5
     ·obtain rfl : j = k := by omega
      omega)
    go_wp2
    exact ⟨⟨k + 1, by omega, by go_num, HN.out, by trivial⟩, by simp [intOf]; omega⟩
  ·obtain rfl : k = l.length := by omega
   have HL : Hid (largeS (l.map PieceV.flat) = decide (12 < (l.length : Int))) := hide (by
    unfold largeS
    have : (l.map PieceV.flat).any (fun p => decide (10 < p.2.length)) = false := List.any_eq_false.2 fun p hp => by
     obtain ⟨q, hq, rfl⟩ := List.mem_map.1 hp
     obtain ⟨j, hj, rfl⟩ := List.mem_iff_getElem.1 hq
     have h5 : decide (10 < l[j].ms.length) = false := decide_eq_false (HPRE.out j hj hj)
     rw [show (l[j].flat).2 = l[j].ms from rfl, h5]
     simp
    rw [this, List.length_map, Bool.false_or, decide_eq_decide]; omega)
   go_wp2
   go_ret
   exact ⟨by rw [HL.out]; rfl, HB0.out⟩
theorem flat_take_succ {l : List PieceV} {k : Nat} (hk : k < l.length) : (l.map PieceV.flat).take (k + 1) = (l.map PieceV.flat).take k ++ [l[k].flat] := by
 have h : k < (l.map PieceV.flat).length := by simpa using hk
 rw [List.take_succ_eq_append_getElem h, List.getElem_map]
set_option maxHeartbeats 4000000 in
set_option maxRecDepth 100000 in
theorem olds_any (xw : Int) (A : Option Addr) (n c : Nat) (xl : List PieceV) (yw : Int) (A2 : Option Addr) (n2 c2 : Nat) (yl : List PieceV) (B : Nat) (w : World) (hx : PiecesQ w B A n c xl) (hy : PiecesQ w B A2 n2 c2 yl) (hB : B ≤ w.heap.size) :
  Calls Tryz.prog 46 #[.agg #[.int .i64 xw, .slice A n c], .agg #[.int .i64 yw, .slice A2 n2 c2]] w fun e w' => e = .returned (.bool (decide (xw = yw) && decide (xl.map PieceV.flat = yl.map PieceV.flat))) ∧ Below w.heap.size w w' := by
 have hlx := hx.len
 have hly := hy.len
 subst hlx
 subst hly
 have hnx := hx.1.nmax
 have hny := hy.1.nmax
 obtain ⟨w0, hw0⟩ : ∃ w0, w0 = (w.alloc (.cells #[.int .i64 xw, .slice A xl.length c] 24)).alloc (.cells #[.int .i64 yw, .slice A2 yl.length c2] 24) := ⟨_, rfl⟩
 have hz0 : w0.heap.size = w.heap.size + 2 := by rw [hw0]; simp
 have h01 : Below w.heap.size w w0 := by rw [hw0]; exact ((Below.refl _ _).alloc (Nat.le_refl _) _).alloc (by simp) _
 have HX0 : Hid (Blk w0 w.heap.size 24 #[.int .i64 xw, .slice A xl.length c]) := hide (by rw [hw0]; exact (Blk.new w _ _).alloc _)
 have HY0 : Hid (Blk w0 (w.heap.size + 1) 24 #[.int .i64 yw, .slice A2 yl.length c2]) := hide (by
  rw [hw0]
  have h := Blk.new (w.alloc (.cells #[.int .i64 xw, .slice A xl.length c] 24)) 24 #[.int .i64 yw, .slice A2 yl.length c2]
  rwa [World.size_alloc] at h)
 have HTX := hide (PiecesQ.below hx (h01.mono hB)); have HTY := hide (PiecesQ.below hy (h01.mono hB))
 have HB0 := hide h01
 clear hx hy h01
 go_enter Tryz.func46, Tryz.ntmps46
 go_upto_region 1 with fail
 rw [← hw0]
 clear hw0
 obtain ⟨x0, x1, _, _⟩ := HX0.out.two
 obtain ⟨y0, y1, _, _⟩ := HY0.out.two
 by_cases hd : xw = yw
 ·by_cases hl : (xl.length : Int) = (yl.length : Int)
  ·go_wp2
   go_loopw [5] (fun i W => ∃ (k : Nat), k ≤ xl.length ∧ i = .int .i64 k ∧ (xl.map PieceV.flat).take k = (yl.map PieceV.flat).take k ∧ ∃ q, W = w0.drewN q) (fun i _ => xl.length - (intOf i).toNat)
   case atStart => exact ⟨0, by omega, rfl, rfl, 0, rfl⟩
   case round =>
    obtain ⟨k, hk, rfl, hpre, q, rfl⟩ := hrel
    have HPRE := hide hpre
    have HX := hide (HX0.out.drewN q); have HY := hide (HY0.out.drewN q)
    have HTXq : Hid (PiecesQ (w0.drewN q) B A xl.length c xl) := hide HTX.out
    have HTYq : Hid (PiecesQ (w0.drewN q) B A2 yl.length c2 yl) := hide HTY.out
    have HBq : Hid (Below w.heap.size w (w0.drewN q)) := hide (below_drewN HB0.out q)
    have hzq : (w0.drewN q).heap.size = w.heap.size + 2 := hz0
    have HDD := hide (fun p => dd w0 q p)
    clear hpre x0 x1 y0 y1
    generalize w0.drewN q = W at *
    obtain ⟨x0, x1, _, _⟩ := HX.out.two
    obtain ⟨y0, y1, _, _⟩ := HY.out.two
    by_cases hkl : (k : Int) < (xl.length : Int)
    ·have hk1 : k < xl.length := by omega
     have hk2 : k < yl.length := by omega
     obtain ⟨ad, rfl, -, ha0, ha1⟩ := HTXq.out.at_ hk1
     obtain ⟨ad2, rfl, -, hb0, hb1⟩ := HTYq.out.at_ hk2
     have hI1 := HTXq.out.2 xl[k] (List.getElem_mem hk1)
     have hI2 := HTYq.out.2 yl[k] (List.getElem_mem hk2)
     have hky : (k : Int) < (yl.length : Int) := by omega
     have htk1 := flat_take_succ hk1
     have htk2 := flat_take_succ hk2
     have HNE := hide (show xl[k].flat ≠ yl[k].flat → ¬ xl.map PieceV.flat = yl.map PieceV.flat from fun h e => h (by
      have h1 : (xl.map PieceV.flat)[k]? = (yl.map PieceV.flat)[k]? := by rw [e]
      rw [List.getElem?_map, List.getElem?_map, List.getElem?_eq_getElem hk1, List.getElem?_eq_getElem hk2] at h1
      simpa using h1))
     generalize xl[k] = px at *
     generalize yl[k] = py at *
     obtain ⟨mx, Ax, nx, cx, xs⟩ := px
     obtain ⟨my, Ay, ny, cy, ys⟩ := py
     dsimp only at ha0 ha1 hb0 hb1 hI1 hI2
     have HLI := hide (fun q => lawInts_any Ax nx cx xs Ay ny cy ys B (W.drewN q) hI1 hI2 (by show B ≤ W.heap.size; omega))
     by_cases hmm : mx = my
     ·subst hmm
      by_cases hxy : xs = ys
      ·rw [decide_eq_true hxy] at HLI
       have HTK : Hid ((xl.map PieceV.flat).take (k + 1) = (yl.map PieceV.flat).take (k + 1)) := hide (by rw [htk1, htk2, HPRE.out, hxy]; rfl)
       clear htk1 htk2 hxy hI1 hI2 HNE
       go_wp2
       go_quiet (first | (go_at_call 49; refine Calls.quiet_of (HLI.out _)))
       go_wp2
       obtain ⟨q2, hq2⟩ := HDD.out nq
       exact ⟨⟨k + 1, by omega, by go_num, HTK.out, q2, hq2⟩, by simp [intOf]; omega⟩
      ·rw [decide_eq_false hxy] at HLI
       have hne := HNE.out (fun e => hxy (by simpa [PieceV.flat] using e))
       have HNE2 := hide hne
       clear htk1 htk2 hxy hI1 hI2 HNE hne
       go_wp2
       go_quiet (first | (go_at_call 49; refine Calls.quiet_of (HLI.out _)))
       go_wp2
       go_ret
       exact ⟨by simp [HNE2.out], below_drewN HBq.out _⟩
     ·have hne := HNE.out (fun e => hmm (by simp [PieceV.flat] at e; exact e.1))
      have HNE2 := hide hne
      have hdm : (mx != my) = true := by simpa using hmm
      clear htk1 htk2 hI1 hI2 HNE hne HLI
      go_wp2
      go_quiet (fail)
      go_wp2
      go_ret
      exact ⟨by simp [HNE2.out], below_drewN HBq.out _⟩
    ·obtain rfl : k = xl.length := by omega
     go_wp2
     go_ret
     have hpre := HPRE.out
     rw [List.take_of_length_le (by simp), List.take_of_length_le (by simp; omega)] at hpre
     exact ⟨by simp [hd, hpre], HBq.out⟩
  ·go_wp2
   go_ret
   have hne : ¬ xl.map PieceV.flat = yl.map PieceV.flat := fun e => hl (by have h5 := congrArg List.length e; simp only [List.length_map] at h5; omega)
   exact ⟨by simp [hd, hne], HB0.out⟩
 ·go_wp2
  go_ret
  exact ⟨by simp [hd], HB0.out⟩
theorem oldOK_small {wh : Int} {l : List PieceV} (h : oldOK wh (l.map PieceV.flat) = true) : l.length ≤ 1000 ∧ ∀ p ∈ l, p.ms.length ≤ 1000 := by
 obtain ⟨_, h2, h3⟩ := oldOK_parts h
 rw [List.length_map] at h2
 refine ⟨by omega, fun p hp => ?_⟩
 have h4 : p.ms.length ≤ 6 := (h3 p.flat (List.mem_map_of_mem hp)).2.1
 omega
theorem large_small {l : List PieceV} (h : largeS (l.map PieceV.flat) = false) : l.length ≤ 1000 ∧ ∀ p ∈ l, p.ms.length ≤ 1000 := by
 obtain ⟨h2, h3⟩ := largeS_not h
 rw [List.length_map] at h2
 refine ⟨by omega, fun p hp => ?_⟩
 have h4 : p.ms.length ≤ 10 := h3 p.flat (List.mem_map_of_mem hp)
 omega
end Go.Proofs.YtpibgijgnnmccaaGreatDoor
namespace Go.Proofs.YtpibgijgnnmccaaGreatDoor
open Go.RowKit
structure OldI (w W : World) (A : Option Addr) (c : Nat) (l : List PieceV) (wh : Int) (o : Value) (k : Nat) (L : List PieceV) : Prop where
 blk : Blk W w.heap.size 24 #[.int .i64 wh, .slice A l.length c]
 blk2 : Blk W (w.heap.size + 1) 24 #[.int .i64 0, .slice none 0 0]
 row : W.ownsRow (w.heap.size + 2) 96 2 o k (cells2 (L.map PieceV.enc))
 marks : ∀ p ∈ L, W.ownsRow (w.heap.size + 2) 3 1 (.slice p.A p.n p.c) p.n (p.ms.map (Value.int .i64))
 flat : L.map PieceV.flat = (l.map PieceV.flat).take k
 below : Below w.heap.size w W
theorem OldI.drewN {w W : World} {A : Option Addr} {c : Nat} {l : List PieceV} {wh : Int} {o : Value} {k : Nat} {L : List PieceV} (h : OldI w W A c l wh o k L) (q : Nat) : OldI w (W.drewN q) A c l wh o k L :=
 ⟨h.blk, h.blk2, h.row, h.marks, h.flat, below_drewN h.below q⟩
theorem OldI.next {w W w1 w3 : World} {A : Option Addr} {c : Nat} {l : List PieceV} {wh : Int} {o : Value} {k : Nat} {L : List PieceV} {p : PieceV} {v : Value} (h : OldI w W A c l wh o k L) (hb : Below (w.heap.size + 2) W w1)
  (hrow : w3.ownsRow (w.heap.size + 2) 96 2 v (k + 1) (cells2 (L.map PieceV.enc) ++ [.bool p.minus, .slice p.A p.n p.c])) (hr1 : w1.ownsRow (w.heap.size + 2) 96 2 o k (cells2 (L.map PieceV.enc)))
  (hm : ∀ q ∈ L, w1.ownsRow (w.heap.size + 2) 3 1 (.slice q.A q.n q.c) q.n (q.ms.map (Value.int .i64)))
  (hp : w1.ownsRow (w.heap.size + 2) 3 1 (.slice p.A p.n p.c) p.n (p.ms.map (Value.int .i64))) (hg : w1.grownBy w3 o.ownBlock) (hk : k < l.length) (hf : p.flat = l[k].flat) (hW : w.heap.size + 2 ≤ W.heap.size) :
  OldI w w3 A c l wh v (k + 1) (L ++ [p]) := by
 have hb3 : Below (w.heap.size + 2) W w3 := hb.grown hg (by have := hb.size; omega) (fun j e => (hr1.lt j e).1)
 have hk1 : ∀ q : PieceV, w1.ownsRow (w.heap.size + 2) 3 1 (.slice q.A q.n q.c) q.n (q.ms.map (Value.int .i64)) → w3.ownsRow (w.heap.size + 2) 3 1 (.slice q.A q.n q.c) q.n (q.ms.map (Value.int .i64)) := fun q hq =>
  own_kept_of hq hg (fun g e1 e2 => own_own_ne hr1 hq (by decide) e2 e1)
 refine ⟨h.blk.below hb3 (by omega), h.blk2.below hb3 (by omega), ?_, fun q hq => ?_, ?_, h.below.trans (hb3.mono (by omega))⟩
 ·rw [cells2_snoc]; exact hrow
 ·rcases List.mem_append.1 hq with hq | hq
  ·exact hk1 q (hm q hq)
  ·rw [List.mem_singleton.1 hq]; exact hk1 p hp
 ·rw [List.map_append, h.flat, flat_take_succ hk, List.map_singleton, hf]
theorem own_grown_alloc {W : World} {base size n : Nat} {e : TypeId} {v : Value} {xs : List Value} (h : W.ownsRow base e size v n xs) (o : Obj) : (W.alloc o).ownsRow base e size v n xs := h.alloc o
set_option maxHeartbeats 8000000 in
set_option maxRecDepth 100000 in
theorem old_any (wh : Int) (A : Option Addr) (n c B : Nat) (l : List PieceV) (w : World) (hp : PiecesQ w B A n c l) (hB : B ≤ w.heap.size) (hl8 : l.length ≤ 1000) (hm8 : ∀ p ∈ l, p.ms.length ≤ 1000) :
  Calls Tryz.prog 23 #[.agg #[.int .i64 wh, .slice A n c]] w fun e w' => ∃ (A' : Option Addr) (c' : Nat) (L : List PieceV), e = .returned (.agg #[.int .i64 wh, .slice A' l.length c']) ∧ Pieces w' w'.heap.size A' l.length c' L ∧ L.map PieceV.flat = l.map PieceV.flat ∧ Below w.heap.size w w' := by
 have hl := hp.len
 subst hl
 have hn := hp.1.nmax
 obtain ⟨i0, hi0, hz0, hz1, hz2⟩ := info_parts Tryz.infoInt
 obtain ⟨i1, hi1, hy0, hy1, hy2⟩ := info_parts Tryz.infoPiece
 obtain ⟨w0, hw0⟩ : ∃ w0, w0 = ((w.alloc (.cells #[.int .i64 wh, .slice A l.length c] 24)).alloc (.cells #[.int .i64 0, .slice none 0 0] 24)).alloc (.cells #[] 96) := ⟨_, rfl⟩
 have hz00 : w0.heap.size = w.heap.size + 3 := by rw [hw0]; simp
 have HI0 : Hid (OldI w w0 A c l wh (.slice (some ⟨w.heap.size + 2, 0, none⟩) 0 0) 0 []) := hide (by
  rw [hw0]
  refine ⟨((Blk.new w _ _).alloc _).alloc _, ?_, ?_, fun _ h => (by cases h), rfl, (((Below.refl _ _).alloc (Nat.le_refl _) _).alloc (by simp) _).alloc (by simp; omega) _⟩
  ·have h := (Blk.new (w.alloc (.cells #[.int .i64 wh, .slice A l.length c] 24)) 24 #[.int .i64 0, .slice none 0 0]).alloc (.cells #[] 96)
   rwa [World.size_alloc] at h
  ·have h := World.ownsRow_lit (base := w.heap.size + 2) (e := 96) (size := 2) ((w.alloc (.cells #[.int .i64 wh, .slice A l.length c] 24)).alloc (.cells #[.int .i64 0, .slice none 0 0] 24)) #[] 0 (by simp) (by unfold maxLen; omega) rfl
   rw [World.size_alloc, World.size_alloc] at h
   exact h)
 have HP := hide (fun W (hb : Below w.heap.size w W) => hp.below (hb.mono hB))
 have HM8 := hide hm8
 clear hp hm8
 go_enter Tryz.func23, Tryz.ntmps23
 go_wp2
 rw [← hw0]
 clear hw0
 go_loopw [3, 4] (fun o i W => ∃ (k : Nat) (L : List PieceV), k ≤ l.length ∧ i = .int .i64 k ∧ OldI w W A c l wh o k L ∧ w.heap.size + 3 ≤ W.heap.size) (fun _ i _ => l.length - (intOf i).toNat)
 case atStart => exact ⟨0, [], by omega, rfl, HI0.out, by omega⟩
 case round =>
  obtain ⟨k, L, hk, rfl, hI, hWz⟩ := hrel
  have HI := hide hI
  obtain ⟨x0, x1, _, xf1⟩ := hI.blk.two
  clear hI HI0
  by_cases hkl : (k : Int) < (l.length : Int)
  ·have hk1 : k < l.length := by omega
   have HPk := hide (HP.out _ HI.out.below)
   obtain ⟨ad, rfl, had, ha0, ha1⟩ := HPk.out.at_ hk1
   have hpi := HPk.out.2 l[k] (List.getElem_mem hk1)
   have hm9 := HM8.out l[k] (List.getElem_mem hk1)
   have hpn := IntsQ.len hpi
   have HFL := hide (show l[k].flat = l[k].flat from rfl)
   obtain ⟨pk, hpk⟩ : ∃ pk, pk = l[k] := ⟨_, rfl⟩
   rw [← hpk] at ha0 ha1 hpi hm9 hpn
   have HPK := hide (show pk.flat = l[k].flat by rw [hpk])
   clear hpk HFL
   obtain ⟨mi, Ap, np, cp, ms⟩ := pk
   dsimp only at ha0 ha1 hpi hm9 hpn
   subst hpn
   have HPI := hide hpi
   clear hpi
   have adB : ad.block < w.heap.size + 2 := by omega
   obtain ⟨Ao, co, rfl⟩ := own_shape HI.out.row
   go_wp2
   obtain ⟨W, hWr⟩ : ∃ W, W = wr := ⟨_, rfl⟩
   subst hWr
   have hk2 : k ≤ 1000 := by omega
   ·refine wp_region_till (fun w' => Below (w.heap.size + 2) W w') 17 (fun _ => True) 17 (fun _ => True) (by kernel_rfl) ⟨Below.drew (Below.refl _ _), fun _ => trivial, fun _ => trivial⟩ (fun hHeld => ?_)
    refine wpTill_take 0 rfl (by decide +kernel) (fun _ _ _ h => h) (by rfl) (v := ?_) ?_ hHeld (fun hHeld' => ?_)
    rotate_left 1
    focus (intro w' hSw; clear hSw; go_simp; first | done | with_reducible rfl)
    clear hHeld
    rename Till _ _ _ _ _ _ _ => hHeld
    simp only [Act.put, List.setIfInBounds_toArray, List.set_cons_zero, List.set_cons_succ]
    refine wpTill_take 1 rfl (by decide +kernel) (fun _ _ _ h => h) (by rfl) (v := ?_) ?_ hHeld (fun hHeld' => ?_)
    rotate_left 1
    focus (intro w' hSw; clear hSw; go_simp; first | done | with_reducible rfl)
    clear hHeld
    rename Till _ _ _ _ _ _ _ => hHeld
    simp only [Act.put, List.setIfInBounds_toArray, List.set_cons_zero, List.set_cons_succ]
    refine wpTill_take 2 rfl (by decide +kernel) (fun _ _ _ h => h) (by rfl) (v := ?_) ?_ hHeld (fun hHeld' => ?_)
    rotate_left 1
    focus (intro w' hSw; obtain ⟨hC, hF, hG⟩ := hSw; clear hF; clear hG; have c1 := (hC.cell (p := ⟨w.heap.size, 1, none⟩) (by show w.heap.size < _; omega)).trans x1; clear hC; go_simp; first | done | with_reducible rfl)
    clear hHeld
    rename Till _ _ _ _ _ _ _ => hHeld
    simp only [Act.put, List.setIfInBounds_toArray, List.set_cons_zero, List.set_cons_succ]
    refine wpTill_take 3 rfl (by decide +kernel) (fun _ _ _ h => h) (by rfl) (v := ?_) ?_ hHeld (fun hHeld' => ?_)
    rotate_left 1
    focus (intro w' hSw; clear hSw; go_simp; first | done | with_reducible rfl)
    clear hHeld
    rename Till _ _ _ _ _ _ _ => hHeld
    simp only [Act.put, List.setIfInBounds_toArray, List.set_cons_zero, List.set_cons_succ]
    refine wpTill_take 4 rfl (by decide +kernel) (fun _ _ _ h => h) (by rfl) (v := ?_) ?_ hHeld (fun hHeld' => ?_)
    rotate_left 1
    focus (intro w' hSw; clear hSw; go_simp; first | done | with_reducible rfl)
    clear hHeld
    rename Till _ _ _ _ _ _ _ => hHeld
    simp only [Act.put, List.setIfInBounds_toArray, List.set_cons_zero, List.set_cons_succ]
    refine wpTill_take 5 rfl (by decide +kernel) (fun _ _ _ h => h) (by rfl) (v := ?_) ?_ hHeld (fun hHeld' => ?_)
    rotate_left 1
    focus (intro w' hSw; clear hSw; go_simp; first | done | with_reducible rfl)
    clear hHeld
    rename Till _ _ _ _ _ _ _ => hHeld
    simp only [Act.put, List.setIfInBounds_toArray, List.set_cons_zero, List.set_cons_succ]
    refine wpTill_take 6 rfl (by decide +kernel) (fun _ _ _ h => h) (by rfl) (v := ?_) ?_ hHeld (fun hHeld' => ?_)
    rotate_left 1
    focus (intro w' hSw; obtain ⟨hC, hF, hG⟩ := hSw; clear hF; clear hG; have c2 := (hC.cell (p := ad.add (k * 2)) (by rw [addr_block]; omega)).trans ha0; clear hC; go_simp; first | done | with_reducible rfl)
    clear hHeld
    rename Till _ _ _ _ _ _ _ => hHeld
    simp only [Act.put, List.setIfInBounds_toArray, List.set_cons_zero, List.set_cons_succ]
    refine wpTill_take 8 rfl (by decide +kernel) (fun _ _ _ h => h) (by rfl) (v := ?_) ?_ hHeld (fun hHeld' => ?_)
    rotate_left 1
    focus (intro w' hSw; clear hSw; go_simp; first | done | with_reducible rfl)
    clear hHeld
    rename Till _ _ _ _ _ _ _ => hHeld
    simp only [Act.put, List.setIfInBounds_toArray, List.set_cons_zero, List.set_cons_succ]
    refine wpTill_take 9 rfl (by decide +kernel) (fun _ _ _ h => h) (by rfl) (v := ?_) ?_ hHeld (fun hHeld' => ?_)
    rotate_left 1
    focus (intro w' hSw; obtain ⟨hC, hF, hG⟩ := hSw; clear hF; clear hG; have c1 := (hC.cell (p := ⟨w.heap.size, 1, none⟩) (by show w.heap.size < _; omega)).trans x1; clear hC; go_simp; first | done | with_reducible rfl)
    clear hHeld
    rename Till _ _ _ _ _ _ _ => hHeld
    simp only [Act.put, List.setIfInBounds_toArray, List.set_cons_zero, List.set_cons_succ]
    refine wpTill_take 10 rfl (by decide +kernel) (fun _ _ _ h => h) (by rfl) (v := ?_) ?_ hHeld (fun hHeld' => ?_)
    rotate_left 1
    focus (intro w' hSw; clear hSw; go_simp; first | done | with_reducible rfl)
    clear hHeld
    rename Till _ _ _ _ _ _ _ => hHeld
    simp only [Act.put, List.setIfInBounds_toArray, List.set_cons_zero, List.set_cons_succ]
    refine wpTill_take 11 rfl (by decide +kernel) (fun _ _ _ h => h) (by rfl) (v := ?_) ?_ hHeld (fun hHeld' => ?_)
    rotate_left 1
    focus (intro w' hSw; clear hSw; go_simp; first | done | with_reducible rfl)
    clear hHeld
    rename Till _ _ _ _ _ _ _ => hHeld
    simp only [Act.put, List.setIfInBounds_toArray, List.set_cons_zero, List.set_cons_succ]
    refine wpTill_take 12 rfl (by decide +kernel) (fun _ _ _ h => h) (by rfl) (v := ?_) ?_ hHeld (fun hHeld' => ?_)
    rotate_left 1
    focus (intro w' hSw; clear hSw; go_simp; first | done | with_reducible rfl)
    clear hHeld
    rename Till _ _ _ _ _ _ _ => hHeld
    simp only [Act.put, List.setIfInBounds_toArray, List.set_cons_zero, List.set_cons_succ]
    refine wpTill_take 13 rfl (by decide +kernel) (fun _ _ _ h => h) (by rfl) (v := ?_) ?_ hHeld (fun hHeld' => ?_)
    rotate_left 1
    focus (intro w' hSw; obtain ⟨hC, hF, hG⟩ := hSw; clear hF; clear hG; have c3 := (hC.cell (p := ⟨(ad.add (k * 2)).block, (ad.add (k * 2)).off + 1, none⟩) (by show (ad.add (k * 2)).block < _; rw [addr_block]; omega)).trans ha1; clear hC; go_simp; first | done | with_reducible rfl)
    clear hHeld
    rename Till _ _ _ _ _ _ _ => hHeld
    simp only [Act.put, List.setIfInBounds_toArray, List.set_cons_zero, List.set_cons_succ]
    have HLm := hide (World.ownsRow_lit (base := w.heap.size + 2) (e := 3) (size := 1) W.drew #[] 0 (by show _ ≤ W.heap.size; omega) (by unfold maxLen; omega) rfl)
    have HPI2 := hide (Rq.alloc (show Rq W.drew B 1 Ap ms.length cp (ms.map (Value.int .i64)) from HPI.out) (by show B ≤ W.heap.size; omega) (.cells #[] 3))
    have HB2 := hide ((Below.drew (Below.refl (w.heap.size + 2) W)).alloc (by show _ ≤ W.heap.size; omega) (.cells #[] 3))
    refine wpTill_one 7 rfl (by decide +kernel) (fun K hK => ?_)
    go_simp
    refine hK.out _ _ ⟨HB2.out, fun _ => trivial, fun _ => trivial⟩ (fun hHeld => ?_)
    clear hK K
    refine wpTill_one 14 rfl (by decide +kernel) (fun K hK => ?_)
    refine step_append_q rfl _ _ 65 rfl (w.heap.size + 2) 3 i0 (.int .i64 0) 1 8 Tryz.underlying65 hi0 hz0 hz1 hz2 rfl (by decide) (.slice (some ⟨W.heap.size, 0, none⟩) 0 0) 0 _ rfl HLm.out Ap ms.length cp B (ms.map (Value.int .i64)) rfl HPI2.out (by intro u hu; obtain ⟨d, _, rfl⟩ := List.mem_map.1 hu; rfl) (by unfold maxLen; omega) (by omega) (by simp; omega) ?_
    intro A3 c3 w3 ho3 hg3
    have HO3 : Hid (w3.ownsRow (w.heap.size + 2) 3 1 (.slice A3 ms.length c3) ms.length (ms.map (Value.int .i64))) := hide (by simpa using ho3)
    have HKP : Hid (∀ (base s n : Nat) (e : TypeId) (v : Value) (xs : List Value), W.ownsRow base e s v n xs → w3.ownsRow base e s v n xs) := hide (fun base s n e v xs h => own_kept_of ((World.ownsRow.drew h).alloc _) hg3 (fun g e1 e2 => by
     have h5 := (h.lt g e1).2
     have e3 : W.heap.size = g := Option.some.inj e2
     omega))
    have HB3 := hide (HB2.out.grown hg3 (by simp; omega) (fun j e => by have e3 : W.heap.size = j := Option.some.inj e; omega))
    have hz3 : W.heap.size + 1 ≤ w3.heap.size := by have := hg3.size; simpa using this
    rw [Nat.zero_add] at ho3 ⊢
    refine hK.out _ _ ⟨HB3.out, fun _ => trivial, fun _ => trivial⟩ (fun hHeld => ?_)
    clear hK K ho3 hg3
    simp only [Act.put, List.setIfInBounds_toArray, List.set_cons_zero, List.set_cons_succ]
    refine wpTill_take 15 rfl (by decide +kernel) (fun _ _ _ h => h) (by rfl) (v := ?_) ?_ hHeld (fun hHeld' => ?_)
    rotate_left 1
    focus (intro w' hSw; clear hSw; go_simp; first | done | with_reducible rfl)
    clear hHeld
    rename Till _ _ _ _ _ _ _ => hHeld
    simp only [Act.put, List.setIfInBounds_toArray, List.set_cons_zero, List.set_cons_succ]
    have HB4 := hide (HB3.out.alloc (by omega) (.cells #[.bool mi, .slice A3 ms.length c3] 96))
    have HR4 := hide ((HKP.out _ _ _ _ _ _ HI.out.row).alloc (.cells #[.bool mi, .slice A3 ms.length c3] 96))
    refine wpTill_one 16 rfl (by decide +kernel) (fun K hK => ?_)
    go_simp
    refine hK.out _ _ ⟨HB4.out, fun _ => trivial, fun _ => trivial⟩ (fun hHeld => ?_)
    clear hK K
    refine wpTill_one 17 rfl (by decide +kernel) (fun K hK => ?_)
    refine step_append_lies _ rfl _ _ 22 rfl (w.heap.size + 2) 96 i1 (.agg #[.bool false, .slice none 0 0]) 2 32 Tryz.underlying22 hi1 hy0 hy1 hy2 rfl (by decide) (.slice Ao k co) k _ rfl HR4.out ⟨w3.heap.size, 0, none⟩ 1 1 [.bool mi, .slice A3 ms.length c3] rfl rfl (cell_new2 _ _ _ _) (by simp [Value.oneCell']) (by decide) (by unfold maxLen; omega) (by omega) (by simp; omega) _ rfl ?_
    intro g cap w4 ho4 hg4 _ hlt4
    have HO4 := hide ho4
    have HG4 := hide hg4
    have HN := hide (HI.out.next (p := ⟨mi, A3, ms.length, c3, ms⟩) HB4.out ho4 HR4.out (fun q hq => (HKP.out _ _ _ _ _ _ (HI.out.marks q hq)).alloc _) (HO3.out.alloc _) hg4 hk1 HPK.out (by omega))
    have HB5 := hide (HB4.out.grown hg4 (by simp; omega) (fun j e => (HR4.out.lt j e).1))
    have hz4 : w3.heap.size + 1 ≤ w4.heap.size := by have := hg4.size; simpa using this
    refine hK.out _ _ ⟨HB5.out, fun _ => trivial, fun _ => trivial⟩ (fun hHeld => ?_)
    clear hK K ho4 hg4
    simp only [Act.put, List.setIfInBounds_toArray, List.set_cons_zero, List.set_cons_succ]
    refine wpTill_take 18 rfl (by decide +kernel) (fun _ _ _ h => h) (by rfl) (v := ?_) ?_ hHeld (fun hHeld' => ?_)
    rotate_left 1
    focus (intro w' hSw; clear hSw; go_simp; first | done | with_reducible rfl)
    clear hHeld
    rename Till _ _ _ _ _ _ _ => hHeld
    simp only [Act.put, List.setIfInBounds_toArray, List.set_cons_zero, List.set_cons_succ]
    refine wpTill_done (by decide +kernel) ?_
    clear hHeld
    go_wp2
    exact ⟨⟨k + 1, L ++ [⟨mi, A3, ms.length, c3, ms⟩], by omega, by go_num, HN.out, by omega⟩, by simp [intOf]; omega⟩
  ·obtain rfl : k = l.length := by omega
   obtain ⟨Ao, co, rfl⟩ := own_shape HI.out.row
   obtain ⟨z0, z1, zf0, zf1⟩ := HI.out.blk2.two
   go_wp2
   have HB1 := hide (((HI.out.below.setCell (p := ⟨w.heap.size, 1, none⟩) (Nat.le_refl _) (.slice Ao l.length co)).setCell (p := ⟨w.heap.size + 1, 0, none⟩) (by show w.heap.size ≤ w.heap.size + 1; omega) (.int .i64 wh)).setCell (p := ⟨w.heap.size + 1, 1, none⟩) (by show w.heap.size ≤ w.heap.size + 1; omega) (.slice Ao l.length co))
   have HK1 : Hid (∀ (s n : Nat) (e : TypeId) (v : Value) (xs : List Value), wr.ownsRow (w.heap.size + 2) e s v n xs → (((wr.setCell ⟨w.heap.size, 1, none⟩ (.slice Ao l.length co)).setCell ⟨w.heap.size + 1, 0, none⟩ (.int .i64 wh)).setCell ⟨w.heap.size + 1, 1, none⟩ (.slice Ao l.length co)).ownsRow (w.heap.size + 2) e s v n xs) := hide (fun s n e v xs h =>
    ownsRow_setCell_below (ownsRow_setCell_below (ownsRow_setCell_below h (by show w.heap.size < _; omega) _) (by show w.heap.size + 1 < _; omega) _) (by show w.heap.size + 1 < _; omega) _)
   refine bodyPost_cell (p := 2) (ty := 24) rfl rfl (((HI.out.blk2.far (p := ⟨w.heap.size, 1, none⟩) (by simp) _).set_ 0 _).set_ 1 _) (d := _) rfl Tryz.underlying24 Tryz.sizeOld rfl ?_
   have hf := HI.out.flat
   rw [List.take_of_length_le (by simp)] at hf
   have hll : L.length = l.length := by have := congrArg List.length hf; simpa using this
   exact ⟨Ao, co, rfl, L, ⟨Rd.of_own (HK1.out _ _ _ _ _ HI.out.row), fun p hp => Rd.of_own (HK1.out _ _ _ _ _ (HI.out.marks p hp))⟩, hf, HB1.out⟩
end Go.Proofs.YtpibgijgnnmccaaGreatDoor
