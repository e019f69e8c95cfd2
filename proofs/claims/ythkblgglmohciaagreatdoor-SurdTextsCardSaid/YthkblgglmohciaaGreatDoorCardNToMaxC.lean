import Derived.Test.YthkblgglmohciaaGreatDoorCardAToCardK
import Derived.Test.YthkblgglmohciaaGreatDoorWeakRToAppQ
import Derived.Test.YthkblgglmohciaaGreatDoorTrmAToTrmB
set_option linter.unusedVariables false
set_option linter.unusedSimpArgs false
namespace Go.Proofs.YthkblgglmohciaaGreatDoor
open Go.ChangeShapes Go.WideShapes Go.ChangeAt Go.RowKit Go.Joins Go.Deep
section
variable {H : Type} {enc : TypeId × Value → H} {W : World} {spare : Nat → Bool} {held : Bool} {fuel : Nat}
theorem open_termsQ {cs : List Value} {x : DataW H × List MemPlace} (h : DataW.trod enc Tryz.prog W 0 spare held fuel 22 cs = some x) :
  ∃ (A : Option Addr) (n c : Nat) (l : List (Int × Int)), cs = [.slice A n c] ∧ TermsQ W W.heap.size A n c l ∧ ∀ t ∈ l, (Lit.int .i64 t.1).wf = true ∧ (Lit.int .i64 t.2).wf = true := by
 rcases open_slice_pairs Tryz.underlying22 Tryz.underlying52 (by kernel_rfl) rfl rfl (by kernel_rfl) (by kernel_rfl) h with ⟨rfl, -⟩ | ⟨a, len, cap, m, n, V0, V1, D0, D1, P0, P1, rfl, -, hl, hm, hmm, -, hx⟩
 ·exact ⟨none, 0, 0, [], rfl, Rq.empty _ _ _ _, fun _ h => by cases h⟩
 ·have hlm : len ≤ m := by rw [hmm]; split <;> omega
  obtain ⟨l, hlen, hq⟩ := list_lt (α := Int × Int) (n := len) (p := fun i p => W.cell? (a.add (i * 2)) = some (.int .i64 p.1) ∧ W.cell? (a.add (i * 2 + 1)) = some (.int .i64 p.2) ∧ (Lit.int .i64 p.1).wf = true ∧ (Lit.int .i64 p.2).wf = true) (fun i hi => by
   obtain ⟨h0, h1, t0, t1⟩ := hx i (by omega)
   obtain ⟨b, e0, -, w0⟩ := DataW.trod_int Tryz.underlying3 t0
   obtain ⟨d, e1, -, w1⟩ := DataW.trod_int Tryz.underlying3 t1
   injection e0 with e0
   injection e1 with e1
   exact ⟨(b, d), by rw [h0, e0], by rw [h1, e1], w0, w1⟩)
  refine ⟨some a, len, cap, l, rfl, ⟨by rw [cellsT, cells2_length, List.length_map, hlen], hl, hm, ?_⟩, fun p hp => ?_⟩
  ·rcases Nat.eq_zero_or_pos len with h0 | h0
   ·exact .inl h0
   ·have hb := World.block_lt_of_cell? _ _ (hq 0 (by omega)).1
    rw [addr_block] at hb
    refine .inr ⟨a, rfl, hb, fun j u hu => ?_⟩
    rw [cellsT] at hu
    have hj : j < len * 2 := by
     rcases Nat.lt_or_ge j (len * 2) with h1 | h1
     ·exact h1
     ·rw [List.getElem?_eq_none (by rw [cells2_length, List.length_map]; omega)] at hu; cases hu
    have hi : j / 2 < (l.map encT).length := by simp; omega
    obtain ⟨g0, g1⟩ := cells2_get (l.map encT) (j / 2) hi
    obtain ⟨c0, c1, -⟩ := hq (j / 2) (by omega)
    rw [List.getElem_map] at g0 g1
    rcases Nat.mod_two_eq_zero_or_one j with h2 | h2
    ·rw [show j / 2 * 2 = j by omega] at g0 c0
     rw [g0] at hu
     injection hu with hu
     rw [c0, ← hu]
     rfl
    ·rw [show j / 2 * 2 + 1 = j by omega] at g1 c1
     rw [g1] at hu
     injection hu with hu
     rw [c1, ← hu]
     rfl
  ·obtain ⟨i, hi, rfl⟩ := List.mem_iff_getElem.1 hp
   exact (hq i (by omega)).2.2
set_option maxRecDepth 100000 in
theorem open_num {r : Reach} {b0 : Nat} {v : Value} {d : DataW H} {p : List MemPlace} (hv : Value.okWide Tryz.prog W r b0 24 v) (h : DataW.Trod enc Tryz.prog W 0 spare held 24 v d p) :
  ∃ (den : Int) (A : Option Addr) (n c : Nat) (l : List (Int × Int)), v = .agg #[.int .i64 den, .slice A n c] ∧ TermsQ W W.heap.size A n c l ∧ (Lit.int .i64 den).wf = true ∧ ∀ t ∈ l, (Lit.int .i64 t.1).wf = true ∧ (Lit.int .i64 t.2).wf = true := by
 obtain ⟨v0, v1, y0, y1, m, rfl, -, -, h0, h1⟩ := open_agg2 Tryz.underlying24 (by kernel_rfl) (by kernel_rfl) hv h
 obtain ⟨den, e0, -, w0⟩ := DataW.trod_int Tryz.underlying3 h0
 obtain ⟨A, n, c, l, e1, hP, hw⟩ := open_termsQ h1
 injection e0 with e0
 injection e1 with e1
 exact ⟨den, A, n, c, l, by rw [e0, e1], hP, w0, hw⟩
end
end Go.Proofs.YthkblgglmohciaaGreatDoor
namespace Go.Proofs.YthkblgglmohciaaGreatDoor
open Go.RowKit
theorem int_of_shape {P : Program} {w : World} {g : Nat} {t : TypeId} {k : IntKind} {zero : Array Value} (h : w.ShapedOpen P) (hg : g < P.globals.size)
  (h0 : ((begin P (fun _ _ => 0) default).world.heap[g]?).bind Obj.row? = some (zero, t)) (hz : zero.size = 1)
  (hb : P.buildable t = true) (hc : P.cellTypes P.depth t = some [t]) (hu : P.underlying t = some (.int k)) : ∃ m, w.cell? ⟨g, 0, none⟩ = some (.int k m) := by
 obtain ⟨cs, hh, hs, hr⟩ := h.1 g zero t hg h0
 obtain ⟨ts, hts, _, hall⟩ := hr hb
 rw [hc] at hts
 cases hts
 have h1 : 0 < cs.size := by omega
 obtain ⟨u, hu', hok⟩ := hall 0 cs[0] (by simp [h1])
 have : u = t := by simpa using hu'.symm
 subst this
 have hcell : w.cell? ⟨g, 0, none⟩ = some cs[0] := by simp [World.cell?, hh, h1]
 rw [hcell]
 unfold Cell.ok at hok
 rw [hu] at hok
 cases hv : cs[0] <;> rw [hv] at hok <;> first | exact ⟨_, rfl⟩ | (simp at hok; done) | (simp at hok; obtain ⟨h3, _⟩ := hok; subst h3; exact ⟨_, rfl⟩) | (simp at hok; subst hok; exact ⟨_, rfl⟩)
theorem maxV_of {w : World} (h : w.ShapedOpen Tryz.prog) : MaxV w :=
 int_of_shape (g := 0) (t := 3) (zero := #[.int .i64 0]) h (of_decide_eq_true (by kernel_rfl)) (by kernel_rfl) rfl (by kernel_rfl) (by kernel_rfl) Tryz.underlying3
end Go.Proofs.YthkblgglmohciaaGreatDoor
