import Derived.Test.YtpibgijgnnmccaaGreatDoorCordSToCordV
import Derived.Stop.LaidErr
import Derived.Lib.LaidTab
import Derived.LaidMore
import Derived.ProofKit
import Derived.OpenShut
import Derived.WideKeyPair
import Derived.Stop.Joined
import Derived.Deep.DeepHandedRow
import Derived.Test.YtpibgijgnnmccaaGreatDoorWeakToAppQ
import Derived.Deep.SlicePairs
import Derived.Lib.SmallJoins
import Derived.Test.YtpibgijgnnmccaaGreatDoorCards
import Derived.Test.YtpibgijgnnmccaaGreatDoorTie
import Derived.Carry
set_option linter.unusedVariables false
set_option linter.unusedSimpArgs false
namespace Go.Proofs.YtpibgijgnnmccaaGreatDoor
open Go.ChangeShapes Go.WideShapes Go.ChangeAt Go.RowKit
def errL (n : String) (l : List UInt8) : String × DataW Unit := (n, .iface "*errors.errorString" (.ptr (.agg [.lit (.string l)])))
def rangeText : List UInt8 := [118, 97, 108, 117, 101, 32, 111, 117, 116, 32, 111, 102, 32, 114, 97, 110, 103, 101]
def syntaxText : List UInt8 := [105, 110, 118, 97, 108, 105, 100, 32, 115, 121, 110, 116, 97, 120]
theorem Tryz.star : "*" ++ "errors.errorString" = "*errors.errorString" := by decide
theorem Tryz.rowErr (u : TypeId) (h : Tryz.prog.typeName? 3 u = some "*errors.errorString") : u = 288 :=
 typeName_ptr_named (nm := "errors.errorString") (by rw [Tryz.star]; kernel_rfl) (by kernel_rfl) (by decide) u (by rw [Tryz.star]; exact h)
theorem Tryz.gRange : Tryz.prog.globalNamed "strconv.ErrRange" = some 2 := by kernel_rfl
theorem Tryz.gRangeT : (Tryz.prog.globals[2]?).map (·.type) = some 194 := by kernel_rfl
theorem Tryz.gSyntax : Tryz.prog.globalNamed "strconv.ErrSyntax" = some 1 := by kernel_rfl
theorem Tryz.gSyntaxT : (Tryz.prog.globals[1]?).map (·.type) = some 194 := by kernel_rfl
theorem Tryz.gPow : Tryz.prog.globalNamed "internal/strconv.uint64pow10" = some 5 := by kernel_rfl
theorem Tryz.gPowT : (Tryz.prog.globals[5]?).map (·.type) = some 285 := by kernel_rfl
theorem Tryz.errField : ∃ f : Field, Tryz.prog.underlying 290 = some (.struct #[f]) ∧ f.type = 9 ∧ f.offset = 0 := ⟨_, Tryz.underlying290, rfl, rfl⟩
theorem Tryz.cellsErr : Tryz.prog.cellsOf 290 = 1 := by kernel_rfl
theorem Tryz.cellsStr : Tryz.prog.cellsOf 9 = 1 := by kernel_rfl
theorem Tryz.cellsPow : Tryz.prog.cellsOf 285 = 20 := by kernel_rfl
theorem Tryz.cellsU64 : Tryz.prog.cellsOf 218 = 1 := by kernel_rfl
theorem varsOf {W : World} {r : List (String × DataW Unit)} (h : laidMet Tryz.prog (("internal/strconv.uint64pow10", Lib.tabData .u64 Lib.pow10Tab) :: errL "strconv.ErrRange" rangeText :: errL "strconv.ErrSyntax" syntaxText :: r) W) :
  ErrVars W ∧ Lib.TabIs Tryz.prog W "internal/strconv.uint64pow10" .u64 Lib.pow10Tab := by
 obtain ⟨f, hf, hft, hfo⟩ := Tryz.errField
 obtain ⟨a1, s1, hv1, -, -, -⟩ := laid_sentinel h.tail Tryz.gRange Tryz.gRangeT Tryz.underlying194 Tryz.rowErr Tryz.underlying288 hf hft hfo Tryz.underlying9 Tryz.cellsErr Tryz.cellsStr
 obtain ⟨a2, s2, hv2, -, -, -⟩ := laid_sentinel h.tail.tail Tryz.gSyntax Tryz.gSyntaxT Tryz.underlying194 Tryz.rowErr Tryz.underlying288 hf hft hfo Tryz.underlying9 Tryz.cellsErr Tryz.cellsStr
 exact ⟨⟨_, _, _, _, hv2, hv1⟩, Lib.tabIs_of_head Tryz.gPow Tryz.gPowT Tryz.underlying285 Tryz.underlying218 Tryz.cellsU64 Tryz.cellsPow h⟩
theorem wfI {n : Int} (h : (Lit.int .i64 n).wf = true) : -9223372036854775808 ≤ n ∧ n ≤ 9223372036854775807 := by
 simp [Lit.wf, IntKind.min, IntKind.max, IntKind.signed, IntKind.bits] at h
 omega
end Go.Proofs.YtpibgijgnnmccaaGreatDoor
namespace Go.Proofs.YtpibgijgnnmccaaGreatDoor
open Go.ChangeShapes Go.WideShapes Go.ChangeAt Go.RowKit Go.Joins Go.Deep
theorem wf16 {n : Int} (h : (Lit.int .u16 n).wf = true) : 0 ≤ n ∧ n ≤ 65535 := by
 simp [Lit.wf, IntKind.min, IntKind.max, IntKind.signed, IntKind.bits] at h
 omega
theorem wf8 {n : Int} (h : (Lit.int .u8 n).wf = true) : 0 ≤ n ∧ n ≤ 255 := by
 simp [Lit.wf, IntKind.min, IntKind.max, IntKind.signed, IntKind.bits] at h
 omega
instance : Inhabited PieceV := ⟨⟨false, none, 0, 0, []⟩⟩
theorem list_lt {α : Type} [Inhabited α] {n : Nat} {p : Nat → α → Prop} (h : ∀ i, i < n → ∃ x, p i x) : ∃ l : List α, l.length = n ∧ ∀ i (hi : i < l.length), p i l[i] := by
 obtain ⟨f, hf⟩ := choose_lt h
 refine ⟨(List.range n).map f, by simp, fun i hi => ?_⟩
 have : i < n := by simpa using hi
 simpa using hf i this
section
variable {H : Type} {enc : TypeId × Value → H} {W : World} {spare : Nat → Bool} {held : Bool} {fuel : Nat}
theorem open_intsQ {cs : List Value} {x : DataW H × List MemPlace} (h : DataW.trod enc Tryz.prog W 0 spare held fuel 65 cs = some x) :
  ∃ (A : Option Addr) (n c : Nat) (l : List Int), cs = [.slice A n c] ∧ IntsQ W W.heap.size A n c l ∧ ∀ m ∈ l, (Lit.int .i64 m).wf = true := by
 rcases open_ints Tryz.underlying65 Tryz.underlying3 (by kernel_rfl) h with ⟨rfl, -⟩ | ⟨a, len, cap, zs, rfl, -, hl, hm, hz, -, hc, hw⟩
 ·exact ⟨none, 0, 0, [], rfl, Rq.empty _ _ _ _, fun _ h => by cases h⟩
 ·have hlz : len ≤ zs.length := by rw [hz]; split <;> omega
  have hlen : (zs.take len).length = len := by rw [List.length_take]; omega
  refine ⟨some a, len, cap, zs.take len, rfl, ⟨by simp; omega, hl, hm, ?_⟩, fun m hm => hw m (List.mem_of_mem_take hm)⟩
  rcases Nat.eq_zero_or_pos len with h0 | h0
  ·exact .inl h0
  ·have hb := World.block_lt_of_cell? _ _ (hc 0 (by omega))
   rw [addr_block] at hb
   refine .inr ⟨a, rfl, hb, fun j u hu => ?_⟩
   have hj : j < len := by
    rcases Nat.lt_or_ge j len with h1 | h1
    ·exact h1
    ·rw [List.getElem?_eq_none (by simp; omega)] at hu; cases hu
   rw [hc j (by omega)]
   rw [List.getElem?_map, List.getElem?_take_of_lt hj, List.getElem?_eq_getElem (by omega)] at hu
   simp only [Option.map_some, Option.some.injEq] at hu
   rw [← hu, List.getD_eq_getElem?_getD, List.getElem?_eq_getElem (by omega), Option.getD_some]
theorem open_piecesQ {cs : List Value} {x : DataW H × List MemPlace} (h : DataW.trod enc Tryz.prog W 0 spare held fuel 22 cs = some x) :
  ∃ (A : Option Addr) (n c : Nat) (l : List PieceV), cs = [.slice A n c] ∧ PiecesQ W W.heap.size A n c l ∧ ∀ p ∈ l, ∀ m ∈ p.ms, (Lit.int .i64 m).wf = true := by
 rcases open_slice_pairs Tryz.underlying22 Tryz.underlying96 (by kernel_rfl) rfl rfl (by kernel_rfl) (by kernel_rfl) h with ⟨rfl, -⟩ | ⟨a, len, cap, m, n, V0, V1, D0, D1, P0, P1, rfl, -, hl, hm, hmm, -, hx⟩
 ·exact ⟨none, 0, 0, [], rfl, ⟨Rq.empty _ _ _ _, fun _ h => by cases h⟩, fun _ h => by cases h⟩
 ·have hlm : len ≤ m := by rw [hmm]; split <;> omega
  obtain ⟨l, hlen, hq⟩ := list_lt (α := PieceV) (n := len) (p := fun i p => W.cell? (a.add (i * 2)) = some (.bool p.minus) ∧ W.cell? (a.add (i * 2 + 1)) = some (.slice p.A p.n p.c) ∧ IntsQ W W.heap.size p.A p.n p.c p.ms ∧ ∀ m ∈ p.ms, (Lit.int .i64 m).wf = true) (fun i hi => by
   obtain ⟨h0, h1, t0, t1⟩ := hx i (by omega)
   obtain ⟨b, e0, -⟩ := DataW.trod_bool Tryz.underlying4 t0
   obtain ⟨A, n, c, ms, e1, hI, hw⟩ := open_intsQ t1
   injection e0 with e0
   injection e1 with e1
   exact ⟨⟨b, A, n, c, ms⟩, by rw [h0, e0], by rw [h1, e1], hI, hw⟩)
  refine ⟨some a, len, cap, l, rfl, ⟨⟨by rw [cells2_length, List.length_map, hlen], hl, hm, ?_⟩, fun p hp => ?_⟩, fun p hp => ?_⟩
  ·rcases Nat.eq_zero_or_pos len with h0 | h0
   ·exact .inl h0
   ·have hb := World.block_lt_of_cell? _ _ (hq 0 (by omega)).1
    rw [addr_block] at hb
    refine .inr ⟨a, rfl, hb, fun j u hu => ?_⟩
    have hj : j < len * 2 := by
     rcases Nat.lt_or_ge j (len * 2) with h1 | h1
     ·exact h1
     ·rw [List.getElem?_eq_none (by rw [cells2_length, List.length_map]; omega)] at hu; cases hu
    have hi : j / 2 < (l.map PieceV.enc).length := by simp; omega
    obtain ⟨g0, g1⟩ := cells2_get (l.map PieceV.enc) (j / 2) hi
    obtain ⟨c0, c1, -⟩ := hq (j / 2) (by omega)
    rw [List.getElem_map] at g0 g1
    rcases Nat.mod_two_eq_zero_or_one j with h2 | h2
    ·rw [show j / 2 * 2 = j by omega] at g0 c0
     rw [g0] at hu
     injection hu with hu
     rw [c0, ← hu]
     rfl
    ·rw [show j / 2 * 2 + 1 = j by omega] at g1 c1
     rw [g1] at hu
     injection hu with hu
     rw [c1, ← hu]
     rfl
  ·obtain ⟨i, hi, rfl⟩ := List.mem_iff_getElem.1 hp
   exact (hq i hi).2.2.1
  ·obtain ⟨i, hi, rfl⟩ := List.mem_iff_getElem.1 hp
   exact (hq i hi).2.2.2
set_option maxRecDepth 100000 in
theorem open_old {r : Reach} {b0 : Nat} {v : Value} {d : DataW H} {p : List MemPlace} (hv : Value.okWide Tryz.prog W r b0 24 v) (h : DataW.Trod enc Tryz.prog W 0 spare held 24 v d p) :
  ∃ (wh : Int) (A : Option Addr) (n c : Nat) (l : List PieceV), v = .agg #[.int .i64 wh, .slice A n c] ∧ PiecesQ W W.heap.size A n c l ∧ (Lit.int .i64 wh).wf = true ∧ ∀ p ∈ l, ∀ m ∈ p.ms, (Lit.int .i64 m).wf = true := by
 obtain ⟨v0, v1, y0, y1, m, rfl, -, -, h0, h1⟩ := open_agg2 Tryz.underlying24 (by kernel_rfl) (by kernel_rfl) hv h
 obtain ⟨wh, e0, -, w0⟩ := DataW.trod_int Tryz.underlying3 h0
 obtain ⟨A, n, c, l, e1, hP, hw⟩ := open_piecesQ h1
 injection e0 with e0
 injection e1 with e1
 exact ⟨wh, A, n, c, l, by rw [e0, e1], hP, w0, hw⟩
end
end Go.Proofs.YtpibgijgnnmccaaGreatDoor
namespace Go.Proofs.YtpibgijgnnmccaaGreatDoor
open Go.Proofs.YtpibgijgnnmccaaGreatDoor
theorem both {a b : Bool} (ha : a = true) (hb : b = true) : (a && b) = true := by rw [ha, hb]; rfl
theorem k_lay : laidOutB Tryz.pinned.checked.prog = true := by kernel_rfl
theorem k_rowed : mapsRowed Tryz.pinned.checked.prog = true := by kernel_rfl
theorem k_keys : ((OpenClaim.plainKeys Rows.cordCorrectsRow) == Tryz.pinned.checked.prog.plainKeys) = true := by kernel_rfl
theorem k_heard : Tryz.pinned.checked.prog.stopsHeard = true := by kernel_rfl
theorem k_may : Tryz.pinned.checked.prog.mayEnter = true := by kernel_rfl
theorem k_lift : (Rows.cordCorrectsRow.lifted == Tryz.pinned.checked.prog.liftsFinal) = true := by kernel_rfl
theorem k_make : (Tryz.pinned.checked.prog.make == some Rows.cordCorrectsRow.make) = true := by kernel_rfl
theorem k_main : Tryz.pinned.checked.prog.mainIs = some (Rows.cordCorrectsCard.stood.harness.1, Rows.cordCorrectsCard.stood.harness.2.toList) := by kernel_rfl
end Go.Proofs.YtpibgijgnnmccaaGreatDoor
