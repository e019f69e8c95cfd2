import Derived.Test.YthkblgglmohciaaGreatDoorCom
import Derived.Stop.LaidErr
import Derived.Lib.LaidTab
import Derived.LaidMore
import Derived.ProofKit
import Derived.OpenShut
import Derived.WideKeyPair
import Derived.Stop.Joined
import Derived.Deep.DeepHandedRow
import Derived.Test.YthkblgglmohciaaGreatDoorBaseToHead
import Derived.Deep.SlicePairs
import Derived.Lib.SmallJoins
import Derived.Test.YthkblgglmohciaaGreatDoorCards
import Derived.Test.YthkblgglmohciaaGreatDoorTie
import Derived.Carry
set_option linter.unusedVariables false
set_option linter.unusedSimpArgs false
namespace Go.Proofs.YthkblgglmohciaaGreatDoor
open Go.ChangeShapes Go.WideShapes Go.ChangeAt Go.RowKit
def errL (n : String) (l : List UInt8) : String × DataW Unit := (n, .iface "*errors.errorString" (.ptr (.agg [.lit (.string l)])))
def rangeText : List UInt8 := [118, 97, 108, 117, 101, 32, 111, 117, 116, 32, 111, 102, 32, 114, 97, 110, 103, 101]
def syntaxText : List UInt8 := [105, 110, 118, 97, 108, 105, 100, 32, 115, 121, 110, 116, 97, 120]
theorem Tryz.star : "*" ++ "errors.errorString" = "*errors.errorString" := by decide
theorem Tryz.rowErr (u : TypeId) (h : Tryz.prog.typeName? 3 u = some "*errors.errorString") : u = 213 :=
 typeName_ptr_named (nm := "errors.errorString") (by rw [Tryz.star]; kernel_rfl) (by kernel_rfl) (by decide) u (by rw [Tryz.star]; exact h)
theorem Tryz.gRange : Tryz.prog.globalNamed "strconv.ErrRange" = some 2 := by kernel_rfl
theorem Tryz.gRangeT : (Tryz.prog.globals[2]?).map (·.type) = some 120 := by kernel_rfl
theorem Tryz.gSyntax : Tryz.prog.globalNamed "strconv.ErrSyntax" = some 1 := by kernel_rfl
theorem Tryz.gSyntaxT : (Tryz.prog.globals[1]?).map (·.type) = some 120 := by kernel_rfl
theorem Tryz.gPow : Tryz.prog.globalNamed "internal/strconv.uint64pow10" = some 5 := by kernel_rfl
theorem Tryz.gPowT : (Tryz.prog.globals[5]?).map (·.type) = some 210 := by kernel_rfl
theorem Tryz.errField : ∃ f : Field, Tryz.prog.underlying 215 = some (.struct #[f]) ∧ f.type = 9 ∧ f.offset = 0 := ⟨_, Tryz.underlying215, rfl, rfl⟩
theorem Tryz.cellsErr : Tryz.prog.cellsOf 215 = 1 := by kernel_rfl
theorem Tryz.cellsStr : Tryz.prog.cellsOf 9 = 1 := by kernel_rfl
theorem Tryz.cellsPow : Tryz.prog.cellsOf 210 = 20 := by kernel_rfl
theorem Tryz.cellsU64 : Tryz.prog.cellsOf 143 = 1 := by kernel_rfl
theorem varsOf {W : World} {r : List (String × DataW Unit)} (h : laidMet Tryz.prog (("internal/strconv.uint64pow10", Lib.tabData .u64 Lib.pow10Tab) :: errL "strconv.ErrRange" rangeText :: errL "strconv.ErrSyntax" syntaxText :: r) W) :
  ErrVars W ∧ Lib.TabIs Tryz.prog W "internal/strconv.uint64pow10" .u64 Lib.pow10Tab := by
 obtain ⟨f, hf, hft, hfo⟩ := Tryz.errField
 obtain ⟨a1, s1, hv1, -, -, -⟩ := laid_sentinel h.tail Tryz.gRange Tryz.gRangeT Tryz.underlying120 Tryz.rowErr Tryz.underlying213 hf hft hfo Tryz.underlying9 Tryz.cellsErr Tryz.cellsStr
 obtain ⟨a2, s2, hv2, -, -, -⟩ := laid_sentinel h.tail.tail Tryz.gSyntax Tryz.gSyntaxT Tryz.underlying120 Tryz.rowErr Tryz.underlying213 hf hft hfo Tryz.underlying9 Tryz.cellsErr Tryz.cellsStr
 exact ⟨⟨_, _, _, _, hv2, hv1⟩, Lib.tabIs_of_head Tryz.gPow Tryz.gPowT Tryz.underlying210 Tryz.underlying143 Tryz.cellsU64 Tryz.cellsPow h⟩
theorem varsOf2 {W : World} {q : String × DataW Unit} {r : List (String × DataW Unit)} (h : laidMet Tryz.prog (("internal/strconv.uint64pow10", Lib.tabData .u64 Lib.pow10Tab) :: q :: errL "strconv.ErrRange" rangeText :: errL "strconv.ErrSyntax" syntaxText :: r) W) :
  ErrVars W ∧ Lib.TabIs Tryz.prog W "internal/strconv.uint64pow10" .u64 Lib.pow10Tab := by
 obtain ⟨f, hf, hft, hfo⟩ := Tryz.errField
 obtain ⟨a1, s1, hv1, -, -, -⟩ := laid_sentinel h.tail.tail Tryz.gRange Tryz.gRangeT Tryz.underlying120 Tryz.rowErr Tryz.underlying213 hf hft hfo Tryz.underlying9 Tryz.cellsErr Tryz.cellsStr
 obtain ⟨a2, s2, hv2, -, -, -⟩ := laid_sentinel h.tail.tail.tail Tryz.gSyntax Tryz.gSyntaxT Tryz.underlying120 Tryz.rowErr Tryz.underlying213 hf hft hfo Tryz.underlying9 Tryz.cellsErr Tryz.cellsStr
 exact ⟨⟨_, _, _, _, hv2, hv1⟩, Lib.tabIs_of_head Tryz.gPow Tryz.gPowT Tryz.underlying210 Tryz.underlying143 Tryz.cellsU64 Tryz.cellsPow h⟩
theorem wfI {n : Int} (h : (Lit.int .i64 n).wf = true) : -9223372036854775808 ≤ n ∧ n ≤ 9223372036854775807 := by
 simp [Lit.wf, IntKind.min, IntKind.max, IntKind.signed, IntKind.bits] at h
 omega
end Go.Proofs.YthkblgglmohciaaGreatDoor
namespace Go.Proofs.YthkblgglmohciaaGreatDoor
open Go.ChangeShapes Go.WideShapes Go.ChangeAt Go.RowKit Go.Joins Go.Deep
theorem wf16 {n : Int} (h : (Lit.int .u16 n).wf = true) : 0 ≤ n ∧ n ≤ 65535 := by
 simp [Lit.wf, IntKind.min, IntKind.max, IntKind.signed, IntKind.bits] at h
 omega
theorem wf8 {n : Int} (h : (Lit.int .u8 n).wf = true) : 0 ≤ n ∧ n ≤ 255 := by
 simp [Lit.wf, IntKind.min, IntKind.max, IntKind.signed, IntKind.bits] at h
 omega
theorem list_lt {α : Type} [Inhabited α] {n : Nat} {p : Nat → α → Prop} (h : ∀ i, i < n → ∃ x, p i x) : ∃ l : List α, l.length = n ∧ ∀ i (hi : i < l.length), p i l[i] := by
 obtain ⟨f, hf⟩ := choose_lt h
 refine ⟨(List.range n).map f, by simp, fun i hi => ?_⟩
 have : i < n := by simpa using hi
 simpa using hf i this
end Go.Proofs.YthkblgglmohciaaGreatDoor
namespace Go.Proofs.YthkblgglmohciaaGreatDoor
open Go.Proofs.YthkblgglmohciaaGreatDoor
theorem both {a b : Bool} (ha : a = true) (hb : b = true) : (a && b) = true := by rw [ha, hb]; rfl
theorem k_lay : laidOutB Tryz.pinned.checked.prog = true := by kernel_rfl
theorem k_rowed : mapsRowed Tryz.pinned.checked.prog = true := by kernel_rfl
theorem k_keys : ((OpenClaim.plainKeys Rows.surdRootsRow) == Tryz.pinned.checked.prog.plainKeys) = true := by kernel_rfl
theorem k_heard : Tryz.pinned.checked.prog.stopsHeard = true := by kernel_rfl
theorem k_may : Tryz.pinned.checked.prog.mayEnter = true := by kernel_rfl
theorem k_lift : (Rows.surdRootsRow.lifted == Tryz.pinned.checked.prog.liftsFinal) = true := by kernel_rfl
theorem k_make : (Tryz.pinned.checked.prog.make == some Rows.surdRootsRow.make) = true := by kernel_rfl
theorem k_main : Tryz.pinned.checked.prog.mainIs = some (Rows.surdRootsCard.stood.harness.1, Rows.surdRootsCard.stood.harness.2.toList) := by kernel_rfl
end Go.Proofs.YthkblgglmohciaaGreatDoor
