/-
  What the rows list of the package's variables, as the walks want it; and what a bool that is true gives the post.
-/
import Derived.Test.YtaacnbnmlfhnaaaGreatDoorCordSToCordV
import Derived.Stop.LaidErr
import Derived.Lib.LaidTab
import Derived.LaidMore
import Derived.ProofKit
import Derived.OpenShut
import Derived.WideKeyPair
import Derived.Stop.Joined
import Derived.Deep.DeepHandedRow
set_option linter.unusedVariables false
set_option linter.unusedSimpArgs false
namespace Go.Proofs.YtaacnbnmlfhnaaaGreatDoor
open Go.ChangeShapes Go.WideShapes Go.ChangeAt Go.RowKit

def errL (n : String) (l : List UInt8) : String × DataW Unit := (n, .iface "*errors.errorString" (.ptr (.agg [.lit (.string l)])))
def rangeText : List UInt8 := [118, 97, 108, 117, 101, 32, 111, 117, 116, 32, 111, 102, 32, 114, 97, 110, 103, 101]
def syntaxText : List UInt8 := [105, 110, 118, 97, 108, 105, 100, 32, 115, 121, 110, 116, 97, 120]

theorem Tryz.star : "*" ++ "errors.errorString" = "*errors.errorString" := by decide
theorem Tryz.rowErr (u : TypeId) (h : Tryz.prog.typeName? 3 u = some "*errors.errorString") : u = 260 :=
  typeName_ptr_named (nm := "errors.errorString") (by rw [Tryz.star]; kernel_rfl) (by kernel_rfl) (by decide) u (by rw [Tryz.star]; exact h)
theorem Tryz.gRange : Tryz.prog.globalNamed "strconv.ErrRange" = some 1 := by kernel_rfl
theorem Tryz.gRangeT : (Tryz.prog.globals[1]?).map (·.type) = some 161 := by kernel_rfl
theorem Tryz.gSyntax : Tryz.prog.globalNamed "strconv.ErrSyntax" = some 0 := by kernel_rfl
theorem Tryz.gSyntaxT : (Tryz.prog.globals[0]?).map (·.type) = some 161 := by kernel_rfl
theorem Tryz.gPow : Tryz.prog.globalNamed "internal/strconv.uint64pow10" = some 2 := by kernel_rfl
theorem Tryz.gPowT : (Tryz.prog.globals[2]?).map (·.type) = some 256 := by kernel_rfl
theorem Tryz.errField : ∃ f : Field, Tryz.prog.underlying 262 = some (.struct #[f]) ∧ f.type = 9 ∧ f.offset = 0 := ⟨_, Tryz.underlying262, rfl, rfl⟩
theorem Tryz.cellsErr : Tryz.prog.cellsOf 262 = 1 := by kernel_rfl
theorem Tryz.cellsStr : Tryz.prog.cellsOf 9 = 1 := by kernel_rfl
theorem Tryz.cellsPow : Tryz.prog.cellsOf 256 = 20 := by kernel_rfl
theorem Tryz.cellsU64 : Tryz.prog.cellsOf 206 = 1 := by kernel_rfl

/-- A condition that lists the three variables that the walks read. -/
theorem varsOf {W : World} {r : List (String × DataW Unit)} (h : laidMet Tryz.prog (("internal/strconv.uint64pow10", Lib.tabData .u64 Lib.pow10Tab) :: errL "strconv.ErrRange" rangeText :: errL "strconv.ErrSyntax" syntaxText :: r) W) :
    ErrVars W ∧ Lib.TabIs Tryz.prog W "internal/strconv.uint64pow10" .u64 Lib.pow10Tab := by
  obtain ⟨f, hf, hft, hfo⟩ := Tryz.errField
  obtain ⟨a1, s1, hv1, -, -, -⟩ := laid_sentinel h.tail Tryz.gRange Tryz.gRangeT Tryz.underlying161 Tryz.rowErr Tryz.underlying260 hf hft hfo Tryz.underlying9 Tryz.cellsErr Tryz.cellsStr
  obtain ⟨a2, s2, hv2, -, -, -⟩ := laid_sentinel h.tail.tail Tryz.gSyntax Tryz.gSyntaxT Tryz.underlying161 Tryz.rowErr Tryz.underlying260 hf hft hfo Tryz.underlying9 Tryz.cellsErr Tryz.cellsStr
  exact ⟨⟨_, _, _, _, hv2, hv1⟩, Lib.tabIs_of_head Tryz.gPow Tryz.gPowT Tryz.underlying256 Tryz.underlying206 Tryz.cellsU64 Tryz.cellsPow h⟩

theorem wfI {n : Int} (h : (Lit.int .i64 n).wf = true) : -9223372036854775808 ≤ n ∧ n ≤ 9223372036854775807 := by
  simp [Lit.wf, IntKind.min, IntKind.max, IntKind.signed, IntKind.bits] at h
  omega
end Go.Proofs.YtaacnbnmlfhnaaaGreatDoor
