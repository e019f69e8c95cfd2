/-
  chitilaw02.CordCompares returns true for every input, and its arguments read afterwards as before; the package's variables that it reads hold what the program's text lays.
-/
import Derived.Test.YtaacnbnmlfhnaaaGreatDoorCards
import Derived.Test.YtaacnbnmlfhnaaaGreatDoorTie
import Derived.Test.YtaacnbnmlfhnaaaGreatDoorLawDToLawE
import Derived.Test.YtaacnbnmlfhnaaaGreatDoorCardA
set_option linter.unusedVariables false
set_option linter.unusedSimpArgs false
namespace Go.Proofs.YtaacnbnmlfhnaaaGreatDoor
open Go.ChangeShapes Go.WideShapes Go.ChangeAt Go.RowKit Go.Proofs.YtaacnbnmlfhnaaaGreatDoor

theorem cmp_own : ownKnob Tryz.prog.godebug = none := by kernel_rfl
theorem cmp_arr : Go.WideMaps.ArrKey Tryz.prog 73 3 2 := ⟨Tryz.underlying73, by kernel_rfl, by kernel_rfl, by kernel_rfl⟩

theorem cmp_vars {W : World} (h : laidMetH Tryz.prog Rows.cordComparesRow.laid W) : ErrVars W ∧ Lib.TabIs Tryz.prog W "internal/strconv.uint64pow10" .u64 Lib.pow10Tab := by
  rw [MakeChecks.laidMetH_plain _ _ _ (by kernel_rfl)] at h
  exact varsOf h.tail.tail

set_option maxRecDepth 100000 in
theorem cmp_contract (H : Type) (enc : TypeId × Value → H) (W : World) (base : Nat) (args : Array Value) (ds gs : List (DataW H)) (before : List MemPlace)
    (hval : ∀ (j : Nat) t v, Tryz.f10.params[j]? = some t → args[j]? = some v → Value.okWide Tryz.prog W .any base t v)
    (hW : DataW.Whole enc Tryz.prog Tryz.f10.params.toList Rows.cordComparesSpec.vars false W args.toList ds gs before) (hL : laidMetH Tryz.prog Rows.cordComparesRow.laid W) :
    Calls Tryz.prog 10 args W fun e W' => ∃ v, e = .returned v ∧ Rows.cordComparesSpec.post enc Tryz.prog Tryz.f10 false true false false W args v W' := by
  have hW' := hW
  obtain ⟨p, q, hA0, hV, rfl, hfz, hnd⟩ := hW
  have hA : DataW.TrodAll enc Tryz.prog W 0 (fun _ => true) true Tryz.f10.params.toList args.toList ds p := hA0
  rw [Tryz.params10] at hA hval
  obtain ⟨v0, vs0, d0, ds0, p0, q0, hargs, rfl, rfl, h0, r0⟩ := trodAll_cons hA
  obtain ⟨v1, vs1, d1, ds1, p1, q1, hargs1, rfl, rfl, h1, r1⟩ := trodAll_cons r0
  obtain ⟨rfl, rfl, rfl⟩ := trodAll_nil r1
  obtain rfl : args = #[v0, v1] := by cases args; simp_all
  obtain ⟨rfl, rfl⟩ := trodVars_none hV
  obtain ⟨a, b, rfl, rfl, rfl, wa, wb⟩ := Go.WideMaps.open_pair cmp_arr Tryz.underlying3 (hval 0 _ _ rfl rfl) h0
  obtain ⟨c, d, rfl, rfl, rfl, wc, wd⟩ := Go.WideMaps.open_pair cmp_arr Tryz.underlying3 (hval 1 _ _ rfl rfl) h1
  clear hA0
  simp only [List.append_nil] at hW'
  obtain ⟨hE, hT⟩ := cmp_vars hL
  refine (compares_any a b c d W (wfI wa) (wfI wb) (wfI wc) (wfI wd) hE hT).mono fun e W' ⟨he, hb⟩ => ?_
  subst he
  refine ⟨_, rfl, _, _, _, [], [], [], hW', ?_, ?_, rfl, hb.frame _, fun h => by cases h⟩
  · exact trodAll_mk1 (shut_bool Tryz.underlying4 _)
  · exact trodAll_cons_mk (Go.WideMaps.shut_pair cmp_arr Tryz.underlying3 wa wb) (trodAll_cons_mk (Go.WideMaps.shut_pair cmp_arr Tryz.underlying3 wc wd) trodAll_mk0)

theorem cmp_laid (os : Os) : laidMet Tryz.prog Rows.cordComparesRow.laid ((World.doorLaid Tryz.prog 400 os).forCall (fun _ _ => 0) ⟨#[], #[.agg #[.int .i64 0, .int .i64 0], .agg #[.int .i64 0, .int .i64 0]], []⟩).memory :=
  laidMet_of_run' 8 (by kernel_rfl) (by kernel_rfl)
theorem cmp_reads (os : Os) {H : Type} (enc : TypeId × Value → H) : ∃ places, DataW.whole enc Tryz.prog ((World.doorLaid Tryz.prog 400 os).forCall (fun _ _ => 0) ⟨#[], #[.agg #[.int .i64 0, .int .i64 0], .agg #[.int .i64 0, .int .i64 0]], []⟩).memory Tryz.f10.params.toList Rows.cordComparesSpec.vars false #[Value.agg #[.int .i64 0, .int .i64 0], .agg #[.int .i64 0, .int .i64 0]].toList 8 = some ([.agg [.lit (.int .i64 0), .lit (.int .i64 0)], .agg [.lit (.int .i64 0), .lit (.int .i64 0)]], [], places) :=
  ⟨[], by kernel_rfl⟩

set_option maxRecDepth 100000 in
theorem cmp_lifted (os : Os) (started : os.Started) (H : Type) (enc : TypeId × Value → H) (F : Stop.Interp) :
    ReturnsInHanded {} Tryz.checked os 10 .any ((OpenSpec.ofChange Rows.cordComparesSpec).preRow enc Tryz.prog Tryz.f10 Rows.cordComparesRow.domain false Rows.cordComparesRow.laid) (((OpenSpec.ofChange Rows.cordComparesSpec).at F).post enc Tryz.prog Tryz.f10 false true false false) := by
  obtain ⟨places, hx⟩ := cmp_reads os enc
  refine returnsInHanded_of_row (C := Tryz.checked) (s := OpenSpec.ofChange Rows.cordComparesSpec) cmp_own started (by kernel_rfl) Tryz.func10
    (witness_row_at (enc := enc) (C := Tryz.checked) false (World.doorLaid Tryz.prog 400 os) #[.agg #[.int .i64 0, .int .i64 0], .agg #[.int .i64 0, .int .i64 0]] rfl (by kernel_rfl) (by kernel_rfl) (by kernel_rfl)
      (OpenSpec.preRow_of_cond 8 hx (by kernel_rfl) (fun k hk => by cases hk) (by kernel_rfl) (cmp_laid os))) ?_
  intro W base args ds gs before hval hW _ _ _ hL _ _
  exact cmp_contract H enc W base args ds gs before hval hW hL

theorem cmp_said : Rows.CordComparesSaid :=
  OpenClaim.holds_of_cond 10 Tryz.f10 rfl rfl rfl rfl rfl rfl rfl ⟨rfl, rfl, rfl, rfl, rfl⟩ rfl rfl rfl rfl rfl (by kernel_rfl) Tryz.func10 (by kernel_rfl)
    (of_decide_eq_true (by kernel_rfl)) (by unfold Func.isWrapper; first | (rw [if_pos (by decide +kernel)]; kernel_rfl) | (rw [if_neg (by decide +kernel)]; exact ⟨rfl, rfl⟩))
    (fun os started H enc _ F => by rw [OpenClaim.pre_eq_preRow]; exact cmp_lifted os started H enc F)

theorem cmp_plain (f : FuncId) (fn : Func) (hf : Tryz.pinned.checked.prog.funcNamed "chiti/chitilaw02.CordCompares" = some f) (hfn : Tryz.pinned.checked.prog.funcs[f]? = some fn) :
    Rows.cordComparesCard.stood.looks = Tryz.pinned.checked.prog.looks [] ∧ ∀ (j : Nat) t, fn.params[j]? = some t → Tryz.pinned.checked.prog.wantsStandIn t = false := by
  obtain rfl : f = 10 := Option.some.inj ((show Tryz.prog.funcNamed "chiti/chitilaw02.CordCompares" = some 10 by kernel_rfl).symm.trans hf) |>.symm
  obtain rfl : fn = Tryz.f10 := (Option.some.inj (Tryz.func10.symm.trans hfn)).symm
  refine ⟨by kernel_rfl, fun j t ht => ?_⟩
  rw [Tryz.params10] at ht
  have hm : t ∈ [73, 73] := by simpa using Array.mem_of_getElem? ht
  have hall : ([73, 73].all fun u => !Tryz.prog.wantsStandIn u) = true := by kernel_rfl
  exact (show Tryz.prog.wantsStandIn t = false by simpa using List.all_eq_true.1 hall t hm)

theorem cordCompares_holds : Rows.CordComparesCardSaid :=
  Claim7.holds_tied_plain_at .later [] _ _ _ _ cmp_said (fun _ h => by cases h) (by kernel_rfl) (fun _ h => by cases h) cordCompares_row_tie rfl ⟨rfl, rfl⟩ (by kernel_rfl) rfl cmp_plain (by kernel_rfl)
#print axioms cordCompares_holds
end Go.Proofs.YtaacnbnmlfhnaaaGreatDoor
