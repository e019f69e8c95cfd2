/-
  chitilaw02.CordNears returns true for every input, and its arguments read afterwards as before; the package's variables that it reads hold what the program's text lays.
-/
import Derived.Test.YtaacnbnmlfhnaaaGreatDoorCards
import Derived.Test.YtaacnbnmlfhnaaaGreatDoorTie
import Derived.Test.YtaacnbnmlfhnaaaGreatDoorLawG
import Derived.Test.YtaacnbnmlfhnaaaGreatDoorCardA
set_option linter.unusedVariables false
set_option linter.unusedSimpArgs false
namespace Go.Proofs.YtaacnbnmlfhnaaaGreatDoor
open Go.ChangeShapes Go.WideShapes Go.ChangeAt Go.RowKit Go.Proofs.YtaacnbnmlfhnaaaGreatDoor

theorem nrs_own : ownKnob Tryz.prog.godebug = none := by kernel_rfl

theorem nrs_vars {W : World} (h : laidMetH Tryz.prog Rows.cordNearsRow.laid W) : ErrVars W ∧ Lib.TabIs Tryz.prog W "internal/strconv.uint64pow10" .u64 Lib.pow10Tab := by
  rw [MakeChecks.laidMetH_plain _ _ _ (by kernel_rfl)] at h
  exact varsOf h.tail.tail

set_option maxRecDepth 100000 in
theorem nrs_contract (H : Type) (enc : TypeId × Value → H) (W : World) (base : Nat) (args : Array Value) (ds gs : List (DataW H)) (before : List MemPlace)
    (hval : ∀ (j : Nat) t v, Tryz.f8.params[j]? = some t → args[j]? = some v → Value.okWide Tryz.prog W .any base t v)
    (hW : DataW.Whole enc Tryz.prog Tryz.f8.params.toList Rows.cordNearsSpec.vars false W args.toList ds gs before) (hL : laidMetH Tryz.prog Rows.cordNearsRow.laid W) :
    Calls Tryz.prog 8 args W fun e W' => ∃ v, e = .returned v ∧ Rows.cordNearsSpec.post enc Tryz.prog Tryz.f8 false true false false W args v W' := by
  have hW' := hW
  obtain ⟨p, q, hA0, hV, rfl, hfz, hnd⟩ := hW
  have hA : DataW.TrodAll enc Tryz.prog W 0 (fun _ => true) true Tryz.f8.params.toList args.toList ds p := hA0
  rw [Tryz.params8] at hA hval
  obtain ⟨v0, vs0, d0, ds0, p0, q0, hargs0, rfl, rfl, h0, r0⟩ := trodAll_cons hA
  obtain ⟨v1, vs1, d1, ds1, p1, q1, hargs1, rfl, rfl, h1, r1⟩ := trodAll_cons r0
  obtain ⟨rfl, rfl, rfl⟩ := trodAll_nil r1
  obtain rfl : args = #[v0, v1] := by cases args; simp_all
  obtain ⟨rfl, rfl⟩ := trodVars_none hV
  obtain ⟨a0, rfl, rfl, rfl, wa0⟩ := open_int Tryz.underlying3 (hval 0 _ _ rfl rfl) h0
  obtain ⟨a1, rfl, rfl, rfl, wa1⟩ := open_int Tryz.underlying3 (hval 1 _ _ rfl rfl) h1
  clear hA0
  simp only [List.append_nil] at hW'
  obtain ⟨hE, hT⟩ := nrs_vars hL
  refine (nears_any a0 a1 W (wfI wa0) (wfI wa1) hE hT).mono fun e W' ⟨he, hb⟩ => ?_
  subst he
  refine ⟨_, rfl, _, _, _, [], [], [], hW', ?_, ?_, rfl, hb.frame _, fun h => by cases h⟩
  · exact trodAll_mk1 (shut_bool Tryz.underlying4 _)
  · exact trodAll_cons_mk (shut_int Tryz.underlying3 wa0) (trodAll_cons_mk (shut_int Tryz.underlying3 wa1) trodAll_mk0)

theorem nrs_laid (os : Os) : laidMet Tryz.prog Rows.cordNearsRow.laid ((World.doorLaid Tryz.prog 400 os).forCall (fun _ _ => 0) ⟨#[], #[.int .i64 0, .int .i64 0], []⟩).memory :=
  laidMet_of_run' 8 (by kernel_rfl) (by kernel_rfl)
theorem nrs_reads (os : Os) {H : Type} (enc : TypeId × Value → H) : ∃ places, DataW.whole enc Tryz.prog ((World.doorLaid Tryz.prog 400 os).forCall (fun _ _ => 0) ⟨#[], #[.int .i64 0, .int .i64 0], []⟩).memory Tryz.f8.params.toList Rows.cordNearsSpec.vars false #[Value.int .i64 0, .int .i64 0].toList 8 = some ([.lit (.int .i64 0), .lit (.int .i64 0)], [], places) :=
  ⟨[], by kernel_rfl⟩

set_option maxRecDepth 100000 in
theorem nrs_lifted (os : Os) (started : os.Started) (H : Type) (enc : TypeId × Value → H) (F : Stop.Interp) :
    ReturnsInHanded {} Tryz.checked os 8 .any ((OpenSpec.ofChange Rows.cordNearsSpec).preRow enc Tryz.prog Tryz.f8 Rows.cordNearsRow.domain false Rows.cordNearsRow.laid) (((OpenSpec.ofChange Rows.cordNearsSpec).at F).post enc Tryz.prog Tryz.f8 false true false false) := by
  obtain ⟨places, hx⟩ := nrs_reads os enc
  refine returnsInHanded_of_row (C := Tryz.checked) (s := OpenSpec.ofChange Rows.cordNearsSpec) nrs_own started (by kernel_rfl) Tryz.func8
    (witness_row_at (enc := enc) (C := Tryz.checked) false (World.doorLaid Tryz.prog 400 os) #[.int .i64 0, .int .i64 0] rfl (by kernel_rfl) (by kernel_rfl) (by kernel_rfl)
      (OpenSpec.preRow_of_cond 8 hx (by kernel_rfl) (fun k hk => by cases hk) (by kernel_rfl) (nrs_laid os))) ?_
  intro W base args ds gs before hval hW _ _ _ hL _ _
  exact nrs_contract H enc W base args ds gs before hval hW hL

theorem nrs_said : Rows.CordNearsSaid :=
  OpenClaim.holds_of_cond 8 Tryz.f8 rfl rfl rfl rfl rfl rfl rfl ⟨rfl, rfl, rfl, rfl, rfl⟩ rfl rfl rfl rfl rfl (by kernel_rfl) Tryz.func8 (by kernel_rfl)
    (of_decide_eq_true (by kernel_rfl)) (by unfold Func.isWrapper; first | (rw [if_pos (by decide +kernel)]; kernel_rfl) | (rw [if_neg (by decide +kernel)]; exact ⟨rfl, rfl⟩))
    (fun os started H enc _ F => by rw [OpenClaim.pre_eq_preRow]; exact nrs_lifted os started H enc F)

theorem nrs_plain (f : FuncId) (fn : Func) (hf : Tryz.pinned.checked.prog.funcNamed "chiti/chitilaw02.CordNears" = some f) (hfn : Tryz.pinned.checked.prog.funcs[f]? = some fn) :
    Rows.cordNearsCard.stood.looks = Tryz.pinned.checked.prog.looks [] ∧ ∀ (j : Nat) t, fn.params[j]? = some t → Tryz.pinned.checked.prog.wantsStandIn t = false := by
  obtain rfl : f = 8 := Option.some.inj ((show Tryz.prog.funcNamed "chiti/chitilaw02.CordNears" = some 8 by kernel_rfl).symm.trans hf) |>.symm
  obtain rfl : fn = Tryz.f8 := (Option.some.inj (Tryz.func8.symm.trans hfn)).symm
  refine ⟨by kernel_rfl, fun j t ht => ?_⟩
  rw [Tryz.params8] at ht
  have hm : t ∈ [3, 3] := by simpa using Array.mem_of_getElem? ht
  have hall : ([3, 3].all fun u => !Tryz.prog.wantsStandIn u) = true := by kernel_rfl
  exact (show Tryz.prog.wantsStandIn t = false by simpa using List.all_eq_true.1 hall t hm)

theorem cordNears_holds : Rows.CordNearsCardSaid :=
  Claim7.holds_tied_plain_at .later [] _ _ _ _ nrs_said (fun _ h => by cases h) (by kernel_rfl) (fun _ h => by cases h) cordNears_row_tie rfl ⟨rfl, rfl⟩ (by kernel_rfl) rfl nrs_plain (by kernel_rfl)
#print axioms cordNears_holds
end Go.Proofs.YtaacnbnmlfhnaaaGreatDoor
