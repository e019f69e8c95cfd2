import Derived.Test.YtloegjlknpioeaaGreatDoorCards
import Derived.Test.YtloegjlknpioeaaGreatDoorTie
import Derived.Test.YtloegjlknpioeaaGreatDoorExaE
import Derived.Test.YtloegjlknpioeaaGreatDoorCardAToCardB
import Derived.Carry
import Derived.Test.YtloegjlknpioeaaGreatDoorCardD
set_option linter.unusedVariables false
set_option linter.unusedSimpArgs false
namespace Go.Proofs.YtloegjlknpioeaaGreatDoor
open Go.ChangeShapes Go.WideShapes Go.ChangeAt Go.RowKit Go.Proofs.YtloegjlknpioeaaGreatDoor
theorem exact_own : ownKnob Tryz.prog.godebug = none := by kernel_rfl
theorem exact_out : laidOutB Tryz.prog = true := by kernel_rfl
theorem exact_vars {W : World} (h : laidMetH Tryz.prog Rows.cordExactRow.laid W) : ErrVars W ∧ Lib.TabIs Tryz.prog W "internal/strconv.uint64pow10" .u64 Lib.pow10Tab := by
 rw [MakeChecks.laidMetH_plain _ _ _ (by kernel_rfl)] at h
 exact varsOf h.tail.tail
set_option maxRecDepth 100000 in
theorem exact_contract (H : Type) (enc : TypeId × Value → H) (W : World) (base : Nat) (args : Array Value) (ds gs : List (DataW H)) (before : List MemPlace)
  (hval : ∀ (j : Nat) t v, Tryz.f8.params[j]? = some t → args[j]? = some v → Value.okWide Tryz.prog W .any base t v)
  (hW : DataW.Whole enc Tryz.prog Tryz.f8.params.toList Rows.cordExactSpec.vars false W args.toList ds gs before) (hL : laidMetH Tryz.prog Rows.cordExactRow.laid W) :
  Calls Tryz.prog 8 args W fun e W' => ∃ v, e = .returned v ∧ Rows.cordExactSpec.post enc Tryz.prog Tryz.f8 false true false false W args v W' := by
 have hW' := hW
 obtain ⟨p, q, hA0, hV, rfl, hfz, hnd⟩ := hW
 have hA : DataW.TrodAll enc Tryz.prog W 0 (fun _ => true) true Tryz.f8.params.toList args.toList ds p := hA0
 rw [Tryz.params8] at hA hval
 obtain ⟨v0, vs0, d0, ds0, p0, q0, hargs0, rfl, rfl, h0, r0⟩ := trodAll_cons hA
 obtain ⟨rfl, rfl, rfl⟩ := trodAll_nil r0
 obtain rfl : args = #[v0] := by cases args; simp_all
 obtain ⟨rfl, rfl⟩ := trodVars_none hV
 have k0 := h0
 obtain ⟨a0, b0, c0, e0, g0, rfl, wa0, wb0, wc0, we0, wg0⟩ := open_drawn (hval 0 _ _ rfl rfl) h0
 clear hA0
 simp only [List.append_nil, List.nil_append] at hW'
 obtain ⟨hE, hT⟩ := exact_vars hL
 refine (exact_any a0 b0 c0 e0 g0 W (wf8 wa0) (wf8 wb0) (wf8 wc0) (wf8 we0) (wf16 wg0) hE hT).mono fun e W' ⟨he, hb⟩ => ?_
 subst he
 refine ⟨_, rfl, _, _, _, [], p0 ++ [], [], hW', ?_, ?_, rfl, hb.frame _, fun h => by cases h⟩
 ·exact trodAll_mk1 (shut_bool Tryz.underlying4 _)
 ·exact trodAll_cons_mk (Below.trod exact_out (by kernel_rfl) (of_decide_eq_true (by kernel_rfl)) k0 hb (fun x hx => by simpa using hW'.lt x (by simp [hx]))) trodAll_mk0
theorem exact_laid (os : Os) : laidMet Tryz.prog Rows.cordExactRow.laid ((World.doorLaid Tryz.prog 400 os).forCall (fun _ _ => 0) ⟨#[], #[.agg #[.int .u8 0, .int .u8 0, .int .u8 0, .int .u8 0, .int .u16 0]], []⟩).memory :=
 laidMet_of_run' 8 (by kernel_rfl) (by kernel_rfl)
theorem exact_reads (os : Os) {H : Type} (enc : TypeId × Value → H) : ∃ places, DataW.whole enc Tryz.prog ((World.doorLaid Tryz.prog 400 os).forCall (fun _ _ => 0) ⟨#[], #[.agg #[.int .u8 0, .int .u8 0, .int .u8 0, .int .u8 0, .int .u16 0]], []⟩).memory Tryz.f8.params.toList Rows.cordExactSpec.vars false #[Value.agg #[.int .u8 0, .int .u8 0, .int .u8 0, .int .u8 0, .int .u16 0]].toList 8 = some ([.agg [.lit (.int .u8 0), .lit (.int .u8 0), .lit (.int .u8 0), .lit (.int .u8 0), .lit (.int .u16 0)]], [], places) :=
 ⟨[], by kernel_rfl⟩
set_option maxRecDepth 100000 in
theorem exact_lifted (os : Os) (started : os.Started) (H : Type) (enc : TypeId × Value → H) (F : Stop.Interp) :
  ReturnsInHanded {} Tryz.checked os 8 .any ((OpenSpec.ofChange Rows.cordExactSpec).preRow enc Tryz.prog Tryz.f8 Rows.cordExactRow.domain false Rows.cordExactRow.laid) (((OpenSpec.ofChange Rows.cordExactSpec).at F).post enc Tryz.prog Tryz.f8 false true false false) := by
 obtain ⟨places, hx⟩ := exact_reads os enc
 refine returnsInHanded_of_row (C := Tryz.checked) (s := OpenSpec.ofChange Rows.cordExactSpec) exact_own started (by kernel_rfl) Tryz.func8
  (witness_row_at (enc := enc) (C := Tryz.checked) false (World.doorLaid Tryz.prog 400 os) #[.agg #[.int .u8 0, .int .u8 0, .int .u8 0, .int .u8 0, .int .u16 0]] rfl (by kernel_rfl) (by kernel_rfl) (by kernel_rfl)
   (OpenSpec.preRow_of_cond 8 hx (by kernel_rfl) (fun k hk => by cases hk) (by kernel_rfl) (exact_laid os))) ?_
 intro W base args ds gs before hval hW _ _ _ hL _ _
 exact exact_contract H enc W base args ds gs before hval hW hL
theorem exact_said : Rows.CordExactSaid :=
 OpenClaim.holds_of_cond 8 Tryz.f8 rfl rfl rfl rfl rfl rfl rfl ⟨rfl, rfl, rfl, rfl, rfl⟩ rfl rfl rfl rfl rfl (by kernel_rfl) Tryz.func8 (by kernel_rfl)
  (of_decide_eq_true (by kernel_rfl)) (by unfold Func.isWrapper; first | (rw [if_pos (by decide +kernel)]; kernel_rfl) | (rw [if_neg (by decide +kernel)]; exact ⟨rfl, rfl⟩))
  (fun os started H enc _ F => by rw [OpenClaim.pre_eq_preRow]; exact exact_lifted os started H enc F)
theorem exact_plain (f : FuncId) (fn : Func) (hf : Tryz.pinned.checked.prog.funcNamed "chiti/chitilaw02.CordExact" = some f) (hfn : Tryz.pinned.checked.prog.funcs[f]? = some fn) :
  Rows.cordExactCard.stood.looks = Tryz.pinned.checked.prog.looks [] ∧ ∀ (j : Nat) t, fn.params[j]? = some t → Tryz.pinned.checked.prog.wantsStandIn t = false := by
 obtain rfl : f = 8 := Option.some.inj ((show Tryz.prog.funcNamed "chiti/chitilaw02.CordExact" = some 8 by kernel_rfl).symm.trans hf) |>.symm
 obtain rfl : fn = Tryz.f8 := (Option.some.inj (Tryz.func8.symm.trans hfn)).symm
 refine ⟨by kernel_rfl, fun j t ht => ?_⟩
 rw [Tryz.params8] at ht
 have hm : t ∈ [69] := by simpa using Array.mem_of_getElem? ht
 have hall : ([69].all fun u => !Tryz.prog.wantsStandIn u) = true := by kernel_rfl
 exact (show Tryz.prog.wantsStandIn t = false by simpa using List.all_eq_true.1 hall t hm)
theorem cordExact_holds : Rows.CordExactCardSaid :=
 Claim7.holds_tied_plain_at .later [] _ _ _ _ exact_said (fun _ h => by cases h) (by kernel_rfl) (fun _ h => by cases h) cordExact_row_tie rfl ⟨rfl, rfl⟩ (by kernel_rfl) rfl exact_plain (by kernel_rfl)
#print axioms cordExact_holds
end Go.Proofs.YtloegjlknpioeaaGreatDoor
