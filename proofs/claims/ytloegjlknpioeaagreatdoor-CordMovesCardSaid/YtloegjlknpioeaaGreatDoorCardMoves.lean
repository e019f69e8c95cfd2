import Derived.Test.YtloegjlknpioeaaGreatDoorCards
import Derived.Test.YtloegjlknpioeaaGreatDoorTie
import Derived.Test.YtloegjlknpioeaaGreatDoorMovAToMovD
import Derived.Test.YtloegjlknpioeaaGreatDoorCardAToCardB
import Derived.Carry
set_option linter.unusedVariables false
set_option linter.unusedSimpArgs false
namespace Go.Proofs.YtloegjlknpioeaaGreatDoor
open Go.ChangeShapes Go.WideShapes Go.ChangeAt Go.RowKit Go.Proofs.YtloegjlknpioeaaGreatDoor
theorem moves_own : ownKnob Tryz.prog.godebug = none := by kernel_rfl
theorem moves_arr : Go.WideMaps.ArrKey Tryz.prog 63 62 2 := ⟨Tryz.underlying63, by kernel_rfl, by kernel_rfl, by kernel_rfl⟩
theorem moves_vars {W : World} (h : laidMetH Tryz.prog Rows.cordMovesRow.laid W) : ErrVars W ∧ Lib.TabIs Tryz.prog W "internal/strconv.uint64pow10" .u64 Lib.pow10Tab := by
 rw [MakeChecks.laidMetH_plain _ _ _ (by kernel_rfl)] at h
 exact varsOf h.tail.tail
set_option maxRecDepth 100000 in
theorem moves_contract (H : Type) (enc : TypeId × Value → H) (W : World) (base : Nat) (args : Array Value) (ds gs : List (DataW H)) (before : List MemPlace)
  (hval : ∀ (j : Nat) t v, Tryz.f7.params[j]? = some t → args[j]? = some v → Value.okWide Tryz.prog W .any base t v)
  (hW : DataW.Whole enc Tryz.prog Tryz.f7.params.toList Rows.cordMovesSpec.vars false W args.toList ds gs before) (hL : laidMetH Tryz.prog Rows.cordMovesRow.laid W) :
  Calls Tryz.prog 7 args W fun e W' => ∃ v, e = .returned v ∧ Rows.cordMovesSpec.post enc Tryz.prog Tryz.f7 false true false false W args v W' := by
 have hW' := hW
 obtain ⟨p, q, hA0, hV, rfl, hfz, hnd⟩ := hW
 have hA : DataW.TrodAll enc Tryz.prog W 0 (fun _ => true) true Tryz.f7.params.toList args.toList ds p := hA0
 rw [Tryz.params7] at hA hval
 obtain ⟨v0, vs0, d0, ds0, p0, q0, hargs0, rfl, rfl, h0, r0⟩ := trodAll_cons hA
 obtain ⟨v1, vs1, d1, ds1, p1, q1, hargs1, rfl, rfl, h1, r1⟩ := trodAll_cons r0
 obtain ⟨v2, vs2, d2, ds2, p2, q2, hargs2, rfl, rfl, h2, r2⟩ := trodAll_cons r1
 obtain ⟨rfl, rfl, rfl⟩ := trodAll_nil r2
 obtain rfl : args = #[v0, v1, v2] := by cases args; simp_all
 obtain ⟨rfl, rfl⟩ := trodVars_none hV
 obtain ⟨a0, rfl, rfl, rfl, wa0⟩ := open_int Tryz.underlying62 (hval 0 _ _ rfl rfl) h0
 obtain ⟨a1, rfl, rfl, rfl, wa1⟩ := open_int Tryz.underlying62 (hval 1 _ _ rfl rfl) h1
 obtain ⟨a2, b2, rfl, rfl, rfl, wa2, wb2⟩ := Go.WideMaps.open_pair moves_arr Tryz.underlying62 (hval 2 _ _ rfl rfl) h2
 clear hA0
 simp only [List.append_nil] at hW'
 obtain ⟨hE, hT⟩ := moves_vars hL
 refine (moves_any a0 a1 a2 b2 W (wf16 wa0) (wf16 wa1) (wf16 wa2) (wf16 wb2) hE hT).mono fun e W' ⟨he, hb⟩ => ?_
 subst he
 refine ⟨_, rfl, _, _, _, [], [], [], hW', ?_, ?_, rfl, hb.frame _, fun h => by cases h⟩
 ·exact trodAll_mk1 (shut_bool Tryz.underlying4 _)
 ·exact trodAll_cons_mk (shut_int Tryz.underlying62 wa0) (trodAll_cons_mk (shut_int Tryz.underlying62 wa1) (trodAll_cons_mk (Go.WideMaps.shut_pair moves_arr Tryz.underlying62 wa2 wb2) trodAll_mk0))
theorem moves_laid (os : Os) : laidMet Tryz.prog Rows.cordMovesRow.laid ((World.doorLaid Tryz.prog 400 os).forCall (fun _ _ => 0) ⟨#[], #[.int .u16 0, .int .u16 0, .agg #[.int .u16 0, .int .u16 0]], []⟩).memory :=
 laidMet_of_run' 8 (by kernel_rfl) (by kernel_rfl)
theorem moves_reads (os : Os) {H : Type} (enc : TypeId × Value → H) : ∃ places, DataW.whole enc Tryz.prog ((World.doorLaid Tryz.prog 400 os).forCall (fun _ _ => 0) ⟨#[], #[.int .u16 0, .int .u16 0, .agg #[.int .u16 0, .int .u16 0]], []⟩).memory Tryz.f7.params.toList Rows.cordMovesSpec.vars false #[Value.int .u16 0, .int .u16 0, .agg #[.int .u16 0, .int .u16 0]].toList 8 = some ([.lit (.int .u16 0), .lit (.int .u16 0), .agg [.lit (.int .u16 0), .lit (.int .u16 0)]], [], places) :=
 ⟨[], by kernel_rfl⟩
set_option maxRecDepth 100000 in
theorem moves_lifted (os : Os) (started : os.Started) (H : Type) (enc : TypeId × Value → H) (F : Stop.Interp) :
  ReturnsInHanded {} Tryz.checked os 7 .any ((OpenSpec.ofChange Rows.cordMovesSpec).preRow enc Tryz.prog Tryz.f7 Rows.cordMovesRow.domain false Rows.cordMovesRow.laid) (((OpenSpec.ofChange Rows.cordMovesSpec).at F).post enc Tryz.prog Tryz.f7 false true false false) := by
 obtain ⟨places, hx⟩ := moves_reads os enc
 refine returnsInHanded_of_row (C := Tryz.checked) (s := OpenSpec.ofChange Rows.cordMovesSpec) moves_own started (by kernel_rfl) Tryz.func7
  (witness_row_at (enc := enc) (C := Tryz.checked) false (World.doorLaid Tryz.prog 400 os) #[.int .u16 0, .int .u16 0, .agg #[.int .u16 0, .int .u16 0]] rfl (by kernel_rfl) (by kernel_rfl) (by kernel_rfl)
   (OpenSpec.preRow_of_cond 8 hx (by kernel_rfl) (fun k hk => by cases hk) (by kernel_rfl) (moves_laid os))) ?_
 intro W base args ds gs before hval hW _ _ _ hL _ _
 exact moves_contract H enc W base args ds gs before hval hW hL
theorem moves_said : Rows.CordMovesSaid :=
 OpenClaim.holds_of_cond 7 Tryz.f7 rfl rfl rfl rfl rfl rfl rfl ⟨rfl, rfl, rfl, rfl, rfl⟩ rfl rfl rfl rfl rfl (by kernel_rfl) Tryz.func7 (by kernel_rfl)
  (of_decide_eq_true (by kernel_rfl)) (by unfold Func.isWrapper; first | (rw [if_pos (by decide +kernel)]; kernel_rfl) | (rw [if_neg (by decide +kernel)]; exact ⟨rfl, rfl⟩))
  (fun os started H enc _ F => by rw [OpenClaim.pre_eq_preRow]; exact moves_lifted os started H enc F)
theorem moves_plain (f : FuncId) (fn : Func) (hf : Tryz.pinned.checked.prog.funcNamed "chiti/chitilaw02.CordMoves" = some f) (hfn : Tryz.pinned.checked.prog.funcs[f]? = some fn) :
  Rows.cordMovesCard.stood.looks = Tryz.pinned.checked.prog.looks [] ∧ ∀ (j : Nat) t, fn.params[j]? = some t → Tryz.pinned.checked.prog.wantsStandIn t = false := by
 obtain rfl : f = 7 := Option.some.inj ((show Tryz.prog.funcNamed "chiti/chitilaw02.CordMoves" = some 7 by kernel_rfl).symm.trans hf) |>.symm
 obtain rfl : fn = Tryz.f7 := (Option.some.inj (Tryz.func7.symm.trans hfn)).symm
 refine ⟨by kernel_rfl, fun j t ht => ?_⟩
 rw [Tryz.params7] at ht
 have hm : t ∈ [62, 62, 63] := by simpa using Array.mem_of_getElem? ht
 have hall : ([62, 62, 63].all fun u => !Tryz.prog.wantsStandIn u) = true := by kernel_rfl
 exact (show Tryz.prog.wantsStandIn t = false by simpa using List.all_eq_true.1 hall t hm)
theorem cordMoves_holds : Rows.CordMovesCardSaid :=
 Claim7.holds_tied_plain_at .later [] _ _ _ _ moves_said (fun _ h => by cases h) (by kernel_rfl) (fun _ h => by cases h) cordMoves_row_tie rfl ⟨rfl, rfl⟩ (by kernel_rfl) rfl moves_plain (by kernel_rfl)
#print axioms cordMoves_holds
end Go.Proofs.YtloegjlknpioeaaGreatDoor
