import Derived.Test.YtfmnnceacdpbdaaGreatDoorCards
import Derived.Test.YtfmnnceacdpbdaaGreatDoorTie
import Derived.Test.YtfmnnceacdpbdaaGreatDoorFieB
import Derived.Lay
import Derived.Test.YtfmnnceacdpbdaaGreatDoorCardAToCardK
import Derived.Test.YtfmnnceacdpbdaaGreatDoorCardNToMaxC
import Derived.Test.YtfmnnceacdpbdaaGreatDoorCardT
import Derived.Carry
set_option linter.unusedVariables false
set_option linter.unusedSimpArgs false
namespace Go.Proofs.YtfmnnceacdpbdaaGreatDoor
open Go.ChangeShapes Go.WideShapes Go.ChangeAt Go.RowKit Go.Proofs.YtfmnnceacdpbdaaGreatDoor
theorem fie_own : ownKnob Tryz.prog.godebug = none := by kernel_rfl
theorem fie_out : laidOutB Tryz.prog = true := k_lay
theorem fie_vars {W : World} (h : laidMetH Tryz.prog Rows.surdFieldRow.laid W) : ErrVars W ∧ Lib.TabIs Tryz.prog W "internal/strconv.uint64pow10" .u64 Lib.pow10Tab := by
 rw [MakeChecks.laidMetH_plain _ _ _ (by kernel_rfl)] at h
 exact varsOf2 h.tail.tail
set_option maxRecDepth 100000 in
theorem fie_contract (H : Type) (enc : TypeId × Value → H) (W : World) (base : Nat) (args : Array Value) (ds gs : List (DataW H)) (before : List MemPlace)
  (hval : ∀ (j : Nat) t v, Tryz.f8.params[j]? = some t → args[j]? = some v → Value.okWide Tryz.prog W .any base t v)
  (hW : DataW.Whole enc Tryz.prog Tryz.f8.params.toList Rows.surdFieldSpec.vars false W args.toList ds gs before) (hL : laidMetH Tryz.prog Rows.surdFieldRow.laid W) (hSh : W.ShapedOpen Tryz.prog) :
  Calls Tryz.prog 8 args W fun e W' => ∃ v, e = .returned v ∧ Rows.surdFieldSpec.post enc Tryz.prog Tryz.f8 false true false false W args v W' := by
 have hW' := hW
 obtain ⟨p, q, hA0, hV, rfl, hfz, hnd⟩ := hW
 have hA : DataW.TrodAll enc Tryz.prog W 0 (fun _ => true) true Tryz.f8.params.toList args.toList ds p := hA0
 rw [Tryz.params8] at hA hval
 obtain ⟨v0, vs0, d0, ds0, p0, q0, hargs0, rfl, rfl, h0, r0⟩ := trodAll_cons hA
 obtain ⟨rfl, rfl, rfl⟩ := trodAll_nil r0
 obtain rfl : args = #[v0] := by cases args; simp_all
 obtain ⟨rfl, rfl⟩ := trodVars_none hV
 have k0 := h0
 obtain ⟨xd, xA, xn, xc, xt, yd, yA, yn, yc, yt, zd, zA, zn, zc, zt, rfl, PX, PY, PZ⟩ := open_three (hval 0 _ _ rfl rfl) h0
 clear hA0
 simp only [List.append_nil, List.nil_append] at hW'
 obtain ⟨hE, hT⟩ := fie_vars hL
 refine (field_any xd xA xn xc xt yd yA yn yc yt zd zA zn zc zt W PX PY PZ hE (maxV_of hSh) hT).mono fun e W' ⟨he, hb⟩ => ?_
 subst he
 refine ⟨_, rfl, _, _, _, [], p0 ++ [], [], hW', ?_, ?_, rfl, hb.frame _, fun h => by cases h⟩
 ·exact trodAll_mk1 (shut_bool Tryz.underlying4 _)
 ·exact trodAll_cons_mk (Below.trod fie_out (by kernel_rfl) (of_decide_eq_true (by kernel_rfl)) k0 hb (fun x hx => by simpa using hW'.lt x (by simp [hx]))) trodAll_mk0
theorem fie_laid (os : Os) : laidMet Tryz.prog Rows.surdFieldRow.laid ((World.laidAll Tryz.prog os Rows.surdFieldRow.laid).forCall (fun _ _ => 0) ⟨#[], #[.agg #[.int .i64 0, .slice none 0 0, .int .i64 0, .slice none 0 0, .int .i64 0, .slice none 0 0]], []⟩).memory :=
 laidMet_laidAll _ (by kernel_rfl) (by kernel_rfl)
theorem fie_reads (os : Os) {H : Type} (enc : TypeId × Value → H) : ∃ places, DataW.whole enc Tryz.prog ((World.laidAll Tryz.prog os Rows.surdFieldRow.laid).forCall (fun _ _ => 0) ⟨#[], #[.agg #[.int .i64 0, .slice none 0 0, .int .i64 0, .slice none 0 0, .int .i64 0, .slice none 0 0]], []⟩).memory Tryz.f8.params.toList Rows.surdFieldSpec.vars false #[Value.agg #[.int .i64 0, .slice none 0 0, .int .i64 0, .slice none 0 0, .int .i64 0, .slice none 0 0]].toList 8 = some ([.agg [.agg [.lit (.int .i64 0), .nil], .agg [.lit (.int .i64 0), .nil], .agg [.lit (.int .i64 0), .nil]]], [], places) :=
 ⟨[], by kernel_rfl⟩
set_option maxRecDepth 100000 in
theorem fie_lifted (os : Os) (started : os.Started) (H : Type) (enc : TypeId × Value → H) (F : Stop.Interp) :
  ReturnsInHanded {} Tryz.checked os 8 .any ((OpenSpec.ofChange Rows.surdFieldSpec).preRow enc Tryz.prog Tryz.f8 Rows.surdFieldRow.domain false Rows.surdFieldRow.laid) (((OpenSpec.ofChange Rows.surdFieldSpec).at F).post enc Tryz.prog Tryz.f8 false true false false) := by
 obtain ⟨places, hx⟩ := fie_reads os enc
 refine returnsInHanded_of_row (C := Tryz.checked) (s := OpenSpec.ofChange Rows.surdFieldSpec) fie_own started (by kernel_rfl) Tryz.func8
  (witness_row_at (enc := enc) (C := Tryz.checked) false (World.laidAll Tryz.prog os Rows.surdFieldRow.laid) #[.agg #[.int .i64 0, .slice none 0 0, .int .i64 0, .slice none 0 0, .int .i64 0, .slice none 0 0]] (World.laidAll_os _ _ _) (by kernel_rfl) (by kernel_rfl) (by kernel_rfl)
   (OpenSpec.preRow_of_cond 8 hx (by kernel_rfl) (fun k hk => by cases hk) (by kernel_rfl) (fie_laid os))) ?_
 intro W base args ds gs before hval hW _ _ _ hL hSh _
 exact fie_contract H enc W base args ds gs before hval hW hL hSh
theorem fie_inp : (Rows.surdFieldRow.inPlace == Tryz.pinned.checked.prog.inPlace 8) = true := by kernel_rfl
theorem fie_unf : (Rows.surdFieldRow.unfollowed == Tryz.pinned.checked.prog.unfollowed 8) = true := by kernel_rfl
theorem fie_rec : (Rows.surdFieldRow.recurses == Tryz.pinned.checked.prog.recurses 8) = true := by kernel_rfl
theorem fie_nam : (Rows.surdFieldRow.named == Tryz.pinned.checked.prog.varsNamed 8) = true := by kernel_rfl
theorem fie_goes : false = OpenClaim.goesBy Rows.surdFieldRow Tryz.pinned.checked.prog := by kernel_rfl
theorem fie_facts : joinedFacts Tryz.pinned.checked.prog 8 Tryz.f8 (OpenSpec.ofChange Rows.surdFieldSpec).bare Rows.surdFieldRow = true := by
 unfold joinedFacts
 exact (both (both (both (both (both (both (both (both (both (both (both (both (both (both (both (both (both (both (both (both (both (both (both (both (both (both (both (both (both (both (both (by kernel_rfl) k_lay) k_rowed) (by kernel_rfl)) (by kernel_rfl)) (by kernel_rfl)) (by kernel_rfl)) (by kernel_rfl)) (by kernel_rfl)) fie_inp) fie_unf) fie_rec) fie_nam) (by kernel_rfl)) (by kernel_rfl)) (by kernel_rfl)) (by kernel_rfl)) (by kernel_rfl)) (by kernel_rfl)) (by kernel_rfl)) (by kernel_rfl)) (by kernel_rfl)) k_keys) (by kernel_rfl)) k_heard) k_may) k_lift) k_make) (by kernel_rfl)) (by kernel_rfl)) (by kernel_rfl)) (by kernel_rfl))
theorem fie_said : Rows.SurdFieldSaid :=
 OpenClaim.holds_of_cond 8 Tryz.f8 rfl rfl rfl rfl rfl rfl rfl ⟨rfl, rfl, rfl, rfl, rfl⟩ rfl rfl rfl rfl rfl (by kernel_rfl) Tryz.func8 fie_facts
  (of_decide_eq_true (by kernel_rfl)) (by unfold Func.isWrapper; first | (rw [if_pos (by decide +kernel)]; kernel_rfl) | (rw [if_neg (by decide +kernel)]; exact ⟨rfl, rfl⟩))
  (fun os started H enc _ F => by rw [OpenClaim.pre_eq_preRow]; exact fie_lifted os started H enc F)
theorem fie_plain (f : FuncId) (fn : Func) (hf : Tryz.pinned.checked.prog.funcNamed "chiti/chitilaw01.SurdField" = some f) (hfn : Tryz.pinned.checked.prog.funcs[f]? = some fn) :
  Rows.surdFieldCard.stood.looks = Tryz.pinned.checked.prog.looks [] ∧ ∀ (j : Nat) t, fn.params[j]? = some t → Tryz.pinned.checked.prog.wantsStandIn t = false := by
 obtain rfl : f = 8 := Option.some.inj ((show Tryz.prog.funcNamed "chiti/chitilaw01.SurdField" = some 8 by kernel_rfl).symm.trans hf) |>.symm
 obtain rfl : fn = Tryz.f8 := (Option.some.inj (Tryz.func8.symm.trans hfn)).symm
 refine ⟨by kernel_rfl, fun j t ht => ?_⟩
 rw [Tryz.params8] at ht
 have hm : t ∈ [48] := by simpa using Array.mem_of_getElem? ht
 have hall : ([48].all fun u => !Tryz.prog.wantsStandIn u) = true := by kernel_rfl
 exact (show Tryz.prog.wantsStandIn t = false by simpa using List.all_eq_true.1 hall t hm)
theorem surdField_holds : Rows.SurdFieldCardSaid :=
 Claim7.holds_tied_plain_at .later [] _ _ _ _ fie_said (fun _ h => by cases h) (by kernel_rfl) (fun _ h => by cases h) surdField_row_tie rfl ⟨rfl, rfl⟩ k_main rfl fie_plain fie_goes
#print axioms surdField_holds
end Go.Proofs.YtfmnnceacdpbdaaGreatDoor
