import Derived.Test.YtfmnnceacdpbdaaGreatDoorCards
import Derived.Test.YtfmnnceacdpbdaaGreatDoorTie
import Derived.Test.YtfmnnceacdpbdaaGreatDoorMakB
import Derived.Lay
import Derived.Test.YtfmnnceacdpbdaaGreatDoorCardAToCardK
import Derived.Test.YtfmnnceacdpbdaaGreatDoorCardNToMaxC
import Derived.Test.YtfmnnceacdpbdaaGreatDoorCardP
import Derived.Carry
set_option linter.unusedVariables false
set_option linter.unusedSimpArgs false
namespace Go.Proofs.YtfmnnceacdpbdaaGreatDoor
open Go.ChangeShapes Go.WideShapes Go.ChangeAt Go.RowKit Go.Proofs.YtfmnnceacdpbdaaGreatDoor
theorem mak_own : ownKnob Tryz.prog.godebug = none := by kernel_rfl
theorem mak_out : laidOutB Tryz.prog = true := k_lay
theorem mak_vars {W : World} (h : laidMetH Tryz.prog Rows.surdMakesRow.laid W) : ErrVars W ∧ Lib.TabIs Tryz.prog W "internal/strconv.uint64pow10" .u64 Lib.pow10Tab := by
 rw [MakeChecks.laidMetH_plain _ _ _ (by kernel_rfl)] at h
 exact varsOf2 h.tail.tail
set_option maxRecDepth 100000 in
theorem mak_contract (H : Type) (enc : TypeId × Value → H) (W : World) (base : Nat) (args : Array Value) (ds gs : List (DataW H)) (before : List MemPlace)
  (hval : ∀ (j : Nat) t v, Tryz.f3.params[j]? = some t → args[j]? = some v → Value.okWide Tryz.prog W .any base t v)
  (hW : DataW.Whole enc Tryz.prog Tryz.f3.params.toList Rows.surdMakesSpec.vars false W args.toList ds gs before) (hL : laidMetH Tryz.prog Rows.surdMakesRow.laid W) (hSh : W.ShapedOpen Tryz.prog) :
  Calls Tryz.prog 3 args W fun e W' => ∃ v, e = .returned v ∧ Rows.surdMakesSpec.post enc Tryz.prog Tryz.f3 false true false false W args v W' := by
 have hW' := hW
 obtain ⟨p, q, hA0, hV, rfl, hfz, hnd⟩ := hW
 have hA : DataW.TrodAll enc Tryz.prog W 0 (fun _ => true) true Tryz.f3.params.toList args.toList ds p := hA0
 rw [Tryz.params3] at hA hval
 obtain ⟨v0, vs0, d0, ds0, p0, q0, hargs0, rfl, rfl, h0, r0⟩ := trodAll_cons hA
 obtain ⟨v1, vs1, d1, ds1, p1, q1, hargs1, rfl, rfl, h1, r1⟩ := trodAll_cons r0
 obtain ⟨v2, vs2, d2, ds2, p2, q2, hargs2, rfl, rfl, h2, r2⟩ := trodAll_cons r1
 obtain ⟨rfl, rfl, rfl⟩ := trodAll_nil r2
 obtain rfl : args = #[v0, v1, v2] := by cases args; simp_all
 obtain ⟨rfl, rfl⟩ := trodVars_none hV
 have k0 := h0
 obtain ⟨a0, A0, n0, c0, l0, rfl, P0, wa0, wl0⟩ := open_num (hval 0 _ _ rfl rfl) h0
 obtain ⟨a1, rfl, rfl, rfl, wa1⟩ := open_int Tryz.underlying3 (hval 1 _ _ rfl rfl) h1
 have k2 := h2
 obtain ⟨A2, n2, c2, l2, rfl, P2⟩ := open_terms (hval 2 _ _ rfl rfl) h2
 clear hA0
 simp only [List.append_nil, List.nil_append] at hW'
 obtain ⟨hE, hT⟩ := mak_vars hL
 refine (makes_any a0 A0 n0 c0 l0 a1 A2 n2 c2 l2 W P0 (wfI wa1) P2 hE (maxV_of hSh) hT).mono fun e W' ⟨he, hb⟩ => ?_
 subst he
 refine ⟨_, rfl, _, _, _, [], p0 ++ ([] ++ (p2 ++ [])), [], hW', ?_, ?_, rfl, hb.frame _, fun h => by cases h⟩
 ·exact trodAll_mk1 (shut_bool Tryz.underlying4 _)
 ·exact trodAll_cons_mk (Below.trod mak_out (by kernel_rfl) (of_decide_eq_true (by kernel_rfl)) k0 hb (fun x hx => by simpa using hW'.lt x (by simp [hx]))) (trodAll_cons_mk (shut_int Tryz.underlying3 wa1) (trodAll_cons_mk (Below.trod mak_out (by kernel_rfl) (of_decide_eq_true (by kernel_rfl)) k2 hb (fun x hx => by simpa using hW'.lt x (by simp [hx]))) trodAll_mk0))
theorem mak_laid (os : Os) : laidMet Tryz.prog Rows.surdMakesRow.laid ((World.laidAll Tryz.prog os Rows.surdMakesRow.laid).forCall (fun _ _ => 0) ⟨#[], #[.agg #[.int .i64 0, .slice none 0 0], .int .i64 0, .slice none 0 0], []⟩).memory :=
 laidMet_laidAll _ (by kernel_rfl) (by kernel_rfl)
theorem mak_reads (os : Os) {H : Type} (enc : TypeId × Value → H) : ∃ places, DataW.whole enc Tryz.prog ((World.laidAll Tryz.prog os Rows.surdMakesRow.laid).forCall (fun _ _ => 0) ⟨#[], #[.agg #[.int .i64 0, .slice none 0 0], .int .i64 0, .slice none 0 0], []⟩).memory Tryz.f3.params.toList Rows.surdMakesSpec.vars false #[Value.agg #[.int .i64 0, .slice none 0 0], .int .i64 0, .slice none 0 0].toList 8 = some ([.agg [.lit (.int .i64 0), .nil], .lit (.int .i64 0), .nil], [], places) :=
 ⟨[], by kernel_rfl⟩
set_option maxRecDepth 100000 in
theorem mak_lifted (os : Os) (started : os.Started) (H : Type) (enc : TypeId × Value → H) (F : Stop.Interp) :
  ReturnsInHanded {} Tryz.checked os 3 .any ((OpenSpec.ofChange Rows.surdMakesSpec).preRow enc Tryz.prog Tryz.f3 Rows.surdMakesRow.domain false Rows.surdMakesRow.laid) (((OpenSpec.ofChange Rows.surdMakesSpec).at F).post enc Tryz.prog Tryz.f3 false true false false) := by
 obtain ⟨places, hx⟩ := mak_reads os enc
 refine returnsInHanded_of_row (C := Tryz.checked) (s := OpenSpec.ofChange Rows.surdMakesSpec) mak_own started (by kernel_rfl) Tryz.func3
  (witness_row_at (enc := enc) (C := Tryz.checked) false (World.laidAll Tryz.prog os Rows.surdMakesRow.laid) #[.agg #[.int .i64 0, .slice none 0 0], .int .i64 0, .slice none 0 0] (World.laidAll_os _ _ _) (by kernel_rfl) (by kernel_rfl) (by kernel_rfl)
   (OpenSpec.preRow_of_cond 8 hx (by kernel_rfl) (fun k hk => by cases hk) (by kernel_rfl) (mak_laid os))) ?_
 intro W base args ds gs before hval hW _ _ _ hL hSh _
 exact mak_contract H enc W base args ds gs before hval hW hL hSh
theorem mak_inp : (Rows.surdMakesRow.inPlace == Tryz.pinned.checked.prog.inPlace 3) = true := by kernel_rfl
theorem mak_unf : (Rows.surdMakesRow.unfollowed == Tryz.pinned.checked.prog.unfollowed 3) = true := by kernel_rfl
theorem mak_rec : (Rows.surdMakesRow.recurses == Tryz.pinned.checked.prog.recurses 3) = true := by kernel_rfl
theorem mak_nam : (Rows.surdMakesRow.named == Tryz.pinned.checked.prog.varsNamed 3) = true := by kernel_rfl
theorem mak_goes : false = OpenClaim.goesBy Rows.surdMakesRow Tryz.pinned.checked.prog := by kernel_rfl
theorem mak_facts : joinedFacts Tryz.pinned.checked.prog 3 Tryz.f3 (OpenSpec.ofChange Rows.surdMakesSpec).bare Rows.surdMakesRow = true := by
 unfold joinedFacts
 exact (both (both (both (both (both (both (both (both (both (both (both (both (both (both (both (both (both (both (both (both (both (both (both (both (both (both (both (both (both (both (both (by kernel_rfl) k_lay) k_rowed) (by kernel_rfl)) (by kernel_rfl)) (by kernel_rfl)) (by kernel_rfl)) (by kernel_rfl)) (by kernel_rfl)) mak_inp) mak_unf) mak_rec) mak_nam) (by kernel_rfl)) (by kernel_rfl)) (by kernel_rfl)) (by kernel_rfl)) (by kernel_rfl)) (by kernel_rfl)) (by kernel_rfl)) (by kernel_rfl)) (by kernel_rfl)) k_keys) (by kernel_rfl)) k_heard) k_may) k_lift) k_make) (by kernel_rfl)) (by kernel_rfl)) (by kernel_rfl)) (by kernel_rfl))
theorem mak_said : Rows.SurdMakesSaid :=
 OpenClaim.holds_of_cond 3 Tryz.f3 rfl rfl rfl rfl rfl rfl rfl ⟨rfl, rfl, rfl, rfl, rfl⟩ rfl rfl rfl rfl rfl (by kernel_rfl) Tryz.func3 mak_facts
  (of_decide_eq_true (by kernel_rfl)) (by unfold Func.isWrapper; first | (rw [if_pos (by decide +kernel)]; kernel_rfl) | (rw [if_neg (by decide +kernel)]; exact ⟨rfl, rfl⟩))
  (fun os started H enc _ F => by rw [OpenClaim.pre_eq_preRow]; exact mak_lifted os started H enc F)
theorem mak_plain (f : FuncId) (fn : Func) (hf : Tryz.pinned.checked.prog.funcNamed "chiti/chitilaw01.SurdMakes" = some f) (hfn : Tryz.pinned.checked.prog.funcs[f]? = some fn) :
  Rows.surdMakesCard.stood.looks = Tryz.pinned.checked.prog.looks [] ∧ ∀ (j : Nat) t, fn.params[j]? = some t → Tryz.pinned.checked.prog.wantsStandIn t = false := by
 obtain rfl : f = 3 := Option.some.inj ((show Tryz.prog.funcNamed "chiti/chitilaw01.SurdMakes" = some 3 by kernel_rfl).symm.trans hf) |>.symm
 obtain rfl : fn = Tryz.f3 := (Option.some.inj (Tryz.func3.symm.trans hfn)).symm
 refine ⟨by kernel_rfl, fun j t ht => ?_⟩
 rw [Tryz.params3] at ht
 have hm : t ∈ [24, 3, 22] := by simpa using Array.mem_of_getElem? ht
 have hall : ([24, 3, 22].all fun u => !Tryz.prog.wantsStandIn u) = true := by kernel_rfl
 exact (show Tryz.prog.wantsStandIn t = false by simpa using List.all_eq_true.1 hall t hm)
theorem surdMakes_holds : Rows.SurdMakesCardSaid :=
 Claim7.holds_tied_plain_at .later [] _ _ _ _ mak_said (fun _ h => by cases h) (by kernel_rfl) (fun _ h => by cases h) surdMakes_row_tie rfl ⟨rfl, rfl⟩ k_main rfl mak_plain mak_goes
#print axioms surdMakes_holds
end Go.Proofs.YtfmnnceacdpbdaaGreatDoor
