import Derived.Test.YtfmnnceacdpbdaaGreatDoorCards
import Derived.Test.YtfmnnceacdpbdaaGreatDoorTie
import Derived.Test.YtfmnnceacdpbdaaGreatDoorBetB
import Derived.Lay
import Derived.Test.YtfmnnceacdpbdaaGreatDoorCardAToCardK
import Derived.Test.YtfmnnceacdpbdaaGreatDoorCardNToMaxC
import Derived.Carry
set_option linter.unusedVariables false
set_option linter.unusedSimpArgs false
namespace Go.Proofs.YtfmnnceacdpbdaaGreatDoor
open Go.ChangeShapes Go.WideShapes Go.ChangeAt Go.RowKit Go.Proofs.YtfmnnceacdpbdaaGreatDoor
theorem bet_own : ownKnob Tryz.prog.godebug = none := by kernel_rfl
theorem bet_out : laidOutB Tryz.prog = true := k_lay
theorem bet_vars {W : World} (h : laidMetH Tryz.prog Rows.surdBetweenRow.laid W) : ErrVars W ∧ Lib.TabIs Tryz.prog W "internal/strconv.uint64pow10" .u64 Lib.pow10Tab := by
 rw [MakeChecks.laidMetH_plain _ _ _ (by kernel_rfl)] at h
 exact varsOf2 h.tail.tail
set_option maxRecDepth 100000 in
theorem bet_contract (H : Type) (enc : TypeId × Value → H) (W : World) (base : Nat) (args : Array Value) (ds gs : List (DataW H)) (before : List MemPlace)
  (hval : ∀ (j : Nat) t v, Tryz.f5.params[j]? = some t → args[j]? = some v → Value.okWide Tryz.prog W .any base t v)
  (hW : DataW.Whole enc Tryz.prog Tryz.f5.params.toList Rows.surdBetweenSpec.vars false W args.toList ds gs before) (hL : laidMetH Tryz.prog Rows.surdBetweenRow.laid W) (hSh : W.ShapedOpen Tryz.prog) :
  Calls Tryz.prog 5 args W fun e W' => ∃ v, e = .returned v ∧ Rows.surdBetweenSpec.post enc Tryz.prog Tryz.f5 false true false false W args v W' := by
 have hW' := hW
 obtain ⟨p, q, hA0, hV, rfl, hfz, hnd⟩ := hW
 have hA : DataW.TrodAll enc Tryz.prog W 0 (fun _ => true) true Tryz.f5.params.toList args.toList ds p := hA0
 rw [Tryz.params5] at hA hval
 obtain ⟨v0, vs0, d0, ds0, p0, q0, hargs0, rfl, rfl, h0, r0⟩ := trodAll_cons hA
 obtain ⟨v1, vs1, d1, ds1, p1, q1, hargs1, rfl, rfl, h1, r1⟩ := trodAll_cons r0
 obtain ⟨v2, vs2, d2, ds2, p2, q2, hargs2, rfl, rfl, h2, r2⟩ := trodAll_cons r1
 obtain ⟨rfl, rfl, rfl⟩ := trodAll_nil r2
 obtain rfl : args = #[v0, v1, v2] := by cases args; simp_all
 obtain ⟨rfl, rfl⟩ := trodVars_none hV
 have k0 := h0
 obtain ⟨a0, A0, n0, c0, l0, rfl, P0, wa0, wl0⟩ := open_num (hval 0 _ _ rfl rfl) h0
 obtain ⟨a1, rfl, rfl, rfl, wa1⟩ := open_int Tryz.underlying38 (hval 1 _ _ rfl rfl) h1
 obtain ⟨a2, rfl, rfl, rfl, wa2⟩ := open_int Tryz.underlying5 (hval 2 _ _ rfl rfl) h2
 clear hA0
 simp only [List.append_nil, List.nil_append] at hW'
 obtain ⟨hE, hT⟩ := bet_vars hL
 refine (between_any a0 A0 n0 c0 l0 a1 a2 W P0 (wf16 wa1) (wf8 wa2) hE (maxV_of hSh) hT).mono fun e W' ⟨he, hb⟩ => ?_
 subst he
 refine ⟨_, rfl, _, _, _, [], p0 ++ ([] ++ ([] ++ [])), [], hW', ?_, ?_, rfl, hb.frame _, fun h => by cases h⟩
 ·exact trodAll_mk1 (shut_bool Tryz.underlying4 _)
 ·exact trodAll_cons_mk (Below.trod bet_out (by kernel_rfl) (of_decide_eq_true (by kernel_rfl)) k0 hb (fun x hx => by simpa using hW'.lt x (by simp [hx]))) (trodAll_cons_mk (shut_int Tryz.underlying38 wa1) (trodAll_cons_mk (shut_int Tryz.underlying5 wa2) trodAll_mk0))
theorem bet_laid (os : Os) : laidMet Tryz.prog Rows.surdBetweenRow.laid ((World.laidAll Tryz.prog os Rows.surdBetweenRow.laid).forCall (fun _ _ => 0) ⟨#[], #[.agg #[.int .i64 0, .slice none 0 0], .int .u16 0, .int .u8 0], []⟩).memory :=
 laidMet_laidAll _ (by kernel_rfl) (by kernel_rfl)
theorem bet_reads (os : Os) {H : Type} (enc : TypeId × Value → H) : ∃ places, DataW.whole enc Tryz.prog ((World.laidAll Tryz.prog os Rows.surdBetweenRow.laid).forCall (fun _ _ => 0) ⟨#[], #[.agg #[.int .i64 0, .slice none 0 0], .int .u16 0, .int .u8 0], []⟩).memory Tryz.f5.params.toList Rows.surdBetweenSpec.vars false #[Value.agg #[.int .i64 0, .slice none 0 0], .int .u16 0, .int .u8 0].toList 8 = some ([.agg [.lit (.int .i64 0), .nil], .lit (.int .u16 0), .lit (.int .u8 0)], [], places) :=
 ⟨[], by kernel_rfl⟩
set_option maxRecDepth 100000 in
theorem bet_lifted (os : Os) (started : os.Started) (H : Type) (enc : TypeId × Value → H) (F : Stop.Interp) :
  ReturnsInHanded {} Tryz.checked os 5 .any ((OpenSpec.ofChange Rows.surdBetweenSpec).preRow enc Tryz.prog Tryz.f5 Rows.surdBetweenRow.domain false Rows.surdBetweenRow.laid) (((OpenSpec.ofChange Rows.surdBetweenSpec).at F).post enc Tryz.prog Tryz.f5 false true false false) := by
 obtain ⟨places, hx⟩ := bet_reads os enc
 refine returnsInHanded_of_row (C := Tryz.checked) (s := OpenSpec.ofChange Rows.surdBetweenSpec) bet_own started (by kernel_rfl) Tryz.func5
  (witness_row_at (enc := enc) (C := Tryz.checked) false (World.laidAll Tryz.prog os Rows.surdBetweenRow.laid) #[.agg #[.int .i64 0, .slice none 0 0], .int .u16 0, .int .u8 0] (World.laidAll_os _ _ _) (by kernel_rfl) (by kernel_rfl) (by kernel_rfl)
   (OpenSpec.preRow_of_cond 8 hx (by kernel_rfl) (fun k hk => by cases hk) (by kernel_rfl) (bet_laid os))) ?_
 intro W base args ds gs before hval hW _ _ _ hL hSh _
 exact bet_contract H enc W base args ds gs before hval hW hL hSh
theorem bet_inp : (Rows.surdBetweenRow.inPlace == Tryz.pinned.checked.prog.inPlace 5) = true := by kernel_rfl
theorem bet_unf : (Rows.surdBetweenRow.unfollowed == Tryz.pinned.checked.prog.unfollowed 5) = true := by kernel_rfl
theorem bet_rec : (Rows.surdBetweenRow.recurses == Tryz.pinned.checked.prog.recurses 5) = true := by kernel_rfl
theorem bet_nam : (Rows.surdBetweenRow.named == Tryz.pinned.checked.prog.varsNamed 5) = true := by kernel_rfl
theorem bet_goes : false = OpenClaim.goesBy Rows.surdBetweenRow Tryz.pinned.checked.prog := by kernel_rfl
theorem bet_facts : joinedFacts Tryz.pinned.checked.prog 5 Tryz.f5 (OpenSpec.ofChange Rows.surdBetweenSpec).bare Rows.surdBetweenRow = true := by
 unfold joinedFacts
 exact (both (both (both (both (both (both (both (both (both (both (both (both (both (both (both (both (both (both (both (both (both (both (both (both (both (both (both (both (both (both (both (by kernel_rfl) k_lay) k_rowed) (by kernel_rfl)) (by kernel_rfl)) (by kernel_rfl)) (by kernel_rfl)) (by kernel_rfl)) (by kernel_rfl)) bet_inp) bet_unf) bet_rec) bet_nam) (by kernel_rfl)) (by kernel_rfl)) (by kernel_rfl)) (by kernel_rfl)) (by kernel_rfl)) (by kernel_rfl)) (by kernel_rfl)) (by kernel_rfl)) (by kernel_rfl)) k_keys) (by kernel_rfl)) k_heard) k_may) k_lift) k_make) (by kernel_rfl)) (by kernel_rfl)) (by kernel_rfl)) (by kernel_rfl))
theorem bet_said : Rows.SurdBetweenSaid :=
 OpenClaim.holds_of_cond 5 Tryz.f5 rfl rfl rfl rfl rfl rfl rfl ⟨rfl, rfl, rfl, rfl, rfl⟩ rfl rfl rfl rfl rfl (by kernel_rfl) Tryz.func5 bet_facts
  (of_decide_eq_true (by kernel_rfl)) (by unfold Func.isWrapper; first | (rw [if_pos (by decide +kernel)]; kernel_rfl) | (rw [if_neg (by decide +kernel)]; exact ⟨rfl, rfl⟩))
  (fun os started H enc _ F => by rw [OpenClaim.pre_eq_preRow]; exact bet_lifted os started H enc F)
theorem bet_plain (f : FuncId) (fn : Func) (hf : Tryz.pinned.checked.prog.funcNamed "chiti/chitilaw01.SurdBetween" = some f) (hfn : Tryz.pinned.checked.prog.funcs[f]? = some fn) :
  Rows.surdBetweenCard.stood.looks = Tryz.pinned.checked.prog.looks [] ∧ ∀ (j : Nat) t, fn.params[j]? = some t → Tryz.pinned.checked.prog.wantsStandIn t = false := by
 obtain rfl : f = 5 := Option.some.inj ((show Tryz.prog.funcNamed "chiti/chitilaw01.SurdBetween" = some 5 by kernel_rfl).symm.trans hf) |>.symm
 obtain rfl : fn = Tryz.f5 := (Option.some.inj (Tryz.func5.symm.trans hfn)).symm
 refine ⟨by kernel_rfl, fun j t ht => ?_⟩
 rw [Tryz.params5] at ht
 have hm : t ∈ [24, 38, 5] := by simpa using Array.mem_of_getElem? ht
 have hall : ([24, 38, 5].all fun u => !Tryz.prog.wantsStandIn u) = true := by kernel_rfl
 exact (show Tryz.prog.wantsStandIn t = false by simpa using List.all_eq_true.1 hall t hm)
theorem surdBetween_holds : Rows.SurdBetweenCardSaid :=
 Claim7.holds_tied_plain_at .later [] _ _ _ _ bet_said (fun _ h => by cases h) (by kernel_rfl) (fun _ h => by cases h) surdBetween_row_tie rfl ⟨rfl, rfl⟩ k_main rfl bet_plain bet_goes
#print axioms surdBetween_holds
end Go.Proofs.YtfmnnceacdpbdaaGreatDoor
