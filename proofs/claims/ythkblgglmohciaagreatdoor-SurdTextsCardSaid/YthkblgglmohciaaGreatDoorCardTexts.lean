import Derived.Test.YthkblgglmohciaaGreatDoorCards
import Derived.Test.YthkblgglmohciaaGreatDoorTie
import Derived.Test.YthkblgglmohciaaGreatDoorLtxA
import Derived.Lay
import Derived.Test.YthkblgglmohciaaGreatDoorCardAToCardK
import Derived.Test.YthkblgglmohciaaGreatDoorCardNToMaxC
import Derived.Carry
import Derived.ChangeMaps5
set_option linter.unusedVariables false
set_option linter.unusedSimpArgs false
namespace Go.Proofs.YthkblgglmohciaaGreatDoor
open Go.ChangeShapes Go.WideShapes Go.ChangeAt Go.RowKit Go.Proofs.YthkblgglmohciaaGreatDoor
theorem ltx_own : ownKnob Tryz.prog.godebug = none := by kernel_rfl
theorem ltx_out : laidOutB Tryz.prog = true := k_lay
theorem ltx_vars {W : World} (h : laidMetH Tryz.prog Rows.surdTextsRow.laid W) : ErrVars W ∧ Lib.TabIs Tryz.prog W "internal/strconv.uint64pow10" .u64 Lib.pow10Tab := by
 rw [MakeChecks.laidMetH_plain _ _ _ (by kernel_rfl)] at h
 exact varsOf2 h.tail.tail
set_option maxRecDepth 100000 in
theorem ltx_contract (H : Type) (enc : TypeId × Value → H) (W : World) (base : Nat) (args : Array Value) (ds gs : List (DataW H)) (before : List MemPlace)
  (hval : ∀ (j : Nat) t v, Tryz.f5.params[j]? = some t → args[j]? = some v → Value.okWide Tryz.prog W .any base t v)
  (hW : DataW.Whole enc Tryz.prog Tryz.f5.params.toList Rows.surdTextsSpec.vars false W args.toList ds gs before) (hL : laidMetH Tryz.prog Rows.surdTextsRow.laid W) (hSh : W.ShapedOpen Tryz.prog) :
  Calls Tryz.prog 5 args W fun e W' => ∃ v, e = .returned v ∧ Rows.surdTextsSpec.post enc Tryz.prog Tryz.f5 false true false false W args v W' := by
 have hW' := hW
 obtain ⟨p, q, hA0, hV, rfl, hfz, hnd⟩ := hW
 have hA : DataW.TrodAll enc Tryz.prog W 0 (fun _ => true) true Tryz.f5.params.toList args.toList ds p := hA0
 rw [Tryz.params5] at hA hval
 obtain ⟨v0, vs0, d0, ds0, p0, q0, hargs0, rfl, rfl, h0, r0⟩ := trodAll_cons hA
 obtain ⟨v1, vs1, d1, ds1, p1, q1, hargs1, rfl, rfl, h1, r1⟩ := trodAll_cons r0
 obtain ⟨rfl, rfl, rfl⟩ := trodAll_nil r1
 obtain rfl : args = #[v0, v1] := by cases args; simp_all
 obtain ⟨rfl, rfl⟩ := trodVars_none hV
 have k0 := h0
 obtain ⟨a0, A0, n0, c0, l0, rfl, P0, wa0, wl0⟩ := open_num (hval 0 _ _ rfl rfl) h0
 obtain ⟨a1, rfl, rfl, rfl, wa1⟩ := Go.ChangeMaps.open_string Tryz.underlying9 (hval 1 _ _ rfl rfl) h1
 clear hA0
 simp only [List.append_nil, List.nil_append] at hW'
 obtain ⟨hE, hT⟩ := ltx_vars hL
 refine (texts_any a0 A0 n0 c0 l0 a1 W P0 wa1 hE (maxV_of hSh) hT).mono fun e W' ⟨he, hb⟩ => ?_
 subst he
 refine ⟨_, rfl, _, _, _, [], p0 ++ ([] ++ []), [], hW', ?_, ?_, rfl, hb.frame _, fun h => by cases h⟩
 ·exact trodAll_mk1 (shut_bool Tryz.underlying4 _)
 ·exact trodAll_cons_mk (Below.trod ltx_out (by kernel_rfl) (of_decide_eq_true (by kernel_rfl)) k0 hb (fun x hx => by simpa using hW'.lt x (by simp [hx]))) (trodAll_cons_mk (Go.ChangeMaps.shut_string Tryz.underlying9 wa1) trodAll_mk0)
theorem ltx_laid (os : Os) : laidMet Tryz.prog Rows.surdTextsRow.laid ((World.laidAll Tryz.prog os Rows.surdTextsRow.laid).forCall (fun _ _ => 0) ⟨#[], #[.agg #[.int .i64 0, .slice none 0 0], .string ⟨#[]⟩], []⟩).memory :=
 laidMet_laidAll _ (by kernel_rfl) (by kernel_rfl)
theorem ltx_reads (os : Os) {H : Type} (enc : TypeId × Value → H) : ∃ places, DataW.whole enc Tryz.prog ((World.laidAll Tryz.prog os Rows.surdTextsRow.laid).forCall (fun _ _ => 0) ⟨#[], #[.agg #[.int .i64 0, .slice none 0 0], .string ⟨#[]⟩], []⟩).memory Tryz.f5.params.toList Rows.surdTextsSpec.vars false #[Value.agg #[.int .i64 0, .slice none 0 0], .string ⟨#[]⟩].toList 8 = some ([.agg [.lit (.int .i64 0), .nil], .lit (.string [])], [], places) :=
 ⟨[], by kernel_rfl⟩
set_option maxRecDepth 100000 in
theorem ltx_lifted (os : Os) (started : os.Started) (H : Type) (enc : TypeId × Value → H) (F : Stop.Interp) :
  ReturnsInHanded {} Tryz.checked os 5 .any ((OpenSpec.ofChange Rows.surdTextsSpec).preRow enc Tryz.prog Tryz.f5 Rows.surdTextsRow.domain false Rows.surdTextsRow.laid) (((OpenSpec.ofChange Rows.surdTextsSpec).at F).post enc Tryz.prog Tryz.f5 false true false false) := by
 obtain ⟨places, hx⟩ := ltx_reads os enc
 refine returnsInHanded_of_row (C := Tryz.checked) (s := OpenSpec.ofChange Rows.surdTextsSpec) ltx_own started (by kernel_rfl) Tryz.func5
  (witness_row_at (enc := enc) (C := Tryz.checked) false (World.laidAll Tryz.prog os Rows.surdTextsRow.laid) #[.agg #[.int .i64 0, .slice none 0 0], .string ⟨#[]⟩] (World.laidAll_os _ _ _) (by kernel_rfl) (by kernel_rfl) (by kernel_rfl)
   (OpenSpec.preRow_of_cond 8 hx (by kernel_rfl) (fun k hk => by cases hk) (by kernel_rfl) (ltx_laid os))) ?_
 intro W base args ds gs before hval hW _ _ _ hL hSh _
 exact ltx_contract H enc W base args ds gs before hval hW hL hSh
theorem ltx_inp : (Rows.surdTextsRow.inPlace == Tryz.pinned.checked.prog.inPlace 5) = true := by kernel_rfl
theorem ltx_unf : (Rows.surdTextsRow.unfollowed == Tryz.pinned.checked.prog.unfollowed 5) = true := by kernel_rfl
theorem ltx_rec : (Rows.surdTextsRow.recurses == Tryz.pinned.checked.prog.recurses 5) = true := by kernel_rfl
theorem ltx_nam : (Rows.surdTextsRow.named == Tryz.pinned.checked.prog.varsNamed 5) = true := by kernel_rfl
theorem ltx_goes : false = OpenClaim.goesBy Rows.surdTextsRow Tryz.pinned.checked.prog := by kernel_rfl
theorem ltx_facts : joinedFacts Tryz.pinned.checked.prog 5 Tryz.f5 (OpenSpec.ofChange Rows.surdTextsSpec).bare Rows.surdTextsRow = true := by
 unfold joinedFacts
 exact (both (both (both (both (both (both (both (both (both (both (both (both (both (both (both (both (both (both (both (both (both (both (both (both (both (both (both (both (both (both (both (by kernel_rfl) k_lay) k_rowed) (by kernel_rfl)) (by kernel_rfl)) (by kernel_rfl)) (by kernel_rfl)) (by kernel_rfl)) (by kernel_rfl)) ltx_inp) ltx_unf) ltx_rec) ltx_nam) (by kernel_rfl)) (by kernel_rfl)) (by kernel_rfl)) (by kernel_rfl)) (by kernel_rfl)) (by kernel_rfl)) (by kernel_rfl)) (by kernel_rfl)) (by kernel_rfl)) k_keys) (by kernel_rfl)) k_heard) k_may) k_lift) k_make) (by kernel_rfl)) (by kernel_rfl)) (by kernel_rfl)) (by kernel_rfl))
theorem ltx_said : Rows.SurdTextsSaid :=
 OpenClaim.holds_of_cond 5 Tryz.f5 rfl rfl rfl rfl rfl rfl rfl ⟨rfl, rfl, rfl, rfl, rfl⟩ rfl rfl rfl rfl rfl (by kernel_rfl) Tryz.func5 ltx_facts
  (of_decide_eq_true (by kernel_rfl)) (by unfold Func.isWrapper; first | (rw [if_pos (by decide +kernel)]; kernel_rfl) | (rw [if_neg (by decide +kernel)]; exact ⟨rfl, rfl⟩))
  (fun os started H enc _ F => by rw [OpenClaim.pre_eq_preRow]; exact ltx_lifted os started H enc F)
theorem ltx_plain (f : FuncId) (fn : Func) (hf : Tryz.pinned.checked.prog.funcNamed "chiti/chitilaw01.SurdTexts" = some f) (hfn : Tryz.pinned.checked.prog.funcs[f]? = some fn) :
  Rows.surdTextsCard.stood.looks = Tryz.pinned.checked.prog.looks [] ∧ ∀ (j : Nat) t, fn.params[j]? = some t → Tryz.pinned.checked.prog.wantsStandIn t = false := by
 obtain rfl : f = 5 := Option.some.inj ((show Tryz.prog.funcNamed "chiti/chitilaw01.SurdTexts" = some 5 by kernel_rfl).symm.trans hf) |>.symm
 obtain rfl : fn = Tryz.f5 := (Option.some.inj (Tryz.func5.symm.trans hfn)).symm
 refine ⟨by kernel_rfl, fun j t ht => ?_⟩
 rw [Tryz.params5] at ht
 have hm : t ∈ [24, 9] := by simpa using Array.mem_of_getElem? ht
 have hall : ([24, 9].all fun u => !Tryz.prog.wantsStandIn u) = true := by kernel_rfl
 exact (show Tryz.prog.wantsStandIn t = false by simpa using List.all_eq_true.1 hall t hm)
theorem surdTexts_holds : Rows.SurdTextsCardSaid :=
 Claim7.holds_tied_plain_at .later [] _ _ _ _ ltx_said (fun _ h => by cases h) (by kernel_rfl) (fun _ h => by cases h) surdTexts_row_tie rfl ⟨rfl, rfl⟩ k_main rfl ltx_plain ltx_goes
#print axioms surdTexts_holds
end Go.Proofs.YthkblgglmohciaaGreatDoor
