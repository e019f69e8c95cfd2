/-
  chitilaw02.CordNearest returns true for every input, and its arguments read afterwards as before; the package's variables that it reads hold what the program's text lays.
-/
import Derived.Test.YtphcodcdfeohhaaGreatDoorCards
import Derived.Test.YtphcodcdfeohhaaGreatDoorTie
import Derived.Test.YtphcodcdfeohhaaGreatDoorCneA
import Derived.Test.YtphcodcdfeohhaaGreatDoorCordXToCardK
import Derived.Test.YtphcodcdfeohhaaGreatDoorCordGToMakeB
import Derived.Carry
set_option linter.unusedVariables false
set_option linter.unusedSimpArgs false
namespace Go.Proofs.YtphcodcdfeohhaaGreatDoor
set_option maxRecDepth 100000
open Go.ChangeShapes Go.WideShapes Go.ChangeAt Go.RowKit Go.Proofs.YtphcodcdfeohhaaGreatDoor
theorem jdk7:ownKnob Tryz.prog.godebug=none:=by kernel_rfl
theorem jck2:Go.WideMaps.ArrKey Tryz.prog 50 49 4:=⟨Tryz.underlying50,by kernel_rfl,by kernel_rfl,by kernel_rfl⟩
theorem jdb4 {W : World} (h : laidMetH Tryz.prog Rows.cordNearestRow.laid W) : jm0 W ∧ Lib.TabIs Tryz.prog W "internal/strconv.uint64pow10" .u64 Lib.pow10Tab := by
 rw[MakeChecks.laidMetH_plain _ _ _ (by kernel_rfl)] at h
 exact jdt6 h.tail.tail
theorem jbj8 (H:Type) (enc:TypeId×Value->H) (W:World) (base:Nat) (args:Array Value) (ds gs:List (DataW H)) (before:List MemPlace)
  (hval:∀(j:Nat) t v,Tryz.f6.params[j]?=some t->args[j]?=some v->Value.okWide Tryz.prog W .any base t v)
  (hW:DataW.Whole enc Tryz.prog Tryz.f6.params.toList Rows.cordNearestSpec.vars false W args.toList ds gs before) (hL:laidMetH Tryz.prog Rows.cordNearestRow.laid W) :
  Calls Tryz.prog 6 args W fun e W'=>∃v,e=.returned v/\Rows.cordNearestSpec.post enc Tryz.prog Tryz.f6 false true false false W args v W':=by
 have hW':=hW
 obtain⟨p,q,hA0,hV,rfl,hfz,hnd⟩:=hW
 have hA:DataW.TrodAll enc Tryz.prog W 0 (fun _=>true) true Tryz.f6.params.toList args.toList ds p:=hA0
 rw[Tryz.params6] at hA hval
 obtain⟨v0,vs0,d0,ds0,p0,q0,hargs0,rfl,rfl,h0,r0⟩:=trodAll_cons hA
 obtain⟨rfl,rfl,rfl⟩:=trodAll_nil r0
 obtain rfl:args=#[v0]:=by cases args;simp_all
 obtain⟨rfl,rfl⟩:=trodVars_none hV
 obtain⟨a0,b0,c0,g0,rfl,rfl,rfl,wa0,wb0,wc0,wg0⟩:=jcv0 jck2 Tryz.underlying49 (hval 0 _ _ rfl rfl) h0
 clear hA0
 simp only[List.append_nil] at hW'
 obtain⟨hE,hT⟩:=jdb4 hL
 refine(jay3 a0 b0 c0 g0 W (wf16 wa0) (wf16 wb0) (wf16 wc0) (wf16 wg0) hE hT).mono fun e W' ⟨he,hb⟩=>?_
 subst he
 refine⟨_,rfl,_,_,_,[],[],[],hW',?_,?_,rfl,hb.frame _,fun h=>by cases h⟩
 ·exact trodAll_mk1 (shut_bool Tryz.underlying4 _)
 ·exact trodAll_cons_mk (jcy8 jck2 Tryz.underlying49 wa0 wb0 wc0 wg0) trodAll_mk0
theorem jdb2(os:Os):laidMet Tryz.prog Rows.cordNearestRow.laid ((World.doorLaid Tryz.prog 400 os).forCall (fun _ _=>0) ⟨#[],#[.agg #[.int .u16 0,.int .u16 0,.int .u16 0,.int .u16 0]],[]⟩).memory:=
 laidMet_of_run' 8 (by kernel_rfl) (by kernel_rfl)
theorem jcr2(os:Os){H:Type}(enc:TypeId×Value->H):∃places,DataW.whole enc Tryz.prog ((World.doorLaid Tryz.prog 400 os).forCall (fun _ _=>0) ⟨#[],#[.agg #[.int .u16 0,.int .u16 0,.int .u16 0,.int .u16 0]],[]⟩).memory Tryz.f6.params.toList Rows.cordNearestSpec.vars false #[Value.agg #[.int .u16 0,.int .u16 0,.int .u16 0,.int .u16 0]].toList 8=some ([.agg [.lit (.int .u16 0),.lit (.int .u16 0),.lit (.int .u16 0),.lit (.int .u16 0)]],[],places):=
 ⟨[],by kernel_rfl⟩
theorem jcc0 (os:Os) (started:os.Started) (H:Type) (enc:TypeId×Value->H) (F:Stop.Interp) :
  ReturnsInHanded {} Tryz.checked os 6 .any ((OpenSpec.ofChange Rows.cordNearestSpec).preRow enc Tryz.prog Tryz.f6 Rows.cordNearestRow.domain false Rows.cordNearestRow.laid) (((OpenSpec.ofChange Rows.cordNearestSpec).at F).post enc Tryz.prog Tryz.f6 false true false false):=by
 obtain⟨places,hx⟩:=jcr2 os enc
 refine returnsInHanded_of_row (C:=Tryz.checked) (s:=OpenSpec.ofChange Rows.cordNearestSpec) jdk7 started (by kernel_rfl) Tryz.func6
  (witness_row_at (enc:=enc) (C:=Tryz.checked) false (World.doorLaid Tryz.prog 400 os) #[.agg #[.int .u16 0,.int .u16 0,.int .u16 0,.int .u16 0]] rfl (by kernel_rfl) (by kernel_rfl) (by kernel_rfl)
   (OpenSpec.preRow_of_cond 8 hx (by kernel_rfl) (fun k hk=>by cases hk) (by kernel_rfl) (jdb2 os))) ?_
 intro W base args ds gs before hval hW _ _ _ hL _ _
 exact jbj8 H enc W base args ds gs before hval hW hL
theorem jdk5:(Rows.cordNearestRow.inPlace==Tryz.pinned.checked.prog.inPlace 6)=true:=by kernel_rfl
theorem jdk9:(Rows.cordNearestRow.unfollowed==Tryz.pinned.checked.prog.unfollowed 6)=true:=by kernel_rfl
theorem jdk8:(Rows.cordNearestRow.recurses==Tryz.pinned.checked.prog.recurses 6)=true:=by kernel_rfl
theorem jdk6:(Rows.cordNearestRow.named==Tryz.pinned.checked.prog.varsNamed 6)=true:=by kernel_rfl
theorem jdb1:false=OpenClaim.goesBy Rows.cordNearestRow Tryz.pinned.checked.prog:=by kernel_rfl
theorem jcr0:joinedFacts Tryz.pinned.checked.prog 6 Tryz.f6 (OpenSpec.ofChange Rows.cordNearestSpec).bare Rows.cordNearestRow=true:=by
 unfold joinedFacts
 exact(both (both (both (both (both (both (both (both (both (both (both (both (both (both (both (both (both (both (both (both (both (both (both (both (both (both (both (both (both (both (both (by kernel_rfl) jdt8) jdm6) (by kernel_rfl)) (by kernel_rfl)) (by kernel_rfl)) (by kernel_rfl)) (by kernel_rfl)) (by kernel_rfl)) jdk5) jdk9) jdk8) jdk6) (by kernel_rfl)) (by kernel_rfl)) (by kernel_rfl)) (by kernel_rfl)) (by kernel_rfl)) (by kernel_rfl)) (by kernel_rfl)) (by kernel_rfl)) (by kernel_rfl)) jds6) (by kernel_rfl)) jdm5) jdt9) jds7) jds9) (by kernel_rfl)) (by kernel_rfl)) (by kernel_rfl)) (by kernel_rfl))
theorem jdb3:Rows.CordNearestSaid:=
 OpenClaim.holds_of_cond 6 Tryz.f6 rfl rfl rfl rfl rfl rfl rfl ⟨rfl,rfl,rfl,rfl,rfl⟩ rfl rfl rfl rfl rfl (by kernel_rfl) Tryz.func6 jcr0
  (of_decide_eq_true (by kernel_rfl)) (by unfold Func.isWrapper;first|(rw[if_pos (by decide +kernel)];kernel_rfl)|(rw[if_neg (by decide +kernel)];exact⟨rfl,rfl⟩))
  (fun os started H enc _ F=>by rw[OpenClaim.pre_eq_preRow];exact jcc0 os started H enc F)
theorem jcr1 (f : FuncId) (fn : Func) (hf : Tryz.pinned.checked.prog.funcNamed "chiti/chitilaw02.CordNearest" = some f) (hfn : Tryz.pinned.checked.prog.funcs[f]? = some fn) :
  Rows.cordNearestCard.stood.looks=Tryz.pinned.checked.prog.looks []/\∀(j:Nat) t,fn.params[j]?=some t->Tryz.pinned.checked.prog.wantsStandIn t=false:=by
 obtain rfl : f = 6 := Option.some.inj ((show Tryz.prog.funcNamed "chiti/chitilaw02.CordNearest" = some 6 by kernel_rfl).symm.trans hf) |>.symm
 obtain rfl:fn=Tryz.f6:=(Option.some.inj (Tryz.func6.symm.trans hfn)).symm
 refine⟨by kernel_rfl,fun j t ht=>?_⟩
 rw[Tryz.params6] at ht
 have hm:t∈[50]:=by simpa using Array.mem_of_getElem? ht
 have hall:([50].all fun u=>!Tryz.prog.wantsStandIn u)=true:=by kernel_rfl
 exact(show Tryz.prog.wantsStandIn t=false by simpa using List.all_eq_true.1 hall t hm)
theorem cordNearest_holds:Rows.CordNearestCardSaid:=
 Claim7.holds_tied_plain_at .later [] _ _ _ _ jdb3 (fun _ h=>by cases h) (by kernel_rfl) (fun _ h=>by cases h) cordNearest_row_tie rfl ⟨rfl,rfl⟩ jds8 rfl jcr1 jdb1
#print axioms cordNearest_holds
end Go.Proofs.YtphcodcdfeohhaaGreatDoor
