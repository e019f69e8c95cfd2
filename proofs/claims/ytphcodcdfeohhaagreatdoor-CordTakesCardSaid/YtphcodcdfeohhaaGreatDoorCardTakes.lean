/-
  chitilaw02.CordTakes returns true for every input, and its arguments read afterwards as before; the package's variables that it reads hold what the program's text lays.
-/
import Derived.Test.YtphcodcdfeohhaaGreatDoorLawOToTkcA
set_option linter.all false
namespace Go.Proofs.YtphcodcdfeohhaaGreatDoor
set_option maxRecDepth 100000
open Go.ChangeShapes Go.WideShapes Go.ChangeAt Go.RowKit Go.Proofs.YtphcodcdfeohhaaGreatDoor
theorem jck9:ownKnob Tryz.prog.godebug=none:=by kernel_rfl
theorem jck8:laidOutB Tryz.prog=true:=jcn0
theorem jcf9 {W : World} (h : laidMetH Tryz.prog Rows.cordTakesRow.laid W) : Jm W ∧ Lib.TabIs Tryz.prog W "internal/strconv.uint64pow10" .u64 Lib.pow10Tab := by
 rw[MakeChecks.laidMetH_plain _ _ _ (by kernel_rfl)] at h
 exact jcr6 h.tail.tail
theorem jag2 (H:Type) (enc:TypeId×Value->H) (W:World) (base:Nat) (args:Array Value) (ds gs:List (DataW H)) (before:List MemPlace)
  (hval:∀(j:Nat) t v,Tryz.f5.params[j]?=some t->args[j]?=some v->Value.okWide Tryz.prog W .any base t v)
  (hW:DataW.Whole enc Tryz.prog Tryz.f5.params.toList Rows.cordTakesSpec.vars false W args.toList ds gs before) (hL:laidMetH Tryz.prog Rows.cordTakesRow.laid W) :
  Calls Tryz.prog 5 args W λe W'=>∃v,e=.returned v/\Rows.cordTakesSpec.post enc Tryz.prog Tryz.f5 false true false false W args v W':=by
 have hW':=hW
 obtain⟨p,q,hA0,hV,rfl,hfz,hnd⟩:=hW
 have hA:DataW.TrodAll enc Tryz.prog W 0 (λ_=>true) true Tryz.f5.params.toList args.toList ds p:=hA0
 rw[Tryz.params5] at hA hval
 obtain⟨v0,vs0,d0,ds0,p0,q0,hargs0,rfl,rfl,h0,r0⟩:=trodAll_cons hA
 obtain⟨v1,vs1,d1,ds1,p1,q1,hargs1,rfl,rfl,h1,r1⟩:=trodAll_cons r0
 obtain⟨rfl,rfl,rfl⟩:=trodAll_nil r1
 obtain rfl:args=#[v0,v1]:=by cases args;simp_all
 obtain⟨rfl,rfl⟩:=trodVars_none hV
 have k0:=h0
 obtain⟨a0,A0,n0,c0,l0,rfl,P0,wa0,wl0⟩:=jcc2 (hval 0 _ _ rfl rfl) h0
 obtain⟨a1,rfl,rfl,rfl,wa1⟩:=open_int Tryz.underlying3 (hval 1 _ _ rfl rfl) h1
 clear hA0
 simp only[List.append_nil,List.nil_append] at hW'
 obtain⟨hE,hT⟩:=jcf9 hL
 refine(jbt0 a0 A0 n0 c0 l0 a1 W P0  hE hT).mono λe W' ⟨he,hb⟩=>?_
 subst he
 refine⟨_,rfl,_,_,_,[],p0++([]++[]),[],hW',?_,?_,rfl,hb.frame _,λh=>by cases h⟩
 ·exact trodAll_mk1 (shut_bool Tryz.underlying4 _)
 ·exact trodAll_cons_mk (Below.trod jck8 (by kernel_rfl) (of_decide_eq_true (by kernel_rfl)) k0 hb (λx hx=>by simpa using hW'.lt x (by simp[hx]))) (trodAll_cons_mk (shut_int Tryz.underlying3 wa1) trodAll_mk0)
theorem jcf7(os:Os):laidMet Tryz.prog Rows.cordTakesRow.laid ((World.doorLaid Tryz.prog 400 os).forCall (λ_ _=>0) ⟨#[],#[.agg #[.int .i64 0,.slice none 0 0],.int .i64 0],[]⟩).memory:=
 laidMet_of_run' 8 (by kernel_rfl) (by kernel_rfl)
theorem jbs9(os:Os){H:Type}(enc:TypeId×Value->H):∃places,DataW.whole enc Tryz.prog ((World.doorLaid Tryz.prog 400 os).forCall (λ_ _=>0) ⟨#[],#[.agg #[.int .i64 0,.slice none 0 0],.int .i64 0],[]⟩).memory Tryz.f5.params.toList Rows.cordTakesSpec.vars false #[Value.agg #[.int .i64 0,.slice none 0 0],.int .i64 0].toList 8=some ([.agg [.lit (.int .i64 0),.nil],.lit (.int .i64 0)],[],places):=
 ⟨[],by kernel_rfl⟩
theorem jbd7 (os:Os) (started:os.Started) (H:Type) (enc:TypeId×Value->H) (F:Stop.Interp) :
  ReturnsInHanded {} Tryz.checked os 5 .any ((OpenSpec.ofChange Rows.cordTakesSpec).preRow enc Tryz.prog Tryz.f5 Rows.cordTakesRow.domain false Rows.cordTakesRow.laid) (((OpenSpec.ofChange Rows.cordTakesSpec).at F).post enc Tryz.prog Tryz.f5 false true false false):=by
 obtain⟨places,hx⟩:=jbs9 os enc
 refine returnsInHanded_of_row (C:=Tryz.checked) (s:=OpenSpec.ofChange Rows.cordTakesSpec) jck9 started (by kernel_rfl) Tryz.func5
  (witness_row_at (enc:=enc) (C:=Tryz.checked) false (World.doorLaid Tryz.prog 400 os) #[.agg #[.int .i64 0,.slice none 0 0],.int .i64 0] rfl (by kernel_rfl) (by kernel_rfl) (by kernel_rfl)
   (OpenSpec.preRow_of_cond 8 hx (by kernel_rfl) (λk hk=>by cases hk) (by kernel_rfl) (jcf7 os))) ?_
 intro W base args ds gs before hval hW _ _ _ hL _ _
 exact jag2 H enc W base args ds gs before hval hW hL
theorem jck6:(Rows.cordTakesRow.inPlace==Tryz.pinned.checked.prog.inPlace 5)=true:=by kernel_rfl
theorem jcm1:(Rows.cordTakesRow.unfollowed==Tryz.pinned.checked.prog.unfollowed 5)=true:=by kernel_rfl
theorem jcm0:(Rows.cordTakesRow.recurses==Tryz.pinned.checked.prog.recurses 5)=true:=by kernel_rfl
theorem jck7:(Rows.cordTakesRow.named==Tryz.pinned.checked.prog.varsNamed 5)=true:=by kernel_rfl
theorem jcf6:false=OpenClaim.goesBy Rows.cordTakesRow Tryz.pinned.checked.prog:=by kernel_rfl
theorem jbs7:joinedFacts Tryz.pinned.checked.prog 5 Tryz.f5 (OpenSpec.ofChange Rows.cordTakesSpec).bare Rows.cordTakesRow=true:=by
 unfold joinedFacts
 exact(both (both (both (both (both (both (both (both (both (both (both (both (both (both (both (both (both (both (both (both (both (both (both (both (both (both (both (both (both (both (both (by kernel_rfl) jcn0) jch7) (by kernel_rfl)) (by kernel_rfl)) (by kernel_rfl)) (by kernel_rfl)) (by kernel_rfl)) (by kernel_rfl)) jck6) jcm1) jcm0) jck7) (by kernel_rfl)) (by kernel_rfl)) (by kernel_rfl)) (by kernel_rfl)) (by kernel_rfl)) (by kernel_rfl)) (by kernel_rfl)) (by kernel_rfl)) (by kernel_rfl)) jcp5) (by kernel_rfl)) jch6) jcr9) jcp6) jcp8) (by kernel_rfl)) (by kernel_rfl)) (by kernel_rfl)) (by kernel_rfl))
theorem jcf8:Rows.CordTakesSaid:=
 OpenClaim.holds_of_cond 5 Tryz.f5 rfl rfl rfl rfl rfl rfl rfl ⟨rfl,rfl,rfl,rfl,rfl⟩ rfl rfl rfl rfl rfl (by kernel_rfl) Tryz.func5 jbs7
  (of_decide_eq_true (by kernel_rfl)) (by unfold Func.isWrapper;first|(rw[if_pos (by decide +kernel)];kernel_rfl)|(rw[if_neg (by decide +kernel)];exact⟨rfl,rfl⟩))
  (λos started H enc _ F=>by rw[OpenClaim.pre_eq_preRow];exact jbd7 os started H enc F)
theorem jbs8 (f : FuncId) (fn : Func) (hf : Tryz.pinned.checked.prog.funcNamed "chiti/chitilaw02.CordTakes" = some f) (hfn : Tryz.pinned.checked.prog.funcs[f]? = some fn) :
  Rows.cordTakesCard.stood.looks=Tryz.pinned.checked.prog.looks []/\∀(j:Nat) t,fn.params[j]?=some t->Tryz.pinned.checked.prog.wantsStandIn t=false:=by
 obtain rfl : f = 5 := Option.some.inj ((show Tryz.prog.funcNamed "chiti/chitilaw02.CordTakes" = some 5 by kernel_rfl).symm.trans hf) |>.symm
 obtain rfl:fn=Tryz.f5:=(Option.some.inj (Tryz.func5.symm.trans hfn)).symm
 refine⟨by kernel_rfl,λj t ht=>?_⟩
 rw[Tryz.params5] at ht
 have hm:t∈[24,3]:=by simpa using Array.mem_of_getElem? ht
 have hall:([24,3].all λu=>!Tryz.prog.wantsStandIn u)=true:=by kernel_rfl
 exact(show Tryz.prog.wantsStandIn t=false by simpa using List.all_eq_true.1 hall t hm)
theorem cordTakes_holds:Rows.CordTakesCardSaid:=
 Claim7.holds_tied_plain_at .later [] _ _ _ _ jcf8 (λ_ h=>by cases h) (by kernel_rfl) (λ_ h=>by cases h) cordTakes_row_tie rfl ⟨rfl,rfl⟩ jcp7 rfl jbs8 jcf6
#print axioms cordTakes_holds
