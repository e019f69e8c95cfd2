/-
  chitilaw02.CordRules returns true for every input, and its arguments read afterwards as before; the package's variables that it reads hold what the program's text lays.
-/
import Derived.Test.YtphcodcdfeohhaaGreatDoorRlcA
set_option linter.all false
namespace Go.Proofs.YtphcodcdfeohhaaGreatDoor
set_option maxRecDepth 100000
open Go.ChangeShapes Go.WideShapes Go.ChangeAt Go.RowKit Go.Proofs.YtphcodcdfeohhaaGreatDoor
theorem jdg0:ownKnob Tryz.prog.godebug=none:=by kernel_rfl
theorem jdb4:laidOutB Tryz.prog=true:=jcn0
theorem jdf3 {W : World} (h : laidMetH Tryz.prog Rows.cordRulesRow.laid W) : Jm W ∧ Lib.TabIs Tryz.prog W "internal/strconv.uint64pow10" .u64 Lib.pow10Tab := by
 rw[MakeChecks.laidMetH_plain _ _ _ (by kernel_rfl)] at h
 exact jcr6 h.tail.tail
theorem jcz4 (H:Type) (enc:TypeId×Value->H) (W:World) (base:Nat) (args:Array Value) (ds gs:List (DataW H)) (before:List MemPlace)
  (hval:∀(j:Nat) t v,Tryz.f3.params[j]?=some t->args[j]?=some v->Value.okWide Tryz.prog W .any base t v)
  (hW:DataW.Whole enc Tryz.prog Tryz.f3.params.toList Rows.cordRulesSpec.vars false W args.toList ds gs before) (hL:laidMetH Tryz.prog Rows.cordRulesRow.laid W) :
  Calls Tryz.prog 3 args W λe W'=>∃v,e=.returned v/\Rows.cordRulesSpec.post enc Tryz.prog Tryz.f3 false true false false W args v W':=by
 have hW':=hW
 obtain⟨p,q,hA0,hV,rfl,hfz,hnd⟩:=hW
 have hA:DataW.TrodAll enc Tryz.prog W 0 (λ_=>true) true Tryz.f3.params.toList args.toList ds p:=hA0
 rw[Tryz.params3] at hA hval
 obtain⟨v0,vs0,d0,ds0,p0,q0,hargs0,rfl,rfl,h0,r0⟩:=trodAll_cons hA
 obtain⟨v1,vs1,d1,ds1,p1,q1,hargs1,rfl,rfl,h1,r1⟩:=trodAll_cons r0
 obtain⟨v2,vs2,d2,ds2,p2,q2,hargs2,rfl,rfl,h2,r2⟩:=trodAll_cons r1
 obtain⟨rfl,rfl,rfl⟩:=trodAll_nil r2
 obtain rfl:args=#[v0,v1,v2]:=by cases args;simp_all
 obtain⟨rfl,rfl⟩:=trodVars_none hV
 have k0:=h0
 obtain⟨a0,A0,n0,c0,l0,rfl,P0,wa0,wl0⟩:=jcc2 (hval 0 _ _ rfl rfl) h0
 have k1:=h1
 obtain⟨ld1,lA1,ln1,lc1,lt1,hd1,hA1,hn1,hc1,ht1,rfl,PL1,PH1⟩:=jcz0 (hval 1 _ _ rfl rfl) h1
 obtain⟨a2,rfl,rfl,rfl,wa2⟩:=open_int Tryz.underlying3 (hval 2 _ _ rfl rfl) h2
 clear hA0
 simp only[List.append_nil,List.nil_append] at hW'
 obtain⟨hE,hT⟩:=jdf3 hL
 refine(jdd1 a0 A0 n0 c0 l0 ld1 lA1 ln1 lc1 lt1 hd1 hA1 hn1 hc1 ht1 a2 W P0 PL1 PH1  hE hT).mono λe W' ⟨he,hb⟩=>?_
 subst he
 refine⟨_,rfl,_,_,_,[],p0++(p1++([]++[])),[],hW',?_,?_,rfl,hb.frame _,λh=>by cases h⟩
 ·exact trodAll_mk1 (shut_bool Tryz.underlying4 _)
 ·exact trodAll_cons_mk (Below.trod jdb4 (by kernel_rfl) (of_decide_eq_true (by kernel_rfl)) k0 hb (λx hx=>by simpa using hW'.lt x (by simp[hx]))) (trodAll_cons_mk (Below.trod jdb4 (by kernel_rfl) (of_decide_eq_true (by kernel_rfl)) k1 hb (λx hx=>by simpa using hW'.lt x (by simp[hx]))) (trodAll_cons_mk (shut_int Tryz.underlying3 wa2) trodAll_mk0))
theorem jdf1(os:Os):laidMet Tryz.prog Rows.cordRulesRow.laid ((World.doorLaid Tryz.prog 400 os).forCall (λ_ _=>0) ⟨#[],#[.agg #[.int .i64 0,.slice none 0 0],.agg #[.int .i64 0,.slice none 0 0,.int .i64 0,.slice none 0 0],.int .i64 0],[]⟩).memory:=
 laidMet_of_run' 8 (by kernel_rfl) (by kernel_rfl)
theorem jdd0(os:Os){H:Type}(enc:TypeId×Value->H):∃places,DataW.whole enc Tryz.prog ((World.doorLaid Tryz.prog 400 os).forCall (λ_ _=>0) ⟨#[],#[.agg #[.int .i64 0,.slice none 0 0],.agg #[.int .i64 0,.slice none 0 0,.int .i64 0,.slice none 0 0],.int .i64 0],[]⟩).memory Tryz.f3.params.toList Rows.cordRulesSpec.vars false #[Value.agg #[.int .i64 0,.slice none 0 0],.agg #[.int .i64 0,.slice none 0 0,.int .i64 0,.slice none 0 0],.int .i64 0].toList 8=some ([.agg [.lit (.int .i64 0),.nil],.agg [.agg [.lit (.int .i64 0),.nil],.agg [.lit (.int .i64 0),.nil]],.lit (.int .i64 0)],[],places):=
 ⟨[],by kernel_rfl⟩
theorem jdb0 (os:Os) (started:os.Started) (H:Type) (enc:TypeId×Value->H) (F:Stop.Interp) :
  ReturnsInHanded {} Tryz.checked os 3 .any ((OpenSpec.ofChange Rows.cordRulesSpec).preRow enc Tryz.prog Tryz.f3 Rows.cordRulesRow.domain false Rows.cordRulesRow.laid) (((OpenSpec.ofChange Rows.cordRulesSpec).at F).post enc Tryz.prog Tryz.f3 false true false false):=by
 obtain⟨places,hx⟩:=jdd0 os enc
 refine returnsInHanded_of_row (C:=Tryz.checked) (s:=OpenSpec.ofChange Rows.cordRulesSpec) jdg0 started (by kernel_rfl) Tryz.func3
  (witness_row_at (enc:=enc) (C:=Tryz.checked) false (World.doorLaid Tryz.prog 400 os) #[.agg #[.int .i64 0,.slice none 0 0],.agg #[.int .i64 0,.slice none 0 0,.int .i64 0,.slice none 0 0],.int .i64 0] rfl (by kernel_rfl) (by kernel_rfl) (by kernel_rfl)
   (OpenSpec.preRow_of_cond 8 hx (by kernel_rfl) (λk hk=>by cases hk) (by kernel_rfl) (jdf1 os))) ?_
 intro W base args ds gs before hval hW _ _ _ hL _ _
 exact jcz4 H enc W base args ds gs before hval hW hL
theorem jdf8:(Rows.cordRulesRow.inPlace==Tryz.pinned.checked.prog.inPlace 3)=true:=by kernel_rfl
theorem jdg2:(Rows.cordRulesRow.unfollowed==Tryz.pinned.checked.prog.unfollowed 3)=true:=by kernel_rfl
theorem jdg1:(Rows.cordRulesRow.recurses==Tryz.pinned.checked.prog.recurses 3)=true:=by kernel_rfl
theorem jdf9:(Rows.cordRulesRow.named==Tryz.pinned.checked.prog.varsNamed 3)=true:=by kernel_rfl
theorem jdf0:false=OpenClaim.goesBy Rows.cordRulesRow Tryz.pinned.checked.prog:=by kernel_rfl
theorem jdc8:joinedFacts Tryz.pinned.checked.prog 3 Tryz.f3 (OpenSpec.ofChange Rows.cordRulesSpec).bare Rows.cordRulesRow=true:=by
 unfold joinedFacts
 exact(both (both (both (both (both (both (both (both (both (both (both (both (both (both (both (both (both (both (both (both (both (both (both (both (both (both (both (both (both (both (both (by kernel_rfl) jcn0) jch7) (by kernel_rfl)) (by kernel_rfl)) (by kernel_rfl)) (by kernel_rfl)) (by kernel_rfl)) (by kernel_rfl)) jdf8) jdg2) jdg1) jdf9) (by kernel_rfl)) (by kernel_rfl)) (by kernel_rfl)) (by kernel_rfl)) (by kernel_rfl)) (by kernel_rfl)) (by kernel_rfl)) (by kernel_rfl)) (by kernel_rfl)) jcp5) (by kernel_rfl)) jch6) jcr9) jcp6) jcp8) (by kernel_rfl)) (by kernel_rfl)) (by kernel_rfl)) (by kernel_rfl))
theorem jdf2:Rows.CordRulesSaid:=
 OpenClaim.holds_of_cond 3 Tryz.f3 rfl rfl rfl rfl rfl rfl rfl ⟨rfl,rfl,rfl,rfl,rfl⟩ rfl rfl rfl rfl rfl (by kernel_rfl) Tryz.func3 jdc8
  (of_decide_eq_true (by kernel_rfl)) (by unfold Func.isWrapper;first|(rw[if_pos (by decide +kernel)];kernel_rfl)|(rw[if_neg (by decide +kernel)];exact⟨rfl,rfl⟩))
  (λos started H enc _ F=>by rw[OpenClaim.pre_eq_preRow];exact jdb0 os started H enc F)
theorem jdc9 (f : FuncId) (fn : Func) (hf : Tryz.pinned.checked.prog.funcNamed "chiti/chitilaw02.CordRules" = some f) (hfn : Tryz.pinned.checked.prog.funcs[f]? = some fn) :
  Rows.cordRulesCard.stood.looks=Tryz.pinned.checked.prog.looks []/\∀(j:Nat) t,fn.params[j]?=some t->Tryz.pinned.checked.prog.wantsStandIn t=false:=by
 obtain rfl : f = 3 := Option.some.inj ((show Tryz.prog.funcNamed "chiti/chitilaw02.CordRules" = some 3 by kernel_rfl).symm.trans hf) |>.symm
 obtain rfl:fn=Tryz.f3:=(Option.some.inj (Tryz.func3.symm.trans hfn)).symm
 refine⟨by kernel_rfl,λj t ht=>?_⟩
 rw[Tryz.params3] at ht
 have hm:t∈[24,26,3]:=by simpa using Array.mem_of_getElem? ht
 have hall:([24,26,3].all λu=>!Tryz.prog.wantsStandIn u)=true:=by kernel_rfl
 exact(show Tryz.prog.wantsStandIn t=false by simpa using List.all_eq_true.1 hall t hm)
theorem cordRules_holds:Rows.CordRulesCardSaid:=
 Claim7.holds_tied_plain_at .later [] _ _ _ _ jdf2 (λ_ h=>by cases h) (by kernel_rfl) (λ_ h=>by cases h) cordRules_row_tie rfl ⟨rfl,rfl⟩ jcp7 rfl jdc9 jdf0
#print axioms cordRules_holds
