import Derived.Test.YtphcodcdfeohhaaGreatDoorCards
import Derived.Test.YtphcodcdfeohhaaGreatDoorTie
import Derived.Test.YtphcodcdfeohhaaGreatDoorOfcA
import Derived.Test.YtphcodcdfeohhaaGreatDoorCordGToCardB
import Derived.Carry
set_option linter.unusedVariables false
set_option linter.unusedSimpArgs false
namespace Go.Proofs.YtphcodcdfeohhaaGreatDoor
set_option maxRecDepth 100000
open Go.ChangeShapes Go.WideShapes Go.ChangeAt Go.RowKit Go.Proofs.YtphcodcdfeohhaaGreatDoor
theorem jfj4:ownKnob Tryz.prog.godebug=none:=by kernel_rfl
theorem jdg2:Go.WideMaps.ArrKey Tryz.prog 36 3 2:=⟨Tryz.underlying36,by kernel_rfl,by kernel_rfl,by kernel_rfl⟩
theorem jdg3:laidOutB Tryz.prog=true:=jfn0
theorem jfc2 {W : World} (h : laidMetH Tryz.prog Rows.cordOffsRow.laid W) : jp2 W ∧ Lib.TabIs Tryz.prog W "internal/strconv.uint64pow10" .u64 Lib.pow10Tab := by
 rw[MakeChecks.laidMetH_plain _ _ _ (by kernel_rfl)] at h
 exact jfs1 h.tail.tail
theorem jcb9 (H:Type) (enc:TypeId×Value->H) (W:World) (base:Nat) (args:Array Value) (ds gs:List (DataW H)) (before:List MemPlace)
  (hval:∀(j:Nat) t v,Tryz.f4.params[j]?=some t->args[j]?=some v->Value.okWide Tryz.prog W .any base t v)
  (hW:DataW.Whole enc Tryz.prog Tryz.f4.params.toList Rows.cordOffsSpec.vars false W args.toList ds gs before) (hL:laidMetH Tryz.prog Rows.cordOffsRow.laid W) :
  Calls Tryz.prog 4 args W fun e W'=>∃v,e=.returned v/\Rows.cordOffsSpec.post enc Tryz.prog Tryz.f4 false true false false W args v W':=by
 have hW':=hW
 obtain⟨p,q,hA0,hV,rfl,hfz,hnd⟩:=hW
 have hA:DataW.TrodAll enc Tryz.prog W 0 (fun _=>true) true Tryz.f4.params.toList args.toList ds p:=hA0
 rw[Tryz.params4] at hA hval
 obtain⟨v0,vs0,d0,ds0,p0,q0,hargs0,rfl,rfl,h0,r0⟩:=trodAll_cons hA
 obtain⟨v1,vs1,d1,ds1,p1,q1,hargs1,rfl,rfl,h1,r1⟩:=trodAll_cons r0
 obtain⟨v2,vs2,d2,ds2,p2,q2,hargs2,rfl,rfl,h2,r2⟩:=trodAll_cons r1
 obtain⟨rfl,rfl,rfl⟩:=trodAll_nil r2
 obtain rfl:args=#[v0,v1,v2]:=by cases args;simp_all
 obtain⟨rfl,rfl⟩:=trodVars_none hV
 have k0:=h0
 obtain⟨a0,A0,n0,c0,l0,rfl,P0,wa0,wl0⟩:=jcn3 (hval 0 _ _ rfl rfl) h0
 have k1:=h1
 obtain⟨a1,A1,n1,c1,l1,rfl,P1,wa1,wl1⟩:=jcn3 (hval 1 _ _ rfl rfl) h1
 obtain⟨a2,b2,rfl,rfl,rfl,wa2,wb2⟩:=Go.WideMaps.open_pair jdg2 Tryz.underlying3 (hval 2 _ _ rfl rfl) h2
 clear hA0
 simp only[List.append_nil,List.nil_append] at hW'
 obtain⟨hE,hT⟩:=jfc2 hL
 refine(jfb8 a0 A0 n0 c0 l0 a1 A1 n1 c1 l1 a2 b2 W P0 P1  hE hT).mono fun e W' ⟨he,hb⟩=>?_
 subst he
 refine⟨_,rfl,_,_,_,[],p0++(p1++([]++[])),[],hW',?_,?_,rfl,hb.frame _,fun h=>by cases h⟩
 ·exact trodAll_mk1 (shut_bool Tryz.underlying4 _)
 ·exact trodAll_cons_mk (Below.trod jdg3 (by kernel_rfl) (of_decide_eq_true (by kernel_rfl)) k0 hb (fun x hx=>by simpa using hW'.lt x (by simp[hx]))) (trodAll_cons_mk (Below.trod jdg3 (by kernel_rfl) (of_decide_eq_true (by kernel_rfl)) k1 hb (fun x hx=>by simpa using hW'.lt x (by simp[hx]))) (trodAll_cons_mk (Go.WideMaps.shut_pair jdg2 Tryz.underlying3 wa2 wb2) trodAll_mk0))
theorem jfc0(os:Os):laidMet Tryz.prog Rows.cordOffsRow.laid ((World.doorLaid Tryz.prog 400 os).forCall (fun _ _=>0) ⟨#[],#[.agg #[.int .i64 0,.slice none 0 0],.agg #[.int .i64 0,.slice none 0 0],.agg #[.int .i64 0,.int .i64 0]],[]⟩).memory:=
 laidMet_of_run' 8 (by kernel_rfl) (by kernel_rfl)
theorem jdn5(os:Os){H:Type}(enc:TypeId×Value->H):∃places,DataW.whole enc Tryz.prog ((World.doorLaid Tryz.prog 400 os).forCall (fun _ _=>0) ⟨#[],#[.agg #[.int .i64 0,.slice none 0 0],.agg #[.int .i64 0,.slice none 0 0],.agg #[.int .i64 0,.int .i64 0]],[]⟩).memory Tryz.f4.params.toList Rows.cordOffsSpec.vars false #[Value.agg #[.int .i64 0,.slice none 0 0],.agg #[.int .i64 0,.slice none 0 0],.agg #[.int .i64 0,.int .i64 0]].toList 8=some ([.agg [.lit (.int .i64 0),.nil],.agg [.lit (.int .i64 0),.nil],.agg [.lit (.int .i64 0),.lit (.int .i64 0)]],[],places):=
 ⟨[],by kernel_rfl⟩
theorem jcz3 (os:Os) (started:os.Started) (H:Type) (enc:TypeId×Value->H) (F:Stop.Interp) :
  ReturnsInHanded {} Tryz.checked os 4 .any ((OpenSpec.ofChange Rows.cordOffsSpec).preRow enc Tryz.prog Tryz.f4 Rows.cordOffsRow.domain false Rows.cordOffsRow.laid) (((OpenSpec.ofChange Rows.cordOffsSpec).at F).post enc Tryz.prog Tryz.f4 false true false false):=by
 obtain⟨places,hx⟩:=jdn5 os enc
 refine returnsInHanded_of_row (C:=Tryz.checked) (s:=OpenSpec.ofChange Rows.cordOffsSpec) jfj4 started (by kernel_rfl) Tryz.func4
  (witness_row_at (enc:=enc) (C:=Tryz.checked) false (World.doorLaid Tryz.prog 400 os) #[.agg #[.int .i64 0,.slice none 0 0],.agg #[.int .i64 0,.slice none 0 0],.agg #[.int .i64 0,.int .i64 0]] rfl (by kernel_rfl) (by kernel_rfl) (by kernel_rfl)
   (OpenSpec.preRow_of_cond 8 hx (by kernel_rfl) (fun k hk=>by cases hk) (by kernel_rfl) (jfc0 os))) ?_
 intro W base args ds gs before hval hW _ _ _ hL _ _
 exact jcb9 H enc W base args ds gs before hval hW hL
theorem jfj2:(Rows.cordOffsRow.inPlace==Tryz.pinned.checked.prog.inPlace 4)=true:=by kernel_rfl
theorem jfj6:(Rows.cordOffsRow.unfollowed==Tryz.pinned.checked.prog.unfollowed 4)=true:=by kernel_rfl
theorem jfj5:(Rows.cordOffsRow.recurses==Tryz.pinned.checked.prog.recurses 4)=true:=by kernel_rfl
theorem jfj3:(Rows.cordOffsRow.named==Tryz.pinned.checked.prog.varsNamed 4)=true:=by kernel_rfl
theorem jfb9:false=OpenClaim.goesBy Rows.cordOffsRow Tryz.pinned.checked.prog:=by kernel_rfl
theorem jdn3:joinedFacts Tryz.pinned.checked.prog 4 Tryz.f4 (OpenSpec.ofChange Rows.cordOffsSpec).bare Rows.cordOffsRow=true:=by
 unfold joinedFacts
 exact(both (both (both (both (both (both (both (both (both (both (both (both (both (both (both (both (both (both (both (both (both (both (both (both (both (both (both (both (both (both (both (by kernel_rfl) jfn0) jfh4) (by kernel_rfl)) (by kernel_rfl)) (by kernel_rfl)) (by kernel_rfl)) (by kernel_rfl)) (by kernel_rfl)) jfj2) jfj6) jfj5) jfj3) (by kernel_rfl)) (by kernel_rfl)) (by kernel_rfl)) (by kernel_rfl)) (by kernel_rfl)) (by kernel_rfl)) (by kernel_rfl)) (by kernel_rfl)) (by kernel_rfl)) jfp6) (by kernel_rfl)) jfh3) jfs5) jfp7) jfp9) (by kernel_rfl)) (by kernel_rfl)) (by kernel_rfl)) (by kernel_rfl))
theorem jfc1:Rows.CordOffsSaid:=
 OpenClaim.holds_of_cond 4 Tryz.f4 rfl rfl rfl rfl rfl rfl rfl ⟨rfl,rfl,rfl,rfl,rfl⟩ rfl rfl rfl rfl rfl (by kernel_rfl) Tryz.func4 jdn3
  (of_decide_eq_true (by kernel_rfl)) (by unfold Func.isWrapper;first|(rw[if_pos (by decide +kernel)];kernel_rfl)|(rw[if_neg (by decide +kernel)];exact⟨rfl,rfl⟩))
  (fun os started H enc _ F=>by rw[OpenClaim.pre_eq_preRow];exact jcz3 os started H enc F)
theorem jdn4 (f : FuncId) (fn : Func) (hf : Tryz.pinned.checked.prog.funcNamed "chiti/chitilaw02.CordOffs" = some f) (hfn : Tryz.pinned.checked.prog.funcs[f]? = some fn) :
  Rows.cordOffsCard.stood.looks=Tryz.pinned.checked.prog.looks []/\∀(j:Nat) t,fn.params[j]?=some t->Tryz.pinned.checked.prog.wantsStandIn t=false:=by
 obtain rfl : f = 4 := Option.some.inj ((show Tryz.prog.funcNamed "chiti/chitilaw02.CordOffs" = some 4 by kernel_rfl).symm.trans hf) |>.symm
 obtain rfl:fn=Tryz.f4:=(Option.some.inj (Tryz.func4.symm.trans hfn)).symm
 refine⟨by kernel_rfl,fun j t ht=>?_⟩
 rw[Tryz.params4] at ht
 have hm:t∈[24,24,36]:=by simpa using Array.mem_of_getElem? ht
 have hall:([24,24,36].all fun u=>!Tryz.prog.wantsStandIn u)=true:=by kernel_rfl
 exact(show Tryz.prog.wantsStandIn t=false by simpa using List.all_eq_true.1 hall t hm)
theorem cordOffs_holds:Rows.CordOffsCardSaid:=
 Claim7.holds_tied_plain_at .later [] _ _ _ _ jfc1 (fun _ h=>by cases h) (by kernel_rfl) (fun _ h=>by cases h) cordOffs_row_tie rfl ⟨rfl,rfl⟩ jfp8 rfl jdn4 jfb9
#print axioms cordOffs_holds
end Go.Proofs.YtphcodcdfeohhaaGreatDoor
