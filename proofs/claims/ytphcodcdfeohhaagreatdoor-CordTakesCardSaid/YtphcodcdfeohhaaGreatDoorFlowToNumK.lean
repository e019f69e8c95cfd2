import Derived.Test.YtphcodcdfeohhaaGreatDoorBaseToStage
import Derived.Test.YtphcodcdfeohhaaGreatDoorMakeAToCom
import Derived.Test.YtphcodcdfeohhaaGreatDoorSurdGToSurdM
set_option linter.unusedVariables false
set_option linter.unusedSimpArgs false
namespace Go.Proofs.YtphcodcdfeohhaaGreatDoor
open Go
open Go.RowKit
section
variable {P : Program} {ops : Array Oper} {Q : Exit → Act → World → Prop} {md : Region.Mode}
theorem jch9 {j:Nat} {oj:Oper} {x:Option Tmp} {v:Value} (hj:ops[j]?=some oj) (h1:∀d,x=some d->d∉oj.looksAt ops) (h2:∀d,x=some d->oj.dst≠some d)
  (hsj:∀cs b,oj.op≠.select cs b) (hQ:∀c a w,Q (.panic c) a w->Q (.panic c) (a.put x v) w) {K:Act->World->Prop} {a:Act} {w:World} (h:wpOp P ops Q j K a w) :
  wpOp P ops Q j (fun a' w'=>∃b,a'=b.put x v/\K b w') (a.put x v) w:=by
 unfold wpOp at *
 simp only[hj] at *
 rw[wanted_put oj a x v h1]
 split
 ·rename_i hw
  simp only[hw,if_true] at h
  rcases h with h|⟨hasks,hlets⟩
  case inr=>exact .inr ⟨by unfold Oper.asks at *;rw[execOp_put oj hsj a x v h1];exact hasks,hlets⟩
  refine .inl ?_
  unfold Oper.wp at *
  rw[execOp_put oj hsj a x v h1]
  generalize (execOp a.eval oj).run P w=r at *
  cases r with
  | ok n w'=>
   cases n<;>simp only[Oper.upon] at h ⊢
   case value u=>exact⟨_,Act.put_comm a v u h2,h⟩
   case skip=>exact⟨_,Act.put_comm a v undef h2,h⟩
   case defer d=>exact⟨_,by rw[Act.put_defers];exact Act.put_comm _ v undef h2,h⟩
   case enter f args=>
    refine Calls.mono h fun e w'' he=>?_
    cases e with
    | returned u=>exact⟨_,Act.put_comm a v u h2,he⟩
    | panicked c=>exact hQ _ _ _ he
    | outgrown=>exact he
   case row row args=>exact Rows.mono h fun u w'' he=>⟨_,Act.put_comm a v u h2,he⟩
  | halt x w'=>
   cases x<;>simp only[Oper.upon] at h ⊢
   case panic u=>exact hQ _ _ _ h
 ·rename_i hw
  simp only[hw] at h
  exact⟨_,Act.put_comm a v undef h2,h⟩
def jk0(ops:Array Oper)(i:Nat):Option Tmp:=(ops[i]?).bind (·.dst)
def jy6 (ops:Array Oper) (L:Array Bool) (X:Nat->Value):List Nat->Act->Act
 | [],a=>a
 | i::fl,a=>jy6 ops L X fl (if L.getD i false=true then a.put (jk0 ops i) (X i)else a)
theorem zc7 {L L':Array Bool} {X X':Nat->Value}:∀(fl:List Nat) (a:Act),(∀j∈fl,L.getD j false=L'.getD j false/\X j=X' j)->jy6 ops L X fl a=jy6 ops L' X' fl a
 | [],_,_=>rfl
 | i::fl,a,h=>by
  unfold jy6
  rw[(h i (by simp)).1,(h i (by simp)).2]
  exact zc7 fl _ (fun j hj=>h j (by simp[hj]))
theorem jaf3 {L:Array Bool} {X:Nat->Value} {d:Option Tmp} {v:Value}:∀(fl:List Nat) (a:Act),(∀j∈fl,L.getD j false=true->∀e,jk0 ops j=some e->d≠some e)->(jy6 ops L X fl a).put d v=jy6 ops L X fl (a.put d v)
 | [],_,_=>rfl
 | i::fl,a,h=>by
  unfold jy6
  rw[jaf3 fl _ (fun j hj=>h j (by simp[hj]))]
  split
  ·rename_i hi
   rw[Act.put_comm a (X i) v (h i (by simp) hi)]
  ·rfl
theorem jbz4{L:Array Bool}{X:Nat->Value}{i:Nat}{v:Value}(hi:L.getD i false=false)(hs:i<L.size):∀(fl:List Nat) (a:Act),fl.Nodup->i∈fl ->
  (∀j∈fl,j≠i->∀e,jk0 ops j=some e->jk0 ops i≠some e)->jy6 ops (L.setIfInBounds i true) (fun j=>if j=i then v else X j) fl a=(jy6 ops L X fl a).put (jk0 ops i) v
 | [],_,_,h,_=>by cases h
 | j::fl,a,hn,hm,hd=>by
  have hn':=List.nodup_cons.1 hn
  unfold jy6
  by_cases hij:j=i
  ·subst hij
   have e1:(L.setIfInBounds j true).getD j false=true:=by simp[hs]
   rw[e1,hi]
   simp only[if_true,Bool.false_eq_true,if_false]
   rw[jaf3 fl a (fun k hk _=>hd k (by simp[hk]) (fun e=>hn'.1 (e▸hk)))]
   refine zc7 fl _ (fun k hk=>?_)
   have hne:k≠j:=fun e=>hn'.1 (e▸hk)
   exact⟨getD_set_ne false (Ne.symm hne),if_neg hne⟩
  ·rw[getD_set_ne false (Ne.symm hij),if_neg hij]
   exact jbz4 hi hs fl _ hn'.2 ((List.mem_cons.1 hm).resolve_left (fun h=>hij h.symm)) (fun k hk=>hd k (by simp[hk]))
theorem zj8 {L:Array Bool} {X:Nat->Value} {j:Nat} {oj:Oper} (hj:ops[j]?=some oj) (hsj:∀cs b,oj.op≠.select cs b) (hQ:∀c a d v w,Q (.panic c) a w->Q (.panic c) (a.put d v) w) {w:World} :
  ∀(fl:List Nat) (K:Act->World->Prop) (a:Act),(∀i∈fl,L.getD i false=true->∀e,jk0 ops i=some e->e∉oj.looksAt ops/\oj.dst≠some e)->wpOp P ops Q j K a w ->
   wpOp P ops Q j (fun a' w'=>∃b,a'=jy6 ops L X fl b/\K b w') (jy6 ops L X fl a) w
 | [],_,_,_,h=>wpOp_mono (fun a' w' h'=>⟨a',rfl,h'⟩) h
 | i::fl,K,a,hap,h=>by
  unfold jy6
  split
  ·rename_i hi
   have h1:=jch9 (v:=X i) hj (fun d hd=>(hap i (by simp) hi d hd).1) (fun d hd=>(hap i (by simp) hi d hd).2) hsj (fun c a w=>hQ c a _ _ w) h
   exact wpOp_mono (fun a' w' ⟨b,hb,b',hb',hk⟩=>⟨b',by rw[hb,hb'],hk⟩) (zj8 hj hsj hQ fl _ _ (fun k hk=>hap k (by simp[hk])) h1)
  ·exact zj8 hj hsj hQ fl K a (fun k hk=>hap k (by simp[hk])) h
theorem zr1{L:Array Bool}{X:Nat->Value}{oj:Oper}(hsj:∀cs b,oj.op≠.select cs b):∀(fl:List Nat) (a:Act),(∀i∈fl,L.getD i false=true->∀e,jk0 ops i=some e->e∉oj.looksAt ops) ->
  execOp (jy6 ops L X fl a).eval oj=execOp a.eval oj/\Region.wanted oj (yielded ops (jy6 ops L X fl a).tmps)=Region.wanted oj (yielded ops a.tmps)
 | [],_,_=>⟨rfl,rfl⟩
 | i::fl,a,h=>by
  unfold jy6
  split
  ·rename_i hi
   obtain⟨e1,e2⟩:=zr1 (L:=L) (X:=X) hsj fl (a.put (jk0 ops i) (X i)) (fun k hk=>h k (by simp[hk]))
   exact⟨e1.trans (execOp_put oj hsj a _ _ (h i (by simp) hi)),e2.trans (wanted_put oj a _ _ (h i (by simp) hi))⟩
  ·exact zr1 hsj fl a (fun k hk=>h k (by simp[hk]))
def jk4(L:Array Bool)(fl:List Nat):Nat:=(fl.filter fun i=>!L.getD i false).length
theorem zf7{L L':Array Bool}:∀(fl:List Nat),(∀j∈fl,L.getD j false=L'.getD j false)->jk4 L fl=jk4 L' fl:=fun fl h=>by
 unfold jk4
 rw[List.filter_congr (fun j hj=>by rw[h j hj])]
theorem jbd7 {L:Array Bool} {i:Nat} (hi:L.getD i false=false) (hs:i<L.size):∀(fl:List Nat),fl.Nodup->i∈fl->jk4 L fl=jk4 (L.setIfInBounds i true) fl+1
 | [],_,h=>by cases h
 | j::fl,hn,hm=>by
  have hn':=List.nodup_cons.1 hn
  unfold jk4
  by_cases hij:j=i
  ·subst hij
   have e1:(L.setIfInBounds j true).getD j false=true:=by simp[hs]
   rw[List.filter_cons_of_pos (by rw[hi];rfl),List.filter_cons_of_neg (by rw[e1];simp),List.length_cons]
   have:=zf7 (L:=L) (L':=L.setIfInBounds j true) fl (fun k hk=>(getD_set_ne false (fun(e:j=k)=>hn'.1 (e▸hk))).symm)
   unfold jk4 at this
   omega
  ·have ih:=jbd7 hi hs fl hn'.2 ((List.mem_cons.1 hm).resolve_left (fun h=>hij h.symm))
   unfold jk4 at ih
   have e1:=getD_set_ne (listed:=L) false (Ne.symm hij)
   rw[List.filter_cons,List.filter_cons,e1]
   split
   ·simp only[List.length_cons];omega
   ·exact ih
theorem jak0{L L':Array Bool}{k:Nat}(hk:k∈Region.ready md ops L)(h:∀j,L.getD j false=true->L'.getD j false=true)(hk':L'.getD k true=false):k∈Region.ready md ops L':=by
 rw[mem_ready] at *
 obtain⟨h0,o,ho,hall⟩:=hk
 exact⟨hk',o,ho,fun e he hb=>h _ (hall e he hb)⟩
def zd5(L:Array Bool)(fl:List Nat):Array Bool:=fl.foldl (fun L i=>L.setIfInBounds i true) L
theorem jca5 {j:Nat}:∀(fl:List Nat) (L:Array Bool),j∉fl->(zd5 L fl).getD j false=L.getD j false
 | [],_,_=>rfl
 | i::fl,L,h=>by
  unfold zd5
  rw[List.foldl_cons]
  have:=jca5 (j:=j) fl (L.setIfInBounds i true) (fun hm=>h (by simp[hm]))
  unfold zd5 at this
  rw[this]
  exact getD_set_ne false (fun e=>h (by simp[e]))
theorem jba6:∀(fl:List Nat) (L:Array Bool),(zd5 L fl).size=L.size
 | [],_=>rfl
 | i::fl,L=>by
  unfold zd5
  rw[List.foldl_cons]
  have:=jba6 fl (L.setIfInBounds i true)
  unfold zd5 at this
  rw[this];simp
theorem jak5 {j:Nat}:∀(fl:List Nat) (L:Array Bool),(L.getD j false=true\/j∈fl/\j<L.size)->(zd5 L fl).getD j false=true
 | [],L,h=>by exact h.resolve_right (fun h=>by cases h.1)
 | i::fl,L,h=>by
  unfold zd5
  rw[List.foldl_cons]
  refine jak5 fl (L.setIfInBounds i true) ?_
  rcases h with h|⟨h,hs⟩
  ·exact .inl (getD_set_true h)
  ·rcases List.mem_cons.1 h with h|h
   ·subst h;exact .inl (by simp[hs])
   ·exact .inr ⟨h,by simpa using hs⟩
theorem zf8{L:Array Bool}{j:Nat}(h:j<L.size)(b c:Bool):L.getD j b=L.getD j c:=by simp[Array.getD,h]
def Ups(Made:Nat->Value->World->Prop)(fl:List Nat)(L:Array Bool)(X:Nat->Value)(W:World):Prop:=
 (∀i∈fl,L.getD i false=true->Made i (X i) W)/\∀i∈fl,∀j∈fl,i≠j->L.getD i false=true->L.getD j false=true->X i≠X j
section
variable {Made : Nat → Value → World → Prop} {fl : List Nat} {L : Array Bool} {X : Nat → Value} {W W' : World}
theorem Ups.tail{i:Nat}(h:Ups Made (i::fl) L X W):Ups Made fl L X W:=⟨fun j hj=>h.1 j (by simp[hj]),fun j hj k hk=>h.2 j (by simp[hj]) k (by simp[hk])⟩
theorem Ups.set{k:Nat}(h:Ups Made fl L X W)(hk:k∉fl)(hm:∀i v,Made i v W->Made i v W'):Ups Made fl (L.setIfInBounds k true) X W':=
 ⟨fun i hi h1=>by rw[getD_set_ne false (fun(e:k=i)=>hk (e▸hi))] at h1;exact hm _ _ (h.1 i hi h1),
   fun i hi j hj hne h1 h2=>by
  rw[getD_set_ne false (fun(e:k=i)=>hk (e▸hi))] at h1
  rw[getD_set_ne false (fun(e:k=j)=>hk (e▸hj))] at h2
  exact h.2 i hi j hj hne h1 h2⟩
theorem Ups.up{j:Nat}{v:Value}(h:Ups Made fl L X W)(hm:∀i v,Made i v W->Made i v W')(hv:Made j v W')(hn:∀i∈fl,i≠j->∀u,Made i u W->u≠v):Ups Made fl (L.setIfInBounds j true) (fun i=>if i=j then v else X i) W':=
 ⟨fun i hi hi1=>by
  dsimp only
  by_cases hij:i=j
  ·subst hij;simpa using hv
  ·rw[getD_set_ne false (Ne.symm hij)] at hi1
   rw[if_neg hij]
   exact hm _ _ (h.1 i hi hi1),
   fun i hi k hk hne h1 h2=>by
  dsimp only
  by_cases hij:i=j
  ·subst hij
   rw[getD_set_ne false hne] at h2
   rw[if_pos rfl,if_neg (Ne.symm hne)]
   exact(hn k hk (Ne.symm hne) _ (h.1 k hk h2)).symm
  ·rw[getD_set_ne false (Ne.symm hij)] at h1
   rw[if_neg hij]
   by_cases hkj:k=j
   ·subst hkj
    rw[if_pos rfl]
    exact hn i hi hij _ (h.1 i hi h1)
   ·rw[getD_set_ne false (Ne.symm hkj)] at h2
    rw[if_neg hkj]
    exact h.2 i hi k hk hne h1 h2⟩
end
def jd9(P:Program)(md:Region.Mode)(ops:Array Oper)(Q:Exit->Act->World->Prop)(s:Nat)(F:World->Prop)(Made:Nat->Value->World->Prop)(fl:List Nat)(Γ:World->Prop)(f:Nat)(Lc:Array Bool)(a:Act):Prop:=
 ∀(L:Array Bool) (X:Nat->Value) (W:World),L.size=ops.size->(∀j,j∉fl->L.getD j false=Lc.getD j false)->Γ W->Ups Made fl L X W->UpTo md ops L ->
  jz0 P md ops Q (ja8 (fun _=>True) s F s (fun _=>True)) (f+jk4 L fl) L (jy6 ops L X fl a) W
structure Floats(P:Program)(md:Region.Mode)(ops:Array Oper)(Q:Exit->Act->World->Prop)(F:World->Prop)(Made:Nat->Value->World->Prop)(fl:List Nat):Prop where
 sel:Region.noSelect ops=true
 panic:∀c a d v w,Q (.panic c) a w↔Q (.panic c) (a.put d v) w
 nodup:fl.Nodup
 there:∀i∈fl,∃o,ops[i]?=some o
 apart:∀i∈fl,∀j∈fl,j≠i->∀oi oj,ops[i]?=some oi->ops[j]?=some oj->oi.apart ops oj=true
 run:∀i∈fl,∀a W,F W->wpOp P ops Q i (fun a' W'=>∃v,a'=a.put (jk0 ops i) v/\Made i v W'/\Below W.heap.size W W'/\∀j∈fl,j≠i->∀u,Made j u W->u≠v) a W
 made:∀i v W W',Made i v W->Below W.heap.size W W'->Made i v W'
variable {s : Nat} {F : World → Prop} {Made : Nat → Value → World → Prop} {fl : List Nat}
theorem Floats.tail{i:Nat}(H:Floats P md ops Q F Made (i::fl)):Floats P md ops Q F Made fl:=
 ⟨H.sel,H.panic,(List.nodup_cons.1 H.nodup).2,fun j hj=>H.there j (by simp[hj]),fun j hj k hk=>H.apart j (by simp[hj]) k (by simp[hk]),fun j hj a W hF=>wpOp_mono (fun _ _ ⟨v,h1,h2,h3,h4⟩=>⟨v,h1,h2,h3,fun k hk=>h4 k (by simp[hk])⟩) (H.run j (by simp[hj]) a W hF),H.made⟩
theorem Floats.of2 (hB:(Region.noSelect ops&&decide fl.Nodup&&(fl.all fun i=>(ops[i]?).isSome)&&fl.all fun i=>fl.all fun j=>j==i || match ops[i]?,ops[j]? with|some oi,some oj=>oi.apart ops oj|_,_=>true)=true)
  (hp:∀c a d v w,Q (.panic c) a w↔Q (.panic c) (a.put d v) w) (hr:∀i∈fl,∀a W,F W->wpOp P ops Q i (fun a' W'=>∃v,a'=a.put (jk0 ops i) v/\Made i v W'/\Below W.heap.size W W'/\∀j∈fl,j≠i->∀u,Made j u W->u≠v) a W)
  (hm:∀i v W W',Made i v W->Below W.heap.size W W'->Made i v W'):Floats P md ops Q F Made fl:=by
 simp only[Bool.and_eq_true,decide_eq_true_eq] at hB
 obtain⟨⟨⟨h1,h2⟩,h3⟩,h4⟩:=hB
 refine⟨h1,hp,h2,fun i hi=>Option.isSome_iff_exists.1 (List.all_eq_true.1 h3 i hi),fun i hi j hj hne oi oj hoi hoj=>?_,hr,hm⟩
 have h5:=List.all_eq_true.1 (List.all_eq_true.1 h4 i hi) j hj
 rw[hoi,hoj] at h5
 simpa [hne] using h5
theorem Floats.of (hB:((Region.noSelect ops&&decide fl.Nodup&&(fl.all fun i=>(ops[i]?).isSome)&&fl.all fun i=>fl.all fun j=>j==i || match ops[i]?,ops[j]? with|some oi,some oj=>oi.apart ops oj|_,_=>true)&&decide (fl.length<=1))=true)
  (hp:∀c a d v w,Q (.panic c) a w↔Q (.panic c) (a.put d v) w) (hr:∀i∈fl,∀a W,F W->wpOp P ops Q i (fun a' W'=>∃v,a'=a.put (jk0 ops i) v/\Made i v W'/\Below W.heap.size W W') a W)
  (hm:∀i v W W',Made i v W->Below W.heap.size W W'->Made i v W'):Floats P md ops Q F Made fl:=by
 rw[Bool.and_eq_true,decide_eq_true_eq] at hB
 refine Floats.of2 hB.1 hp (fun i hi a W hF=>wpOp_mono (fun _ _ ⟨v,h1,h2,h3⟩=>⟨v,h1,h2,h3,fun j hj hne=>?_⟩) (hr i hi a W hF)) hm
 match fl,hB.2,hi,hj with
 | [k],_,hi,hj=>exact absurd ((List.mem_singleton.1 hj).trans (List.mem_singleton.1 hi).symm) hne
theorem Floats.up (H:Floats P md ops Q F Made fl) {L:Array Bool} {X:Nat->Value} {a:Act} {W:World} {i:Nat} {f:Nat} {S:Array Bool->World->Prop} (hi:i∈fl) (hL:L.getD i false=false) (hs:i<L.size) (hF:F W)
  (h:∀v W',Made i v W'->Below W.heap.size W W'->(∀j∈fl,j≠i->∀u,Made j u W->u≠v)->S (L.setIfInBounds i true) W'/\jz0 P md ops Q S f (L.setIfInBounds i true) (jy6 ops (L.setIfInBounds i true) (fun j=>if j=i then v else X j) fl a) W') :
  wpOp P ops Q i (fun a' w'=>S (L.setIfInBounds i true) w'/\jz0 P md ops Q S f (L.setIfInBounds i true) a' w') (jy6 ops L X fl a) W:=by
 obtain⟨oi,hoi⟩:=H.there i hi
 have hdi:jk0 ops i=oi.dst:=by unfold jk0;rw[hoi];rfl
 have hap:∀j∈fl,j≠i->∀e,jk0 ops j=some e->e∉oi.looksAt ops/\oi.dst≠some e:=fun j hj hne e he=>by
  obtain⟨oj,hoj⟩:=H.there j hj
  have hdj:jk0 ops j=oj.dst:=by unfold jk0;rw[hoj];rfl
  obtain⟨h1,h2,h3⟩:=Oper.apart_spec (H.apart j hj i hi (Ne.symm hne) oj oi hoj hoi)
  exact⟨h1 e (hdj▸he),h2 e (hdj▸he)⟩
 have hr:=zj8 (L:=L) (X:=X) hoi (fun cs b=>Region.noSelect_spec H.sel i oi cs b hoi) (fun c a d v w=>(H.panic c a d v w).1) fl _ a (fun j hj hj1=>hap j hj (fun e=>by rw[e,hL] at hj1;cases hj1)) (H.run i hi a W hF)
 refine wpOp_mono (fun a' W' h'=>?_) hr
 obtain⟨b,rfl,v,rfl,hm,hb,hn⟩:=h'
 have:=h v W' hm hb hn
 rwa [jbz4 hL hs fl a H.nodup hi (fun j hj hne e he=>by rw[hdi];exact(hap j hj hne e he).2),jaf3 fl a (fun j hj hj1 e he=>by rw[hdi];exact(hap j hj (fun e=>by rw[e,hL] at hj1;cases hj1) e he).2)] at this
theorem jcg1{L Lc:Array Bool}{j k:Nat}(hs:L.size=ops.size)(hsc:Lc.size=ops.size)(hL:∀j,j∉fl->L.getD j false=Lc.getD j false)(hr:Region.ready md ops (zd5 Lc fl)=[k])(hj:j∈Region.ready md ops L)(hjf:j∉fl):j=k:=by
 have hjs:j<ops.size:=by
  obtain⟨_,o,ho,_⟩:=mem_ready.1 hj
  exact(Array.getElem?_eq_some_iff.1 ho).1
 have h0:=(mem_ready.1 hj).1
 have h1:j∈Region.ready md ops (zd5 Lc fl):=by
  refine jak0 hj (fun i hi=>?_) ?_
  ·by_cases him:i∈fl
   ·refine jak5 fl Lc (.inr ⟨him,?_⟩)
    rw[hsc,<-hs]
    rcases Nat.lt_or_ge i L.size with h|h
    ·exact h
    ·simp[Array.getElem?_eq_none h] at hi
   ·exact jak5 fl Lc (.inl ((hL i him)▸hi))
  ·rw[zf8 (by rw[jba6,hsc];exact hjs) true false,jca5 fl Lc hjf,<-hL j hjf,<-zf8 (by rw[hs];exact hjs) true false]
   exact h0
 rw[hr] at h1
 simpa using h1
theorem jd9.step (k:Nat) {Γ:World->Prop} {f:Nat} {Lc:Array Bool} {a:Act} (H:Floats P md ops Q F Made fl)
  (hB:(Lc.size==ops.size&&!fl.contains k&&(Region.ready md ops Lc).contains k&&(Region.ready md ops (zd5 Lc fl)==[k])&&fl.all fun i=>!Lc.getD i false)=true)
  (hM:∀W W',Γ W->Below W.heap.size W W'->Γ W') (hF:∀W,Γ W->F W)
  (hc:∀(L:Array Bool) (X:Nat->Value) (W:World),L.size=ops.size->(∀j,j∉fl->L.getD j false=Lc.getD j false)->Γ W->Ups Made fl L X W->UpTo md ops L->k∈Region.ready md ops L ->
   wpOp P ops Q k (fun a' w'=>ja8 (fun _=>True) s F s (fun _=>True) (L.setIfInBounds k true) w'/\jz0 P md ops Q (ja8 (fun _=>True) s F s (fun _=>True)) (f+jk4 L fl) (L.setIfInBounds k true) a' w') (jy6 ops L X fl a) W) :
  jd9 P md ops Q s F Made fl Γ (f+1) Lc a:=by
 simp only[Bool.and_eq_true,beq_iff_eq,Bool.not_eq_true',List.all_eq_true] at hB
 obtain⟨⟨⟨⟨hsc,hkf⟩,hkr⟩,hall⟩,hlow⟩:=hB
 have hkf':k∉fl:=fun hm=>by rw[List.contains_iff_mem.2 hm] at hkf;cases hkf
 have hkr':k∈Region.ready md ops Lc:=by simpa using hkr
 obtain⟨hkc,okk,hk,_⟩:=mem_ready.1 hkr'
 have hks:k<ops.size:=(Array.getElem?_eq_some_iff.1 hk).1
 suffices hm:∀m (L:Array Bool) (X:Nat->Value) (W:World),jk4 L fl=m->L.size=ops.size->(∀j,j∉fl->L.getD j false=Lc.getD j false)->Γ W->Ups Made fl L X W->UpTo md ops L ->
   jz0 P md ops Q (ja8 (fun _=>True) s F s (fun _=>True)) (f+1+m) L (jy6 ops L X fl a) W from fun L X W h1 h2 h3 h4 h5=>hm _ L X W rfl h1 h2 h3 h4 h5
 intro m
 induction m using Nat.strongRecOn with
 | _ m ih=>
  intro L X W hd hs hL hG hX up
  have hkL:L.getD k true=false:=by rw[zf8 (by rw[hs];exact hks) true false,hL k hkf',<-zf8 (by rw[hsc];exact hks) true false];exact hkc
  have hkin:k∈Region.ready md ops L:=by
   refine jak0 hkr' (fun i hi=>?_) hkL
   by_cases him:i∈fl
   ·have:=hlow i him;rw[hi] at this;cases this
   ·rw[hL i him];exact hi
  rw[show f+1+m=(f+m)+1 by omega]
  refine⟨fun h0=>(by rw[h0] at hkin;cases hkin),fun j hj=>?_⟩
  by_cases hjf:j∈fl
  ·have hjL:L.getD j false=false:=getD_both (mem_ready.1 hj).1
   obtain⟨oj,hoj⟩:=H.there j hjf
   have hjs:j<L.size:=by rw[hs];exact(Array.getElem?_eq_some_iff.1 hoj).1
   refine H.up hjf hjL hjs (hF W hG) (fun v W' hmd hb hn=>?_)
   have hG':=hM W W' hG hb
   refine⟨⟨trivial,fun _=>hF W' hG',fun _=>trivial⟩,?_⟩
   have hdd:=jbd7 hjL hjs fl H.nodup hjf
   have:=ih (jk4 (L.setIfInBounds j true) fl) (by omega) (L.setIfInBounds j true) (fun i=>if i=j then v else X i) W' rfl (by simpa using hs) (fun i hi=>by rw[getD_set_ne false (fun(e:j=i)=>hi (e▸hjf))];exact hL i hi) hG' (hX.up (fun i v hi=>H.made i v W W' hi hb) hmd hn) (up.set hj)
   rw[show f+1+jk4 (L.setIfInBounds j true) fl=f+m by omega] at this
   exact this
  ·obtain rfl:=jcg1 hs hsc hL hall hj hjf
   have:=hc L X W hs hL hG hX up hkin
   rw[hd] at this
   exact this
theorem jd9.call {α:Type} {l rest:List Oper} (k:Nat) {ok:Oper} {Γ:World->Prop} {f:Nat} {Lc:Array Bool} {a:Act} (v:α->Value) (Γ':α->World->Prop) (hops:ops=l.toArray) (hk:l.drop k=ok::rest) (H:Floats P md ops Q F Made fl)
  (hB:((Lc.size==ops.size&&!fl.contains k&&(Region.ready md ops Lc).contains k&&(Region.ready md ops (zd5 Lc fl)==[k])&&fl.all fun i=>!Lc.getD i false)&&fl.all fun i=>match ops[i]?,ops[k]? with|some oi,some ok=>oi.apart ops ok|_,_=>true)=true)
  (hM:∀W W',Γ W->Below W.heap.size W W'->Γ W') (hF:∀W,Γ W->F W) (hF':∀x W,Γ' x W->F W)
  (hw:∀W,Γ W->∀K':Act->World->Prop,Shut (∀x W',Γ' x W'->Below W.heap.size W W'->K' (a.put ok.dst (v x)) W')->if Region.wanted ok (yielded ops a.tmps)=true then Oper.wp P ok a W K' Q else K' (a.put ok.dst undef) W)
  (h:∀x,jd9 P md ops Q s F Made fl (Γ' x) f (Lc.setIfInBounds k true) (a.put ok.dst (v x))):jd9 P md ops Q s F Made fl Γ (f+1) Lc a:=by
 have hk':ops[k]?=some ok:=by subst hops;exact zb7 hk
 rw[Bool.and_eq_true] at hB
 refine jd9.step k H hB.1 hM hF (fun L X W hs hL hG hX up hkin=>?_)
 have hap:=List.all_eq_true.1 hB.2
 have hkf':k∉fl:=fun hm=>by have:=hB.1;simp[hm] at this
 have hap':∀i∈fl,∀e,jk0 ops i=some e->e∉ok.looksAt ops/\ok.dst≠some e:=fun i hi e he=>by
  obtain⟨oi,hoi⟩:=H.there i hi
  have h1:=hap i hi
  rw[hoi,hk'] at h1
  have hdi:jk0 ops i=oi.dst:=by unfold jk0;rw[hoi];rfl
  obtain⟨g1,g2,g3⟩:=Oper.apart_spec h1
  exact⟨g1 e (hdi▸he),g2 e (hdi▸he)⟩
 have h1:wpOp P ops Q k (fun a' W'=>∃x,a'=a.put ok.dst (v x)/\Γ' x W'/\Below W.heap.size W W') a W:=
  wpOp_step hk' (fun K' hK=>hw W hG K' (fun x W' hx hb=>hK _ _ ⟨x,rfl,hx,hb⟩))
 refine wpOp_mono (fun a' W' h'=>?_) (zj8 (L:=L) (X:=X) hk' (fun cs b=>Region.noSelect_spec H.sel k ok cs b hk') (fun c a d v w=>(H.panic c a d v w).1) fl _ a (fun i hi _=>hap' i hi) h1)
 obtain⟨b,rfl,x,rfl,hx,hb⟩:=h'
 refine⟨⟨trivial,fun _=>hF' x W' hx,fun _=>trivial⟩,?_⟩
 have:=h x (L.setIfInBounds k true) X W' (by simpa using hs) (fun j hj=>by
  by_cases hjk:k=j
  ·subst hjk
   have hks:k<ops.size:=(Array.getElem?_eq_some_iff.1 hk').1
   have hsc:Lc.size=ops.size:=by have:=hB.1;simp only[Bool.and_eq_true,beq_iff_eq] at this;exact this.1.1.1.1
   simp[hs,hsc,hks]
  ·rw[getD_set_ne false hjk,getD_set_ne false hjk];exact hL j hj) hx (hX.set hkf' (fun i v hi=>H.made i v W W' hi hb)) (up.set hkin)
 rw[zf7 (L:=L.setIfInBounds k true) (L':=L) fl (fun j hj=>getD_set_ne false (fun e=>hkf' (e▸hj))),zc7 (L:=L.setIfInBounds k true) (L':=L) (X:=X) (X':=X) fl _ (fun j hj=>⟨getD_set_ne false (fun e=>hkf' (e▸hj)),rfl⟩)] at this
 exact this
class Kept (S:World->Prop):Prop where
 keep:∀W W',S W->Below W.heap.size W W'->S W'
instance {A B:World->Prop}[Kept A][Kept B]:Kept fun W=>A W/\B W:=⟨fun W W' h hb=>⟨Kept.keep W W' h.1 hb,Kept.keep W W' h.2 hb⟩⟩
instance {p:Prop}:Kept fun _=>p:=⟨fun _ _ h _=>h⟩
instance {α:Type}{A:α->World->Prop}[∀x,Kept (A x)]:Kept fun W=>∃x,A x W:=⟨fun W W' ⟨x,h⟩ hb=>⟨x,Kept.keep W W' h hb⟩⟩
instance {X:Nat}{t:TypeId}{l:Array Value}:Kept fun W=>Blk W X t l:=⟨fun _ _ h hb=>h.below hb h.lt⟩
instance {B size n:Nat}{e:TypeId}{v:Value}{xs:List Value}:Kept fun W=>W.ownsRow B e size v n xs:=⟨fun _ _ h hb=>World.ownsRow.kept h (jf0 hb none) (by cases v.ownBlock<;>simp)⟩
instance {a:Addr}{v:Value}:Kept fun W=>W.cell? a=some v:=⟨fun W _ h hb=>(hb.cell (World.block_lt_of_cell? W a h)).trans h⟩
instance {n:Nat}:Kept fun W=>n<=W.heap.size:=⟨fun _ _ h hb=>Nat.le_trans h hb.size⟩
instance {n:Nat}{w:World}:Kept fun W=>Below n w W/\n<=W.heap.size:=⟨fun _ _ h hb=>⟨h.1.trans (hb.mono h.2),Nat.le_trans h.2 hb.size⟩⟩
theorem jd9.on {α:Type} {l rest:List Oper} (k:Nat) {ok:Oper} {Γ:World->Prop} {f:Nat} {Lc:Array Bool} {a:Act} (v:α->Value) (New:α->World->Prop) [hM:Kept Γ] (hops:ops=l.toArray) (hk:l.drop k=ok::rest) (H:Floats P md ops Q F Made fl)
  (hB:((Lc.size==ops.size&&!fl.contains k&&(Region.ready md ops Lc).contains k&&(Region.ready md ops (zd5 Lc fl)==[k])&&fl.all fun i=>!Lc.getD i false)&&fl.all fun i=>match ops[i]?,ops[k]? with|some oi,some ok=>oi.apart ops ok|_,_=>true)=true)
  (hF:∀W,Γ W->F W)
  (hw:∀W,Γ W->∀K':Act->World->Prop,Shut (∀x W',New x W'->Below W.heap.size W W'->K' (a.put ok.dst (v x)) W')->if Region.wanted ok (yielded ops a.tmps)=true then Oper.wp P ok a W K' Q else K' (a.put ok.dst undef) W)
  (h:∀x,(∀W,Γ W/\New x W->F W)->jd9 P md ops Q s F Made fl (fun W=>Γ W/\New x W) f (Lc.setIfInBounds k true) (a.put ok.dst (v x))):jd9 P md ops Q s F Made fl Γ (f+1) Lc a:=
 jd9.call k v (fun x W=>Γ W/\New x W) hops hk H hB hM.keep hF (fun x W hh=>hF W hh.1) (fun W hG K' hK=>hw W hG K' (fun x W' hx hb=>hK.out x W' ⟨hM.keep W W' hG hb,hx⟩ hb)) (fun x=>h x (fun W hh=>hF W hh.1))
theorem jd9.take {l rest:List Oper} (k:Nat) {ok:Oper} {Γ:World->Prop} {f:Nat} {Lc:Array Bool} {a:Act} {v:Value} (hops:ops=l.toArray) (hk:l.drop k=ok::rest) (H:Floats P md ops Q F Made fl)
  (hB:(Lc.size==ops.size&&!fl.contains k&&(Region.ready md ops Lc).contains k&&Region.free md ops Lc k&&(s !=k)&&(fl.all fun i=>!Lc.getD i false)&&fl.all fun i=>match ops[i]?,ops[k]? with|some oi,some ok=>oi.apart ops ok|_,_=>true)=true)
  (hF:∀W,Γ W->F W) (hw:Region.wanted ok (yielded ops a.tmps)=true)
  (hv:∀W,(Region.needs md ops ops.size s k=true->F W)->(execOp a.eval ok).run P W=.ok (.value v) W)
  (h:jd9 P md ops Q s F Made fl Γ f (Lc.setIfInBounds k true) (a.put ok.dst v)):jd9 P md ops Q s F Made fl Γ (f+1) Lc a:=by
 have hk':ops[k]?=some ok:=by subst hops;exact zb7 hk
 simp only[Bool.and_eq_true,beq_iff_eq,bne_iff_ne,ne_eq,Bool.not_eq_true'] at hB
 obtain⟨⟨⟨⟨⟨⟨hsc,hkf⟩,hkr⟩,hfree⟩,hsk⟩,hlow⟩,hap⟩:=hB
 have hkf':k∉fl:=fun hm=>by rw[List.contains_iff_mem.2 hm] at hkf;cases hkf
 have hkr':k∈Region.ready md ops Lc:=by simpa using hkr
 have hks:k<ops.size:=(Array.getElem?_eq_some_iff.1 hk').1
 have hkc:Lc.getD k true=false:=(mem_ready.1 hkr').1
 have hap0:=List.all_eq_true.1 hap
 have hlow0:=List.all_eq_true.1 hlow
 have hap':∀i∈fl,∀e,jk0 ops i=some e->e∉ok.looksAt ops/\ok.dst≠some e:=fun i hi e he=>by
  obtain⟨oi,hoi⟩:=H.there i hi
  have h1:=hap0 i hi
  rw[hoi,hk'] at h1
  have hdi:jk0 ops i=oi.dst:=by unfold jk0;rw[hoi];rfl
  obtain⟨g1,g2,g3⟩:=Oper.apart_spec h1
  exact⟨g1 e (hdi▸he),g2 e (hdi▸he)⟩
 intro L X W hs hL hG hX up
 have hkL:L.getD k true=false:=by rw[zf8 (by rw[hs];exact hks) true false,hL k hkf',<-zf8 (by rw[hsc];exact hks) true false];exact hkc
 have hle:∀i,Lc.getD i false=true->L.getD i false=true:=fun i hi=>by
  by_cases him:i∈fl
  ·have:=hlow0 i him;rw[hi] at this;cases this
  ·rw[hL i him];exact hi
 have hkin:k∈Region.ready md ops L:=jak0 hkr' hle hkL
 obtain⟨e1,e2⟩:=zr1 (L:=L) (X:=X) (ops:=ops) (fun cs b=>Region.noSelect_spec H.sel k ok cs b hk') fl a (fun i hi _ e he=>(hap' i hi e he).1)
 rw[show f+1+jk4 L fl=(f+jk4 L fl)+1 by omega]
 have hSi:∀L w,ja8 (fun _=>True) s F s (fun _=>True) (L.setIfInBounds k true) w↔ja8 (fun _=>True) s F s (fun _=>True) L w:=fun L w=>by
  unfold ja8
  rw[getD_set_ne false (Ne.symm hsk)]
 refine jag2 (v:=v) hk' (Region.noSelect_spec H.sel) (fun c a w h=>(H.panic c a ok.dst v w).2 h) hSi _ L _ W up (fun j oj hj hne hun hno=>?_) hkin
  (.inl ⟨by rw[e2];exact hw,fun w ⟨L',up',hun,hS⟩=>by rw[e1];exact hv w (fun hn=>hS.2.1 (up'.needs hun _ _ hn))⟩) ⟨trivial,fun _=>hF W hG,fun _=>trivial⟩ ?_
 ·refine Region.free_spec hk' hfree j oj hj hne ?_ hno
  have hjs:j<ops.size:=(Array.getElem?_eq_some_iff.1 hj).1
  cases hc:Lc.getD j true with
  | false=>rfl
  | true=>
   rw[zf8 (by rw[hsc];exact hjs) true false] at hc
   have:=hle j hc
   rw[zf8 (by rw[hs];exact hjs) false true,hun] at this
   cases this
 ·have:=h (L.setIfInBounds k true) X W (by simpa using hs) (fun j hj=>by
   by_cases hjk:k=j
   ·subst hjk;simp[hs,hsc,hks]
   ·rw[getD_set_ne false hjk,getD_set_ne false hjk];exact hL j hj) hG (hX.set hkf' (fun _ _ h=>h)) (up.set hkin)
  rw[zf7 (L:=L.setIfInBounds k true) (L':=L) fl (fun j hj=>getD_set_ne false (fun e=>hkf' (e▸hj))),zc7 (L:=L.setIfInBounds k true) (L':=L) (X:=X) (X':=X) fl _ (fun j hj=>⟨getD_set_ne false (fun e=>hkf' (e▸hj)),rfl⟩)] at this
  rw[jaf3 fl a (fun i hi _ e he=>(hap' i hi e he).2)]
  exact this
theorem jd9.last {j:Nat} {d:Option Tmp} {Γ:World->Prop} {f:Nat} {Lc:Array Bool} {a:Act} (hB:(Lc.size==ops.size&&decide (j<ops.size)&&!Lc.getD j false)=true) (hdd:jk0 ops j=d) (hF:∀W,Γ W->F W)
  (h1:∀v W,Γ W->Made j v W->ja8 (fun _=>True) s F s (fun _=>True) (Lc.setIfInBounds j true) W->zf2 P md ops Q (fun _=>True) s F s (fun _=>True) f (Lc.setIfInBounds j true) (a.put d v) W)
  (h2:∀W,Γ W->ja8 (fun _=>True) s F s (fun _=>True) Lc W->zf2 P md ops Q (fun _=>True) s F s (fun _=>True) (f+1) Lc a W):jd9 P md ops Q s F Made [j] Γ f Lc a:=by
 subst hdd
 simp only[Bool.and_eq_true,beq_iff_eq,decide_eq_true_eq,Bool.not_eq_true'] at hB
 obtain⟨⟨hsc,hjs⟩,hjc⟩:=hB
 intro L X W hs hL hG hX up
 cases hj:L.getD j false with
 | false=>
  obtain rfl:L=Lc:=by
   apply Array.ext (by rw[hs,hsc])
   intro i g1 g2
   by_cases hij:i=j
   ·subst hij
    have:=hj.trans hjc.symm
    simpa [Array.getD,g1,g2] using this
   ·have:=hL i (by simpa using hij)
    simpa [Array.getD,g1,g2] using this
  have e1:jk4 L [j]=1:=by unfold jk4;rw[List.filter_cons_of_pos (by rw[hj];rfl)];rfl
  rw[e1]
  unfold jy6
  rw[hj,if_neg (by simp)]
  exact h2 W hG ⟨trivial,fun _=>hF W hG,fun _=>trivial⟩ up
 | true=>
  obtain rfl:L=Lc.setIfInBounds j true:=by
   apply Array.ext (by simp[hs,hsc])
   intro i g1 g2
   by_cases hij:i=j
   ·subst hij
    simpa [Array.getD,g1] using hj
   ·have:=hL i (by simpa using hij)
    rw[Array.getElem_setIfInBounds_ne (by simpa using g2) (Ne.symm hij)]
    have g3:i<Lc.size:=by simpa using g2
    simpa [Array.getD,g1,g3] using this
  have e1:jk4 (Lc.setIfInBounds j true) [j]=0:=by unfold jk4;rw[List.filter_cons_of_neg (by rw[hj];simp)];rfl
  rw[e1]
  unfold jy6
  rw[hj,if_pos rfl]
  exact h1 _ W hG (hX.1 j (by simp) hj) ⟨trivial,fun _=>hF W hG,fun _=>trivial⟩ up
theorem jd9.fin {Γ:World->Prop} {f:Nat} {Lc:Array Bool} {a:Act} (hsc:Lc.size=ops.size) (hF:∀W,Γ W->F W)
  (h:∀W,Γ W->ja8 (fun _=>True) s F s (fun _=>True) Lc W->zf2 P md ops Q (fun _=>True) s F s (fun _=>True) f Lc a W):jd9 P md ops Q s F Made [] Γ f Lc a:=by
 intro L X W hs hL hG hX up
 obtain rfl:L=Lc:=by
  apply Array.ext (by rw[hs,hsc])
  intro j h1 h2
  have:=hL j (by simp)
  simpa [Array.getD,h1,h2] using this
 exact h W hG ⟨trivial,fun _=>hF W hG,fun _=>trivial⟩ up
theorem jbr9(n:Nat):∀(fl:List Nat),jk4 (Array.replicate n false) fl=fl.length:=fun fl=>by
 unfold jk4
 rw[List.filter_eq_self.2 (fun i _=>by rw[getD_replicate_false];rfl)]
theorem jaz1 {L:Array Bool} {X:Nat->Value}:∀(fl:List Nat) (a:Act),(∀i∈fl,L.getD i false=false)->jy6 ops L X fl a=a
 | [],_,_=>rfl
 | i::fl,a,h=>by
  unfold jy6
  rw[h i (by simp),if_neg (by simp)]
  exact jaz1 fl a (fun j hj=>h j (by simp[hj]))
theorem jm8 {id:Nat} {a:Act} {w:World} {Q':Exit->Act->World->Prop} (s:Nat) (F:World->Prop) (Made:Nat->Value->World->Prop) (fl:List Nat) (Γ:World->Prop) (hm:P.follows .mixedOrders=true) (H:Floats P .any ops Q' F Made fl)
  (hQ:∀e a w,Q' e a w->Q e a w) (hlen:(decide (fl.length<=ops.size))=true) (hG:Γ w.drew) (hF:∀W,Γ W->F W)
  (h:Floats P .any ops Q' F Made fl->jd9 P .any ops Q' s F Made fl Γ (ops.size-fl.length) (Array.replicate ops.size false) a):(Code.region id ops true).wp P Q a w:=by
 refine wp_mono (wp_region_any hm (jab5 (S:=ja8 (fun _=>True) s F s (fun _=>True)) _ _ _ _ ?_)) hQ
 have:=h H (Array.replicate ops.size false) (fun _=>undef) w.drew (by simp) (fun _ _=>rfl) hG ⟨fun i _ hi=>(by rw[getD_replicate_false] at hi;cases hi),fun i _ j _ _ hi=>(by rw[getD_replicate_false] at hi;cases hi)⟩ UpTo.start
 rw[jbr9,jaz1 fl a (fun i _=>getD_replicate_false _ _),Nat.sub_add_cancel (by simpa using hlen)] at this
 exact this
end
abbrev Sl:=Option Addr×Nat×Nat
abbrev zj9(B:Nat)(x:Sl)(ts:List (Int×Int))(W:World):Prop:=W.ownsRow B 59 2 (.slice x.1 x.2.1 x.2.2) x.2.1 (ja9 ts)
theorem jc2{W:World}{B:Nat}{A:Option Addr}{n c:Nat}{ts:List (Int×Int)}(h:W.ownsRow B 59 2 (.slice A n c) n (ja9 ts)):ja3 W W.heap.size A n c ts:=Rd.of_own h
instance {B n c:Nat}{A:Option Addr}{ts:List (Int×Int)}:Kept fun W=>ja3 W B A n c ts/\B<=W.heap.size:=⟨fun _ _ h hb=>⟨Rd.below h.1 (hb.mono h.2),Nat.le_trans h.2 hb.size⟩⟩
end Go.Proofs.YtphcodcdfeohhaaGreatDoor
