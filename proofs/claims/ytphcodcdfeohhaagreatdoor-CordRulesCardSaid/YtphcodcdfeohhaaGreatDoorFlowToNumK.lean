import Derived.Test.YtphcodcdfeohhaaGreatDoorMakeAToCardI
set_option linter.all false
namespace Go.Proofs.YtphcodcdfeohhaaGreatDoor
open Go
open Go.RowKit
section
variable {P : Program} {ops : Array Oper} {Q : Exit → Act → World → Prop} {md : Region.Mode}
theorem jbf4 {j:Nat} {oj:Oper} {x:Option Tmp} {v:Value} (hj:ops[j]?=some oj) (h1:∀d,x=some d->d∉oj.looksAt ops) (h2:∀d,x=some d->oj.dst≠some d)
  (hsj:∀cs b,oj.op≠.select cs b) (hQ:∀c a w,Q (.panic c) a w->Q (.panic c) (a.put x v) w) {K:Act->World->Prop} {a:Act} {w:World} (h:wpOp P ops Q j K a w) :
  wpOp P ops Q j (λa' w'=>∃b,a'=b.put x v/\K b w') (a.put x v) w:=by
 unfold wpOp at *
 simp only[hj] at *
 rw[wanted_put oj a x v h1]
 split
 ·rename_i hw
  simp only[hw,if_true] at h
  rcases h with h|⟨hasks,hlets⟩
  case inr=>exact .inr ⟨by unfold Oper.asks at *;rw[execOp_put oj hsj a x v h1];exact hasks,hlets⟩
  refine .inl ?_
  unfold Oper.wp at *
  rw[execOp_put oj hsj a x v h1]
  generalize (execOp a.eval oj).run P w=r at *
  cases r with
  | ok n w'=>
   cases n<;>simp only[Oper.upon] at h ⊢
   case value u=>exact⟨_,Act.put_comm a v u h2,h⟩
   case skip=>exact⟨_,Act.put_comm a v undef h2,h⟩
   case defer d=>exact⟨_,by rw[Act.put_defers];exact Act.put_comm _ v undef h2,h⟩
   case enter f args=>
    refine Calls.mono h λe w'' he=>?_
    cases e with
    | returned u=>exact⟨_,Act.put_comm a v u h2,he⟩
    | panicked c=>exact hQ _ _ _ he
    | outgrown=>exact he
   case row row args=>exact Rows.mono h λu w'' he=>⟨_,Act.put_comm a v u h2,he⟩
  | halt x w'=>
   cases x<;>simp only[Oper.upon] at h ⊢
   case panic u=>exact hQ _ _ _ h
 ·rename_i hw
  simp only[hw] at h
  exact⟨_,Act.put_comm a v undef h2,h⟩
def Ju(ops:Array Oper)(i:Nat):Option Tmp:=(ops[i]?).bind (·.dst)
def qD (ops:Array Oper) (L:Array Bool) (X:Nat->Value):List Nat->Act->Act
 | [],a=>a
 | i::fl,a=>qD ops L X fl (if L.getD i false=true then a.put (Ju ops i) (X i)else a)
theorem qV {L L':Array Bool} {X X':Nat->Value}:∀(fl:List Nat) (a:Act),(∀j∈fl,L.getD j false=L'.getD j false/\X j=X' j)->qD ops L X fl a=qD ops L' X' fl a
 | [],_,_=>rfl
 | i::fl,a,h=>by
  unfold qD
  rw[(h i (by simp)).1,(h i (by simp)).2]
  exact qV fl _ (λj hj=>h j (by simp[hj]))
theorem jg4 {L:Array Bool} {X:Nat->Value} {d:Option Tmp} {v:Value}:∀(fl:List Nat) (a:Act),(∀j∈fl,L.getD j false=true->∀e,Ju ops j=some e->d≠some e)->(qD ops L X fl a).put d v=qD ops L X fl (a.put d v)
 | [],_,_=>rfl
 | i::fl,a,h=>by
  unfold qD
  rw[jg4 fl _ (λj hj=>h j (by simp[hj]))]
  split
  ·rename_i hi
   rw[Act.put_comm a (X i) v (h i (by simp) hi)]
  ·rfl
theorem jas2{L:Array Bool}{X:Nat->Value}{i:Nat}{v:Value}(hi:L.getD i false=false)(hs:i<L.size):∀(fl:List Nat) (a:Act),fl.Nodup->i∈fl ->
  (∀j∈fl,j≠i->∀e,Ju ops j=some e->Ju ops i≠some e)->qD ops (L.setIfInBounds i true) (λj=>if j=i then v else X j) fl a=(qD ops L X fl a).put (Ju ops i) v
 | [],_,_,h,_=>by cases h
 | j::fl,a,hn,hm,hd=>by
  have hn':=List.nodup_cons.1 hn
  unfold qD
  by_cases hij:j=i
  ·subst hij
   have e1:(L.setIfInBounds j true).getD j false=true:=by simp[hs]
   rw[e1,hi]
   simp only[if_true,Bool.false_eq_true,if_false]
   rw[jg4 fl a (λk hk _=>hd k (by simp[hk]) (λe=>hn'.1 (e▸hk)))]
   refine qV fl _ (λk hk=>?_)
   have hne:k≠j:=λe=>hn'.1 (e▸hk)
   exact⟨getD_set_ne false (Ne.symm hne),if_neg hne⟩
  ·rw[getD_set_ne false (Ne.symm hij),if_neg hij]
   exact jas2 hi hs fl _ hn'.2 ((List.mem_cons.1 hm).resolve_left (λh=>hij h.symm)) (λk hk=>hd k (by simp[hk]))
theorem jk4 {L:Array Bool} {X:Nat->Value} {j:Nat} {oj:Oper} (hj:ops[j]?=some oj) (hsj:∀cs b,oj.op≠.select cs b) (hQ:∀c a d v w,Q (.panic c) a w->Q (.panic c) (a.put d v) w) {w:World} :
  ∀(fl:List Nat) (K:Act->World->Prop) (a:Act),(∀i∈fl,L.getD i false=true->∀e,Ju ops i=some e->e∉oj.looksAt ops/\oj.dst≠some e)->wpOp P ops Q j K a w ->
   wpOp P ops Q j (λa' w'=>∃b,a'=qD ops L X fl b/\K b w') (qD ops L X fl a) w
 | [],_,_,_,h=>wpOp_mono (λa' w' h'=>⟨a',rfl,h'⟩) h
 | i::fl,K,a,hap,h=>by
  unfold qD
  split
  ·rename_i hi
   have h1:=jbf4 (v:=X i) hj (λd hd=>(hap i (by simp) hi d hd).1) (λd hd=>(hap i (by simp) hi d hd).2) hsj (λc a w=>hQ c a _ _ w) h
   exact wpOp_mono (λa' w' ⟨b,hb,b',hb',hk⟩=>⟨b',by rw[hb,hb'],hk⟩) (jk4 hj hsj hQ fl _ _ (λk hk=>hap k (by simp[hk])) h1)
  ·exact jk4 hj hsj hQ fl K a (λk hk=>hap k (by simp[hk])) h
theorem Qm{L:Array Bool}{X:Nat->Value}{oj:Oper}(hsj:∀cs b,oj.op≠.select cs b):∀(fl:List Nat) (a:Act),(∀i∈fl,L.getD i false=true->∀e,Ju ops i=some e->e∉oj.looksAt ops) ->
  execOp (qD ops L X fl a).eval oj=execOp a.eval oj/\Region.wanted oj (yielded ops (qD ops L X fl a).tmps)=Region.wanted oj (yielded ops a.tmps)
 | [],_,_=>⟨rfl,rfl⟩
 | i::fl,a,h=>by
  unfold qD
  split
  ·rename_i hi
   obtain⟨e1,e2⟩:=Qm (L:=L) (X:=X) hsj fl (a.put (Ju ops i) (X i)) (λk hk=>h k (by simp[hk]))
   exact⟨e1.trans (execOp_put oj hsj a _ _ (h i (by simp) hi)),e2.trans (wanted_put oj a _ _ (h i (by simp) hi))⟩
  ·exact Qm hsj fl a (λk hk=>h k (by simp[hk]))
def JM(L:Array Bool)(fl:List Nat):Nat:=(fl.filter λi=>!L.getD i false).length
theorem Ql{L L':Array Bool}:∀(fl:List Nat),(∀j∈fl,L.getD j false=L'.getD j false)->JM L fl=JM L' fl:=λfl h=>by
 unfold JM
 rw[List.filter_congr (λj hj=>by rw[h j hj])]
theorem zy0 {L:Array Bool} {i:Nat} (hi:L.getD i false=false) (hs:i<L.size):∀(fl:List Nat),fl.Nodup->i∈fl->JM L fl=JM (L.setIfInBounds i true) fl+1
 | [],_,h=>by cases h
 | j::fl,hn,hm=>by
  have hn':=List.nodup_cons.1 hn
  unfold JM
  by_cases hij:j=i
  ·subst hij
   have e1:(L.setIfInBounds j true).getD j false=true:=by simp[hs]
   rw[List.filter_cons_of_pos (by rw[hi];rfl),List.filter_cons_of_neg (by rw[e1];simp),List.length_cons]
   have:=Ql (L:=L) (L':=L.setIfInBounds j true) fl (λk hk=>(getD_set_ne false (λ(e:j=k)=>hn'.1 (e▸hk))).symm)
   unfold JM at this
   omega
  ·have ih:=zy0 hi hs fl hn'.2 ((List.mem_cons.1 hm).resolve_left (λh=>hij h.symm))
   unfold JM at ih
   have e1:=getD_set_ne (listed:=L) false (Ne.symm hij)
   rw[List.filter_cons,List.filter_cons,e1]
   split
   ·simp only[List.length_cons];omega
   ·exact ih
theorem jj4{L L':Array Bool}{k:Nat}(hk:k∈Region.ready md ops L)(h:∀j,L.getD j false=true->L'.getD j false=true)(hk':L'.getD k true=false):k∈Region.ready md ops L':=by
 rw[mem_ready] at *
 obtain⟨h0,o,ho,hall⟩:=hk
 exact⟨hk',o,ho,λe he hb=>h _ (hall e he hb)⟩
def QT(L:Array Bool)(fl:List Nat):Array Bool:=fl.foldl (λL i=>L.setIfInBounds i true) L
theorem jat6 {j:Nat}:∀(fl:List Nat) (L:Array Bool),j∉fl->(QT L fl).getD j false=L.getD j false
 | [],_,_=>rfl
 | i::fl,L,h=>by
  unfold QT
  rw[List.foldl_cons]
  have:=jat6 (j:=j) fl (L.setIfInBounds i true) (λhm=>h (by simp[hm]))
  unfold QT at this
  rw[this]
  exact getD_set_ne false (λe=>h (by simp[e]))
theorem zp5:∀(fl:List Nat) (L:Array Bool),(QT L fl).size=L.size
 | [],_=>rfl
 | i::fl,L=>by
  unfold QT
  rw[List.foldl_cons]
  have:=zp5 fl (L.setIfInBounds i true)
  unfold QT at this
  rw[this];simp
theorem zb1 {j:Nat}:∀(fl:List Nat) (L:Array Bool),(L.getD j false=true\/j∈fl/\j<L.size)->(QT L fl).getD j false=true
 | [],L,h=>by exact h.resolve_right (λh=>by cases h.1)
 | i::fl,L,h=>by
  unfold QT
  rw[List.foldl_cons]
  refine zb1 fl (L.setIfInBounds i true) ?_
  rcases h with h|⟨h,hs⟩
  ·exact .inl (getD_set_true h)
  ·rcases List.mem_cons.1 h with h|h
   ·subst h;exact .inl (by simp[hs])
   ·exact .inr ⟨h,by simpa using hs⟩
theorem Zs{L:Array Bool}{j:Nat}(h:j<L.size)(b c:Bool):L.getD j b=L.getD j c:=by simp[Array.getD,h]
def Ups(Made:Nat->Value->World->Prop)(fl:List Nat)(L:Array Bool)(X:Nat->Value)(W:World):Prop:=
 (∀i∈fl,L.getD i false=true->Made i (X i) W)/\∀i∈fl,∀j∈fl,i≠j->L.getD i false=true->L.getD j false=true->X i≠X j
section
variable {Made : Nat → Value → World → Prop} {fl : List Nat} {L : Array Bool} {X : Nat → Value} {W W' : World}
theorem Ups.tail{i:Nat}(h:Ups Made (i::fl) L X W):Ups Made fl L X W:=⟨λj hj=>h.1 j (by simp[hj]),λj hj k hk=>h.2 j (by simp[hj]) k (by simp[hk])⟩
theorem Ups.set{k:Nat}(h:Ups Made fl L X W)(hk:k∉fl)(hm:∀i v,Made i v W->Made i v W'):Ups Made fl (L.setIfInBounds k true) X W':=
 ⟨λi hi h1=>by rw[getD_set_ne false (λ(e:k=i)=>hk (e▸hi))] at h1;exact hm _ _ (h.1 i hi h1),
   λi hi j hj hne h1 h2=>by
  rw[getD_set_ne false (λ(e:k=i)=>hk (e▸hi))] at h1
  rw[getD_set_ne false (λ(e:k=j)=>hk (e▸hj))] at h2
  exact h.2 i hi j hj hne h1 h2⟩
theorem Ups.up{j:Nat}{v:Value}(h:Ups Made fl L X W)(hm:∀i v,Made i v W->Made i v W')(hv:Made j v W')(hn:∀i∈fl,i≠j->∀u,Made i u W->u≠v):Ups Made fl (L.setIfInBounds j true) (λi=>if i=j then v else X i) W':=
 ⟨λi hi hi1=>by
  dsimp only
  by_cases hij:i=j
  ·subst hij;simpa using hv
  ·rw[getD_set_ne false (Ne.symm hij)] at hi1
   rw[if_neg hij]
   exact hm _ _ (h.1 i hi hi1),
   λi hi k hk hne h1 h2=>by
  dsimp only
  by_cases hij:i=j
  ·subst hij
   rw[getD_set_ne false hne] at h2
   rw[if_pos rfl,if_neg (Ne.symm hne)]
   exact(hn k hk (Ne.symm hne) _ (h.1 k hk h2)).symm
  ·rw[getD_set_ne false (Ne.symm hij)] at h1
   rw[if_neg hij]
   by_cases hkj:k=j
   ·subst hkj
    rw[if_pos rfl]
    exact hn i hi hij _ (h.1 i hi h1)
   ·rw[getD_set_ne false (Ne.symm hkj)] at h2
    rw[if_neg hkj]
    exact h.2 i hi k hk hne h1 h2⟩
end
def jg(P:Program)(md:Region.Mode)(ops:Array Oper)(Q:Exit->Act->World->Prop)(s:Nat)(F:World->Prop)(Made:Nat->Value->World->Prop)(fl:List Nat)(Γ:World->Prop)(f:Nat)(Lc:Array Bool)(a:Act):Prop:=
 ∀(L:Array Bool) (X:Nat->Value) (W:World),L.size=ops.size->(∀j,j∉fl->L.getD j false=Lc.getD j false)->Γ W->Ups Made fl L X W->UpTo md ops L ->
  ql P md ops Q (jf (λ_=>True) s F s (λ_=>True)) (f+JM L fl) L (qD ops L X fl a) W
structure Floats(P:Program)(md:Region.Mode)(ops:Array Oper)(Q:Exit->Act->World->Prop)(F:World->Prop)(Made:Nat->Value->World->Prop)(fl:List Nat):Prop where
 sel:Region.noSelect ops=true
 panic:∀c a d v w,Q (.panic c) a w↔Q (.panic c) (a.put d v) w
 nodup:fl.Nodup
 there:∀i∈fl,∃o,ops[i]?=some o
 apart:∀i∈fl,∀j∈fl,j≠i->∀oi oj,ops[i]?=some oi->ops[j]?=some oj->oi.apart ops oj=true
 run:∀i∈fl,∀a W,F W->wpOp P ops Q i (λa' W'=>∃v,a'=a.put (Ju ops i) v/\Made i v W'/\Below W.heap.size W W'/\∀j∈fl,j≠i->∀u,Made j u W->u≠v) a W
 made:∀i v W W',Made i v W->Below W.heap.size W W'->Made i v W'
variable {s : Nat} {F : World → Prop} {Made : Nat → Value → World → Prop} {fl : List Nat}
theorem Floats.tail{i:Nat}(H:Floats P md ops Q F Made (i::fl)):Floats P md ops Q F Made fl:=
 ⟨H.sel,H.panic,(List.nodup_cons.1 H.nodup).2,λj hj=>H.there j (by simp[hj]),λj hj k hk=>H.apart j (by simp[hj]) k (by simp[hk]),λj hj a W hF=>wpOp_mono (λ_ _ ⟨v,h1,h2,h3,h4⟩=>⟨v,h1,h2,h3,λk hk=>h4 k (by simp[hk])⟩) (H.run j (by simp[hj]) a W hF),H.made⟩
theorem Floats.of2 (hB:(Region.noSelect ops&&decide fl.Nodup&&(fl.all λi=>(ops[i]?).isSome)&&fl.all λi=>fl.all λj=>j==i || match ops[i]?,ops[j]? with|some oi,some oj=>oi.apart ops oj|_,_=>true)=true)
  (hp:∀c a d v w,Q (.panic c) a w↔Q (.panic c) (a.put d v) w) (hr:∀i∈fl,∀a W,F W->wpOp P ops Q i (λa' W'=>∃v,a'=a.put (Ju ops i) v/\Made i v W'/\Below W.heap.size W W'/\∀j∈fl,j≠i->∀u,Made j u W->u≠v) a W)
  (hm:∀i v W W',Made i v W->Below W.heap.size W W'->Made i v W'):Floats P md ops Q F Made fl:=by
 simp only[Bool.and_eq_true,decide_eq_true_eq] at hB
 obtain⟨⟨⟨h1,h2⟩,h3⟩,h4⟩:=hB
 refine⟨h1,hp,h2,λi hi=>Option.isSome_iff_exists.1 (List.all_eq_true.1 h3 i hi),λi hi j hj hne oi oj hoi hoj=>?_,hr,hm⟩
 have h5:=List.all_eq_true.1 (List.all_eq_true.1 h4 i hi) j hj
 rw[hoi,hoj] at h5
 simpa [hne] using h5
theorem Floats.of (hB:((Region.noSelect ops&&decide fl.Nodup&&(fl.all λi=>(ops[i]?).isSome)&&fl.all λi=>fl.all λj=>j==i || match ops[i]?,ops[j]? with|some oi,some oj=>oi.apart ops oj|_,_=>true)&&decide (fl.length<=1))=true)
  (hp:∀c a d v w,Q (.panic c) a w↔Q (.panic c) (a.put d v) w) (hr:∀i∈fl,∀a W,F W->wpOp P ops Q i (λa' W'=>∃v,a'=a.put (Ju ops i) v/\Made i v W'/\Below W.heap.size W W') a W)
  (hm:∀i v W W',Made i v W->Below W.heap.size W W'->Made i v W'):Floats P md ops Q F Made fl:=by
 rw[Bool.and_eq_true,decide_eq_true_eq] at hB
 refine Floats.of2 hB.1 hp (λi hi a W hF=>wpOp_mono (λ_ _ ⟨v,h1,h2,h3⟩=>⟨v,h1,h2,h3,λj hj hne=>?_⟩) (hr i hi a W hF)) hm
 match fl,hB.2,hi,hj with
 | [k],_,hi,hj=>exact absurd ((List.mem_singleton.1 hj).trans (List.mem_singleton.1 hi).symm) hne
theorem Floats.up (H:Floats P md ops Q F Made fl) {L:Array Bool} {X:Nat->Value} {a:Act} {W:World} {i:Nat} {f:Nat} {S:Array Bool->World->Prop} (hi:i∈fl) (hL:L.getD i false=false) (hs:i<L.size) (hF:F W)
  (h:∀v W',Made i v W'->Below W.heap.size W W'->(∀j∈fl,j≠i->∀u,Made j u W->u≠v)->S (L.setIfInBounds i true) W'/\ql P md ops Q S f (L.setIfInBounds i true) (qD ops (L.setIfInBounds i true) (λj=>if j=i then v else X j) fl a) W') :
  wpOp P ops Q i (λa' w'=>S (L.setIfInBounds i true) w'/\ql P md ops Q S f (L.setIfInBounds i true) a' w') (qD ops L X fl a) W:=by
 obtain⟨oi,hoi⟩:=H.there i hi
 have hdi:Ju ops i=oi.dst:=by unfold Ju;rw[hoi];rfl
 have hap:∀j∈fl,j≠i->∀e,Ju ops j=some e->e∉oi.looksAt ops/\oi.dst≠some e:=λj hj hne e he=>by
  obtain⟨oj,hoj⟩:=H.there j hj
  have hdj:Ju ops j=oj.dst:=by unfold Ju;rw[hoj];rfl
  obtain⟨h1,h2,h3⟩:=Oper.apart_spec (H.apart j hj i hi (Ne.symm hne) oj oi hoj hoi)
  exact⟨h1 e (hdj▸he),h2 e (hdj▸he)⟩
 have hr:=jk4 (L:=L) (X:=X) hoi (λcs b=>Region.noSelect_spec H.sel i oi cs b hoi) (λc a d v w=>(H.panic c a d v w).1) fl _ a (λj hj hj1=>hap j hj (λe=>by rw[e,hL] at hj1;cases hj1)) (H.run i hi a W hF)
 refine wpOp_mono (λa' W' h'=>?_) hr
 obtain⟨b,rfl,v,rfl,hm,hb,hn⟩:=h'
 have:=h v W' hm hb hn
 rwa [jas2 hL hs fl a H.nodup hi (λj hj hne e he=>by rw[hdi];exact(hap j hj hne e he).2),jg4 fl a (λj hj hj1 e he=>by rw[hdi];exact(hap j hj (λe=>by rw[e,hL] at hj1;cases hj1) e he).2)] at this
theorem jbc4{L Lc:Array Bool}{j k:Nat}(hs:L.size=ops.size)(hsc:Lc.size=ops.size)(hL:∀j,j∉fl->L.getD j false=Lc.getD j false)(hr:Region.ready md ops (QT Lc fl)=[k])(hj:j∈Region.ready md ops L)(hjf:j∉fl):j=k:=by
 have hjs:j<ops.size:=by
  obtain⟨_,o,ho,_⟩:=mem_ready.1 hj
  exact(Array.getElem?_eq_some_iff.1 ho).1
 have h0:=(mem_ready.1 hj).1
 have h1:j∈Region.ready md ops (QT Lc fl):=by
  refine jj4 hj (λi hi=>?_) ?_
  ·by_cases him:i∈fl
   ·refine zb1 fl Lc (.inr ⟨him,?_⟩)
    rw[hsc,<-hs]
    rcases Nat.lt_or_ge i L.size with h|h
    ·exact h
    ·simp[Array.getElem?_eq_none h] at hi
   ·exact zb1 fl Lc (.inl ((hL i him)▸hi))
  ·rw[Zs (by rw[zp5,hsc];exact hjs) true false,jat6 fl Lc hjf,<-hL j hjf,<-Zs (by rw[hs];exact hjs) true false]
   exact h0
 rw[hr] at h1
 simpa using h1
theorem jg.step (k:Nat) {Γ:World->Prop} {f:Nat} {Lc:Array Bool} {a:Act} (H:Floats P md ops Q F Made fl)
  (hB:(Lc.size==ops.size&&!fl.contains k&&(Region.ready md ops Lc).contains k&&(Region.ready md ops (QT Lc fl)==[k])&&fl.all λi=>!Lc.getD i false)=true)
  (hM:∀W W',Γ W->Below W.heap.size W W'->Γ W') (hF:∀W,Γ W->F W)
  (hc:∀(L:Array Bool) (X:Nat->Value) (W:World),L.size=ops.size->(∀j,j∉fl->L.getD j false=Lc.getD j false)->Γ W->Ups Made fl L X W->UpTo md ops L->k∈Region.ready md ops L ->
   wpOp P ops Q k (λa' w'=>jf (λ_=>True) s F s (λ_=>True) (L.setIfInBounds k true) w'/\ql P md ops Q (jf (λ_=>True) s F s (λ_=>True)) (f+JM L fl) (L.setIfInBounds k true) a' w') (qD ops L X fl a) W) :
  jg P md ops Q s F Made fl Γ (f+1) Lc a:=by
 simp only[Bool.and_eq_true,beq_iff_eq,Bool.not_eq_true',List.all_eq_true] at hB
 obtain⟨⟨⟨⟨hsc,hkf⟩,hkr⟩,hall⟩,hlow⟩:=hB
 have hkf':k∉fl:=λhm=>by rw[List.contains_iff_mem.2 hm] at hkf;cases hkf
 have hkr':k∈Region.ready md ops Lc:=by simpa using hkr
 obtain⟨hkc,okk,hk,_⟩:=mem_ready.1 hkr'
 have hks:k<ops.size:=(Array.getElem?_eq_some_iff.1 hk).1
 suffices hm:∀m (L:Array Bool) (X:Nat->Value) (W:World),JM L fl=m->L.size=ops.size->(∀j,j∉fl->L.getD j false=Lc.getD j false)->Γ W->Ups Made fl L X W->UpTo md ops L ->
   ql P md ops Q (jf (λ_=>True) s F s (λ_=>True)) (f+1+m) L (qD ops L X fl a) W from λL X W h1 h2 h3 h4 h5=>hm _ L X W rfl h1 h2 h3 h4 h5
 intro m
 induction m using Nat.strongRecOn with
 | _ m ih=>
  intro L X W hd hs hL hG hX up
  have hkL:L.getD k true=false:=by rw[Zs (by rw[hs];exact hks) true false,hL k hkf',<-Zs (by rw[hsc];exact hks) true false];exact hkc
  have hkin:k∈Region.ready md ops L:=by
   refine jj4 hkr' (λi hi=>?_) hkL
   by_cases him:i∈fl
   ·have:=hlow i him;rw[hi] at this;cases this
   ·rw[hL i him];exact hi
  rw[show f+1+m=(f+m)+1 by omega]
  refine⟨λh0=>(by rw[h0] at hkin;cases hkin),λj hj=>?_⟩
  by_cases hjf:j∈fl
  ·have hjL:L.getD j false=false:=getD_both (mem_ready.1 hj).1
   obtain⟨oj,hoj⟩:=H.there j hjf
   have hjs:j<L.size:=by rw[hs];exact(Array.getElem?_eq_some_iff.1 hoj).1
   refine H.up hjf hjL hjs (hF W hG) (λv W' hmd hb hn=>?_)
   have hG':=hM W W' hG hb
   refine⟨⟨trivial,λ_=>hF W' hG',λ_=>trivial⟩,?_⟩
   have hdd:=zy0 hjL hjs fl H.nodup hjf
   have:=ih (JM (L.setIfInBounds j true) fl) (by omega) (L.setIfInBounds j true) (λi=>if i=j then v else X i) W' rfl (by simpa using hs) (λi hi=>by rw[getD_set_ne false (λ(e:j=i)=>hi (e▸hjf))];exact hL i hi) hG' (hX.up (λi v hi=>H.made i v W W' hi hb) hmd hn) (up.set hj)
   rw[show f+1+JM (L.setIfInBounds j true) fl=f+m by omega] at this
   exact this
  ·obtain rfl:=jbc4 hs hsc hL hall hj hjf
   have:=hc L X W hs hL hG hX up hkin
   rw[hd] at this
   exact this
theorem jg.call {α:Type} {l rest:List Oper} (k:Nat) {ok:Oper} {Γ:World->Prop} {f:Nat} {Lc:Array Bool} {a:Act} (v:α->Value) (Γ':α->World->Prop) (hops:ops=l.toArray) (hk:l.drop k=ok::rest) (H:Floats P md ops Q F Made fl)
  (hB:((Lc.size==ops.size&&!fl.contains k&&(Region.ready md ops Lc).contains k&&(Region.ready md ops (QT Lc fl)==[k])&&fl.all λi=>!Lc.getD i false)&&fl.all λi=>match ops[i]?,ops[k]? with|some oi,some ok=>oi.apart ops ok|_,_=>true)=true)
  (hM:∀W W',Γ W->Below W.heap.size W W'->Γ W') (hF:∀W,Γ W->F W) (hF':∀x W,Γ' x W->F W)
  (hw:∀W,Γ W->∀K':Act->World->Prop,Shut (∀x W',Γ' x W'->Below W.heap.size W W'->K' (a.put ok.dst (v x)) W')->if Region.wanted ok (yielded ops a.tmps)=true then Oper.wp P ok a W K' Q else K' (a.put ok.dst undef) W)
  (h:∀x,jg P md ops Q s F Made fl (Γ' x) f (Lc.setIfInBounds k true) (a.put ok.dst (v x))):jg P md ops Q s F Made fl Γ (f+1) Lc a:=by
 have hk':ops[k]?=some ok:=by subst hops;exact JL hk
 rw[Bool.and_eq_true] at hB
 refine jg.step k H hB.1 hM hF (λL X W hs hL hG hX up hkin=>?_)
 have hap:=List.all_eq_true.1 hB.2
 have hkf':k∉fl:=λhm=>by have:=hB.1;simp[hm] at this
 have hap':∀i∈fl,∀e,Ju ops i=some e->e∉ok.looksAt ops/\ok.dst≠some e:=λi hi e he=>by
  obtain⟨oi,hoi⟩:=H.there i hi
  have h1:=hap i hi
  rw[hoi,hk'] at h1
  have hdi:Ju ops i=oi.dst:=by unfold Ju;rw[hoi];rfl
  obtain⟨g1,g2,g3⟩:=Oper.apart_spec h1
  exact⟨g1 e (hdi▸he),g2 e (hdi▸he)⟩
 have h1:wpOp P ops Q k (λa' W'=>∃x,a'=a.put ok.dst (v x)/\Γ' x W'/\Below W.heap.size W W') a W:=
  wpOp_step hk' (λK' hK=>hw W hG K' (λx W' hx hb=>hK _ _ ⟨x,rfl,hx,hb⟩))
 refine wpOp_mono (λa' W' h'=>?_) (jk4 (L:=L) (X:=X) hk' (λcs b=>Region.noSelect_spec H.sel k ok cs b hk') (λc a d v w=>(H.panic c a d v w).1) fl _ a (λi hi _=>hap' i hi) h1)
 obtain⟨b,rfl,x,rfl,hx,hb⟩:=h'
 refine⟨⟨trivial,λ_=>hF' x W' hx,λ_=>trivial⟩,?_⟩
 have:=h x (L.setIfInBounds k true) X W' (by simpa using hs) (λj hj=>by
  by_cases hjk:k=j
  ·subst hjk
   have hks:k<ops.size:=(Array.getElem?_eq_some_iff.1 hk').1
   have hsc:Lc.size=ops.size:=by have:=hB.1;simp only[Bool.and_eq_true,beq_iff_eq] at this;exact this.1.1.1.1
   simp[hs,hsc,hks]
  ·rw[getD_set_ne false hjk,getD_set_ne false hjk];exact hL j hj) hx (hX.set hkf' (λi v hi=>H.made i v W W' hi hb)) (up.set hkin)
 rw[Ql (L:=L.setIfInBounds k true) (L':=L) fl (λj hj=>getD_set_ne false (λe=>hkf' (e▸hj))),qV (L:=L.setIfInBounds k true) (L':=L) (X:=X) (X':=X) fl _ (λj hj=>⟨getD_set_ne false (λe=>hkf' (e▸hj)),rfl⟩)] at this
 exact this
class Kept (S:World->Prop):Prop where
 keep:∀W W',S W->Below W.heap.size W W'->S W'
instance {A B:World->Prop}[Kept A][Kept B]:Kept λW=>A W/\B W:=⟨λW W' h hb=>⟨Kept.keep W W' h.1 hb,Kept.keep W W' h.2 hb⟩⟩
instance {p:Prop}:Kept λ_=>p:=⟨λ_ _ h _=>h⟩
instance {α:Type}{A:α->World->Prop}[∀x,Kept (A x)]:Kept λW=>∃x,A x W:=⟨λW W' ⟨x,h⟩ hb=>⟨x,Kept.keep W W' h hb⟩⟩
instance {X:Nat}{t:TypeId}{l:Array Value}:Kept λW=>jh W X t l:=⟨λ_ _ h hb=>h.below hb h.lt⟩
instance {B size n:Nat}{e:TypeId}{v:Value}{xs:List Value}:Kept λW=>W.ownsRow B e size v n xs:=⟨λ_ _ h hb=>World.ownsRow.kept h (jX hb none) (by cases v.ownBlock<;>simp)⟩
instance {a:Addr}{v:Value}:Kept λW=>W.cell? a=some v:=⟨λW _ h hb=>(hb.cell (World.block_lt_of_cell? W a h)).trans h⟩
instance {n:Nat}:Kept λW=>n<=W.heap.size:=⟨λ_ _ h hb=>Nat.le_trans h hb.size⟩
instance {n:Nat}{w:World}:Kept λW=>Below n w W/\n<=W.heap.size:=⟨λ_ _ h hb=>⟨h.1.trans (hb.mono h.2),Nat.le_trans h.2 hb.size⟩⟩
theorem jg.on {α:Type} {l rest:List Oper} (k:Nat) {ok:Oper} {Γ:World->Prop} {f:Nat} {Lc:Array Bool} {a:Act} (v:α->Value) (New:α->World->Prop) [hM:Kept Γ] (hops:ops=l.toArray) (hk:l.drop k=ok::rest) (H:Floats P md ops Q F Made fl)
  (hB:((Lc.size==ops.size&&!fl.contains k&&(Region.ready md ops Lc).contains k&&(Region.ready md ops (QT Lc fl)==[k])&&fl.all λi=>!Lc.getD i false)&&fl.all λi=>match ops[i]?,ops[k]? with|some oi,some ok=>oi.apart ops ok|_,_=>true)=true)
  (hF:∀W,Γ W->F W)
  (hw:∀W,Γ W->∀K':Act->World->Prop,Shut (∀x W',New x W'->Below W.heap.size W W'->K' (a.put ok.dst (v x)) W')->if Region.wanted ok (yielded ops a.tmps)=true then Oper.wp P ok a W K' Q else K' (a.put ok.dst undef) W)
  (h:∀x,(∀W,Γ W/\New x W->F W)->jg P md ops Q s F Made fl (λW=>Γ W/\New x W) f (Lc.setIfInBounds k true) (a.put ok.dst (v x))):jg P md ops Q s F Made fl Γ (f+1) Lc a:=
 jg.call k v (λx W=>Γ W/\New x W) hops hk H hB hM.keep hF (λx W hh=>hF W hh.1) (λW hG K' hK=>hw W hG K' (λx W' hx hb=>hK.out x W' ⟨hM.keep W W' hG hb,hx⟩ hb)) (λx=>h x (λW hh=>hF W hh.1))
theorem jg.take {l rest:List Oper} (k:Nat) {ok:Oper} {Γ:World->Prop} {f:Nat} {Lc:Array Bool} {a:Act} {v:Value} (hops:ops=l.toArray) (hk:l.drop k=ok::rest) (H:Floats P md ops Q F Made fl)
  (hB:(Lc.size==ops.size&&!fl.contains k&&(Region.ready md ops Lc).contains k&&Region.free md ops Lc k&&(s !=k)&&(fl.all λi=>!Lc.getD i false)&&fl.all λi=>match ops[i]?,ops[k]? with|some oi,some ok=>oi.apart ops ok|_,_=>true)=true)
  (hF:∀W,Γ W->F W) (hw:Region.wanted ok (yielded ops a.tmps)=true)
  (hv:∀W,(Region.needs md ops ops.size s k=true->F W)->(execOp a.eval ok).run P W=.ok (.value v) W)
  (h:jg P md ops Q s F Made fl Γ f (Lc.setIfInBounds k true) (a.put ok.dst v)):jg P md ops Q s F Made fl Γ (f+1) Lc a:=by
 have hk':ops[k]?=some ok:=by subst hops;exact JL hk
 simp only[Bool.and_eq_true,beq_iff_eq,bne_iff_ne,ne_eq,Bool.not_eq_true'] at hB
 obtain⟨⟨⟨⟨⟨⟨hsc,hkf⟩,hkr⟩,hfree⟩,hsk⟩,hlow⟩,hap⟩:=hB
 have hkf':k∉fl:=λhm=>by rw[List.contains_iff_mem.2 hm] at hkf;cases hkf
 have hkr':k∈Region.ready md ops Lc:=by simpa using hkr
 have hks:k<ops.size:=(Array.getElem?_eq_some_iff.1 hk').1
 have hkc:Lc.getD k true=false:=(mem_ready.1 hkr').1
 have hap0:=List.all_eq_true.1 hap
 have hlow0:=List.all_eq_true.1 hlow
 have hap':∀i∈fl,∀e,Ju ops i=some e->e∉ok.looksAt ops/\ok.dst≠some e:=λi hi e he=>by
  obtain⟨oi,hoi⟩:=H.there i hi
  have h1:=hap0 i hi
  rw[hoi,hk'] at h1
  have hdi:Ju ops i=oi.dst:=by unfold Ju;rw[hoi];rfl
  obtain⟨g1,g2,g3⟩:=Oper.apart_spec h1
  exact⟨g1 e (hdi▸he),g2 e (hdi▸he)⟩
 intro L X W hs hL hG hX up
 have hkL:L.getD k true=false:=by rw[Zs (by rw[hs];exact hks) true false,hL k hkf',<-Zs (by rw[hsc];exact hks) true false];exact hkc
 have hle:∀i,Lc.getD i false=true->L.getD i false=true:=λi hi=>by
  by_cases him:i∈fl
  ·have:=hlow0 i him;rw[hi] at this;cases this
  ·rw[hL i him];exact hi
 have hkin:k∈Region.ready md ops L:=jj4 hkr' hle hkL
 obtain⟨e1,e2⟩:=Qm (L:=L) (X:=X) (ops:=ops) (λcs b=>Region.noSelect_spec H.sel k ok cs b hk') fl a (λi hi _ e he=>(hap' i hi e he).1)
 rw[show f+1+JM L fl=(f+JM L fl)+1 by omega]
 have hSi:∀L w,jf (λ_=>True) s F s (λ_=>True) (L.setIfInBounds k true) w↔jf (λ_=>True) s F s (λ_=>True) L w:=λL w=>by
  unfold jf
  rw[getD_set_ne false (Ne.symm hsk)]
 refine jb3 (v:=v) hk' (Region.noSelect_spec H.sel) (λc a w h=>(H.panic c a ok.dst v w).2 h) hSi _ L _ W up (λj oj hj hne hun hno=>?_) hkin
  (.inl ⟨by rw[e2];exact hw,λw ⟨L',up',hun,hS⟩=>by rw[e1];exact hv w (λhn=>hS.2.1 (up'.needs hun _ _ hn))⟩) ⟨trivial,λ_=>hF W hG,λ_=>trivial⟩ ?_
 ·refine Region.free_spec hk' hfree j oj hj hne ?_ hno
  have hjs:j<ops.size:=(Array.getElem?_eq_some_iff.1 hj).1
  cases hc:Lc.getD j true with
  | false=>rfl
  | true=>
   rw[Zs (by rw[hsc];exact hjs) true false] at hc
   have:=hle j hc
   rw[Zs (by rw[hs];exact hjs) false true,hun] at this
   cases this
 ·have:=h (L.setIfInBounds k true) X W (by simpa using hs) (λj hj=>by
   by_cases hjk:k=j
   ·subst hjk;simp[hs,hsc,hks]
   ·rw[getD_set_ne false hjk,getD_set_ne false hjk];exact hL j hj) hG (hX.set hkf' (λ_ _ h=>h)) (up.set hkin)
  rw[Ql (L:=L.setIfInBounds k true) (L':=L) fl (λj hj=>getD_set_ne false (λe=>hkf' (e▸hj))),qV (L:=L.setIfInBounds k true) (L':=L) (X:=X) (X':=X) fl _ (λj hj=>⟨getD_set_ne false (λe=>hkf' (e▸hj)),rfl⟩)] at this
  rw[jg4 fl a (λi hi _ e he=>(hap' i hi e he).2)]
  exact this
theorem jst {l rest:List Oper} (k:Nat) {ok:Oper} {Γ:World->Prop} {f:Nat} {Lc:Array Bool} {a:Act} (H:Floats P md l.toArray Q F Made fl) (hF:∀W,Γ W->F W) (v:Value)
  (hv:∀W,(Region.needs md l.toArray l.toArray.size s k=true->F W)->(execOp a.eval ok).run P W=.ok (.value v) W)
  (h:jg P md l.toArray Q s F Made fl Γ f (Lc.setIfInBounds k true) (a.put ok.dst v)) (hk:l.drop k=ok::rest:=by rfl)
  (hB:(Lc.size==l.toArray.size&&!fl.contains k&&(Region.ready md l.toArray Lc).contains k&&Region.free md l.toArray Lc k&&(s !=k)&&(fl.all λi=>!Lc.getD i false)&&fl.all λi=>match l.toArray[i]?,l.toArray[k]? with|some oi,some ok=>oi.apart l.toArray ok|_,_=>true)=true:=by decide +kernel)
  (hw:Region.wanted ok (yielded l.toArray a.tmps)=true:=by rfl):jg P md l.toArray Q s F Made fl Γ (f+1) Lc a:=
 jg.take k rfl hk H hB hF hw hv h
theorem jsq {l rest:List Oper} (k:Nat) {ok:Oper} {Γ:World->Prop} {f:Nat} {Lc:Array Bool} {a:Act} (H:Floats P md l.toArray Q F Made fl) (hF:∀W,Γ W->F W) (v:Value)
  (hv:∀W,(execOp a.eval ok).run P W=.ok (.value v) W)
  (h:jg P md l.toArray Q s F Made fl Γ f (Lc.setIfInBounds k true) (a.put ok.dst v)) (hk:l.drop k=ok::rest:=by rfl)
  (hB:(Lc.size==l.toArray.size&&!fl.contains k&&(Region.ready md l.toArray Lc).contains k&&Region.free md l.toArray Lc k&&(s !=k)&&(fl.all λi=>!Lc.getD i false)&&fl.all λi=>match l.toArray[i]?,l.toArray[k]? with|some oi,some ok=>oi.apart l.toArray ok|_,_=>true)=true:=by decide +kernel)
  (hw:Region.wanted ok (yielded l.toArray a.tmps)=true:=by rfl):jg P md l.toArray Q s F Made fl Γ (f+1) Lc a:=
 jg.take k rfl hk H hB hF hw (λW _=>hv W) h
theorem jg.last {j:Nat} {d:Option Tmp} {Γ:World->Prop} {f:Nat} {Lc:Array Bool} {a:Act} (hB:(Lc.size==ops.size&&decide (j<ops.size)&&!Lc.getD j false)=true) (hdd:Ju ops j=d) (hF:∀W,Γ W->F W)
  (h1:∀v W,Γ W->Made j v W->jf (λ_=>True) s F s (λ_=>True) (Lc.setIfInBounds j true) W->JI P md ops Q (λ_=>True) s F s (λ_=>True) f (Lc.setIfInBounds j true) (a.put d v) W)
  (h2:∀W,Γ W->jf (λ_=>True) s F s (λ_=>True) Lc W->JI P md ops Q (λ_=>True) s F s (λ_=>True) (f+1) Lc a W):jg P md ops Q s F Made [j] Γ f Lc a:=by
 subst hdd
 simp only[Bool.and_eq_true,beq_iff_eq,decide_eq_true_eq,Bool.not_eq_true'] at hB
 obtain⟨⟨hsc,hjs⟩,hjc⟩:=hB
 intro L X W hs hL hG hX up
 cases hj:L.getD j false with
 | false=>
  obtain rfl:L=Lc:=by
   apply Array.ext (by rw[hs,hsc])
   intro i g1 g2
   by_cases hij:i=j
   ·subst hij
    have:=hj.trans hjc.symm
    simpa [Array.getD,g1,g2] using this
   ·have:=hL i (by simpa using hij)
    simpa [Array.getD,g1,g2] using this
  have e1:JM L [j]=1:=by unfold JM;rw[List.filter_cons_of_pos (by rw[hj];rfl)];rfl
  rw[e1]
  unfold qD
  rw[hj,if_neg (by simp)]
  exact h2 W hG ⟨trivial,λ_=>hF W hG,λ_=>trivial⟩ up
 | true=>
  obtain rfl:L=Lc.setIfInBounds j true:=by
   apply Array.ext (by simp[hs,hsc])
   intro i g1 g2
   by_cases hij:i=j
   ·subst hij
    simpa [Array.getD,g1] using hj
   ·have:=hL i (by simpa using hij)
    rw[Array.getElem_setIfInBounds_ne (by simpa using g2) (Ne.symm hij)]
    have g3:i<Lc.size:=by simpa using g2
    simpa [Array.getD,g1,g3] using this
  have e1:JM (Lc.setIfInBounds j true) [j]=0:=by unfold JM;rw[List.filter_cons_of_neg (by rw[hj];simp)];rfl
  rw[e1]
  unfold qD
  rw[hj,if_pos rfl]
  exact h1 _ W hG (hX.1 j (by simp) hj) ⟨trivial,λ_=>hF W hG,λ_=>trivial⟩ up
theorem jg.fin {Γ:World->Prop} {f:Nat} {Lc:Array Bool} {a:Act} (hsc:Lc.size=ops.size) (hF:∀W,Γ W->F W)
  (h:∀W,Γ W->jf (λ_=>True) s F s (λ_=>True) Lc W->JI P md ops Q (λ_=>True) s F s (λ_=>True) f Lc a W):jg P md ops Q s F Made [] Γ f Lc a:=by
 intro L X W hs hL hG hX up
 obtain rfl:L=Lc:=by
  apply Array.ext (by rw[hs,hsc])
  intro j h1 h2
  have:=hL j (by simp)
  simpa [Array.getD,h1,h2] using this
 exact h W hG ⟨trivial,λ_=>hF W hG,λ_=>trivial⟩ up
theorem jak3(n:Nat):∀(fl:List Nat),JM (Array.replicate n false) fl=fl.length:=λfl=>by
 unfold JM
 rw[List.filter_eq_self.2 (λi _=>by rw[getD_replicate_false];rfl)]
theorem zn0 {L:Array Bool} {X:Nat->Value}:∀(fl:List Nat) (a:Act),(∀i∈fl,L.getD i false=false)->qD ops L X fl a=a
 | [],_,_=>rfl
 | i::fl,a,h=>by
  unfold qD
  rw[h i (by simp),if_neg (by simp)]
  exact zn0 fl a (λj hj=>h j (by simp[hj]))
theorem zV {id:Nat} {a:Act} {w:World} {Q':Exit->Act->World->Prop} (s:Nat) (F:World->Prop) (Made:Nat->Value->World->Prop) (fl:List Nat) (Γ:World->Prop) (hm:P.follows .mixedOrders=true) (H:Floats P .any ops Q' F Made fl)
  (hQ:∀e a w,Q' e a w->Q e a w) (hlen:(decide (fl.length<=ops.size))=true) (hG:Γ w.drew) (hF:∀W,Γ W->F W)
  (h:Floats P .any ops Q' F Made fl->jg P .any ops Q' s F Made fl Γ (ops.size-fl.length) (Array.replicate ops.size false) a):(Code.region id ops true).wp P Q a w:=by
 refine wp_mono (wp_region_any hm (jp4 (S:=jf (λ_=>True) s F s (λ_=>True)) _ _ _ _ ?_)) hQ
 have:=h H (Array.replicate ops.size false) (λ_=>undef) w.drew (by simp) (λ_ _=>rfl) hG ⟨λi _ hi=>(by rw[getD_replicate_false] at hi;cases hi),λi _ j _ _ hi=>(by rw[getD_replicate_false] at hi;cases hi)⟩ UpTo.start
 rw[jak3,zn0 fl a (λi _=>getD_replicate_false _ _),Nat.sub_add_cancel (by simpa using hlen)] at this
 exact this
theorem jdf6 {c c':Code} {Q':Exit->Act->World->Prop} {a:Act} {w:World} {K1:Act->World->Prop} (ds:List Tmp) (R:World->Prop) (hK:∀a w,c'.wp P Q' a w->K1 a w)
  (h1:∀(v:Tmp->Value) (W:World),R W->c'.wp P Q' (ds.foldl (λb d=>b.put (some d) (v d)) a) W)
  (h2:Hid (∀(a':Act) (W:World),R W->a'=ds.foldl (λb d=>b.put (some d) (a'.tmps.getD d undef)) a->K1 a' W)->c.wp P Q a w):c.wp P Q a w:=
 h2 (ja λa' W hR ha=>by rw[ha];exact hK _ _ (h1 _ W hR))
end
abbrev Sl:=Option Addr×Nat×Nat
abbrev zf3(B:Nat)(x:Sl)(ts:List (Int×Int))(W:World):Prop:=W.ownsRow B 59 2 (.slice x.1 x.2.1 x.2.2) x.2.1 (jr ts)
theorem ZF{W:World}{B:Nat}{A:Option Addr}{n c:Nat}{ts:List (Int×Int)}(h:W.ownsRow B 59 2 (.slice A n c) n (jr ts)):ji W W.heap.size A n c ts:=Rd.of_own h
instance {B n c:Nat}{A:Option Addr}{ts:List (Int×Int)}:Kept λW=>ji W B A n c ts/\B<=W.heap.size:=⟨λ_ _ h hb=>⟨Rd.below h.1 (hb.mono h.2),Nat.le_trans h.2 hb.size⟩⟩
