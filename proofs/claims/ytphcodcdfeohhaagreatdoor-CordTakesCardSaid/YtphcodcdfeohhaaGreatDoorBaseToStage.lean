import Derived.Test.YtphcodcdfeohhaaGreatDoorProg
import Derived.WalkKit
import Derived.WalkLawsBesides
import Derived.WalkSpells
import Derived.BigQuiet
import Derived.StillTailTactics
import Derived.Deep.QuietTactic
import Derived.Deep.RegionHeld3
import Derived.Deep.RegionWith
import Derived.Deep.RegionLaw
import Derived.Deep.Draws
import Derived.Deep.DeepFit
import Derived.Deep.DeepMust
import Derived.Deep.LoopGhost
import Derived.Deep.DeepCutAuto
import Derived.Lib.Hide
import Derived.StillTail
import Derived.Deep.RegionHeld
set_option linter.unusedVariables false
set_option linter.unusedSimpArgs false
namespace Go.Proofs.YtphcodcdfeohhaaGreatDoor
open Go.RowKit
theorem ja0{p:Prop}(h:p):Hid p:=h
theorem lA{α:Type}(l:List α)(i:Nat)(a:α):l.toArray.setIfInBounds i a=(l.set i a).toArray:=List.setIfInBounds_toArray l i a
theorem lB{α:Type}(a b:α)(l:List α):(a::l).set 0 b=b::l:=List.set_cons_zero
theorem lC{α:Type}(a b:α)(l:List α)(n:Nat):(a::l).set (n+1) b=a::l.set n b:=List.set_cons_succ
theorem jn2(a:Addr)(n:Nat):(a.add n).block=a.block:=by
 unfold Addr.add;split<;>rfl
theorem jbp3(a:Addr)(i j:Nat):(a.add i).add j=a.add (i+j):=by
 unfold Addr.add
 by_cases hi:i=0<;>by_cases hj:j=0<;>simp[hi,hj,Nat.add_assoc]
def Rd(w:World)(B k:Nat)(A:Option Addr)(n c:Nat)(cs:List Value):Prop:=
 cs.length=n*k/\n<=c/\c<=maxLen /\
  ((A=none/\c=0)\/∃ad:Addr,A=some ad/\ad.block<B/\∀j u,cs[j]?=some u->w.cell? (ad.add j)=some u)
section
variable {w w' : World} {B B' k n c : Nat} {A : Option Addr} {cs : List Value}
theorem Rd.len(h:Rd w B k A n c cs):cs.length=n*k:=h.1
theorem Rd.cap(h:Rd w B k A n c cs):n<=c:=h.2.1
theorem Rd.max(h:Rd w B k A n c cs):c<=maxLen:=h.2.2.1
theorem Rd.nmax(h:Rd w B k A n c cs):n<=9223372036854775807:=by
 have h1:=h.2.1;have h2:=h.2.2.1;unfold maxLen at h2;omega
theorem Rd.nil_(w:World)(B k:Nat):Rd w B k none 0 0 []:=⟨by simp,Nat.le_refl _,Nat.zero_le _,.inl ⟨rfl,rfl⟩⟩
theorem Rd.addr(h:Rd w B k A n c cs)(hn:0<n):∃ad:Addr,A=some ad/\ad.block<B/\∀j u,cs[j]?=some u->w.cell? (ad.add j)=some u:=by
 have h1:=h.2.1
 rcases h.2.2.2 with⟨_,h0⟩|h
 ·omega
 ·exact h
theorem Rd.keep(h:Rd w B k A n c cs)(hk:∀p:Addr,p.block<B->w'.cell? p=w.cell? p):Rd w' B k A n c cs:=by
 obtain⟨h1,h2,h3,h4⟩:=h
 refine⟨h1,h2,h3,?_⟩
 rcases h4 with h4|⟨ad,e,hb,hc⟩
 ·exact .inl h4
 ·exact .inr ⟨ad,e,hb,fun j u hu=>(hk _ (by rw[jn2];exact hb)).trans (hc j u hu)⟩
theorem Rd.more(h:Rd w B k A n c cs)(hB:B<=B'):Rd w B' k A n c cs:=by
 obtain⟨h1,h2,h3,h4⟩:=h
 refine⟨h1,h2,h3,?_⟩
 rcases h4 with h4|⟨ad,e,hb,hc⟩
 ·exact .inl h4
 ·exact .inr ⟨ad,e,by omega,hc⟩
theorem Rd.below(h:Rd w B k A n c cs)(hb:Below B w w'):Rd w' B k A n c cs:=h.keep fun _ hp=>hb.cell hp
theorem Rd.drew(h:Rd w B k A n c cs):Rd w.drew B k A n c cs:=h
theorem Rd.drewN(h:Rd w B k A n c cs)(q:Nat):Rd (w.drewN q) B k A n c cs:=h
theorem Rd.alloc(h:Rd w B k A n c cs)(hB:B<=w.heap.size)(o:Obj):Rd (w.alloc o) B k A n c cs:=
 h.keep fun p hp=>World.cell?_alloc_lt w o p (by omega)
theorem Rd.setCell(h:Rd w B k A n c cs){p:Addr}(hB:B<=p.block)(u:Value):Rd (w.setCell p u) B k A n c cs:=
 h.keep fun q hq=>World.cell?_setCell_other w p q u (fun e=>by subst e;omega)
theorem Rd.grown(h:Rd w B k A n c cs){row:Option Nat}(hg:w.grownBy w' row)(hB:B<=w.heap.size)(hr:∀g,row=some g->B<=g):Rd w' B k A n c cs:=
 h.keep fun p hp=>World.cell?_of_block (hg.block p.block (by omega) (fun e=>by have:=hr _ e.symm;omega))
theorem Rd.of_own{base:Nat}{e:TypeId}(h:w.ownsRow base e k (.slice A n c) n cs):Rd w w.heap.size k A n c cs:=by
 have hl:=h.lt
 rcases h.2 with⟨h0,rfl⟩|⟨g,cap,cur,hv,hb,hg,hnc,hcm,hcs,ht⟩
 ·injection h0 with h1 h2 h3
  subst h1;subst h3
  refine⟨h.1,Nat.le_refl _,Nat.zero_le _,.inl ⟨rfl,rfl⟩⟩
 ·injection hv with h1 h2 h3
  subst h1;subst h3
  refine⟨h.1,hnc,hcm,.inr ⟨_,rfl,(hl g rfl).2,fun j u hu=>?_⟩⟩
  exact h.cells (g:=g) rfl j u hu
theorem Rd.at1(h:Rd w B 1 A n c cs){i:Nat}(hi:i<n):∃ad:Addr,A=some ad/\∃u,cs[i]?=some u/\w.cell? (ad.add i)=some u:=by
 obtain⟨ad,e,_,hc⟩:=h.addr (by omega)
 have hl:=h.1
 have:i<cs.length:=by omega
 exact⟨ad,e,cs[i],List.getElem?_eq_getElem this,hc i _ (List.getElem?_eq_getElem this)⟩
end
def zb0(w:World)(B:Nat)(A:Option Addr)(n c:Nat)(l:List Int):Prop:=Rd w B 1 A n c (l.map (Value.int .i64))
theorem zb0.len{w:World}{B:Nat}{A:Option Addr}{n c:Nat}{l:List Int}(h:zb0 w B A n c l):l.length=n:=by
 have:=h.1;simpa using this
theorem zb0.at_ {w:World} {B:Nat} {A:Option Addr} {n c:Nat} {l:List Int} (h:zb0 w B A n c l) {i:Nat} (hi:i<l.length) :
  ∃ad:Addr,A=some ad/\w.cell? (ad.add i)=some (.int .i64 l[i]):=by
 obtain⟨ad,e,u,hu,hc⟩:=Rd.at1 h (i:=i) (by have:=h.len;omega)
 refine⟨ad,e,?_⟩
 rw[List.getElem?_map,List.getElem?_eq_getElem hi] at hu
 simp only[Option.map_some,Option.some.injEq] at hu
 rw[hc,<-hu]
theorem jdr1 {B:Nat} {W w1:World} (hb:Below B W w1) (hB:B=W.heap.size) :
  (∀b o,b<W.heap.size->w1.cell? ⟨b,o,none⟩=W.cell? ⟨b,o,none⟩)/\(∀b o,b<W.heap.size->w1.frozen? ⟨b,o,none⟩=W.frozen? ⟨b,o,none⟩)/\W.heap.size<=w1.heap.size:=by
 subst hB
 exact⟨fun b o h=>hb.cell (p:=⟨b,o,none⟩) h,fun b o h=>hb.frozen (p:=⟨b,o,none⟩) h,hb.size⟩
theorem jc8{B:Nat}{a w:World}(h:Below B a w)(n:Nat):Below B a (w.drewN n):=⟨h.os,h.tape,h.output,h.size,h.block⟩
theorem js6{B:Nat}{a w w1:World}(h:Below B a w)(h1:Below w.heap.size w w1)(hB:B<=w.heap.size):Below B a w1:=h.trans (h1.mono hB)
def Box(w:World)(b:Nat)(t:TypeId)(v:Value):Prop:=w.heap[b]?=some (.cells #[v] t (0,0))
section
variable {w w' : World} {b : Nat} {t : TypeId} {v : Value}
theorem Box.cell(h:Box w b t v):w.cell? ⟨b,0,none⟩=some v:=cell_of_one h
theorem Box.free(h:Box w b t v):w.frozen? ⟨b,0,none⟩=false:=free_of_one h
theorem Box.lt(h:Box w b t v):b<w.heap.size:=lt_of_block h
theorem Box.of_block(h:Box w b t v)(hb:w'.heap[b]?=w.heap[b]?):Box w' b t v:=hb.trans h
theorem Box.new(w:World)(t:TypeId)(v:Value):Box (w.alloc (.cells #[v] t)) w.heap.size t v:=heap_alloc_new w _
theorem Box.alloc(h:Box w b t v)(o:Obj):Box (w.alloc o) b t v:=h.of_block (Below.heap_alloc w o b h.lt)
theorem Box.drewN(h:Box w b t v)(n:Nat):Box (w.drewN n) b t v:=h
theorem Box.below{B:Nat}(h:Box w b t v)(hb:Below B w w')(hB:b<B):Box w' b t v:=h.of_block (hb.block b hB)
theorem Box.grown{row:Option Nat}(h:Box w b t v)(hg:w.grownBy w' row)(hr:row≠some b):Box w' b t v:=h.of_block (hg.block b h.lt (Ne.symm hr))
theorem Box.set_(h:Box w b t v)(u:Value):Box (w.setCell ⟨b,0,none⟩ u) b t u:=one_setCell h
theorem Box.far(h:Box w b t v){p:Addr}(hp:b≠p.block)(u:Value):Box (w.setCell p u) b t v:=h.of_block (Below.heap_setCell w p u b hp)
end
def Blk(w:World)(b:Nat)(t:TypeId)(cs:Array Value):Prop:=w.heap[b]?=some (.cells cs t (0,0))
section
variable {w w' : World} {b : Nat} {t : TypeId} {cs : Array Value}
theorem Blk.cell(h:Blk w b t cs)(i:Nat):w.cell? ⟨b,i,none⟩=cs[i]?:=cell_of_row w b i cs t (0,0) h
theorem Blk.free(h:Blk w b t cs)(i:Nat):w.frozen? ⟨b,i,none⟩=false:=by unfold Blk at h;simp[World.frozen?,h]
theorem Blk.lt(h:Blk w b t cs):b<w.heap.size:=lt_of_block h
theorem Blk.of_block(h:Blk w b t cs)(hb:w'.heap[b]?=w.heap[b]?):Blk w' b t cs:=hb.trans h
theorem Blk.new(w:World)(t:TypeId)(cs:Array Value):Blk (w.alloc (.cells cs t)) w.heap.size t cs:=heap_alloc_new w _
theorem Blk.alloc(h:Blk w b t cs)(o:Obj):Blk (w.alloc o) b t cs:=h.of_block (Below.heap_alloc w o b h.lt)
theorem Blk.drewN(h:Blk w b t cs)(n:Nat):Blk (w.drewN n) b t cs:=h
theorem Blk.drew(h:Blk w b t cs):Blk w.drew b t cs:=h
theorem Blk.below{B:Nat}(h:Blk w b t cs)(hb:Below B w w')(hB:b<B):Blk w' b t cs:=h.of_block (hb.block b hB)
theorem Blk.grown{row:Option Nat}(h:Blk w b t cs)(hg:w.grownBy w' row)(hr:row≠some b):Blk w' b t cs:=h.of_block (hg.block b h.lt (Ne.symm hr))
theorem Blk.set_(h:Blk w b t cs)(i:Nat)(u:Value):Blk (w.setCell ⟨b,i,none⟩ u) b t (cs.setIfInBounds i u):=by
 unfold Blk at h ⊢
 simp[World.setCell,Array.getElem?_modify,h]
theorem Blk.far(h:Blk w b t cs){p:Addr}(hp:b≠p.block)(u:Value):Blk (w.setCell p u) b t cs:=h.of_block (Below.heap_setCell w p u b hp)
end
theorem jdc4{b:Option Nat}{w A B:World}(h:w.grownBy A b)(h1:Below w.heap.size A B):w.grownBy B b:=
 ⟨h1.os.trans h.os,h1.tape.trans h.tape,h1.output.trans h.output,Nat.le_trans h.size h1.size,fun k hk hne=>(h1.block k hk).trans (h.block k hk hne)⟩
theorem jh3{b:Option Nat}{n:Nat}{w A B:World}(h:w.grownBy A b)(h1:Below n A B)(hn:w.heap.size<=n):w.grownBy B b:=jdc4 h (h1.mono hn)
theorem jp1{b row:Option Nat}{w A B:World}(h:w.grownBy A b)(h1:A.grownBy B row)(hr:∀j,row=some j->row=b\/w.heap.size<=j):w.grownBy B b:=
 ⟨h1.os.trans h.os,h1.tape.trans h.tape,h1.output.trans h.output,Nat.le_trans h.size h1.size,fun k hk hne=>(h1.block k (Nat.lt_of_lt_of_le hk h.size) (fun e=>by
  rcases hr k e.symm with h2|h2
  ·exact hne (e.trans h2)
  ·omega)).trans (h.block k hk hne)⟩
theorem jp0{b:Option Nat}{w A:World}(h:w.grownBy A b)(o:Obj):w.grownBy (A.alloc o) b:=jp1 h (World.grownBy_alloc A o none) (by simp)
theorem jac8{b:Option Nat}{w A:World}(h:w.grownBy A b)(n:Nat):w.grownBy (A.drewN n) b:=⟨h.os,h.tape,h.output,h.size,h.block⟩
theorem jar4{b:Option Nat}{w A:World}(h:w.grownBy A b):w.grownBy A.drew b:=⟨h.os,h.tape,h.output,h.size,h.block⟩
theorem jg4{b:Option Nat}{w A:World}(h:w.grownBy A b){p:Addr}(hp:w.heap.size<=p.block)(u:Value):w.grownBy (A.setCell p u) b:=
 ⟨h.os,h.tape,h.output,by simpa using h.size,fun k hk hne=>(Below.heap_setCell A p u k (by omega)).trans (h.block k hk hne)⟩
theorem jbk5(w:World)(b:Option Nat):w.grownBy w b:=World.grownBy.refl w b
theorem zf5{w A:World}(h:w.grownBy A none):Below w.heap.size w A:=⟨h.os,h.tape,h.output,h.size,fun k hk=>h.block k hk (by simp)⟩
theorem jf0{w A:World}(h:Below w.heap.size w A)(b:Option Nat):w.grownBy A b:=⟨h.os,h.tape,h.output,h.size,fun k hk _=>h.block k hk⟩
theorem jc1{w:World}{base size n:Nat}{e:TypeId}{v:Value}{xs:List Value}(h:w.ownsRow base e size v n xs):∃A c,v=.slice A n c:=by
 rcases h.2 with⟨rfl,rfl⟩|⟨g,cap,cur,rfl,_⟩
 ·exact⟨_,_,rfl⟩
 ·exact⟨_,_,rfl⟩
theorem zg0{w:World}{base b size n:Nat}{e:TypeId}{v:Value}{xs:List Value}(h:w.ownsRow base e size v n xs)(hb:b<base):v.ownBlock≠some b:=by
 intro he
 have:=(h.lt b he).1
 omega
theorem jm4(w:World)(u:Value)(t:TypeId):∀j x,[u][j]?=some x->(w.alloc (.cells #[u] t)).cell? ((⟨w.heap.size,0,none⟩:Addr).add j)=some x:=by
 intro j x hj
 match j,hj with
 | 0,hj=>
  simp only[List.getElem?_cons_zero,Option.some.injEq] at hj
  subst hj
  exact(Box.new w t u).cell
theorem dd(w:World)(a b:Nat):∃q,(w.drewN a).drewN b=w.drewN q:=⟨a+b,World.drewN_drewN _ _ _⟩
theorem zb2{k:IntKind}{a b:Int}(h:a=b):Ending.returned (.int k a)=.returned (.int k b):=by rw[h]
open Go
section
variable {P : Program} {ops : Array Oper} {Q : Exit → Act → World → Prop} {md : Region.Mode} {S : Array Bool → World → Prop}
def jz0 (P:Program) (md:Region.Mode) (ops:Array Oper) (Q:Exit->Act->World->Prop) (S:Array Bool->World->Prop):Nat->Array Bool->Act->World->Prop
 | 0,L,a,w=>Region.ready md ops L=[]/\Q .normal a w
 | fuel+1,L,a,w=>
  (Region.ready md ops L=[]->Q .normal a w) /\
  ∀i∈Region.ready md ops L,wpOp P ops Q i (fun a' w'=>S (L.setIfInBounds i true) w'/\jz0 P md ops Q S fuel (L.setIfInBounds i true) a' w') a w
theorem jab5:∀(fuel:Nat) (L:Array Bool) (a:Act) (w:World),jz0 P md ops Q S fuel L a w->wpAny P md ops Q fuel L a w
 | 0,_,_,_,h=>h
 | fuel+1,_,_,_,h=>⟨h.1,fun i hi=>wpOp_mono (fun a' w' h'=>jab5 fuel _ a' w' h'.2) (h.2 i hi)⟩
structure UpTo(md:Region.Mode)(ops:Array Oper)(L:Array Bool):Prop where
 size:L.size=ops.size
 closed:∀j oj,ops[j]?=some oj->L.getD j false=true->∀e∈oj.after,Region.binds md e=true->L.getD e.on false=true
theorem UpTo.start:UpTo md ops (Array.replicate ops.size false):=
 ⟨by simp,fun j oj _ hl=>(by rw[getD_replicate_false] at hl;cases hl)⟩
theorem UpTo.set{i:Nat}{L:Array Bool}(inv:UpTo md ops L)(hi:i∈Region.ready md ops L):UpTo md ops (L.setIfInBounds i true):=by
 obtain⟨_,oi,hoi,hall⟩:=mem_ready.1 hi
 refine⟨by simp[inv.size],fun j oj hj hl e he hb=>?_⟩
 by_cases hij:i=j
 ·subst hij
  have:oj=oi:=Option.some.inj (hj.symm.trans hoi)
  subst this
  exact getD_set_true (hall e he hb)
 ·rw[getD_set_ne false hij] at hl
  exact getD_set_true (inv.closed j oj hj hl e he hb)
def Region.needs (md:Region.Mode) (ops:Array Oper):Nat->Nat->Nat->Bool
 | 0,s,i=>s==i
 | n+1,s,i=>s==i || match ops[s]? with
   | some o=>o.after.any fun e=>Region.binds md e&&Region.needs md ops n e.on i
   | none=>false
theorem UpTo.needs {L:Array Bool} (inv:UpTo md ops L) {i:Nat} (hi:L.getD i false=false):∀(n s:Nat),Region.needs md ops n s i=true->L.getD s false=false
 | 0,s,h=>by
  obtain rfl:s=i:=by simpa [Region.needs] using h
  exact hi
 | n+1,s,h=>by
  unfold Region.needs at h
  rw[Bool.or_eq_true] at h
  rcases h with h|h
  ·obtain rfl:s=i:=by simpa using h
   exact hi
  ·cases ho:ops[s]? with
   | none=>rw[ho] at h;cases h
   | some o=>
    rw[ho] at h
    obtain⟨e,he,hb⟩:=Array.any_eq_true'.1 h
    rw[Bool.and_eq_true] at hb
    cases hl:L.getD s false with
    | false=>rfl
    | true=>
     have h1:=inv.closed s o ho hl e he hb.1
     rw[inv.needs hi n e.on hb.2] at h1
     cases h1
theorem jag2 {i:Nat} {oi:Oper} {v:Value} (hi:ops[i]?=some oi) (hsel:∀(j:Nat) (o:Oper) cs b,ops[j]?=some o->o.op≠.select cs b)
  (hQ:∀c a w,Q (.panic c) (a.put oi.dst v) w->Q (.panic c) a w) (hSi:∀L w,S (L.setIfInBounds i true) w↔S L w) :
  ∀(fuel:Nat) (L:Array Bool) (a:Act) (w:World),UpTo md ops L ->
   (∀j oj,ops[j]?=some oj->j≠i->L.getD j true=false->(∀e∈oj.after,Region.binds md e=true->e.on≠i)->oi.apart ops oj=true) ->
   i∈Region.ready md ops L->YieldsIf P ops (fun w=>∃L,UpTo md ops L/\L.getD i false=false/\S L w) oi v a->S L w ->
   jz0 P md ops Q S fuel (L.setIfInBounds i true) (a.put oi.dst v) w->jz0 P md ops Q S (fuel+1) L a w:=by
 intro fuel
 induction fuel with
 | zero=>
  intro L a w up _ hr hy hS H
  have hun:L.getD i false=false:=getD_both (mem_ready.1 hr).1
  refine⟨fun h=>(by rw[h] at hr;cases hr),fun j hj=>?_⟩
  by_cases hji:j=i
  ·subst hji;exact hy.wpOp hi ⟨L,up,hun,hS⟩ ⟨(hSi L w).2 hS,H⟩
  ·have:=ready_mono hj hji
   rw[H.1] at this
   cases this
 | succ fuel ih=>
  intro L a w up hfree hr hy hS H
  have hun:L.getD i false=false:=getD_both (mem_ready.1 hr).1
  refine⟨fun h=>(by rw[h] at hr;cases hr),fun j hj=>?_⟩
  by_cases hji:j=i
  ·subst hji;exact hy.wpOp hi ⟨L,up,hun,hS⟩ ⟨(hSi L w).2 hS,H⟩
  ·have h1:=H.2 j (ready_mono hj hji)
   obtain⟨hjun,oj,hoj,hall⟩:=mem_ready.1 hj
   have hnot:∀e∈oj.after,Region.binds md e=true->e.on≠i:=fun e he hb heq=>by
    have h1:=hall e he hb
    rw[heq,hun] at h1
    cases h1
   have h2:=wpOp_putIf hoj (hfree j oj hoj hji hjun hnot) (fun cs b=>hsel i oi cs b hi) (fun cs b=>hsel j oj cs b hoj) hQ hy h1
   have hfree':∀k ok,ops[k]?=some ok->k≠i->(L.setIfInBounds j true).getD k true=false ->
     (∀e∈ok.after,Region.binds md e=true->e.on≠i)->oi.apart ops ok=true:=fun k ok hk hki hun hno=>by
    refine hfree k ok hk hki ?_ hno
    by_cases hjk:j=k
    ·subst hjk;exact hjun
    ·rw[getD_set_ne true hjk] at hun;exact hun
   refine wpOp_mono (fun a' w' h3=>?_) h2
   have hS':S (L.setIfInBounds j true) w':=by
    have:=h3.2.1
    rw[Array.setIfInBounds_comm _ _ (Ne.symm hji)] at this
    exact(hSi _ w').1 this
   refine⟨hS',ih (L.setIfInBounds j true) a' w' (up.set hj) hfree' (ready_mono hr (Ne.symm hji)) h3.1 hS' ?_⟩
   rw[Array.setIfInBounds_comm _ _ hji]
   exact h3.2.2
theorem jca8 {L:Array Bool} {a:Act} {w:World} (hr:Region.ready md ops L=[]) (h:Q .normal a w) :
  ∀fuel,jz0 P md ops Q S fuel L a w
 | 0=>⟨hr,h⟩
 | _+1=>⟨fun _=>h,by rw[hr];simp⟩
theorem jch8 {rs:List Nat} {fuel:Nat} {L:Array Bool} {a:Act} {w:World} (hr:Region.ready md ops L=rs) (hne:rs≠[])
  (h:∀i∈rs,wpOp P ops Q i (fun a' w'=>S (L.setIfInBounds i true) w'/\jz0 P md ops Q S fuel (L.setIfInBounds i true) a' w') a w):jz0 P md ops Q S (fuel+1) L a w:=
 ⟨fun h0=>absurd (hr▸h0) hne,hr▸h⟩
end
section
variable {P : Program} {ops : Array Oper} {Q : Exit → Act → World → Prop} {md : Region.Mode} {C F1 F2 : World → Prop} {s1 s2 : Nat}
def ja8(C:World->Prop)(s1:Nat)(F1:World->Prop)(s2:Nat)(F2:World->Prop)(L:Array Bool)(w:World):Prop:=
 C w/\(L.getD s1 false=false->F1 w)/\(L.getD s2 false=false->F2 w)
def zf2(P:Program)(md:Region.Mode)(ops:Array Oper)(Q:Exit->Act->World->Prop)(C:World->Prop)(s1:Nat)(F1:World->Prop)(s2:Nat)(F2:World->Prop)(fuel:Nat)(L:Array Bool)(a:Act)(w:World):Prop:=
 UpTo md ops L->jz0 P md ops Q (ja8 C s1 F1 s2 F2) fuel L a w
theorem zb7{l rest:List Oper}{i:Nat}{o:Oper}(h:l.drop i=o::rest):l.toArray[i]?=some o:=by
 have:=congrArg (fun l=>l[0]?) h
 simpa using this
theorem ja2 {l rest:List Oper} (i:Nat) {oi:Oper} {v:Value} {fuel:Nat} {L:Array Bool} {a:Act} {w:World} (hi:l.drop i=oi::rest)
  (hB:(Region.noSelect l.toArray&&Region.free md l.toArray L i&&(Region.ready md l.toArray L).contains i&&(s1 !=i)&&(s2 !=i))=true)
  (hQ:∀c a w,Q (.panic c) (a.put oi.dst v) w->Q (.panic c) a w)
  (hw:Region.wanted oi (yielded l.toArray a.tmps)=true)
  (hv:∀w,(C w/\(Region.needs md l.toArray l.toArray.size s1 i=true->F1 w)/\(Region.needs md l.toArray l.toArray.size s2 i=true->F2 w))->(execOp a.eval oi).run P w=.ok (.value v) w)
  (hS:ja8 C s1 F1 s2 F2 L w) (h:ja8 C s1 F1 s2 F2 (L.setIfInBounds i true) w->zf2 P md l.toArray Q C s1 F1 s2 F2 fuel (L.setIfInBounds i true) (a.put oi.dst v) w):zf2 P md l.toArray Q C s1 F1 s2 F2 (fuel+1) L a w:=fun up=>by
 simp only[Bool.and_eq_true,bne_iff_ne,ne_eq] at hB
 obtain⟨⟨⟨⟨hs,hf⟩,hr⟩,h1⟩,h2⟩:=hB
 have hr':i∈Region.ready md l.toArray L:=by simpa using hr
 have hSi:∀L w,ja8 C s1 F1 s2 F2 (L.setIfInBounds i true) w↔ja8 C s1 F1 s2 F2 L w:=fun L w=>by
  unfold ja8
  rw[getD_set_ne false (Ne.symm h1),getD_set_ne false (Ne.symm h2)]
 exact jag2 (zb7 hi) (Region.noSelect_spec hs) hQ hSi fuel L a w up (Region.free_spec (zb7 hi) hf) hr'
  (.inl ⟨hw,fun w ⟨L,up,hun,hS⟩=>hv w ⟨hS.1,fun hn=>hS.2.1 (up.needs hun _ _ hn),fun hn=>hS.2.2 (up.needs hun _ _ hn)⟩⟩) hS (h ((hSi L w).2 hS) (up.set hr'))
def jab6(P:Program)(md:Region.Mode)(ops:Array Oper)(Q:Exit->Act->World->Prop)(C:World->Prop)(s1:Nat)(F1:World->Prop)(s2:Nat)(F2:World->Prop)(fuel:Nat)(L:Array Bool)(a:Act)(w:World)(rs:List Nat):Prop:=
 ∀i∈rs,wpOp P ops Q i (fun a' w'=>ja8 C s1 F1 s2 F2 (L.setIfInBounds i true) w'/\zf2 P md ops Q C s1 F1 s2 F2 fuel (L.setIfInBounds i true) a' w') a w
theorem jab6.nil{fuel:Nat}{L:Array Bool}{a:Act}{w:World}:jab6 P md ops Q C s1 F1 s2 F2 fuel L a w []:=fun _ h=>by cases h
theorem jab6.cons {fuel:Nat} {L:Array Bool} {a:Act} {w:World} {i:Nat} {o:Oper} {rs:List Nat} (ho:ops[i]?=some o)
  (h:∀K':Act->World->Prop,Shut (∀a w,ja8 C s1 F1 s2 F2 (L.setIfInBounds i true) w->(ja8 C s1 F1 s2 F2 (L.setIfInBounds i true) w->zf2 P md ops Q C s1 F1 s2 F2 fuel (L.setIfInBounds i true) a w)->K' a w) ->
   if Region.wanted o (yielded ops a.tmps)=true then Oper.wp P o a w K' Q else K' (a.put o.dst undef) w)
  (hs:jab6 P md ops Q C s1 F1 s2 F2 fuel L a w rs):jab6 P md ops Q C s1 F1 s2 F2 fuel L a w (i::rs):=fun j hj=>by
 rcases List.mem_cons.1 hj with rfl|hj
 ·exact wpOp_step ho (fun K' hK=>h K' (fun a w hS hW=>hK a w ⟨hS,hW hS⟩))
 ·exact hs j hj
theorem jb5 {l rest:List Oper} (i:Nat) {o:Oper} {fuel:Nat} {L:Array Bool} {a:Act} {w:World} (ho:l.drop i=o::rest) (hr:Region.ready md l.toArray L=[i])
  (h:∀K':Act->World->Prop,Shut (∀a w,ja8 C s1 F1 s2 F2 (L.setIfInBounds i true) w->(ja8 C s1 F1 s2 F2 (L.setIfInBounds i true) w->zf2 P md l.toArray Q C s1 F1 s2 F2 fuel (L.setIfInBounds i true) a w)->K' a w) ->
   if Region.wanted o (yielded l.toArray a.tmps)=true then Oper.wp P o a w K' Q else K' (a.put o.dst undef) w):zf2 P md l.toArray Q C s1 F1 s2 F2 (fuel+1) L a w:=fun up=>
 jch8 hr (by simp) fun j hj=>by
  obtain rfl:j=i:=by simpa using hj
  exact wpOp_step (zb7 ho) (fun K' hK=>h K' (fun a w hS hW=>hK a w ⟨hS,hW hS (up.set (by rw[hr];exact hj))⟩))
theorem jff3 {l rest rest':List Oper} (i i':Nat) {o o':Oper} {fuel:Nat} {L:Array Bool} {a:Act} {w:World} (ho:l.drop i=o::rest) (ho':l.drop i'=o'::rest') (hr:Region.ready md l.toArray L=[i,i'])
  (h:∀K':Act->World->Prop,Shut (∀a w,ja8 C s1 F1 s2 F2 (L.setIfInBounds i true) w->(ja8 C s1 F1 s2 F2 (L.setIfInBounds i true) w->zf2 P md l.toArray Q C s1 F1 s2 F2 fuel (L.setIfInBounds i true) a w)->K' a w) ->
   if Region.wanted o (yielded l.toArray a.tmps)=true then Oper.wp P o a w K' Q else K' (a.put o.dst undef) w)
  (h':∀K':Act->World->Prop,Shut (∀a w,ja8 C s1 F1 s2 F2 (L.setIfInBounds i' true) w->(ja8 C s1 F1 s2 F2 (L.setIfInBounds i' true) w->zf2 P md l.toArray Q C s1 F1 s2 F2 fuel (L.setIfInBounds i' true) a w)->K' a w) ->
   if Region.wanted o' (yielded l.toArray a.tmps)=true then Oper.wp P o' a w K' Q else K' (a.put o'.dst undef) w):zf2 P md l.toArray Q C s1 F1 s2 F2 (fuel+1) L a w:=fun up=>
 jch8 hr (by simp) fun j hj=>by
  have hj':j=i\/j=i':=by simpa using hj
  rcases hj' with rfl|rfl
  ·exact wpOp_step (zb7 ho) (fun K' hK=>h K' (fun a w hS hW=>hK a w ⟨hS,hW hS (up.set (by rw[hr];exact hj))⟩))
  ·exact wpOp_step (zb7 ho') (fun K' hK=>h' K' (fun a w hS hW=>hK a w ⟨hS,hW hS (up.set (by rw[hr];exact hj))⟩))
theorem jf8{L:Array Bool}{a:Act}{w:World}{fuel:Nat}(hr:Region.ready md ops L=[])(h:Q .normal a w):zf2 P md ops Q C s1 F1 s2 F2 fuel L a w:=
 fun _=>jca8 hr h fuel
theorem jj7 {id:Nat} {a:Act} {w:World} (C:World->Prop) (s1:Nat) (F1:World->Prop) (s2:Nat) (F2:World->Prop) (hm:P.follows .mixedOrders=true)
  (hS:ja8 C s1 F1 s2 F2 (Array.replicate ops.size false) w.drew)
  (h:ja8 C s1 F1 s2 F2 (Array.replicate ops.size false) w.drew->zf2 P .any ops Q C s1 F1 s2 F2 ops.size (Array.replicate ops.size false) a w.drew):(Code.region id ops true).wp P Q a w:=
 wp_region_any hm (jab5 _ _ _ _ (h hS UpTo.start))
end
end Go.Proofs.YtphcodcdfeohhaaGreatDoor
