import Derived.Test.YtphcodcdfeohhaaGreatDoorProg
import Derived.WalkKit
import Derived.WalkLawsBesides
import Derived.WalkSpells
import Derived.BigQuiet
import Derived.StillTailTactics
import Derived.Deep.QuietTactic
import Derived.Deep.RegionHeld3
import Derived.Deep.RegionWith
import Derived.Deep.RegionLaw
import Derived.Deep.Draws
import Derived.Deep.DeepFit
import Derived.Deep.DeepMust
import Derived.Deep.LoopGhost
import Derived.Deep.DeepCutAuto
import Derived.Lib.Hide
import Derived.StillTail
import Derived.Deep.RegionHeld
set_option linter.all false
namespace Go.Proofs.YtphcodcdfeohhaaGreatDoor
open Go.RowKit
def Hid (p:Prop):Prop:=p
theorem Hid.o {p:Prop} (h:Hid p):p:=h
theorem Hid.out {p:Prop} (h:Hid p):p:=h
theorem ja{p:Prop}(h:p):Hid p:=h
theorem lA{α:Type}(l:List α)(i:Nat)(a:α):l.toArray.setIfInBounds i a=(l.set i a).toArray:=List.setIfInBounds_toArray l i a
theorem lB{α:Type}(a b:α)(l:List α):(a::l).set 0 b=b::l:=List.set_cons_zero
theorem lC{α:Type}(a b:α)(l:List α)(n:Nat):(a::l).set (n+1) b=a::l.set n b:=List.set_cons_succ
theorem jH(a:Addr)(n:Nat):(a.add n).block=a.block:=by
 unfold Addr.add;split<;>rfl
theorem zh1(a:Addr)(i j:Nat):(a.add i).add j=a.add (i+j):=by
 unfold Addr.add
 by_cases hi:i=0<;>by_cases hj:j=0<;>simp[hi,hj,Nat.add_assoc]
def Rd(w:World)(B k:Nat)(A:Option Addr)(n c:Nat)(cs:List Value):Prop:=
 cs.length=n*k/\n<=c/\c<=maxLen /\
  ((A=none/\c=0)\/∃ad:Addr,A=some ad/\ad.block<B/\∀j u,cs[j]?=some u->w.cell? (ad.add j)=some u)
section
variable {w w' : World} {B B' k n c : Nat} {A : Option Addr} {cs : List Value}
theorem Rd.len(h:Rd w B k A n c cs):cs.length=n*k:=h.1
theorem Rd.cap(h:Rd w B k A n c cs):n<=c:=h.2.1
theorem Rd.max(h:Rd w B k A n c cs):c<=maxLen:=h.2.2.1
theorem Rd.nmax(h:Rd w B k A n c cs):n<=9223372036854775807:=by
 have h1:=h.2.1;have h2:=h.2.2.1;unfold maxLen at h2;omega
theorem Rd.nil_(w:World)(B k:Nat):Rd w B k none 0 0 []:=⟨by simp,Nat.le_refl _,Nat.zero_le _,.inl ⟨rfl,rfl⟩⟩
theorem Rd.addr(h:Rd w B k A n c cs)(hn:0<n):∃ad:Addr,A=some ad/\ad.block<B/\∀j u,cs[j]?=some u->w.cell? (ad.add j)=some u:=by
 have h1:=h.2.1
 rcases h.2.2.2 with⟨_,h0⟩|h
 ·omega
 ·exact h
theorem Rd.keep(h:Rd w B k A n c cs)(hk:∀p:Addr,p.block<B->w'.cell? p=w.cell? p):Rd w' B k A n c cs:=by
 obtain⟨h1,h2,h3,h4⟩:=h
 refine⟨h1,h2,h3,?_⟩
 rcases h4 with h4|⟨ad,e,hb,hc⟩
 ·exact .inl h4
 ·exact .inr ⟨ad,e,hb,λj u hu=>(hk _ (by rw[jH];exact hb)).trans (hc j u hu)⟩
theorem Rd.more(h:Rd w B k A n c cs)(hB:B<=B'):Rd w B' k A n c cs:=by
 obtain⟨h1,h2,h3,h4⟩:=h
 refine⟨h1,h2,h3,?_⟩
 rcases h4 with h4|⟨ad,e,hb,hc⟩
 ·exact .inl h4
 ·exact .inr ⟨ad,e,by omega,hc⟩
theorem Rd.below(h:Rd w B k A n c cs)(hb:Below B w w'):Rd w' B k A n c cs:=h.keep λ_ hp=>hb.cell hp
theorem Rd.drew(h:Rd w B k A n c cs):Rd w.drew B k A n c cs:=h
theorem Rd.drewN(h:Rd w B k A n c cs)(q:Nat):Rd (w.drewN q) B k A n c cs:=h
theorem Rd.alloc(h:Rd w B k A n c cs)(hB:B<=w.heap.size)(o:Obj):Rd (w.alloc o) B k A n c cs:=
 h.keep λp hp=>World.cell?_alloc_lt w o p (by omega)
theorem Rd.setCell(h:Rd w B k A n c cs){p:Addr}(hB:B<=p.block)(u:Value):Rd (w.setCell p u) B k A n c cs:=
 h.keep λq hq=>World.cell?_setCell_other w p q u (λe=>by subst e;omega)
theorem Rd.grown(h:Rd w B k A n c cs){row:Option Nat}(hg:w.grownBy w' row)(hB:B<=w.heap.size)(hr:∀g,row=some g->B<=g):Rd w' B k A n c cs:=
 h.keep λp hp=>World.cell?_of_block (hg.block p.block (by omega) (λe=>by have:=hr _ e.symm;omega))
theorem Rd.of_own{base:Nat}{e:TypeId}(h:w.ownsRow base e k (.slice A n c) n cs):Rd w w.heap.size k A n c cs:=by
 have hl:=h.lt
 rcases h.2 with⟨h0,rfl⟩|⟨g,cap,cur,hv,hb,hg,hnc,hcm,hcs,ht⟩
 ·injection h0 with h1 h2 h3
  subst h1;subst h3
  refine⟨h.1,Nat.le_refl _,Nat.zero_le _,.inl ⟨rfl,rfl⟩⟩
 ·injection hv with h1 h2 h3
  subst h1;subst h3
  refine⟨h.1,hnc,hcm,.inr ⟨_,rfl,(hl g rfl).2,λj u hu=>?_⟩⟩
  exact h.cells (g:=g) rfl j u hu
theorem Rd.at1(h:Rd w B 1 A n c cs){i:Nat}(hi:i<n):∃ad:Addr,A=some ad/\∃u,cs[i]?=some u/\w.cell? (ad.add i)=some u:=by
 obtain⟨ad,e,_,hc⟩:=h.addr (by omega)
 have hl:=h.1
 have:i<cs.length:=by omega
 exact⟨ad,e,cs[i],List.getElem?_eq_getElem this,hc i _ (List.getElem?_eq_getElem this)⟩
end
def qP(w:World)(B:Nat)(A:Option Addr)(n c:Nat)(l:List Int):Prop:=Rd w B 1 A n c (l.map (Value.int .i64))
theorem qP.len{w:World}{B:Nat}{A:Option Addr}{n c:Nat}{l:List Int}(h:qP w B A n c l):l.length=n:=by
 have:=h.1;simpa using this
theorem qP.at_ {w:World} {B:Nat} {A:Option Addr} {n c:Nat} {l:List Int} (h:qP w B A n c l) {i:Nat} (hi:i<l.length) :
  ∃ad:Addr,A=some ad/\w.cell? (ad.add i)=some (.int .i64 l[i]):=by
 obtain⟨ad,e,u,hu,hc⟩:=Rd.at1 h (i:=i) (by have:=h.len;omega)
 refine⟨ad,e,?_⟩
 rw[List.getElem?_map,List.getElem?_eq_getElem hi] at hu
 simp only[Option.map_some,Option.some.injEq] at hu
 rw[hc,<-hu]
theorem jcm9 {B:Nat} {W w1:World} (hb:Below B W w1) (hB:B=W.heap.size) :
  (∀b o,b<W.heap.size->w1.cell? ⟨b,o,none⟩=W.cell? ⟨b,o,none⟩)/\(∀b o,b<W.heap.size->w1.frozen? ⟨b,o,none⟩=W.frozen? ⟨b,o,none⟩)/\W.heap.size<=w1.heap.size:=by
 subst hB
 exact⟨λb o h=>hb.cell (p:=⟨b,o,none⟩) h,λb o h=>hb.frozen (p:=⟨b,o,none⟩) h,hb.size⟩
theorem jp{B:Nat}{a w:World}(h:Below B a w)(n:Nat):Below B a (w.drewN n):=⟨h.os,h.tape,h.output,h.size,h.block⟩
theorem Zy{B:Nat}{a w w1:World}(h:Below B a w)(h1:Below w.heap.size w w1)(hB:B<=w.heap.size):Below B a w1:=h.trans (h1.mono hB)
def ZG(w:World)(b:Nat)(t:TypeId)(v:Value):Prop:=w.heap[b]?=some (.cells #[v] t (0,0))
section
variable {w w' : World} {b : Nat} {t : TypeId} {v : Value}
theorem ZG.cell(h:ZG w b t v):w.cell? ⟨b,0,none⟩=some v:=cell_of_one h
theorem ZG.free(h:ZG w b t v):w.frozen? ⟨b,0,none⟩=false:=free_of_one h
theorem ZG.lt(h:ZG w b t v):b<w.heap.size:=lt_of_block h
theorem ZG.of_block(h:ZG w b t v)(hb:w'.heap[b]?=w.heap[b]?):ZG w' b t v:=hb.trans h
theorem ZG.new(w:World)(t:TypeId)(v:Value):ZG (w.alloc (.cells #[v] t)) w.heap.size t v:=heap_alloc_new w _
theorem ZG.alloc(h:ZG w b t v)(o:Obj):ZG (w.alloc o) b t v:=h.of_block (Below.heap_alloc w o b h.lt)
theorem ZG.drewN(h:ZG w b t v)(n:Nat):ZG (w.drewN n) b t v:=h
theorem ZG.below{B:Nat}(h:ZG w b t v)(hb:Below B w w')(hB:b<B):ZG w' b t v:=h.of_block (hb.block b hB)
theorem ZG.grown{row:Option Nat}(h:ZG w b t v)(hg:w.grownBy w' row)(hr:row≠some b):ZG w' b t v:=h.of_block (hg.block b h.lt (Ne.symm hr))
theorem ZG.set_(h:ZG w b t v)(u:Value):ZG (w.setCell ⟨b,0,none⟩ u) b t u:=one_setCell h
theorem ZG.far(h:ZG w b t v){p:Addr}(hp:b≠p.block)(u:Value):ZG (w.setCell p u) b t v:=h.of_block (Below.heap_setCell w p u b hp)
end
def jh(w:World)(b:Nat)(t:TypeId)(cs:Array Value):Prop:=w.heap[b]?=some (.cells cs t (0,0))
section
variable {w w' : World} {b : Nat} {t : TypeId} {cs : Array Value}
theorem jh.cell(h:jh w b t cs)(i:Nat):w.cell? ⟨b,i,none⟩=cs[i]?:=cell_of_row w b i cs t (0,0) h
theorem jh.free(h:jh w b t cs)(i:Nat):w.frozen? ⟨b,i,none⟩=false:=by unfold jh at h;simp[World.frozen?,h]
theorem jh.lt(h:jh w b t cs):b<w.heap.size:=lt_of_block h
theorem jh.of_block(h:jh w b t cs)(hb:w'.heap[b]?=w.heap[b]?):jh w' b t cs:=hb.trans h
theorem jh.new(w:World)(t:TypeId)(cs:Array Value):jh (w.alloc (.cells cs t)) w.heap.size t cs:=heap_alloc_new w _
theorem jh.alloc(h:jh w b t cs)(o:Obj):jh (w.alloc o) b t cs:=h.of_block (Below.heap_alloc w o b h.lt)
theorem jh.drewN(h:jh w b t cs)(n:Nat):jh (w.drewN n) b t cs:=h
theorem jh.drew(h:jh w b t cs):jh w.drew b t cs:=h
theorem jh.below{B:Nat}(h:jh w b t cs)(hb:Below B w w')(hB:b<B):jh w' b t cs:=h.of_block (hb.block b hB)
theorem jh.grown{row:Option Nat}(h:jh w b t cs)(hg:w.grownBy w' row)(hr:row≠some b):jh w' b t cs:=h.of_block (hg.block b h.lt (Ne.symm hr))
theorem jh.set_(h:jh w b t cs)(i:Nat)(u:Value):jh (w.setCell ⟨b,i,none⟩ u) b t (cs.setIfInBounds i u):=by
 unfold jh at h ⊢
 simp[World.setCell,Array.getElem?_modify,h]
theorem jh.far(h:jh w b t cs){p:Addr}(hp:b≠p.block)(u:Value):jh (w.setCell p u) b t cs:=h.of_block (Below.heap_setCell w p u b hp)
end
theorem jbz2{b:Option Nat}{w A B:World}(h:w.grownBy A b)(h1:Below w.heap.size A B):w.grownBy B b:=
 ⟨h1.os.trans h.os,h1.tape.trans h.tape,h1.output.trans h.output,Nat.le_trans h.size h1.size,λk hk hne=>(h1.block k hk).trans (h.block k hk hne)⟩
theorem zI{b:Option Nat}{n:Nat}{w A B:World}(h:w.grownBy A b)(h1:Below n A B)(hn:w.heap.size<=n):w.grownBy B b:=jbz2 h (h1.mono hn)
theorem JP{b row:Option Nat}{w A B:World}(h:w.grownBy A b)(h1:A.grownBy B row)(hr:∀j,row=some j->row=b\/w.heap.size<=j):w.grownBy B b:=
 ⟨h1.os.trans h.os,h1.tape.trans h.tape,h1.output.trans h.output,Nat.le_trans h.size h1.size,λk hk hne=>(h1.block k (Nat.lt_of_lt_of_le hk h.size) (λe=>by
  rcases hr k e.symm with h2|h2
  ·exact hne (e.trans h2)
  ·omega)).trans (h.block k hk hne)⟩
theorem JO{b:Option Nat}{w A:World}(h:w.grownBy A b)(o:Obj):w.grownBy (A.alloc o) b:=JP h (World.grownBy_alloc A o none) (by simp)
theorem jr9{b:Option Nat}{w A:World}(h:w.grownBy A b)(n:Nat):w.grownBy (A.drewN n) b:=⟨h.os,h.tape,h.output,h.size,h.block⟩
theorem zg3{b:Option Nat}{w A:World}(h:w.grownBy A b):w.grownBy A.drew b:=⟨h.os,h.tape,h.output,h.size,h.block⟩
theorem zy{b:Option Nat}{w A:World}(h:w.grownBy A b){p:Addr}(hp:w.heap.size<=p.block)(u:Value):w.grownBy (A.setCell p u) b:=
 ⟨h.os,h.tape,h.output,by simpa using h.size,λk hk hne=>(Below.heap_setCell A p u k (by omega)).trans (h.block k hk hne)⟩
theorem jac9(w:World)(b:Option Nat):w.grownBy w b:=World.grownBy.refl w b
theorem Qk{w A:World}(h:w.grownBy A none):Below w.heap.size w A:=⟨h.os,h.tape,h.output,h.size,λk hk=>h.block k hk (by simp)⟩
theorem jX{w A:World}(h:Below w.heap.size w A)(b:Option Nat):w.grownBy A b:=⟨h.os,h.tape,h.output,h.size,λk hk _=>h.block k hk⟩
theorem jx{w:World}{base size n:Nat}{e:TypeId}{v:Value}{xs:List Value}(h:w.ownsRow base e size v n xs):∃A c,v=.slice A n c:=by
 rcases h.2 with⟨rfl,rfl⟩|⟨g,cap,cur,rfl,_⟩
 ·exact⟨_,_,rfl⟩
 ·exact⟨_,_,rfl⟩
theorem zc7{w:World}{base b size n:Nat}{e:TypeId}{v:Value}{xs:List Value}(h:w.ownsRow base e size v n xs)(hb:b<base):v.ownBlock≠some b:=by
 intro he
 have:=(h.lt b he).1
 omega
theorem JG(w:World)(u:Value)(t:TypeId):∀j x,[u][j]?=some x->(w.alloc (.cells #[u] t)).cell? ((⟨w.heap.size,0,none⟩:Addr).add j)=some x:=by
 intro j x hj
 match j,hj with
 | 0,hj=>
  simp only[List.getElem?_cons_zero,Option.some.injEq] at hj
  subst hj
  exact(ZG.new w t u).cell
theorem dd(w:World)(a b:Nat):∃q,(w.drewN a).drewN b=w.drewN q:=⟨a+b,World.drewN_drewN _ _ _⟩
theorem qK{k:IntKind}{a b:Int}(h:a=b):Ending.returned (.int k a)=.returned (.int k b):=by rw[h]
open Go
section
variable {P : Program} {ops : Array Oper} {Q : Exit → Act → World → Prop} {md : Region.Mode} {S : Array Bool → World → Prop}
def ql (P:Program) (md:Region.Mode) (ops:Array Oper) (Q:Exit->Act->World->Prop) (S:Array Bool->World->Prop):Nat->Array Bool->Act->World->Prop
 | 0,L,a,w=>Region.ready md ops L=[]/\Q .normal a w
 | fuel+1,L,a,w=>
  (Region.ready md ops L=[]->Q .normal a w) /\
  ∀i∈Region.ready md ops L,wpOp P ops Q i (λa' w'=>S (L.setIfInBounds i true) w'/\ql P md ops Q S fuel (L.setIfInBounds i true) a' w') a w
theorem jp4:∀(fuel:Nat) (L:Array Bool) (a:Act) (w:World),ql P md ops Q S fuel L a w->wpAny P md ops Q fuel L a w
 | 0,_,_,_,h=>h
 | fuel+1,_,_,_,h=>⟨h.1,λi hi=>wpOp_mono (λa' w' h'=>jp4 fuel _ a' w' h'.2) (h.2 i hi)⟩
structure UpTo(md:Region.Mode)(ops:Array Oper)(L:Array Bool):Prop where
 size:L.size=ops.size
 closed:∀j oj,ops[j]?=some oj->L.getD j false=true->∀e∈oj.after,Region.binds md e=true->L.getD e.on false=true
theorem UpTo.start:UpTo md ops (Array.replicate ops.size false):=
 ⟨by simp,λj oj _ hl=>(by rw[getD_replicate_false] at hl;cases hl)⟩
theorem UpTo.set{i:Nat}{L:Array Bool}(inv:UpTo md ops L)(hi:i∈Region.ready md ops L):UpTo md ops (L.setIfInBounds i true):=by
 obtain⟨_,oi,hoi,hall⟩:=mem_ready.1 hi
 refine⟨by simp[inv.size],λj oj hj hl e he hb=>?_⟩
 by_cases hij:i=j
 ·subst hij
  have:oj=oi:=Option.some.inj (hj.symm.trans hoi)
  subst this
  exact getD_set_true (hall e he hb)
 ·rw[getD_set_ne false hij] at hl
  exact getD_set_true (inv.closed j oj hj hl e he hb)
def Region.needs (md:Region.Mode) (ops:Array Oper):Nat->Nat->Nat->Bool
 | 0,s,i=>s==i
 | n+1,s,i=>s==i || match ops[s]? with
   | some o=>o.after.any λe=>Region.binds md e&&Region.needs md ops n e.on i
   | none=>false
theorem UpTo.needs {L:Array Bool} (inv:UpTo md ops L) {i:Nat} (hi:L.getD i false=false):∀(n s:Nat),Region.needs md ops n s i=true->L.getD s false=false
 | 0,s,h=>by
  obtain rfl:s=i:=by simpa [Region.needs] using h
  exact hi
 | n+1,s,h=>by
  unfold Region.needs at h
  rw[Bool.or_eq_true] at h
  rcases h with h|h
  ·obtain rfl:s=i:=by simpa using h
   exact hi
  ·cases ho:ops[s]? with
   | none=>rw[ho] at h;cases h
   | some o=>
    rw[ho] at h
    obtain⟨e,he,hb⟩:=Array.any_eq_true'.1 h
    rw[Bool.and_eq_true] at hb
    cases hl:L.getD s false with
    | false=>rfl
    | true=>
     have h1:=inv.closed s o ho hl e he hb.1
     rw[inv.needs hi n e.on hb.2] at h1
     cases h1
theorem jb3 {i:Nat} {oi:Oper} {v:Value} (hi:ops[i]?=some oi) (hsel:∀(j:Nat) (o:Oper) cs b,ops[j]?=some o->o.op≠.select cs b)
  (hQ:∀c a w,Q (.panic c) (a.put oi.dst v) w->Q (.panic c) a w) (hSi:∀L w,S (L.setIfInBounds i true) w↔S L w) :
  ∀(fuel:Nat) (L:Array Bool) (a:Act) (w:World),UpTo md ops L ->
   (∀j oj,ops[j]?=some oj->j≠i->L.getD j true=false->(∀e∈oj.after,Region.binds md e=true->e.on≠i)->oi.apart ops oj=true) ->
   i∈Region.ready md ops L->YieldsIf P ops (λw=>∃L,UpTo md ops L/\L.getD i false=false/\S L w) oi v a->S L w ->
   ql P md ops Q S fuel (L.setIfInBounds i true) (a.put oi.dst v) w->ql P md ops Q S (fuel+1) L a w:=by
 intro fuel
 induction fuel with
 | zero=>
  intro L a w up _ hr hy hS H
  have hun:L.getD i false=false:=getD_both (mem_ready.1 hr).1
  refine⟨λh=>(by rw[h] at hr;cases hr),λj hj=>?_⟩
  by_cases hji:j=i
  ·subst hji;exact hy.wpOp hi ⟨L,up,hun,hS⟩ ⟨(hSi L w).2 hS,H⟩
  ·have:=ready_mono hj hji
   rw[H.1] at this
   cases this
 | succ fuel ih=>
  intro L a w up hfree hr hy hS H
  have hun:L.getD i false=false:=getD_both (mem_ready.1 hr).1
  refine⟨λh=>(by rw[h] at hr;cases hr),λj hj=>?_⟩
  by_cases hji:j=i
  ·subst hji;exact hy.wpOp hi ⟨L,up,hun,hS⟩ ⟨(hSi L w).2 hS,H⟩
  ·have h1:=H.2 j (ready_mono hj hji)
   obtain⟨hjun,oj,hoj,hall⟩:=mem_ready.1 hj
   have hnot:∀e∈oj.after,Region.binds md e=true->e.on≠i:=λe he hb heq=>by
    have h1:=hall e he hb
    rw[heq,hun] at h1
    cases h1
   have h2:=wpOp_putIf hoj (hfree j oj hoj hji hjun hnot) (λcs b=>hsel i oi cs b hi) (λcs b=>hsel j oj cs b hoj) hQ hy h1
   have hfree':∀k ok,ops[k]?=some ok->k≠i->(L.setIfInBounds j true).getD k true=false ->
     (∀e∈ok.after,Region.binds md e=true->e.on≠i)->oi.apart ops ok=true:=λk ok hk hki hun hno=>by
    refine hfree k ok hk hki ?_ hno
    by_cases hjk:j=k
    ·subst hjk;exact hjun
    ·rw[getD_set_ne true hjk] at hun;exact hun
   refine wpOp_mono (λa' w' h3=>?_) h2
   have hS':S (L.setIfInBounds j true) w':=by
    have:=h3.2.1
    rw[Array.setIfInBounds_comm _ _ (Ne.symm hji)] at this
    exact(hSi _ w').1 this
   refine⟨hS',ih (L.setIfInBounds j true) a' w' (up.set hj) hfree' (ready_mono hr (Ne.symm hji)) h3.1 hS' ?_⟩
   rw[Array.setIfInBounds_comm _ _ hji]
   exact h3.2.2
theorem jav4 {L:Array Bool} {a:Act} {w:World} (hr:Region.ready md ops L=[]) (h:Q .normal a w) :
  ∀fuel,ql P md ops Q S fuel L a w
 | 0=>⟨hr,h⟩
 | _+1=>⟨λ_=>h,by rw[hr];simp⟩
theorem zr1 {rs:List Nat} {fuel:Nat} {L:Array Bool} {a:Act} {w:World} (hr:Region.ready md ops L=rs) (hne:rs≠[])
  (h:∀i∈rs,wpOp P ops Q i (λa' w'=>S (L.setIfInBounds i true) w'/\ql P md ops Q S fuel (L.setIfInBounds i true) a' w') a w):ql P md ops Q S (fuel+1) L a w:=
 ⟨λh0=>absurd (hr▸h0) hne,hr▸h⟩
end
section
variable {P : Program} {ops : Array Oper} {Q : Exit → Act → World → Prop} {md : Region.Mode} {C F1 F2 : World → Prop} {s1 s2 : Nat}
def jf(C:World->Prop)(s1:Nat)(F1:World->Prop)(s2:Nat)(F2:World->Prop)(L:Array Bool)(w:World):Prop:=
 C w/\(L.getD s1 false=false->F1 w)/\(L.getD s2 false=false->F2 w)
def JI(P:Program)(md:Region.Mode)(ops:Array Oper)(Q:Exit->Act->World->Prop)(C:World->Prop)(s1:Nat)(F1:World->Prop)(s2:Nat)(F2:World->Prop)(fuel:Nat)(L:Array Bool)(a:Act)(w:World):Prop:=
 UpTo md ops L->ql P md ops Q (jf C s1 F1 s2 F2) fuel L a w
theorem JL{l rest:List Oper}{i:Nat}{o:Oper}(h:l.drop i=o::rest):l.toArray[i]?=some o:=by
 have:=congrArg (λl=>l[0]?) h
 simpa using this
theorem jc {l rest:List Oper} (i:Nat) {oi:Oper} {v:Value} {fuel:Nat} {L:Array Bool} {a:Act} {w:World} (hi:l.drop i=oi::rest)
  (hB:(Region.noSelect l.toArray&&Region.free md l.toArray L i&&(Region.ready md l.toArray L).contains i&&(s1 !=i)&&(s2 !=i))=true)
  (hQ:∀c a w,Q (.panic c) (a.put oi.dst v) w->Q (.panic c) a w)
  (hw:Region.wanted oi (yielded l.toArray a.tmps)=true)
  (hv:∀w,(C w/\(Region.needs md l.toArray l.toArray.size s1 i=true->F1 w)/\(Region.needs md l.toArray l.toArray.size s2 i=true->F2 w))->(execOp a.eval oi).run P w=.ok (.value v) w)
  (hS:jf C s1 F1 s2 F2 L w) (h:jf C s1 F1 s2 F2 (L.setIfInBounds i true) w->JI P md l.toArray Q C s1 F1 s2 F2 fuel (L.setIfInBounds i true) (a.put oi.dst v) w):JI P md l.toArray Q C s1 F1 s2 F2 (fuel+1) L a w:=λup=>by
 simp only[Bool.and_eq_true,bne_iff_ne,ne_eq] at hB
 obtain⟨⟨⟨⟨hs,hf⟩,hr⟩,h1⟩,h2⟩:=hB
 have hr':i∈Region.ready md l.toArray L:=by simpa using hr
 have hSi:∀L w,jf C s1 F1 s2 F2 (L.setIfInBounds i true) w↔jf C s1 F1 s2 F2 L w:=λL w=>by
  unfold jf
  rw[getD_set_ne false (Ne.symm h1),getD_set_ne false (Ne.symm h2)]
 exact jb3 (JL hi) (Region.noSelect_spec hs) hQ hSi fuel L a w up (Region.free_spec (JL hi) hf) hr'
  (.inl ⟨hw,λw ⟨L,up,hun,hS⟩=>hv w ⟨hS.1,λhn=>hS.2.1 (up.needs hun _ _ hn),λhn=>hS.2.2 (up.needs hun _ _ hn)⟩⟩) hS (h ((hSi L w).2 hS) (up.set hr'))
theorem jtk {l rest:List Oper} (i:Nat) {oi:Oper} (v:Value) {fuel:Nat} {L:Array Bool} {a:Act} {w:World}
  (hv:∀w,(C w/\(Region.needs md l.toArray l.toArray.size s1 i=true->F1 w)/\(Region.needs md l.toArray l.toArray.size s2 i=true->F2 w))->(execOp a.eval oi).run P w=.ok (.value v) w)
  (h:jf C s1 F1 s2 F2 (L.setIfInBounds i true) w->JI P md l.toArray Q C s1 F1 s2 F2 fuel (L.setIfInBounds i true) (a.put oi.dst v) w)
  (hi:l.drop i=oi::rest:=by rfl) (hB:(Region.noSelect l.toArray&&Region.free md l.toArray L i&&(Region.ready md l.toArray L).contains i&&(s1 !=i)&&(s2 !=i))=true:=by decide +kernel)
  (hQ:∀c a w,Q (.panic c) (a.put oi.dst v) w->Q (.panic c) a w:=by exact λ_ _ _ h=>h) (hw:Region.wanted oi (yielded l.toArray a.tmps)=true:=by rfl) :
  jf C s1 F1 s2 F2 L w->JI P md l.toArray Q C s1 F1 s2 F2 (fuel+1) L a w:=λhS=>jc i hi hB hQ hw hv hS h
theorem jtq {l rest:List Oper} (i:Nat) {oi:Oper} (v:Value) {fuel:Nat} {L:Array Bool} {a:Act} {w:World}
  (hv:∀w,(execOp a.eval oi).run P w=.ok (.value v) w)
  (h:jf C s1 F1 s2 F2 (L.setIfInBounds i true) w->JI P md l.toArray Q C s1 F1 s2 F2 fuel (L.setIfInBounds i true) (a.put oi.dst v) w)
  (hi:l.drop i=oi::rest:=by rfl) (hB:(Region.noSelect l.toArray&&Region.free md l.toArray L i&&(Region.ready md l.toArray L).contains i&&(s1 !=i)&&(s2 !=i))=true:=by decide +kernel)
  (hQ:∀c a w,Q (.panic c) (a.put oi.dst v) w->Q (.panic c) a w:=by exact λ_ _ _ h=>h) (hw:Region.wanted oi (yielded l.toArray a.tmps)=true:=by rfl) :
  jf C s1 F1 s2 F2 L w->JI P md l.toArray Q C s1 F1 s2 F2 (fuel+1) L a w:=λhS=>jc i hi hB hQ hw (λw _=>hv w) hS h
def jp5(P:Program)(md:Region.Mode)(ops:Array Oper)(Q:Exit->Act->World->Prop)(C:World->Prop)(s1:Nat)(F1:World->Prop)(s2:Nat)(F2:World->Prop)(fuel:Nat)(L:Array Bool)(a:Act)(w:World)(rs:List Nat):Prop:=
 ∀i∈rs,wpOp P ops Q i (λa' w'=>jf C s1 F1 s2 F2 (L.setIfInBounds i true) w'/\JI P md ops Q C s1 F1 s2 F2 fuel (L.setIfInBounds i true) a' w') a w
theorem jp5.nil{fuel:Nat}{L:Array Bool}{a:Act}{w:World}:jp5 P md ops Q C s1 F1 s2 F2 fuel L a w []:=λ_ h=>by cases h
theorem jp5.cons {fuel:Nat} {L:Array Bool} {a:Act} {w:World} {i:Nat} {o:Oper} {rs:List Nat} (ho:ops[i]?=some o)
  (h:∀K':Act->World->Prop,Shut (∀a w,jf C s1 F1 s2 F2 (L.setIfInBounds i true) w->(jf C s1 F1 s2 F2 (L.setIfInBounds i true) w->JI P md ops Q C s1 F1 s2 F2 fuel (L.setIfInBounds i true) a w)->K' a w) ->
   if Region.wanted o (yielded ops a.tmps)=true then Oper.wp P o a w K' Q else K' (a.put o.dst undef) w)
  (hs:jp5 P md ops Q C s1 F1 s2 F2 fuel L a w rs):jp5 P md ops Q C s1 F1 s2 F2 fuel L a w (i::rs):=λj hj=>by
 rcases List.mem_cons.1 hj with rfl|hj
 ·exact wpOp_step ho (λK' hK=>h K' (λa w hS hW=>hK a w ⟨hS,hW hS⟩))
 ·exact hs j hj
theorem je {l rest:List Oper} (i:Nat) {o:Oper} {fuel:Nat} {L:Array Bool} {a:Act} {w:World} (ho:l.drop i=o::rest) (hr:Region.ready md l.toArray L=[i])
  (h:∀K':Act->World->Prop,Shut (∀a w,jf C s1 F1 s2 F2 (L.setIfInBounds i true) w->(jf C s1 F1 s2 F2 (L.setIfInBounds i true) w->JI P md l.toArray Q C s1 F1 s2 F2 fuel (L.setIfInBounds i true) a w)->K' a w) ->
   if Region.wanted o (yielded l.toArray a.tmps)=true then Oper.wp P o a w K' Q else K' (a.put o.dst undef) w):JI P md l.toArray Q C s1 F1 s2 F2 (fuel+1) L a w:=λup=>
 zr1 hr (by simp) λj hj=>by
  obtain rfl:j=i:=by simpa using hj
  exact wpOp_step (JL ho) (λK' hK=>h K' (λa w hS hW=>hK a w ⟨hS,hW hS (up.set (by rw[hr];exact hj))⟩))
theorem jb4 {l rest rest':List Oper} (i i':Nat) {o o':Oper} {fuel:Nat} {L:Array Bool} {a:Act} {w:World} (ho:l.drop i=o::rest) (ho':l.drop i'=o'::rest') (hr:Region.ready md l.toArray L=[i,i'])
  (h:∀K':Act->World->Prop,Shut (∀a w,jf C s1 F1 s2 F2 (L.setIfInBounds i true) w->(jf C s1 F1 s2 F2 (L.setIfInBounds i true) w->JI P md l.toArray Q C s1 F1 s2 F2 fuel (L.setIfInBounds i true) a w)->K' a w) ->
   if Region.wanted o (yielded l.toArray a.tmps)=true then Oper.wp P o a w K' Q else K' (a.put o.dst undef) w)
  (h':∀K':Act->World->Prop,Shut (∀a w,jf C s1 F1 s2 F2 (L.setIfInBounds i' true) w->(jf C s1 F1 s2 F2 (L.setIfInBounds i' true) w->JI P md l.toArray Q C s1 F1 s2 F2 fuel (L.setIfInBounds i' true) a w)->K' a w) ->
   if Region.wanted o' (yielded l.toArray a.tmps)=true then Oper.wp P o' a w K' Q else K' (a.put o'.dst undef) w):JI P md l.toArray Q C s1 F1 s2 F2 (fuel+1) L a w:=λup=>
 zr1 hr (by simp) λj hj=>by
  have hj':j=i\/j=i':=by simpa using hj
  rcases hj' with rfl|rfl
  ·exact wpOp_step (JL ho) (λK' hK=>h K' (λa w hS hW=>hK a w ⟨hS,hW hS (up.set (by rw[hr];exact hj))⟩))
  ·exact wpOp_step (JL ho') (λK' hK=>h' K' (λa w hS hW=>hK a w ⟨hS,hW hS (up.set (by rw[hr];exact hj))⟩))
theorem jl{L:Array Bool}{a:Act}{w:World}{fuel:Nat}(hr:Region.ready md ops L=[])(h:Q .normal a w):JI P md ops Q C s1 F1 s2 F2 fuel L a w:=
 λ_=>jav4 hr h fuel
theorem jk {id:Nat} {a:Act} {w:World} (C:World->Prop) (s1:Nat) (F1:World->Prop) (s2:Nat) (F2:World->Prop) (hm:P.follows .mixedOrders=true)
  (hS:jf C s1 F1 s2 F2 (Array.replicate ops.size false) w.drew)
  (h:jf C s1 F1 s2 F2 (Array.replicate ops.size false) w.drew->JI P .any ops Q C s1 F1 s2 F2 ops.size (Array.replicate ops.size false) a w.drew):(Code.region id ops true).wp P Q a w:=
 wp_region_any hm (jp4 _ _ _ _ (h hS UpTo.start))
end
