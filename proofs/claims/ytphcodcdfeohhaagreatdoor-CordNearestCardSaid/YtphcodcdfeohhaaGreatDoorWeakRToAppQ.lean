import Derived.Test.YtphcodcdfeohhaaGreatDoorSurdGToSurdM
import Derived.Deep.AppendLies
import Derived.Deep.Upon
set_option linter.unusedVariables false
set_option linter.unusedSimpArgs false
namespace Go.Proofs.YtphcodcdfeohhaaGreatDoor
open Go.RowKit
def Rq(w:World)(B k:Nat)(A:Option Addr)(n c:Nat)(cs:List Value):Prop:=
 cs.length=n*k/\n<=c/\c<=maxLen/\(n=0\/∃ad:Addr,A=some ad/\ad.block<B/\∀j u,cs[j]?=some u->w.cell? (ad.add j)=some u)
section
variable {w w' : World} {B B' k n c : Nat} {A : Option Addr} {cs : List Value}
theorem Rq.of(h:Rd w B k A n c cs):Rq w B k A n c cs:=by
 obtain⟨h1,h2,h3,h4⟩:=h
 refine⟨h1,h2,h3,?_⟩
 rcases h4 with⟨_,h4⟩|h4
 ·exact .inl (by omega)
 ·exact .inr h4
theorem Rq.nmax(h:Rq w B k A n c cs):n<=9223372036854775807:=by
 have h1:=h.2.1;have h2:=h.2.2.1;unfold maxLen at h2;omega
theorem Rq.keep(h:Rq w B k A n c cs)(hk:∀p:Addr,p.block<B->w'.cell? p=w.cell? p):Rq w' B k A n c cs:=by
 obtain⟨h1,h2,h3,h4⟩:=h
 refine⟨h1,h2,h3,?_⟩
 rcases h4 with h4|⟨ad,e,hb,hc⟩
 ·exact .inl h4
 ·exact .inr ⟨ad,e,hb,fun j u hu=>(hk _ (by rw[jn2];exact hb)).trans (hc j u hu)⟩
theorem Rq.more(h:Rq w B k A n c cs)(hB:B<=B'):Rq w B' k A n c cs:=by
 obtain⟨h1,h2,h3,h4⟩:=h
 refine⟨h1,h2,h3,?_⟩
 rcases h4 with h4|⟨ad,e,hb,hc⟩
 ·exact .inl h4
 ·exact .inr ⟨ad,e,by omega,hc⟩
theorem Rq.below(h:Rq w B k A n c cs)(hb:Below B w w'):Rq w' B k A n c cs:=h.keep fun _ hp=>hb.cell hp
theorem Rq.drewN(h:Rq w B k A n c cs)(q:Nat):Rq (w.drewN q) B k A n c cs:=h
theorem Rq.alloc(h:Rq w B k A n c cs)(hB:B<=w.heap.size)(o:Obj):Rq (w.alloc o) B k A n c cs:=
 h.keep fun p hp=>World.cell?_alloc_lt w o p (by omega)
theorem Rq.setCell(h:Rq w B k A n c cs){p:Addr}(hB:B<=p.block)(u:Value):Rq (w.setCell p u) B k A n c cs:=
 h.keep fun q hq=>World.cell?_setCell_other w p q u (fun e=>by subst e;omega)
theorem Rq.grown(h:Rq w B k A n c cs){row:Option Nat}(hg:w.grownBy w' row)(hB:B<=w.heap.size)(hr:∀g,row=some g->B<=g):Rq w' B k A n c cs:=
 h.keep fun p hp=>World.cell?_of_block (hg.block p.block (by omega) (fun e=>by have:=hr _ e.symm;omega))
theorem Rq.addr(h:Rq w B k A n c cs)(hn:0<n):∃ad:Addr,A=some ad/\ad.block<B/\∀j u,cs[j]?=some u->w.cell? (ad.add j)=some u:=by
 rcases h.2.2.2 with h0|h
 ·omega
 ·exact h
theorem Rq.empty(w:World)(B k:Nat)(A:Option Addr):Rq w B k A 0 0 []:=⟨by simp,Nat.le_refl _,Nat.zero_le _,.inl rfl⟩
end
def zh7(w:World)(B:Nat)(A:Option Addr)(n c:Nat)(l:List Int):Prop:=Rq w B 1 A n c (l.map (Value.int .i64))
theorem zh7.len{w:World}{B:Nat}{A:Option Addr}{n c:Nat}{l:List Int}(h:zh7 w B A n c l):l.length=n:=by
 have:=h.1;simpa using this
theorem zh7.at_ {w:World} {B:Nat} {A:Option Addr} {n c:Nat} {l:List Int} (h:zh7 w B A n c l) {i:Nat} (hi:i<l.length) :
  ∃ad:Addr,A=some ad/\ad.block<B/\w.cell? (ad.add i)=some (.int .i64 l[i]):=by
 obtain⟨ad,e,hb,hc⟩:=Rq.addr h (by have:=h.len;omega)
 exact⟨ad,e,hb,hc i _ (by simp[hi])⟩
theorem jdh3 {w:World} {B n c:Nat} {A:Option Addr} {l:List (Value×Value)} (h:Rq w B 2 A n c (jb7 l)) {i:Nat} (hi:i<l.length) :
  ∃ad:Addr,A=some ad/\ad.block<B/\w.cell? (ad.add (i*2))=some l[i].1/\w.cell? ⟨(ad.add (i*2)).block,(ad.add (i*2)).off+1,none⟩=some l[i].2:=by
 have hn:l.length=n:=by have h1:=h.1;rw[jz4] at h1;omega
 obtain⟨ad,e,hb,hc⟩:=Rq.addr h (by omega)
 obtain⟨h1,h2⟩:=jas7 l i hi
 refine⟨ad,e,hb,hc _ _ h1,?_⟩
 have h3:=hc _ _ h2
 rw[<-jbp3] at h3
 exact h3
def jas0(w:World)(B:Nat)(A:Option Addr)(n c:Nat)(ts:List (Int×Int)):Prop:=Rq w B 2 A n c (ja9 ts)
theorem jas0.len{w:World}{B n c:Nat}{A:Option Addr}{ts:List (Int×Int)}(h:jas0 w B A n c ts):ts.length=n:=by
 have h1:=h.1
 unfold ja9 at h1
 rw[jz4,List.length_map] at h1
 omega
theorem jas0.at_ {w:World} {B n c:Nat} {A:Option Addr} {ts:List (Int×Int)} (h:jas0 w B A n c ts) {i:Nat} (hi:i<ts.length) :
  ∃ad:Addr,A=some ad/\ad.block<B/\w.cell? (ad.add (i*2))=some (.int .i64 ts[i].1)/\w.cell? ⟨(ad.add (i*2)).block,(ad.add (i*2)).off+1,none⟩=some (.int .i64 ts[i].2):=by
 obtain⟨ad,e,hb,h1,h2⟩:=jdh3 h (i:=i) (by simpa using hi)
 simp only[List.getElem_map] at h1 h2
 exact⟨ad,e,hb,h1,h2⟩
open Go Go.RowKit
theorem jbn1 {P:Program} (w:World) (t ty:TypeId) (base:Nat) (e:TypeId) (i:TypeInfo) (z:Value) (size bytes:Nat) (ht:P.underlying t=some (.slice e)) (hi:P.info? e=some i) (hz:i.zero=some z)
  (hsize:i.size=size) (hby:i.bytes=bytes) (hzs:z.cells.size=size) (hsz:0<size)
  (v:Value) (n:Nat) (xs:List Value) (hown:w.ownsRow base e size v n xs)
  (A:Option Addr) (m c B:Nat) (news:List Value) (hq:Rq w B size A m c news) (h1:∀u∈news,u.oneCell'=true)
  (h63:n+m<=maxLen) (hbytes:(n+m)*bytes<=140737488355328) (hbase:base<=w.heap.size) :
  ∃A' c' w',(Builtin.append_ #[t,t] ty #[v,.slice A m c]).run P w=.ok (.slice A' (n+m) c') w'/\w'.ownsRow base e size (.slice A' (n+m) c') (n+m) (xs++news)/\w.grownBy w' v.ownBlock:=by
 obtain⟨hl,hmc,hcm,hA⟩:=hq
 cases A with
 | none=>
  have hm0:m=0:=by
   rcases hA with h|⟨ad,h,_⟩
   ·exact h
   ·cases h
  subst hm0
  have hn0:news=[]:=List.length_eq_zero_iff.1 (by omega)
  subst hn0
  obtain⟨A3,c3,rfl⟩:=jc1 hown
  have hcap:=Rd.cap (Rd.of_own hown)
  refine⟨A3,c3,w,?_,by simpa using hown,World.grownBy.refl _ _⟩
  have:=run_append_nothing (P:=P) w t t ty e i ht hi A3 n c3 hcap (.slice none 0 c) (Src.ofNil w ht c)
  simpa using this
 | some ad=>
  have hnews:∀j u,news[j]?=some u->w.cell? (ad.add j)=some u:=by
   rcases hA with h|⟨ad',h,_,hc⟩
   ·subst h
    have hn0:news=[]:=List.length_eq_zero_iff.1 (by omega)
    subst hn0
    intro j u hj;simp at hj
   ·injection h with h
    subst h
    exact hc
  obtain⟨v',w',hr,ho,hg,_,_⟩:=run_append_own_at (P:=P) w base t ty e i z size bytes ht hi hz hsize hby hzs hsz v n xs hown ad m c news hl hnews h1 h63 hbytes hbase
  obtain⟨A3,c3,rfl⟩:=jc1 ho
  exact⟨A3,c3,w',hr,ho,hg⟩
theorem jca9 {P:Program} {w:World} {o:Oper} {a:Act} {K:Act->World->Prop} {Q:Exit->Act->World->Prop} (s x:Operand) (t:TypeId)
  (ho:o.op=.call { callee:=.builtin .append,args:=#[s,x],argTypes:=#[t,t] })
  (base:Nat) (e:TypeId) (i:TypeInfo) (z:Value) (size bytes:Nat) (ht:P.underlying t=some (.slice e)) (hi:P.info? e=some i) (hz:i.zero=some z)
  (hsize:i.size=size) (hby:i.bytes=bytes) (hzs:z.cells.size=size) (hsz:0<size)
  (v:Value) (n:Nat) (xs:List Value) (hs:a.eval s=v) (hown:w.ownsRow base e size v n xs)
  (A:Option Addr) (m c B:Nat) (news:List Value) (hx:a.eval x=.slice A m c) (hq:Rq w B size A m c news) (h1:∀u∈news,u.oneCell'=true)
  (h63:n+m<=maxLen) (hbytes:(n+m)*bytes<=140737488355328) (hbase:base<=w.heap.size)
  (h:∀A' c' w',w'.ownsRow base e size (.slice A' (n+m) c') (n+m) (xs++news)->w.grownBy w' v.ownBlock->K (a.put o.dst (.slice A' (n+m) c')) w'):o.wp P a w K Q:=by
 obtain⟨A',c',w',hr,h2,h3⟩:=jbn1 (P:=P) w t o.type base e i z size bytes ht hi hz hsize hby hzs hsz v n xs hown A m c B news hq h1 h63 hbytes hbase
 unfold Oper.wp execOp
 simp only[ho,resolve,invoke,builtin,Sem.run_bind,Sem.run_pure,Result.andThen_ok,List.map_toArray,List.map_cons,List.map_nil,hs,hx,hr]
 exact h A' c' w' h2 h3
theorem jap9 {P:Program} {w:World} {ops:Array Oper} {rest:List Oper} {o:Oper} {a:Act} {Q:Exit->Act->World->Prop} (hgd:o.guard=none) (s x:Operand) (t:TypeId)
  (ho:o.op=.call { callee:=.builtin .append,args:=#[s,x],argTypes:=#[t,t] })
  (base:Nat) (e:TypeId) (i:TypeInfo) (z:Value) (size bytes:Nat) (ht:P.underlying t=some (.slice e)) (hi:P.info? e=some i) (hz:i.zero=some z)
  (hsize:i.size=size) (hby:i.bytes=bytes) (hzs:z.cells.size=size) (hsz:0<size)
  (v:Value) (n:Nat) (xs:List Value) (hs:a.eval s=v) (hown:w.ownsRow base e size v n xs)
  (A:Option Addr) (m c B:Nat) (news:List Value) (hx:a.eval x=.slice A m c) (hq:Rq w B size A m c news) (h1:∀u∈news,u.oneCell'=true)
  (h63:n+m<=maxLen) (hbytes:(n+m)*bytes<=140737488355328) (hbase:base<=w.heap.size)
  (h:∀A' c' w',w'.ownsRow base e size (.slice A' (n+m) c') (n+m) (xs++news)->w.grownBy w' v.ownBlock->wpList P ops Q rest (a.put o.dst (.slice A' (n+m) c')) w'):wpList P ops Q (o::rest) a w:=
 wpList_plain hgd fun _ hK=>jca9 s x t ho base e i z size bytes ht hi hz hsize hby hzs hsz v n xs hs hown A m c B news hx hq h1 h63 hbytes hbase fun A' c' w' h2 h3=>hK _ _ (h A' c' w' h2 h3)
end Go.Proofs.YtphcodcdfeohhaaGreatDoor
