import Derived.Deep.Upon
import Derived.Test.YtphcodcdfeohhaaGreatDoorProdAToProdM
import Derived.Test.YtphcodcdfeohhaaGreatDoorMakeAToCom
import Derived.Stop.LaidErr
import Derived.Lib.LaidTab
import Derived.LaidMore
import Derived.ProofKit
import Derived.OpenShut
import Derived.WideKeyPair
import Derived.Stop.Joined
import Derived.Deep.DeepHandedRow
import Derived.Deep.SlicePairs
import Derived.Lib.SmallJoins
import Derived.Test.YtphcodcdfeohhaaGreatDoorCards
import Derived.Test.YtphcodcdfeohhaaGreatDoorTie
import Derived.Carry
set_option linter.all false
namespace Go.Proofs.YtphcodcdfeohhaaGreatDoor
set_option maxRecDepth 100000
open Go.RowKit
def Rq(w:World)(B k:Nat)(A:Option Addr)(n c:Nat)(cs:List Value):Prop:=
 cs.length=n*k/\n<=c/\c<=maxLen/\(n=0\/∃ad:Addr,A=some ad/\ad.block<B/\∀j u,cs[j]?=some u->w.cell? (ad.add j)=some u)
section
variable {w w' : World} {B B' k n c : Nat} {A : Option Addr} {cs : List Value}
theorem Rq.of(h:Rd w B k A n c cs):Rq w B k A n c cs:=by
 obtain⟨h1,h2,h3,h4⟩:=h
 refine⟨h1,h2,h3,?_⟩
 rcases h4 with⟨_,h4⟩|h4
 ·exact .inl (by omega)
 ·exact .inr h4
theorem Rq.nmax(h:Rq w B k A n c cs):n<=9223372036854775807:=by
 have h1:=h.2.1;have h2:=h.2.2.1;unfold maxLen at h2;omega
theorem Rq.keep(h:Rq w B k A n c cs)(hk:∀p:Addr,p.block<B->w'.cell? p=w.cell? p):Rq w' B k A n c cs:=by
 obtain⟨h1,h2,h3,h4⟩:=h
 refine⟨h1,h2,h3,?_⟩
 rcases h4 with h4|⟨ad,e,hb,hc⟩
 ·exact .inl h4
 ·exact .inr ⟨ad,e,hb,λj u hu=>(hk _ (by rw[jH];exact hb)).trans (hc j u hu)⟩
theorem Rq.more(h:Rq w B k A n c cs)(hB:B<=B'):Rq w B' k A n c cs:=by
 obtain⟨h1,h2,h3,h4⟩:=h
 refine⟨h1,h2,h3,?_⟩
 rcases h4 with h4|⟨ad,e,hb,hc⟩
 ·exact .inl h4
 ·exact .inr ⟨ad,e,by omega,hc⟩
theorem Rq.below(h:Rq w B k A n c cs)(hb:Below B w w'):Rq w' B k A n c cs:=h.keep λ_ hp=>hb.cell hp
theorem Rq.drewN(h:Rq w B k A n c cs)(q:Nat):Rq (w.drewN q) B k A n c cs:=h
theorem Rq.alloc(h:Rq w B k A n c cs)(hB:B<=w.heap.size)(o:Obj):Rq (w.alloc o) B k A n c cs:=
 h.keep λp hp=>World.cell?_alloc_lt w o p (by omega)
theorem Rq.setCell(h:Rq w B k A n c cs){p:Addr}(hB:B<=p.block)(u:Value):Rq (w.setCell p u) B k A n c cs:=
 h.keep λq hq=>World.cell?_setCell_other w p q u (λe=>by subst e;omega)
theorem Rq.grown(h:Rq w B k A n c cs){row:Option Nat}(hg:w.grownBy w' row)(hB:B<=w.heap.size)(hr:∀g,row=some g->B<=g):Rq w' B k A n c cs:=
 h.keep λp hp=>World.cell?_of_block (hg.block p.block (by omega) (λe=>by have:=hr _ e.symm;omega))
theorem Rq.addr(h:Rq w B k A n c cs)(hn:0<n):∃ad:Addr,A=some ad/\ad.block<B/\∀j u,cs[j]?=some u->w.cell? (ad.add j)=some u:=by
 rcases h.2.2.2 with h0|h
 ·omega
 ·exact h
theorem Rq.empty(w:World)(B k:Nat)(A:Option Addr):Rq w B k A 0 0 []:=⟨by simp,Nat.le_refl _,Nat.zero_le _,.inl rfl⟩
end
def jP(w:World)(B:Nat)(A:Option Addr)(n c:Nat)(l:List Int):Prop:=Rq w B 1 A n c (l.map (Value.int .i64))
theorem jP.len{w:World}{B:Nat}{A:Option Addr}{n c:Nat}{l:List Int}(h:jP w B A n c l):l.length=n:=by
 have:=h.1;simpa using this
theorem jP.at_ {w:World} {B:Nat} {A:Option Addr} {n c:Nat} {l:List Int} (h:jP w B A n c l) {i:Nat} (hi:i<l.length) :
  ∃ad:Addr,A=some ad/\ad.block<B/\w.cell? (ad.add i)=some (.int .i64 l[i]):=by
 obtain⟨ad,e,hb,hc⟩:=Rq.addr h (by have:=h.len;omega)
 exact⟨ad,e,hb,hc i _ (by simp[hi])⟩
theorem jbc8 {w:World} {B n c:Nat} {A:Option Addr} {l:List (Value×Value)} (h:Rq w B 2 A n c (jB l)) {i:Nat} (hi:i<l.length) :
  ∃ad:Addr,A=some ad/\ad.block<B/\w.cell? (ad.add (i*2))=some l[i].1/\w.cell? ⟨(ad.add (i*2)).block,(ad.add (i*2)).off+1,none⟩=some l[i].2:=by
 have hn:l.length=n:=by have h1:=h.1;rw[Jj] at h1;omega
 obtain⟨ad,e,hb,hc⟩:=Rq.addr h (by omega)
 obtain⟨h1,h2⟩:=jm8 l i hi
 refine⟨ad,e,hb,hc _ _ h1,?_⟩
 have h3:=hc _ _ h2
 rw[<-zh1] at h3
 exact h3
def jJ(w:World)(B:Nat)(A:Option Addr)(n c:Nat)(ts:List (Int×Int)):Prop:=Rq w B 2 A n c (jr ts)
theorem jJ.len{w:World}{B n c:Nat}{A:Option Addr}{ts:List (Int×Int)}(h:jJ w B A n c ts):ts.length=n:=by
 have h1:=h.1
 unfold jr at h1
 rw[Jj,List.length_map] at h1
 omega
theorem jJ.at_ {w:World} {B n c:Nat} {A:Option Addr} {ts:List (Int×Int)} (h:jJ w B A n c ts) {i:Nat} (hi:i<ts.length) :
  ∃ad:Addr,A=some ad/\ad.block<B/\w.cell? (ad.add (i*2))=some (.int .i64 ts[i].1)/\w.cell? ⟨(ad.add (i*2)).block,(ad.add (i*2)).off+1,none⟩=some (.int .i64 ts[i].2):=by
 obtain⟨ad,e,hb,h1,h2⟩:=jbc8 h (i:=i) (by simpa using hi)
 simp only[List.getElem_map] at h1 h2
 exact⟨ad,e,hb,h1,h2⟩
open Go Go.RowKit
theorem jaf9 {P:Program} (w:World) (t ty:TypeId) (base:Nat) (e:TypeId) (i:TypeInfo) (z:Value) (size bytes:Nat) (ht:P.underlying t=some (.slice e)) (hi:P.info? e=some i) (hz:i.zero=some z)
  (hsize:i.size=size) (hby:i.bytes=bytes) (hzs:z.cells.size=size) (hsz:0<size)
  (v:Value) (n:Nat) (xs:List Value) (hown:w.ownsRow base e size v n xs)
  (A:Option Addr) (m c B:Nat) (news:List Value) (hq:Rq w B size A m c news) (h1:∀u∈news,u.oneCell'=true)
  (h63:n+m<=maxLen) (hbytes:(n+m)*bytes<=140737488355328) (hbase:base<=w.heap.size) :
  ∃A' c' w',(Builtin.append_ #[t,t] ty #[v,.slice A m c]).run P w=.ok (.slice A' (n+m) c') w'/\w'.ownsRow base e size (.slice A' (n+m) c') (n+m) (xs++news)/\w.grownBy w' v.ownBlock:=by
 obtain⟨hl,hmc,hcm,hA⟩:=hq
 cases A with
 | none=>
  have hm0:m=0:=by
   rcases hA with h|⟨ad,h,_⟩
   ·exact h
   ·cases h
  subst hm0
  have hn0:news=[]:=List.length_eq_zero_iff.1 (by omega)
  subst hn0
  obtain⟨A3,c3,rfl⟩:=jx hown
  have hcap:=Rd.cap (Rd.of_own hown)
  refine⟨A3,c3,w,?_,by simpa using hown,World.grownBy.refl _ _⟩
  have:=run_append_nothing (P:=P) w t t ty e i ht hi A3 n c3 hcap (.slice none 0 c) (Src.ofNil w ht c)
  simpa using this
 | some ad=>
  have hnews:∀j u,news[j]?=some u->w.cell? (ad.add j)=some u:=by
   rcases hA with h|⟨ad',h,_,hc⟩
   ·subst h
    have hn0:news=[]:=List.length_eq_zero_iff.1 (by omega)
    subst hn0
    intro j u hj;simp at hj
   ·injection h with h
    subst h
    exact hc
  obtain⟨v',w',hr,ho,hg,_,_⟩:=run_append_own_at (P:=P) w base t ty e i z size bytes ht hi hz hsize hby hzs hsz v n xs hown ad m c news hl hnews h1 h63 hbytes hbase
  obtain⟨A3,c3,rfl⟩:=jx ho
  exact⟨A3,c3,w',hr,ho,hg⟩
theorem zf2 {P:Program} {w:World} {o:Oper} {a:Act} {K:Act->World->Prop} {Q:Exit->Act->World->Prop} (s x:Operand) (t:TypeId)
  (ho:o.op=.call { callee:=.builtin .append,args:=#[s,x],argTypes:=#[t,t] })
  (base:Nat) (e:TypeId) (i:TypeInfo) (z:Value) (size bytes:Nat) (ht:P.underlying t=some (.slice e)) (hi:P.info? e=some i) (hz:i.zero=some z)
  (hsize:i.size=size) (hby:i.bytes=bytes) (hzs:z.cells.size=size) (hsz:0<size)
  (v:Value) (n:Nat) (xs:List Value) (hs:a.eval s=v) (hown:w.ownsRow base e size v n xs)
  (A:Option Addr) (m c B:Nat) (news:List Value) (hx:a.eval x=.slice A m c) (hq:Rq w B size A m c news) (h1:∀u∈news,u.oneCell'=true)
  (h63:n+m<=maxLen) (hbytes:(n+m)*bytes<=140737488355328) (hbase:base<=w.heap.size)
  (h:∀A' c' w',w'.ownsRow base e size (.slice A' (n+m) c') (n+m) (xs++news)->w.grownBy w' v.ownBlock->K (a.put o.dst (.slice A' (n+m) c')) w'):o.wp P a w K Q:=by
 obtain⟨A',c',w',hr,h2,h3⟩:=jaf9 (P:=P) w t o.type base e i z size bytes ht hi hz hsize hby hzs hsz v n xs hown A m c B news hq h1 h63 hbytes hbase
 unfold Oper.wp execOp
 simp only[ho,resolve,invoke,builtin,Sem.run_bind,Sem.run_pure,Result.andThen_ok,List.map_toArray,List.map_cons,List.map_nil,hs,hx,hr]
 exact h A' c' w' h2 h3
theorem Zt {P:Program} {w:World} {ops:Array Oper} {rest:List Oper} {o:Oper} {a:Act} {Q:Exit->Act->World->Prop} (hgd:o.guard=none) (s x:Operand) (t:TypeId)
  (ho:o.op=.call { callee:=.builtin .append,args:=#[s,x],argTypes:=#[t,t] })
  (base:Nat) (e:TypeId) (i:TypeInfo) (z:Value) (size bytes:Nat) (ht:P.underlying t=some (.slice e)) (hi:P.info? e=some i) (hz:i.zero=some z)
  (hsize:i.size=size) (hby:i.bytes=bytes) (hzs:z.cells.size=size) (hsz:0<size)
  (v:Value) (n:Nat) (xs:List Value) (hs:a.eval s=v) (hown:w.ownsRow base e size v n xs)
  (A:Option Addr) (m c B:Nat) (news:List Value) (hx:a.eval x=.slice A m c) (hq:Rq w B size A m c news) (h1:∀u∈news,u.oneCell'=true)
  (h63:n+m<=maxLen) (hbytes:(n+m)*bytes<=140737488355328) (hbase:base<=w.heap.size)
  (h:∀A' c' w',w'.ownsRow base e size (.slice A' (n+m) c') (n+m) (xs++news)->w.grownBy w' v.ownBlock->wpList P ops Q rest (a.put o.dst (.slice A' (n+m) c')) w'):wpList P ops Q (o::rest) a w:=
 wpList_plain hgd λ_ hK=>zf2 s x t ho base e i z size bytes ht hi hz hsize hby hzs hsz v n xs hs hown A m c B news hx hq h1 h63 hbytes hbase λA' c' w' h2 h3=>hK _ _ (h A' c' w' h2 h3)
theorem zt3 {P:Program} {w:World} {ops:Array Oper} {o:Oper} {a:Act} {K:Act->World->Prop} {Q:Exit->Act->World->Prop} {E:Prop} (hgd:o.guard=none) (s x:Operand) (t:TypeId)
  (ho:o.op=.call { callee:=.builtin .append,args:=#[s,x],argTypes:=#[t,t] })
  (base:Nat) (e:TypeId) (i:TypeInfo) (z:Value) (size bytes:Nat) (ht:P.underlying t=some (.slice e)) (hi:P.info? e=some i) (hz:i.zero=some z)
  (hsize:i.size=size) (hby:i.bytes=bytes) (hzs:z.cells.size=size) (hsz:0<size)
  (v:Value) (n:Nat) (xs:List Value) (hs:a.eval s=v) (hown:w.ownsRow base e size v n xs)
  (A:Option Addr) (m c B:Nat) (news:List Value) (hx:a.eval x=.slice A m c) (hq:Rq w B size A m c news) (h1:∀u∈news,u.oneCell'=true)
  (h63:n+m<=maxLen) (hbytes:(n+m)*bytes<=140737488355328) (hbase:base<=w.heap.size)
  (h:∀A' c' w',w'.ownsRow base e size (.slice A' (n+m) c') (n+m) (xs++news)->w.grownBy w' v.ownBlock->K (a.put o.dst (.slice A' (n+m) c')) w') :
  if Region.wanted o (yielded ops a.tmps)=true then Oper.wp P o a w K Q else E:=by
 have hw:Region.wanted o (yielded ops a.tmps)=true:=by simp[Region.wanted,hgd]
 rw[if_pos hw]
 exact zf2 s x t ho base e i z size bytes ht hi hz hsize hby hzs hsz v n xs hs hown A m c B news hx hq h1 h63 hbytes hbase h
def qj(k:Nat):Int:=if k % 2=0 then 1 else -1
theorem jbs1(k:Nat):qj (k+1)=-qj k:=by unfold qj;split<;>split<;>omega
theorem jbj0(k:Nat):-1<=qj k/\qj k<=1:=by unfold qj;split<;>omega
def JD(yd:Int)(l:List (Int×Int)):List (Int×Int):=l.mapIdx λi t=>(t.1*(qj i*yd),t.2)
def zR(l:List (Int×Int)):Int:=(l.mapIdx λi t=>qj i*t.1*t.1*t.2).sum
theorem jbd9(yd:Int)(l:List (Int×Int))(t:Int×Int):JD yd (l++[t])=JD yd l++[(t.1*(qj l.length*yd),t.2)]:=by
 unfold JD;rw[List.mapIdx_append];simp
theorem jbb6(l:List (Int×Int))(t:Int×Int):zR (l++[t])=zR l+qj l.length*t.1*t.1*t.2:=by
 unfold zR;rw[List.mapIdx_append,List.sum_append];simp
theorem qk(yd:Int)(l:List (Int×Int)):(JD yd l).length=l.length:=by simp[JD]
def Qe(yd:Int)(yt:List (Int×Int))(k:Nat):List (Int×Int):=JD yd (yt.take k)++yt.drop k
theorem jbt4(yd:Int)(yt:List (Int×Int))(k:Nat)(h:k<=yt.length):(Qe yd yt k).length=yt.length:=by
 unfold Qe;rw[List.length_append,qk];simp;omega
theorem jcg4(yd:Int)(yt:List (Int×Int))(k:Nat)(h:k<yt.length):(Qe yd yt k)[k]?=some yt[k]:=by
 unfold Qe
 rw[List.getElem?_append_right (by rw[qk];simp;omega),qk]
 simp[Nat.min_eq_left (Nat.le_of_lt h)]
theorem jbt5(yd:Int)(yt:List (Int×Int))(k:Nat)(h:k<yt.length):(Qe yd yt k).set k (yt[k].1*(qj k*yd),yt[k].2)=Qe yd yt (k+1):=by
 unfold Qe
 rw[jw yt k h,jbd9,List.drop_eq_getElem_cons h,List.set_append_right _ _ (by rw[qk];simp;omega),qk]
 simp only[List.length_take,Nat.min_eq_left (Nat.le_of_lt h),Nat.sub_self,List.set_cons_zero,List.append_assoc,List.cons_append,List.nil_append]
theorem zb7:∀(l:List (Value×Value)) (i:Nat) (u:Value) (h:i<l.length),(jB l).set (i*2) u=jB (l.set i (u,l[i].2))
 | x::l,0,u,_=>rfl
 | x::l,i+1,u,h=>by
  have h1:=zb7 l i u (by simpa using h)
  have e:jB (x::l)=x.1::x.2::jB l:=rfl
  rw[e,show(i+1)*2=i*2+2 by omega]
  show x.1::x.2::((jB l).set (i*2) u)=_
  rw[h1]
  rfl
theorem jd6(ts:List (Int×Int))(i:Nat)(c:Int)(h:i<ts.length):(jr ts).set (i*2) (.int .i64 c)=jr (ts.set i (c,ts[i].2)):=by
 have h1:=zb7 (ts.map jr7) i (.int .i64 c) (by simpa using h)
 unfold jr
 rw[h1,List.map_set]
 simp[jr7]
def jn7(xd:Int)(xt:List (Int×Int))(yd:Int)(yt:List (Int×Int)):Int×List (Int×Int)×Int:=
 if(js xd xt&&js yd yt)=true then
  if yt.length=0 then(0,[],7)else if 2<yt.length then(0,[],11)else jY (Jq [] xt (JD yd yt)) (xd*zR yt)
 else(0,[],2)
theorem jcb8{c d r q:Int}(hc:c≠0)(hd:d≠0)(hcb:-100000<=c/\c<=100000)(hdb:-100000<=d/\d<=100000)(hr:zu r)(hq:zu q)(hrq:r≠q):c*c*r≠d*d*q:=by
 intro he
 obtain⟨K,hK⟩:∃K,93+75*2 ^ 36<=16*K:=⟨500000000000,by decide⟩
 have hv:=zc0 K hK (ts:=[((c.natAbs:Int),r),(-(d.natAbs:Int),q)]) (by simp) (by
  intro t ht
  simp only[List.mem_cons,List.not_mem_nil,or_false] at ht
  rcases ht with rfl|rfl
  ·show(c.natAbs:Int)≠0/\-_<=(c.natAbs:Int)/\(c.natAbs:Int)<=_;omega
  ·show -(d.natAbs:Int)≠0/\-_<=-(d.natAbs:Int)/\-(d.natAbs:Int)<=_;omega) (by
  intro t ht
  simp only[List.mem_cons,List.not_mem_nil,or_false] at ht
  rcases ht with rfl|rfl
  ·exact hr
  ·exact hq) (by simp[hrq]) (by simp)
 refine hv ?_
 have h1:¬((c.natAbs:Int)<0):=by omega
 have h2:-(d.natAbs:Int)<0:=by omega
 have hsq:sqT ((c.natAbs:Int),r)=sqT (-(d.natAbs:Int),q):=by
  unfold sqT
  simp only[Int.natAbs_natCast,Int.natAbs_neg]
  have e1:((c.natAbs*c.natAbs*r.toNat:Nat):Int)=c*c*r:=by
   rw[Int.natCast_mul,Int.natAbs_mul_self,Int.toNat_of_nonneg (by have:=hr.1;omega)]
  have e2:((d.natAbs*d.natAbs*q.toNat:Nat):Int)=d*d*q:=by
   rw[Int.natCast_mul,Int.natAbs_mul_self,Int.toNat_of_nonneg (by have:=hq.1;omega)]
  omega
 have e3:zv [((c.natAbs:Int),r),(-(d.natAbs:Int),q)] K=zw [((c.natAbs:Int),r),(-(d.natAbs:Int),q)] K:=by
  unfold zv zw
  simp only[List.map_cons,List.map_nil,List.sum_cons,List.sum_nil,if_neg h1,if_pos h2,zh,Zv,hsq]
  omega
 have e4:Jg [((c.natAbs:Int),r),(-(d.natAbs:Int),q)] K=Jh [((c.natAbs:Int),r),(-(d.natAbs:Int),q)] K:=by
  unfold Jg Jh
  simp only[List.map_cons,List.map_nil,List.sum_cons,List.sum_nil,if_neg h1,if_pos h2,Jr,Zv,hsq]
  omega
 have h5:=jy0 [((c.natAbs:Int),r),(-(d.natAbs:Int),q)] K
 unfold jy
 rw[if_neg (by omega),if_neg (by omega)]
theorem jcj3{yd:Int}{yt:List (Int×Int)}(hok:js yd yt=true)(h1:yt.length≠0)(h2:¬2<yt.length):zR yt≠0/\-40000000000000<=zR yt/\zR yt<=40000000000000:=by
 obtain⟨_,_,_,hp⟩:=jz hok
 obtain⟨hr,hn⟩:=Jd hok
 have hbd:∀t∈yt,1<=t.1*t.1*t.2/\t.1*t.1*t.2<=10000000000000:=λt ht=>by
  obtain⟨a1,a2,a3,a4⟩:=(hp t ht).1
  have h3:=jE (jE a4 a4) (b:=t.2) (B:=1000) ⟨by omega,by omega⟩
  refine⟨?_,by omega⟩
  have h4:0<t.1*t.1:=by rcases Int.lt_or_gt_of_ne a3 with h|h;exact Int.mul_pos_of_neg_of_neg h h;exact Int.mul_pos h h
  have:=Int.mul_pos h4 (show 0<t.2 by omega)
  omega
 match yt,h1,h2,hbd,hn,hr,hp with
 | [t],_,_,hbd,_,_,_=>
  have:=hbd t (by simp)
  have e:zR [t]=t.1*t.1*t.2:=by simp[zR,qj]
  rw[e];omega
 | [t,u],_,_,hbd,hn,hr,hp=>
  have g1:=hbd t (by simp)
  have g2:=hbd u (by simp)
  have e:zR [t,u]=t.1*t.1*t.2-u.1*u.1*u.2:=by simp[zR,qj,Int.neg_mul];omega
  rw[e]
  have hne:t.2≠u.2:=by intro he;simp[he] at hn
  have h3:=jcb8 (hp t (by simp)).1.2.2.1 (hp u (by simp)).1.2.2.1 (hp t (by simp)).1.2.2.2 (hp u (by simp)).1.2.2.2 (hr t (by simp)) (hr u (by simp)) hne
  omega
 | _::_::_::_,_,h2,_,_,_,_=>exact absurd (by simp) h2
open Go.ChangeShapes Go.WideShapes Go.ChangeAt Go.RowKit
def errL (n : String) (l : List UInt8) : String × DataW Unit := (n, .iface "*errors.errorString" (.ptr (.agg [.lit (.string l)])))
def jbr5:List UInt8:=[118,97,108,117,101,32,111,117,116,32,111,102,32,114,97,110,103,101]
def jbd6:List UInt8:=[105,110,118,97,108,105,100,32,115,121,110,116,97,120]
theorem Tryz.star : "*" ++ "errors.errorString" = "*errors.errorString" := by decide
theorem Tryz.rowErr (u : TypeId) (h : Tryz.prog.typeName? 3 u = some "*errors.errorString") : u = 239 :=
 typeName_ptr_named (nm := "errors.errorString") (by rw [Tryz.star]; kernel_rfl) (by kernel_rfl) (by decide) u (by rw [Tryz.star]; exact h)
theorem Tryz.gRange : Tryz.prog.globalNamed "strconv.ErrRange" = some 1 := by kernel_rfl
theorem Tryz.gRangeT:(Tryz.prog.globals[1]?).map (·.type)=some 161:=by kernel_rfl
theorem Tryz.gSyntax : Tryz.prog.globalNamed "strconv.ErrSyntax" = some 0 := by kernel_rfl
theorem Tryz.gSyntaxT:(Tryz.prog.globals[0]?).map (·.type)=some 161:=by kernel_rfl
theorem Tryz.gPow : Tryz.prog.globalNamed "internal/strconv.uint64pow10" = some 2 := by kernel_rfl
theorem Tryz.gPowT:(Tryz.prog.globals[2]?).map (·.type)=some 243:=by kernel_rfl
theorem Tryz.errField:∃f:Field,Tryz.prog.underlying 241=some (.struct #[f])/\f.type=9/\f.offset=0:=⟨_,Tryz.underlying241,rfl,rfl⟩
theorem Tryz.cellsErr:Tryz.prog.cellsOf 241=1:=by kernel_rfl
theorem Tryz.cellsStr:Tryz.prog.cellsOf 9=1:=by kernel_rfl
theorem Tryz.cellsPow:Tryz.prog.cellsOf 243=20:=by kernel_rfl
theorem Tryz.cellsU64:Tryz.prog.cellsOf 181=1:=by kernel_rfl
theorem jcr6 {W : World} {r : List (String × DataW Unit)} (h : laidMet Tryz.prog (("internal/strconv.uint64pow10", Lib.tabData .u64 Lib.pow10Tab) :: errL "strconv.ErrRange" jbr5 :: errL "strconv.ErrSyntax" jbd6 :: r) W) :
  Jm W ∧ Lib.TabIs Tryz.prog W "internal/strconv.uint64pow10" .u64 Lib.pow10Tab := by
 obtain⟨f,hf,hft,hfo⟩:=Tryz.errField
 obtain⟨a1,s1,hv1,-,-,-⟩:=laid_sentinel h.tail Tryz.gRange Tryz.gRangeT Tryz.underlying161 Tryz.rowErr Tryz.underlying239 hf hft hfo Tryz.underlying9 Tryz.cellsErr Tryz.cellsStr
 obtain⟨a2,s2,hv2,-,-,-⟩:=laid_sentinel h.tail.tail Tryz.gSyntax Tryz.gSyntaxT Tryz.underlying161 Tryz.rowErr Tryz.underlying239 hf hft hfo Tryz.underlying9 Tryz.cellsErr Tryz.cellsStr
 exact⟨⟨_,_,_,_,hv2,hv1⟩,Lib.tabIs_of_head Tryz.gPow Tryz.gPowT Tryz.underlying243 Tryz.underlying181 Tryz.cellsU64 Tryz.cellsPow h⟩
open Go.ChangeShapes Go.WideShapes Go.ChangeAt Go.RowKit Go.Joins Go.Deep
theorem jcj0{α:Type}[Inhabited α]{n:Nat}{p:Nat->α->Prop}(h:∀i,i<n->∃x,p i x):∃l:List α,l.length=n/\∀i (hi:i<l.length),p i l[i]:=by
 obtain⟨f,hf⟩:=choose_lt h
 refine⟨(List.range n).map f,by simp,λi hi=>?_⟩
 have:i<n:=by simpa using hi
 simpa using hf i this
open Go.Proofs.YtphcodcdfeohhaaGreatDoor
theorem both{a b:Bool}(ha:a=true)(hb:b=true):(a&&b)=true:=by rw[ha,hb];rfl
theorem jcn0:laidOutB Tryz.pinned.checked.prog=true:=by kernel_rfl
theorem jch7:mapsRowed Tryz.pinned.checked.prog=true:=by kernel_rfl
theorem jcp5:((OpenClaim.plainKeys Rows.cordNearestRow)==Tryz.pinned.checked.prog.plainKeys)=true:=by kernel_rfl
theorem jch6:Tryz.pinned.checked.prog.stopsHeard=true:=by kernel_rfl
theorem jcr9:Tryz.pinned.checked.prog.mayEnter=true:=by kernel_rfl
theorem jcp6:(Rows.cordNearestRow.lifted==Tryz.pinned.checked.prog.liftsFinal)=true:=by kernel_rfl
theorem jcp8:(Tryz.pinned.checked.prog.make==some Rows.cordNearestRow.make)=true:=by kernel_rfl
theorem jcp7:Tryz.pinned.checked.prog.mainIs=some (Rows.cordNearestCard.stood.harness.1,Rows.cordNearestCard.stood.harness.2.toList):=by kernel_rfl
section
variable {H : Type} {enc : TypeId × Value → H} {W : World} {spare : Nat → Bool} {held : Bool} {fuel : Nat}
theorem jar3 {cs:List Value} {x:DataW H×List MemPlace} (h:DataW.trod enc Tryz.prog W 0 spare held fuel 22 cs=some x) :
  ∃(A:Option Addr) (n c:Nat) (l:List (Int×Int)),cs=[.slice A n c]/\jJ W W.heap.size A n c l/\∀t∈l,(Lit.int .i64 t.1).wf=true/\(Lit.int .i64 t.2).wf=true:=by
 rcases open_slice_pairs Tryz.underlying22 Tryz.underlying59 (by kernel_rfl) rfl rfl (by kernel_rfl) (by kernel_rfl) h with⟨rfl,-⟩|⟨a,len,cap,m,n,V0,V1,D0,D1,P0,P1,rfl,-,hl,hm,hmm,-,hx⟩
 ·exact⟨none,0,0,[],rfl,Rq.empty _ _ _ _,λ_ h=>by cases h⟩
 ·have hlm:len<=m:=by rw[hmm];split<;>omega
  obtain⟨l,hlen,hq⟩:=jcj0 (α:=Int×Int) (n:=len) (p:=λi p=>W.cell? (a.add (i*2))=some (.int .i64 p.1)/\W.cell? (a.add (i*2+1))=some (.int .i64 p.2)/\(Lit.int .i64 p.1).wf=true/\(Lit.int .i64 p.2).wf=true) (λi hi=>by
   obtain⟨h0,h1,t0,t1⟩:=hx i (by omega)
   obtain⟨b,e0,-,w0⟩:=DataW.trod_int Tryz.underlying3 t0
   obtain⟨d,e1,-,w1⟩:=DataW.trod_int Tryz.underlying3 t1
   injection e0 with e0
   injection e1 with e1
   exact⟨(b,d),by rw[h0,e0],by rw[h1,e1],w0,w1⟩)
  refine⟨some a,len,cap,l,rfl,⟨by rw[jr,Jj,List.length_map,hlen],hl,hm,?_⟩,λp hp=>?_⟩
  ·rcases Nat.eq_zero_or_pos len with h0|h0
   ·exact .inl h0
   ·have hb:=World.block_lt_of_cell? _ _ (hq 0 (by omega)).1
    rw[jH] at hb
    refine .inr ⟨a,rfl,hb,λj u hu=>?_⟩
    rw[jr] at hu
    have hj:j<len*2:=by
     rcases Nat.lt_or_ge j (len*2)with h1|h1
     ·exact h1
     ·rw[List.getElem?_eq_none (by rw[Jj,List.length_map];omega)] at hu;cases hu
    have hi:j/2<(l.map jr7).length:=by simp;omega
    obtain⟨g0,g1⟩:=jm8 (l.map jr7) (j/2) hi
    obtain⟨c0,c1,-⟩:=hq (j/2) (by omega)
    rw[List.getElem_map] at g0 g1
    rcases Nat.mod_two_eq_zero_or_one j with h2|h2
    ·rw[show j/2*2=j by omega] at g0 c0
     rw[g0] at hu
     injection hu with hu
     rw[c0,<-hu]
     rfl
    ·rw[show j/2*2+1=j by omega] at g1 c1
     rw[g1] at hu
     injection hu with hu
     rw[c1,<-hu]
     rfl
  ·obtain⟨i,hi,rfl⟩:=List.mem_iff_getElem.1 hp
   exact(hq i (by omega)).2.2
theorem jcc2 {r:Reach} {b0:Nat} {v:Value} {d:DataW H} {p:List MemPlace} (hv:Value.okWide Tryz.prog W r b0 24 v) (h:DataW.Trod enc Tryz.prog W 0 spare held 24 v d p) :
  ∃(den:Int) (A:Option Addr) (n c:Nat) (l:List (Int×Int)),v=.agg #[.int .i64 den,.slice A n c]/\jJ W W.heap.size A n c l/\(Lit.int .i64 den).wf=true/\∀t∈l,(Lit.int .i64 t.1).wf=true/\(Lit.int .i64 t.2).wf=true:=by
 obtain⟨v0,v1,y0,y1,m,rfl,-,-,h0,h1⟩:=open_agg2 Tryz.underlying24 (by kernel_rfl) (by kernel_rfl) hv h
 obtain⟨den,e0,-,w0⟩:=DataW.trod_int Tryz.underlying3 h0
 obtain⟨A,n,c,l,e1,hP,hw⟩:=jar3 h1
 injection e0 with e0
 injection e1 with e1
 exact⟨den,A,n,c,l,by rw[e0,e1],hP,w0,hw⟩
end
