import Derived.Test.YtphcodcdfeohhaaGreatDoorProdAToProdM
import Derived.Test.YtphcodcdfeohhaaGreatDoorSurdGToSurdM
import Derived.Deep.AppendLies
import Derived.Deep.Upon
set_option linter.unusedVariables false
set_option linter.unusedSimpArgs false
namespace Go.Proofs.YtphcodcdfeohhaaGreatDoor
open Go.RowKit
def zd6(k:Nat):Int:=if k % 2=0 then 1 else -1
theorem jds0(k:Nat):zd6 (k+1)=-zd6 k:=by unfold zd6;split<;>split<;>omega
theorem jdg6(k:Nat):-1<=zd6 k/\zd6 k<=1:=by unfold zd6;split<;>omega
def jr8(yd:Int)(l:List (Int×Int)):List (Int×Int):=l.mapIdx fun i t=>(t.1*(zd6 i*yd),t.2)
def jm3(l:List (Int×Int)):Int:=(l.mapIdx fun i t=>zd6 i*t.1*t.1*t.2).sum
theorem jdb6(yd:Int)(l:List (Int×Int))(t:Int×Int):jr8 yd (l++[t])=jr8 yd l++[(t.1*(zd6 l.length*yd),t.2)]:=by
 unfold jr8;rw[List.mapIdx_append];simp
theorem jcz2(l:List (Int×Int))(t:Int×Int):jm3 (l++[t])=jm3 l+zd6 l.length*t.1*t.1*t.2:=by
 unfold jm3;rw[List.mapIdx_append,List.sum_append];simp
theorem zd7(yd:Int)(l:List (Int×Int)):(jr8 yd l).length=l.length:=by simp[jr8]
def zk5(yd:Int)(yt:List (Int×Int))(k:Nat):List (Int×Int):=jr8 yd (yt.take k)++yt.drop k
theorem jdt0(yd:Int)(yt:List (Int×Int))(k:Nat)(h:k<=yt.length):(zk5 yd yt k).length=yt.length:=by
 unfold zk5;rw[List.length_append,zd7];simp;omega
theorem jfg2(yd:Int)(yt:List (Int×Int))(k:Nat)(h:k<yt.length):(zk5 yd yt k)[k]?=some yt[k]:=by
 unfold zk5
 rw[List.getElem?_append_right (by rw[zd7];simp;omega),zd7]
 simp[Nat.min_eq_left (Nat.le_of_lt h)]
theorem jdt1(yd:Int)(yt:List (Int×Int))(k:Nat)(h:k<yt.length):(zk5 yd yt k).set k (yt[k].1*(zd6 k*yd),yt[k].2)=zk5 yd yt (k+1):=by
 unfold zk5
 rw[jb8 yt k h,jdb6,List.drop_eq_getElem_cons h,List.set_append_right _ _ (by rw[zd7];simp;omega),zd7]
 simp only[List.length_take,Nat.min_eq_left (Nat.le_of_lt h),Nat.sub_self,List.set_cons_zero,List.append_assoc,List.cons_append,List.nil_append]
theorem jay2:∀(l:List (Value×Value)) (i:Nat) (u:Value) (h:i<l.length),(jc7 l).set (i*2) u=jc7 (l.set i (u,l[i].2))
 | x::l,0,u,_=>rfl
 | x::l,i+1,u,h=>by
  have h1:=jay2 l i u (by simpa using h)
  have e:jc7 (x::l)=x.1::x.2::jc7 l:=rfl
  rw[e,show(i+1)*2=i*2+2 by omega]
  show x.1::x.2::((jc7 l).set (i*2) u)=_
  rw[h1]
  rfl
theorem zz5(ts:List (Int×Int))(i:Nat)(c:Int)(h:i<ts.length):(jb4 ts).set (i*2) (.int .i64 c)=jb4 (ts.set i (c,ts[i].2)):=by
 have h1:=jay2 (ts.map encT) i (.int .i64 c) (by simpa using h)
 unfold jb4
 rw[h1,List.map_set]
 simp[encT]
def quoS(xd:Int)(xt:List (Int×Int))(yd:Int)(yt:List (Int×Int)):Int×List (Int×Int)×Int:=
 if(jb3 xd xt&&jb3 yd yt)=true then
  if yt.length=0 then(0,[],7)else if 2<yt.length then(0,[],11)else jf3 (jj3 [] xt (jr8 yd yt)) (xd*jm3 yt)
 else(0,[],2)
theorem jfb5{c d r q:Int}(hc:c≠0)(hd:d≠0)(hcb:-100000<=c/\c<=100000)(hdb:-100000<=d/\d<=100000)(hr:jg0 r)(hq:jg0 q)(hrq:r≠q):c*c*r≠d*d*q:=by
 intro he
 obtain⟨K,hK⟩:∃K,93+75*2 ^ 36<=16*K:=⟨500000000000,by decide⟩
 have hv:=jay5 K hK (ts:=[((c.natAbs:Int),r),(-(d.natAbs:Int),q)]) (by simp) (by
  intro t ht
  simp only[List.mem_cons,List.not_mem_nil,or_false] at ht
  rcases ht with rfl|rfl
  ·show(c.natAbs:Int)≠0/\-_<=(c.natAbs:Int)/\(c.natAbs:Int)<=_;omega
  ·show -(d.natAbs:Int)≠0/\-_<=-(d.natAbs:Int)/\-(d.natAbs:Int)<=_;omega) (by
  intro t ht
  simp only[List.mem_cons,List.not_mem_nil,or_false] at ht
  rcases ht with rfl|rfl
  ·exact hr
  ·exact hq) (by simp[hrq]) (by simp)
 refine hv ?_
 have h1:¬((c.natAbs:Int)<0):=by omega
 have h2:-(d.natAbs:Int)<0:=by omega
 have hsq:sqT ((c.natAbs:Int),r)=sqT (-(d.natAbs:Int),q):=by
  unfold sqT
  simp only[Int.natAbs_natCast,Int.natAbs_neg]
  have e1:((c.natAbs*c.natAbs*r.toNat:Nat):Int)=c*c*r:=by
   rw[Int.natCast_mul,Int.natAbs_mul_self,Int.toNat_of_nonneg (by have:=hr.1;omega)]
  have e2:((d.natAbs*d.natAbs*q.toNat:Nat):Int)=d*d*q:=by
   rw[Int.natCast_mul,Int.natAbs_mul_self,Int.toNat_of_nonneg (by have:=hq.1;omega)]
  omega
 have e3:jj0 [((c.natAbs:Int),r),(-(d.natAbs:Int),q)] K=jj1 [((c.natAbs:Int),r),(-(d.natAbs:Int),q)] K:=by
  unfold jj0 jj1
  simp only[List.map_cons,List.map_nil,List.sum_cons,List.sum_nil,if_neg h1,if_pos h2,jg9,jz8,hsq]
  omega
 have e4:jn5 [((c.natAbs:Int),r),(-(d.natAbs:Int),q)] K=jn6 [((c.natAbs:Int),r),(-(d.natAbs:Int),q)] K:=by
  unfold jn5 jn6
  simp only[List.map_cons,List.map_nil,List.sum_cons,List.sum_nil,if_neg h1,if_pos h2,jp9,jz8,hsq]
  omega
 have h5:=jas1 [((c.natAbs:Int),r),(-(d.natAbs:Int),q)] K
 unfold jc5
 rw[if_neg (by omega),if_neg (by omega)]
theorem jfj0{yd:Int}{yt:List (Int×Int)}(hok:jb3 yd yt=true)(h1:yt.length≠0)(h2:¬2<yt.length):jm3 yt≠0/\-40000000000000<=jm3 yt/\jm3 yt<=40000000000000:=by
 obtain⟨_,_,_,hp⟩:=jb2 hok
 obtain⟨hr,hn⟩:=jc9 hok
 have hbd:∀t∈yt,1<=t.1*t.1*t.2/\t.1*t.1*t.2<=10000000000000:=fun t ht=>by
  obtain⟨a1,a2,a3,a4⟩:=(hp t ht).1
  have h3:=jc2 (jc2 a4 a4) (b:=t.2) (B:=1000) ⟨by omega,by omega⟩
  refine⟨?_,by omega⟩
  have h4:0<t.1*t.1:=by rcases Int.lt_or_gt_of_ne a3 with h|h;exact Int.mul_pos_of_neg_of_neg h h;exact Int.mul_pos h h
  have:=Int.mul_pos h4 (show 0<t.2 by omega)
  omega
 match yt,h1,h2,hbd,hn,hr,hp with
 | [t],_,_,hbd,_,_,_=>
  have:=hbd t (by simp)
  have e:jm3 [t]=t.1*t.1*t.2:=by simp[jm3,zd6]
  rw[e];omega
 | [t,u],_,_,hbd,hn,hr,hp=>
  have g1:=hbd t (by simp)
  have g2:=hbd u (by simp)
  have e:jm3 [t,u]=t.1*t.1*t.2-u.1*u.1*u.2:=by simp[jm3,zd6,Int.neg_mul];omega
  rw[e]
  have hne:t.2≠u.2:=by intro he;simp[he] at hn
  have h3:=jfb5 (hp t (by simp)).1.2.2.1 (hp u (by simp)).1.2.2.1 (hp t (by simp)).1.2.2.2 (hp u (by simp)).1.2.2.2 (hr t (by simp)) (hr u (by simp)) hne
  omega
 | _::_::_::_,_,h2,_,_,_,_=>exact absurd (by simp) h2
def Rq(w:World)(B k:Nat)(A:Option Addr)(n c:Nat)(cs:List Value):Prop:=
 cs.length=n*k/\n<=c/\c<=maxLen/\(n=0\/∃ad:Addr,A=some ad/\ad.block<B/\∀j u,cs[j]?=some u->w.cell? (ad.add j)=some u)
section
variable {w w' : World} {B B' k n c : Nat} {A : Option Addr} {cs : List Value}
theorem Rq.of(h:Rd w B k A n c cs):Rq w B k A n c cs:=by
 obtain⟨h1,h2,h3,h4⟩:=h
 refine⟨h1,h2,h3,?_⟩
 rcases h4 with⟨_,h4⟩|h4
 ·exact .inl (by omega)
 ·exact .inr h4
theorem Rq.nmax(h:Rq w B k A n c cs):n<=9223372036854775807:=by
 have h1:=h.2.1;have h2:=h.2.2.1;unfold maxLen at h2;omega
theorem Rq.keep(h:Rq w B k A n c cs)(hk:∀p:Addr,p.block<B->w'.cell? p=w.cell? p):Rq w' B k A n c cs:=by
 obtain⟨h1,h2,h3,h4⟩:=h
 refine⟨h1,h2,h3,?_⟩
 rcases h4 with h4|⟨ad,e,hb,hc⟩
 ·exact .inl h4
 ·exact .inr ⟨ad,e,hb,fun j u hu=>(hk _ (by rw[jc4];exact hb)).trans (hc j u hu)⟩
theorem Rq.more(h:Rq w B k A n c cs)(hB:B<=B'):Rq w B' k A n c cs:=by
 obtain⟨h1,h2,h3,h4⟩:=h
 refine⟨h1,h2,h3,?_⟩
 rcases h4 with h4|⟨ad,e,hb,hc⟩
 ·exact .inl h4
 ·exact .inr ⟨ad,e,by omega,hc⟩
theorem Rq.below(h:Rq w B k A n c cs)(hb:Below B w w'):Rq w' B k A n c cs:=h.keep fun _ hp=>hb.cell hp
theorem Rq.drewN(h:Rq w B k A n c cs)(q:Nat):Rq (w.drewN q) B k A n c cs:=h
theorem Rq.alloc(h:Rq w B k A n c cs)(hB:B<=w.heap.size)(o:Obj):Rq (w.alloc o) B k A n c cs:=
 h.keep fun p hp=>World.cell?_alloc_lt w o p (by omega)
theorem Rq.setCell(h:Rq w B k A n c cs){p:Addr}(hB:B<=p.block)(u:Value):Rq (w.setCell p u) B k A n c cs:=
 h.keep fun q hq=>World.cell?_setCell_other w p q u (fun e=>by subst e;omega)
theorem Rq.grown(h:Rq w B k A n c cs){row:Option Nat}(hg:w.grownBy w' row)(hB:B<=w.heap.size)(hr:∀g,row=some g->B<=g):Rq w' B k A n c cs:=
 h.keep fun p hp=>World.cell?_of_block (hg.block p.block (by omega) (fun e=>by have:=hr _ e.symm;omega))
theorem Rq.addr(h:Rq w B k A n c cs)(hn:0<n):∃ad:Addr,A=some ad/\ad.block<B/\∀j u,cs[j]?=some u->w.cell? (ad.add j)=some u:=by
 rcases h.2.2.2 with h0|h
 ·omega
 ·exact h
theorem Rq.empty(w:World)(B k:Nat)(A:Option Addr):Rq w B k A 0 0 []:=⟨by simp,Nat.le_refl _,Nat.zero_le _,.inl rfl⟩
end
def jf1(w:World)(B:Nat)(A:Option Addr)(n c:Nat)(l:List Int):Prop:=Rq w B 1 A n c (l.map (Value.int .i64))
theorem jf1.len{w:World}{B:Nat}{A:Option Addr}{n c:Nat}{l:List Int}(h:jf1 w B A n c l):l.length=n:=by
 have:=h.1;simpa using this
theorem jf1.at_ {w:World} {B:Nat} {A:Option Addr} {n c:Nat} {l:List Int} (h:jf1 w B A n c l) {i:Nat} (hi:i<l.length) :
  ∃ad:Addr,A=some ad/\ad.block<B/\w.cell? (ad.add i)=some (.int .i64 l[i]):=by
 obtain⟨ad,e,hb,hc⟩:=Rq.addr h (by have:=h.len;omega)
 exact⟨ad,e,hb,hc i _ (by simp[hi])⟩
theorem jda5 {w:World} {B n c:Nat} {A:Option Addr} {l:List (Value×Value)} (h:Rq w B 2 A n c (jc7 l)) {i:Nat} (hi:i<l.length) :
  ∃ad:Addr,A=some ad/\ad.block<B/\w.cell? (ad.add (i*2))=some l[i].1/\w.cell? ⟨(ad.add (i*2)).block,(ad.add (i*2)).off+1,none⟩=some l[i].2:=by
 have hn:l.length=n:=by have h1:=h.1;rw[jn7] at h1;omega
 obtain⟨ad,e,hb,hc⟩:=Rq.addr h (by omega)
 obtain⟨h1,h2⟩:=jah2 l i hi
 refine⟨ad,e,hb,hc _ _ h1,?_⟩
 have h3:=hc _ _ h2
 rw[<-jbc8] at h3
 exact h3
def jd1(w:World)(B:Nat)(A:Option Addr)(n c:Nat)(ts:List (Int×Int)):Prop:=Rq w B 2 A n c (jb4 ts)
theorem jd1.len{w:World}{B n c:Nat}{A:Option Addr}{ts:List (Int×Int)}(h:jd1 w B A n c ts):ts.length=n:=by
 have h1:=h.1
 unfold jb4 at h1
 rw[jn7,List.length_map] at h1
 omega
theorem jd1.at_ {w:World} {B n c:Nat} {A:Option Addr} {ts:List (Int×Int)} (h:jd1 w B A n c ts) {i:Nat} (hi:i<ts.length) :
  ∃ad:Addr,A=some ad/\ad.block<B/\w.cell? (ad.add (i*2))=some (.int .i64 ts[i].1)/\w.cell? ⟨(ad.add (i*2)).block,(ad.add (i*2)).off+1,none⟩=some (.int .i64 ts[i].2):=by
 obtain⟨ad,e,hb,h1,h2⟩:=jda5 h (i:=i) (by simpa using hi)
 simp only[List.getElem_map] at h1 h2
 exact⟨ad,e,hb,h1,h2⟩
open Go Go.RowKit
theorem jcc7 {P:Program} (w:World) (t ty:TypeId) (base:Nat) (e:TypeId) (i:TypeInfo) (z:Value) (size bytes:Nat) (ht:P.underlying t=some (.slice e)) (hi:P.info? e=some i) (hz:i.zero=some z)
  (hsize:i.size=size) (hby:i.bytes=bytes) (hzs:z.cells.size=size) (hsz:0<size)
  (v:Value) (n:Nat) (xs:List Value) (hown:w.ownsRow base e size v n xs)
  (A:Option Addr) (m c B:Nat) (news:List Value) (hq:Rq w B size A m c news) (h1:∀u∈news,u.oneCell'=true)
  (h63:n+m<=maxLen) (hbytes:(n+m)*bytes<=140737488355328) (hbase:base<=w.heap.size) :
  ∃A' c' w',(Builtin.append_ #[t,t] ty #[v,.slice A m c]).run P w=.ok (.slice A' (n+m) c') w'/\w'.ownsRow base e size (.slice A' (n+m) c') (n+m) (xs++news)/\w.grownBy w' v.ownBlock:=by
 obtain⟨hl,hmc,hcm,hA⟩:=hq
 cases A with
 | none=>
  have hm0:m=0:=by
   rcases hA with h|⟨ad,h,_⟩
   ·exact h
   ·cases h
  subst hm0
  have hn0:news=[]:=List.length_eq_zero_iff.1 (by omega)
  subst hn0
  obtain⟨A3,c3,rfl⟩:=jc3 hown
  have hcap:=Rd.cap (Rd.of_own hown)
  refine⟨A3,c3,w,?_,by simpa using hown,World.grownBy.refl _ _⟩
  have:=run_append_nothing (P:=P) w t t ty e i ht hi A3 n c3 hcap (.slice none 0 c) (Src.ofNil w ht c)
  simpa using this
 | some ad=>
  have hnews:∀j u,news[j]?=some u->w.cell? (ad.add j)=some u:=by
   rcases hA with h|⟨ad',h,_,hc⟩
   ·subst h
    have hn0:news=[]:=List.length_eq_zero_iff.1 (by omega)
    subst hn0
    intro j u hj;simp at hj
   ·injection h with h
    subst h
    exact hc
  obtain⟨v',w',hr,ho,hg,_,_⟩:=run_append_own_at (P:=P) w base t ty e i z size bytes ht hi hz hsize hby hzs hsz v n xs hown ad m c news hl hnews h1 h63 hbytes hbase
  obtain⟨A3,c3,rfl⟩:=jc3 ho
  exact⟨A3,c3,w',hr,ho,hg⟩
theorem jba8 {P:Program} {w:World} {o:Oper} {a:Act} {K:Act->World->Prop} {Q:Exit->Act->World->Prop} (s x:Operand) (t:TypeId)
  (ho:o.op=.call { callee:=.builtin .append,args:=#[s,x],argTypes:=#[t,t] })
  (base:Nat) (e:TypeId) (i:TypeInfo) (z:Value) (size bytes:Nat) (ht:P.underlying t=some (.slice e)) (hi:P.info? e=some i) (hz:i.zero=some z)
  (hsize:i.size=size) (hby:i.bytes=bytes) (hzs:z.cells.size=size) (hsz:0<size)
  (v:Value) (n:Nat) (xs:List Value) (hs:a.eval s=v) (hown:w.ownsRow base e size v n xs)
  (A:Option Addr) (m c B:Nat) (news:List Value) (hx:a.eval x=.slice A m c) (hq:Rq w B size A m c news) (h1:∀u∈news,u.oneCell'=true)
  (h63:n+m<=maxLen) (hbytes:(n+m)*bytes<=140737488355328) (hbase:base<=w.heap.size)
  (h:∀A' c' w',w'.ownsRow base e size (.slice A' (n+m) c') (n+m) (xs++news)->w.grownBy w' v.ownBlock->K (a.put o.dst (.slice A' (n+m) c')) w'):o.wp P a w K Q:=by
 obtain⟨A',c',w',hr,h2,h3⟩:=jcc7 (P:=P) w t o.type base e i z size bytes ht hi hz hsize hby hzs hsz v n xs hown A m c B news hq h1 h63 hbytes hbase
 unfold Oper.wp execOp
 simp only[ho,resolve,invoke,builtin,Sem.run_bind,Sem.run_pure,Result.andThen_ok,List.map_toArray,List.map_cons,List.map_nil,hs,hx,hr]
 exact h A' c' w' h2 h3
theorem jz4 {P:Program} {w:World} {ops:Array Oper} {rest:List Oper} {o:Oper} {a:Act} {Q:Exit->Act->World->Prop} (hgd:o.guard=none) (s x:Operand) (t:TypeId)
  (ho:o.op=.call { callee:=.builtin .append,args:=#[s,x],argTypes:=#[t,t] })
  (base:Nat) (e:TypeId) (i:TypeInfo) (z:Value) (size bytes:Nat) (ht:P.underlying t=some (.slice e)) (hi:P.info? e=some i) (hz:i.zero=some z)
  (hsize:i.size=size) (hby:i.bytes=bytes) (hzs:z.cells.size=size) (hsz:0<size)
  (v:Value) (n:Nat) (xs:List Value) (hs:a.eval s=v) (hown:w.ownsRow base e size v n xs)
  (A:Option Addr) (m c B:Nat) (news:List Value) (hx:a.eval x=.slice A m c) (hq:Rq w B size A m c news) (h1:∀u∈news,u.oneCell'=true)
  (h63:n+m<=maxLen) (hbytes:(n+m)*bytes<=140737488355328) (hbase:base<=w.heap.size)
  (h:∀A' c' w',w'.ownsRow base e size (.slice A' (n+m) c') (n+m) (xs++news)->w.grownBy w' v.ownBlock->wpList P ops Q rest (a.put o.dst (.slice A' (n+m) c')) w'):wpList P ops Q (o::rest) a w:=
 wpList_plain hgd fun _ hK=>jba8 s x t ho base e i z size bytes ht hi hz hsize hby hzs hsz v n xs hs hown A m c B news hx hq h1 h63 hbytes hbase fun A' c' w' h2 h3=>hK _ _ (h A' c' w' h2 h3)
theorem jbp6 {P:Program} {w:World} {ops:Array Oper} {o:Oper} {a:Act} {K:Act->World->Prop} {Q:Exit->Act->World->Prop} {E:Prop} (hgd:o.guard=none) (s x:Operand) (t:TypeId)
  (ho:o.op=.call { callee:=.builtin .append,args:=#[s,x],argTypes:=#[t,t] })
  (base:Nat) (e:TypeId) (i:TypeInfo) (z:Value) (size bytes:Nat) (ht:P.underlying t=some (.slice e)) (hi:P.info? e=some i) (hz:i.zero=some z)
  (hsize:i.size=size) (hby:i.bytes=bytes) (hzs:z.cells.size=size) (hsz:0<size)
  (v:Value) (n:Nat) (xs:List Value) (hs:a.eval s=v) (hown:w.ownsRow base e size v n xs)
  (A:Option Addr) (m c B:Nat) (news:List Value) (hx:a.eval x=.slice A m c) (hq:Rq w B size A m c news) (h1:∀u∈news,u.oneCell'=true)
  (h63:n+m<=maxLen) (hbytes:(n+m)*bytes<=140737488355328) (hbase:base<=w.heap.size)
  (h:∀A' c' w',w'.ownsRow base e size (.slice A' (n+m) c') (n+m) (xs++news)->w.grownBy w' v.ownBlock->K (a.put o.dst (.slice A' (n+m) c')) w') :
  if Region.wanted o (yielded ops a.tmps)=true then Oper.wp P o a w K Q else E:=by
 have hw:Region.wanted o (yielded ops a.tmps)=true:=by simp[Region.wanted,hgd]
 rw[if_pos hw]
 exact jba8 s x t ho base e i z size bytes ht hi hz hsize hby hzs hsz v n xs hs hown A m c B news hx hq h1 h63 hbytes hbase h
end Go.Proofs.YtphcodcdfeohhaaGreatDoor
