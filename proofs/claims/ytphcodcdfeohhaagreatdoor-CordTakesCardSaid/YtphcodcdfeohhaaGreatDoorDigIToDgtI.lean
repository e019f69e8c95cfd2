import Derived.Test.YtphcodcdfeohhaaGreatDoorDgtH
set_option linter.all false
namespace Go.Proofs.YtphcodcdfeohhaaGreatDoor
theorem SqAt.isq{V R T:Int}(h:SqAt V R T):R=(isq V.toNat:Int)/\(if T=0 then R else R+1)=(ja4 V.toNat:Int):=by
 have hl:=h.lt
 have hr:=h.r0
 have hV:0<=V:=by have:=Int.mul_nonneg hr hr;omega
 obtain⟨r,rfl⟩:=Int.eq_ofNat_of_zero_le hr
 obtain⟨v,rfl⟩:=Int.eq_ofNat_of_zero_le hV
 have h1:r*r<=v:=by exact_mod_cast hl.1
 have h2:v<(r+1)*(r+1):=by exact_mod_cast hl.2
 have e:r=Go.Proofs.YtphcodcdfeohhaaGreatDoor.isq v:=Nat.le_antisymm (jy8 h1) (ja9 (qB v) h2)
 have hT:=h.eq
 rw[Int.toNat_natCast]
 refine⟨by rw[<-e],?_⟩
 unfold ja4 jf2
 rw[<-e]
 have e2:(r:Int)*r=((r*r:Nat):Int):=by rw[Int.natCast_mul]
 rw[e2] at hT
 have h0:=h.t0
 by_cases h3:T=0
 ·rw[if_pos h3,if_pos (by omega)]
 ·rw[if_neg h3,if_neg (by omega)];omega
def qJ(t:Int×Int)(D:Nat):Nat:=isq (sqT t*(D*D))
def ZW(t:Int×Int)(D:Nat):Nat:=ja4 (sqT t*(D*D))
def Zx(ts:List (Int×Int))(D:Nat):Nat:=(ts.map λt=>if t.1<0 then 0 else qJ t D).sum
def Zd(ts:List (Int×Int))(D:Nat):Nat:=(ts.map λt=>if t.1<0 then 0 else ZW t D).sum
def Zf(ts:List (Int×Int))(D:Nat):Nat:=(ts.map λt=>if t.1<0 then qJ t D else 0).sum
def Zg(ts:List (Int×Int))(D:Nat):Nat:=(ts.map λt=>if t.1<0 then ZW t D else 0).sum
def Je(ts:List (Int×Int))(D:Nat):Int:=if Zg ts D<Zx ts D then 1 else if Zd ts D<Zf ts D then -1 else 0
theorem jcn2{a b:Nat}(h:a*a<=b*b):a<=b:=by
 rcases Nat.lt_or_ge b a with h1|h1
 ·have:=Nat.mul_self_lt_mul_self h1;omega
 ·exact h1
theorem jcr3{a b:Nat}(h:a*a<b*b):a<b:=by
 rcases Nat.lt_or_ge a b with h1|h1
 ·exact h1
 ·have:=Nat.mul_self_le_mul_self h1;omega
theorem jaa4(a b c d:Nat):a*b*(c*d)=a*c*(b*d):=Nat.mul_mul_mul_comm a b c d
section
variable (t : Int × Int) (k D : Nat)
theorem jaf1:qJ t D*bits k<=Jr t k*D:=by
 refine jcn2 ?_
 rw[jaa4,jaa4 (Jr t k)]
 have h1:=Nat.mul_le_mul_right (bits k*bits k) (qB (sqT t*(D*D)))
 have h2:=Nat.mul_le_mul_right (D*D) (js6 (Zv t k))
 have e:sqT t*(D*D)*(bits k*bits k)=Zv t k*(D*D):=by unfold Zv;rw[Nat.mul_assoc,Nat.mul_assoc (sqT t),Nat.mul_comm (D*D)]
 unfold qJ Jr
 omega
theorem zy5:zh t k*D<=ZW t D*bits k:=by
 refine jcn2 ?_
 rw[jaa4,jaa4 (ZW t D)]
 have h1:=Nat.mul_le_mul_right (D*D) (qB (Zv t k))
 have h2:=Nat.mul_le_mul_right (bits k*bits k) (js6 (sqT t*(D*D)))
 have e:sqT t*(D*D)*(bits k*bits k)=Zv t k*(D*D):=by unfold Zv;rw[Nat.mul_assoc,Nat.mul_assoc (sqT t),Nat.mul_comm (D*D)]
 unfold zh ZW
 omega
theorem zy4:zh t k*D<=qJ t D*bits k+bits k:=by
 have h0:=Zh k
 have h:zh t k*D<(qJ t D+1)*bits k:=by
  refine jcr3 ?_
  rw[jaa4,jaa4 (qJ t D+1)]
  have h1:=Nat.mul_le_mul_right (D*D) (qB (Zv t k))
  have h2:=Nat.mul_lt_mul_of_pos_right (qe (sqT t*(D*D))).lt (Nat.mul_pos h0 h0)
  have e:sqT t*(D*D)*(bits k*bits k)=Zv t k*(D*D):=by unfold Zv;rw[Nat.mul_assoc,Nat.mul_assoc (sqT t),Nat.mul_comm (D*D)]
  unfold zh qJ
  omega
 rw[Nat.add_mul,Nat.one_mul] at h
 omega
theorem jaa7:ZW t D*bits k<=Jr t k*D+bits k:=by
 have h1:=jaf1 t k D
 have h2:=Nat.mul_le_mul_right (bits k) (jbh1 (sqT t*(D*D)))
 rw[Nat.add_mul,Nat.one_mul] at h2
 unfold ZW
 unfold qJ at h1
 omega
end
theorem jb1 {α:Type} (f g:α->Nat) (c d e:Nat):∀l:List α,(∀x∈l,f x*c<=g x*d+e)->(l.map f).sum*c<=(l.map g).sum*d+l.length*e
 | [],_=>by simp
 | x::l,h=>by
  have h1:=h x (by simp)
  have h2:=jb1 f g c d e l (λy hy=>h y (by simp[hy]))
  rw[List.map_cons,List.map_cons,List.sum_cons,List.sum_cons,List.length_cons,Nat.add_mul,Nat.add_mul,Nat.add_mul,Nat.one_mul]
  omega
section
variable (ts : List (Int × Int)) (k D : Nat)
theorem jbk2:Zx ts D*bits k<=Jg ts k*D:=by
 have:=jb1 (λt:Int×Int=>if t.1<0 then 0 else qJ t D) (λt=>if t.1<0 then 0 else Jr t k) (bits k) D 0 ts (λt _=>by split;omega;have:=jaf1 t k D;omega)
 unfold Zx Jg;omega
theorem jbk4:Zf ts D*bits k<=Jh ts k*D:=by
 have:=jb1 (λt:Int×Int=>if t.1<0 then qJ t D else 0) (λt=>if t.1<0 then Jr t k else 0) (bits k) D 0 ts (λt _=>by split;have:=jaf1 t k D;omega;omega)
 unfold Zf Jh;omega
theorem jah4:zv ts k*D<=Zd ts D*bits k:=by
 have:=jb1 (λt:Int×Int=>if t.1<0 then 0 else zh t k) (λt=>if t.1<0 then 0 else ZW t D) D (bits k) 0 ts (λt _=>by split;omega;have:=zy5 t k D;omega)
 unfold zv Zd;omega
theorem jaj0:zw ts k*D<=Zg ts D*bits k:=by
 have:=jb1 (λt:Int×Int=>if t.1<0 then zh t k else 0) (λt=>if t.1<0 then ZW t D else 0) D (bits k) 0 ts (λt _=>by split;have:=zy5 t k D;omega;omega)
 unfold zw Zg;omega
theorem jah3:zv ts k*D<=Zx ts D*bits k+ts.length*bits k:=
 jb1 (λt:Int×Int=>if t.1<0 then 0 else zh t k) (λt=>if t.1<0 then 0 else qJ t D) D (bits k) (bits k) ts (λt _=>by split;omega;exact zy4 t k D)
theorem jah9:zw ts k*D<=Zf ts D*bits k+ts.length*bits k:=
 jb1 (λt:Int×Int=>if t.1<0 then zh t k else 0) (λt=>if t.1<0 then qJ t D else 0) D (bits k) (bits k) ts (λt _=>by split;exact zy4 t k D;omega)
theorem jah5:Zd ts D*bits k<=Jg ts k*D+ts.length*bits k:=
 jb1 (λt:Int×Int=>if t.1<0 then 0 else ZW t D) (λt=>if t.1<0 then 0 else Jr t k) (bits k) D (bits k) ts (λt _=>by split;omega;exact jaa7 t k D)
theorem jaj1:Zg ts D*bits k<=Jh ts k*D+ts.length*bits k:=
 jb1 (λt:Int×Int=>if t.1<0 then ZW t D else 0) (λt=>if t.1<0 then Jr t k else 0) (bits k) D (bits k) ts (λt _=>by split;exact jaa7 t k D;omega)
end
theorem zy6{a b c d x y:Nat}(h1:a*x<=b*y)(h2:b+1<=c)(h3:c*y<=d*x)(hy:0<y):a<d:=by
 rcases Nat.lt_or_ge a d with h|h
 ·exact h
 ·have e1:=Nat.mul_le_mul_right x h
  have e2:=Nat.mul_le_mul_right y h2
  rw[Nat.add_mul,Nat.one_mul] at e2
  omega
theorem jav2{ts:List (Int×Int)}{k D:Nat}(hD:0<D)(h:jy ts k≠0)(h':Je ts D≠0):Je ts D=jy ts k:=by
 have h0:=Zh k
 unfold jy at h ⊢
 unfold Je at h' ⊢
 by_cases c1:Jh ts k<zv ts k
 ·rw[if_pos c1]
  by_cases d1:Zg ts D<Zx ts D
  ·rw[if_pos d1]
  ·rw[if_neg d1] at h' ⊢
   by_cases d2:Zd ts D<Zf ts D
   ·have:=zy6 (jbk4 ts k D) c1 (jah4 ts k D) hD
    omega
   ·rw[if_neg d2] at h';exact absurd rfl h'
 ·rw[if_neg c1] at h ⊢
  by_cases c2:Jg ts k<zw ts k
  ·rw[if_pos c2]
   have:=zy6 (jbk2 ts k D) c2 (jaj0 ts k D) hD
   rw[if_neg (by omega)] at h' ⊢
   by_cases d2:Zd ts D<Zf ts D
   ·rw[if_pos d2]
   ·rw[if_neg d2] at h';exact absurd rfl h'
  ·rw[if_neg c2] at h;exact absurd rfl h
theorem jag6{ts:List (Int×Int)}{k D:Nat}(h:jy ts k≠0)(hD:2*ts.length*bits k<D):Je ts D≠0:=by
 have h0:=Zh k
 have key:∀ {lo hi LO HI:Nat},hi+1<=lo->lo*D<=LO*bits k+ts.length*bits k->HI*bits k<=hi*D+ts.length*bits k->HI<LO:=by
  intro lo hi LO HI g1 g2 g3
  rcases Nat.lt_or_ge HI LO with h1|h1
  ·exact h1
  ·have e1:=Nat.mul_le_mul_right (bits k) h1
   have e2:=Nat.mul_le_mul_right D g1
   rw[Nat.add_mul,Nat.one_mul] at e2
   have e3:2*ts.length*bits k=ts.length*bits k+ts.length*bits k:=by rw[Nat.mul_assoc,Nat.two_mul]
   omega
 unfold jy at h
 unfold Je
 by_cases c1:Jh ts k<zv ts k
 ·rw[if_pos (key c1 (jah3 ts k D) (jaj1 ts k D))];decide
 ·rw[if_neg c1] at h
  by_cases c2:Jg ts k<zw ts k
  ·have:=key c2 (jah9 ts k D) (jah5 ts k D)
   split
   ·decide
   ·decide
  ·rw[if_neg c2] at h;exact absurd rfl h
theorem jbm7:isq 0=0:=by have:=jf8 0;simpa using this
theorem jba1:ja4 0=0:=by have:=jad2 0;simpa using this
theorem ZE (f:Int×Int->Nat) (hf:∀t,JA t=false->f t=0):∀ts:List (Int×Int),((ts.filter JA).map f).sum=(ts.map f).sum
 | []=>rfl
 | t::ts=>by
  cases h:JA t
  ·rw[List.filter_cons_of_neg (by rw[h];decide),List.map_cons,List.sum_cons,hf t h,Nat.zero_add,ZE f hf ts]
  ·rw[List.filter_cons_of_pos h,List.map_cons,List.map_cons,List.sum_cons,List.sum_cons,ZE f hf ts]
theorem jat1{t:Int×Int}(h:JA t=false):sqT t=0:=by
 have:t.1=0:=by simpa [JA] using h
 unfold sqT;simp[this]
theorem jc3(ts:List (Int×Int))(D:Nat):Je (ts.filter JA) D=Je ts D:=by
 have hl:∀t,JA t=false->qJ t D=0:=λt h=>by unfold qJ;rw[jat1 h,Nat.zero_mul,jbm7]
 have hu:∀t,JA t=false->ZW t D=0:=λt h=>by unfold ZW;rw[jat1 h,Nat.zero_mul,jba1]
 unfold Je Zx Zf Zd Zg
 rw[ZE _ (λt h=>by split;exact hu t h;rfl),ZE _ (λt h=>by split;rfl;exact hl t h),ZE _ (λt h=>by split;rfl;exact hu t h),ZE _ (λt h=>by split;exact hl t h;rfl)]
theorem zt6{ts:List (Int×Int)}{D:Nat}{s:Int}(hD:0<D)(hs:jA ts s)(h:Je ts D≠0):Je ts D=s:=by
 rw[<-jc3] at h ⊢
 rcases hs with⟨h1,_⟩|⟨_,h2,k,h3⟩
 ·rw[h1] at h;exact absurd rfl h
 ·rw[<-h3];exact jav2 hD (by rw[h3];exact h2) h
open Go Go.RowKit
structure DSl where
 A:Option Addr
 c:Nat
 l:List Int
def DSl.v(d:DSl):Value:=.slice d.A d.l.length d.c
structure DOk(W:World)(Y:Nat)(d:DSl)(v m:Nat):Prop where
 row:W.ownsRow Y 3 1 d.v d.l.length (d.l.map (Value.int .i64))
 dig:zD d.l
 val:jj d.l=(v:Int)
 len:d.l.length<=m
theorem jck0{w:World}{base s n:Nat}{e:TypeId}{v:Value}{xs:List Value}(h:w.ownsRow base e s v n xs){p:Addr}(hp:p.block<base)(u:Value):(w.setCell p u).ownsRow base e s v n xs:=by
 obtain⟨hl,h⟩:=h
 refine⟨hl,?_⟩
 rcases h with h|⟨g,cap,cur,rfl,hb,hw,h1,h2,h3,h4⟩
 ·exact .inl h
 ·exact .inr ⟨g,cap,cur,rfl,hb,(Below.heap_setCell w p u g (by omega)).trans hw,h1,h2,h3,h4⟩
theorem DOk.far{W:World}{Y:Nat}{d:DSl}{v m:Nat}(h:DOk W Y d v m){p:Addr}(hp:p.block<Y)(u:Value):DOk (W.setCell p u) Y d v m:=⟨jck0 h.row hp u,h.dig,h.val,h.len⟩
theorem DOk.below{W W':World}{Y:Nat}{d:DSl}{v m:Nat}(h:DOk W Y d v m)(hb:Below W.heap.size W W'):DOk W' Y d v m:=⟨jt3 h.row hb,h.dig,h.val,h.len⟩
theorem DOk.read{W:World}{Y:Nat}{d:DSl}{v m:Nat}(h:DOk W Y d v m):jP W W.heap.size d.A d.l.length d.c d.l:=zd.read h.row
theorem DOk.start(W:World)(Y m:Nat):DOk W Y ⟨none,0,[]⟩ 0 m:=⟨World.ownsRow_nil W Y _ _,zD.nil,rfl,by simp⟩
structure SignS(W:World)(X6 X7 Y:Nat)(ts:List (Int×Int))(D i j m:Nat)(a0 a1 b0 b1:DSl):Prop where
 b6:jh W X6 125 #[a0.v,a1.v]
 b7:jh W X7 125 #[b0.v,b1.v]
 h6:X6<Y
 h7:X7<Y
 hY:Y<=W.heap.size
 ne:X6≠X7
 oa0:DOk W Y a0 (Zx (ts.take i) D) (m+i)
 oa1:DOk W Y a1 (Zf (ts.take i) D) (m+i)
 ob0:DOk W Y b0 (Zd (ts.take j) D) (m+j)
 ob1:DOk W Y b1 (Zg (ts.take j) D) (m+j)
section
variable {W W' : World} {X6 X7 Y D i j m : Nat} {ts : List (Int × Int)} {a0 a1 b0 b1 d : DSl}
theorem SignS.below(h:SignS W X6 X7 Y ts D i j m a0 a1 b0 b1)(hb:Below W.heap.size W W'):SignS W' X6 X7 Y ts D i j m a0 a1 b0 b1:=
 ⟨h.b6.below hb h.b6.lt,h.b7.below hb h.b7.lt,h.h6,h.h7,Nat.le_trans h.hY hb.size,h.ne,h.oa0.below hb,h.oa1.below hb,h.ob0.below hb,h.ob1.below hb⟩
theorem qy(f:Int×Int->Nat)(ts:List (Int×Int)){i:Nat}(hi:i<ts.length):((ts.take (i+1)).map f).sum=((ts.take i).map f).sum+f ts[i]:=by
 rw[List.take_succ_eq_append_getElem hi,QS]
theorem DOk.more{v m':Nat}(h:DOk W Y d v m)(hm:m<=m'):DOk W Y d v m':=⟨h.row,h.dig,h.val,Nat.le_trans h.len hm⟩
theorem SignS.least0 (h:SignS W X6 X7 Y ts D i j m a0 a1 b0 b1) (hi:i<ts.length) (hneg:¬ts[i].1<0) (hd:DOk W Y d (Zx (ts.take i) D+qJ ts[i] D) (m+(i+1))) :
  SignS (W.setCell ⟨X6,0,none⟩ d.v) X6 X7 Y ts D (i+1) j m d a1 b0 b1:=by
 have e1:Zx (ts.take (i+1)) D=Zx (ts.take i) D+qJ ts[i] D:=by unfold Zx;rw[qy _ ts hi,if_neg hneg]
 have e2:Zf (ts.take (i+1)) D=Zf (ts.take i) D:=by unfold Zf;rw[qy _ ts hi,if_neg hneg,Nat.add_zero]
 refine⟨h.b6.set_ 0 d.v,h.b7.far (Ne.symm h.ne) _,h.h6,h.h7,by rw[World.size_setCell];exact h.hY,h.ne,by rw[e1];exact hd.far h.h6 _,by rw[e2];exact(h.oa1.far h.h6 _).more (by omega),h.ob0.far h.h6 _,h.ob1.far h.h6 _⟩
theorem SignS.least1 (h:SignS W X6 X7 Y ts D i j m a0 a1 b0 b1) (hi:i<ts.length) (hneg:ts[i].1<0) (hd:DOk W Y d (Zf (ts.take i) D+qJ ts[i] D) (m+(i+1))) :
  SignS (W.setCell ⟨X6,1,none⟩ d.v) X6 X7 Y ts D (i+1) j m a0 d b0 b1:=by
 have e1:Zx (ts.take (i+1)) D=Zx (ts.take i) D:=by unfold Zx;rw[qy _ ts hi,if_pos hneg,Nat.add_zero]
 have e2:Zf (ts.take (i+1)) D=Zf (ts.take i) D+qJ ts[i] D:=by unfold Zf;rw[qy _ ts hi,if_pos hneg]
 refine⟨h.b6.set_ 1 d.v,h.b7.far (Ne.symm h.ne) _,h.h6,h.h7,by rw[World.size_setCell];exact h.hY,h.ne,by rw[e1];exact(h.oa0.far h.h6 _).more (by omega),by rw[e2];exact hd.far h.h6 _,h.ob0.far h.h6 _,h.ob1.far h.h6 _⟩
theorem SignS.most0 (h:SignS W X6 X7 Y ts D i j m a0 a1 b0 b1) (hi:j<ts.length) (hneg:¬ts[j].1<0) (hd:DOk W Y d (Zd (ts.take j) D+ZW ts[j] D) (m+(j+1))) :
  SignS (W.setCell ⟨X7,0,none⟩ d.v) X6 X7 Y ts D i (j+1) m a0 a1 d b1:=by
 have e1:Zd (ts.take (j+1)) D=Zd (ts.take j) D+ZW ts[j] D:=by unfold Zd;rw[qy _ ts hi,if_neg hneg]
 have e2:Zg (ts.take (j+1)) D=Zg (ts.take j) D:=by unfold Zg;rw[qy _ ts hi,if_neg hneg,Nat.add_zero]
 refine⟨h.b6.far h.ne _,h.b7.set_ 0 d.v,h.h6,h.h7,by rw[World.size_setCell];exact h.hY,h.ne,h.oa0.far h.h7 _,h.oa1.far h.h7 _,by rw[e1];exact hd.far h.h7 _,by rw[e2];exact(h.ob1.far h.h7 _).more (by omega)⟩
theorem SignS.most1 (h:SignS W X6 X7 Y ts D i j m a0 a1 b0 b1) (hi:j<ts.length) (hneg:ts[j].1<0) (hd:DOk W Y d (Zg (ts.take j) D+ZW ts[j] D) (m+(j+1))) :
  SignS (W.setCell ⟨X7,1,none⟩ d.v) X6 X7 Y ts D i (j+1) m a0 a1 b0 d:=by
 have e1:Zd (ts.take (j+1)) D=Zd (ts.take j) D:=by unfold Zd;rw[qy _ ts hi,if_pos hneg,Nat.add_zero]
 have e2:Zg (ts.take (j+1)) D=Zg (ts.take j) D+ZW ts[j] D:=by unfold Zg;rw[qy _ ts hi,if_pos hneg]
 refine⟨h.b6.far h.ne _,h.b7.set_ 1 d.v,h.h6,h.h7,by rw[World.size_setCell];exact h.hY,h.ne,h.oa0.far h.h7 _,h.oa1.far h.h7 _,by rw[e1];exact(h.ob0.far h.h7 _).more (by omega),by rw[e2];exact hd.far h.h7 _⟩
theorem SignS.start {wr W0:World} {X6 X7 Y:Nat} (h:W0=(wr.alloc (.cells #[.slice none 0 0,.slice none 0 0] 125)).alloc (.cells #[.slice none 0 0,.slice none 0 0] 125)) (h6:X6=wr.heap.size) (h7:X7=wr.heap.size+1) (hY:Y=wr.heap.size+2) (ts:List (Int×Int)) (D m:Nat) :
  SignS W0 X6 X7 Y ts D 0 0 m ⟨none,0,[]⟩ ⟨none,0,[]⟩ ⟨none,0,[]⟩ ⟨none,0,[]⟩:=by
 subst h6 h7 hY
 have hz:W0.heap.size=wr.heap.size+2:=by rw[h];simp
 have hn:=DOk.start W0 (wr.heap.size+2) (m+0)
 refine⟨?_,?_,by omega,by omega,by omega,by omega,hn,hn,hn,hn⟩
 ·rw[h];exact(jh.new wr _ _).alloc _
 ·rw[h]
  have h1:=jh.new (wr.alloc (.cells #[.slice none 0 0,.slice none 0 0] 125)) 125 #[.slice none 0 0,.slice none 0 0]
  rw[World.size_alloc] at h1
  exact h1
theorem SignS.all(h:SignS W X6 X7 Y ts D ts.length ts.length m a0 a1 b0 b1):jj a0.l=(Zx ts D:Int)/\jj a1.l=(Zf ts D:Int)/\jj b0.l=(Zd ts D:Int)/\jj b1.l=(Zg ts D:Int):=by
 have h1:=h.oa0.val
 have h2:=h.oa1.val
 have h3:=h.ob0.val
 have h4:=h.ob1.val
 rw[List.take_length] at h1 h2 h3 h4
 exact⟨h1,h2,h3,h4⟩
end
theorem zz9{t:Int×Int}{more:Nat}{R T:Int}(hr:0<=t.2)(h:SqAt (t.1*t.1*t.2*10 ^ (2*more)) R T):R=(qJ t (10 ^ more):Int)/\(if T=0 then R else R+1)=(ZW t (10 ^ more):Int):=by
 have e:(t.1*t.1*t.2*(10:Int) ^ (2*more)).toNat=sqT t*(10 ^ more*10 ^ more):=by
  obtain⟨r,hr'⟩:=Int.eq_ofNat_of_zero_le hr
  have h1:t.1*t.1=((t.1.natAbs*t.1.natAbs:Nat):Int):=by
   rw[Int.natCast_mul];rcases Int.natAbs_eq t.1 with h|h
   ·rw[<-h]
   ·have h2:(t.1.natAbs:Int)=-t.1:=by omega
    rw[h2,Int.neg_mul_neg]
  have h2:(10:Int) ^ (2*more)=((10 ^ more*10 ^ more:Nat):Int):=by
   rw[Nat.two_mul,Int.pow_add];norm_cast
  rw[h1,h2,hr']
  unfold sqT
  rw[hr',<-Int.natCast_mul,<-Int.natCast_mul,Int.toNat_natCast,Int.toNat_natCast]
 have h1:=h.isq
 rw[e] at h1
 exact h1
theorem jbs0{K more l:Nat}(h:5*K+2<=more)(hl:l<=9):2*l*bits K<10 ^ more:=by
 obtain⟨j,rfl⟩:=Nat.exists_eq_add_of_le h
 have h1:bits K<=(10 ^ 5) ^ K:=by unfold bits;exact Nat.pow_le_pow_left (by decide) K
 rw[<-Nat.pow_mul] at h1
 have h2:10 ^ (5*K+2+j)=10 ^ (5*K)*100*10 ^ j:=by rw[Nat.pow_add,Nat.pow_add]
 have h3:1<=10 ^ j:=Nat.pow_pos (by decide)
 have h4:0<10 ^ (5*K):=Nat.pow_pos (by decide)
 rw[h2]
 generalize 10 ^ (5*K)=q at *
 have h5:q*100*1<=q*100*10 ^ j:=Nat.mul_le_mul_left _ h3
 have h6:2*l*bits K<=18*q:=Nat.mul_le_mul (by omega) h1
 omega
