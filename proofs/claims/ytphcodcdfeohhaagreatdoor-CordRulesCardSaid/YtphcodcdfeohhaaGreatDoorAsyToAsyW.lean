import Derived.Test.YtphcodcdfeohhaaGreatDoorOrdBToProdM
set_option linter.all false
namespace Go.Proofs.YtphcodcdfeohhaaGreatDoor
theorem jcg9(k:Nat):k<=bits k:=by
 induction k with
 | zero=>omega
 | succ k ih=>rw[jbk7];have:=Zh k;omega
theorem jch0{j k:Nat}(h:j<=k):bits j<=bits k:=by
 obtain⟨i,rfl⟩:=Nat.le.dest h
 rw[jp9]
 exact Nat.le_mul_of_pos_right _ (Zh i)
theorem jbv9(C:Int):∃k0:Nat,∀k,k0<=k->C<=(bits k:Int):=⟨C.toNat,λk hk=>by
 have:=jcg9 C.toNat;have:=jch0 hk;omega⟩
theorem JF(k:Nat):0<(bits k:Int):=by have:=Zh k;omega
def QH(f:Nat->Int):Prop:=∃C:Int,∀k,-C<=f k/\f k<=C
def zL(f g:Nat->Int):Prop:=QH λk=>f k-g k
def zm(f:Nat->Int):Prop:=∃(D:Int) (k0:Nat),0<D/\∀k,k0<=k->(bits k:Int)<=D*f k
theorem QH.nonneg{f:Nat->Int}(h:QH f):∃C:Int,0<=C/\∀k,-C<=f k/\f k<=C:=by
 obtain⟨C,h⟩:=h
 exact⟨C,by have:=h 0;omega,h⟩
theorem jt0{a b A B:Int}(ha:-A<=a/\a<=A)(hb:-B<=b/\b<=B):-(A*B)<=a*b/\a*b<=A*B:=by
 have hA:0<=A:=by omega
 have hB:0<=B:=by omega
 rcases Int.le_total 0 a with h|h<;>rcases Int.le_total 0 b with h'|h'
 ·have:=Int.mul_le_mul ha.2 hb.2 h' hA
  have:=Int.mul_nonneg h h'
  omega
 ·have h1:=Int.mul_le_mul ha.2 (show -b<=B by omega) (by omega) hA
  have h2:=Int.mul_nonneg h (show 0<=-b by omega)
  rw[Int.mul_neg] at h1 h2
  omega
 ·have h1:=Int.mul_le_mul (show -a<=A by omega) hb.2 h' hA
  have h2:=Int.mul_nonneg (show 0<=-a by omega) h'
  rw[Int.neg_mul] at h1 h2
  omega
 ·have h1:=Int.mul_le_mul (show -a<=A by omega) (show -b<=B by omega) (by omega) hA
  have h2:=Int.mul_nonneg (show 0<=-a by omega) (show 0<=-b by omega)
  rw[Int.neg_mul_neg] at h1 h2
  omega
theorem QH.zero:QH λ_=>0:=⟨0,λ_=>by dsimp only;omega⟩
theorem QH.add{f g:Nat->Int}(hf:QH f)(hg:QH g):QH λk=>f k+g k:=by
 obtain⟨C,hf⟩:=hf;obtain⟨D,hg⟩:=hg
 exact⟨C+D,λk=>by have:=hf k;have:=hg k;dsimp only;omega⟩
theorem QH.neg{f:Nat->Int}(hf:QH f):QH λk=>-f k:=by
 obtain⟨C,hf⟩:=hf
 exact⟨C,λk=>by have:=hf k;dsimp only;omega⟩
theorem QH.smul{f:Nat->Int}(c:Int)(hf:QH f):QH λk=>c*f k:=by
 obtain⟨C,hf⟩:=hf
 exact⟨(c.natAbs:Int)*C,λk=>jt0 (A:=(c.natAbs:Int)) (by omega) (hf k)⟩
theorem QH.congr{f g:Nat->Int}(h:∀k,f k=g k)(hf:QH f):QH g:=by
 obtain⟨C,hf⟩:=hf
 exact⟨C,λk=>by have:=hf k;rwa [h k] at this⟩
theorem zL.refl(f:Nat->Int):zL f f:=QH.zero.congr λk=>by(try dsimp only);omega
theorem zL.of_eq{f g:Nat->Int}(h:∀k,f k=g k):zL f g:=QH.zero.congr λk=>by(try dsimp only);rw[h k];omega
theorem zL.symm{f g:Nat->Int}(h:zL f g):zL g f:=h.neg.congr λk=>by(try dsimp only);omega
theorem zL.trans{f g h:Nat->Int}(h1:zL f g)(h2:zL g h):zL f h:=(QH.add h1 h2).congr λk=>by(try dsimp only);omega
theorem zL.add{f g f' g':Nat->Int}(h1:zL f f')(h2:zL g g'):zL (λk=>f k+g k) (λk=>f' k+g' k):=(QH.add h1 h2).congr λk=>by(try dsimp only);omega
theorem zL.sub{f g f' g':Nat->Int}(h1:zL f f')(h2:zL g g'):zL (λk=>f k-g k) (λk=>f' k-g' k):=(QH.add h1 (QH.neg h2)).congr λk=>by(try dsimp only);omega
theorem zL.smul{f f':Nat->Int}(c:Int)(h1:zL f f'):zL (λk=>c*f k) (λk=>c*f' k):=(QH.smul c h1).congr λk=>by rw[Int.mul_sub]
theorem zL.neg{f f':Nat->Int}(h1:zL f f'):zL (λk=>-f k) (λk=>-f' k):=(QH.neg h1).congr λk=>by(try dsimp only);omega
theorem zm.pos{f:Nat->Int}{D:Int}{k:Nat}(hD:0<D)(h:(bits k:Int)<=D*f k):0<f k:=by
 have:=JF k
 rcases Int.lt_or_le 0 (f k)with h1|h1
 ·exact h1
 ·have:=Int.mul_nonneg (Int.le_of_lt hD) (show 0<=-f k by omega)
  rw[Int.mul_neg] at this
  omega
theorem zm.congr{f g:Nat->Int}(h:∀k,f k=g k)(hf:zm f):zm g:=by
 obtain⟨D,k0,hD,hf⟩:=hf
 exact⟨D,k0,hD,λk hk=>by rw[<-h k];exact hf k hk⟩
theorem zm.add{f g:Nat->Int}(hf:zm f)(hg:zm g):zm λk=>f k+g k:=by
 obtain⟨D,k0,hD,hf⟩:=hf;obtain⟨E,j0,hE,hg⟩:=hg
 refine⟨D,k0+j0,hD,λk hk=>?_⟩
 have h1:=hf k (by omega);have h2:=zm.pos hE (hg k (by omega))
 have:=Int.mul_nonneg (Int.le_of_lt hD) (Int.le_of_lt h2)
 rw[Int.mul_add];omega
theorem zm.near{f g:Nat->Int}(hf:zm f)(h:zL f g):zm g:=by
 obtain⟨D,k0,hD,hf⟩:=hf
 obtain⟨C,hC0,hC⟩:=h.nonneg
 obtain⟨j0,hj⟩:=jbv9 (2*(D*C))
 refine⟨2*D,k0+j0,by omega,λk hk=>?_⟩
 have h1:=hf k (by omega);have h2:=hj k (by omega)
 have h3:=Int.mul_le_mul_of_nonneg_left (show f k<=g k+C by have:=(hC k).2;omega) (Int.le_of_lt hD)
 rw[Int.mul_add] at h3
 rw[Int.mul_assoc]
 omega
theorem zm.smul{f:Nat->Int}{c:Int}(hc:0<c)(hf:zm f):zm λk=>c*f k:=by
 obtain⟨D,k0,hD,hf⟩:=hf
 refine⟨D,k0,hD,λk hk=>?_⟩
 have h1:=hf k hk
 have h2:=zm.pos hD h1
 have h3:=Int.mul_le_mul_of_nonneg_left (Int.mul_le_mul_of_nonneg_right (show 1<=c by omega) (Int.le_of_lt h2)) (Int.le_of_lt hD)
 rw[Int.one_mul] at h3
 dsimp only
 omega
theorem zm.unsmul{f:Nat->Int}{c:Int}(hc:0<c)(hf:zm λk=>c*f k):zm f:=by
 obtain⟨D,k0,hD,hf⟩:=hf
 refine⟨D*c,k0,Int.mul_pos hD hc,λk hk=>?_⟩
 rw[Int.mul_assoc]
 exact hf k hk
theorem zm.not_bdd{f:Nat->Int}(hf:zm f)(h:QH f):False:=by
 have h0:zm λ_=>(0:Int):=hf.near (QH.congr (λk=>by(try dsimp only);omega) h)
 obtain⟨D,k0,hD,h0⟩:=h0
 have:=h0 k0 (Nat.le_refl _)
 have:=JF k0
 rw[Int.mul_zero] at *
 omega
theorem zm.not_neg{f:Nat->Int}(hf:zm f)(h:zm λk=>-f k):False:=
 (hf.add h).not_bdd (QH.zero.congr λk=>by(try dsimp only);omega)
def Sg(f:Nat->Int)(s:Int):Prop:=(s=1/\zm f)\/(s=-1/\zm λk=>-f k)\/(s=0/\QH f)
theorem Sg.unique{f:Nat->Int}{s s':Int}(h:Sg f s)(h':Sg f s'):s=s':=by
 rcases h with⟨rfl,h⟩|⟨rfl,h⟩|⟨rfl,h⟩<;>rcases h' with⟨rfl,h'⟩|⟨rfl,h'⟩|⟨rfl,h'⟩
 ·rfl
 ·exact(h.not_neg h').elim
 ·exact(h.not_bdd h').elim
 ·exact(h'.not_neg h).elim
 ·rfl
 ·exact(h.not_bdd h'.neg).elim
 ·exact(h'.not_bdd h).elim
 ·exact(h'.not_bdd h.neg).elim
 ·rfl
theorem Sg.near{f g:Nat->Int}{s:Int}(h:Sg f s)(hn:zL f g):Sg g s:=by
 rcases h with⟨rfl,h⟩|⟨rfl,h⟩|⟨rfl,h⟩
 ·exact .inl ⟨rfl,h.near hn⟩
 ·exact .inr (.inl ⟨rfl,h.near hn.neg⟩)
 ·exact .inr (.inr ⟨rfl,(QH.add h hn.symm).congr λk=>by(try dsimp only);omega⟩)
theorem Sg.neg{f:Nat->Int}{s:Int}(h:Sg f s):Sg (λk=>-f k) (-s):=by
 rcases h with⟨rfl,h⟩|⟨rfl,h⟩|⟨rfl,h⟩
 ·exact .inr (.inl ⟨rfl,h.congr λk=>by(try dsimp only);omega⟩)
 ·exact .inl ⟨rfl,h⟩
 ·exact .inr (.inr ⟨rfl,h.neg⟩)
theorem Sg.smul{f:Nat->Int}{s c:Int}(hc:0<c)(h:Sg f s):Sg (λk=>c*f k) s:=by
 rcases h with⟨rfl,h⟩|⟨rfl,h⟩|⟨rfl,h⟩
 ·exact .inl ⟨rfl,h.smul hc⟩
 ·exact .inr (.inl ⟨rfl,(h.smul hc).congr λk=>by rw[Int.mul_neg]⟩)
 ·exact .inr (.inr ⟨rfl,h.smul c⟩)
theorem Sg.unsmul{f:Nat->Int}{s c:Int}(hc:0<c)(h:Sg (λk=>c*f k) s):Sg f s:=by
 rcases h with⟨rfl,h⟩|⟨rfl,h⟩|⟨rfl,h⟩
 ·exact .inl ⟨rfl,h.unsmul hc⟩
 ·exact .inr (.inl ⟨rfl,zm.unsmul hc (h.congr λk=>by rw[Int.mul_neg])⟩)
 ·refine .inr (.inr ⟨rfl,?_⟩)
  obtain⟨C,hC0,hC⟩:=h.nonneg
  refine⟨C,λk=>?_⟩
  have h1:=hC k
  have h2:∀x:Int,0<=x->x<=c*x:=λx hx=>by
   have:=Int.mul_le_mul_of_nonneg_right (show 1<=c by omega) hx
   omega
  rcases Int.le_total 0 (f k)with h3|h3
  ·have:=h2 _ h3;omega
  ·have:=h2 (-f k) (by omega);rw[Int.mul_neg] at this;omega
theorem Sg.add{f g:Nat->Int}{s t:Int}(hf:Sg f s)(hg:Sg g t)(h:0<=s)(h':0<=t):Sg (λk=>f k+g k) (max s t):=by
 rcases hf with⟨rfl,hf⟩|⟨rfl,hf⟩|⟨rfl,hf⟩
 ·rcases hg with⟨rfl,hg⟩|⟨rfl,hg⟩|⟨rfl,hg⟩
  ·exact .inl ⟨rfl,hf.add hg⟩
  ·omega
  ·exact .inl ⟨rfl,hf.near (QH.congr (λk=>by(try dsimp only);omega) hg.neg)⟩
 ·omega
 ·rcases hg with⟨rfl,hg⟩|⟨rfl,hg⟩|⟨rfl,hg⟩
  ·exact .inl ⟨rfl,hg.near (QH.congr (λk=>by(try dsimp only);omega) hf.neg)⟩
  ·omega
  ·exact .inr (.inr ⟨rfl,hf.add hg⟩)
def OB(f:Nat->Int):Prop:=∃C:Int,∀k,-(C*bits k)<=f k/\f k<=C*bits k
def ZV(f g h:Nat->Int):Prop:=∃C:Int,∀k,-(C*bits k)<=f k*g k-bits k*h k/\f k*g k-bits k*h k<=C*bits k
theorem OB.of_bdd{f:Nat->Int}(h:QH f):OB f:=by
 obtain⟨C,hC0,h⟩:=h.nonneg
 refine⟨C,λk=>?_⟩
 have:=h k
 have:=Int.mul_le_mul_of_nonneg_left (show 1<=(bits k:Int) by have:=JF k;omega) hC0
 omega
theorem OB.add{f g:Nat->Int}(hf:OB f)(hg:OB g):OB λk=>f k+g k:=by
 obtain⟨C,hf⟩:=hf;obtain⟨D,hg⟩:=hg
 exact⟨C+D,λk=>by have:=hf k;have:=hg k;dsimp only;rw[Int.add_mul];omega⟩
theorem OB.smul{f:Nat->Int}(c:Int)(hf:OB f):OB λk=>c*f k:=by
 obtain⟨C,hf⟩:=hf
 exact⟨(c.natAbs:Int)*C,λk=>by rw[Int.mul_assoc];exact jt0 (A:=(c.natAbs:Int)) (by omega) (hf k)⟩
theorem OB.near{f g:Nat->Int}(hf:OB f)(h:zL f g):OB g:=by
 have h1:=hf.add (OB.smul (-1) (OB.of_bdd h))
 obtain⟨C,h1⟩:=h1
 exact⟨C,λk=>by have:=h1 k;dsimp only at this;omega⟩
theorem ZV.comm{f g h:Nat->Int}(H:ZV f g h):ZV g f h:=by
 obtain⟨C,H⟩:=H
 exact⟨C,λk=>by rw[Int.mul_comm (g k)];exact H k⟩
theorem ZV.add{f g h g' h':Nat->Int}(H:ZV f g h)(H':ZV f g' h'):ZV f (λk=>g k+g' k) (λk=>h k+h' k):=by
 obtain⟨C,H⟩:=H;obtain⟨D,H'⟩:=H'
 exact⟨C+D,λk=>by have:=H k;have:=H' k;dsimp only;rw[Int.mul_add,Int.mul_add,Int.add_mul];omega⟩
theorem ZV.smul{f g h:Nat->Int}(c:Int)(H:ZV f g h):ZV f (λk=>c*g k) (λk=>c*h k):=by
 obtain⟨C,H⟩:=H
 refine⟨(c.natAbs:Int)*C,λk=>?_⟩
 have:=jt0 (A:=(c.natAbs:Int)) (a:=c) (by omega) (H k)
 rw[<-Int.mul_assoc,Int.mul_sub] at this
 rw[Int.mul_left_comm (f k),Int.mul_left_comm (bits k:Int)]
 exact this
theorem ZV.near{f g h g':Nat->Int}(H:ZV f g h)(hf:OB f)(hn:zL g g'):ZV f g' h:=by
 obtain⟨C,H⟩:=H;obtain⟨D,hf⟩:=hf;obtain⟨E,hn⟩:=hn
 refine⟨C+D*E,λk=>?_⟩
 have h1:=H k
 have h2:=jt0 (hf k) (hn k)
 rw[Int.mul_sub,Int.mul_right_comm] at h2
 rw[Int.add_mul]
 omega
theorem ZL{a C:Int}{k:Nat}(h:bits k*a<=C*bits k):a<=C:=by
 rw[Int.mul_comm] at h
 exact Int.le_of_mul_le_mul_right h (JF k)
theorem ZV.unique{f g h h':Nat->Int}(H:ZV f g h)(H':ZV f g h'):zL h h':=by
 obtain⟨C,H⟩:=H;obtain⟨D,H'⟩:=H'
 refine⟨C+D,λk=>?_⟩
 have h1:=H k;have h2:=H' k
 constructor
 ·have:=ZL (a:=h' k-h k) (C:=C+D) (k:=k) (by rw[Int.mul_sub,Int.add_mul];omega)
  dsimp only
  omega
 ·exact ZL (k:=k) (by rw[Int.mul_sub,Int.add_mul];omega)
theorem ZV.grows{f g h:Nat->Int}(H:ZV f g h)(hf:zm f)(hg:zm g):zm h:=by
 obtain⟨C,H⟩:=H;obtain⟨D,k0,hD,hf⟩:=hf;obtain⟨E,j0,hE,hg⟩:=hg
 have h1:zm λk=>h k+C:=by
  refine⟨D*E,k0+j0,Int.mul_pos hD hE,λk hk=>?_⟩
  have a1:=hf k (by omega);have a2:=hg k (by omega)
  have b:=JF k
  have a3:=Int.mul_le_mul a1 a2 (Int.le_of_lt b) (by omega)
  have a4:D*f k*(E*g k)=D*E*(f k*g k):=by rw[Int.mul_assoc,Int.mul_assoc,Int.mul_left_comm (f k)]
  have a5:=Int.mul_le_mul_of_nonneg_left (show f k*g k<=bits k*(h k+C) by have:=(H k).2;rw[Int.mul_add,Int.mul_comm (bits k:Int) C];omega) (Int.le_of_lt (Int.mul_pos hD hE))
  rw[a4] at a3
  have a6:=Int.le_trans a3 a5
  rw[Int.mul_left_comm] at a6
  exact Int.le_of_mul_le_mul_left a6 b
 exact h1.near ⟨C.natAbs,λk=>by dsimp only;omega⟩
theorem ZV.neg{f g h:Nat->Int}(H:ZV f g h):ZV f (λk=>-g k) (λk=>-h k):=by
 have:=H.smul (-1)
 obtain⟨C,this⟩:=this
 exact⟨C,λk=>by have:=this k;dsimp only at this ⊢;rwa [Int.neg_one_mul,Int.neg_one_mul] at this⟩
theorem ZV.bdd{f g h:Nat->Int}(H:ZV f g h)(hf:QH f)(hg:OB g):QH h:=by
 obtain⟨C,H⟩:=H;obtain⟨D,hf⟩:=hf;obtain⟨E,hg⟩:=hg
 refine⟨C+D*E,λk=>?_⟩
 have h1:=H k
 have h2:=jt0 (hf k) (hg k)
 rw[<-Int.mul_assoc] at h2
 constructor
 ·have:=ZL (a:=-h k) (C:=C+D*E) (k:=k) (by rw[Int.mul_neg,Int.add_mul];omega)
  omega
 ·exact ZL (k:=k) (by rw[Int.add_mul];omega)
theorem ZV.sg{f g h:Nat->Int}{s t:Int}(H:ZV f g h)(hf:Sg f s)(hg:Sg g t)(of:OB f)(og:OB g):Sg h (s*t):=by
 rcases hf with⟨rfl,hf⟩|⟨rfl,hf⟩|⟨rfl,hf⟩
 ·rcases hg with⟨rfl,hg⟩|⟨rfl,hg⟩|⟨rfl,hg⟩
  ·exact .inl ⟨rfl,H.grows hf hg⟩
  ·exact .inr (.inl ⟨rfl,H.neg.grows hf hg⟩)
  ·exact .inr (.inr ⟨rfl,H.comm.bdd hg of⟩)
 ·rcases hg with⟨rfl,hg⟩|⟨rfl,hg⟩|⟨rfl,hg⟩
  ·exact .inr (.inl ⟨rfl,H.comm.neg.grows hg hf⟩)
  ·exact .inl ⟨rfl,(H.neg.comm.neg.grows hg hf).congr λk=>by(try dsimp only);omega⟩
  ·exact .inr (.inr ⟨rfl,H.comm.bdd hg of⟩)
 ·exact .inr (.inr ⟨by omega,H.bdd hf og⟩)
def rtA(r:Int)(k:Nat):Int:=(isq (r.toNat*(bits k*bits k)):Int)
def Qy(kv:List (Int×Int))(k:Nat):Int:=(kv.map λp=>p.2*rtA p.1 k).sum
def JY(ts:List (Int×Int))(k:Nat):Int:=(ts.map λt=>t.1*rtA t.2 k).sum
theorem qf(t:Int×Int)(ts:List (Int×Int))(k:Nat):JY (t::ts) k=t.1*rtA t.2 k+JY ts k:=by simp[JY]
theorem jan8(k:Nat):Qy [] k=0:=rfl
theorem JX(t:Int×Int)(ts:List (Int×Int))(k:Nat):Qy (t::ts) k=t.2*rtA t.1 k+Qy ts k:=by simp[Qy]
theorem jbn3(kv:List (Int×Int))(k:Nat):JY (kv.map ZZ) k=Qy kv k:=by
 induction kv with
 | nil=>rfl
 | cons p t ih=>rw[List.map_cons,qf,JX,ih];rfl
theorem jz2:∀(kv:List (Int×Int)) (r c:Int) (k:Nat),Qy (addS kv r c) k=Qy kv k+c*rtA r k
 | [],r,c,k=>by simp[addS,Qy]
 | (a,x)::t,r,c,k=>by
  unfold addS
  split
  ·rename_i h
   subst h
   rw[JX,JX]
   dsimp only
   rw[Int.add_mul];omega
  ·rw[JX,JX,jz2 t r c k];omega
theorem jz1:∀(l kv:List (Int×Int)) (m:Int) (k:Nat),Qy (ze kv l m) k=Qy kv k+m*JY l k
 | [],kv,m,k=>by simp[ze,JY]
 | t::l,kv,m,k=>by
  have ih:=jz1 l (addS kv t.2 (t.1*m)) m k
  simp only[ze,List.foldl_cons] at ih ⊢
  rw[ih,jz2,qf,Int.mul_add,<-Int.mul_assoc,Int.mul_comm m t.1];omega
theorem jba8(xt:List (Int×Int))(m:Int)(yt:List (Int×Int))(j:Int)(k:Nat):JY (zO xt m yt j) k=m*JY xt k-j*JY yt k:=by
 unfold zO Zl
 rw[jbn3,jz1,jz1,jan8,Int.neg_mul];omega
theorem jan7(kv:List (Int×Int))(k:Nat):Qy (kv.filter nz) k=Qy kv k:=by
 induction kv with
 | nil=>rfl
 | cons p t ih=>
  rw[List.filter_cons]
  by_cases h:p.2=0
  ·have e:nz p=false:=by simp[nz,h]
   rw[e,JX,h,Int.zero_mul]
   simpa using ih
  ·have e:nz p=true:=by simp[nz,h]
   rw[e,if_pos rfl,JX,JX,ih]
theorem jda7(r B:Nat):isq (r*(B*B))<=r*B:=by
 have h:=qB (r*(B*B))
 refine ja9 h ?_
 have:r*(B*B)<=r*B*(r*B):=by
  rcases Nat.eq_zero_or_pos r with h0|h0
  ·subst h0;simp
  ·calc r*(B*B)<=r*r*(B*B):=Nat.mul_le_mul_right _ (Nat.le_mul_of_pos_left r h0)
    _=r*B*(r*B):=by rw[Nat.mul_mul_mul_comm]
 have h2:r*B*(r*B)<(r*B+1)*(r*B+1):=Nat.mul_self_lt_mul_self (Nat.lt_succ_self (r*B))
 exact Nat.lt_of_le_of_lt this h2
theorem jan9{a b:Nat}(h:a*a<b*b):a<b:=by
 rcases Nat.lt_or_ge a b with h1|h1
 ·exact h1
 ·have:=Nat.mul_self_le_mul_self h1;omega
theorem jda9(r:Int)(k:Nat):0<=rtA r k:=by unfold rtA;omega
theorem jdh2(r:Int)(k:Nat):rtA r k<=r.toNat*bits k:=by
 unfold rtA
 have:=jda7 r.toNat (bits k)
 exact_mod_cast this
theorem jdh1(r:Int):OB (rtA r):=⟨(r.toNat:Int),λk=>by
 have h1:=jda9 r k;have h2:=jdh2 r k
 omega⟩
theorem jdb3:∀(ts:List (Int×Int)),OB (JY ts)
 | []=>OB.of_bdd (QH.zero.congr λk=>rfl)
 | t::ts=>by
  obtain⟨C,h⟩:=OB.add (OB.smul t.1 (jdh1 t.2)) (jdb3 ts)
  exact⟨C,λk=>by have:=h k;rw[qf];exact this⟩
theorem jbr9{n:Nat}(h:1<=n):zL (rtA (n:Int)) (λk=>((jo n).1:Int)*rtA ((jo n).2:Int) k):=by
 obtain⟨h1,_,h3,_⟩:=JR n h
 refine⟨((jo n).1:Int),λk=>?_⟩
 dsimp only
 unfold rtA
 rw[Int.toNat_natCast,Int.toNat_natCast]
 generalize (jo n).1=s at *
 generalize (jo n).2=r at *
 generalize bits k=B
 have e:n*(B*B)=r*(B*B)*(s*s):=by rw[<-h1];simp only[Nat.mul_comm,Nat.mul_left_comm,Nat.mul_assoc]
 rw[e]
 have g1:=jy7 (r*(B*B)) s
 have g2:isq (r*(B*B)*(s*s))<=s*isq (r*(B*B))+s:=by
  have:=(qe (r*(B*B))).lt
  generalize isq (r*(B*B))=q at *
  have h4:r*(B*B)*(s*s)<((q+1)*s)*((q+1)*s):=by
   rw[Nat.mul_mul_mul_comm (q+1) s (q+1) s]
   exact Nat.mul_lt_mul_of_pos_right this (Nat.mul_pos h3 h3)
  have h5:=jan9 (Nat.lt_of_le_of_lt (qB _) h4)
  have h6:(q+1)*s=s*q+s:=by rw[Nat.add_mul,Nat.one_mul,Nat.mul_comm]
  rw[h6] at h5
  omega
 have c1:((isq (r*(B*B))*s:Nat):Int)=(s:Int)*(isq (r*(B*B)):Int):=by rw[Int.natCast_mul,Int.mul_comm]
 have c2:((s*isq (r*(B*B)):Nat):Int)=(s:Int)*(isq (r*(B*B)):Int):=Int.natCast_mul _ _
 generalize (s:Int)*(isq (r*(B*B)):Int)=z at *
 omega
theorem jad9(kv:List (Int×Int))(c r:Int):zL (Qy (addRoot kv c r)) (λk=>Qy kv k+c*rtA r k):=by
 unfold addRoot
 split
 ·rename_i h
  obtain⟨n,rfl⟩:=Int.eq_ofNat_of_zero_le (Int.le_of_lt h)
  have hn:1<=n:=by omega
  rw[Int.toNat_natCast]
  exact(zL.of_eq (g:=λk=>Qy kv k+c*(((jo n).1:Int)*rtA ((jo n).2:Int) k)) λk=>by rw[jz2,Int.mul_assoc]).trans ((zL.refl (Qy kv)).add ((jbr9 hn).symm.smul c))
 ·rename_i h
  refine zL.of_eq λk=>?_
  have:r.toNat=0:=by omega
  have e:isq 0=0:=jf8 0
  unfold rtA
  rw[this,Nat.zero_mul,e];simp
theorem jg0:∀(l kv:List (Int×Int)) (m:Int),zL (Qy (ju kv l m)) (λk=>Qy kv k+m*JY l k)
 | [],kv,m=>zL.of_eq λk=>by simp[ju,JY]
 | t::l,kv,m=>by
  have ih:=jg0 l (addRoot kv (t.1*m) t.2) m
  simp only[ju,List.foldl_cons] at ih ⊢
  refine ih.trans (((jad9 kv (t.1*m) t.2).add (zL.refl λk=>m*JY l k)).trans (zL.of_eq λk=>?_))
  (try dsimp only)
  rw[qf,Int.mul_add,<-Int.mul_assoc m,Int.mul_comm m t.1];omega
theorem jbr1{l l':List Int}(h:l.Perm l'):l.sum=l'.sum:=by
 induction h with
 | nil=>rfl
 | cons x _ ih=>simp[ih]
 | swap x y l=>simp only[List.sum_cons];omega
 | trans _ _ ih1 ih2=>rw[ih1,ih2]
theorem jad1{a x r:Int}{t:List (Int×Int)}(h:r≠a):zb ((a,x)::t) r=zb t r:=if_neg h
theorem jat2:∀(kv:List (Int×Int)) (k:Nat),(kv.map (·.1)).Nodup->((kv.map (·.1)).map λr=>zb kv r*rtA r k).sum=Qy kv k
 | [],_,_=>rfl
 | (a,x)::t,k,h=>by
  rw[List.map_cons,List.nodup_cons] at h
  rw[JX,List.map_cons,List.map_cons,List.sum_cons,<-jat2 t k h.2]
  congr 1
  ·show(if a=a then x else _)*_=_
   rw[if_pos rfl]
  ·congr 1
   refine List.map_congr_left λr hr=>?_
   rw[jad1 (λ(e:r=a)=>h.1 (by rw[<-e];exact hr))]
theorem zm3{kv:List (Int×Int)}{den:Int}(h:den≠0):jU kv den≠0:=by
 have:=ZK (l:=(kv.filter nz).map (·.2)++[den]) (x:=den) (by simp) h
 unfold jU
 split<;>omega
theorem jz5{kv:List (Int×Int)}{den:Int}:jU kv den∣den/\∀p∈kv.filter nz,jU kv den∣p.2:=by
 have h1:=qT ((kv.filter nz).map (·.2)++[den])
 unfold jU
 constructor
 ·have:=Int.natAbs_dvd_natAbs.1 (show((jM ((kv.filter nz).map (·.2)++[den]):Nat):Int).natAbs∣den.natAbs by rw[Int.natAbs_natCast];exact h1 den (by simp))
  split
  ·exact(Int.neg_dvd).2 this
  ·exact this
 ·intro p hp
  have:=Int.natAbs_dvd_natAbs.1 (show((jM ((kv.filter nz).map (·.2)++[den]):Nat):Int).natAbs∣p.2.natAbs by rw[Int.natAbs_natCast];exact h1 p.2 (List.mem_append_left _ (List.mem_map_of_mem hp)))
  split
  ·exact(Int.neg_dvd).2 this
  ·exact this
theorem jba9{kv:List (Int×Int)}{den:Int}(hn:(kv.map (·.1)).Nodup)(k:Nat):jU kv den*JY (Qp kv den) k=Qy kv k:=by
 rw[<-jan7 kv k]
 have hn':((kv.filter nz).map (·.1)).Nodup:=List.Nodup.sublist (List.filter_sublist.map _) hn
 rw[<-jat2 _ k hn']
 unfold Qp zp JY
 have hd:=(jz5 (kv:=kv) (den:=den)).2
 generalize jU kv den=G at *
 generalize kv.filter nz=l at *
 have hp:=jbr1 ((zT (l.map (·.1))).map λr=>zb l r*rtA r k)
 rw[<-hp]
 generalize zG (l.map (·.1))=rs
 rw[List.map_map]
 induction rs with
 | nil=>simp
 | cons r rs ih=>
  rw[List.map_cons,List.map_cons,List.sum_cons,List.sum_cons,Int.mul_add,ih]
  congr 1
  show G*((zb l r).tdiv G*rtA r k)=_
  rw[<-Int.mul_assoc]
  congr 1
  have:G∣zb l r:=by
   rcases js0 l r with h|h
   ·rw[h];exact Int.dvd_zero G
   ·exact hd _ h
  exact Int.mul_tdiv_cancel' this
theorem jcc4 {kv:List (Int×Int)} {den d:Int} {ts:List (Int×Int)} (hn:(kv.map (·.1)).Nodup) (hd:den≠0) (h:jY kv den=(d,ts,0)) :
  ∃G,G≠0/\(0<den->0<G)/\den=d*G/\∀k,G*JY ts k=Qy kv k:=by
 unfold jY at h
 split at h
 ·injection h with _ h;injection h with _ h;cases h
 ·split at h
  ·injection h with _ h;injection h with _ h;cases h
  ·injection h with h1 h
   injection h with h2 _
   subst h1;subst h2
   refine⟨jU kv den,zm3 hd,λhp=>?_,?_,λk=>jba9 hn k⟩
   ·have:=zm3 (kv:=kv) hd
    unfold jU at this ⊢
    rw[if_neg (by omega)] at this ⊢
    omega
   ·exact(Int.tdiv_mul_cancel jz5.1).symm
theorem Ze:∀(l kv:List (Int×Int)) (m:Int),(kv.map (·.1)).Nodup->((ju kv l m).map (·.1)).Nodup
 | [],_,_,h=>h
 | t::l,kv,m,h=>by
  have h1:((addRoot kv (t.1*m) t.2).map (·.1)).Nodup:=by
   unfold addRoot
   split
   ·rw[jh2]
    split
    ·exact h
    ·rename_i h2;exact List.nodup_append.2 ⟨h,by simp,λa ha b hb=>by simp at hb;subst hb;exact λe=>h2 (by rw[<-e];exact ha)⟩
   ·exact h
  exact Ze l _ m h1
theorem jbr2{xd yd m d:Int}{xt yt ts:List (Int×Int)}(h:jL xd xt yd yt m=(d,ts,0)):js xd xt=true/\js yd yt=true/\∃G,0<G/\xd*yd=d*G/\zL (λk=>G*JY ts k) (λk=>yd*JY xt k+m*xd*JY yt k):=by
 unfold jL at h
 split at h
 ·rename_i hn
  rw[Bool.and_eq_true] at hn
  have hx:=jz hn.1;have hy:=jz hn.2
  have hp:0<xd*yd:=Int.mul_pos (by omega) (by omega)
  obtain⟨G,_,h2,h3,h4⟩:=jcc4 (Ze yt _ _ (Ze xt [] _ (by simp))) (by omega) h
  refine⟨hn.1,hn.2,G,h2 hp,h3,(zL.of_eq h4).trans ((jg0 yt _ _).trans (((jg0 xt [] yd).add (zL.refl λk=>m*xd*JY yt k)).trans (zL.of_eq λk=>?_)))⟩
  (try dsimp only)
  rw[jan8];omega
 ·injection h with _ h;injection h with _ h;cases h
theorem ZV.congr{f g h f' g' h':Nat->Int}(H:ZV f g h)(e1:∀k,f k=f' k)(e2:∀k,g k=g' k)(e3:∀k,h k=h' k):ZV f' g' h':=by
 obtain⟨C,H⟩:=H
 exact⟨C,λk=>by rw[<-e1,<-e2,<-e3];exact H k⟩
theorem jcb1(t:Int×Int)(k:Nat):-(t.1.natAbs:Int)<=(zh t k:Int)-t.1.natAbs*rtA t.2 k/\(zh t k:Int)-t.1.natAbs*rtA t.2 k<=t.1.natAbs:=by
 unfold zh Zv sqT rtA
 generalize t.1.natAbs=c
 generalize t.2.toNat=r
 generalize bits k=B
 have e:c*c*r*(B*B)=r*(B*B)*(c*c):=by simp only[Nat.mul_comm,Nat.mul_left_comm,Nat.mul_assoc]
 rw[e]
 have g1:=jy7 (r*(B*B)) c
 have g2:isq (r*(B*B)*(c*c))<=c*isq (r*(B*B))+c:=by
  have:=(qe (r*(B*B))).lt
  generalize isq (r*(B*B))=q at *
  rcases Nat.eq_zero_or_pos c with h0|h0
  ·subst h0
   have e0:isq 0=0:=jf8 0
   simp[e0]
  ·have h4:r*(B*B)*(c*c)<((q+1)*c)*((q+1)*c):=by
    rw[Nat.mul_mul_mul_comm (q+1) c (q+1) c]
    exact Nat.mul_lt_mul_of_pos_right this (Nat.mul_pos h0 h0)
   have h5:=jan9 (Nat.lt_of_le_of_lt (qB _) h4)
   have h6:(q+1)*c=c*q+c:=by rw[Nat.add_mul,Nat.one_mul,Nat.mul_comm]
   rw[h6] at h5
   omega
 have c1:((isq (r*(B*B))*c:Nat):Int)=(c:Int)*(isq (r*(B*B)):Int):=by rw[Int.natCast_mul,Int.mul_comm]
 have c2:((c*isq (r*(B*B)):Nat):Int)=(c:Int)*(isq (r*(B*B)):Int):=Int.natCast_mul _ _
 generalize (c:Int)*(isq (r*(B*B)):Int)=z at *
 omega
def zr6(ts:List (Int×Int)):Int:=(ts.map λt=>(t.1.natAbs:Int)).sum
theorem jaf0 (k:Nat):∀(ts:List (Int×Int)),-(zr6 ts)<=(zv ts k:Int)-zw ts k-JY ts k/\(zv ts k:Int)-zw ts k-JY ts k<=zr6 ts
 | []=>by simp[zr6,zv,zw,JY]
 | t::ts=>by
  have ih:=jaf0 k ts
  have h:=jcb1 t k
  rw[qf]
  unfold zv zw zr6 at *
  simp only[List.map_cons,List.sum_cons]
  by_cases h0:t.1<0
  ·rw[if_pos h0,if_pos h0]
   have e:(t.1.natAbs:Int)*rtA t.2 k=-(t.1*rtA t.2 k):=by rw[show(t.1.natAbs:Int)=-t.1 by omega,Int.neg_mul]
   rw[e] at h
   omega
  ·rw[if_neg h0,if_neg h0]
   have e:(t.1.natAbs:Int)*rtA t.2 k=t.1*rtA t.2 k:=by rw[show(t.1.natAbs:Int)=t.1 by omega]
   rw[e] at h
   omega
theorem zt8{ts:List (Int×Int)}{k:Nat}(h:jy ts k=1):zm (JY ts):=by
 have h1:=zd9 h
 have key:zm λj=>JY ts j+zr6 ts:=by
  refine⟨(bits k:Int),k,JF k,λK hK=>?_⟩
  obtain⟨j,rfl⟩:=Nat.le.dest hK
  have a1:=jbf8 ts k j
  have a2:=jbg3 ts k j
  have a3:=zv7 ts (k+j)
  have a4:=jaf0 (k+j) ts
  have b1:Jh ts k*bits j+bits j<=zv ts k*bits j:=by
   have:=Nat.mul_le_mul_right (bits j) (show Jh ts k+1<=zv ts k by omega)
   rw[Nat.add_mul,Nat.one_mul] at this
   exact this
  have b2:(bits j:Int)<=JY ts (k+j)+zr6 ts:=by omega
  have b3:=Int.mul_le_mul_of_nonneg_left b2 (Int.le_of_lt (JF k))
  rw[jp9,Int.natCast_mul]
  exact b3
 exact key.near ⟨(zr6 ts).natAbs,λk=>by dsimp only;omega⟩
theorem zt7{ts:List (Int×Int)}{k:Nat}(h:jy ts k=-1):zm λk=>-JY ts k:=by
 have h1:=zd8 h
 have key:zm λj=>-JY ts j+(zr6 ts):=by
  refine⟨(bits k:Int),k,JF k,λK hK=>?_⟩
  obtain⟨j,rfl⟩:=Nat.le.dest hK
  have a1:=jbg2 ts k j
  have a2:=jbf9 ts k j
  have a3:=jy0 ts (k+j)
  have a4:=jaf0 (k+j) ts
  have b1:Jg ts k*bits j+bits j<=zw ts k*bits j:=by
   have:=Nat.mul_le_mul_right (bits j) (show Jg ts k+1<=zw ts k by omega)
   rw[Nat.add_mul,Nat.one_mul] at this
   exact this
  have b2:(bits j:Int)<=-JY ts (k+j)+zr6 ts:=by omega
  have b3:=Int.mul_le_mul_of_nonneg_left b2 (Int.le_of_lt (JF k))
  rw[jp9,Int.natCast_mul]
  exact b3
 exact key.near ⟨(zr6 ts).natAbs,λk=>by dsimp only;omega⟩
theorem js8:∀(ts:List (Int×Int)) (k:Nat),JY (ts.filter JA) k=JY ts k
 | [],_=>rfl
 | t::ts,k=>by
  rw[List.filter_cons]
  by_cases h:t.1=0
  ·have e:JA t=false:=by simp[JA,h]
   rw[e,qf,h,Int.zero_mul,Int.zero_add]
   simpa using js8 ts k
  ·have e:JA t=true:=by simp[JA,h]
   rw[e,if_pos rfl,qf,qf,js8 ts k]
theorem jA.sg{ts:List (Int×Int)}{s:Int}(h:jA ts s):Sg (JY ts) s:=by
 rcases h with⟨h1,rfl⟩|⟨_,h1,k,h2⟩
 ·refine .inr (.inr ⟨rfl,QH.zero.congr λk=>?_⟩)
  rw[<-js8,h1];rfl
 ·rcases QG (ts.filter JA) k with h3|h3|h3
  ·refine .inl ⟨by rw[<-h2,h3],(zt8 h3).congr λk=>js8 ts k⟩
  ·refine .inr (.inl ⟨by rw[<-h2,h3],(zt7 h3).congr λk=>by rw[js8 ts k]⟩)
  ·exact absurd (h2.symm.trans h3) h1
def cf(ts:List (Int×Int))(r:Int):Int:=(ts.map λt=>if r=t.2 then t.1 else 0).sum
theorem jbv4(t:Int×Int)(ts:List (Int×Int))(r:Int):cf (t::ts) r=(if r=t.2 then t.1 else 0)+cf ts r:=by simp[cf]
theorem jcy7:∀(ts:List (Int×Int)) (r:Int),(∀t∈ts,t.2≠r)->cf ts r=0
 | [],_,_=>rfl
 | t::ts,r,h=>by rw[jbv4,if_neg (λe=>h t (by simp) e.symm),jcy7 ts r (λu hu=>h u (by simp[hu]))];rfl
theorem jct0:∀(l kv:List (Int×Int)) (m r:Int),zb (ze kv l m) r=zb kv r+cf l r*m
 | [],kv,m,r=>by simp[ze,cf]
 | t::l,kv,m,r=>by
  have ih:=jct0 l (addS kv t.2 (t.1*m)) m r
  simp only[ze,List.foldl_cons] at ih ⊢
  rw[ih,zy2,jbv4,Int.add_mul]
  split
  ·omega
  ·rw[Int.zero_mul];omega
theorem jcc0:∀(ts:List (Int×Int)) (last:Int),Qj last ts=true->∀t∈ts,last<t.2/\t.1≠0
 | [],_,_,_,h=>by cases h
 | t::ts,last,h,u,hu=>by
  unfold Qj okT at h
  simp only[Bool.and_eq_true,decide_eq_true_eq] at h
  rcases List.mem_cons.1 hu with rfl|hu
  ·exact⟨h.1.1.1.1.1,h.1.1.1.2⟩
  ·have:=jcc0 ts t.2 h.2 u hu
   exact⟨by omega,this.2⟩
theorem jbk0{t:Int×Int}{ts:List (Int×Int)}{last:Int}(h:Qj last (t::ts)=true):Qj t.2 ts=true:=by
 unfold Qj at h
 rw[Bool.and_eq_true] at h
 exact h.2
theorem jcr7{t:Int×Int}{ts:List (Int×Int)}{last:Int}(h:Qj last (t::ts)=true):cf (t::ts) t.2=t.1:=by
 rw[jbv4,if_pos rfl,jcy7 ts t.2 (λu hu=>by have:=(jcc0 ts t.2 (jbk0 h) u hu).1;omega)];omega
theorem jdb2{ts:List (Int×Int)}{last r:Int}(h:Qj last ts=true)(hr:r<=last):cf ts r=0:=jcy7 ts r (λu hu=>by have:=(jcc0 ts last h u hu).1;omega)
theorem jcv0 {p q:Int} (hp:p≠0) (hq:q≠0):∀(xt yt:List (Int×Int)) (l l':Int),Qj l xt=true->Qj l' yt=true->(∀r,cf xt r*p=cf yt r*q)->xt.map (λt=>(t.1*p,t.2))=yt.map (λt=>(t.1*q,t.2))
 | [],[],_,_,_,_,_=>rfl
 | [],u::yt,_,_,_,h2,h=>by
  have h3:=h u.2
  rw[jcr7 h2] at h3
  have:=(jcc0 _ _ h2 u (by simp)).2
  rw[show cf [] u.2=0 from rfl,Int.zero_mul] at h3
  exact absurd h3.symm (Int.mul_ne_zero this hq)
 | t::xt,[],_,_,h1,_,h=>by
  have h3:=h t.2
  rw[jcr7 h1] at h3
  have:=(jcc0 _ _ h1 t (by simp)).2
  rw[show cf [] t.2=0 from rfl,Int.zero_mul] at h3
  exact absurd h3 (Int.mul_ne_zero this hp)
 | t::xt,u::yt,l,l',h1,h2,h=>by
  have n1:=(jcc0 _ _ h1 t (by simp)).2
  have n2:=(jcc0 _ _ h2 u (by simp)).2
  have e:t.2=u.2:=by
   rcases Int.lt_trichotomy t.2 u.2 with h3|h3|h3
   ·have h4:=h t.2
    rw[jcr7 h1,jbv4,if_neg (by omega),jdb2 (jbk0 h2) (by omega)] at h4
    simp only[Int.add_zero,Int.zero_mul] at h4
    exact absurd h4 (Int.mul_ne_zero n1 hp)
   ·exact h3
   ·have h4:=h u.2
    rw[jcr7 h2,jbv4,if_neg (by omega),jdb2 (jbk0 h1) (by omega)] at h4
    simp only[Int.add_zero,Int.zero_mul] at h4
    exact absurd h4.symm (Int.mul_ne_zero n2 hq)
  have e2:t.1*p=u.1*q:=by
   have h4:=h t.2
   rw[jcr7 h1,e,jcr7 h2] at h4
   exact h4
  rw[List.map_cons,List.map_cons,e2,e]
  congr 1
  refine jcv0 hp hq xt yt t.2 u.2 (jbk0 h1) (jbk0 h2) (λr=>?_)
  have h4:=h r
  rw[jbv4,jbv4,Int.add_mul,Int.add_mul,e] at h4
  split at h4
  ·omega
  ·simp only[Int.zero_mul,Int.zero_add] at h4;exact h4
theorem zc1 (m:Nat):∀(l:List Int) (g:Nat),(l.map λx=>x*(m:Int)).foldl (λg x=>Nat.gcd g x.natAbs) (g*m)=l.foldl (λg x=>Nat.gcd g x.natAbs) g*m
 | [],_=>rfl
 | x::l,g=>by
  rw[List.map_cons,List.foldl_cons,List.foldl_cons,Int.natAbs_mul,Int.natAbs_natCast,Nat.gcd_mul_right]
  exact zc1 m l _
theorem jaz6(m:Nat)(l:List Int):jM (l.map λx=>x*(m:Int))=jM l*m:=by
 have:=zc1 m l 0
 rw[Nat.zero_mul] at this
 exact this
theorem jcy2{d:Int}{ts:List (Int×Int)}(h:js d ts=true):Qj 0 ts=true/\jM (d::ts.map (·.1))=1:=by
 unfold js at h
 simp only[Bool.and_eq_true,decide_eq_true_eq] at h
 exact⟨h.1.2,h.2⟩
theorem jdg3{xd yd:Int}{xt yt:List (Int×Int)}(hx:js xd xt=true)(hy:js yd yt=true)(h:∀r,cf xt r*yd=cf yt r*xd):xd=yd/\xt=yt:=by
 have px:=jz hx;have py:=jz hy
 obtain⟨cx,gx⟩:=jcy2 hx;obtain⟨cy,gy⟩:=jcy2 hy
 have hs:=jcv0 (show yd≠0 by omega) (show xd≠0 by omega) xt yt 0 0 cx cy h
 have e:xd=yd:=by
  have g1:=jaz6 yd.toNat (xd::xt.map (·.1))
  have g2:=jaz6 xd.toNat (yd::yt.map (·.1))
  rw[gx,Nat.one_mul] at g1
  rw[gy,Nat.one_mul] at g2
  have e1:((xd::xt.map (·.1)).map λx=>x*(yd.toNat:Int))=((yd::yt.map (·.1)).map λx=>x*(xd.toNat:Int)):=by
   rw[Int.toNat_of_nonneg (by omega),Int.toNat_of_nonneg (by omega),List.map_cons,List.map_cons,Int.mul_comm xd yd,List.map_map,List.map_map]
   congr 1
   have:=congrArg (List.map (·.1)) hs
   rw[List.map_map,List.map_map] at this
   exact this
  rw[e1,g2] at g1
  omega
 refine⟨e,?_⟩
 subst e
 have hinj:∀(a b:List (Int×Int)),a.map (λt=>(t.1*xd,t.2))=b.map (λt=>(t.1*xd,t.2))->a=b:=λa=>by
  induction a with
  | nil=>intro b hb;cases b with
   | nil=>rfl
   | cons u b=>cases hb
  | cons t a ih=>
   intro b hb
   cases b with
   | nil=>cases hb
   | cons u b=>
    rw[List.map_cons,List.map_cons] at hb
    injection hb with h1 h2
    injection h1 with h3 h4
    rw[ih b h2]
    congr 1
    exact Prod.ext (Int.eq_of_mul_eq_mul_right (show xd≠0 by omega) h3) h4
 exact hinj xt yt hs
theorem jdc4{xd yd:Int}{xt yt:List (Int×Int)}(hx:js xd xt=true)(hy:js yd yt=true)(h:zL (λk=>yd*JY xt k) (λk=>xd*JY yt k)):∀r,cf xt r*yd=cf yt r*xd:=by
 have px:=jz hx;have py:=jz hy
 obtain⟨rx,_⟩:=Jd hx;obtain⟨ry,_⟩:=Jd hy
 obtain⟨hk1,hk2⟩:=jn2 rx ry yd xd
 have hl:=jy9 xt yt yd xd
 have hbd:=zk6 (N:=10000000000) (xt:=xt) (yt:=yt) (m:=yd) (k:=xd) (by omega) (λt ht=>by
   have:=(px.2.2.2 t ht).1.2.2.2
   exact jE this (b:=yd) (B:=100000) ⟨by omega,by omega⟩) (λt ht=>by
   have:=(py.2.2.2 t ht).1.2.2.2
   exact jE this (b:=xd) (B:=100000) ⟨by omega,by omega⟩)
 have hbd2:zB (Zl xt yd yt xd) 3200000000000000000:=hbd.mono (by omega)
 have hkeys:(zO xt yd yt xd).map (·.2)=(Zl xt yd yt xd).map (·.1):=by simp[zO,ZZ,Function.comp_def]
 obtain⟨K,_,hK⟩:=jA.exists_ (zO xt yd yt xd) (by
  intro t ht
  obtain⟨p,hpm,rfl⟩:=List.mem_map.1 ht
  have h1:=zr hk1 p hpm
  have h2:=hbd2 p.1
  rw[h1] at h2
  show -_<=p.2/\p.2<=_
  omega) (by
  intro t ht
  exact hk2 _ (by rw[<-hkeys];exact List.mem_map_of_mem ht)) (by
  rw[hkeys];exact hk1) (by
  simp[zO];omega)
 have hz:(zO xt yd yt xd).filter JA=[]:=by
  rcases hK with h1|h1
  ·exact h1
  ·exfalso
   have hb:QH (JY (zO xt yd yt xd)):=QH.congr (λk=>(jba8 xt yd yt xd k).symm) h
   rcases QG ((zO xt yd yt xd).filter JA) K with h2|h2|h2
   ·exact(zt8 h2).not_bdd (hb.congr λk=>(js8 _ k).symm)
   ·exact(zt7 h2).not_bdd (hb.neg.congr λk=>by rw[js8 _ k])
   ·exact h1 h2
 intro r
 have h0:zb (Zl xt yd yt xd) r=0:=by
  rcases js0 (Zl xt yd yt xd) r with h1|h1
  ·exact h1
  ·have h2:(zb (Zl xt yd yt xd) r,r)∈zO xt yd yt xd:=List.mem_map.2 ⟨_,h1,rfl⟩
   rcases Decidable.em (zb (Zl xt yd yt xd) r=0)with h3|h3
   ·exact h3
   ·have h4:(zb (Zl xt yd yt xd) r,r)∈(zO xt yd yt xd).filter JA:=List.mem_filter.2 ⟨h2,by simp[JA,h3]⟩
    rw[hz] at h4;cases h4
 unfold Zl at h0
 rw[jct0,jct0,Int.mul_neg] at h0
 simp only[zb] at h0
 omega
theorem jdd2{xd yd:Int}{xt yt:List (Int×Int)}(hx:js xd xt=true)(hy:js yd yt=true)(h:zL (λk=>yd*JY xt k) (λk=>xd*JY yt k)):xd=yd/\xt=yt:=
 jdg3 hx hy (jdc4 hx hy h)
theorem jbg6 {f:Int->Int}:∀(rs:List Int) (last:Int),rs.Pairwise (λa b=>a<b)->(∀r∈rs,last<r/\zu r/\f r≠0/\-100000<=f r/\f r<=100000)->Qj last (rs.map λr=>(f r,r))=true
 | [],_,_,_=>rfl
 | r::rs,last,hp,h=>by
  obtain⟨h1,h2,h3,h4⟩:=h r (by simp)
  rw[List.pairwise_cons] at hp
  rw[List.map_cons]
  unfold Qj
  rw[Bool.and_eq_true]
  refine⟨?_,jbg6 rs r hp.2 (λq hq=>⟨hp.1 q hq,(h q (by simp[hq])).2⟩)⟩
  unfold okT
  simp only[Bool.and_eq_true,decide_eq_true_eq]
  have h5:=(jg6 r.toNat (by have:=h2.1;omega)).2 h2.2.2
  exact⟨⟨⟨⟨h1,h2.2.1⟩,h3⟩,by simp[zz];omega⟩,by omega⟩
theorem jbm9{l:List (Int×Int)}(h:(l.map (·.1)).Nodup):(l.map (·.1)).map (zb l)=l.map (·.2):=by
 rw[List.map_map]
 exact List.map_congr_left λp hp=>zr h p hp
theorem zp1{a G:Int}(h:G∣a):a.tdiv G*G=a:=Int.tdiv_mul_cancel h
theorem jak9{l:List (Int×Int)}{G r:Int}(h:∀p∈l,G∣p.2):G∣zb l r:=by
 rcases js0 l r with h1|h1
 ·rw[h1];exact Int.dvd_zero G
 ·exact h _ h1
theorem jar4{kv:List (Int×Int)}{den d:Int}{ts:List (Int×Int)}(hn:(kv.map (·.1)).Nodup)(hr:∀r∈kv.map (·.1),zu r)(hd:0<den)(h:jY kv den=(d,ts,0)):js d ts=true:=by
 have hG0:=zm3 (kv:=kv) (show den≠0 by omega)
 have hGp:jU kv den=(jM ((kv.filter nz).map (·.2)++[den]):Int):=by unfold jU;rw[if_neg (by omega)]
 obtain⟨hd1,hd2⟩:=jz5 (kv:=kv) (den:=den)
 have hn':((kv.filter nz).map (·.1)).Nodup:=List.Nodup.sublist (List.filter_sublist.map _) hn
 have hr':∀r∈(kv.filter nz).map (·.1),zu r:=λr hm=>by
  obtain⟨p,hp,rfl⟩:=List.mem_map.1 hm
  exact hr _ (List.mem_map_of_mem (List.mem_filter.1 hp).1)
 have hz:∀p∈kv.filter nz,p.2≠0:=λp hp=>by have:=(List.mem_filter.1 hp).2;simpa [nz] using this
 unfold jY at h
 split at h
 ·injection h with _ h;injection h with _ h;cases h
 ·rename_i hl
  split at h
  ·injection h with _ h;injection h with _ h;cases h
  ·rename_i hb
   injection h with h1 h
   injection h with h2 _
   simp only[Bool.or_eq_true,decide_eq_true_eq,List.any_eq_true,not_or,not_exists,not_and] at hb
   obtain⟨hb1,hb2⟩:=hb
   have hG1:0<jU kv den:=by omega
   generalize hGe:jU kv den=G at *
   have hdm:=zp1 hd1
   have hdp:1<=den.tdiv G:=by
    rcases Int.lt_or_le 0 (den.tdiv G)with h|h
    ·omega
    ·have:=Int.mul_nonneg (show 0<=-(den.tdiv G) by omega) (Int.le_of_lt hG1)
     rw[Int.neg_mul,hdm] at this;omega
   have hT:Qp kv den=(zG ((kv.filter nz).map (·.1))).map λr=>((zb (kv.filter nz) r).tdiv G,r):=by unfold Qp zp;rw[hGe]
   rw[hT] at hl hb2 h2
   subst h1
   subst h2
   have hsp:=zT ((kv.filter nz).map (·.1))
   have hss:(zG ((kv.filter nz).map (·.1))).Pairwise (λa b=>a<b):=by
    have hnd:(zG ((kv.filter nz).map (·.1))).Nodup:=(hsp.nodup_iff).2 hn'
    exact(List.Pairwise.and (ZP _) hnd).imp (λh=>by omega)
   have hmem:∀r∈zG ((kv.filter nz).map (·.1)),r∈(kv.filter nz).map (·.1):=λr hm=>hsp.mem_iff.1 hm
   unfold js
   simp only[Bool.and_eq_true,decide_eq_true_eq]
   refine⟨⟨⟨by simp[zz];omega,by omega⟩,?_⟩,?_⟩
   ·refine jbg6 (f:=λr=>(zb (kv.filter nz) r).tdiv G) _ 0 hss (λr hm=>?_)
    have hro:=hr' r (hmem r hm)
    have hbt:¬jW ((zb (kv.filter nz) r).tdiv G,r)=true:=hb2 _ (List.mem_map_of_mem hm)
    obtain⟨p,hp,hpe⟩:=List.mem_map.1 (hmem r hm)
    have hg:=zr hn' p hp
    rw[hpe] at hg
    have hc:=zp1 (jak9 (r:=r) hd2)
    refine⟨by have:=hro.1;omega,hro,λe=>?_,?_⟩
    ·rw[e,Int.zero_mul,hg] at hc;exact hz p hp hc.symm
    ·unfold jW at hbt
     rw[Bool.or_eq_true,not_or] at hbt
     have:=hbt.2
     simpa [zz] using this
   ·have hsc:=jaz6 G.toNat (den.tdiv G::((zG ((kv.filter nz).map (·.1))).map λr=>((zb (kv.filter nz) r).tdiv G,r)).map (·.1))
    rw[Int.toNat_of_nonneg (Int.le_of_lt hG1),List.map_cons,hdm,List.map_map,List.map_map] at hsc
    have e1:(zG ((kv.filter nz).map (·.1))).map (((λx=>x*G)∘λx:Int×Int=>x.1)∘λr=>((zb (kv.filter nz) r).tdiv G,r))=(zG ((kv.filter nz).map (·.1))).map (zb (kv.filter nz)):=
     List.map_congr_left λr _=>zp1 (jak9 (r:=r) hd2)
    rw[e1] at hsc
    have e2:jM (den::(zG ((kv.filter nz).map (·.1))).map (zb (kv.filter nz)))=G.toNat:=by
     have p1:(den::(zG ((kv.filter nz).map (·.1))).map (zb (kv.filter nz))).Perm ((kv.filter nz).map (·.2)++[den]):=by
      refine((hsp.map _).cons den).trans ?_
      rw[jbm9 hn']
      exact(List.perm_append_singleton den _).symm
     rw[jh5 p1]
     omega
    rw[e2] at hsc
    have:0<G.toNat:=by omega
    have h5:1*G.toNat=jM (den.tdiv G::((zG ((kv.filter nz).map (·.1))).map λr=>((zb (kv.filter nz) r).tdiv G,r)).map (·.1))*G.toNat:=by omega
    exact(Nat.eq_of_mul_eq_mul_right this h5).symm
theorem jd1:∀(l kv:List (Int×Int)) (m:Int),(∀r∈kv.map (·.1),zu r)->(∀t∈l,t.2<=1000)->∀r∈(ju kv l m).map (·.1),zu r
 | [],_,_,h,_=>h
 | t::l,kv,m,h,ht=>by
  have h1:∀r∈(addRoot kv (t.1*m) t.2).map (·.1),zu r:=by
   unfold addRoot
   split
   ·rename_i h0
    rw[jh2]
    split
    ·exact h
    ·intro r hr
     rcases List.mem_append.1 hr with h2|h2
     ·exact h r h2
     ·simp only[List.mem_singleton] at h2
      subst h2
      have hn:1<=t.2.toNat:=by omega
      obtain⟨_,g2,_,g4⟩:=JR t.2.toNat hn
      have g5:=(za7 t.2.toNat hn).2
      have:=ht t (by simp)
      exact⟨by omega,by omega,by rw[Int.toNat_natCast];exact g2⟩
   ·exact h
  exact jd1 l _ m h1 (λu hu=>ht u (by simp[hu]))
theorem jar0{d:Int}{ts:List (Int×Int)}(h:js d ts=true):∀t∈ts,t.2<=1000:=λt ht=>((Jd h).1 t ht).2.1
theorem jas1{xd yd m d:Int}{xt yt ts:List (Int×Int)}(h:jL xd xt yd yt m=(d,ts,0)):js d ts=true:=by
 obtain⟨h1,h2,_⟩:=jbr2 h
 have hx:=jz h1;have hy:=jz h2
 unfold jL at h
 rw[h1,h2] at h
 simp only[Bool.and_self,if_true] at h
 exact jar4 (Ze yt _ _ (Ze xt [] _ (by simp))) (jd1 yt _ _ (jd1 xt [] _ (by simp) (jar0 h1)) (jar0 h2)) (Int.mul_pos (by omega) (by omega)) h
