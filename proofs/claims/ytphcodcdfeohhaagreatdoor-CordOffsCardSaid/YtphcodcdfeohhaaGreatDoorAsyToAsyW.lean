import Derived.Test.YtphcodcdfeohhaaGreatDoorSignMToSignB
import Derived.Test.YtphcodcdfeohhaaGreatDoorLinAToLinD
import Derived.Test.YtphcodcdfeohhaaGreatDoorSignDToOrdA
import Derived.Test.YtphcodcdfeohhaaGreatDoorProdAToProdM
set_option linter.unusedVariables false
set_option linter.unusedSimpArgs false
namespace Go.Proofs.YtphcodcdfeohhaaGreatDoor
theorem jdd3(k:Nat):k<=bits k:=by
 induction k with
 | zero=>omega
 | succ k ih=>rw[jdj3];have:=js8 k;omega
theorem jfg7{j k:Nat}(h:j<=k):bits j<=bits k:=by
 obtain⟨i,rfl⟩:=Nat.le.dest h
 rw[jak6]
 exact Nat.le_mul_of_pos_right _ (js8 i)
theorem jdv6(C:Int):∃k0:Nat,∀k,k0<=k->C<=(bits k:Int):=⟨C.toNat,fun k hk=>by
 have:=jdd3 C.toNat;have:=jfg7 hk;omega⟩
theorem js0(k:Nat):0<(bits k:Int):=by have:=js8 k;omega
def Bdd(f:Nat->Int):Prop:=∃C:Int,∀k,-C<=f k/\f k<=C
def jf8(f g:Nat->Int):Prop:=Bdd fun k=>f k-g k
def jg4(f:Nat->Int):Prop:=∃(D:Int) (k0:Nat),0<D/\∀k,k0<=k->(bits k:Int)<=D*f k
theorem Bdd.nonneg{f:Nat->Int}(h:Bdd f):∃C:Int,0<=C/\∀k,-C<=f k/\f k<=C:=by
 obtain⟨C,h⟩:=h
 exact⟨C,by have:=h 0;omega,h⟩
theorem jan7{a b A B:Int}(ha:-A<=a/\a<=A)(hb:-B<=b/\b<=B):-(A*B)<=a*b/\a*b<=A*B:=by
 have hA:0<=A:=by omega
 have hB:0<=B:=by omega
 rcases Int.le_total 0 a with h|h<;>rcases Int.le_total 0 b with h'|h'
 ·have:=Int.mul_le_mul ha.2 hb.2 h' hA
  have:=Int.mul_nonneg h h'
  omega
 ·have h1:=Int.mul_le_mul ha.2 (show -b<=B by omega) (by omega) hA
  have h2:=Int.mul_nonneg h (show 0<=-b by omega)
  rw[Int.mul_neg] at h1 h2
  omega
 ·have h1:=Int.mul_le_mul (show -a<=A by omega) hb.2 h' hA
  have h2:=Int.mul_nonneg (show 0<=-a by omega) h'
  rw[Int.neg_mul] at h1 h2
  omega
 ·have h1:=Int.mul_le_mul (show -a<=A by omega) (show -b<=B by omega) (by omega) hA
  have h2:=Int.mul_nonneg (show 0<=-a by omega) (show 0<=-b by omega)
  rw[Int.neg_mul_neg] at h1 h2
  omega
theorem Bdd.zero:Bdd fun _=>0:=⟨0,fun _=>by dsimp only;omega⟩
theorem Bdd.add{f g:Nat->Int}(hf:Bdd f)(hg:Bdd g):Bdd fun k=>f k+g k:=by
 obtain⟨C,hf⟩:=hf;obtain⟨D,hg⟩:=hg
 exact⟨C+D,fun k=>by have:=hf k;have:=hg k;dsimp only;omega⟩
theorem Bdd.neg{f:Nat->Int}(hf:Bdd f):Bdd fun k=>-f k:=by
 obtain⟨C,hf⟩:=hf
 exact⟨C,fun k=>by have:=hf k;dsimp only;omega⟩
theorem Bdd.smul{f:Nat->Int}(c:Int)(hf:Bdd f):Bdd fun k=>c*f k:=by
 obtain⟨C,hf⟩:=hf
 exact⟨(c.natAbs:Int)*C,fun k=>jan7 (A:=(c.natAbs:Int)) (by omega) (hf k)⟩
theorem Bdd.congr{f g:Nat->Int}(h:∀k,f k=g k)(hf:Bdd f):Bdd g:=by
 obtain⟨C,hf⟩:=hf
 exact⟨C,fun k=>by have:=hf k;rwa [h k] at this⟩
theorem jf8.refl(f:Nat->Int):jf8 f f:=Bdd.zero.congr fun k=>by(try dsimp only);omega
theorem jf8.of_eq{f g:Nat->Int}(h:∀k,f k=g k):jf8 f g:=Bdd.zero.congr fun k=>by(try dsimp only);rw[h k];omega
theorem jf8.symm{f g:Nat->Int}(h:jf8 f g):jf8 g f:=h.neg.congr fun k=>by(try dsimp only);omega
theorem jf8.trans{f g h:Nat->Int}(h1:jf8 f g)(h2:jf8 g h):jf8 f h:=(Bdd.add h1 h2).congr fun k=>by(try dsimp only);omega
theorem jf8.add{f g f' g':Nat->Int}(h1:jf8 f f')(h2:jf8 g g'):jf8 (fun k=>f k+g k) (fun k=>f' k+g' k):=(Bdd.add h1 h2).congr fun k=>by(try dsimp only);omega
theorem jf8.sub{f g f' g':Nat->Int}(h1:jf8 f f')(h2:jf8 g g'):jf8 (fun k=>f k-g k) (fun k=>f' k-g' k):=(Bdd.add h1 (Bdd.neg h2)).congr fun k=>by(try dsimp only);omega
theorem jf8.smul{f f':Nat->Int}(c:Int)(h1:jf8 f f'):jf8 (fun k=>c*f k) (fun k=>c*f' k):=(Bdd.smul c h1).congr fun k=>by rw[Int.mul_sub]
theorem jf8.neg{f f':Nat->Int}(h1:jf8 f f'):jf8 (fun k=>-f k) (fun k=>-f' k):=(Bdd.neg h1).congr fun k=>by(try dsimp only);omega
theorem jg4.pos{f:Nat->Int}{D:Int}{k:Nat}(hD:0<D)(h:(bits k:Int)<=D*f k):0<f k:=by
 have:=js0 k
 rcases Int.lt_or_le 0 (f k)with h1|h1
 ·exact h1
 ·have:=Int.mul_nonneg (Int.le_of_lt hD) (show 0<=-f k by omega)
  rw[Int.mul_neg] at this
  omega
theorem jg4.congr{f g:Nat->Int}(h:∀k,f k=g k)(hf:jg4 f):jg4 g:=by
 obtain⟨D,k0,hD,hf⟩:=hf
 exact⟨D,k0,hD,fun k hk=>by rw[<-h k];exact hf k hk⟩
theorem jg4.add{f g:Nat->Int}(hf:jg4 f)(hg:jg4 g):jg4 fun k=>f k+g k:=by
 obtain⟨D,k0,hD,hf⟩:=hf;obtain⟨E,j0,hE,hg⟩:=hg
 refine⟨D,k0+j0,hD,fun k hk=>?_⟩
 have h1:=hf k (by omega);have h2:=jg4.pos hE (hg k (by omega))
 have:=Int.mul_nonneg (Int.le_of_lt hD) (Int.le_of_lt h2)
 rw[Int.mul_add];omega
theorem jg4.near{f g:Nat->Int}(hf:jg4 f)(h:jf8 f g):jg4 g:=by
 obtain⟨D,k0,hD,hf⟩:=hf
 obtain⟨C,hC0,hC⟩:=h.nonneg
 obtain⟨j0,hj⟩:=jdv6 (2*(D*C))
 refine⟨2*D,k0+j0,by omega,fun k hk=>?_⟩
 have h1:=hf k (by omega);have h2:=hj k (by omega)
 have h3:=Int.mul_le_mul_of_nonneg_left (show f k<=g k+C by have:=(hC k).2;omega) (Int.le_of_lt hD)
 rw[Int.mul_add] at h3
 rw[Int.mul_assoc]
 omega
theorem jg4.smul{f:Nat->Int}{c:Int}(hc:0<c)(hf:jg4 f):jg4 fun k=>c*f k:=by
 obtain⟨D,k0,hD,hf⟩:=hf
 refine⟨D,k0,hD,fun k hk=>?_⟩
 have h1:=hf k hk
 have h2:=jg4.pos hD h1
 have h3:=Int.mul_le_mul_of_nonneg_left (Int.mul_le_mul_of_nonneg_right (show 1<=c by omega) (Int.le_of_lt h2)) (Int.le_of_lt hD)
 rw[Int.one_mul] at h3
 dsimp only
 omega
theorem jg4.unsmul{f:Nat->Int}{c:Int}(hc:0<c)(hf:jg4 fun k=>c*f k):jg4 f:=by
 obtain⟨D,k0,hD,hf⟩:=hf
 refine⟨D*c,k0,Int.mul_pos hD hc,fun k hk=>?_⟩
 rw[Int.mul_assoc]
 exact hf k hk
theorem jg4.not_bdd{f:Nat->Int}(hf:jg4 f)(h:Bdd f):False:=by
 have h0:jg4 fun _=>(0:Int):=hf.near (Bdd.congr (fun k=>by(try dsimp only);omega) h)
 obtain⟨D,k0,hD,h0⟩:=h0
 have:=h0 k0 (Nat.le_refl _)
 have:=js0 k0
 rw[Int.mul_zero] at *
 omega
theorem jg4.not_neg{f:Nat->Int}(hf:jg4 f)(h:jg4 fun k=>-f k):False:=
 (hf.add h).not_bdd (Bdd.zero.congr fun k=>by(try dsimp only);omega)
def Sg(f:Nat->Int)(s:Int):Prop:=(s=1/\jg4 f)\/(s=-1/\jg4 fun k=>-f k)\/(s=0/\Bdd f)
theorem Sg.unique{f:Nat->Int}{s s':Int}(h:Sg f s)(h':Sg f s'):s=s':=by
 rcases h with⟨rfl,h⟩|⟨rfl,h⟩|⟨rfl,h⟩<;>rcases h' with⟨rfl,h'⟩|⟨rfl,h'⟩|⟨rfl,h'⟩
 ·rfl
 ·exact(h.not_neg h').elim
 ·exact(h.not_bdd h').elim
 ·exact(h'.not_neg h).elim
 ·rfl
 ·exact(h.not_bdd h'.neg).elim
 ·exact(h'.not_bdd h).elim
 ·exact(h'.not_bdd h.neg).elim
 ·rfl
theorem Sg.near{f g:Nat->Int}{s:Int}(h:Sg f s)(hn:jf8 f g):Sg g s:=by
 rcases h with⟨rfl,h⟩|⟨rfl,h⟩|⟨rfl,h⟩
 ·exact .inl ⟨rfl,h.near hn⟩
 ·exact .inr (.inl ⟨rfl,h.near hn.neg⟩)
 ·exact .inr (.inr ⟨rfl,(Bdd.add h hn.symm).congr fun k=>by(try dsimp only);omega⟩)
theorem Sg.neg{f:Nat->Int}{s:Int}(h:Sg f s):Sg (fun k=>-f k) (-s):=by
 rcases h with⟨rfl,h⟩|⟨rfl,h⟩|⟨rfl,h⟩
 ·exact .inr (.inl ⟨rfl,h.congr fun k=>by(try dsimp only);omega⟩)
 ·exact .inl ⟨rfl,h⟩
 ·exact .inr (.inr ⟨rfl,h.neg⟩)
theorem Sg.smul{f:Nat->Int}{s c:Int}(hc:0<c)(h:Sg f s):Sg (fun k=>c*f k) s:=by
 rcases h with⟨rfl,h⟩|⟨rfl,h⟩|⟨rfl,h⟩
 ·exact .inl ⟨rfl,h.smul hc⟩
 ·exact .inr (.inl ⟨rfl,(h.smul hc).congr fun k=>by rw[Int.mul_neg]⟩)
 ·exact .inr (.inr ⟨rfl,h.smul c⟩)
theorem Sg.unsmul{f:Nat->Int}{s c:Int}(hc:0<c)(h:Sg (fun k=>c*f k) s):Sg f s:=by
 rcases h with⟨rfl,h⟩|⟨rfl,h⟩|⟨rfl,h⟩
 ·exact .inl ⟨rfl,h.unsmul hc⟩
 ·exact .inr (.inl ⟨rfl,jg4.unsmul hc (h.congr fun k=>by rw[Int.mul_neg])⟩)
 ·refine .inr (.inr ⟨rfl,?_⟩)
  obtain⟨C,hC0,hC⟩:=h.nonneg
  refine⟨C,fun k=>?_⟩
  have h1:=hC k
  have h2:∀x:Int,0<=x->x<=c*x:=fun x hx=>by
   have:=Int.mul_le_mul_of_nonneg_right (show 1<=c by omega) hx
   omega
  rcases Int.le_total 0 (f k)with h3|h3
  ·have:=h2 _ h3;omega
  ·have:=h2 (-f k) (by omega);rw[Int.mul_neg] at this;omega
theorem Sg.add{f g:Nat->Int}{s t:Int}(hf:Sg f s)(hg:Sg g t)(h:0<=s)(h':0<=t):Sg (fun k=>f k+g k) (max s t):=by
 rcases hf with⟨rfl,hf⟩|⟨rfl,hf⟩|⟨rfl,hf⟩
 ·rcases hg with⟨rfl,hg⟩|⟨rfl,hg⟩|⟨rfl,hg⟩
  ·exact .inl ⟨rfl,hf.add hg⟩
  ·omega
  ·exact .inl ⟨rfl,hf.near (Bdd.congr (fun k=>by(try dsimp only);omega) hg.neg)⟩
 ·omega
 ·rcases hg with⟨rfl,hg⟩|⟨rfl,hg⟩|⟨rfl,hg⟩
  ·exact .inl ⟨rfl,hg.near (Bdd.congr (fun k=>by(try dsimp only);omega) hf.neg)⟩
  ·omega
  ·exact .inr (.inr ⟨rfl,hf.add hg⟩)
def OB(f:Nat->Int):Prop:=∃C:Int,∀k,-(C*bits k)<=f k/\f k<=C*bits k
def jp4(f g h:Nat->Int):Prop:=∃C:Int,∀k,-(C*bits k)<=f k*g k-bits k*h k/\f k*g k-bits k*h k<=C*bits k
theorem OB.of_bdd{f:Nat->Int}(h:Bdd f):OB f:=by
 obtain⟨C,hC0,h⟩:=h.nonneg
 refine⟨C,fun k=>?_⟩
 have:=h k
 have:=Int.mul_le_mul_of_nonneg_left (show 1<=(bits k:Int) by have:=js0 k;omega) hC0
 omega
theorem OB.add{f g:Nat->Int}(hf:OB f)(hg:OB g):OB fun k=>f k+g k:=by
 obtain⟨C,hf⟩:=hf;obtain⟨D,hg⟩:=hg
 exact⟨C+D,fun k=>by have:=hf k;have:=hg k;dsimp only;rw[Int.add_mul];omega⟩
theorem OB.smul{f:Nat->Int}(c:Int)(hf:OB f):OB fun k=>c*f k:=by
 obtain⟨C,hf⟩:=hf
 exact⟨(c.natAbs:Int)*C,fun k=>by rw[Int.mul_assoc];exact jan7 (A:=(c.natAbs:Int)) (by omega) (hf k)⟩
theorem OB.near{f g:Nat->Int}(hf:OB f)(h:jf8 f g):OB g:=by
 have h1:=hf.add (OB.smul (-1) (OB.of_bdd h))
 obtain⟨C,h1⟩:=h1
 exact⟨C,fun k=>by have:=h1 k;dsimp only at this;omega⟩
theorem jp4.comm{f g h:Nat->Int}(H:jp4 f g h):jp4 g f h:=by
 obtain⟨C,H⟩:=H
 exact⟨C,fun k=>by rw[Int.mul_comm (g k)];exact H k⟩
theorem jp4.add{f g h g' h':Nat->Int}(H:jp4 f g h)(H':jp4 f g' h'):jp4 f (fun k=>g k+g' k) (fun k=>h k+h' k):=by
 obtain⟨C,H⟩:=H;obtain⟨D,H'⟩:=H'
 exact⟨C+D,fun k=>by have:=H k;have:=H' k;dsimp only;rw[Int.mul_add,Int.mul_add,Int.add_mul];omega⟩
theorem jp4.smul{f g h:Nat->Int}(c:Int)(H:jp4 f g h):jp4 f (fun k=>c*g k) (fun k=>c*h k):=by
 obtain⟨C,H⟩:=H
 refine⟨(c.natAbs:Int)*C,fun k=>?_⟩
 have:=jan7 (A:=(c.natAbs:Int)) (a:=c) (by omega) (H k)
 rw[<-Int.mul_assoc,Int.mul_sub] at this
 rw[Int.mul_left_comm (f k),Int.mul_left_comm (bits k:Int)]
 exact this
theorem jp4.near{f g h g':Nat->Int}(H:jp4 f g h)(hf:OB f)(hn:jf8 g g'):jp4 f g' h:=by
 obtain⟨C,H⟩:=H;obtain⟨D,hf⟩:=hf;obtain⟨E,hn⟩:=hn
 refine⟨C+D*E,fun k=>?_⟩
 have h1:=H k
 have h2:=jan7 (hf k) (hn k)
 rw[Int.mul_sub,Int.mul_right_comm] at h2
 rw[Int.add_mul]
 omega
theorem zb5{a C:Int}{k:Nat}(h:bits k*a<=C*bits k):a<=C:=by
 rw[Int.mul_comm] at h
 exact Int.le_of_mul_le_mul_right h (js0 k)
theorem jp4.unique{f g h h':Nat->Int}(H:jp4 f g h)(H':jp4 f g h'):jf8 h h':=by
 obtain⟨C,H⟩:=H;obtain⟨D,H'⟩:=H'
 refine⟨C+D,fun k=>?_⟩
 have h1:=H k;have h2:=H' k
 constructor
 ·have:=zb5 (a:=h' k-h k) (C:=C+D) (k:=k) (by rw[Int.mul_sub,Int.add_mul];omega)
  dsimp only
  omega
 ·exact zb5 (k:=k) (by rw[Int.mul_sub,Int.add_mul];omega)
theorem jp4.grows{f g h:Nat->Int}(H:jp4 f g h)(hf:jg4 f)(hg:jg4 g):jg4 h:=by
 obtain⟨C,H⟩:=H;obtain⟨D,k0,hD,hf⟩:=hf;obtain⟨E,j0,hE,hg⟩:=hg
 have h1:jg4 fun k=>h k+C:=by
  refine⟨D*E,k0+j0,Int.mul_pos hD hE,fun k hk=>?_⟩
  have a1:=hf k (by omega);have a2:=hg k (by omega)
  have b:=js0 k
  have a3:=Int.mul_le_mul a1 a2 (Int.le_of_lt b) (by omega)
  have a4:D*f k*(E*g k)=D*E*(f k*g k):=by rw[Int.mul_assoc,Int.mul_assoc,Int.mul_left_comm (f k)]
  have a5:=Int.mul_le_mul_of_nonneg_left (show f k*g k<=bits k*(h k+C) by have:=(H k).2;rw[Int.mul_add,Int.mul_comm (bits k:Int) C];omega) (Int.le_of_lt (Int.mul_pos hD hE))
  rw[a4] at a3
  have a6:=Int.le_trans a3 a5
  rw[Int.mul_left_comm] at a6
  exact Int.le_of_mul_le_mul_left a6 b
 exact h1.near ⟨C.natAbs,fun k=>by dsimp only;omega⟩
theorem jp4.neg{f g h:Nat->Int}(H:jp4 f g h):jp4 f (fun k=>-g k) (fun k=>-h k):=by
 have:=H.smul (-1)
 obtain⟨C,this⟩:=this
 exact⟨C,fun k=>by have:=this k;dsimp only at this ⊢;rwa [Int.neg_one_mul,Int.neg_one_mul] at this⟩
theorem jp4.bdd{f g h:Nat->Int}(H:jp4 f g h)(hf:Bdd f)(hg:OB g):Bdd h:=by
 obtain⟨C,H⟩:=H;obtain⟨D,hf⟩:=hf;obtain⟨E,hg⟩:=hg
 refine⟨C+D*E,fun k=>?_⟩
 have h1:=H k
 have h2:=jan7 (hf k) (hg k)
 rw[<-Int.mul_assoc] at h2
 constructor
 ·have:=zb5 (a:=-h k) (C:=C+D*E) (k:=k) (by rw[Int.mul_neg,Int.add_mul];omega)
  omega
 ·exact zb5 (k:=k) (by rw[Int.add_mul];omega)
theorem jp4.sg{f g h:Nat->Int}{s t:Int}(H:jp4 f g h)(hf:Sg f s)(hg:Sg g t)(of:OB f)(og:OB g):Sg h (s*t):=by
 rcases hf with⟨rfl,hf⟩|⟨rfl,hf⟩|⟨rfl,hf⟩
 ·rcases hg with⟨rfl,hg⟩|⟨rfl,hg⟩|⟨rfl,hg⟩
  ·exact .inl ⟨rfl,H.grows hf hg⟩
  ·exact .inr (.inl ⟨rfl,H.neg.grows hf hg⟩)
  ·exact .inr (.inr ⟨rfl,H.comm.bdd hg of⟩)
 ·rcases hg with⟨rfl,hg⟩|⟨rfl,hg⟩|⟨rfl,hg⟩
  ·exact .inr (.inl ⟨rfl,H.comm.neg.grows hg hf⟩)
  ·exact .inl ⟨rfl,(H.neg.comm.neg.grows hg hf).congr fun k=>by(try dsimp only);omega⟩
  ·exact .inr (.inr ⟨rfl,H.comm.bdd hg of⟩)
 ·exact .inr (.inr ⟨by omega,H.bdd hf og⟩)
def rtA(r:Int)(k:Nat):Int:=(isq (r.toNat*(bits k*bits k)):Int)
def jy2(kv:List (Int×Int))(k:Nat):Int:=(kv.map fun p=>p.2*rtA p.1 k).sum
def jj2(ts:List (Int×Int))(k:Nat):Int:=(ts.map fun t=>t.1*rtA t.2 k).sum
theorem jfa2(k:Nat):jj2 [] k=0:=rfl
theorem js2(t:Int×Int)(ts:List (Int×Int))(k:Nat):jj2 (t::ts) k=t.1*rtA t.2 k+jj2 ts k:=by simp[jj2]
theorem jbg4(k:Nat):jy2 [] k=0:=rfl
theorem jp8(t:Int×Int)(ts:List (Int×Int))(k:Nat):jy2 (t::ts) k=t.2*rtA t.1 k+jy2 ts k:=by simp[jy2]
theorem jbs3(kv:List (Int×Int))(k:Nat):jj2 (kv.map jv8) k=jy2 kv k:=by
 induction kv with
 | nil=>rfl
 | cons p t ih=>rw[List.map_cons,js2,jp8,ih];rfl
theorem jad3:∀(kv:List (Int×Int)) (r c:Int) (k:Nat),jy2 (addS kv r c) k=jy2 kv k+c*rtA r k
 | [],r,c,k=>by simp[addS,jy2]
 | (a,x)::t,r,c,k=>by
  unfold addS
  split
  ·rename_i h
   subst h
   rw[jp8,jp8]
   dsimp only
   rw[Int.add_mul];omega
  ·rw[jp8,jp8,jad3 t r c k];omega
theorem jad2:∀(l kv:List (Int×Int)) (m:Int) (k:Nat),jy2 (jg7 kv l m) k=jy2 kv k+m*jj2 l k
 | [],kv,m,k=>by simp[jg7,jj2]
 | t::l,kv,m,k=>by
  have ih:=jad2 l (addS kv t.2 (t.1*m)) m k
  simp only[jg7,List.foldl_cons] at ih ⊢
  rw[ih,jad3,js2,Int.mul_add,<-Int.mul_assoc,Int.mul_comm m t.1];omega
theorem jbg8(xt:List (Int×Int))(m:Int)(yt:List (Int×Int))(j:Int)(k:Nat):jj2 (jh2 xt m yt j) k=m*jj2 xt k-j*jj2 yt k:=by
 unfold jh2 jp0
 rw[jbs3,jad2,jad2,jbg4,Int.neg_mul];omega
theorem jcm0(kv:List (Int×Int))(k:Nat):jy2 (kv.filter nz) k=jy2 kv k:=by
 induction kv with
 | nil=>rfl
 | cons p t ih=>
  rw[List.filter_cons]
  by_cases h:p.2=0
  ·have e:nz p=false:=by simp[nz,h]
   rw[e,jp8,h,Int.zero_mul]
   simpa using ih
  ·have e:nz p=true:=by simp[nz,h]
   rw[e,if_pos rfl,jp8,jp8,ih]
theorem jah6(r B:Nat):isq (r*(B*B))<=r*B:=by
 have h:=jy1 (r*(B*B))
 refine zn1 h ?_
 have:r*(B*B)<=r*B*(r*B):=by
  rcases Nat.eq_zero_or_pos r with h0|h0
  ·subst h0;simp
  ·calc r*(B*B)<=r*r*(B*B):=Nat.mul_le_mul_right _ (Nat.le_mul_of_pos_left r h0)
    _=r*B*(r*B):=by rw[Nat.mul_mul_mul_comm]
 have h2:r*B*(r*B)<(r*B+1)*(r*B+1):=Nat.mul_self_lt_mul_self (Nat.lt_succ_self (r*B))
 exact Nat.lt_of_le_of_lt this h2
theorem jan5{a b:Nat}(h:a*a<b*b):a<b:=by
 rcases Nat.lt_or_ge a b with h1|h1
 ·exact h1
 ·have:=Nat.mul_self_le_mul_self h1;omega
theorem jda6(r:Int)(k:Nat):0<=rtA r k:=by unfold rtA;omega
theorem jfr5(r:Int)(k:Nat):rtA r k<=r.toNat*bits k:=by
 unfold rtA
 have:=jah6 r.toNat (bits k)
 exact_mod_cast this
theorem jfr4(r:Int):OB (rtA r):=⟨(r.toNat:Int),fun k=>by
 have h1:=jda6 r k;have h2:=jfr5 r k
 omega⟩
theorem jdf4:∀(ts:List (Int×Int)),OB (jj2 ts)
 | []=>OB.of_bdd (Bdd.zero.congr fun k=>rfl)
 | t::ts=>by
  obtain⟨C,h⟩:=OB.add (OB.smul t.1 (jfr4 t.2)) (jdf4 ts)
  exact⟨C,fun k=>by have:=h k;rw[js2];exact this⟩
theorem jdr7{n:Nat}(h:1<=n):jf8 (rtA (n:Int)) (fun k=>((jb0 n).1:Int)*rtA ((jb0 n).2:Int) k):=by
 obtain⟨h1,_,h3,_⟩:=jk8 n h
 refine⟨((jb0 n).1:Int),fun k=>?_⟩
 dsimp only
 unfold rtA
 rw[Int.toNat_natCast,Int.toNat_natCast]
 generalize (jb0 n).1=s at *
 generalize (jb0 n).2=r at *
 generalize bits k=B
 have e:n*(B*B)=r*(B*B)*(s*s):=by rw[<-h1];simp only[Nat.mul_comm,Nat.mul_left_comm,Nat.mul_assoc]
 rw[e]
 have g1:=jat0 (r*(B*B)) s
 have g2:isq (r*(B*B)*(s*s))<=s*isq (r*(B*B))+s:=by
  have:=(jy0 (r*(B*B))).lt
  generalize isq (r*(B*B))=q at *
  have h4:r*(B*B)*(s*s)<((q+1)*s)*((q+1)*s):=by
   rw[Nat.mul_mul_mul_comm (q+1) s (q+1) s]
   exact Nat.mul_lt_mul_of_pos_right this (Nat.mul_pos h3 h3)
  have h5:=jan5 (Nat.lt_of_le_of_lt (jy1 _) h4)
  have h6:(q+1)*s=s*q+s:=by rw[Nat.add_mul,Nat.one_mul,Nat.mul_comm]
  rw[h6] at h5
  omega
 have c1:((isq (r*(B*B))*s:Nat):Int)=(s:Int)*(isq (r*(B*B)):Int):=by rw[Int.natCast_mul,Int.mul_comm]
 have c2:((s*isq (r*(B*B)):Nat):Int)=(s:Int)*(isq (r*(B*B)):Int):=Int.natCast_mul _ _
 generalize (s:Int)*(isq (r*(B*B)):Int)=z at *
 omega
theorem jcb2(kv:List (Int×Int))(c r:Int):jf8 (jy2 (addRoot kv c r)) (fun k=>jy2 kv k+c*rtA r k):=by
 unfold addRoot
 split
 ·rename_i h
  obtain⟨n,rfl⟩:=Int.eq_ofNat_of_zero_le (Int.le_of_lt h)
  have hn:1<=n:=by omega
  rw[Int.toNat_natCast]
  exact(jf8.of_eq (g:=fun k=>jy2 kv k+c*(((jb0 n).1:Int)*rtA ((jb0 n).2:Int) k)) fun k=>by rw[jad3,Int.mul_assoc]).trans ((jf8.refl (jy2 kv)).add ((jdr7 hn).symm.smul c))
 ·rename_i h
  refine jf8.of_eq fun k=>?_
  have:r.toNat=0:=by omega
  have e:isq 0=0:=jaa8 0
  unfold rtA
  rw[this,Nat.zero_mul,e];simp
theorem jab0:∀(l kv:List (Int×Int)) (m:Int),jf8 (jy2 (jb6 kv l m)) (fun k=>jy2 kv k+m*jj2 l k)
 | [],kv,m=>jf8.of_eq fun k=>by simp[jb6,jj2]
 | t::l,kv,m=>by
  have ih:=jab0 l (addRoot kv (t.1*m) t.2) m
  simp only[jb6,List.foldl_cons] at ih ⊢
  refine ih.trans (((jcb2 kv (t.1*m) t.2).add (jf8.refl fun k=>m*jj2 l k)).trans (jf8.of_eq fun k=>?_))
  (try dsimp only)
  rw[js2,Int.mul_add,<-Int.mul_assoc m,Int.mul_comm m t.1];omega
theorem jdp5{l l':List Int}(h:l.Perm l'):l.sum=l'.sum:=by
 induction h with
 | nil=>rfl
 | cons x _ ih=>simp[ih]
 | swap x y l=>simp only[List.sum_cons];omega
 | trans _ _ ih1 ih2=>rw[ih1,ih2]
theorem jca5{a x r:Int}{t:List (Int×Int)}(h:r≠a):jd4 ((a,x)::t) r=jd4 t r:=if_neg h
theorem jcr2:∀(kv:List (Int×Int)) (k:Nat),(kv.map (·.1)).Nodup->((kv.map (·.1)).map fun r=>jd4 kv r*rtA r k).sum=jy2 kv k
 | [],_,_=>rfl
 | (a,x)::t,k,h=>by
  rw[List.map_cons,List.nodup_cons] at h
  rw[jp8,List.map_cons,List.map_cons,List.sum_cons,<-jcr2 t k h.2]
  congr 1
  ·show(if a=a then x else _)*_=_
   rw[if_pos rfl]
  ·congr 1
   refine List.map_congr_left fun r hr=>?_
   rw[jca5 (fun(e:r=a)=>h.1 (by rw[<-e];exact hr))]
theorem jbh7{kv:List (Int×Int)}{den:Int}(h:den≠0):jd8 kv den≠0:=by
 have:=zb4 (l:=(kv.filter nz).map (·.2)++[den]) (x:=den) (by simp) h
 unfold jd8
 split<;>omega
theorem jat5{kv:List (Int×Int)}{den:Int}:jd8 kv den∣den/\∀p∈kv.filter nz,jd8 kv den∣p.2:=by
 have h1:=zb3 ((kv.filter nz).map (·.2)++[den])
 unfold jd8
 constructor
 ·have:=Int.natAbs_dvd_natAbs.1 (show((jd2 ((kv.filter nz).map (·.2)++[den]):Nat):Int).natAbs∣den.natAbs by rw[Int.natAbs_natCast];exact h1 den (by simp))
  split
  ·exact(Int.neg_dvd).2 this
  ·exact this
 ·intro p hp
  have:=Int.natAbs_dvd_natAbs.1 (show((jd2 ((kv.filter nz).map (·.2)++[den]):Nat):Int).natAbs∣p.2.natAbs by rw[Int.natAbs_natCast];exact h1 p.2 (List.mem_append_left _ (List.mem_map_of_mem hp)))
  split
  ·exact(Int.neg_dvd).2 this
  ·exact this
theorem jcy7{kv:List (Int×Int)}{den:Int}(hn:(kv.map (·.1)).Nodup)(k:Nat):jd8 kv den*jj2 (zg2 kv den) k=jy2 kv k:=by
 rw[<-jcm0 kv k]
 have hn':((kv.filter nz).map (·.1)).Nodup:=List.Nodup.sublist (List.filter_sublist.map _) hn
 rw[<-jcr2 _ k hn']
 unfold zg2 jg5 jj2
 have hd:=(jat5 (kv:=kv) (den:=den)).2
 generalize jd8 kv den=G at *
 generalize kv.filter nz=l at *
 have hp:=jdp5 ((jh6 (l.map (·.1))).map fun r=>jd4 l r*rtA r k)
 rw[<-hp]
 generalize jj6 (l.map (·.1))=rs
 rw[List.map_map]
 induction rs with
 | nil=>simp
 | cons r rs ih=>
  rw[List.map_cons,List.map_cons,List.sum_cons,List.sum_cons,Int.mul_add,ih]
  congr 1
  show G*((jd4 l r).tdiv G*rtA r k)=_
  rw[<-Int.mul_assoc]
  congr 1
  have:G∣jd4 l r:=by
   rcases jy7 l r with h|h
   ·rw[h];exact Int.dvd_zero G
   ·exact hd _ h
  exact Int.mul_tdiv_cancel' this
theorem jfc5 {kv:List (Int×Int)} {den d:Int} {ts:List (Int×Int)} (hn:(kv.map (·.1)).Nodup) (hd:den≠0) (h:jf3 kv den=(d,ts,0)) :
  ∃G,G≠0/\(0<den->0<G)/\den=d*G/\∀k,G*jj2 ts k=jy2 kv k:=by
 unfold jf3 at h
 split at h
 ·injection h with _ h;injection h with _ h;cases h
 ·split at h
  ·injection h with _ h;injection h with _ h;cases h
  ·injection h with h1 h
   injection h with h2 _
   subst h1;subst h2
   refine⟨jd8 kv den,jbh7 hd,fun hp=>?_,?_,fun k=>jcy7 hn k⟩
   ·have:=jbh7 (kv:=kv) hd
    unfold jd8 at this ⊢
    rw[if_neg (by omega)] at this ⊢
    omega
   ·exact(Int.tdiv_mul_cancel jat5.1).symm
theorem jy3:∀(l kv:List (Int×Int)) (m:Int),(kv.map (·.1)).Nodup->((jb6 kv l m).map (·.1)).Nodup
 | [],_,_,h=>h
 | t::l,kv,m,h=>by
  have h1:((addRoot kv (t.1*m) t.2).map (·.1)).Nodup:=by
   unfold addRoot
   split
   ·rw[zh9]
    split
    ·exact h
    ·rename_i h2;exact List.nodup_append.2 ⟨h,by simp,fun a ha b hb=>by simp at hb;subst hb;exact fun e=>h2 (by rw[<-e];exact ha)⟩
   ·exact h
  exact jy3 l _ m h1
theorem jbt7{xd yd m d:Int}{xt yt ts:List (Int×Int)}(h:jd6 xd xt yd yt m=(d,ts,0)):jb3 xd xt=true/\jb3 yd yt=true/\∃G,0<G/\xd*yd=d*G/\jf8 (fun k=>G*jj2 ts k) (fun k=>yd*jj2 xt k+m*xd*jj2 yt k):=by
 unfold jd6 at h
 split at h
 ·rename_i hn
  rw[Bool.and_eq_true] at hn
  have hx:=jb2 hn.1;have hy:=jb2 hn.2
  have hp:0<xd*yd:=Int.mul_pos (by omega) (by omega)
  obtain⟨G,_,h2,h3,h4⟩:=jfc5 (jy3 yt _ _ (jy3 xt [] _ (by simp))) (by omega) h
  refine⟨hn.1,hn.2,G,h2 hp,h3,(jf8.of_eq h4).trans ((jab0 yt _ _).trans (((jab0 xt [] yd).add (jf8.refl fun k=>m*xd*jj2 yt k)).trans (jf8.of_eq fun k=>?_)))⟩
  (try dsimp only)
  rw[jbg4];omega
 ·injection h with _ h;injection h with _ h;cases h
theorem jfr6{r q:Nat}(hr:1<=r)(g a b:Nat)(h1:r=a*g)(h2:q=b*g)(hg:1<=g):jp4 (rtA (r:Int)) (rtA (q:Int)) (fun k=>(g:Int)*rtA ((a*b:Nat):Int) k):=by
 refine⟨((r+q+g:Nat):Int),fun k=>?_⟩
 dsimp only
 unfold rtA
 rw[Int.toNat_natCast,Int.toNat_natCast,Int.toNat_natCast]
 have hB:=js8 k
 generalize bits k=B at *
 have l1:=jah6 r B
 have l2:=jah6 q B
 have e1:=jy1 (r*(B*B));have e2:=jy1 (q*(B*B));have e3:=jy1 (a*b*(B*B))
 have t1:=(jy0 (r*(B*B))).lt;have t2:=(jy0 (q*(B*B))).lt;have t3:=(jy0 (a*b*(B*B))).lt
 generalize isq (r*(B*B))=x at *
 generalize isq (q*(B*B))=y at *
 generalize isq (a*b*(B*B))=z at *
 have hv:r*(B*B)*(q*(B*B))=(B*g)*(B*g)*(a*b*(B*B)):=by
  rw[h1,h2];simp only[Nat.mul_comm,Nat.mul_left_comm,Nat.mul_assoc]
 have u1:(B*g*z)*(B*g*z)<((x+1)*(y+1))*((x+1)*(y+1)):=by
  calc (B*g*z)*(B*g*z)=(B*g)*(B*g)*(z*z):=by rw[Nat.mul_mul_mul_comm]
   _<=(B*g)*(B*g)*(a*b*(B*B)):=Nat.mul_le_mul_left _ e3
   _=r*(B*B)*(q*(B*B)):=hv.symm
   _<((x+1)*(x+1))*((y+1)*(y+1)):=Nat.mul_lt_mul'' t1 t2
   _=_:=by rw[Nat.mul_mul_mul_comm]
 have u2:(x*y)*(x*y)<(B*g*(z+1))*(B*g*(z+1)):=by
  calc (x*y)*(x*y)=(x*x)*(y*y):=by rw[Nat.mul_mul_mul_comm]
   _<=r*(B*B)*(q*(B*B)):=Nat.mul_le_mul e1 e2
   _=(B*g)*(B*g)*(a*b*(B*B)):=hv
   _<(B*g)*(B*g)*((z+1)*(z+1)):=Nat.mul_lt_mul_of_pos_left t3 (Nat.mul_pos (Nat.mul_pos hB hg) (Nat.mul_pos hB hg))
   _=_:=by rw[Nat.mul_mul_mul_comm]
 have u3:=jan5 u1
 have u4:=jan5 u2
 have w1:(x+1)*(y+1)=x*y+x+y+1:=by rw[Nat.add_mul,Nat.mul_add];omega
 have w2:B*g*(z+1)=B*g*z+g*B:=by rw[Nat.mul_add,Nat.mul_one,Nat.mul_comm g B]
 have w3:(r+q+g)*B=r*B+q*B+g*B:=by rw[Nat.add_mul,Nat.add_mul]
 have c1:(x:Int)*(y:Int)=((x*y:Nat):Int):=by simp
 have c2:(B:Int)*((g:Int)*(z:Int))=((B*g*z:Nat):Int):=by simp only[Int.natCast_mul];rw[Int.mul_assoc]
 have c3:(((r+q+g:Nat):Int)*(B:Int))=(((r+q+g)*B:Nat):Int):=by simp
 rw[c1,c2,c3]
 have hx0:1<=g*B:=Nat.mul_pos hg hB
 omega
def rowK(t:Int×Int)(b:List (Int×Int))(k:Nat):Int:=(b.map fun u=>zg7 t u*rtA (zt1 t u) k).sum
def tabK(a b:List (Int×Int))(k:Nat):Int:=(a.map fun t=>rowK t b k).sum
theorem jbg5:∀(b kv:List (Int×Int)) (t:Int×Int) (k:Nat),jy2 (jp1 kv t b) k=jy2 kv k+rowK t b k
 | [],kv,t,k=>by simp[jp1,rowK]
 | u::b,kv,t,k=>by
  have ih:=jbg5 b (addS kv (zt1 t u) (zg7 t u)) t k
  simp only[jp1,List.foldl_cons] at ih ⊢
  rw[ih,jad3]
  simp only[rowK,List.map_cons,List.sum_cons]
  omega
theorem jbg6:∀(a b kv:List (Int×Int)) (k:Nat),jy2 (jj3 kv a b) k=jy2 kv k+tabK a b k
 | [],b,kv,k=>by simp[jj3,tabK]
 | t::a,b,kv,k=>by
  have ih:=jbg6 a b (jp1 kv t b) k
  simp only[jj3,List.foldl_cons] at ih ⊢
  rw[ih,jbg5]
  simp only[tabK,List.map_cons,List.sum_cons]
  omega
theorem jfb3{t u:Int×Int}(ht:1<=t.2)(hu:1<=u.2):jp4 (fun k=>t.1*rtA t.2 k) (fun k=>u.1*rtA u.2 k) (fun k=>zg7 t u*rtA (zt1 t u) k):=by
 have hg1:=zb3 [t.2,u.2] t.2 (by simp)
 have hg2:=zb3 [t.2,u.2] u.2 (by simp)
 have hg3:=zb4 (l:=[t.2,u.2]) (x:=t.2) (by simp) (by omega)
 unfold zg7 zt1
 generalize jd2 [t.2,u.2]=g at *
 have e1:t.2.toNat=t.2.natAbs:=by omega
 have e2:u.2.toNat=u.2.natAbs:=by omega
 have h:=jfr6 (r:=t.2.toNat) (q:=u.2.toNat) (by omega) g (t.2.toNat/g) (u.2.toNat/g) (by rw[e1];exact(Nat.div_mul_cancel hg1).symm) (by rw[e2];exact(Nat.div_mul_cancel hg2).symm) hg3
 rw[Int.toNat_of_nonneg (show 0<=t.2 by omega),Int.toNat_of_nonneg (show 0<=u.2 by omega)] at h
 have h2:=((h.smul u.1).comm.smul t.1).comm
 obtain⟨C,h2⟩:=h2
 refine⟨C,fun k=>?_⟩
 have:=h2 k
 dsimp only at this ⊢
 rw[show t.1*u.1*(g:Int)*rtA ((t.2.toNat/g*(u.2.toNat/g):Nat):Int) k=t.1*(u.1*((g:Int)*rtA ((t.2.toNat/g*(u.2.toNat/g):Nat):Int) k)) by simp only[Int.mul_assoc]]
 exact this
theorem jp4.zero_r(f:Nat->Int):jp4 f (fun _=>0) (fun _=>0):=⟨0,fun k=>by dsimp only;rw[Int.mul_zero,Int.mul_zero];omega⟩
theorem jp4.congr{f g h f' g' h':Nat->Int}(H:jp4 f g h)(e1:∀k,f k=f' k)(e2:∀k,g k=g' k)(e3:∀k,h k=h' k):jp4 f' g' h':=by
 obtain⟨C,H⟩:=H
 exact⟨C,fun k=>by rw[<-e1,<-e2,<-e3];exact H k⟩
theorem jdf8 {t:Int×Int} (ht:1<=t.2):∀(b:List (Int×Int)),(∀u∈b,1<=u.2)->jp4 (fun k=>t.1*rtA t.2 k) (jj2 b) (rowK t b)
 | [],_=>(jp4.zero_r _).congr (fun _=>rfl) (fun _=>rfl) (fun _=>rfl)
 | u::b,h=>((jfb3 ht (h u (by simp))).add (jdf8 ht b (fun u hu=>h u (List.mem_cons_of_mem _ hu)))).congr (fun _=>rfl) (fun k=>(js2 u b k).symm) (fun k=>by simp[rowK])
theorem jdf9 {b:List (Int×Int)} (hb:∀u∈b,1<=u.2):∀(a:List (Int×Int)),(∀t∈a,1<=t.2)->jp4 (jj2 a) (jj2 b) (tabK a b)
 | [],_=>(jp4.zero_r _).comm.congr (fun _=>rfl) (fun _=>rfl) (fun _=>rfl)
 | t::a,h=>((jdf8 (h t (by simp)) b hb).comm.add (jdf9 hb a (fun u hu=>h u (List.mem_cons_of_mem _ hu))).comm).comm.congr (fun k=>(js2 t a k).symm) (fun _=>rfl) (fun k=>by simp[tabK])
theorem jcf7(kv:List (Int×Int))(r c:Int)(h:(kv.map (·.1)).Nodup):((addS kv r c).map (·.1)).Nodup:=by
 rw[zh9]
 split
 ·exact h
 ·rename_i h2;exact List.nodup_append.2 ⟨h,by simp,fun a ha b hb=>by simp at hb;subst hb;exact fun e=>h2 (by rw[<-e];exact ha)⟩
theorem jaz6:∀(b kv:List (Int×Int)) (t:Int×Int),(kv.map (·.1)).Nodup->((jp1 kv t b).map (·.1)).Nodup
 | [],_,_,h=>h
 | u::b,kv,t,h=>jaz6 b _ t (jcf7 kv (zt1 t u) (zg7 t u) h)
theorem jaz7:∀(a b kv:List (Int×Int)),(kv.map (·.1)).Nodup->((jj3 kv a b).map (·.1)).Nodup
 | [],_,_,h=>h
 | t::a,b,kv,h=>jaz7 a b _ (jaz6 b kv t h)
theorem jfa5(t:Int×Int)(k:Nat):-(t.1.natAbs:Int)<=(jg9 t k:Int)-t.1.natAbs*rtA t.2 k/\(jg9 t k:Int)-t.1.natAbs*rtA t.2 k<=t.1.natAbs:=by
 unfold jg9 jz8 sqT rtA
 generalize t.1.natAbs=c
 generalize t.2.toNat=r
 generalize bits k=B
 have e:c*c*r*(B*B)=r*(B*B)*(c*c):=by simp only[Nat.mul_comm,Nat.mul_left_comm,Nat.mul_assoc]
 rw[e]
 have g1:=jat0 (r*(B*B)) c
 have g2:isq (r*(B*B)*(c*c))<=c*isq (r*(B*B))+c:=by
  have:=(jy0 (r*(B*B))).lt
  generalize isq (r*(B*B))=q at *
  rcases Nat.eq_zero_or_pos c with h0|h0
  ·subst h0
   have e0:isq 0=0:=jaa8 0
   simp[e0]
  ·have h4:r*(B*B)*(c*c)<((q+1)*c)*((q+1)*c):=by
    rw[Nat.mul_mul_mul_comm (q+1) c (q+1) c]
    exact Nat.mul_lt_mul_of_pos_right this (Nat.mul_pos h0 h0)
   have h5:=jan5 (Nat.lt_of_le_of_lt (jy1 _) h4)
   have h6:(q+1)*c=c*q+c:=by rw[Nat.add_mul,Nat.one_mul,Nat.mul_comm]
   rw[h6] at h5
   omega
 have c1:((isq (r*(B*B))*c:Nat):Int)=(c:Int)*(isq (r*(B*B)):Int):=by rw[Int.natCast_mul,Int.mul_comm]
 have c2:((c*isq (r*(B*B)):Nat):Int)=(c:Int)*(isq (r*(B*B)):Int):=Int.natCast_mul _ _
 generalize (c:Int)*(isq (r*(B*B)):Int)=z at *
 omega
def absS(ts:List (Int×Int)):Int:=(ts.map fun t=>(t.1.natAbs:Int)).sum
theorem jcb3 (k:Nat):∀(ts:List (Int×Int)),-(absS ts)<=(jj0 ts k:Int)-jj1 ts k-jj2 ts k/\(jj0 ts k:Int)-jj1 ts k-jj2 ts k<=absS ts
 | []=>by simp[absS,jj0,jj1,jj2]
 | t::ts=>by
  have ih:=jcb3 k ts
  have h:=jfa5 t k
  rw[js2]
  unfold jj0 jj1 absS at *
  simp only[List.map_cons,List.sum_cons]
  by_cases h0:t.1<0
  ·rw[if_pos h0,if_pos h0]
   have e:(t.1.natAbs:Int)*rtA t.2 k=-(t.1*rtA t.2 k):=by rw[show(t.1.natAbs:Int)=-t.1 by omega,Int.neg_mul]
   rw[e] at h
   omega
  ·rw[if_neg h0,if_neg h0]
   have e:(t.1.natAbs:Int)*rtA t.2 k=t.1*rtA t.2 k:=by rw[show(t.1.natAbs:Int)=t.1 by omega]
   rw[e] at h
   omega
theorem zp6{ts:List (Int×Int)}{k:Nat}(h:jc5 ts k=1):jg4 (jj2 ts):=by
 have h1:=jba7 h
 have key:jg4 fun j=>jj2 ts j+absS ts:=by
  refine⟨(bits k:Int),k,js0 k,fun K hK=>?_⟩
  obtain⟨j,rfl⟩:=Nat.le.dest hK
  have a1:=jdc7 ts k j
  have a2:=jdd1 ts k j
  have a3:=jbr7 ts (k+j)
  have a4:=jcb3 (k+j) ts
  have b1:jn6 ts k*bits j+bits j<=jj0 ts k*bits j:=by
   have:=Nat.mul_le_mul_right (bits j) (show jn6 ts k+1<=jj0 ts k by omega)
   rw[Nat.add_mul,Nat.one_mul] at this
   exact this
  have b2:(bits j:Int)<=jj2 ts (k+j)+absS ts:=by omega
  have b3:=Int.mul_le_mul_of_nonneg_left b2 (Int.le_of_lt (js0 k))
  rw[jak6,Int.natCast_mul]
  exact b3
 exact key.near ⟨(absS ts).natAbs,fun k=>by dsimp only;omega⟩
theorem zp5{ts:List (Int×Int)}{k:Nat}(h:jc5 ts k=-1):jg4 fun k=>-jj2 ts k:=by
 have h1:=jba6 h
 have key:jg4 fun j=>-jj2 ts j+(absS ts):=by
  refine⟨(bits k:Int),k,js0 k,fun K hK=>?_⟩
  obtain⟨j,rfl⟩:=Nat.le.dest hK
  have a1:=jdd0 ts k j
  have a2:=jdc8 ts k j
  have a3:=jas1 ts (k+j)
  have a4:=jcb3 (k+j) ts
  have b1:jn5 ts k*bits j+bits j<=jj1 ts k*bits j:=by
   have:=Nat.mul_le_mul_right (bits j) (show jn5 ts k+1<=jj1 ts k by omega)
   rw[Nat.add_mul,Nat.one_mul] at this
   exact this
  have b2:(bits j:Int)<=-jj2 ts (k+j)+absS ts:=by omega
  have b3:=Int.mul_le_mul_of_nonneg_left b2 (Int.le_of_lt (js0 k))
  rw[jak6,Int.natCast_mul]
  exact b3
 exact key.near ⟨(absS ts).natAbs,fun k=>by dsimp only;omega⟩
theorem zh3:∀(ts:List (Int×Int)) (k:Nat),jj2 (ts.filter nzT) k=jj2 ts k
 | [],_=>rfl
 | t::ts,k=>by
  rw[List.filter_cons]
  by_cases h:t.1=0
  ·have e:nzT t=false:=by simp[nzT,h]
   rw[e,js2,h,Int.zero_mul,Int.zero_add]
   simpa using zh3 ts k
  ·have e:nzT t=true:=by simp[nzT,h]
   rw[e,if_pos rfl,js2,js2,zh3 ts k]
theorem jc1.sg{ts:List (Int×Int)}{s:Int}(h:jc1 ts s):Sg (jj2 ts) s:=by
 rcases h with⟨h1,rfl⟩|⟨_,h1,k,h2⟩
 ·refine .inr (.inr ⟨rfl,Bdd.zero.congr fun k=>?_⟩)
  rw[<-zh3,h1];rfl
 ·rcases jz3 (ts.filter nzT) k with h3|h3|h3
  ·refine .inl ⟨by rw[<-h2,h3],(zp6 h3).congr fun k=>zh3 ts k⟩
  ·refine .inr (.inl ⟨by rw[<-h2,h3],(zp5 h3).congr fun k=>by rw[zh3 ts k]⟩)
  ·exact absurd (h2.symm.trans h3) h1
def cf(ts:List (Int×Int))(r:Int):Int:=(ts.map fun t=>if r=t.2 then t.1 else 0).sum
theorem zm2(t:Int×Int)(ts:List (Int×Int))(r:Int):cf (t::ts) r=(if r=t.2 then t.1 else 0)+cf ts r:=by simp[cf]
theorem jbb5:∀(ts:List (Int×Int)) (r:Int),(∀t∈ts,t.2≠r)->cf ts r=0
 | [],_,_=>rfl
 | t::ts,r,h=>by rw[zm2,if_neg (fun e=>h t (by simp) e.symm),jbb5 ts r (fun u hu=>h u (by simp[hu]))];rfl
theorem jac7:∀(l kv:List (Int×Int)) (m r:Int),jd4 (jg7 kv l m) r=jd4 kv r+cf l r*m
 | [],kv,m,r=>by simp[jg7,cf]
 | t::l,kv,m,r=>by
  have ih:=jac7 l (addS kv t.2 (t.1*m)) m r
  simp only[jg7,List.foldl_cons] at ih ⊢
  rw[ih,jas7,zm2,Int.add_mul]
  split
  ·omega
  ·rw[Int.zero_mul];omega
theorem zm3:∀(ts:List (Int×Int)) (last:Int),jv9 last ts=true->∀t∈ts,last<t.2/\t.1≠0
 | [],_,_,_,h=>by cases h
 | t::ts,last,h,u,hu=>by
  unfold jv9 okT at h
  simp only[Bool.and_eq_true,decide_eq_true_eq] at h
  rcases List.mem_cons.1 hu with rfl|hu
  ·exact⟨h.1.1.1.1.1,h.1.1.1.2⟩
  ·have:=zm3 ts t.2 h.2 u hu
   exact⟨by omega,this.2⟩
theorem zd0{t:Int×Int}{ts:List (Int×Int)}{last:Int}(h:jv9 last (t::ts)=true):jv9 t.2 ts=true:=by
 unfold jv9 at h
 rw[Bool.and_eq_true] at h
 exact h.2
theorem jac2{t:Int×Int}{ts:List (Int×Int)}{last:Int}(h:jv9 last (t::ts)=true):cf (t::ts) t.2=t.1:=by
 rw[zm2,if_pos rfl,jbb5 ts t.2 (fun u hu=>by have:=(zm3 ts t.2 (zd0 h) u hu).1;omega)];omega
theorem jdd5{ts:List (Int×Int)}{last r:Int}(h:jv9 last ts=true)(hr:r<=last):cf ts r=0:=jbb5 ts r (fun u hu=>by have:=(zm3 ts last h u hu).1;omega)
theorem jbk2 {p q:Int} (hp:p≠0) (hq:q≠0):∀(xt yt:List (Int×Int)) (l l':Int),jv9 l xt=true->jv9 l' yt=true->(∀r,cf xt r*p=cf yt r*q)->xt.map (fun t=>(t.1*p,t.2))=yt.map (fun t=>(t.1*q,t.2))
 | [],[],_,_,_,_,_=>rfl
 | [],u::yt,_,_,_,h2,h=>by
  have h3:=h u.2
  rw[jac2 h2] at h3
  have:=(zm3 _ _ h2 u (by simp)).2
  rw[show cf [] u.2=0 from rfl,Int.zero_mul] at h3
  exact absurd h3.symm (Int.mul_ne_zero this hq)
 | t::xt,[],_,_,h1,_,h=>by
  have h3:=h t.2
  rw[jac2 h1] at h3
  have:=(zm3 _ _ h1 t (by simp)).2
  rw[show cf [] t.2=0 from rfl,Int.zero_mul] at h3
  exact absurd h3 (Int.mul_ne_zero this hp)
 | t::xt,u::yt,l,l',h1,h2,h=>by
  have n1:=(zm3 _ _ h1 t (by simp)).2
  have n2:=(zm3 _ _ h2 u (by simp)).2
  have e:t.2=u.2:=by
   rcases Int.lt_trichotomy t.2 u.2 with h3|h3|h3
   ·have h4:=h t.2
    rw[jac2 h1,zm2,if_neg (by omega),jdd5 (zd0 h2) (by omega)] at h4
    simp only[Int.add_zero,Int.zero_mul] at h4
    exact absurd h4 (Int.mul_ne_zero n1 hp)
   ·exact h3
   ·have h4:=h u.2
    rw[jac2 h2,zm2,if_neg (by omega),jdd5 (zd0 h1) (by omega)] at h4
    simp only[Int.add_zero,Int.zero_mul] at h4
    exact absurd h4.symm (Int.mul_ne_zero n2 hq)
  have e2:t.1*p=u.1*q:=by
   have h4:=h t.2
   rw[jac2 h1,e,jac2 h2] at h4
   exact h4
  rw[List.map_cons,List.map_cons,e2,e]
  congr 1
  refine jbk2 hp hq xt yt t.2 u.2 (zd0 h1) (zd0 h2) (fun r=>?_)
  have h4:=h r
  rw[zm2,zm2,Int.add_mul,Int.add_mul,e] at h4
  split at h4
  ·omega
  ·simp only[Int.zero_mul,Int.zero_add] at h4;exact h4
theorem jay6 (m:Nat):∀(l:List Int) (g:Nat),(l.map fun x=>x*(m:Int)).foldl (fun g x=>Nat.gcd g x.natAbs) (g*m)=l.foldl (fun g x=>Nat.gcd g x.natAbs) g*m
 | [],_=>rfl
 | x::l,g=>by
  rw[List.map_cons,List.foldl_cons,List.foldl_cons,Int.natAbs_mul,Int.natAbs_natCast,Nat.gcd_mul_right]
  exact jay6 m l _
theorem jah5(m:Nat)(l:List Int):jd2 (l.map fun x=>x*(m:Int))=jd2 l*m:=by
 have:=jay6 m l 0
 rw[Nat.zero_mul] at this
 exact this
theorem jad4{d:Int}{ts:List (Int×Int)}(h:jb3 d ts=true):jv9 0 ts=true/\jd2 (d::ts.map (·.1))=1:=by
 unfold jb3 at h
 simp only[Bool.and_eq_true,decide_eq_true_eq] at h
 exact⟨h.1.2,h.2⟩
theorem jfk6{xd yd:Int}{xt yt:List (Int×Int)}(hx:jb3 xd xt=true)(hy:jb3 yd yt=true)(h:∀r,cf xt r*yd=cf yt r*xd):xd=yd/\xt=yt:=by
 have px:=jb2 hx;have py:=jb2 hy
 obtain⟨cx,gx⟩:=jad4 hx;obtain⟨cy,gy⟩:=jad4 hy
 have hs:=jbk2 (show yd≠0 by omega) (show xd≠0 by omega) xt yt 0 0 cx cy h
 have e:xd=yd:=by
  have g1:=jah5 yd.toNat (xd::xt.map (·.1))
  have g2:=jah5 xd.toNat (yd::yt.map (·.1))
  rw[gx,Nat.one_mul] at g1
  rw[gy,Nat.one_mul] at g2
  have e1:((xd::xt.map (·.1)).map fun x=>x*(yd.toNat:Int))=((yd::yt.map (·.1)).map fun x=>x*(xd.toNat:Int)):=by
   rw[Int.toNat_of_nonneg (by omega),Int.toNat_of_nonneg (by omega),List.map_cons,List.map_cons,Int.mul_comm xd yd,List.map_map,List.map_map]
   congr 1
   have:=congrArg (List.map (·.1)) hs
   rw[List.map_map,List.map_map] at this
   exact this
  rw[e1,g2] at g1
  omega
 refine⟨e,?_⟩
 subst e
 have hinj:∀(a b:List (Int×Int)),a.map (fun t=>(t.1*xd,t.2))=b.map (fun t=>(t.1*xd,t.2))->a=b:=fun a=>by
  induction a with
  | nil=>intro b hb;cases b with
   | nil=>rfl
   | cons u b=>cases hb
  | cons t a ih=>
   intro b hb
   cases b with
   | nil=>cases hb
   | cons u b=>
    rw[List.map_cons,List.map_cons] at hb
    injection hb with h1 h2
    injection h1 with h3 h4
    rw[ih b h2]
    congr 1
    exact Prod.ext (Int.eq_of_mul_eq_mul_right (show xd≠0 by omega) h3) h4
 exact hinj xt yt hs
theorem jdm0{xd yd:Int}{xt yt:List (Int×Int)}(hx:jb3 xd xt=true)(hy:jb3 yd yt=true)(h:jf8 (fun k=>yd*jj2 xt k) (fun k=>xd*jj2 yt k)):∀r,cf xt r*yd=cf yt r*xd:=by
 have px:=jb2 hx;have py:=jb2 hy
 obtain⟨rx,_⟩:=jc9 hx;obtain⟨ry,_⟩:=jc9 hy
 obtain⟨hk1,hk2⟩:=zt0 rx ry yd xd
 have hl:=jad1 xt yt yd xd
 have hbd:=jan3 (N:=10000000000) (xt:=xt) (yt:=yt) (m:=yd) (k:=xd) (by omega) (fun t ht=>by
   have:=(px.2.2.2 t ht).1.2.2.2
   exact jc2 this (b:=yd) (B:=100000) ⟨by omega,by omega⟩) (fun t ht=>by
   have:=(py.2.2.2 t ht).1.2.2.2
   exact jc2 this (b:=xd) (B:=100000) ⟨by omega,by omega⟩)
 have hbd2:jh9 (jp0 xt yd yt xd) 3200000000000000000:=hbd.mono (by omega)
 have hkeys:(jh2 xt yd yt xd).map (·.2)=(jp0 xt yd yt xd).map (·.1):=by simp[jh2,jv8,Function.comp_def]
 obtain⟨K,_,hK⟩:=jc1.exists_ (jh2 xt yd yt xd) (by
  intro t ht
  obtain⟨p,hpm,rfl⟩:=List.mem_map.1 ht
  have h1:=jd5 hk1 p hpm
  have h2:=hbd2 p.1
  rw[h1] at h2
  show -_<=p.2/\p.2<=_
  omega) (by
  intro t ht
  exact hk2 _ (by rw[<-hkeys];exact List.mem_map_of_mem ht)) (by
  rw[hkeys];exact hk1) (by
  simp[jh2];omega)
 have hz:(jh2 xt yd yt xd).filter nzT=[]:=by
  rcases hK with h1|h1
  ·exact h1
  ·exfalso
   have hb:Bdd (jj2 (jh2 xt yd yt xd)):=Bdd.congr (fun k=>(jbg8 xt yd yt xd k).symm) h
   rcases jz3 ((jh2 xt yd yt xd).filter nzT) K with h2|h2|h2
   ·exact(zp6 h2).not_bdd (hb.congr fun k=>(zh3 _ k).symm)
   ·exact(zp5 h2).not_bdd (hb.neg.congr fun k=>by rw[zh3 _ k])
   ·exact h1 h2
 intro r
 have h0:jd4 (jp0 xt yd yt xd) r=0:=by
  rcases jy7 (jp0 xt yd yt xd) r with h1|h1
  ·exact h1
  ·have h2:(jd4 (jp0 xt yd yt xd) r,r)∈jh2 xt yd yt xd:=List.mem_map.2 ⟨_,h1,rfl⟩
   rcases Decidable.em (jd4 (jp0 xt yd yt xd) r=0)with h3|h3
   ·exact h3
   ·have h4:(jd4 (jp0 xt yd yt xd) r,r)∈(jh2 xt yd yt xd).filter nzT:=List.mem_filter.2 ⟨h2,by simp[nzT,h3]⟩
    rw[hz] at h4;cases h4
 unfold jp0 at h0
 rw[jac7,jac7,Int.mul_neg] at h0
 simp only[jd4] at h0
 omega
theorem jdr8{xd yd:Int}{xt yt:List (Int×Int)}(hx:jb3 xd xt=true)(hy:jb3 yd yt=true)(h:jf8 (fun k=>yd*jj2 xt k) (fun k=>xd*jj2 yt k)):xd=yd/\xt=yt:=
 jfk6 hx hy (jdm0 hx hy h)
theorem jdd7 {f:Int->Int}:∀(rs:List Int) (last:Int),rs.Pairwise (fun a b=>a<b)->(∀r∈rs,last<r/\jg0 r/\f r≠0/\-100000<=f r/\f r<=100000)->jv9 last (rs.map fun r=>(f r,r))=true
 | [],_,_,_=>rfl
 | r::rs,last,hp,h=>by
  obtain⟨h1,h2,h3,h4⟩:=h r (by simp)
  rw[List.pairwise_cons] at hp
  rw[List.map_cons]
  unfold jv9
  rw[Bool.and_eq_true]
  refine⟨?_,jdd7 rs r hp.2 (fun q hq=>⟨hp.1 q hq,(h q (by simp[hq])).2⟩)⟩
  unfold okT
  simp only[Bool.and_eq_true,decide_eq_true_eq]
  have h5:=(zn4 r.toNat (by have:=h2.1;omega)).2 h2.2.2
  exact⟨⟨⟨⟨h1,h2.2.1⟩,h3⟩,by simp[inB];omega⟩,by omega⟩
theorem jdk6{l:List (Int×Int)}(h:(l.map (·.1)).Nodup):(l.map (·.1)).map (jd4 l)=l.map (·.2):=by
 rw[List.map_map]
 exact List.map_congr_left fun p hp=>jd5 h p hp
theorem jbk8{a G:Int}(h:G∣a):a.tdiv G*G=a:=Int.tdiv_mul_cancel h
theorem jcj3{l:List (Int×Int)}{G r:Int}(h:∀p∈l,G∣p.2):G∣jd4 l r:=by
 rcases jy7 l r with h1|h1
 ·rw[h1];exact Int.dvd_zero G
 ·exact h _ h1
theorem jcn5{kv:List (Int×Int)}{den d:Int}{ts:List (Int×Int)}(hn:(kv.map (·.1)).Nodup)(hr:∀r∈kv.map (·.1),jg0 r)(hd:0<den)(h:jf3 kv den=(d,ts,0)):jb3 d ts=true:=by
 have hG0:=jbh7 (kv:=kv) (show den≠0 by omega)
 have hGp:jd8 kv den=(jd2 ((kv.filter nz).map (·.2)++[den]):Int):=by unfold jd8;rw[if_neg (by omega)]
 obtain⟨hd1,hd2⟩:=jat5 (kv:=kv) (den:=den)
 have hn':((kv.filter nz).map (·.1)).Nodup:=List.Nodup.sublist (List.filter_sublist.map _) hn
 have hr':∀r∈(kv.filter nz).map (·.1),jg0 r:=fun r hm=>by
  obtain⟨p,hp,rfl⟩:=List.mem_map.1 hm
  exact hr _ (List.mem_map_of_mem (List.mem_filter.1 hp).1)
 have hz:∀p∈kv.filter nz,p.2≠0:=fun p hp=>by have:=(List.mem_filter.1 hp).2;simpa [nz] using this
 unfold jf3 at h
 split at h
 ·injection h with _ h;injection h with _ h;cases h
 ·rename_i hl
  split at h
  ·injection h with _ h;injection h with _ h;cases h
  ·rename_i hb
   injection h with h1 h
   injection h with h2 _
   simp only[Bool.or_eq_true,decide_eq_true_eq,List.any_eq_true,not_or,not_exists,not_and] at hb
   obtain⟨hb1,hb2⟩:=hb
   have hG1:0<jd8 kv den:=by omega
   generalize hGe:jd8 kv den=G at *
   have hdm:=jbk8 hd1
   have hdp:1<=den.tdiv G:=by
    rcases Int.lt_or_le 0 (den.tdiv G)with h|h
    ·omega
    ·have:=Int.mul_nonneg (show 0<=-(den.tdiv G) by omega) (Int.le_of_lt hG1)
     rw[Int.neg_mul,hdm] at this;omega
   have hT:zg2 kv den=(jj6 ((kv.filter nz).map (·.1))).map fun r=>((jd4 (kv.filter nz) r).tdiv G,r):=by unfold zg2 jg5;rw[hGe]
   rw[hT] at hl hb2 h2
   subst h1
   subst h2
   have hsp:=jh6 ((kv.filter nz).map (·.1))
   have hss:(jj6 ((kv.filter nz).map (·.1))).Pairwise (fun a b=>a<b):=by
    have hnd:(jj6 ((kv.filter nz).map (·.1))).Nodup:=(hsp.nodup_iff).2 hn'
    exact(List.Pairwise.and (jv1 _) hnd).imp (fun h=>by omega)
   have hmem:∀r∈jj6 ((kv.filter nz).map (·.1)),r∈(kv.filter nz).map (·.1):=fun r hm=>hsp.mem_iff.1 hm
   unfold jb3
   simp only[Bool.and_eq_true,decide_eq_true_eq]
   refine⟨⟨⟨by simp[inB];omega,by omega⟩,?_⟩,?_⟩
   ·refine jdd7 (f:=fun r=>(jd4 (kv.filter nz) r).tdiv G) _ 0 hss (fun r hm=>?_)
    have hro:=hr' r (hmem r hm)
    have hbt:¬jf7 ((jd4 (kv.filter nz) r).tdiv G,r)=true:=hb2 _ (List.mem_map_of_mem hm)
    obtain⟨p,hp,hpe⟩:=List.mem_map.1 (hmem r hm)
    have hg:=jd5 hn' p hp
    rw[hpe] at hg
    have hc:=jbk8 (jcj3 (r:=r) hd2)
    refine⟨by have:=hro.1;omega,hro,fun e=>?_,?_⟩
    ·rw[e,Int.zero_mul,hg] at hc;exact hz p hp hc.symm
    ·unfold jf7 at hbt
     rw[Bool.or_eq_true,not_or] at hbt
     have:=hbt.2
     simpa [inB] using this
   ·have hsc:=jah5 G.toNat (den.tdiv G::((jj6 ((kv.filter nz).map (·.1))).map fun r=>((jd4 (kv.filter nz) r).tdiv G,r)).map (·.1))
    rw[Int.toNat_of_nonneg (Int.le_of_lt hG1),List.map_cons,hdm,List.map_map,List.map_map] at hsc
    have e1:(jj6 ((kv.filter nz).map (·.1))).map (((fun x=>x*G)∘fun x:Int×Int=>x.1)∘fun r=>((jd4 (kv.filter nz) r).tdiv G,r))=(jj6 ((kv.filter nz).map (·.1))).map (jd4 (kv.filter nz)):=
     List.map_congr_left fun r _=>jbk8 (jcj3 (r:=r) hd2)
    rw[e1] at hsc
    have e2:jd2 (den::(jj6 ((kv.filter nz).map (·.1))).map (jd4 (kv.filter nz)))=G.toNat:=by
     have p1:(den::(jj6 ((kv.filter nz).map (·.1))).map (jd4 (kv.filter nz))).Perm ((kv.filter nz).map (·.2)++[den]):=by
      refine((hsp.map _).cons den).trans ?_
      rw[jdk6 hn']
      exact(List.perm_append_singleton den _).symm
     rw[zr0 p1]
     omega
    rw[e2] at hsc
    have:0<G.toNat:=by omega
    have h5:1*G.toNat=jd2 (den.tdiv G::((jj6 ((kv.filter nz).map (·.1))).map fun r=>((jd4 (kv.filter nz) r).tdiv G,r)).map (·.1))*G.toNat:=by omega
    exact(Nat.eq_of_mul_eq_mul_right this h5).symm
theorem jdg8{a G M:Int}(h:-M<=a/\a<=M):-M<=a.tdiv G/\a.tdiv G<=M:=by
 have:(a.tdiv G).natAbs<=a.natAbs:=by rw[Int.natAbs_tdiv];exact Nat.div_le_self _ _
 omega
theorem jcn6{kv:List (Int×Int)}{den:Int}(hn:(kv.map (·.1)).Nodup)(hl:kv.length<=4)(hb:jh9 kv 100000)(hr:∀r∈kv.map (·.1),r<=1000)(hd:1<=den/\den<=100000):(jf3 kv den).2.2=0:=by
 have hlen:(zg2 kv den).length<=4:=by
  unfold zg2 jg5
  rw[List.length_map,(jh6 _).length_eq,List.length_map]
  exact Nat.le_trans (List.length_filter_le _ _) hl
 unfold jf3
 rw[if_neg (by omega),if_neg]
 intro h
 rw[Bool.or_eq_true,decide_eq_true_eq] at h
 rcases h with h|h
 ·have:=(jdg8 (a:=den) (G:=jd8 kv den) (M:=100000) (by omega)).2;omega
 ·obtain⟨t,ht,hbt⟩:=List.any_eq_true.1 h
  unfold zg2 jg5 at ht
  obtain⟨r,hm,rfl⟩:=List.mem_map.1 ht
  have hm':=(jh6 _).mem_iff.1 hm
  obtain⟨p,hp,rfl⟩:=List.mem_map.1 hm'
  have hn':((kv.filter nz).map (·.1)).Nodup:=List.Nodup.sublist (List.filter_sublist.map _) hn
  have hg:=jd5 hn' p hp
  have hg2:=jd5 hn p (List.mem_filter.1 hp).1
  have h1:=hb p.1
  rw[hg2,<-hg] at h1
  have h2:=jdg8 (G:=jd8 kv den) h1
  have h3:=hr p.1 (List.mem_map_of_mem (List.mem_filter.1 hp).1)
  unfold jf7 at hbt
  rw[Bool.or_eq_true,decide_eq_true_eq] at hbt
  rcases hbt with hbt|hbt
  ·dsimp only at hbt;omega
  ·have:inB ((jd4 (kv.filter nz) p.1).tdiv (jd8 kv den)) (-100000) 100000=true:=by simp[inB];omega
   rw[this] at hbt;cases hbt
theorem zz0:∀(l kv:List (Int×Int)) (m:Int),(∀r∈kv.map (·.1),jg0 r)->(∀t∈l,t.2<=1000)->∀r∈(jb6 kv l m).map (·.1),jg0 r
 | [],_,_,h,_=>h
 | t::l,kv,m,h,ht=>by
  have h1:∀r∈(addRoot kv (t.1*m) t.2).map (·.1),jg0 r:=by
   unfold addRoot
   split
   ·rename_i h0
    rw[zh9]
    split
    ·exact h
    ·intro r hr
     rcases List.mem_append.1 hr with h2|h2
     ·exact h r h2
     ·simp only[List.mem_singleton] at h2
      subst h2
      have hn:1<=t.2.toNat:=by omega
      obtain⟨_,g2,_,g4⟩:=jk8 t.2.toNat hn
      have g5:=(jad9 t.2.toNat hn).2
      have:=ht t (by simp)
      exact⟨by omega,by omega,by rw[Int.toNat_natCast];exact g2⟩
   ·exact h
  exact zz0 l _ m h1 (fun u hu=>ht u (by simp[hu]))
theorem jcm9{d:Int}{ts:List (Int×Int)}(h:jb3 d ts=true):∀t∈ts,t.2<=1000:=fun t ht=>((jc9 h).1 t ht).2.1
theorem jaz5{xd yd m d:Int}{xt yt ts:List (Int×Int)}(h:jd6 xd xt yd yt m=(d,ts,0)):jb3 d ts=true:=by
 obtain⟨h1,h2,_⟩:=jbt7 h
 have hx:=jb2 h1;have hy:=jb2 h2
 unfold jd6 at h
 rw[h1,h2] at h
 simp only[Bool.and_self,if_true] at h
 exact jcn5 (jy3 yt _ _ (jy3 xt [] _ (by simp))) (zz0 yt _ _ (zz0 xt [] _ (by simp) (jcm9 h1)) (jcm9 h2)) (Int.mul_pos (by omega) (by omega)) h
end Go.Proofs.YtphcodcdfeohhaaGreatDoor
