import Derived.Test.YtphcodcdfeohhaaGreatDoorSignMToSignB
import Derived.Test.YtphcodcdfeohhaaGreatDoorLinAToLinD
import Derived.Test.YtphcodcdfeohhaaGreatDoorSignDToOrdA
import Derived.Test.YtphcodcdfeohhaaGreatDoorProdAToProdM
set_option linter.unusedVariables false
set_option linter.unusedSimpArgs false
namespace Go.Proofs.YtphcodcdfeohhaaGreatDoor
theorem jcj8(k:Nat):k<=bits k:=by
 induction k with
 | zero=>omega
 | succ k ih=>rw[jcp4];have:=zb8 k;omega
theorem jdk3{j k:Nat}(h:j<=k):bits j<=bits k:=by
 obtain⟨i,rfl⟩:=Nat.le.dest h
 rw[jac0]
 exact Nat.le_mul_of_pos_right _ (zb8 i)
theorem jda8(C:Int):∃k0:Nat,∀k,k0<=k->C<=(bits k:Int):=⟨C.toNat,fun k hk=>by
 have:=jcj8 C.toNat;have:=jdk3 hk;omega⟩
theorem jj3(k:Nat):0<(bits k:Int):=by have:=zb8 k;omega
def Bdd(f:Nat->Int):Prop:=∃C:Int,∀k,-C<=f k/\f k<=C
def jd2(f g:Nat->Int):Prop:=Bdd fun k=>f k-g k
def jd8(f:Nat->Int):Prop:=∃(D:Int) (k0:Nat),0<D/\∀k,k0<=k->(bits k:Int)<=D*f k
theorem Bdd.nonneg{f:Nat->Int}(h:Bdd f):∃C:Int,0<=C/\∀k,-C<=f k/\f k<=C:=by
 obtain⟨C,h⟩:=h
 exact⟨C,by have:=h 0;omega,h⟩
theorem jad5{a b A B:Int}(ha:-A<=a/\a<=A)(hb:-B<=b/\b<=B):-(A*B)<=a*b/\a*b<=A*B:=by
 have hA:0<=A:=by omega
 have hB:0<=B:=by omega
 rcases Int.le_total 0 a with h|h<;>rcases Int.le_total 0 b with h'|h'
 ·have:=Int.mul_le_mul ha.2 hb.2 h' hA
  have:=Int.mul_nonneg h h'
  omega
 ·have h1:=Int.mul_le_mul ha.2 (show -b<=B by omega) (by omega) hA
  have h2:=Int.mul_nonneg h (show 0<=-b by omega)
  rw[Int.mul_neg] at h1 h2
  omega
 ·have h1:=Int.mul_le_mul (show -a<=A by omega) hb.2 h' hA
  have h2:=Int.mul_nonneg (show 0<=-a by omega) h'
  rw[Int.neg_mul] at h1 h2
  omega
 ·have h1:=Int.mul_le_mul (show -a<=A by omega) (show -b<=B by omega) (by omega) hA
  have h2:=Int.mul_nonneg (show 0<=-a by omega) (show 0<=-b by omega)
  rw[Int.neg_mul_neg] at h1 h2
  omega
theorem Bdd.zero:Bdd fun _=>0:=⟨0,fun _=>by dsimp only;omega⟩
theorem Bdd.add{f g:Nat->Int}(hf:Bdd f)(hg:Bdd g):Bdd fun k=>f k+g k:=by
 obtain⟨C,hf⟩:=hf;obtain⟨D,hg⟩:=hg
 exact⟨C+D,fun k=>by have:=hf k;have:=hg k;dsimp only;omega⟩
theorem Bdd.neg{f:Nat->Int}(hf:Bdd f):Bdd fun k=>-f k:=by
 obtain⟨C,hf⟩:=hf
 exact⟨C,fun k=>by have:=hf k;dsimp only;omega⟩
theorem Bdd.smul{f:Nat->Int}(c:Int)(hf:Bdd f):Bdd fun k=>c*f k:=by
 obtain⟨C,hf⟩:=hf
 exact⟨(c.natAbs:Int)*C,fun k=>jad5 (A:=(c.natAbs:Int)) (by omega) (hf k)⟩
theorem Bdd.congr{f g:Nat->Int}(h:∀k,f k=g k)(hf:Bdd f):Bdd g:=by
 obtain⟨C,hf⟩:=hf
 exact⟨C,fun k=>by have:=hf k;rwa [h k] at this⟩
theorem jd2.refl(f:Nat->Int):jd2 f f:=Bdd.zero.congr fun k=>by(try dsimp only);omega
theorem jd2.of_eq{f g:Nat->Int}(h:∀k,f k=g k):jd2 f g:=Bdd.zero.congr fun k=>by(try dsimp only);rw[h k];omega
theorem jd2.symm{f g:Nat->Int}(h:jd2 f g):jd2 g f:=h.neg.congr fun k=>by(try dsimp only);omega
theorem jd2.trans{f g h:Nat->Int}(h1:jd2 f g)(h2:jd2 g h):jd2 f h:=(Bdd.add h1 h2).congr fun k=>by(try dsimp only);omega
theorem jd2.add{f g f' g':Nat->Int}(h1:jd2 f f')(h2:jd2 g g'):jd2 (fun k=>f k+g k) (fun k=>f' k+g' k):=(Bdd.add h1 h2).congr fun k=>by(try dsimp only);omega
theorem jd2.sub{f g f' g':Nat->Int}(h1:jd2 f f')(h2:jd2 g g'):jd2 (fun k=>f k-g k) (fun k=>f' k-g' k):=(Bdd.add h1 (Bdd.neg h2)).congr fun k=>by(try dsimp only);omega
theorem jd2.smul{f f':Nat->Int}(c:Int)(h1:jd2 f f'):jd2 (fun k=>c*f k) (fun k=>c*f' k):=(Bdd.smul c h1).congr fun k=>by rw[Int.mul_sub]
theorem jd2.neg{f f':Nat->Int}(h1:jd2 f f'):jd2 (fun k=>-f k) (fun k=>-f' k):=(Bdd.neg h1).congr fun k=>by(try dsimp only);omega
theorem jd8.pos{f:Nat->Int}{D:Int}{k:Nat}(hD:0<D)(h:(bits k:Int)<=D*f k):0<f k:=by
 have:=jj3 k
 rcases Int.lt_or_le 0 (f k)with h1|h1
 ·exact h1
 ·have:=Int.mul_nonneg (Int.le_of_lt hD) (show 0<=-f k by omega)
  rw[Int.mul_neg] at this
  omega
theorem jd8.congr{f g:Nat->Int}(h:∀k,f k=g k)(hf:jd8 f):jd8 g:=by
 obtain⟨D,k0,hD,hf⟩:=hf
 exact⟨D,k0,hD,fun k hk=>by rw[<-h k];exact hf k hk⟩
theorem jd8.add{f g:Nat->Int}(hf:jd8 f)(hg:jd8 g):jd8 fun k=>f k+g k:=by
 obtain⟨D,k0,hD,hf⟩:=hf;obtain⟨E,j0,hE,hg⟩:=hg
 refine⟨D,k0+j0,hD,fun k hk=>?_⟩
 have h1:=hf k (by omega);have h2:=jd8.pos hE (hg k (by omega))
 have:=Int.mul_nonneg (Int.le_of_lt hD) (Int.le_of_lt h2)
 rw[Int.mul_add];omega
theorem jd8.near{f g:Nat->Int}(hf:jd8 f)(h:jd2 f g):jd8 g:=by
 obtain⟨D,k0,hD,hf⟩:=hf
 obtain⟨C,hC0,hC⟩:=h.nonneg
 obtain⟨j0,hj⟩:=jda8 (2*(D*C))
 refine⟨2*D,k0+j0,by omega,fun k hk=>?_⟩
 have h1:=hf k (by omega);have h2:=hj k (by omega)
 have h3:=Int.mul_le_mul_of_nonneg_left (show f k<=g k+C by have:=(hC k).2;omega) (Int.le_of_lt hD)
 rw[Int.mul_add] at h3
 rw[Int.mul_assoc]
 omega
theorem jd8.smul{f:Nat->Int}{c:Int}(hc:0<c)(hf:jd8 f):jd8 fun k=>c*f k:=by
 obtain⟨D,k0,hD,hf⟩:=hf
 refine⟨D,k0,hD,fun k hk=>?_⟩
 have h1:=hf k hk
 have h2:=jd8.pos hD h1
 have h3:=Int.mul_le_mul_of_nonneg_left (Int.mul_le_mul_of_nonneg_right (show 1<=c by omega) (Int.le_of_lt h2)) (Int.le_of_lt hD)
 rw[Int.one_mul] at h3
 dsimp only
 omega
theorem jd8.not_bdd{f:Nat->Int}(hf:jd8 f)(h:Bdd f):False:=by
 have h0:jd8 fun _=>(0:Int):=hf.near (Bdd.congr (fun k=>by(try dsimp only);omega) h)
 obtain⟨D,k0,hD,h0⟩:=h0
 have:=h0 k0 (Nat.le_refl _)
 have:=jj3 k0
 rw[Int.mul_zero] at *
 omega
theorem jd8.not_neg{f:Nat->Int}(hf:jd8 f)(h:jd8 fun k=>-f k):False:=
 (hf.add h).not_bdd (Bdd.zero.congr fun k=>by(try dsimp only);omega)
def Sg(f:Nat->Int)(s:Int):Prop:=(s=1/\jd8 f)\/(s=-1/\jd8 fun k=>-f k)\/(s=0/\Bdd f)
theorem Sg.unique{f:Nat->Int}{s s':Int}(h:Sg f s)(h':Sg f s'):s=s':=by
 rcases h with⟨rfl,h⟩|⟨rfl,h⟩|⟨rfl,h⟩<;>rcases h' with⟨rfl,h'⟩|⟨rfl,h'⟩|⟨rfl,h'⟩
 ·rfl
 ·exact(h.not_neg h').elim
 ·exact(h.not_bdd h').elim
 ·exact(h'.not_neg h).elim
 ·rfl
 ·exact(h.not_bdd h'.neg).elim
 ·exact(h'.not_bdd h).elim
 ·exact(h'.not_bdd h.neg).elim
 ·rfl
theorem Sg.near{f g:Nat->Int}{s:Int}(h:Sg f s)(hn:jd2 f g):Sg g s:=by
 rcases h with⟨rfl,h⟩|⟨rfl,h⟩|⟨rfl,h⟩
 ·exact .inl ⟨rfl,h.near hn⟩
 ·exact .inr (.inl ⟨rfl,h.near hn.neg⟩)
 ·exact .inr (.inr ⟨rfl,(Bdd.add h hn.symm).congr fun k=>by(try dsimp only);omega⟩)
theorem Sg.neg{f:Nat->Int}{s:Int}(h:Sg f s):Sg (fun k=>-f k) (-s):=by
 rcases h with⟨rfl,h⟩|⟨rfl,h⟩|⟨rfl,h⟩
 ·exact .inr (.inl ⟨rfl,h.congr fun k=>by(try dsimp only);omega⟩)
 ·exact .inl ⟨rfl,h⟩
 ·exact .inr (.inr ⟨rfl,h.neg⟩)
theorem Sg.smul{f:Nat->Int}{s c:Int}(hc:0<c)(h:Sg f s):Sg (fun k=>c*f k) s:=by
 rcases h with⟨rfl,h⟩|⟨rfl,h⟩|⟨rfl,h⟩
 ·exact .inl ⟨rfl,h.smul hc⟩
 ·exact .inr (.inl ⟨rfl,(h.smul hc).congr fun k=>by rw[Int.mul_neg]⟩)
 ·exact .inr (.inr ⟨rfl,h.smul c⟩)
theorem Sg.add{f g:Nat->Int}{s t:Int}(hf:Sg f s)(hg:Sg g t)(h:0<=s)(h':0<=t):Sg (fun k=>f k+g k) (max s t):=by
 rcases hf with⟨rfl,hf⟩|⟨rfl,hf⟩|⟨rfl,hf⟩
 ·rcases hg with⟨rfl,hg⟩|⟨rfl,hg⟩|⟨rfl,hg⟩
  ·exact .inl ⟨rfl,hf.add hg⟩
  ·omega
  ·exact .inl ⟨rfl,hf.near (Bdd.congr (fun k=>by(try dsimp only);omega) hg.neg)⟩
 ·omega
 ·rcases hg with⟨rfl,hg⟩|⟨rfl,hg⟩|⟨rfl,hg⟩
  ·exact .inl ⟨rfl,hg.near (Bdd.congr (fun k=>by(try dsimp only);omega) hf.neg)⟩
  ·omega
  ·exact .inr (.inr ⟨rfl,hf.add hg⟩)
def OB(f:Nat->Int):Prop:=∃C:Int,∀k,-(C*bits k)<=f k/\f k<=C*bits k
def jv7(f g h:Nat->Int):Prop:=∃C:Int,∀k,-(C*bits k)<=f k*g k-bits k*h k/\f k*g k-bits k*h k<=C*bits k
theorem OB.of_bdd{f:Nat->Int}(h:Bdd f):OB f:=by
 obtain⟨C,hC0,h⟩:=h.nonneg
 refine⟨C,fun k=>?_⟩
 have:=h k
 have:=Int.mul_le_mul_of_nonneg_left (show 1<=(bits k:Int) by have:=jj3 k;omega) hC0
 omega
theorem OB.add{f g:Nat->Int}(hf:OB f)(hg:OB g):OB fun k=>f k+g k:=by
 obtain⟨C,hf⟩:=hf;obtain⟨D,hg⟩:=hg
 exact⟨C+D,fun k=>by have:=hf k;have:=hg k;dsimp only;rw[Int.add_mul];omega⟩
theorem OB.smul{f:Nat->Int}(c:Int)(hf:OB f):OB fun k=>c*f k:=by
 obtain⟨C,hf⟩:=hf
 exact⟨(c.natAbs:Int)*C,fun k=>by rw[Int.mul_assoc];exact jad5 (A:=(c.natAbs:Int)) (by omega) (hf k)⟩
theorem OB.near{f g:Nat->Int}(hf:OB f)(h:jd2 f g):OB g:=by
 have h1:=hf.add (OB.smul (-1) (OB.of_bdd h))
 obtain⟨C,h1⟩:=h1
 exact⟨C,fun k=>by have:=h1 k;dsimp only at this;omega⟩
theorem jv7.comm{f g h:Nat->Int}(H:jv7 f g h):jv7 g f h:=by
 obtain⟨C,H⟩:=H
 exact⟨C,fun k=>by rw[Int.mul_comm (g k)];exact H k⟩
theorem jv7.add{f g h g' h':Nat->Int}(H:jv7 f g h)(H':jv7 f g' h'):jv7 f (fun k=>g k+g' k) (fun k=>h k+h' k):=by
 obtain⟨C,H⟩:=H;obtain⟨D,H'⟩:=H'
 exact⟨C+D,fun k=>by have:=H k;have:=H' k;dsimp only;rw[Int.mul_add,Int.mul_add,Int.add_mul];omega⟩
theorem jv7.smul{f g h:Nat->Int}(c:Int)(H:jv7 f g h):jv7 f (fun k=>c*g k) (fun k=>c*h k):=by
 obtain⟨C,H⟩:=H
 refine⟨(c.natAbs:Int)*C,fun k=>?_⟩
 have:=jad5 (A:=(c.natAbs:Int)) (a:=c) (by omega) (H k)
 rw[<-Int.mul_assoc,Int.mul_sub] at this
 rw[Int.mul_left_comm (f k),Int.mul_left_comm (bits k:Int)]
 exact this
theorem jv7.near{f g h g':Nat->Int}(H:jv7 f g h)(hf:OB f)(hn:jd2 g g'):jv7 f g' h:=by
 obtain⟨C,H⟩:=H;obtain⟨D,hf⟩:=hf;obtain⟨E,hn⟩:=hn
 refine⟨C+D*E,fun k=>?_⟩
 have h1:=H k
 have h2:=jad5 (hf k) (hn k)
 rw[Int.mul_sub,Int.mul_right_comm] at h2
 rw[Int.add_mul]
 omega
theorem jt5{a C:Int}{k:Nat}(h:bits k*a<=C*bits k):a<=C:=by
 rw[Int.mul_comm] at h
 exact Int.le_of_mul_le_mul_right h (jj3 k)
theorem jv7.unique{f g h h':Nat->Int}(H:jv7 f g h)(H':jv7 f g h'):jd2 h h':=by
 obtain⟨C,H⟩:=H;obtain⟨D,H'⟩:=H'
 refine⟨C+D,fun k=>?_⟩
 have h1:=H k;have h2:=H' k
 constructor
 ·have:=jt5 (a:=h' k-h k) (C:=C+D) (k:=k) (by rw[Int.mul_sub,Int.add_mul];omega)
  dsimp only
  omega
 ·exact jt5 (k:=k) (by rw[Int.mul_sub,Int.add_mul];omega)
theorem jv7.grows{f g h:Nat->Int}(H:jv7 f g h)(hf:jd8 f)(hg:jd8 g):jd8 h:=by
 obtain⟨C,H⟩:=H;obtain⟨D,k0,hD,hf⟩:=hf;obtain⟨E,j0,hE,hg⟩:=hg
 have h1:jd8 fun k=>h k+C:=by
  refine⟨D*E,k0+j0,Int.mul_pos hD hE,fun k hk=>?_⟩
  have a1:=hf k (by omega);have a2:=hg k (by omega)
  have b:=jj3 k
  have a3:=Int.mul_le_mul a1 a2 (Int.le_of_lt b) (by omega)
  have a4:D*f k*(E*g k)=D*E*(f k*g k):=by rw[Int.mul_assoc,Int.mul_assoc,Int.mul_left_comm (f k)]
  have a5:=Int.mul_le_mul_of_nonneg_left (show f k*g k<=bits k*(h k+C) by have:=(H k).2;rw[Int.mul_add,Int.mul_comm (bits k:Int) C];omega) (Int.le_of_lt (Int.mul_pos hD hE))
  rw[a4] at a3
  have a6:=Int.le_trans a3 a5
  rw[Int.mul_left_comm] at a6
  exact Int.le_of_mul_le_mul_left a6 b
 exact h1.near ⟨C.natAbs,fun k=>by dsimp only;omega⟩
theorem jv7.neg{f g h:Nat->Int}(H:jv7 f g h):jv7 f (fun k=>-g k) (fun k=>-h k):=by
 have:=H.smul (-1)
 obtain⟨C,this⟩:=this
 exact⟨C,fun k=>by have:=this k;dsimp only at this ⊢;rwa [Int.neg_one_mul,Int.neg_one_mul] at this⟩
theorem jv7.bdd{f g h:Nat->Int}(H:jv7 f g h)(hf:Bdd f)(hg:OB g):Bdd h:=by
 obtain⟨C,H⟩:=H;obtain⟨D,hf⟩:=hf;obtain⟨E,hg⟩:=hg
 refine⟨C+D*E,fun k=>?_⟩
 have h1:=H k
 have h2:=jad5 (hf k) (hg k)
 rw[<-Int.mul_assoc] at h2
 constructor
 ·have:=jt5 (a:=-h k) (C:=C+D*E) (k:=k) (by rw[Int.mul_neg,Int.add_mul];omega)
  omega
 ·exact jt5 (k:=k) (by rw[Int.add_mul];omega)
theorem jv7.sg{f g h:Nat->Int}{s t:Int}(H:jv7 f g h)(hf:Sg f s)(hg:Sg g t)(of:OB f)(og:OB g):Sg h (s*t):=by
 rcases hf with⟨rfl,hf⟩|⟨rfl,hf⟩|⟨rfl,hf⟩
 ·rcases hg with⟨rfl,hg⟩|⟨rfl,hg⟩|⟨rfl,hg⟩
  ·exact .inl ⟨rfl,H.grows hf hg⟩
  ·exact .inr (.inl ⟨rfl,H.neg.grows hf hg⟩)
  ·exact .inr (.inr ⟨rfl,H.comm.bdd hg of⟩)
 ·rcases hg with⟨rfl,hg⟩|⟨rfl,hg⟩|⟨rfl,hg⟩
  ·exact .inr (.inl ⟨rfl,H.comm.neg.grows hg hf⟩)
  ·exact .inl ⟨rfl,(H.neg.comm.neg.grows hg hf).congr fun k=>by(try dsimp only);omega⟩
  ·exact .inr (.inr ⟨rfl,H.comm.bdd hg of⟩)
 ·exact .inr (.inr ⟨by omega,H.bdd hf og⟩)
def rtA(r:Int)(k:Nat):Int:=(isq (r.toNat*(bits k*bits k)):Int)
def zc3(kv:List (Int×Int))(k:Nat):Int:=(kv.map fun p=>p.2*rtA p.1 k).sum
def jh9(ts:List (Int×Int))(k:Nat):Int:=(ts.map fun t=>t.1*rtA t.2 k).sum
theorem jp6(t:Int×Int)(ts:List (Int×Int))(k:Nat):jh9 (t::ts) k=t.1*rtA t.2 k+jh9 ts k:=by simp[jh9]
theorem jav9(k:Nat):zc3 [] k=0:=rfl
theorem jm6(t:Int×Int)(ts:List (Int×Int))(k:Nat):zc3 (t::ts) k=t.2*rtA t.1 k+zc3 ts k:=by simp[zc3]
theorem jbf1(kv:List (Int×Int))(k:Nat):jh9 (kv.map js2) k=zc3 kv k:=by
 induction kv with
 | nil=>rfl
 | cons p t ih=>rw[List.map_cons,jp6,jm6,ih];rfl
theorem jaj1:∀(kv:List (Int×Int)) (r c:Int) (k:Nat),zc3 (addS kv r c) k=zc3 kv k+c*rtA r k
 | [],r,c,k=>by simp[addS,zc3]
 | (a,x)::t,r,c,k=>by
  unfold addS
  split
  ·rename_i h
   subst h
   rw[jm6,jm6]
   dsimp only
   rw[Int.add_mul];omega
  ·rw[jm6,jm6,jaj1 t r c k];omega
theorem jaj0:∀(l kv:List (Int×Int)) (m:Int) (k:Nat),zc3 (jh1 kv l m) k=zc3 kv k+m*jh9 l k
 | [],kv,m,k=>by simp[jh1,jh9]
 | t::l,kv,m,k=>by
  have ih:=jaj0 l (addS kv t.2 (t.1*m)) m k
  simp only[jh1,List.foldl_cons] at ih ⊢
  rw[ih,jaj1,jp6,Int.mul_add,<-Int.mul_assoc,Int.mul_comm m t.1];omega
theorem jaa5(xt:List (Int×Int))(m:Int)(yt:List (Int×Int))(j:Int)(k:Nat):jh9 (jk5 xt m yt j) k=m*jh9 xt k-j*jh9 yt k:=by
 unfold jk5 jr1
 rw[jbf1,jaj0,jaj0,jav9,Int.neg_mul];omega
theorem jbv6(kv:List (Int×Int))(k:Nat):zc3 (kv.filter nz) k=zc3 kv k:=by
 induction kv with
 | nil=>rfl
 | cons p t ih=>
  rw[List.filter_cons]
  by_cases h:p.2=0
  ·have e:nz p=false:=by simp[nz,h]
   rw[e,jm6,h,Int.zero_mul]
   simpa using ih
  ·have e:nz p=true:=by simp[nz,h]
   rw[e,if_pos rfl,jm6,jm6,ih]
theorem jbv8{a b:Nat}(h:a*a<b*b):a<b:=by
 rcases Nat.lt_or_ge a b with h1|h1
 ·exact h1
 ·have:=Nat.mul_self_le_mul_self h1;omega
theorem jak2{n:Nat}(h:1<=n):jd2 (rtA (n:Int)) (fun k=>((ja5 n).1:Int)*rtA ((ja5 n).2:Int) k):=by
 obtain⟨h1,_,h3,_⟩:=jm9 n h
 refine⟨((ja5 n).1:Int),fun k=>?_⟩
 dsimp only
 unfold rtA
 rw[Int.toNat_natCast,Int.toNat_natCast]
 generalize (ja5 n).1=s at *
 generalize (ja5 n).2=r at *
 generalize bits k=B
 have e:n*(B*B)=r*(B*B)*(s*s):=by rw[<-h1];simp only[Nat.mul_comm,Nat.mul_left_comm,Nat.mul_assoc]
 rw[e]
 have g1:=jah8 (r*(B*B)) s
 have g2:isq (r*(B*B)*(s*s))<=s*isq (r*(B*B))+s:=by
  have:=(jy4 (r*(B*B))).lt
  generalize isq (r*(B*B))=q at *
  have h4:r*(B*B)*(s*s)<((q+1)*s)*((q+1)*s):=by
   rw[Nat.mul_mul_mul_comm (q+1) s (q+1) s]
   exact Nat.mul_lt_mul_of_pos_right this (Nat.mul_pos h3 h3)
  have h5:=jbv8 (Nat.lt_of_le_of_lt (zg9 _) h4)
  have h6:(q+1)*s=s*q+s:=by rw[Nat.add_mul,Nat.one_mul,Nat.mul_comm]
  rw[h6] at h5
  omega
 have c1:((isq (r*(B*B))*s:Nat):Int)=(s:Int)*(isq (r*(B*B)):Int):=by rw[Int.natCast_mul,Int.mul_comm]
 have c2:((s*isq (r*(B*B)):Nat):Int)=(s:Int)*(isq (r*(B*B)):Int):=Int.natCast_mul _ _
 generalize (s:Int)*(isq (r*(B*B)):Int)=z at *
 omega
theorem jbm2(kv:List (Int×Int))(c r:Int):jd2 (zc3 (addRoot kv c r)) (fun k=>zc3 kv k+c*rtA r k):=by
 unfold addRoot
 split
 ·rename_i h
  obtain⟨n,rfl⟩:=Int.eq_ofNat_of_zero_le (Int.le_of_lt h)
  have hn:1<=n:=by omega
  rw[Int.toNat_natCast]
  exact(jd2.of_eq (g:=fun k=>zc3 kv k+c*(((ja5 n).1:Int)*rtA ((ja5 n).2:Int) k)) fun k=>by rw[jaj1,Int.mul_assoc]).trans ((jd2.refl (zc3 kv)).add ((jak2 hn).symm.smul c))
 ·rename_i h
  refine jd2.of_eq fun k=>?_
  have:r.toNat=0:=by omega
  have e:isq 0=0:=zs1 0
  unfold rtA
  rw[this,Nat.zero_mul,e];simp
theorem zs3:∀(l kv:List (Int×Int)) (m:Int),jd2 (zc3 (jb0 kv l m)) (fun k=>zc3 kv k+m*jh9 l k)
 | [],kv,m=>jd2.of_eq fun k=>by simp[jb0,jh9]
 | t::l,kv,m=>by
  have ih:=zs3 l (addRoot kv (t.1*m) t.2) m
  simp only[jb0,List.foldl_cons] at ih ⊢
  refine ih.trans (((jbm2 kv (t.1*m) t.2).add (jd2.refl fun k=>m*jh9 l k)).trans (jd2.of_eq fun k=>?_))
  (try dsimp only)
  rw[jp6,Int.mul_add,<-Int.mul_assoc m,Int.mul_comm m t.1];omega
theorem jcv8{l l':List Int}(h:l.Perm l'):l.sum=l'.sum:=by
 induction h with
 | nil=>rfl
 | cons x _ ih=>simp[ih]
 | swap x y l=>simp only[List.sum_cons];omega
 | trans _ _ ih1 ih2=>rw[ih1,ih2]
theorem jad1{a x r:Int}{t:List (Int×Int)}(h:r≠a):jc3 ((a,x)::t) r=jc3 t r:=if_neg h
theorem jca0:∀(kv:List (Int×Int)) (k:Nat),(kv.map (·.1)).Nodup->((kv.map (·.1)).map fun r=>jc3 kv r*rtA r k).sum=zc3 kv k
 | [],_,_=>rfl
 | (a,x)::t,k,h=>by
  rw[List.map_cons,List.nodup_cons] at h
  rw[jm6,List.map_cons,List.map_cons,List.sum_cons,<-jca0 t k h.2]
  congr 1
  ·show(if a=a then x else _)*_=_
   rw[if_pos rfl]
  ·congr 1
   refine List.map_congr_left fun r hr=>?_
   rw[jad1 (fun(e:r=a)=>h.1 (by rw[<-e];exact hr))]
theorem jay5{kv:List (Int×Int)}{den:Int}(h:den≠0):jf3 kv den≠0:=by
 have:=zr3 (l:=(kv.filter nz).map (·.2)++[den]) (x:=den) (by simp) h
 unfold jf3
 split<;>omega
theorem jaj5{kv:List (Int×Int)}{den:Int}:jf3 kv den∣den/\∀p∈kv.filter nz,jf3 kv den∣p.2:=by
 have h1:=zj1 ((kv.filter nz).map (·.2)++[den])
 unfold jf3
 constructor
 ·have:=Int.natAbs_dvd_natAbs.1 (show((jf2 ((kv.filter nz).map (·.2)++[den]):Nat):Int).natAbs∣den.natAbs by rw[Int.natAbs_natCast];exact h1 den (by simp))
  split
  ·exact(Int.neg_dvd).2 this
  ·exact this
 ·intro p hp
  have:=Int.natAbs_dvd_natAbs.1 (show((jf2 ((kv.filter nz).map (·.2)++[den]):Nat):Int).natAbs∣p.2.natAbs by rw[Int.natAbs_natCast];exact h1 p.2 (List.mem_append_left _ (List.mem_map_of_mem hp)))
  split
  ·exact(Int.neg_dvd).2 this
  ·exact this
theorem jcd6{kv:List (Int×Int)}{den:Int}(hn:(kv.map (·.1)).Nodup)(k:Nat):jf3 kv den*jh9 (za8 kv den) k=zc3 kv k:=by
 rw[<-jbv6 kv k]
 have hn':((kv.filter nz).map (·.1)).Nodup:=List.Nodup.sublist (List.filter_sublist.map _) hn
 rw[<-jca0 _ k hn']
 unfold za8 jh0 jh9
 have hd:=(jaj5 (kv:=kv) (den:=den)).2
 generalize jf3 kv den=G at *
 generalize kv.filter nz=l at *
 have hp:=jcv8 ((jg5 (l.map (·.1))).map fun r=>jc3 l r*rtA r k)
 rw[<-hp]
 generalize jg7 (l.map (·.1))=rs
 rw[List.map_map]
 induction rs with
 | nil=>simp
 | cons r rs ih=>
  rw[List.map_cons,List.map_cons,List.sum_cons,List.sum_cons,Int.mul_add,ih]
  congr 1
  show G*((jc3 l r).tdiv G*rtA r k)=_
  rw[<-Int.mul_assoc]
  congr 1
  have:G∣jc3 l r:=by
   rcases zc2 l r with h|h
   ·rw[h];exact Int.dvd_zero G
   ·exact hd _ h
  exact Int.mul_tdiv_cancel' this
theorem jdg1 {kv:List (Int×Int)} {den d:Int} {ts:List (Int×Int)} (hn:(kv.map (·.1)).Nodup) (hd:den≠0) (h:jf4 kv den=(d,ts,0)) :
  ∃G,G≠0/\(0<den->0<G)/\den=d*G/\∀k,G*jh9 ts k=zc3 kv k:=by
 unfold jf4 at h
 split at h
 ·injection h with _ h;injection h with _ h;cases h
 ·split at h
  ·injection h with _ h;injection h with _ h;cases h
  ·injection h with h1 h
   injection h with h2 _
   subst h1;subst h2
   refine⟨jf3 kv den,jay5 hd,fun hp=>?_,?_,fun k=>jcd6 hn k⟩
   ·have:=jay5 (kv:=kv) hd
    unfold jf3 at this ⊢
    rw[if_neg (by omega)] at this ⊢
    omega
   ·exact(Int.tdiv_mul_cancel jaj5.1).symm
theorem jk7:∀(l kv:List (Int×Int)) (m:Int),(kv.map (·.1)).Nodup->((jb0 kv l m).map (·.1)).Nodup
 | [],_,_,h=>h
 | t::l,kv,m,h=>by
  have h1:((addRoot kv (t.1*m) t.2).map (·.1)).Nodup:=by
   unfold addRoot
   split
   ·rw[zt9]
    split
    ·exact h
    ·rename_i h2;exact List.nodup_append.2 ⟨h,by simp,fun a ha b hb=>by simp at hb;subst hb;exact fun e=>h2 (by rw[<-e];exact ha)⟩
   ·exact h
  exact jk7 l _ m h1
theorem jaj7{xd yd m d:Int}{xt yt ts:List (Int×Int)}(h:jc4 xd xt yd yt m=(d,ts,0)):ja7 xd xt=true/\ja7 yd yt=true/\∃G,0<G/\xd*yd=d*G/\jd2 (fun k=>G*jh9 ts k) (fun k=>yd*jh9 xt k+m*xd*jh9 yt k):=by
 unfold jc4 at h
 split at h
 ·rename_i hn
  rw[Bool.and_eq_true] at hn
  have hx:=jb1 hn.1;have hy:=jb1 hn.2
  have hp:0<xd*yd:=Int.mul_pos (by omega) (by omega)
  obtain⟨G,_,h2,h3,h4⟩:=jdg1 (jk7 yt _ _ (jk7 xt [] _ (by simp))) (by omega) h
  refine⟨hn.1,hn.2,G,h2 hp,h3,(jd2.of_eq h4).trans ((zs3 yt _ _).trans (((zs3 xt [] yd).add (jd2.refl fun k=>m*xd*jh9 yt k)).trans (jd2.of_eq fun k=>?_)))⟩
  (try dsimp only)
  rw[jav9];omega
 ·injection h with _ h;injection h with _ h;cases h
theorem jv7.congr{f g h f' g' h':Nat->Int}(H:jv7 f g h)(e1:∀k,f k=f' k)(e2:∀k,g k=g' k)(e3:∀k,h k=h' k):jv7 f' g' h':=by
 obtain⟨C,H⟩:=H
 exact⟨C,fun k=>by rw[<-e1,<-e2,<-e3];exact H k⟩
theorem jdf0(t:Int×Int)(k:Nat):-(t.1.natAbs:Int)<=(jg3 t k:Int)-t.1.natAbs*rtA t.2 k/\(jg3 t k:Int)-t.1.natAbs*rtA t.2 k<=t.1.natAbs:=by
 unfold jg3 zf4 sqT rtA
 generalize t.1.natAbs=c
 generalize t.2.toNat=r
 generalize bits k=B
 have e:c*c*r*(B*B)=r*(B*B)*(c*c):=by simp only[Nat.mul_comm,Nat.mul_left_comm,Nat.mul_assoc]
 rw[e]
 have g1:=jah8 (r*(B*B)) c
 have g2:isq (r*(B*B)*(c*c))<=c*isq (r*(B*B))+c:=by
  have:=(jy4 (r*(B*B))).lt
  generalize isq (r*(B*B))=q at *
  rcases Nat.eq_zero_or_pos c with h0|h0
  ·subst h0
   have e0:isq 0=0:=zs1 0
   simp[e0]
  ·have h4:r*(B*B)*(c*c)<((q+1)*c)*((q+1)*c):=by
    rw[Nat.mul_mul_mul_comm (q+1) c (q+1) c]
    exact Nat.mul_lt_mul_of_pos_right this (Nat.mul_pos h0 h0)
   have h5:=jbv8 (Nat.lt_of_le_of_lt (zg9 _) h4)
   have h6:(q+1)*c=c*q+c:=by rw[Nat.add_mul,Nat.one_mul,Nat.mul_comm]
   rw[h6] at h5
   omega
 have c1:((isq (r*(B*B))*c:Nat):Int)=(c:Int)*(isq (r*(B*B)):Int):=by rw[Int.natCast_mul,Int.mul_comm]
 have c2:((c*isq (r*(B*B)):Nat):Int)=(c:Int)*(isq (r*(B*B)):Int):=Int.natCast_mul _ _
 generalize (c:Int)*(isq (r*(B*B)):Int)=z at *
 omega
def absS(ts:List (Int×Int)):Int:=(ts.map fun t=>(t.1.natAbs:Int)).sum
theorem jbm3 (k:Nat):∀(ts:List (Int×Int)),-(absS ts)<=(jh5 ts k:Int)-jh6 ts k-jh9 ts k/\(jh5 ts k:Int)-jh6 ts k-jh9 ts k<=absS ts
 | []=>by simp[absS,jh5,jh6,jh9]
 | t::ts=>by
  have ih:=jbm3 k ts
  have h:=jdf0 t k
  rw[jp6]
  unfold jh5 jh6 absS at *
  simp only[List.map_cons,List.sum_cons]
  by_cases h0:t.1<0
  ·rw[if_pos h0,if_pos h0]
   have e:(t.1.natAbs:Int)*rtA t.2 k=-(t.1*rtA t.2 k):=by rw[show(t.1.natAbs:Int)=-t.1 by omega,Int.neg_mul]
   rw[e] at h
   omega
  ·rw[if_neg h0,if_neg h0]
   have e:(t.1.natAbs:Int)*rtA t.2 k=t.1*rtA t.2 k:=by rw[show(t.1.natAbs:Int)=t.1 by omega]
   rw[e] at h
   omega
theorem zh6{ts:List (Int×Int)}{k:Nat}(h:jb9 ts k=1):jd8 (jh9 ts):=by
 have h1:=jap2 h
 have key:jd8 fun j=>jh9 ts j+absS ts:=by
  refine⟨(bits k:Int),k,jj3 k,fun K hK=>?_⟩
  obtain⟨j,rfl⟩:=Nat.le.dest hK
  have a1:=jcj2 ts k j
  have a2:=jcj6 ts k j
  have a3:=jbd5 ts (k+j)
  have a4:=jbm3 (k+j) ts
  have b1:jn6 ts k*bits j+bits j<=jh5 ts k*bits j:=by
   have:=Nat.mul_le_mul_right (bits j) (show jn6 ts k+1<=jh5 ts k by omega)
   rw[Nat.add_mul,Nat.one_mul] at this
   exact this
  have b2:(bits j:Int)<=jh9 ts (k+j)+absS ts:=by omega
  have b3:=Int.mul_le_mul_of_nonneg_left b2 (Int.le_of_lt (jj3 k))
  rw[jac0,Int.natCast_mul]
  exact b3
 exact key.near ⟨(absS ts).natAbs,fun k=>by dsimp only;omega⟩
theorem zh5{ts:List (Int×Int)}{k:Nat}(h:jb9 ts k=-1):jd8 fun k=>-jh9 ts k:=by
 have h1:=jap1 h
 have key:jd8 fun j=>-jh9 ts j+(absS ts):=by
  refine⟨(bits k:Int),k,jj3 k,fun K hK=>?_⟩
  obtain⟨j,rfl⟩:=Nat.le.dest hK
  have a1:=jcj5 ts k j
  have a2:=jcj3 ts k j
  have a3:=jag7 ts (k+j)
  have a4:=jbm3 (k+j) ts
  have b1:jn5 ts k*bits j+bits j<=jh6 ts k*bits j:=by
   have:=Nat.mul_le_mul_right (bits j) (show jn5 ts k+1<=jh6 ts k by omega)
   rw[Nat.add_mul,Nat.one_mul] at this
   exact this
  have b2:(bits j:Int)<=-jh9 ts (k+j)+absS ts:=by omega
  have b3:=Int.mul_le_mul_of_nonneg_left b2 (Int.le_of_lt (jj3 k))
  rw[jac0,Int.natCast_mul]
  exact b3
 exact key.near ⟨(absS ts).natAbs,fun k=>by dsimp only;omega⟩
theorem zb1:∀(ts:List (Int×Int)) (k:Nat),jh9 (ts.filter nzT) k=jh9 ts k
 | [],_=>rfl
 | t::ts,k=>by
  rw[List.filter_cons]
  by_cases h:t.1=0
  ·have e:nzT t=false:=by simp[nzT,h]
   rw[e,jp6,h,Int.zero_mul,Int.zero_add]
   simpa using zb1 ts k
  ·have e:nzT t=true:=by simp[nzT,h]
   rw[e,if_pos rfl,jp6,jp6,zb1 ts k]
theorem jb3.sg{ts:List (Int×Int)}{s:Int}(h:jb3 ts s):Sg (jh9 ts) s:=by
 rcases h with⟨h1,rfl⟩|⟨_,h1,k,h2⟩
 ·refine .inr (.inr ⟨rfl,Bdd.zero.congr fun k=>?_⟩)
  rw[<-zb1,h1];rfl
 ·rcases js3 (ts.filter nzT) k with h3|h3|h3
  ·refine .inl ⟨by rw[<-h2,h3],(zh6 h3).congr fun k=>zb1 ts k⟩
  ·refine .inr (.inl ⟨by rw[<-h2,h3],(zh5 h3).congr fun k=>by rw[zb1 ts k]⟩)
  ·exact absurd (h2.symm.trans h3) h1
theorem jam5 (m:Nat):∀(l:List Int) (g:Nat),(l.map fun x=>x*(m:Int)).foldl (fun g x=>Nat.gcd g x.natAbs) (g*m)=l.foldl (fun g x=>Nat.gcd g x.natAbs) g*m
 | [],_=>rfl
 | x::l,g=>by
  rw[List.map_cons,List.foldl_cons,List.foldl_cons,Int.natAbs_mul,Int.natAbs_natCast,Nat.gcd_mul_right]
  exact jam5 m l _
theorem zz9(m:Nat)(l:List Int):jf2 (l.map fun x=>x*(m:Int))=jf2 l*m:=by
 have:=jam5 m l 0
 rw[Nat.zero_mul] at this
 exact this
theorem jck1 {f:Int->Int}:∀(rs:List Int) (last:Int),rs.Pairwise (fun a b=>a<b)->(∀r∈rs,last<r/\jg8 r/\f r≠0/\-100000<=f r/\f r<=100000)->jt3 last (rs.map fun r=>(f r,r))=true
 | [],_,_,_=>rfl
 | r::rs,last,hp,h=>by
  obtain⟨h1,h2,h3,h4⟩:=h r (by simp)
  rw[List.pairwise_cons] at hp
  rw[List.map_cons]
  unfold jt3
  rw[Bool.and_eq_true]
  refine⟨?_,jck1 rs r hp.2 (fun q hq=>⟨hp.1 q hq,(h q (by simp[hq])).2⟩)⟩
  unfold okT
  simp only[Bool.and_eq_true,decide_eq_true_eq]
  have h5:=(zg4 r.toNat (by have:=h2.1;omega)).2 h2.2.2
  exact⟨⟨⟨⟨h1,h2.2.1⟩,h3⟩,by simp[inB];omega⟩,by omega⟩
theorem jcs3{l:List (Int×Int)}(h:(l.map (·.1)).Nodup):(l.map (·.1)).map (jc3 l)=l.map (·.2):=by
 rw[List.map_map]
 exact List.map_congr_left fun p hp=>jg9 h p hp
theorem jba2{a G:Int}(h:G∣a):a.tdiv G*G=a:=Int.tdiv_mul_cancel h
theorem jbt0{l:List (Int×Int)}{G r:Int}(h:∀p∈l,G∣p.2):G∣jc3 l r:=by
 rcases zc2 l r with h1|h1
 ·rw[h1];exact Int.dvd_zero G
 ·exact h _ h1
theorem jbz1{kv:List (Int×Int)}{den d:Int}{ts:List (Int×Int)}(hn:(kv.map (·.1)).Nodup)(hr:∀r∈kv.map (·.1),jg8 r)(hd:0<den)(h:jf4 kv den=(d,ts,0)):ja7 d ts=true:=by
 have hG0:=jay5 (kv:=kv) (show den≠0 by omega)
 have hGp:jf3 kv den=(jf2 ((kv.filter nz).map (·.2)++[den]):Int):=by unfold jf3;rw[if_neg (by omega)]
 obtain⟨hd1,hd2⟩:=jaj5 (kv:=kv) (den:=den)
 have hn':((kv.filter nz).map (·.1)).Nodup:=List.Nodup.sublist (List.filter_sublist.map _) hn
 have hr':∀r∈(kv.filter nz).map (·.1),jg8 r:=fun r hm=>by
  obtain⟨p,hp,rfl⟩:=List.mem_map.1 hm
  exact hr _ (List.mem_map_of_mem (List.mem_filter.1 hp).1)
 have hz:∀p∈kv.filter nz,p.2≠0:=fun p hp=>by have:=(List.mem_filter.1 hp).2;simpa [nz] using this
 unfold jf4 at h
 split at h
 ·injection h with _ h;injection h with _ h;cases h
 ·rename_i hl
  split at h
  ·injection h with _ h;injection h with _ h;cases h
  ·rename_i hb
   injection h with h1 h
   injection h with h2 _
   simp only[Bool.or_eq_true,decide_eq_true_eq,List.any_eq_true,not_or,not_exists,not_and] at hb
   obtain⟨hb1,hb2⟩:=hb
   have hG1:0<jf3 kv den:=by omega
   generalize hGe:jf3 kv den=G at *
   have hdm:=jba2 hd1
   have hdp:1<=den.tdiv G:=by
    rcases Int.lt_or_le 0 (den.tdiv G)with h|h
    ·omega
    ·have:=Int.mul_nonneg (show 0<=-(den.tdiv G) by omega) (Int.le_of_lt hG1)
     rw[Int.neg_mul,hdm] at this;omega
   have hT:za8 kv den=(jg7 ((kv.filter nz).map (·.1))).map fun r=>((jc3 (kv.filter nz) r).tdiv G,r):=by unfold za8 jh0;rw[hGe]
   rw[hT] at hl hb2 h2
   subst h1
   subst h2
   have hsp:=jg5 ((kv.filter nz).map (·.1))
   have hss:(jg7 ((kv.filter nz).map (·.1))).Pairwise (fun a b=>a<b):=by
    have hnd:(jg7 ((kv.filter nz).map (·.1))).Nodup:=(hsp.nodup_iff).2 hn'
    exact(List.Pairwise.and (jv2 _) hnd).imp (fun h=>by omega)
   have hmem:∀r∈jg7 ((kv.filter nz).map (·.1)),r∈(kv.filter nz).map (·.1):=fun r hm=>hsp.mem_iff.1 hm
   unfold ja7
   simp only[Bool.and_eq_true,decide_eq_true_eq]
   refine⟨⟨⟨by simp[inB];omega,by omega⟩,?_⟩,?_⟩
   ·refine jck1 (f:=fun r=>(jc3 (kv.filter nz) r).tdiv G) _ 0 hss (fun r hm=>?_)
    have hro:=hr' r (hmem r hm)
    have hbt:¬jp3 ((jc3 (kv.filter nz) r).tdiv G,r)=true:=hb2 _ (List.mem_map_of_mem hm)
    obtain⟨p,hp,hpe⟩:=List.mem_map.1 (hmem r hm)
    have hg:=jg9 hn' p hp
    rw[hpe] at hg
    have hc:=jba2 (jbt0 (r:=r) hd2)
    refine⟨by have:=hro.1;omega,hro,fun e=>?_,?_⟩
    ·rw[e,Int.zero_mul,hg] at hc;exact hz p hp hc.symm
    ·unfold jp3 at hbt
     rw[Bool.or_eq_true,not_or] at hbt
     have:=hbt.2
     simpa [inB] using this
   ·have hsc:=zz9 G.toNat (den.tdiv G::((jg7 ((kv.filter nz).map (·.1))).map fun r=>((jc3 (kv.filter nz) r).tdiv G,r)).map (·.1))
    rw[Int.toNat_of_nonneg (Int.le_of_lt hG1),List.map_cons,hdm,List.map_map,List.map_map] at hsc
    have e1:(jg7 ((kv.filter nz).map (·.1))).map (((fun x=>x*G)∘fun x:Int×Int=>x.1)∘fun r=>((jc3 (kv.filter nz) r).tdiv G,r))=(jg7 ((kv.filter nz).map (·.1))).map (jc3 (kv.filter nz)):=
     List.map_congr_left fun r _=>jba2 (jbt0 (r:=r) hd2)
    rw[e1] at hsc
    have e2:jf2 (den::(jg7 ((kv.filter nz).map (·.1))).map (jc3 (kv.filter nz)))=G.toNat:=by
     have p1:(den::(jg7 ((kv.filter nz).map (·.1))).map (jc3 (kv.filter nz))).Perm ((kv.filter nz).map (·.2)++[den]):=by
      refine((hsp.map _).cons den).trans ?_
      rw[jcs3 hn']
      exact(List.perm_append_singleton den _).symm
     rw[zv2 p1]
     omega
    rw[e2] at hsc
    have:0<G.toNat:=by omega
    have h5:1*G.toNat=jf2 (den.tdiv G::((jg7 ((kv.filter nz).map (·.1))).map fun r=>((jc3 (kv.filter nz) r).tdiv G,r)).map (·.1))*G.toNat:=by omega
    exact(Nat.eq_of_mul_eq_mul_right this h5).symm
theorem jz8:∀(l kv:List (Int×Int)) (m:Int),(∀r∈kv.map (·.1),jg8 r)->(∀t∈l,t.2<=1000)->∀r∈(jb0 kv l m).map (·.1),jg8 r
 | [],_,_,h,_=>h
 | t::l,kv,m,h,ht=>by
  have h1:∀r∈(addRoot kv (t.1*m) t.2).map (·.1),jg8 r:=by
   unfold addRoot
   split
   ·rename_i h0
    rw[zt9]
    split
    ·exact h
    ·intro r hr
     rcases List.mem_append.1 hr with h2|h2
     ·exact h r h2
     ·simp only[List.mem_singleton] at h2
      subst h2
      have hn:1<=t.2.toNat:=by omega
      obtain⟨_,g2,_,g4⟩:=jm9 t.2.toNat hn
      have g5:=(zj6 t.2.toNat hn).2
      have:=ht t (by simp)
      exact⟨by omega,by omega,by rw[Int.toNat_natCast];exact g2⟩
   ·exact h
  exact jz8 l _ m h1 (fun u hu=>ht u (by simp[hu]))
theorem jad7{d:Int}{ts:List (Int×Int)}(h:ja7 d ts=true):∀t∈ts,t.2<=1000:=fun t ht=>((jj2 h).1 t ht).2.1
theorem jan5{xd yd m d:Int}{xt yt ts:List (Int×Int)}(h:jc4 xd xt yd yt m=(d,ts,0)):ja7 d ts=true:=by
 obtain⟨h1,h2,_⟩:=jaj7 h
 have hx:=jb1 h1;have hy:=jb1 h2
 unfold jc4 at h
 rw[h1,h2] at h
 simp only[Bool.and_self,if_true] at h
 exact jbz1 (jk7 yt _ _ (jk7 xt [] _ (by simp))) (jz8 yt _ _ (jz8 xt [] _ (by simp) (jad7 h1)) (jad7 h2)) (Int.mul_pos (by omega) (by omega)) h
end Go.Proofs.YtphcodcdfeohhaaGreatDoor
