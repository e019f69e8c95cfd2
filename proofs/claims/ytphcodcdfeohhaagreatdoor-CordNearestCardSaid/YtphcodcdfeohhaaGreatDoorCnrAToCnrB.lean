import Derived.Test.YtphcodcdfeohhaaGreatDoorTimAToAsyY
set_option linter.unusedVariables false
set_option linter.unusedSimpArgs false
namespace Go.Proofs.YtphcodcdfeohhaaGreatDoor
open Go Go.RowKit
theorem jcg3(n:Nat)(k:Nat):rtA (n:Int) k*rtA (n:Int) k<=(n:Int)*((bits k:Int)*bits k)/\(n:Int)*((bits k:Int)*bits k)<(rtA (n:Int) k+1)*(rtA (n:Int) k+1):=by
 unfold rtA
 rw[Int.toNat_natCast]
 have h1:=zg9 (n*(bits k*bits k))
 have h2:=(jy4 (n*(bits k*bits k))).lt
 constructor
 ·exact_mod_cast h1
 ·exact_mod_cast h2
theorem jbn2{p T:Int}(hp:0<=p)(hT:0<=T)(h:p*p<T*T):p<T:=by
 rcases Int.lt_or_le p T with h1|h1
 ·exact h1
 ·have:=Int.mul_le_mul h1 h1 hT hp;omega
theorem gap{T p B C:Int}(hB:0<B)(hp:0<=p)(hT:0<=T)(e:p*p+B*B<=T*T)(hc:T+p<=C*B):B<=C*(T-p):=by
 have hBB:0<B*B:=Int.mul_pos hB hB
 have hlt:=jbn2 hp hT (by omega)
 have h1:(T-p)*(T+p)=T*T-p*p:=by rw[Int.sub_mul,Int.mul_add,Int.mul_add,Int.mul_comm p T];omega
 have h2:(T-p)*(T+p)<=(T-p)*(C*B):=Int.mul_le_mul_of_nonneg_left hc (by omega)
 have h3:(T-p)*(C*B)=C*(T-p)*B:=by ac_rfl
 exact Int.le_of_mul_le_mul_right (show B*B<=C*(T-p)*B by omega) hB
section
variable {n : Nat} {u v : Int}
theorem zr5(hu:0<=u)(hv:0<=v)(h:(n:Int)*(v*v)<u*u):jd8 fun k=>u*bits k-v*rtA (n:Int) k:=by
 have hu1:0<u:=by
  rcases Int.lt_or_le 0 u with h1|h1
  ·exact h1
  ·have:u=0:=by omega
   subst this
   have:=Int.mul_nonneg (show(0:Int)<=n by omega) (Int.mul_nonneg hv hv)
   omega
 refine⟨2*u,0,by omega,fun k _=>?_⟩
 obtain⟨hs,_⟩:=jcg3 n k
 have hs0:=zm2 (n:Int) k
 have hB:=jj3 k
 dsimp only
 generalize rtA (n:Int) k=s at *
 generalize (bits k:Int)=B at *
 have hBB:=Int.mul_nonneg (Int.le_of_lt hB) (Int.le_of_lt hB)
 have a1:v*v*(s*s)<=v*v*(n*(B*B)):=Int.mul_le_mul_of_nonneg_left hs (Int.mul_nonneg hv hv)
 have a2:((n:Int)*(v*v)+1)*(B*B)<=u*u*(B*B):=Int.mul_le_mul_of_nonneg_right h hBB
 have a3:((n:Int)*(v*v)+1)*(B*B)=v*v*(n*(B*B))+B*B:=by rw[Int.add_mul,Int.one_mul];congr 1;ac_rfl
 have a4:(v*s)*(v*s)=v*v*(s*s):=by ac_rfl
 have a5:(u*B)*(u*B)=u*u*(B*B):=by ac_rfl
 have hp:=Int.mul_nonneg hv hs0
 have hT:=Int.mul_nonneg hu (Int.le_of_lt hB)
 have e:v*s*(v*s)+B*B<=u*B*(u*B):=by omega
 have hlt:=jbn2 hp hT (by have:=Int.mul_pos hB hB;omega)
 exact gap hB hp hT e (by rw[Int.mul_assoc];omega)
theorem jag9(hu:0<=u)(hv:0<=v)(h:(n:Int)*(v*v)=u*u):Bdd fun k=>u*bits k-v*rtA (n:Int) k:=by
 refine⟨v,fun k=>?_⟩
 obtain⟨hs,hs2⟩:=jcg3 n k
 have hs0:=zm2 (n:Int) k
 have hB:=jj3 k
 dsimp only
 generalize rtA (n:Int) k=s at *
 generalize (bits k:Int)=B at *
 have a1:v*v*(s*s)<=v*v*(n*(B*B)):=Int.mul_le_mul_of_nonneg_left hs (Int.mul_nonneg hv hv)
 have a2:v*v*(n*(B*B))<=v*v*((s+1)*(s+1)):=Int.mul_le_mul_of_nonneg_left (Int.le_of_lt hs2) (Int.mul_nonneg hv hv)
 have a3:v*v*(n*(B*B))=(u*B)*(u*B):=by rw[show(u*B)*(u*B)=u*u*(B*B) by ac_rfl,<-h];ac_rfl
 have a4:(v*s)*(v*s)=v*v*(s*s):=by ac_rfl
 have a5:(v*(s+1))*(v*(s+1))=v*v*((s+1)*(s+1)):=by ac_rfl
 have hp:=Int.mul_nonneg hv hs0
 have hq:=Int.mul_nonneg hv (show 0<=s+1 by omega)
 have hT:=Int.mul_nonneg hu (Int.le_of_lt hB)
 have e1:v*s<=u*B:=by
  rcases Int.lt_or_le (u*B) (v*s)with g|g
  ·have:=Int.mul_lt_mul_of_pos_left g (show 0<v*s by omega)
   have:=Int.mul_le_mul_of_nonneg_right (Int.le_of_lt g) hT
   omega
  ·exact g
 have e2:u*B<=v*(s+1):=by
  rcases Int.lt_or_le (v*(s+1)) (u*B)with g|g
  ·have:=Int.mul_lt_mul_of_pos_left g (show 0<u*B by omega)
   have:=Int.mul_le_mul_of_nonneg_right (Int.le_of_lt g) hq
   omega
  ·exact g
 have e3:v*(s+1)=v*s+v:=by rw[Int.mul_add,Int.mul_one]
 omega
theorem zf9(hu:0<=u)(hv:0<=v)(h:u*u<(n:Int)*(v*v)):jd8 fun k=>v*rtA (n:Int) k-u*bits k:=by
 have hG:jd8 fun k=>v*(rtA (n:Int) k+1)-u*bits k:=by
  refine⟨v*n+v+u+1,0,by have:=Int.mul_nonneg hv (show(0:Int)<=n by omega);omega,fun k _=>?_⟩
  obtain⟨_,hs⟩:=jcg3 n k
  have hs0:=zm2 (n:Int) k
  have hsl:=jdh4 (n:Int) k
  rw[Int.toNat_natCast] at hsl
  have hB:=jj3 k
  dsimp only
  generalize rtA (n:Int) k=s at *
  generalize (bits k:Int)=B at *
  have hBB:=Int.mul_nonneg (Int.le_of_lt hB) (Int.le_of_lt hB)
  have a1:v*v*(n*(B*B))<=v*v*((s+1)*(s+1)):=Int.mul_le_mul_of_nonneg_left (Int.le_of_lt hs) (Int.mul_nonneg hv hv)
  have a2:(u*u+1)*(B*B)<=(n:Int)*(v*v)*(B*B):=Int.mul_le_mul_of_nonneg_right h hBB
  have a3:(u*u+1)*(B*B)=(u*B)*(u*B)+B*B:=by rw[Int.add_mul,Int.one_mul];congr 1;ac_rfl
  have a4:(v*(s+1))*(v*(s+1))=v*v*((s+1)*(s+1)):=by ac_rfl
  have a5:v*v*(n*(B*B))=(n:Int)*(v*v)*(B*B):=by ac_rfl
  have hp:=Int.mul_nonneg hu (Int.le_of_lt hB)
  have hT:=Int.mul_nonneg hv (show 0<=s+1 by omega)
  have b1:v*s<=v*(n*B):=Int.mul_le_mul_of_nonneg_left hsl hv
  have b2:v*1<=v*B:=Int.mul_le_mul_of_nonneg_left (by omega) hv
  have b3:v*(s+1)=v*s+v*1:=Int.mul_add _ _ _
  have b4:(v*n+v+u+1)*B=v*(n*B)+v*B+u*B+B:=by rw[Int.add_mul,Int.add_mul,Int.add_mul,Int.one_mul,Int.mul_assoc]
  exact gap hB hp hT (by omega) (by omega)
 exact hG.near ⟨v,fun k=>by dsimp only;rw[Int.mul_add,Int.mul_one];omega⟩
end
theorem Bdd.unsmul_{f:Nat->Int}{c:Int}(hc:0<c)(h:Bdd fun k=>c*f k):Bdd f:=by
 obtain⟨C,h⟩:=h
 refine⟨C,fun k=>?_⟩
 have h1:=h k
 dsimp only at h1
 rcases Int.lt_or_le (f k) 0 with g|g
 ·have:c*f k<=1*f k:=Int.mul_le_mul_of_nonpos_right (by omega) (by omega)
  omega
 ·have:1*f k<=c*f k:=Int.mul_le_mul_of_nonneg_right (by omega) g
  omega
theorem Ge.unsmul{f:Nat->Int}{c:Int}(hc:0<c)(h:Ge fun k=>c*f k):Ge f:=h.elim (fun h=>.inl (h.unsmul hc)) fun h=>.inr (h.unsmul_ hc)
theorem Ge.congr{f g:Nat->Int}(h:∀k,f k=g k)(hf:Ge f):Ge g:=hf.elim (fun hf=>.inl (hf.congr h)) fun hf=>.inr (hf.congr h)
def jh2(n:Nat)(p:Int×Int)(k:Nat):Int:=if(n:Int)*(p.2*p.2)<=p.1*p.1 then p.1*bits k-p.2*rtA (n:Int) k else p.2*rtA (n:Int) k-p.1*bits k
def LeD(n:Nat)(p q:Int×Int):Prop:=Ge fun k=>p.2*jh2 n q k-q.2*jh2 n p k
theorem LeD.refl(n:Nat)(p:Int×Int):LeD n p p:=.inr (Bdd.zero.congr fun k=>by omega)
theorem LeD.trans{n:Nat}{p q r:Int×Int}(hq:0<q.2)(hp:0<p.2)(hr:0<r.2)(h:LeD n p q)(h':LeD n q r):LeD n p r:=by
 refine Ge.unsmul hq (((h'.smul hp).add (h.smul hr)).congr fun k=>?_)
 generalize jh2 n q k=a
 generalize jh2 n r k=b
 generalize jh2 n p k=c
 rw[Int.mul_sub,Int.mul_sub,Int.mul_sub]
 have e1:p.2*(r.2*a)=r.2*(p.2*a):=by ac_rfl
 have e2:p.2*(q.2*b)=q.2*(p.2*b):=by ac_rfl
 have e3:r.2*(q.2*c)=q.2*(r.2*c):=by ac_rfl
 omega
theorem jar5{n:Nat}{p:Int×Int}(h1:0<=p.1)(h2:0<=p.2):Ge (jh2 n p):=by
 unfold jh2
 by_cases h:(n:Int)*(p.2*p.2)<=p.1*p.1
 ·simp only[if_pos h]
  rcases Int.lt_or_eq_of_le h with g|g
  ·exact .inl (zr5 h1 h2 g)
  ·exact .inr (jag9 h1 h2 g)
 ·simp only[if_neg h]
  exact .inl (zf9 h1 h2 (by omega))
def jat0(n a b c d:Int):Bool:=
 if(decide (n*b*b<=a*a)&&decide (n*d*d<=c*c))=true then decide (a*d<c*b)
 else if(!decide (n*b*b<=a*a)&&!decide (n*d*d<=c*c))=true then decide (c*b<a*d)
 else if decide (n*b*b<=a*a)=true then decide ((a*d+c*b)*(a*d+c*b)<4*n*b*b*d*d)
 else decide (4*n*b*b*d*d<(a*d+c*b)*(a*d+c*b))
section
variable {n : Nat} {a b c d : Int}
theorem jaj6(h1:(n:Int)*(b*b)<=a*a)(h2:(n:Int)*(d*d)<=c*c)(k:Nat):b*jh2 n (c,d) k-d*jh2 n (a,b) k=(c*b-a*d)*bits k:=by
 unfold jh2
 dsimp only
 rw[if_pos h1,if_pos h2]
 generalize (bits k:Int)=B
 generalize rtA (n:Int) k=r
 grind
theorem zt3(h1:¬(n:Int)*(b*b)<=a*a)(h2:¬(n:Int)*(d*d)<=c*c)(k:Nat):b*jh2 n (c,d) k-d*jh2 n (a,b) k=(a*d-c*b)*bits k:=by
 unfold jh2
 dsimp only
 rw[if_neg h1,if_neg h2]
 generalize (bits k:Int)=B
 generalize rtA (n:Int) k=r
 grind
theorem jaa7(h1:(n:Int)*(b*b)<=a*a)(h2:¬(n:Int)*(d*d)<=c*c)(k:Nat):b*jh2 n (c,d) k-d*jh2 n (a,b) k=(2*b*d)*rtA (n:Int) k-(a*d+c*b)*bits k:=by
 unfold jh2
 dsimp only
 rw[if_pos h1,if_neg h2]
 generalize (bits k:Int)=B
 generalize rtA (n:Int) k=r
 grind
theorem jab3(h1:¬(n:Int)*(b*b)<=a*a)(h2:(n:Int)*(d*d)<=c*c)(k:Nat):b*jh2 n (c,d) k-d*jh2 n (a,b) k=(a*d+c*b)*bits k-(2*b*d)*rtA (n:Int) k:=by
 unfold jh2
 dsimp only
 rw[if_neg h1,if_pos h2]
 generalize (bits k:Int)=B
 generalize rtA (n:Int) k=r
 grind
theorem jbr3(ha:0<=a)(hb:0<=b)(hc:0<=c)(hd:0<=d):(jat0 n a b c d=true->LeD n (a,b) (c,d))/\(jat0 n a b c d=false->LeD n (c,d) (a,b)):=by
 have hu:0<=a*d+c*b:=by have:=Int.mul_nonneg ha hd;have:=Int.mul_nonneg hc hb;omega
 have hv:0<=2*b*d:=Int.mul_nonneg (Int.mul_nonneg (by omega) hb) hd
 have e4:4*(n:Int)*b*b*d*d=(n:Int)*((2*b*d)*(2*b*d)):=by grind
 have f1:(n:Int)*b*b=n*(b*b):=Int.mul_assoc _ _ _
 have f2:(n:Int)*d*d=n*(d*d):=Int.mul_assoc _ _ _
 unfold jat0 LeD
 dsimp only
 rw[e4,f1,f2]
 have en:∀k,d*jh2 n (a,b) k-b*jh2 n (c,d) k=-(b*jh2 n (c,d) k-d*jh2 n (a,b) k):=fun k=>by omega
 by_cases h1:(n:Int)*(b*b)<=a*a<;>by_cases h2:(n:Int)*(d*d)<=c*c
 ·rw[decide_eq_true h1,decide_eq_true h2,if_pos rfl]
  refine⟨fun h=>?_,fun h=>?_⟩
  ·exact(jac9 (c:=c*b-a*d) (by have:=of_decide_eq_true h;omega)).congr fun k=>(jaj6 h1 h2 k).symm
  ·exact(jac9 (c:=a*d-c*b) (by have:=of_decide_eq_false h;omega)).congr fun k=>by rw[en,jaj6 h1 h2 k,Int.sub_mul,Int.sub_mul];omega
 ·rw[decide_eq_true h1,decide_eq_false h2]
  simp only[Bool.and_false,Bool.false_eq_true,if_false,Bool.not_true,Bool.false_and,if_true]
  refine⟨fun h=>?_,fun h=>?_⟩
  ·exact .inl ((zf9 hu hv (of_decide_eq_true h)).congr fun k=>(jaa7 h1 h2 k).symm)
  ·have h:=of_decide_eq_false h
   refine Ge.congr (fun k=>(by rw[en,jaa7 h1 h2 k];omega:(a*d+c*b)*(bits k:Int)-2*b*d*rtA (n:Int) k=_)) ?_
   rcases Int.lt_or_eq_of_le (Int.not_lt.1 h)with g|g
   ·exact .inl (zr5 hu hv g)
   ·exact .inr (jag9 hu hv g)
 ·rw[decide_eq_false h1,decide_eq_true h2]
  simp only[Bool.and_true,Bool.false_eq_true,if_false,Bool.not_true,Bool.and_false]
  refine⟨fun h=>?_,fun h=>?_⟩
  ·exact .inl ((zr5 hu hv (of_decide_eq_true h)).congr fun k=>(jab3 h1 h2 k).symm)
  ·have h:=of_decide_eq_false h
   refine Ge.congr (fun k=>(by rw[en,jab3 h1 h2 k];omega:2*b*d*rtA (n:Int) k-(a*d+c*b)*(bits k:Int)=_)) ?_
   rcases Int.lt_or_eq_of_le (Int.not_lt.1 h)with g|g
   ·exact .inl (zf9 hu hv g)
   ·exact .inr ((jag9 hu hv g.symm).neg.congr fun k=>by omega)
 ·rw[decide_eq_false h1,decide_eq_false h2]
  simp only[Bool.and_false,Bool.false_eq_true,if_false,Bool.not_false,Bool.and_true,if_true]
  refine⟨fun h=>?_,fun h=>?_⟩
  ·exact(jac9 (c:=a*d-c*b) (by have:=of_decide_eq_true h;omega)).congr fun k=>(zt3 h1 h2 k).symm
  ·exact(jac9 (c:=c*b-a*d) (by have:=of_decide_eq_false h;omega)).congr fun k=>by rw[en,zt3 h1 h2 k,Int.sub_mul,Int.sub_mul];omega
end
end Go.Proofs.YtphcodcdfeohhaaGreatDoor
