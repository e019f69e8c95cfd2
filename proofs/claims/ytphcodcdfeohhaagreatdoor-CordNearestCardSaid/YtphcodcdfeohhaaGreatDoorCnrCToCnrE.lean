import Derived.Test.YtphcodcdfeohhaaGreatDoorCnrAToCnrB
import Derived.Test.YtphcodcdfeohhaaGreatDoorTimAToAsyY
import Derived.Test.YtphcodcdfeohhaaGreatDoorCordNToCordO
import Derived.Test.YtphcodcdfeohhaaGreatDoorCordPToCordQ
set_option linter.unusedVariables false
set_option linter.unusedSimpArgs false
namespace Go.Proofs.YtphcodcdfeohhaaGreatDoor
open Go Go.RowKit
theorem jcn2{a b:Int}(ha:0<=a)(h:a<=b):a*a<=b*b:=Int.mul_le_mul h h ha (by omega)
theorem jby8{n:Nat}{d:Int}{k:Nat}(hd:0<d)(hk1:∀j:Nat,j<k->(2*(j:Int)+1)*(2*(j:Int)+1)<=4*n*d*d)(hk2:¬(2*(k:Int)+1)*(2*(k:Int)+1)<=4*n*d*d){c:Int}(hc:0<=c):LeD n ((k:Int),d) (c,d):=by
 refine(jbr3 hc (by omega) (by omega) (by omega)).2 ?_
 obtain⟨c,rfl⟩:=Int.eq_ofNat_of_zero_le hc
 have hdd:0<d*d:=Int.mul_pos hd hd
 have g1:4*(n:Int)*d*d=4*(n*d*d):=by grind
 rw[g1] at hk1 hk2
 have low:∀x:Int,0<=x->x+1<=(k:Int)->(2*x+1)*(2*x+1)<=4*(n*d*d):=fun x h0 h1=>by
  obtain⟨y,rfl⟩:=Int.eq_ofNat_of_zero_le h0
  exact hk1 y (by omega)
 have high:∀x:Int,2*(k:Int)+1<=x->4*(n*d*d)<x*x:=fun x h=>by
  have:=jcn2 (a:=2*(k:Int)+1) (by omega) h
  omega
 have e1:∀x y:Int,(x*d+y*d)*(x*d+y*d)=(x+y)*(x+y)*(d*d):=fun x y=>by grind
 have e2:4*(n:Int)*d*d*d*d=4*(n*d*d)*(d*d):=by grind
 have q4:∀x:Int,(2*x)*(2*x)=4*(x*x):=fun x=>by grind
 unfold jat0
 rw[e1,e2]
 by_cases h1:(n:Int)*d*d<=(c:Int)*c<;>by_cases h2:(n:Int)*d*d<=(k:Int)*k
 ·rw[decide_eq_true h1,decide_eq_true h2,if_pos rfl]
  refine decide_eq_false fun h=>?_
  have hck:=Int.lt_of_mul_lt_mul_right h (by omega)
  have:=low c (by omega) (by omega)
  have h3:(2*(c:Int))*(2*c)<(2*(c:Int)+1)*(2*c+1):=by grind
  rw[q4] at h3
  omega
 ·rw[decide_eq_true h1,decide_eq_false h2]
  simp only[Bool.and_false,Bool.false_eq_true,if_false,Bool.not_true,Bool.false_and,if_true]
  refine decide_eq_false fun h=>?_
  have h3:=Int.lt_of_mul_lt_mul_right h (by omega)
  have hck:(k:Int)<c:=jbn2 (by omega) (by omega) (by omega)
  have:=high (c+k) (by omega)
  omega
 ·rw[decide_eq_false h1,decide_eq_true h2]
  simp only[Bool.and_true,Bool.false_eq_true,if_false,Bool.not_true,Bool.and_false]
  refine decide_eq_false fun h=>?_
  have h3:=Int.lt_of_mul_lt_mul_right h (by omega)
  have hck:(c:Int)<k:=jbn2 (by omega) (by omega) (by omega)
  have h4:=low ((k:Int)-1) (by omega) (by omega)
  have h5:=jcn2 (a:=(c:Int)+k) (b:=2*((k:Int)-1)+1) (by omega) (by omega)
  omega
 ·rw[decide_eq_false h1,decide_eq_false h2]
  simp only[Bool.and_false,Bool.false_eq_true,if_false,Bool.not_false,Bool.and_true,if_true]
  refine decide_eq_false fun h=>?_
  have hck:=Int.lt_of_mul_lt_mul_right h (by omega)
  have:=high (2*c) (by omega)
  rw[q4] at this
  omega
theorem zp5{c:Int}(h:Bdd fun k=>c*(bits k:Int)):c=0:=by
 rcases Int.lt_trichotomy c 0 with g|g|g
 ·exact((jaa0 (c:=-c) (by omega)).not_bdd (h.neg.congr fun k=>(Int.neg_mul _ _).symm)).elim
 ·exact g
 ·exact((jaa0 g).not_bdd h).elim
theorem Ge.both{f:Nat->Int}(h:Ge f)(h':Ge fun k=>-f k):Bdd f:=by
 rcases h with h|h
 ·rcases h' with h'|h'
  ·exact(h.not_neg h').elim
  ·exact(h.not_bdd (h'.neg.congr fun k=>by omega)).elim
 ·exact h
theorem jcg2{n:Nat}(hn:1<=n){u v:Int}(hv:0<v)(h:Bdd fun k=>v*rtA (n:Int) k-u*bits k):∃r:Nat,r*r=n:=by
 obtain⟨h1,h2,h3,h4⟩:=jm9 n hn
 have hN:=jak2 hn
 generalize (ja5 n).1=s at *
 generalize (ja5 n).2=q at *
 rcases Nat.lt_or_ge 1 q with hq|hq
 ·exfalso
  have hl:Bdd (zc3 [(1,-u),((q:Int),v*s)]):=by
   have h5:=Bdd.add h ((hN.smul (-v)).bdd)
   refine h5.congr fun k=>?_
   rw[jm6,jm6,jav9,jbn0]
   dsimp only
   generalize rtA (n:Int) k=a
   generalize rtA (q:Int) k=b
   generalize (bits k:Int)=c
   grind
  have h6:=jda2 (kv:=[(1,-u),((q:Int),v*s)]) (by simp;omega) (by
   intro r hr
   simp only[List.map_cons,List.map_nil,List.mem_cons,List.not_mem_nil,or_false] at hr
   rcases hr with rfl|rfl
   ·exact⟨by omega,fun e he hd=>by have h8:=Nat.le_of_dvd (by omega) hd;have h9:=Nat.mul_le_mul he he;simp at h8;omega⟩
   ·exact⟨by omega,by rw[Int.toNat_natCast];exact h2⟩) hl (q:Int)
  rw[jad1 (by omega)] at h6
  have h7:v*(s:Int)=0:=by simpa [jc3] using h6
  have:=Int.mul_pos hv (show(0:Int)<s by omega)
  omega
 ·obtain rfl:q=1:=by omega
  exact⟨s,by omega⟩
theorem zv9{n r:Nat}(h:r*r=n)(k:Nat):rtA (n:Int) k=r*bits k:=by
 unfold rtA
 rw[Int.toNat_natCast,<-h,Nat.mul_mul_mul_comm,zs1]
 push_cast;rfl
theorem jct5{n:Nat}(hn:1<=n){a b c d:Int}(hb:0<b)(hd:0<d)(ha:0<=a)(hc:0<=c)(h1:LeD n (a,b) (c,d))(h2:LeD n (c,d) (a,b))(hmin:∀r:Nat,r*r=n->LeD n (a,b) (r,1)):c*b=a*d:=by
 have hB:Bdd fun k=>b*jh2 n (c,d) k-d*jh2 n (a,b) k:=Ge.both h1 (h2.congr fun k=>by dsimp only;omega)
 have hv:0<2*b*d:=Int.mul_pos (Int.mul_pos (by omega) hb) hd
 have mixed:(Bdd fun k=>(2*b*d)*rtA (n:Int) k-(a*d+c*b)*bits k)->c*b=a*d:=fun hm=>by
  obtain⟨r,hr⟩:=jcg2 hn hv hm
  have e1:2*b*d*r-(a*d+c*b)=0:=zp5 (hm.congr fun k=>by rw[zv9 hr];rw[Int.sub_mul];congr 1;ac_rfl)
  have h3:=hmin r hr
  have hz:∀k,jh2 n ((r:Int),1) k=0:=fun k=>by
   unfold jh2
   dsimp only
   rw[zv9 hr]
   split<;>omega
  have h4:Bdd (jh2 n (a,b)):=Ge.both (jar5 ha (by dsimp only;omega)) (h3.congr fun k=>by dsimp only;rw[hz];omega)
  have h5:a-b*r=0:=by
   by_cases h:(n:Int)*(b*b)<=a*a
   ·exact zp5 (h4.congr fun k=>by unfold jh2;dsimp only;rw[if_pos h,zv9 hr,Int.sub_mul];congr 1;ac_rfl)
   ·have:=zp5 (c:=b*r-a) (h4.congr fun k=>by unfold jh2;dsimp only;rw[if_neg h,zv9 hr,Int.sub_mul];congr 1;ac_rfl)
    omega
  obtain rfl:a=b*r:=by omega
  grind
 by_cases g1:(n:Int)*(b*b)<=a*a<;>by_cases g2:(n:Int)*(d*d)<=c*c
 ·have:=zp5 (hB.congr fun k=>jaj6 g1 g2 k)
  omega
 ·exact mixed (hB.congr fun k=>jaa7 g1 g2 k)
 ·exact mixed ((hB.congr fun k=>jab3 g1 g2 k).neg.congr fun k=>by omega)
 ·have:=zp5 (hB.congr fun k=>zt3 g1 g2 k)
  omega
def jar8(b:Int)(k:Nat):Prop:=k<=94869/\(∀j:Nat,j<k->(2*(j:Int)+1)*(2*(j:Int)+1)<=b)/\¬(2*(k:Int)+1)*(2*(k:Int)+1)<=b
theorem jar8.eq{b:Int}{k:Nat}(h:jar8 b k):numR b=k:=jcm4 (by have:=h.1;omega) h.2.1 h.2.2
theorem jbt3 (b:Int):∀m:Nat,(∀j:Nat,j<m->(2*(j:Int)+1)*(2*(j:Int)+1)<=b)\/∃k:Nat,k<m/\(∀j:Nat,j<k->(2*(j:Int)+1)*(2*(j:Int)+1)<=b)/\¬(2*(k:Int)+1)*(2*(k:Int)+1)<=b
 | 0=>.inl fun j hj=>absurd hj (by omega)
 | m+1=>by
  rcases jbt3 b m with h|⟨k,hk,h⟩
  ·by_cases h1:(2*(m:Int)+1)*(2*(m:Int)+1)<=b
   ·refine .inl fun j hj=>?_
    rcases Nat.lt_or_ge j m with h5|h5
    ·exact h j h5
    ·obtain rfl:j=m:=by omega
     exact h1
   ·exact .inr ⟨m,by omega,h,h1⟩
  ·exact .inr ⟨k,by omega,h⟩
theorem jaa1{b:Int}(hb:b<=36000000000):∃k,jar8 b k:=by
 rcases jbt3 b 94870 with h|⟨k,hk,h1,h2⟩
 ·have h1:=h 94869 (by omega)
  have:=jbf8 (k:=94869) (by omega) (by omega)
  omega
 ·exact⟨k,by omega,h1,h2⟩
theorem jar8.grow{b c:Int}{k:Nat}(h:jar8 b k)(hc:b<=c):∀j:Nat,j<k->(2*(j:Int)+1)*(2*(j:Int)+1)<=c:=fun j hj=>Int.le_trans (h.2.1 j hj) hc
def jbg8(n a b c d:Int):Bool:=
 if(decide (n*b*b<=a*a)&&decide (n*d*d<=c*c))=true then decide (a*d<c*b)
 else if(!decide (n*b*b<=a*a)&&!decide (n*d*d<=c*c))=true then decide (c*b<a*d)
 else if decide (n*b*b<=a*a)=true then decide ((a*d+c*b)*(a*d+c*b)<4*n*b*b*d*d)
 else decide (4*n*b*b*d*d<(a*d+c*b)*(a*d+c*b))
theorem jbm9(n a b c d:Int):jbg8 n a b c d=jj4 (a,b) (c,d) n:=by
 unfold jbg8 jj4 jt9
 dsimp only
 generalize (a*d+c*b)*(a*d+c*b)=s
 generalize 4*n*b*b*d*d=t
 generalize a*d=p
 generalize c*b=q
 generalize n*b*b=nb
 generalize n*d*d=nd
 by_cases h1:nb<=a*a<;>by_cases h2:nd<=c*c<;>simp[h1,h2]<;>omega
theorem jcy2 {n:Int} {m d:Int} {best:Int×Int} (hd:1<d) (hm:d<=m) {k:Nat} (hk:jar8 (4*n*d*d) k) :
  za5 n (m+1-d).toNat d best=if jj4 ((k:Int),d) best n=true then((k:Int),d)::za5 n (m+1-(d+1)).toNat (d+1) ((k:Int),d)else za5 n (m+1-(d+1)).toNat (d+1) best:=by
 obtain⟨f,hf⟩:∃f:Nat,(m+1-d).toNat=f+1:=⟨(m+1-d).toNat-1,by omega⟩
 have hf2:(m+1-(d+1)).toNat=f:=by omega
 rw[hf,hf2]
 conv=>lhs;unfold za5
 rw[hk.eq,decide_eq_true hd]
 cases jj4 ((k:Int),d) best n<;>simp
theorem jaz4{n m:Int}(hm:1<=m){k:Nat}(hk:jar8 (4*n*1*1) k):js0 n m=((k:Int),1)::za5 n (m+1-2).toNat 2 ((k:Int),1):=by
 obtain⟨f,hf⟩:∃f:Nat,m.toNat=f+1:=⟨m.toNat-1,by omega⟩
 have hf2:(m+1-2).toNat=f:=by omega
 unfold js0
 rw[hf,hf2]
 conv=>lhs;unfold za5
 rw[hk.eq]
 simp
theorem jcp8(n a b c d:Int):jat0 n a b c d=jj4 (a,b) (c,d) n:=jbm9 n a b c d
theorem jcd5(x y:Int×Int)(l:List (Int×Int)):jm5 (x::y::l)=jm5 (y::l):=by simp[jm5]
theorem jak1{n:Nat}(hn:1<=n/\n<=1000):∀(f:Nat) (d0:Int) (best:Int×Int),2<=d0->d0+f<=3001->(1<=best.1/\best.1<=94869)->1<=best.2->best.2<d0 ->
  (∀c d:Int,0<=c->1<=d->d<d0->LeD n best (c,d)) ->
  ((1<=(jm5 (best::za5 n f d0 best)).1/\(jm5 (best::za5 n f d0 best)).1<=94869)/\1<=(jm5 (best::za5 n f d0 best)).2/\(jm5 (best::za5 n f d0 best)).2<d0+f) /\
  ∀c d:Int,0<=c->1<=d->d<d0+f->LeD n (jm5 (best::za5 n f d0 best)) (c,d)
 | 0,d0,best,h1,h2,h3,h4,h5,h=>⟨⟨h3,h4,by show best.2<_;omega⟩,fun c d hc hd hlt=>h c d hc hd (by omega)⟩
 | f+1,d0,best,h1,h2,h3,h4,h5,h=>by
  have hdd:d0*d0<=3000*3000:=Int.mul_le_mul (by omega) (by omega) (by omega) (by omega)
  have hdp:0<d0*d0:=Int.mul_pos (by omega) (by omega)
  have hnd:(n:Int)*(d0*d0)<=1000*(d0*d0):=Int.mul_le_mul_of_nonneg_right (by omega) (by omega)
  have e4:4*(n:Int)*d0*d0=4*(n*(d0*d0)):=by grind
  obtain⟨k,hk⟩:=jaa1 (b:=4*(n:Int)*d0*d0) (by rw[e4];omega)
  have hst:=jcy2 (n:=n) (m:=d0+f) (d:=d0) (best:=best) (by omega) (by omega) hk
  rw[show(d0+(f:Int)+1-d0).toNat=f+1 by omega,show(d0+(f:Int)+1-(d0+1)).toNat=f by omega] at hst
  have hk1:1<=k/\k<=94869:=by
   refine⟨?_,hk.1⟩
   rcases Nat.eq_zero_or_pos k with h0|h0
   ·subst h0
    have hnp:0<(n:Int)*(d0*d0):=Int.mul_pos (by omega) hdp
    exact absurd (show(2*((0:Nat):Int)+1)*(2*((0:Nat):Int)+1)<=4*(n:Int)*d0*d0 by rw[e4];omega) hk.2.2
   ·exact h0
  have hnb:∀c:Int,0<=c->LeD n ((k:Int),d0) (c,d0):=fun c hc=>jby8 (by omega) hk.2.1 hk.2.2 hc
  have hcl:=jbr3 (n:=n) (a:=(k:Int)) (b:=d0) (c:=best.1) (d:=best.2) (by omega) (by omega) (by omega) (by omega)
  rw[jcp8] at hcl
  rw[hst,show d0+((f+1:Nat):Int)=(d0+1)+f by omega]
  by_cases hc:jj4 ((k:Int),d0) best n=true
  ·rw[if_pos hc,jcd5]
   refine jak1 hn f (d0+1) ((k:Int),d0) (by omega) (by omega) (by dsimp only;omega) (by dsimp only;omega) (by dsimp only;omega) fun c d hc0 hd hlt=>?_
   by_cases hde:d=d0
   ·subst hde;exact hnb c hc0
   ·exact LeD.trans (q:=best) (by omega) (by dsimp only;omega) (by dsimp only;omega) (hcl.1 hc) (h c d hc0 hd (by omega))
  ·rw[if_neg hc]
   have hc2:jj4 ((k:Int),d0) best n=false:=by simpa using hc
   refine jak1 hn f (d0+1) best (by omega) (by omega) h3 h4 (by omega) fun c d hc0 hd hlt=>?_
   by_cases hde:d=d0
   ·subst hde
    exact LeD.trans (q:=((k:Int),d)) (by dsimp only;omega) (by omega) (by dsimp only;omega) (hcl.2 hc2) (hnb c hc0)
   ·exact h c d hc0 hd (by omega)
theorem jbg6 {n:Nat} {m:Int} (hn:1<=n/\n<=1000) (hm:1<=m/\m<=3000) :
  ((1<=(jm5 (js0 n m)).1/\(jm5 (js0 n m)).1<=94869)/\1<=(jm5 (js0 n m)).2/\(jm5 (js0 n m)).2<=m)/\∀c d:Int,0<=c->1<=d->d<=m->LeD n (jm5 (js0 n m)) (c,d):=by
 obtain⟨k,hk⟩:=jaa1 (b:=4*(n:Int)*1*1) (by omega)
 have hk1:1<=k/\k<=94869:=by
  refine⟨?_,hk.1⟩
  rcases Nat.eq_zero_or_pos k with h0|h0
  ·subst h0
   exact absurd (show(2*((0:Nat):Int)+1)*(2*((0:Nat):Int)+1)<=4*(n:Int)*1*1 by omega) hk.2.2
  ·exact h0
 rw[jaz4 hm.1 hk]
 obtain⟨f,hf⟩:∃f:Nat,m=1+f:=⟨(m-1).toNat,by omega⟩
 rw[show(m+1-2).toNat=f by omega]
 have h:=jak1 hn f 2 ((k:Int),1) (by omega) (by omega) (by dsimp only;omega) (by dsimp only;omega) (by dsimp only;omega) fun c d hc hd hlt=>by
  obtain rfl:d=1:=by omega
  exact jby8 (by omega) hk.2.1 hk.2.2 hc
 exact⟨⟨h.1.1,h.1.2.1,by omega⟩,fun c d hc hd hle=>h.2 c d hc hd (by omega)⟩
theorem jaz3 (n:Int):∀(f j:Nat) (d:Int) (best:Int×Int),∃t,za5 n (f+j) d best=za5 n f d best++t
 | 0,j,d,best=>⟨_,by rw[show 0+j=j by omega];rfl⟩
 | f+1,j,d,best=>by
  rw[show f+1+j=(f+j)+1 by omega]
  unfold za5
  split
  ·exact jaz3 n f j (d+1) best
  ·obtain⟨t,h⟩:=jaz3 n f j (d+1) (numR (4*n*d*d),d)
   exact⟨t,by rw[h];rfl⟩
theorem jdg9(n:Int){m m':Int}(h:m'<=m):∃t,js0 n m=js0 n m'++t:=by
 unfold js0
 rw[show m.toNat=m'.toNat+(m.toNat-m'.toNat) by omega]
 exact jaz3 n _ _ _ _
end Go.Proofs.YtphcodcdfeohhaaGreatDoor
