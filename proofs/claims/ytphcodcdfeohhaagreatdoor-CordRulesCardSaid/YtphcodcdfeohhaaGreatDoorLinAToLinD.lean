import Derived.Test.YtphcodcdfeohhaaGreatDoorSignMToSignB
set_option linter.all false
namespace Go.Proofs.YtphcodcdfeohhaaGreatDoor.LI
def K:List Nat->Type
 | []=>Int
 | _::ps=>K ps×K ps
def zero:(ps:List Nat)->K ps
 | []=>(0:Int)
 | _::ps=>(zero ps,zero ps)
def one:(ps:List Nat)->K ps
 | []=>(1:Int)
 | _::ps=>(one ps,zero ps)
def add:(ps:List Nat)->K ps->K ps->K ps
 | [],x,y=>Int.add x y
 | _::ps,(a,b),(c,d)=>(add ps a c,add ps b d)
def sc:(ps:List Nat)->Int->K ps->K ps
 | [],n,x=>Int.mul n x
 | _::ps,n,(a,b)=>(sc ps n a,sc ps n b)
def mul:(ps:List Nat)->K ps->K ps->K ps
 | [],x,y=>Int.mul x y
 | p::ps,(a,b),(c,d)=>(add ps (mul ps a c) (sc ps p (mul ps b d)),add ps (mul ps a d) (mul ps b c))
instance (ps:List Nat):Add (K ps):=⟨add ps⟩
instance (ps:List Nat):Mul (K ps):=⟨mul ps⟩
instance (ps:List Nat):HMul Int (K ps) (K ps):=⟨sc ps⟩
def mk(p:Nat){ps:List Nat}(a b:K ps):K (p::ps):=(a,b)
theorem jT{p:Nat}{ps:List Nat}(x:K (p::ps)):∃a b,x=mk p a b:=⟨x.1,x.2,rfl⟩
theorem jbb3{p:Nat}{ps:List Nat}{a b c d:K ps}(h:mk p a b=mk p c d):a=c/\b=d:=⟨congrArg Prod.fst h,congrArg Prod.snd h⟩
theorem ZH{p:Nat}{ps:List Nat}(a b c d:K ps):mk p a b+mk p c d=mk p (a+c) (b+d):=rfl
theorem ZD{p:Nat}{ps:List Nat}(n:Int)(a b:K ps):n*mk p a b=mk p (n*a) (n*b):=rfl
theorem ZN{p:Nat}{ps:List Nat}(a b c d:K ps):mk p a b*mk p c d=mk p (a*c+(p:Int)*(b*d)) (a*d+b*c):=rfl
theorem add_comm:∀ {ps:List Nat} (x y:K ps),x+y=y+x
 | [],x,y=>Int.add_comm x y
 | p::ps,x,y=>by
  obtain⟨a,b,rfl⟩:=jT x
  obtain⟨c,d,rfl⟩:=jT y
  rw[ZH,ZH,add_comm a c,add_comm b d]
theorem add_assoc:∀ {ps:List Nat} (x y z:K ps),x+y+z=x+(y+z)
 | [],x,y,z=>Int.add_assoc x y z
 | p::ps,x,y,z=>by
  obtain⟨a,b,rfl⟩:=jT x
  obtain⟨c,d,rfl⟩:=jT y
  obtain⟨e,f,rfl⟩:=jT z
  rw[ZH,ZH,ZH,ZH,add_assoc,add_assoc]
instance (ps:List Nat):Std.Associative (α:=K ps) (·+·):=⟨add_assoc⟩
instance (ps:List Nat):Std.Commutative (α:=K ps) (·+·):=⟨add_comm⟩
theorem za4:∀ {ps:List Nat} (n:Int) (x y:K ps),n*(x+y)=n*x+n*y
 | [],n,x,y=>Int.mul_add n x y
 | p::ps,n,x,y=>by
  obtain⟨a,b,rfl⟩:=jT x
  obtain⟨c,d,rfl⟩:=jT y
  rw[ZH,ZD,ZD,ZD,ZH,za4,za4]
theorem jab9:∀ {ps:List Nat} (m n:Int) (x:K ps),(m+n)*x=m*x+n*x
 | [],m,n,x=>Int.add_mul m n x
 | p::ps,m,n,x=>by
  obtain⟨a,b,rfl⟩:=jT x
  rw[ZD,ZD,ZD,ZH,jab9,jab9]
theorem jv3:∀ {ps:List Nat} (m n:Int) (x:K ps),m*(n*x)=(m*n)*x
 | [],m,n,x=>(Int.mul_assoc m n x).symm
 | p::ps,m,n,x=>by
  obtain⟨a,b,rfl⟩:=jT x
  rw[ZD,ZD,ZD,jv3,jv3]
theorem jaf5:∀ {ps:List Nat} (x:K ps),(1:Int)*x=x
 | [],x=>Int.one_mul x
 | p::ps,x=>by
  obtain⟨a,b,rfl⟩:=jT x
  rw[ZD,jaf5,jaf5]
theorem jv8:∀ {ps:List Nat} (x:K ps),(0:Int)*x=zero ps
 | [],x=>Int.zero_mul x
 | p::ps,x=>by
  obtain⟨a,b,rfl⟩:=jT x
  rw[ZD,jv8,jv8];rfl
theorem Qs:∀ {ps:List Nat} (n:Int),n*zero ps=zero ps
 | [],n=>Int.mul_zero n
 | p::ps,n=>by
  show n*mk p (zero ps) (zero ps)=_
  rw[ZD,Qs];rfl
theorem add_zero:∀ {ps:List Nat} (x:K ps),x+zero ps=x
 | [],x=>Int.add_zero x
 | p::ps,x=>by
  obtain⟨a,b,rfl⟩:=jT x
  show mk p a b+mk p (zero ps) (zero ps)=_
  rw[ZH,add_zero,add_zero]
theorem zero_add{ps:List Nat}(x:K ps):zero ps+x=x:=by rw[add_comm,add_zero]
theorem jbg0{ps:List Nat}(x:K ps):x+(-1:Int)*x=zero ps:=by
 have h:=jab9 1 (-1) x
 rw[jaf5] at h
 rw[<-h,show(1:Int)+-1=0 from rfl,jv8]
theorem mul_comm:∀ {ps:List Nat} (x y:K ps),x*y=y*x
 | [],x,y=>Int.mul_comm x y
 | p::ps,x,y=>by
  obtain⟨a,b,rfl⟩:=jT x
  obtain⟨c,d,rfl⟩:=jT y
  rw[ZN,ZN,mul_comm a c,mul_comm b d,mul_comm a d,mul_comm b c,add_comm (d*a)]
theorem QF:∀ {ps:List Nat} (n:Int) (x y:K ps),(n*x)*y=n*(x*y)
 | [],n,x,y=>Int.mul_assoc n x y
 | p::ps,n,x,y=>by
  obtain⟨a,b,rfl⟩:=jT x
  obtain⟨c,d,rfl⟩:=jT y
  rw[ZD,ZN,ZN,ZD,QF,QF,QF,QF,za4,za4,jv3,jv3,Int.mul_comm n]
theorem jaf3{ps:List Nat}(n:Int)(x y:K ps):x*(n*y)=n*(x*y):=by rw[mul_comm,QF,mul_comm y]
theorem mul_add:∀ {ps:List Nat} (x y z:K ps),x*(y+z)=x*y+x*z
 | [],x,y,z=>Int.mul_add x y z
 | p::ps,x,y,z=>by
  obtain⟨a,b,rfl⟩:=jT x
  obtain⟨c,d,rfl⟩:=jT y
  obtain⟨e,f,rfl⟩:=jT z
  simp only[ZH,ZN,mul_add,za4]
  congr 1<;>ac_rfl
theorem add_mul{ps:List Nat}(x y z:K ps):(x+y)*z=x*z+y*z:=by rw[mul_comm,mul_add,mul_comm z,mul_comm z]
theorem mul_assoc:∀ {ps:List Nat} (x y z:K ps),x*y*z=x*(y*z)
 | [],x,y,z=>Int.mul_assoc x y z
 | p::ps,x,y,z=>by
  obtain⟨a,b,rfl⟩:=jT x
  obtain⟨c,d,rfl⟩:=jT y
  obtain⟨e,f,rfl⟩:=jT z
  simp only[ZN,mul_add,add_mul,za4,QF,jaf3,mul_assoc]
  congr 1<;>ac_rfl
theorem zero_mul{ps:List Nat}(y:K ps):zero ps*y=zero ps:=by
 have h:=QF (0:Int) (zero ps) y
 rw[jv8,jv8] at h
 exact h
theorem one_mul:∀ {ps:List Nat} (x:K ps),one ps*x=x
 | [],x=>Int.one_mul x
 | p::ps,x=>by
  obtain⟨a,b,rfl⟩:=jT x
  show mk p (one ps) (zero ps)*mk p a b=_
  rw[ZN,one_mul,one_mul,zero_mul,zero_mul,Qs,add_zero,add_zero]
theorem mul_zero{ps:List Nat}(y:K ps):y*zero ps=zero ps:=by rw[mul_comm,zero_mul]
theorem jb0:∀ {ps:List Nat} (n:Int) (x:K ps),n≠0->n*x=zero ps->x=zero ps
 | [],n,x,hn,h=>(Int.mul_eq_zero.1 h).resolve_left hn
 | p::ps,n,x,hn,h=>by
  obtain⟨a,b,rfl⟩:=jT x
  rw[ZD] at h
  obtain⟨h1,h2⟩:=jbb3 (show mk p (n*a) (n*b)=mk p (zero ps) (zero ps)from h)
  rw[jb0 n a hn h1,jb0 n b hn h2];rfl
def kon(ps:List Nat)(n:Int):K ps:=n*one ps
theorem jbh2{ps:List Nat}(n:Int)(x:K ps):kon ps n*x=n*x:=by unfold kon;rw[QF,one_mul]
theorem jad5{ps:List Nat}(m n:Int):kon ps m*kon ps n=kon ps (m*n):=by rw[jbh2];unfold kon;rw[jv3]
theorem zk2{p:Nat}{ps:List Nat}(n:Int):kon (p::ps) n=mk p (kon ps n) (zero ps):=by
 show n*mk p (one ps) (zero ps)=_
 rw[ZD,Qs];rfl
theorem zg5{p:Nat}{ps:List Nat}:zero (p::ps)=mk p (zero ps) (zero ps):=rfl
theorem zk3:∀ {ps:List Nat} {n:Int},kon ps n=zero ps->n=0
 | [],n,h=>by
  have h1:n*1=0:=h
  omega
 | p::ps,n,h=>by
  rw[zk2,zg5] at h
  exact zk3 (jbb3 h).1
def Pr(p:Nat):Prop:=2<=p/\∀m,m∣p->m=1\/m=p
theorem Pr.dvd{p a b:Nat}(hp:Pr p)(h:p∣a*b):p∣a\/p∣b:=by
 rcases hp.2 (Nat.gcd p a) (Nat.gcd_dvd_left _ _)with h1|h1
 ·exact .inr (Nat.Coprime.dvd_of_dvd_mul_left h1 h)
 ·exact .inl (h1▸Nat.gcd_dvd_right p a)
theorem Pr.ne{p q:Nat}(hp:Pr p)(hq:Pr q)(h:p∣q):p=q:=by
 have:=hp.1
 rcases hq.2 p h with h1|h1
 ·omega
 ·exact h1
def Out(ps:List Nat)(q:Nat):Prop:=∃p r,q=p*r/\Pr p/\¬p∣r/\p∉ps
theorem jch3{p r:Nat}(hp:Pr p)(hr:¬p∣r):∀(z x:Nat),x*x=p*r*(z*z)->z=0:=by
 intro z
 induction z using Nat.strongRecOn with
 | ind z ih=>
  intro x h
  have hp0:0<p:=by have:=hp.1;omega
  have h1:p∣x*x:=⟨r*(z*z),by rw[h,Nat.mul_assoc]⟩
  obtain⟨x1,rfl⟩:=(hp.dvd h1).elim id id
  have h2:p*(x1*x1)=r*(z*z):=by
   apply Nat.eq_of_mul_eq_mul_left hp0
   rw[<-Nat.mul_assoc p r,<-h];simp only[Nat.mul_comm,Nat.mul_left_comm]
  have h3:p∣r*(z*z):=⟨x1*x1,h2.symm⟩
  obtain⟨z1,rfl⟩:=((hp.dvd h3).resolve_left hr |> hp.dvd).elim id id
  have h4:x1*x1=p*r*(z1*z1):=by
   apply Nat.eq_of_mul_eq_mul_left hp0
   rw[h2];simp only[Nat.mul_comm,Nat.mul_left_comm]
  rcases Nat.eq_zero_or_pos z1 with h5|h5
  ·rw[h5];rfl
  ·have h6:z1<p*z1:=by
    have:=Nat.mul_le_mul_right z1 hp.1
    omega
   have:=ih z1 h6 x1 h4
   omega
def M:(ps:List Nat)->K ps->Nat
 | [],n=>Int.natAbs n
 | p::ps,(a,b)=>M ps a+p*M ps b
theorem jc5{p:Nat}{ps:List Nat}(a b:K ps):M (p::ps) (mk p a b)=M ps a+p*M ps b:=rfl
theorem zv1:∀ {ps:List Nat} (x y:K ps),M ps (x+y)<=M ps x+M ps y
 | [],x,y=>Int.natAbs_add_le x y
 | p::ps,x,y=>by
  obtain⟨a,b,rfl⟩:=jT x
  obtain⟨c,d,rfl⟩:=jT y
  rw[ZH,jc5,jc5,jc5]
  have h1:=zv1 a c
  have h2:=Nat.mul_le_mul_left p (zv1 b d)
  rw[Nat.mul_add] at h2
  omega
theorem M_sc:∀ {ps:List Nat} (n:Int) (x:K ps),M ps (n*x)=n.natAbs*M ps x
 | [],n,x=>Int.natAbs_mul n x
 | p::ps,n,x=>by
  obtain⟨a,b,rfl⟩:=jT x
  rw[ZD,jc5,jc5,M_sc,M_sc,Nat.mul_add,Nat.mul_left_comm]
theorem zg7:∀ {ps:List Nat},M ps (zero ps)=0
 | []=>rfl
 | p::ps=>by rw[zg5,jc5,zg7];rfl
theorem zb4:∀ {ps:List Nat} (_:∀p∈ps,1<=p) (x y:K ps),M ps (x*y)<=M ps x*M ps y
 | [],_,x,y=>Nat.le_of_eq (Int.natAbs_mul x y)
 | p::ps,hp,x,y=>by
  obtain⟨a,b,rfl⟩:=jT x
  obtain⟨c,d,rfl⟩:=jT y
  have hps:∀p∈ps,1<=p:=λq hq=>hp q (List.mem_cons_of_mem _ hq)
  have h0:=hp p (by simp)
  rw[ZN,jc5,jc5,jc5]
  have h1:=zv1 (a*c) ((p:Int)*(b*d))
  have h2:=zv1 (a*d) (b*c)
  rw[M_sc,Int.natAbs_natCast] at h1
  have h3:=zb4 hps a c
  have h4:=zb4 hps b d
  have h5:=zb4 hps a d
  have h6:=zb4 hps b c
  generalize M ps (a*c+(p:Int)*(b*d))=u at *
  generalize M ps (a*d+b*c)=v at *
  generalize M ps (a*c)=ac at *
  generalize M ps (b*d)=bd at *
  generalize M ps (a*d)=ad at *
  generalize M ps (b*c)=bc at *
  generalize M ps a=A at *
  generalize M ps b=B at *
  generalize M ps c=C at *
  generalize M ps d=D at *
  have e:(A+p*B)*(C+p*D)=A*C+p*(A*D+B*C)+p*(p*(B*D)):=by grind
  have h7:p*v<=p*(A*D+B*C):=Nat.mul_le_mul_left p (by omega)
  have h8:p*bd<=p*(B*D):=Nat.mul_le_mul_left p h4
  have h9:p*(B*D)<=p*(p*(B*D)):=Nat.mul_le_mul_left p (by have:=Nat.mul_le_mul_right (B*D) h0;omega)
  omega
def Inv(ps:List Nat):Prop:=∀x:K ps,x≠zero ps->∃(y:K ps) (n:Int),n≠0/\x*y=kon ps n/\M ps y<=M ps x ^ (2 ^ ps.length-1)
def Sq(ps:List Nat):Prop:=∀q,Out ps q->∀x z:K ps,x*x=(q:Int)*(z*z)->z=zero ps
theorem Inv.domain{ps:List Nat}(h:Inv ps){a b:K ps}(hab:a*b=zero ps):a=zero ps\/b=zero ps:=by
 by_cases ha:a=zero ps
 ·exact .inl ha
 ·obtain⟨y,n,hn,hy,_⟩:=h a ha
  refine .inr (jb0 n b hn ?_)
  rw[<-jbh2,<-hy,mul_assoc,mul_comm y b,<-mul_assoc,hab,zero_mul]
theorem jch5:Inv []:=by
 intro x hx
 refine⟨(1:Int),x,hx,rfl,?_⟩
 show(1:Int).natAbs<=_
 simp
theorem jcr2{q p r:Nat}(hq:q=p*r)(hp:Pr p)(hr:¬p∣r)(x z:Int)(h:x*x=(q:Int)*(z*z)):z=0:=by
 have h1:=congrArg Int.natAbs h
 rw[Int.natAbs_mul,Int.natAbs_mul,Int.natAbs_mul,Int.natAbs_natCast,hq] at h1
 exact Int.natAbs_eq_zero.1 (jch3 hp hr _ _ h1)
theorem jcr4:Sq []:=λ_ ⟨_,_,hq,hp,hr,_⟩ x z h=>jcr2 hq hp hr x z h
theorem jbz8{p:Nat}{ps:List Nat}(hp:Pr p)(hps:∀q∈ps,1<=q)(hn:p∉ps)(hi:Inv ps)(hs:Sq ps):Inv (p::ps):=by
 intro x hx
 obtain⟨a,b,rfl⟩:=jT x
 have hp1:1<=p:=by have:=hp.1;omega
 obtain⟨n,hnn⟩:∃n,n=a*a+(-1:Int)*((p:Int)*(b*b)):=⟨_,rfl⟩
 have hprod:mk p a b*mk p a ((-1:Int)*b)=mk p n (zero ps):=by
  rw[ZN,hnn]
  congr 1
  ·rw[jaf3,jv3,jv3,Int.mul_comm]
  ·rw[jaf3,mul_comm b a,add_comm,jbg0]
 have hn0:n≠zero ps:=by
  intro h0
  have h1:a*a=(p:Int)*(b*b):=by
   have h2:a*a+(-1:Int)*((p:Int)*(b*b))+(p:Int)*(b*b)=zero ps+(p:Int)*(b*b):=by rw[<-hnn,h0]
   rw[add_assoc,add_comm ((-1:Int)*_),jbg0,add_zero,zero_add] at h2
   exact h2
  have hb:b=zero ps:=hs p ⟨p,1,by omega,hp,λh=>by have:=Nat.le_of_dvd (by omega) h;have:=hp.1;omega,hn⟩ a b h1
  rw[hb,mul_zero,Qs] at h1
  have ha:a=zero ps:=(hi.domain h1).elim id id
  exact hx (by rw[ha,hb];rfl)
 obtain⟨y,N,hN,hy,hM⟩:=hi n hn0
 refine⟨mk p a ((-1:Int)*b)*mk p y (zero ps),N,hN,?_,?_⟩
 ·rw[<-mul_assoc,hprod,ZN,hy,zero_mul,zero_mul,mul_zero,Qs,add_zero,add_zero,zk2]
 ·have h1:=zb4 (ps:=p::ps) (by intro q hq;rcases List.mem_cons.1 hq with rfl|hq;exact hp1;exact hps q hq) (mk p a ((-1:Int)*b)) (mk p y (zero ps))
  rw[jc5 a,M_sc,jc5 y,zg7] at h1
  simp only[Int.natAbs_neg,Int.natAbs_one,Nat.one_mul,Nat.mul_zero,Nat.add_zero] at h1
  have h2:M ps n<=(M ps a+p*M ps b)*(M ps a+p*M ps b):=by
   rw[hnn]
   refine Nat.le_trans (zv1 _ _) ?_
   rw[M_sc,M_sc]
   simp only[Int.natAbs_neg,Int.natAbs_one,Nat.one_mul,Int.natAbs_natCast]
   have h3:=zb4 hps a a
   have h4:=zb4 hps b b
   have h5:=Nat.mul_le_mul_left p h4
   generalize M ps a=A at *
   generalize M ps b=B at *
   have e:(A+p*B)*(A+p*B)=A*A+2*(p*(A*B))+p*(p*(B*B)):=by grind
   have h6:p*(B*B)<=p*(p*(B*B)):=Nat.mul_le_mul_left p (by have:=Nat.mul_le_mul_right (B*B) hp1;omega)
   omega
  rw[jc5]
  refine Nat.le_trans h1 ?_
  generalize M ps a+p*M ps b=X at *
  have hX:1<=X:=by
   rcases Nat.eq_zero_or_pos X with h|h
   ·subst h
    have h3:M ps n=0:=by simpa using h2
    rw[h3] at hM
    obtain⟨y2,N2,hN2,hy2,_⟩:=hi n hn0
    exfalso
    have h4:=zb4 hps n y2
    rw[h3,Nat.zero_mul,hy2] at h4
    have h5:M ps (kon ps N2)=N2.natAbs*M ps (one ps):=M_sc _ _
    have h6:∀ps,1<=M ps (one ps):=by
     intro ps
     induction ps with
     | nil=>exact Nat.le_refl 1
     | cons q qs ih=>show 1<=M (q::qs) (mk q (one qs) (zero qs));rw[jc5];omega
    have h7:=h6 ps
    have h8:1<=N2.natAbs:=by omega
    have:=Nat.mul_le_mul h8 h7
    omega
   ·exact h
  have h7:M ps y<=(X*X) ^ (2 ^ ps.length-1):=Nat.le_trans hM (Nat.pow_le_pow_left h2 _)
  have h8:X*(X*X) ^ (2 ^ ps.length-1)=X ^ (2 ^ (p::ps).length-1):=by
   have h9:1<=2 ^ ps.length:=Nat.one_le_two_pow
   rw[show X*X=X ^ 2 by rw[Nat.pow_two],<-Nat.pow_mul,Nat.mul_comm X,<-Nat.pow_succ,List.length_cons,show 2 ^ (ps.length+1)=2 ^ ps.length*2 from Nat.pow_succ _ _]
   congr 1;omega
  rw[<-h8]
  exact Nat.mul_le_mul_left X h7
theorem jck5{p0:Nat}{ps:List Nat}(hp0:Pr p0)(hi':Inv (p0::ps))(hi:Inv ps)(hs:Sq ps):Sq (p0::ps):=by
 intro q ⟨p,r,hq,hp,hr,hnp⟩ x z h
 simp only[List.mem_cons,not_or] at hnp
 obtain⟨hne,hnp⟩:=hnp
 have h2:(2:Int)≠0:=by decide
 rcases Classical.em (z=zero (p0::ps))with hz|hz
 ·exact hz
 exfalso
 obtain⟨y,N,hN,hy,_⟩:=hi' z hz
 obtain⟨u,hu⟩:∃u,u=x*y:=⟨_,rfl⟩
 have h1:u*u=(q:Int)*kon (p0::ps) (N*N):=by
  rw[<-jad5,<-hy,hu]
  have e1:x*y*(x*y)=(x*x)*(y*y):=by
   rw[mul_assoc,<-mul_assoc y,mul_comm y x,mul_assoc x y,<-mul_assoc]
  have e2:z*y*(z*y)=(z*z)*(y*y):=by
   rw[mul_assoc,<-mul_assoc y,mul_comm y z,mul_assoc z y,<-mul_assoc]
  rw[e1,e2,h,QF]
 obtain⟨a,b,rfl⟩:=jT u
 rw[ZN,zk2,ZD,Qs] at h1
 obtain⟨h3,h4⟩:=jbb3 h1
 rw[mul_comm b a] at h4
 have h5:(2:Int)*(a*b)=zero ps:=by rw[show(2:Int)=1+1 from rfl,jab9,jaf5];exact h4
 have h6:=jb0 _ _ h2 h5
 rcases hi.domain h6 with ha|hb
 ·rw[ha,mul_zero,zero_add] at h3
  have h7:((p0:Int)*b)*((p0:Int)*b)=((p0*q:Nat):Int)*(kon ps N*kon ps N):=by
   rw[QF,jaf3,h3,jad5,jv3,Int.natCast_mul]
  have h8:=hs (p0*q) ⟨p,p0*r,by rw[hq,Nat.mul_left_comm],hp,λhd=>by
   rcases hp.dvd hd with h9|h9
   ·exact hne (hp.ne hp0 h9)
   ·exact hr h9,hnp⟩ _ _ h7
  exact hN (zk3 h8)
 ·rw[hb,mul_zero,Qs,add_zero] at h3
  have h8:=hs q ⟨p,r,hq,hp,hr,hnp⟩ a (kon ps N) (by rw[jad5];exact h3)
  exact hN (zk3 h8)
theorem jbh0:∀(ps:List Nat),(∀p∈ps,Pr p)->ps.Nodup->Inv ps/\Sq ps
 | [],_,_=>⟨jch5,jcr4⟩
 | p::ps,hp,hn=>by
  obtain⟨h1,h2⟩:=jbh0 ps (λq hq=>hp q (List.mem_cons_of_mem _ hq)) (List.nodup_cons.1 hn).2
  have h3:=jbz8 (hp p (by simp)) (λq hq=>by have:=(hp q (List.mem_cons_of_mem _ hq)).1;omega) (List.nodup_cons.1 hn).1 h1 h2
  exact⟨h3,jck5 (hp p (by simp)) h3 h1 h2⟩
def ev (B:Nat) (s:Nat->Nat):(ps:List Nat)->K ps->Int
 | [],n=>n
 | p::ps,(a,b)=>(B:Int)*ev B s ps a+(s p:Int)*ev B s ps b
section
variable {B : Nat} {s : Nat → Nat}
theorem QL{p:Nat}{ps:List Nat}(a b:K ps):ev B s (p::ps) (mk p a b)=(B:Int)*ev B s ps a+(s p:Int)*ev B s ps b:=rfl
theorem zj7:∀ {ps:List Nat} (x y:K ps),ev B s ps (x+y)=ev B s ps x+ev B s ps y
 | [],x,y=>rfl
 | p::ps,x,y=>by
  obtain⟨a,b,rfl⟩:=jT x
  obtain⟨c,d,rfl⟩:=jT y
  rw[ZH,QL,QL,QL,zj7,zj7];grind
theorem jak7:∀ {ps:List Nat} (n:Int) (x:K ps),ev B s ps (n*x)=n*ev B s ps x
 | [],n,x=>rfl
 | p::ps,n,x=>by
  obtain⟨a,b,rfl⟩:=jT x
  rw[ZD,QL,QL,jak7,jak7];grind
theorem jr8:∀ {ps:List Nat},ev B s ps (zero ps)=0
 | []=>rfl
 | p::ps=>by rw[zg5,QL,jr8];simp
theorem jbz0:∀ {ps:List Nat},ev B s ps (one ps)=((B ^ ps.length:Nat):Int)
 | []=>rfl
 | p::ps=>by
  show ev B s (p::ps) (mk p (one ps) (zero ps))=_
  rw[QL,jbz0,jr8,Int.mul_zero,Int.add_zero,List.length_cons,Nat.pow_succ,Nat.mul_comm,Int.natCast_mul]
theorem jby9{ps:List Nat}(n:Int):ev B s ps (kon ps n)=n*((B ^ ps.length:Nat):Int):=by unfold kon;rw[jak7,jbz0]
theorem jak6:∀ {ps:List Nat} (_:∀p∈ps,s p<=p*B) (x:K ps),(ev B s ps x).natAbs<=M ps x*B ^ ps.length
 | [],_,x=>by show Int.natAbs x<=Int.natAbs x*_;simp
 | p::ps,hs,x=>by
  obtain⟨a,b,rfl⟩:=jT x
  have hps:∀p∈ps,s p<=p*B:=λq hq=>hs q (List.mem_cons_of_mem _ hq)
  have h0:=hs p (by simp)
  have h1:=jak6 hps a
  have h2:=jak6 hps b
  rw[QL,jc5,List.length_cons,Nat.pow_succ]
  refine Nat.le_trans (Int.natAbs_add_le _ _) ?_
  rw[Int.natAbs_mul,Int.natAbs_mul,Int.natAbs_natCast,Int.natAbs_natCast]
  generalize (ev B s ps a).natAbs=ea at *
  generalize (ev B s ps b).natAbs=eb at *
  generalize M ps a=A at *
  generalize M ps b=D at *
  generalize B ^ ps.length=P at *
  have h3:B*ea<=B*(A*P):=Nat.mul_le_mul_left B h1
  have h4:s p*eb<=(p*B)*(D*P):=Nat.mul_le_mul h0 h2
  have e:(A+p*D)*(P*B)=B*(A*P)+(p*B)*(D*P):=by grind
  omega
theorem jy5:∀ {ps:List Nat} (_:∀p∈ps,1<=p/\s p<=p*B/\s p*s p<=p*(B*B)/\p*(B*B)<=s p*s p+2*s p) (x y:K ps),
  ((B:Int)*(ev B s ps x*ev B s ps y-((B ^ ps.length:Nat):Int)*ev B s ps (x*y))).natAbs<=2*ps.length*(M ps x*M ps y*(B ^ ps.length*B ^ ps.length))
 | [],_,x,y=>by
  have h:(ev B s [] x*ev B s [] y-((B ^ ([]:List Nat).length:Nat):Int)*ev B s [] (x*y))=0:=by
   show(Int.mul x y)-((1:Nat):Int)*Int.mul x y=0
   omega
  rw[h];simp
 | p::ps,hs,x,y=>by
  obtain⟨a,b,rfl⟩:=jT x
  obtain⟨c,d,rfl⟩:=jT y
  have hps:∀p∈ps,1<=p/\s p<=p*B/\s p*s p<=p*(B*B)/\p*(B*B)<=s p*s p+2*s p:=λq hq=>hs q (List.mem_cons_of_mem _ hq)
  have hle:∀p∈ps,s p<=p*B:=λq hq=>(hps q hq).2.1
  obtain⟨h0,h1,h2,h3⟩:=hs p (by simp)
  have eac:=jy5 hps a c
  have ead:=jy5 hps a d
  have ebc:=jy5 hps b c
  have ebd:=jy5 hps b d
  have lb:=jak6 hle b
  have ld:=jak6 hle d
  rw[ZN,QL,QL,QL,zj7,zj7,jak7,jc5,jc5,List.length_cons,Nat.pow_succ]
  generalize ev B s ps (a*c)=vac at *
  generalize ev B s ps (a*d)=vad at *
  generalize ev B s ps (b*c)=vbc at *
  generalize ev B s ps (b*d)=vbd at *
  generalize ev B s ps a=va at *
  generalize ev B s ps b=vb at *
  generalize ev B s ps c=vc at *
  generalize ev B s ps d=vd at *
  generalize M ps a=A at *
  generalize M ps b=D at *
  generalize M ps c=C at *
  generalize M ps d=E at *
  generalize B ^ ps.length=P at *
  generalize ps.length=m at *
  generalize s p=S at *
  have key:(B:Int)*(((B:Int)*va+(S:Int)*vb)*((B:Int)*vc+(S:Int)*vd)-((P*B:Nat):Int)*((B:Int)*(vac+(p:Int)*vbd)+(S:Int)*(vad+vbc))) =
    (B:Int)*B*((B:Int)*(va*vc-(P:Int)*vac))+(B:Int)*S*((B:Int)*(va*vd-(P:Int)*vad))+(B:Int)*S*((B:Int)*(vb*vc-(P:Int)*vbc)) +
     (p:Int)*(B*B)*((B:Int)*(vb*vd-(P:Int)*vbd))+(B:Int)*((S:Int)*S-(p:Int)*(B*B))*(vb*vd):=by
   rw[Int.natCast_mul];grind
  rw[key]
  have tri:∀a b c d e:Int,(a+b+c+d+e).natAbs<=a.natAbs+b.natAbs+c.natAbs+d.natAbs+e.natAbs:=by intro a b c d e;omega
  refine Nat.le_trans (tri _ _ _ _ _) ?_
  have hd:((S:Int)*S-(p:Int)*(B*B)).natAbs<=2*(p*B):=by
   have h5:((S*S:Nat):Int)<=((p*(B*B):Nat):Int):=by exact_mod_cast h2
   have h6:((p*(B*B):Nat):Int)<=((S*S+2*S:Nat):Int):=by exact_mod_cast h3
   rw[Int.natCast_mul,Int.natCast_mul,Int.natCast_mul] at h5
   rw[Int.natCast_mul,Int.natCast_mul,Int.natCast_add,Int.natCast_mul,Int.natCast_mul] at h6
   generalize (S:Int)*S=u at *
   generalize (p:Int)*((B:Int)*B)=v at *
   omega
  simp only[Int.natAbs_mul,Int.natAbs_natCast] at eac ead ebc ebd ⊢
  generalize (va*vc-(P:Int)*vac).natAbs=e1 at *
  generalize (va*vd-(P:Int)*vad).natAbs=e2 at *
  generalize (vb*vc-(P:Int)*vbc).natAbs=e3 at *
  generalize (vb*vd-(P:Int)*vbd).natAbs=e4 at *
  generalize ((S:Int)*S-(p:Int)*(B*B)).natAbs=e5 at *
  generalize vb.natAbs=nb at *
  generalize vd.natAbs=nd at *
  have g1:B*B*(B*e1)<=B*B*(2*m*(A*C*(P*P))):=Nat.mul_le_mul_left _ eac
  have g2:B*S*(B*e2)<=B*(p*B)*(2*m*(A*E*(P*P))):=Nat.mul_le_mul (Nat.mul_le_mul_left _ h1) ead
  have g3:B*S*(B*e3)<=B*(p*B)*(2*m*(D*C*(P*P))):=Nat.mul_le_mul (Nat.mul_le_mul_left _ h1) ebc
  have g4:p*(B*B)*(B*e4)<=p*(B*B)*(2*m*(D*E*(P*P))):=Nat.mul_le_mul_left _ ebd
  have g5:B*e5*(nb*nd)<=B*(2*(p*B))*((D*P)*(E*P)):=Nat.mul_le_mul (Nat.mul_le_mul_left _ hd) (Nat.mul_le_mul lb ld)
  have g6:p*(D*E)<=p*(p*(D*E)):=Nat.mul_le_mul_left p (by have:=Nat.mul_le_mul_right (D*E) h0;omega)
  have eR:2*(m+1)*((A+p*D)*(C+p*E)*(P*B*(P*B)))=B*B*(2*m*(A*C*(P*P)))+B*(p*B)*(2*m*(A*E*(P*P)))+B*(p*B)*(2*m*(D*C*(P*P)))+2*m*(P*P*(B*B))*(p*(p*(D*E)))+2*(P*P*(B*B))*(A*C+p*(A*E)+p*(D*C))+2*(P*P*(B*B))*(p*(p*(D*E))):=by grind
  have eL:p*(B*B)*(2*m*(D*E*(P*P)))=2*m*(P*P*(B*B))*(p*(D*E)):=by grind
  have eL2:B*(2*(p*B))*((D*P)*(E*P))=2*(P*P*(B*B))*(p*(D*E)):=by grind
  have g7:2*m*(P*P*(B*B))*(p*(D*E))<=2*m*(P*P*(B*B))*(p*(p*(D*E))):=Nat.mul_le_mul_left _ g6
  have g8:2*(P*P*(B*B))*(p*(D*E))<=2*(P*P*(B*B))*(p*(p*(D*E))):=Nat.mul_le_mul_left _ g6
  omega
end
def rt:(ps:List Nat)->Nat->K ps
 | [],_=>(1:Int)
 | p::ps,n=>if p∣n then mk p (zero ps) (rt ps (n/p))else mk p (rt ps n) (zero ps)
def Fac:List Nat->Nat->Prop
 | [],n=>n=1
 | p::ps,n=>if p∣n then Fac ps (n/p)else Fac ps n
theorem jcd5:∀ {ps:List Nat} {n:Nat},Fac ps n->rt ps n*rt ps n=kon ps n
 | [],n,h=>by
  have h':n=1:=h
  subst h';rfl
 | p::ps,n,h=>by
  unfold Fac at h
  unfold rt
  by_cases hp:p∣n
  ·rw[if_pos hp] at h ⊢
   rw[ZN,jcd5 h,zero_mul,zero_mul,mul_zero,zero_add,zero_add,zk2]
   congr 1
   unfold kon
   rw[jv3]
   have:p*(n/p)=n:=Nat.mul_div_cancel' hp
   rw[<-Int.natCast_mul,this]
  ·rw[if_neg hp] at h ⊢
   rw[ZN,jcd5 h,zero_mul,zero_mul,mul_zero,Qs,add_zero,zero_add,zk2]
theorem M_rt:∀ {ps:List Nat} {n:Nat},Fac ps n->M ps (rt ps n)=n
 | [],n,h=>by
  have h':n=1:=h
  subst h';rfl
 | p::ps,n,h=>by
  unfold Fac at h
  unfold rt
  by_cases hp:p∣n
  ·rw[if_pos hp] at h ⊢
   rw[jc5,M_rt h,zg7,Nat.zero_add]
   exact Nat.mul_div_cancel' hp
  ·rw[if_neg hp] at h ⊢
   rw[jc5,M_rt h,zg7,Nat.mul_zero,Nat.add_zero]
theorem jbz1 {B:Nat} {s:Nat->Nat}:∀ {ps:List Nat} {n:Nat},(∀p∈ps,B<=s p/\s p*s p<=p*(B*B))->Fac ps n->∃g:Nat,ev B s ps (rt ps n)=(g:Int)/\B ^ ps.length<=g/\g*g<=n*(B ^ ps.length*B ^ ps.length)
 | [],n,_,h=>by
  have h':n=1:=h
  subst h'
  exact⟨1,rfl,Nat.le_refl 1,Nat.le_refl 1⟩
 | p::ps,n,hs,h=>by
  have hps:∀p∈ps,B<=s p/\s p*s p<=p*(B*B):=λq hq=>hs q (List.mem_cons_of_mem _ hq)
  obtain⟨h0,h1⟩:=hs p (by simp)
  unfold Fac at h
  unfold rt
  rw[List.length_cons,Nat.pow_succ]
  by_cases hp:p∣n
  ·rw[if_pos hp] at h ⊢
   obtain⟨g,hg,hg1,hg2⟩:=jbz1 hps h
   refine⟨s p*g,?_,?_,?_⟩
   ·rw[QL,jr8,hg,Int.natCast_mul];simp
   ·rw[Nat.mul_comm];exact Nat.mul_le_mul h0 hg1
   ·obtain⟨q,rfl⟩:=hp
    rcases Nat.eq_zero_or_pos p with hz|hz
    ·subst hz
     have h2:s 0*s 0=0:=by omega
     have e:s 0*g*(s 0*g)=s 0*s 0*(g*g):=by grind
     rw[e,h2];omega
    ·rw[Nat.mul_div_cancel_left _ hz] at hg2
     generalize B ^ ps.length=P at *
     have h3:=Nat.mul_le_mul h1 hg2
     have e:s p*g*(s p*g)=s p*s p*(g*g):=by grind
     have e2:p*q*(P*B*(P*B))=p*(B*B)*(q*(P*P)):=by grind
     omega
  ·rw[if_neg hp] at h ⊢
   obtain⟨g,hg,hg1,hg2⟩:=jbz1 hps h
   refine⟨B*g,?_,?_,?_⟩
   ·rw[QL,jr8,hg,Int.natCast_mul];simp
   ·rw[Nat.mul_comm];exact Nat.mul_le_mul_left B hg1
   ·generalize B ^ ps.length=P at *
    have h3:=Nat.mul_le_mul_left (B*B) hg2
    have e:B*g*(B*g)=B*B*(g*g):=by grind
    have e2:n*(P*B*(P*B))=B*B*(n*(P*P)):=by grind
    omega
def co:(ps:List Nat)->Nat->K ps->Int
 | [],_,x=>x
 | p::ps,n,(a,b)=>if p∣n then co ps (n/p) b else co ps n a
theorem jk7{p:Nat}{ps:List Nat}(n:Nat)(a b:K ps):co (p::ps) n (mk p a b)=if p∣n then co ps (n/p) b else co ps n a:=rfl
theorem jay9:∀ {ps:List Nat} (n:Nat) (x y:K ps),co ps n (x+y)=co ps n x+co ps n y
 | [],n,x,y=>rfl
 | p::ps,n,x,y=>by
  obtain⟨a,b,rfl⟩:=jT x
  obtain⟨c,d,rfl⟩:=jT y
  rw[ZH,jk7,jk7,jk7]
  split<;>exact jay9 _ _ _
theorem jby2:∀ {ps:List Nat} (n:Nat) (m:Int) (x:K ps),co ps n (m*x)=m*co ps n x
 | [],n,m,x=>rfl
 | p::ps,n,m,x=>by
  obtain⟨a,b,rfl⟩:=jT x
  rw[ZD,jk7,jk7]
  split<;>exact jby2 _ _ _
theorem jr0:∀ {ps:List Nat} (n:Nat),co ps n (zero ps)=0
 | [],n=>rfl
 | p::ps,n=>by
  rw[zg5,jk7]
  split<;>exact jr0 _
theorem jbg7:∀ {ps:List Nat} {n m:Nat},Fac ps n->Fac ps m->co ps n (rt ps m)=if n=m then 1 else 0
 | [],n,m,h,h2=>by
  have h':n=1:=h
  have h2':m=1:=h2
  subst h';subst h2';rfl
 | p::ps,n,m,h,h2=>by
  unfold Fac at h h2
  unfold rt
  by_cases hp:p∣n<;>by_cases hq:p∣m
  ·rw[if_pos hp] at h
   rw[if_pos hq] at h2 ⊢
   rw[jk7,if_pos hp,jbg7 h h2]
   have e1:=Nat.mul_div_cancel' hp
   have e2:=Nat.mul_div_cancel' hq
   by_cases hnm:n=m
   ·rw[if_pos hnm,if_pos (by rw[hnm])]
   ·rw[if_neg hnm,if_neg (λe=>hnm (by rw[<-e1,<-e2,e]))]
  ·rw[if_neg hq,jk7,if_pos hp,jr0,if_neg (λe:n=m=>hq (e▸hp))]
  ·rw[if_pos hq,jk7,if_neg hp,jr0,if_neg (λe:n=m=>hp (e▸hq))]
  ·rw[if_neg hp] at h
   rw[if_neg hq] at h2 ⊢
   rw[jk7,if_neg hp,jbg7 h h2]
def tot(ps:List Nat)(ts:List (Int×Nat)):K ps:=ts.foldr (λt x=>sc ps t.1 (rt ps t.2)+x) (zero ps)
theorem jby3 {ps:List Nat} {n:Nat} (hn:Fac ps n):∀(ts:List (Int×Nat)),(∀t∈ts,Fac ps t.2)->n∉ts.map (·.2)->co ps n (tot ps ts)=0
 | [],_,_=>jr0 n
 | t::ts,h,hm=>by
  simp only[List.map_cons,List.mem_cons,not_or] at hm
  show co ps n (t.1*rt ps t.2+tot ps ts)=0
  rw[jay9,jby2,jbg7 hn (h t (by simp)),if_neg hm.1,jby3 hn ts (λu hu=>h u (List.mem_cons_of_mem _ hu)) hm.2];simp
theorem jcr5{ps:List Nat}{c:Int}{n:Nat}{ts:List (Int×Nat)}(hc:c≠0)(h:∀t∈(c,n)::ts,Fac ps t.2)(hm:n∉ts.map (·.2)):tot ps ((c,n)::ts)≠zero ps:=by
 intro he
 have hn:=h (c,n) (by simp)
 have h1:co ps n (tot ps ((c,n)::ts))=c:=by
  show co ps n (c*rt ps n+tot ps ts)=c
  rw[jay9,jby2,jbg7 hn hn,if_pos rfl,jby3 hn ts (λu hu=>h u (List.mem_cons_of_mem _ hu)) hm];simp
 rw[he,jr0] at h1
 exact hc h1.symm
theorem jcm7 {ps:List Nat}:∀(ts:List (Int×Nat)),(∀t∈ts,Fac ps t.2)->M ps (tot ps ts)<=(ts.map λt=>t.1.natAbs*t.2).sum
 | [],_=>by show M ps (zero ps)<=_;rw[zg7];exact Nat.zero_le _
 | t::ts,h=>by
  refine Nat.le_trans (zv1 _ _) ?_
  rw[show sc ps t.1 (rt ps t.2)=t.1*rt ps t.2 from rfl,M_sc,M_rt (h t (by simp))]
  have:=jcm7 ts (λu hu=>h u (List.mem_cons_of_mem _ hu))
  unfold tot at this
  simp only[List.map_cons,List.sum_cons]
  omega
theorem apart{ps:List Nat}(hp:∀p∈ps,Pr p)(hn:ps.Nodup){x:K ps}(hx:x≠zero ps):∃Y:Nat,Y<=M ps x ^ (2 ^ ps.length-1)/\∀(B:Nat) (s:Nat->Nat) (C:Nat),0<B ->
  (∀p∈ps,s p<=p*B/\s p*s p<=p*(B*B)/\p*(B*B)<=s p*s p+2*s p)->B*(ev B s ps x).natAbs<=C*B ^ ps.length->B<=C*Y+2*ps.length*M ps x*Y:=by
 obtain⟨y,N,hN,hy,hM⟩:=(jbh0 ps hp hn).1 x hx
 refine⟨M ps y,hM,λB s C hB hs hC=>?_⟩
 have h1:=jy5 (B:=B) (s:=s) (λp h=>⟨by have:=(hp p h).1;omega,hs p h⟩) x y
 have h2:=jak6 (B:=B) (s:=s) (λp h=>(hs p h).1) y
 rw[hy,jby9] at h1
 have hP:0<B ^ ps.length:=Nat.pow_pos hB
 generalize ev B s ps x=ex at *
 generalize ev B s ps y=ey at *
 generalize B ^ ps.length=P at *
 generalize M ps x=X at *
 generalize M ps y=Y at *
 generalize ps.length=m at *
 have h3:B*(P*P)<=B*(ex.natAbs*ey.natAbs)+2*m*(X*Y*(P*P)):=by
  have e1:((B:Int)*(ex*ey-(P:Int)*(N*(P:Int)))).natAbs=((B:Int)*(ex*ey)-(B:Int)*((P:Int)*P)*N).natAbs:=by congr 1;grind
  rw[e1] at h1
  have e2:((B:Int)*((P:Int)*P)*N).natAbs=B*(P*P)*N.natAbs:=by
   rw[Int.natAbs_mul,Int.natAbs_mul,Int.natAbs_mul];rfl
  have e3:((B:Int)*(ex*ey)).natAbs=B*(ex.natAbs*ey.natAbs):=by rw[Int.natAbs_mul,Int.natAbs_mul];rfl
  have h4:B*(P*P)<=B*(P*P)*N.natAbs:=Nat.le_mul_of_pos_right _ (by omega)
  generalize (B:Int)*(ex*ey)=u at *
  generalize (B:Int)*((P:Int)*P)*N=v at *
  omega
 have h5:B*(ex.natAbs*ey.natAbs)<=(C*P)*(Y*P):=by rw[<-Nat.mul_assoc];exact Nat.mul_le_mul hC h2
 have h6:B*(P*P)<=(C*Y+2*m*X*Y)*(P*P):=by
  have e:(C*Y+2*m*X*Y)*(P*P)=C*P*(Y*P)+2*m*(X*Y*(P*P)):=by grind
  omega
 exact Nat.le_of_mul_le_mul_right h6 (Nat.mul_pos hP hP)
def jz9(l:List Nat):Nat:=l.foldr (·*·) 1
theorem ZB(a:Nat)(l:List Nat):jz9 (a::l)=a*jz9 l:=rfl
theorem zj5:∀ {l:List Nat} {p:Nat},p∈l->p∣jz9 l
 | a::l,p,h=>by
  rw[ZB]
  rcases List.mem_cons.1 h with rfl|h
  ·exact Nat.dvd_mul_right _ _
  ·exact Nat.dvd_trans (zj5 h) (Nat.dvd_mul_left _ _)
theorem zk9:∀ {l:List Nat} {p:Nat},Pr p->(∀q∈l,Pr q)->p∣jz9 l->p∈l
 | [],p,hp,_,h=>by
  have h1:p∣1:=h
  have:=Nat.le_of_dvd (by omega) h1
  have:=hp.1;omega
 | a::l,p,hp,hl,h=>by
  rw[ZB] at h
  rcases hp.dvd h with h1|h1
  ·exact List.mem_cons.2 (.inl (hp.ne (hl a (by simp)) h1))
  ·exact List.mem_cons_of_mem _ (zk9 hp (λq hq=>hl q (List.mem_cons_of_mem _ hq)) h1)
theorem jad8(n:Nat)(hn:2<=n):∃p,Pr p/\p∣n/\∀q,2<=q->q∣n->p<=q:=by
 have h:∀k,k<=n->(∃d,2<=d/\d<=k/\d∣n)->∃p,2<=p/\p∣n/\∀q,2<=q->q∣n->p<=q:=by
  intro k
  induction k with
  | zero=>rintro _ ⟨d,h1,h2,_⟩;omega
  | succ k ih=>
   rintro hk ⟨d,h1,h2,h3⟩
   by_cases he:∃d,2<=d/\d<=k/\d∣n
   ·exact ih (by omega) he
   ·refine⟨d,h1,h3,λq hq hqn=>?_⟩
    rcases Nat.lt_or_ge q d with h4|h4
    ·exact absurd ⟨q,hq,by omega,hqn⟩ he
    ·exact h4
 obtain⟨p,h1,h2,h3⟩:=h n (Nat.le_refl _) ⟨n,hn,Nat.le_refl _,Nat.dvd_refl _⟩
 refine⟨p,⟨h1,λm hm=>?_⟩,h2,h3⟩
 rcases Nat.lt_or_ge m 2 with h4|h4
 ·have:=Nat.pos_of_dvd_of_pos hm (by omega)
  exact .inl (by omega)
 ·have h5:=h3 m h4 (Nat.dvd_trans hm h2)
  have h6:=Nat.le_of_dvd (by omega) hm
  exact .inr (by omega)
theorem zg2:∀(n:Nat),1<=n->jm7 n->∃l:List Nat,(∀p∈l,Pr p)/\l.Pairwise (·<·)/\jz9 l=n:=by
 intro n
 induction n using Nat.strongRecOn with
 | ind n ih=>
  intro h1 hf
  rcases Nat.lt_or_ge n 2 with h2|h2
  ·exact⟨[],by simp,List.Pairwise.nil,by show 1=n;omega⟩
  ·obtain⟨p,hp,⟨m,rfl⟩,hmin⟩:=jad8 n h2
   have hp2:=hp.1
   have hm0:1<=m:=by
    rcases Nat.eq_zero_or_pos m with h|h
    ·subst h;omega
    ·exact h
   have hm:m<p*m:=by
    have:=Nat.mul_le_mul_right m hp2
    omega
   obtain⟨l,hl,hs,hpr⟩:=ih m hm hm0 (λe he hd=>hf e he (Nat.dvd_trans hd (Nat.dvd_mul_left _ _)))
   refine⟨p::l,?_,List.pairwise_cons.2 ⟨λq hq=>?_,hs⟩,by rw[ZB,hpr]⟩
   ·intro q hq
    rcases List.mem_cons.1 hq with rfl|hq
    ·exact hp
    ·exact hl q hq
   ·have h3:q∣m:=hpr▸zj5 hq
    have h4:=hmin q (hl q hq).1 (Nat.dvd_trans h3 (Nat.dvd_mul_left _ _))
    rcases Nat.lt_or_ge p q with h5|h5
    ·exact h5
    ·obtain rfl:q=p:=by omega
     exact absurd (Nat.mul_dvd_mul_left q h3) (hf q hp2)
theorem jcb9{a b:Nat}(ha:2<=a)(hb:2<=b):¬Pr (a*b):=by
 intro h
 rcases h.2 a (Nat.dvd_mul_right _ _)with h1|h1
 ·omega
 ·have:=Nat.mul_le_mul_left a hb
  omega
theorem jak8{l:List Nat}(hl:∀p∈l,Pr p)(hs:l.Pairwise (·<·))(h:jz9 l<=1000):l.length<=4:=by
 match l,hl,hs,h with
 | [],_,_,_=>simp
 | [_],_,_,_=>simp
 | [_,_],_,_,_=>simp
 | [_,_,_],_,_,_=>simp
 | [_,_,_,_],_,_,_=>simp
 | a::b::c::d::e::r,hl,hs,h=>
  exfalso
  simp only[List.pairwise_cons,List.mem_cons] at hs
  have hab:=hs.1 b (by simp)
  have hbc:=hs.2.1 c (by simp)
  have hcd:=hs.2.2.1 d (by simp)
  have hde:=hs.2.2.2.1 e (by simp)
  have ha:=(hl a (by simp)).1
  have hc:=hl c (by simp)
  have hd:=hl d (by simp)
  have hr:1<=jz9 r:=by
   have:∀l:List Nat,(∀p∈l,Pr p)->1<=jz9 l:=by
    intro l
    induction l with
    | nil=>intro _;exact Nat.le_refl 1
    | cons x l ih=>
     intro h
     rw[ZB]
     exact Nat.mul_pos (by have:=(h x (by simp)).1;omega) (ih (λp hp=>h p (List.mem_cons_of_mem _ hp)))
   exact this r (λp hp=>hl p (by simp[hp]))
  have hc4:c≠4:=λe=>jcb9 (a:=2) (b:=2) (by omega) (by omega) (by rw[show 2*2=4 from rfl,<-e];exact hc)
  have hd6:d≠6:=λe=>jcb9 (a:=2) (b:=3) (by omega) (by omega) (by rw[show 2*3=6 from rfl,<-e];exact hd)
  have h1:2*(3*(5*(7*(8*1))))<=jz9 (a::b::c::d::e::r):=by
   simp only[ZB]
   exact Nat.mul_le_mul (by omega) (Nat.mul_le_mul (by omega) (Nat.mul_le_mul (by omega) (Nat.mul_le_mul (by omega) (Nat.mul_le_mul (by omega) hr))))
  omega
theorem jaz4:∀ {ps l:List Nat} {n:Nat},(∀p∈ps,Pr p)->(∀p∈l,Pr p)->l.Nodup->(∀p∈l,p∈ps)->jz9 l=n->Fac ps n
 | [],l,n,_,_,_,hsub,h=>by
  cases l with
  | nil=>exact h.symm
  | cons a l=>exact absurd (hsub a (by simp)) (by simp)
 | p::ps,l,n,hp,hl,hnd,hsub,h=>by
  have hpp:=hp p (by simp)
  have hps:∀q∈ps,Pr q:=λq hq=>hp q (List.mem_cons_of_mem _ hq)
  unfold Fac
  by_cases hm:p∈l
  ·have hd:p∣n:=h▸zj5 hm
   rw[if_pos hd]
   have hprod:∀l:List Nat,p∈l->jz9 l=p*jz9 (l.erase p):=by
    intro l
    induction l with
    | nil=>intro h;cases h
    | cons a l ih=>
     intro h
     by_cases ha:a=p
     ·subst ha;rw[List.erase_cons_head,ZB]
     ·rcases List.mem_cons.1 h with h|h
      ·exact absurd h.symm ha
      ·rw[List.erase_cons_tail (by simpa using ha),ZB,ZB,ih h,Nat.mul_left_comm]
   refine jaz4 hps (λq hq=>hl q (List.mem_of_mem_erase hq)) (hnd.erase p) (λq hq=>?_) ?_
   ·have h2:=(List.Nodup.mem_erase_iff hnd).1 hq
    exact(List.mem_cons.1 (hsub q h2.2)).resolve_left h2.1
   ·rw[<-h,hprod l hm,Nat.mul_div_cancel_left _ (by have:=hpp.1;omega)]
  ·have hd:¬p∣n:=λhd=>hm (zk9 hpp hl (h▸hd))
   rw[if_neg hd]
   exact jaz4 hps hl hnd (λq hq=>(List.mem_cons.1 (hsub q hq)).resolve_left (λe=>hm (e▸hq))) h
def jn3:List Nat->List Nat
 | []=>[]
 | a::l=>if a∈jn3 l then jn3 l else a::jn3 l
theorem QN:∀ {l:List Nat} {a:Nat},a∈jn3 l↔a∈l
 | [],a=>Iff.rfl
 | b::l,a=>by
  unfold jn3
  split
  ·rename_i h
   rw[QN,List.mem_cons]
   exact⟨.inr,λh2=>h2.elim (λe=>by rw[e];exact QN.1 h) id⟩
  ·rw[List.mem_cons,List.mem_cons,QN]
theorem jn4:∀(l:List Nat),(jn3 l).Nodup
 | []=>List.nodup_nil
 | b::l=>by
  unfold jn3
  split
  ·exact jn4 l
  ·rename_i h
   exact List.nodup_cons.2 ⟨h,jn4 l⟩
theorem jar2:∀(l:List Nat),(jn3 l).length<=l.length
 | []=>Nat.le_refl _
 | b::l=>by
  unfold jn3
  have:=jar2 l
  split
  ·simp;omega
  ·simp;omega
theorem zb6:∀(ts:List (Int×Int)),(∀t∈ts,1<=t.2/\t.2<=1000/\jm7 t.2.toNat)->∃qs:List Nat,(∀p∈qs,Pr p)/\qs.length<=4*ts.length /\
  ∀t∈ts,∃l:List Nat,(∀p∈l,Pr p)/\l.Nodup/\(∀p∈l,p∈qs)/\jz9 l=t.2.toNat
 | [],_=>⟨[],by simp,by simp,by simp⟩
 | t::ts,h=>by
  obtain⟨qs,h1,h2,h3⟩:=zb6 ts (λu hu=>h u (List.mem_cons_of_mem _ hu))
  obtain⟨g1,g2,g3⟩:=h t (by simp)
  obtain⟨l,hl,hs,hp⟩:=zg2 t.2.toNat (by omega) g3
  have hlen:=jak8 hl hs (by rw[hp];omega)
  refine⟨l++qs,?_,by simp;omega,?_⟩
  ·intro p hp
   rcases List.mem_append.1 hp with h|h
   ·exact hl p h
   ·exact h1 p h
  ·intro u hu
   rcases List.mem_cons.1 hu with rfl|hu
   ·exact⟨l,hl,hs.imp (λh=>by omega),λp hp=>List.mem_append.2 (.inl hp),hp⟩
   ·obtain⟨l',k1,k2,k3,k4⟩:=h3 u hu
    exact⟨l',k1,k2,λp hp=>List.mem_append.2 (.inr (k3 p hp)),k4⟩
def rs(B p:Nat):Nat:=isq (p*(B*B))
theorem jcn1{B p:Nat}(hp:1<=p):B<=rs B p/\rs B p<=p*B/\rs B p*rs B p<=p*(B*B)/\p*(B*B)<=rs B p*rs B p+2*rs B p:=by
 have h:=qe (p*(B*B))
 refine⟨jy8 (by have:=Nat.mul_le_mul_right (B*B) hp;omega),?_,qB _,?_⟩
 ·have h1:isq (p*(B*B))<=isq ((p*B)*(p*B)):=jca0 (by
   rw[Nat.mul_mul_mul_comm]
   exact Nat.mul_le_mul_right _ (by have:=Nat.mul_le_mul_left p hp;omega))
  rwa [jf8] at h1
 ·have h1:=h.1
  have h2:=h.2
  unfold rs;omega
theorem near {B P C n m g:Nat} (hg:P<=g) (hg2:g*g<=n*(P*P)) (hlow:B*(n*(P*P))<=B*(g*g)+2*m*(n*n*(P*P))) :
  B*(C*g)<=P*isq (C*C*n*(B*B))+P/\P*isq (C*C*n*(B*B))<=B*(C*g)+C*m*(n*n)*P:=by
 have hs:=qe (C*C*n*(B*B))
 have h1:=hs.le
 have h2:=hs.lt
 generalize isq (C*C*n*(B*B))=L at *
 constructor
 ·rcases Nat.lt_or_ge (P*L+P) (B*(C*g))with h3|h3
  ·exfalso
   have h4:=Nat.mul_self_lt_mul_self h3
   have e1:(P*L+P)*(P*L+P)=P*P*((L+1)*(L+1)):=by grind
   have e2:B*(C*g)*(B*(C*g))=B*B*(C*C)*(g*g):=by grind
   have h5:=Nat.mul_le_mul_left (B*B*(C*C)) hg2
   have h6:=Nat.mul_le_mul_left (P*P) (Nat.le_of_lt h2)
   have e3:P*P*(C*C*n*(B*B))=B*B*(C*C)*(n*(P*P)):=by grind
   omega
  ·exact h3
 ·rcases Nat.lt_or_ge (B*(C*g)+C*m*(n*n)*P) (P*L)with h3|h3
  ·exfalso
   have h4:=Nat.mul_self_lt_mul_self h3
   have h5:=Nat.mul_le_mul_left (P*P) h1
   have e1:P*L*(P*L)=P*P*(L*L):=by grind
   have e2:(B*(C*g)+C*m*(n*n)*P)*(B*(C*g)+C*m*(n*n)*P)=B*B*(C*C)*(g*g)+2*(B*(C*C)*m*(n*n)*P)*g+(C*m*(n*n)*P)*(C*m*(n*n)*P):=by grind
   have h6:2*(B*(C*C)*m*(n*n)*P)*P<=2*(B*(C*C)*m*(n*n)*P)*g:=Nat.mul_le_mul_left _ hg
   have h7:=Nat.mul_le_mul_left (B*(C*C)) hlow
   have e3:B*(C*C)*(B*(n*(P*P)))=P*P*(C*C*n*(B*B)):=by grind
   have e4:B*(C*C)*(B*(g*g)+2*m*(n*n*(P*P)))=B*B*(C*C)*(g*g)+2*(B*(C*C)*m*(n*n)*P)*P:=by grind
   omega
  ·exact h3
def conv(ts:List (Int×Int)):List (Int×Nat):=ts.map λt=>(t.1,t.2.toNat)
def jg5(m:Nat)(ts:List (Int×Int)):Nat:=(ts.map λt=>t.1.natAbs*m*(t.2.toNat*t.2.toNat)+1).sum
theorem jbt1 {ps:List Nat} (hp:∀p∈ps,Pr p) (k:Nat) (t:Int×Int) (hf:Fac ps t.2.toNat) :
  (bits k:Int)*(t.1*ev (bits k) (rs (bits k)) ps (rt ps t.2.toNat))<=((bits k ^ ps.length:Nat):Int)*((if t.1<0 then 0 else zh t k:Nat)-(if t.1<0 then zh t k else 0:Nat):Int)+((bits k ^ ps.length:Nat):Int)*((t.1.natAbs*ps.length*(t.2.toNat*t.2.toNat)+1:Nat):Int) /\
  ((bits k ^ ps.length:Nat):Int)*((if t.1<0 then 0 else zh t k:Nat)-(if t.1<0 then zh t k else 0:Nat):Int)<=(bits k:Int)*(t.1*ev (bits k) (rs (bits k)) ps (rt ps t.2.toNat))+((bits k ^ ps.length:Nat):Int)*((t.1.natAbs*ps.length*(t.2.toNat*t.2.toNat)+1:Nat):Int):=by
 have hok:∀p∈ps,bits k<=rs (bits k) p/\rs (bits k) p<=p*bits k/\rs (bits k) p*rs (bits k) p<=p*(bits k*bits k)/\p*(bits k*bits k)<=rs (bits k) p*rs (bits k) p+2*rs (bits k) p:=λp h=>jcn1 (by have:=(hp p h).1;omega)
 obtain⟨g,hg,hg1,hg2⟩:=jbz1 (B:=bits k) (s:=rs (bits k)) (λp h=>⟨(hok p h).1,(hok p h).2.2.1⟩) hf
 have hm:=jy5 (B:=bits k) (s:=rs (bits k)) (λp h=>⟨by have:=(hp p h).1;omega,(hok p h).2⟩) (rt ps t.2.toNat) (rt ps t.2.toNat)
 rw[jcd5 hf,jby9,hg,M_rt hf] at hm
 have hl:zh t k=isq (t.1.natAbs*t.1.natAbs*t.2.toNat*(bits k*bits k)):=rfl
 rw[hg,hl]
 obtain⟨c,hc⟩:∃c,c=t.1.natAbs:=⟨_,rfl⟩
 rw[<-hc]
 generalize t.2.toNat=n at *
 generalize bits k ^ ps.length=P at *
 generalize ps.length=m at *
 generalize bits k=B at *
 have hlow:B*(n*(P*P))<=B*(g*g)+2*m*(n*n*(P*P)):=by
  have e:(B:Int)*((g:Int)*g-(P:Int)*((n:Int)*P))=((B*(g*g):Nat):Int)-((B*(n*(P*P)):Nat):Int):=by
   simp only[Int.natCast_mul];grind
  rw[e] at hm
  omega
 obtain⟨n1,n2⟩:=near (C:=c) hg1 hg2 hlow
 generalize isq (c*c*n*(B*B))=L at *
 have f1:((B*(c*g):Nat):Int)<=((P*L+P:Nat):Int):=by exact_mod_cast n1
 have f2:((P*L:Nat):Int)<=((B*(c*g)+c*m*(n*n)*P:Nat):Int):=by exact_mod_cast n2
 have f3:(P:Int)*((c*m*(n*n)+1:Nat):Int)=((c*m*(n*n)*P:Nat):Int)+(P:Int):=by
  simp only[Int.natCast_mul,Int.natCast_add];grind
 have f4:((P*L:Nat):Int)=(P:Int)*L:=Int.natCast_mul _ _
 have f5:0<=((c*m*(n*n)*P:Nat):Int):=Int.natCast_nonneg _
 rw[f3]
 by_cases h0:t.1<0
 ·simp only[if_pos h0]
  have e1:(B:Int)*(t.1*(g:Int))=-((B*(c*g):Nat):Int):=by
   have:t.1=-(c:Int):=by omega
   rw[this];simp only[Int.natCast_mul];grind
  have e2:(P:Int)*(((0:Nat):Int)-(L:Int))=-((P*L:Nat):Int):=by rw[f4];grind
  rw[e1,e2]
  rw[Int.natCast_add] at f1 f2
  omega
 ·simp only[if_neg h0]
  have e1:(B:Int)*(t.1*(g:Int))=((B*(c*g):Nat):Int):=by
   have:t.1=(c:Int):=by omega
   rw[this];simp only[Int.natCast_mul]
  have e2:(P:Int)*((L:Int)-((0:Nat):Int))=((P*L:Nat):Int):=by rw[f4];grind
  rw[e1,e2]
  rw[Int.natCast_add] at f1 f2
  omega
theorem jat3{ps:List Nat}(hp:∀p∈ps,Pr p)(k:Nat):∀(ts:List (Int×Int)),(∀t∈ts,Fac ps t.2.toNat) ->
  (bits k:Int)*ev (bits k) (rs (bits k)) ps (tot ps (conv ts))<=((bits k ^ ps.length:Nat):Int)*((zv ts k:Int)-(zw ts k:Int))+((bits k ^ ps.length:Nat):Int)*(jg5 ps.length ts:Int) /\
  ((bits k ^ ps.length:Nat):Int)*((zv ts k:Int)-(zw ts k:Int))<=(bits k:Int)*ev (bits k) (rs (bits k)) ps (tot ps (conv ts))+((bits k ^ ps.length:Nat):Int)*(jg5 ps.length ts:Int)
 | [],_=>by
  have h:ev (bits k) (rs (bits k)) ps (tot ps (conv []))=0:=jr8
  rw[h]
  simp[zv,zw,jg5]
 | t::ts,h=>by
  have h1:=jbt1 hp k t (h t (by simp))
  have h2:=jat3 hp k ts (λu hu=>h u (List.mem_cons_of_mem _ hu))
  have e1:ev (bits k) (rs (bits k)) ps (tot ps (conv (t::ts)))=t.1*ev (bits k) (rs (bits k)) ps (rt ps t.2.toNat)+ev (bits k) (rs (bits k)) ps (tot ps (conv ts)):=by
   show ev _ _ ps (t.1*rt ps t.2.toNat+tot ps (conv ts))=_
   rw[zj7,jak7]
  have e2:zv (t::ts) k=(if t.1<0 then 0 else zh t k)+zv ts k:=rfl
  have e3:zw (t::ts) k=(if t.1<0 then zh t k else 0)+zw ts k:=rfl
  have e4:jg5 ps.length (t::ts)=(t.1.natAbs*ps.length*(t.2.toNat*t.2.toNat)+1)+jg5 ps.length ts:=rfl
  rw[e1,e2,e3,e4]
  generalize t.1*ev (bits k) (rs (bits k)) ps (rt ps t.2.toNat)=x at *
  generalize ev (bits k) (rs (bits k)) ps (tot ps (conv ts))=y at *
  generalize (t.1.natAbs*ps.length*(t.2.toNat*t.2.toNat)+1)=s1 at *
  generalize jg5 ps.length ts=s2 at *
  generalize (if t.1<0 then 0 else zh t k)=a1 at *
  generalize (if t.1<0 then zh t k else 0)=b1 at *
  generalize zv ts k=a2 at *
  generalize zw ts k=b2 at *
  generalize ((bits k ^ ps.length:Nat):Int)=P at *
  generalize (bits k:Int)=B at *
  have g1:B*(x+y)=B*x+B*y:=Int.mul_add _ _ _
  have g2:P*(((a1+a2:Nat):Int)-((b1+b2:Nat):Int))=P*((a1:Int)-(b1:Int))+P*((a2:Int)-(b2:Int)):=by rw[Int.natCast_add,Int.natCast_add];grind
  have g3:P*((s1+s2:Nat):Int)=P*(s1:Int)+P*(s2:Int):=by rw[Int.natCast_add];grind
  rw[g1,g2,g3]
  omega
theorem jcm2(t:Int×Int)(k:Nat):Jr t k<=zh t k+1:=jbh1 _
theorem jbd5(ts:List (Int×Int))(k:Nat):Jg ts k<=zv ts k+ts.length/\Jh ts k<=zw ts k+ts.length:=by
 induction ts with
 | nil=>simp[Jg,zv,Jh,zw]
 | cons t ts ih=>
  have h:=jcm2 t k
  unfold Jg zv Jh zw at *
  simp only[List.map_cons,List.sum_cons,List.length_cons]
  split<;>omega
theorem jbm1{ts:List (Int×Int)}(h0:∀t∈ts,0<=t.2){n:Int}(hn:0<=n)(h:n∉ts.map (·.2)):n.toNat∉(conv ts).map (·.2):=by
 intro hm
 unfold conv at hm
 rw[List.map_map] at hm
 obtain⟨t,ht,e⟩:=List.mem_map.1 hm
 have h1:=h0 t ht
 have e':t.2.toNat=n.toNat:=e
 exact h (List.mem_map.2 ⟨t,ht,by omega⟩)
theorem zg0 {ps:List Nat} (hp:∀p∈ps,Pr p) (hnd:ps.Nodup) {ts:List (Int×Int)} (hne:ts≠[]) (hf:∀t∈ts,Fac ps t.2.toNat) (hc:∀t∈ts,t.1≠0) (h0:∀t∈ts,0<=t.2) (hk:(ts.map (·.2)).Nodup) :
  ∃Y:Nat,Y<=((conv ts).map λt=>t.1.natAbs*t.2).sum ^ (2 ^ ps.length-1)/\∀k,(jg5 ps.length ts+ts.length)*Y+2*ps.length*((conv ts).map λt=>t.1.natAbs*t.2).sum*Y<bits k->jy ts k≠0:=by
 have hfc:∀t∈conv ts,Fac ps t.2:=by
  intro t ht
  obtain⟨u,hu,rfl⟩:=List.mem_map.1 ht
  exact hf u hu
 have hx:tot ps (conv ts)≠zero ps:=by
  cases ts with
  | nil=>exact absurd rfl hne
  | cons t ts=>
   simp only[List.map_cons,List.nodup_cons] at hk
   exact jcr5 (hc t (by simp)) hfc (jbm1 (λu hu=>h0 u (List.mem_cons_of_mem _ hu)) (h0 t (by simp)) hk.1)
 obtain⟨Y,hY,hap⟩:=apart hp hnd hx
 have hM:=jcm7 (ps:=ps) (conv ts) hfc
 refine⟨Y,Nat.le_trans hY (Nat.pow_le_pow_left hM _),λk hlt hv=>?_⟩
 have hs:=jat3 hp k ts hf
 have hcl:=jbd5 ts k
 have hd1:¬Jh ts k<zv ts k:=λh=>by rw[ZT h] at hv;omega
 have hd2:¬Jg ts k<zw ts k:=λh=>by rw[ZS h] at hv;omega
 have hB:=Zh k
 have h1:=hap (bits k) (rs (bits k)) (jg5 ps.length ts+ts.length) hB (λp h=>(jcn1 (by have:=(hp p h).1;omega)).2) ?_
 ·have h2:2*ps.length*M ps (tot ps (conv ts))*Y<=2*ps.length*((conv ts).map λt=>t.1.natAbs*t.2).sum*Y:=Nat.mul_le_mul_right _ (Nat.mul_le_mul_left _ hM)
  omega
 ·generalize ev (bits k) (rs (bits k)) ps (tot ps (conv ts))=x at *
  generalize bits k ^ ps.length=P at *
  generalize bits k=B at *
  generalize jg5 ps.length ts=S at *
  have e1:B*x.natAbs=((B:Int)*x).natAbs:=by rw[Int.natAbs_mul];rfl
  rw[e1]
  have e2:((S+ts.length)*P:Nat)=P*S+P*ts.length:=by grind
  rw[e2]
  have hab:(zv ts k:Int)-(zw ts k:Int)<=(ts.length:Int)/\-(ts.length:Int)<=(zv ts k:Int)-(zw ts k:Int):=by omega
  have g1:=Int.mul_le_mul_of_nonneg_left hab.1 (Int.natCast_nonneg P)
  have g2:=Int.mul_le_mul_of_nonneg_left hab.2 (Int.natCast_nonneg P)
  rw[Int.mul_neg] at g2
  generalize (P:Int)*((zv ts k:Int)-(zw ts k:Int))=u at *
  have g3:((P*S+P*ts.length:Nat):Int)=(P:Int)*S+(P:Int)*ts.length:=by simp only[Int.natCast_mul,Int.natCast_add]
  generalize (B:Int)*x=v at *
  omega
end Go.Proofs.YtphcodcdfeohhaaGreatDoor.LI
namespace Go.Proofs.YtphcodcdfeohhaaGreatDoor
open LI
theorem Qd {α:Type} (f:α->Nat) (c:Nat):∀l:List α,(∀x∈l,f x<=c)->(l.map f).sum<=l.length*c
 | [],_=>by simp
 | x::l,h=>by
  have h1:=h x (by simp)
  have h2:=Qd f c l (λy hy=>h y (List.mem_cons_of_mem _ hy))
  simp only[List.map_cons,List.sum_cons,List.length_cons,Nat.add_mul]
  omega
def zu(r:Int):Prop:=1<=r/\r<=1000/\jm7 r.toNat
theorem zc0 (K:Nat) (hK:93+75*2 ^ 36<=16*K) {ts:List (Int×Int)} (hne:ts≠[]) (hc:∀t∈ts,t.1≠0/\-4000000000000000000<=t.1/\t.1<=4000000000000000000) (hr:∀t∈ts,zu t.2) (hk:(ts.map (·.2)).Nodup) (hl:ts.length<=9) :
  jy ts K≠0:=by
 obtain⟨qs,h1,h2,h3⟩:=zb6 ts hr
 have hfac:∀t∈ts,Fac (jn3 qs) t.2.toNat:=by
  intro t ht
  obtain⟨l,g1,g2,g3,g4⟩:=h3 t ht
  exact jaz4 (λp hp=>h1 p (QN.1 hp)) g1 g2 (λp hp=>QN.2 (g3 p hp)) g4
 obtain⟨Y,hY,hd⟩:=zg0 (λp hp=>h1 p (QN.1 hp)) (jn4 qs) hne hfac (λt ht=>(hc t ht).1) (λt ht=>by have:=(hr t ht).1;omega) hk
 refine hd K ?_
 have hm:(jn3 qs).length<=36:=by have:=jar2 qs;omega
 generalize (jn3 qs).length=m at *
 have hX:((conv ts).map λt=>t.1.natAbs*t.2).sum<=2 ^ 75:=by
  have h5:=Qd (λt:Int×Nat=>t.1.natAbs*t.2) (4000000000000000000*1000) (conv ts) (λt ht=>by
   obtain⟨u,hu,rfl⟩:=List.mem_map.1 ht
   have:=hc u hu
   have:=hr u hu
   exact Nat.mul_le_mul (by show u.1.natAbs<=_;omega) (by show u.2.toNat<=_;have:=this.2.1;omega))
  have h6:(conv ts).length=ts.length:=by simp[conv]
  rw[h6] at h5
  omega
 have hS:jg5 m ts<=9*(4000000000000000000*36*(1000*1000)+1):=by
  have h5:=Qd (λt:Int×Int=>t.1.natAbs*m*(t.2.toNat*t.2.toNat)+1) (4000000000000000000*36*(1000*1000)+1) ts (λt ht=>by
   have:=hc t ht
   have:=hr t ht
   have hn:t.2.toNat<=1000:=by have:=this.2.1;omega
   have:=Nat.mul_le_mul (Nat.mul_le_mul (show t.1.natAbs<=4000000000000000000 by omega) hm) (Nat.mul_le_mul hn hn)
   omega)
  have h6:=Nat.mul_le_mul_right (4000000000000000000*36*(1000*1000)+1) hl
  exact Nat.le_trans h5 h6
 generalize ((conv ts).map λt=>t.1.natAbs*t.2).sum=X at *
 generalize jg5 m ts=S at *
 have hE:2 ^ m<=2 ^ 36:=Nat.pow_le_pow_right (by omega) hm
 obtain⟨E,hEE⟩:∃E:Nat,E=2 ^ 36:=⟨_,rfl⟩
 rw[<-hEE] at hE hK
 clear hEE
 have hY2:Y<=2 ^ (75*E):=by
  refine Nat.le_trans hY (Nat.le_trans (Nat.pow_le_pow_left hX _) ?_)
  rw[<-Nat.pow_mul]
  exact Nat.pow_le_pow_right (by omega) (by omega)
 have hb:bits K=2 ^ (16*K):=by
  unfold bits
  rw[show(65536:Nat)=2 ^ 16 from rfl,<-Nat.pow_mul]
 rw[hb]
 have h7:(S+ts.length)*Y+2*m*X*Y<=2 ^ 92*Y:=by
  rw[<-Nat.add_mul]
  refine Nat.mul_le_mul_right _ ?_
  have:=Nat.mul_le_mul (Nat.mul_le_mul_left 2 hm) hX
  omega
 have h8:2 ^ 92*Y<=2 ^ 92*2 ^ (75*E):=Nat.mul_le_mul_left _ hY2
 rw[<-Nat.pow_add] at h8
 have h9:2 ^ (92+75*E)<2 ^ (16*K):=Nat.pow_lt_pow_right (by omega) (by omega)
 omega
theorem jA.exists_ (ts:List (Int×Int)) (hc:∀t∈ts,-4000000000000000000<=t.1/\t.1<=4000000000000000000) (hr:∀t∈ts,zu t.2) (hk:(ts.map (·.2)).Nodup) (hl:ts.length<=9) :
  ∃K,K<=500000000000/\(ts.filter JA=[]\/jy (ts.filter JA) K≠0):=by
 refine⟨500000000000,Nat.le_refl _,?_⟩
 by_cases h:ts.filter JA=[]
 ·exact .inl h
 ·refine .inr (zc0 _ (by decide) h (λt ht=>⟨?_,hc t (List.mem_filter.1 ht).1⟩) (λt ht=>hr t (List.mem_filter.1 ht).1) (List.Nodup.sublist (List.filter_sublist.map _) hk) (Nat.le_trans (List.length_filter_le _ _) hl))
  have:=(List.mem_filter.1 ht).2
  intro e
  rw[JA,e] at this
  cases this
