import Derived.Test.YtphcodcdfeohhaaGreatDoorQuoBToDgtH
import Derived.Test.YtphcodcdfeohhaaGreatDoorRefH
set_option linter.all false
namespace Go.Proofs.YtphcodcdfeohhaaGreatDoor
set_option maxRecDepth 100000
set_option maxHeartbeats 8000000
open Go.RowKit
theorem jcp4{r n:Nat}(h1:r*r<=n)(h2:n<(r+1)*(r+1)):r=isq n:=Nat.le_antisymm (jy8 h1) (ja9 (qB n) h2)
def bitW(j:Nat):Nat:=if j=0 then 0 else 2 ^ (j-1)
theorem zv8(j:Nat):bitW (j+1)=2 ^ j:=by unfold bitW;rw[if_neg (by omega)];rfl
theorem jbk6(j:Nat):bitW (j+1)/2=bitW j:=by
 rw[zv8]
 unfold bitW
 cases j with
 | zero=>rfl
 | succ j=>rw[if_neg (by omega),Nat.pow_succ,Nat.mul_div_cancel _ (by omega)];rfl
theorem jbt8(n:Nat)(w:World)(hn:n<=1000000000000):Calls Tryz.prog 66 #[.int .i64 n] w λe w'=>e=.returned (.int .i64 (isq n))/\∃q,w'=w.drewN q:=by
 go_enter Tryz.func66,Tryz.ntmps66
 go_wp2
 go_loopw [3,4] (λa b W=>∃(j r:Nat),j<=32/\a=.int .i64 r/\b=.int .i64 (bitW j)/\r*r<=n/\n<(r+2 ^ j)*(r+2 ^ j)/\∃q,W=w.drewN q) (λ_ b _=>(intOf b).toNat)
 case atStart=>exact⟨32,0,by omega,rfl,rfl,by omega,by omega,0,rfl⟩
 case round=>
  obtain⟨j,r,hj,rfl,rfl,h1,h2,q,rfl⟩:=hrel
  cases j with
  | zero=>
   have hb:bitW 0=0:=rfl
   rw[hb]
   have hr:=ja (jcp4 h1 (by simpa using h2))
   go_wp2
   go_ret
   refine⟨?_,q,rfl⟩
   rw[<-hr.o];rfl
  | succ j=>
   have hb:=zv8 j
   have hh:=jbk6 j
   have hbl:2 ^ j<=2 ^ 31:=Nat.pow_le_pow_right (by omega) (by omega)
   have hbp:1<=2 ^ j:=Nat.one_le_two_pow
   have hrl:r<=1000000:=by
    rcases Nat.lt_or_ge 1000000 r with h|h
    ·have:=Nat.mul_le_mul h h;omega
    ·exact h
   rw[Nat.pow_succ] at h2
   rw[hb] at hh ⊢
   obtain⟨b,hbe⟩:∃b,2 ^ j=b:=⟨_,rfl⟩
   have HBE:=ja hbe
   rw[hbe] at hh hbl hbp h2 ⊢
   clear hbe hb
   have hsq:(r+b)*(r+b)<=(1000000+2 ^ 31)*(1000000+2 ^ 31):=Nat.mul_le_mul (by omega) (by omega)
   have hcast:((r:Int)+(b:Int))*((r:Int)+(b:Int))=(((r+b)*(r+b):Nat):Int):=by rw[Int.natCast_mul,Int.natCast_add]
   by_cases hc:(r+b)*(r+b)<=n
   ·have HC:=ja hc
    have e1:(r+b+b)*(r+b+b)=(r+b*2)*(r+b*2):=by rw[show r+b+b=r+b*2 by omega]
    generalize hsq2:(r+b)*(r+b)=sq at *
    have HSQ:=ja hsq2
    clear hsq2
    go_wp2
    refine⟨⟨j,r+b,by omega,rfl,?_,by rw[HSQ.o];exact HC.o,by rw[HBE.o,e1];exact h2,q,rfl⟩,by simp[intOf];omega⟩
    rw[<-hh];simp
   ·generalize hsq2:(r+b)*(r+b)=sq at *
    have HSQ:=ja hsq2
    clear hsq2
    go_wp2
    refine⟨⟨j,r,by omega,rfl,?_,h1,by rw[HBE.o,HSQ.o];omega,q,rfl⟩,by simp[intOf];omega⟩
    rw[<-hh];simp
def Jc(kv:List (Int×Int))(num den sign:Int):List (Int×Int):=
 if 0<num then addS kv ((jo (num*den).toNat).2:Int) (sign*((jo (num*den).toNat).1:Int))else kv
theorem jf6 (b:Nat) (kv:List (Int×Int)) (num den sign:Int) (w:World) (h:zH w b kv) (hd:1<=den/\den<=200000) (hn:-200000<=num/\num<=200000) (hs:-1<=sign/\sign<=1) (h2:∀r,-1000000000000000000<=zb kv r/\zb kv r<=1000000000000000000) :
  Calls Tryz.prog 65 #[.agg #[.int .i64 num,.int .i64 den],.map (some b),.int .i64 sign] w λe w'=>e=.returned (.tuple #[])/\zH w' b (Jc kv num den sign)/\w.grownBy w' (some b):=by
 have HX:=ja (jh.new w 108 #[.int .i64 num,.int .i64 den])
 have hlt:=jt.lt h
 obtain⟨q1,q2,_,_⟩:=HX.o.two
 by_cases hp:0<num
 ·obtain⟨nn,hnn⟩:=Int.eq_ofNat_of_zero_le (show 0<=num*den from Int.mul_nonneg (by omega) (by omega))
  have hm:=jE (a:=num) (b:=den) (A:=200000) (B:=200000) hn ⟨by omega,by omega⟩
  have hm1:(1:Int)*1<=num*den:=Int.mul_le_mul (by omega) (by omega) (by omega) (by omega)
  have hnb:1<=nn/\nn<=40000000000:=by omega
  have HA:=ja (show Jc kv num den sign=addS kv ((jo nn).2:Int) (sign*((jo nn).1:Int)) by unfold Jc;rw[if_pos hp,hnn,Int.toNat_natCast])
  have h3:=h2 ((jo nn).2:Int)
  have HU:=ja (jg7 kv ((jo nn).2:Int) (sign*((jo nn).1:Int)))
  have HG:=ja (qN kv ((jo nn).2:Int))
  have HS:=ja (λw=>jj7 nn w (by omega) (by omega))
  have hle:=za7 nn hnb.1
  have HI:=ja (jt.alloc h (.cells #[.int .i64 num,.int .i64 den] 108))
  have hmm:=jE (a:=sign) (b:=((jo nn).1:Int)) (A:=1) (B:=40000000000) (by omega) ⟨by omega,by omega⟩
  clear h h2
  generalize (jo nn).1=sq at *
  generalize (jo nn).2=rest at *
  generalize zb kv (rest:Int)=gv at *
  have hcs:-9000000000000000000<=gv+sign*(sq:Int)/\gv+sign*(sq:Int)<=9000000000000000000:=by omega
  have hcm:-9000000000000000000<=sign*(sq:Int)/\sign*(sq:Int)<=9000000000000000000:=by omega
  have hcn:-9000000000000000000<=num*den/\num*den<=9000000000000000000:=by omega
  go_enter Tryz.func65,Tryz.ntmps65
  go_wp2_with (first
   | (go_at_call 96;refine(HS.o _).mono ?_;rintro e w' ⟨rfl,q,rfl⟩)
   | (at_lookup;refine Za _ rfl _ _ _ rfl Tryz.underlying104 Tryz.underlying3 (.int .i64 0) Tryz.zeroValue3 b (zM kv) _ rfl rfl (jt.drewN HI.o _) ?_;rw[HG.o])
   | (at_mapUpdate;refine Zb _ rfl _ _ _ _ rfl Tryz.underlying104 Tryz.underlying3 b (zM kv) _ (.int .i64 (gv+sign*(sq:Int))) rfl rfl rfl (jt.drewN HI.o _) ?_;intro w2 hm2 hg2 hz2))
  go_end0
  refine⟨rfl,?_,JP (jr9 (JO (World.grownBy.refl w _) _) _) hg2 (λ_ _=>.inl rfl)⟩
  unfold zH
  rw[HA.o,<-HU.o]
  exact hm2
 ·have HA:=ja (show Jc kv num den sign=kv by unfold Jc;rw[if_neg hp])
  have H:=ja h;clear h
  clear h2
  go_enter Tryz.func65,Tryz.ntmps65
  go_wp2
  go_end0
  exact⟨rfl,by rw[HA.o];exact jt.alloc H.o _,JO (World.grownBy.refl w _) _⟩
theorem SqAt.isq{V R T:Int}(h:SqAt V R T):R=(isq V.toNat:Int)/\(if T=0 then R else R+1)=(ja4 V.toNat:Int):=by
 have hl:=h.lt
 have hr:=h.r0
 have hV:0<=V:=by have:=Int.mul_nonneg hr hr;omega
 obtain⟨r,rfl⟩:=Int.eq_ofNat_of_zero_le hr
 obtain⟨v,rfl⟩:=Int.eq_ofNat_of_zero_le hV
 have h1:r*r<=v:=by exact_mod_cast hl.1
 have h2:v<(r+1)*(r+1):=by exact_mod_cast hl.2
 have e:r=Go.Proofs.YtphcodcdfeohhaaGreatDoor.isq v:=Nat.le_antisymm (jy8 h1) (ja9 (qB v) h2)
 have hT:=h.eq
 rw[Int.toNat_natCast]
 refine⟨by rw[<-e],?_⟩
 unfold ja4 jf2
 rw[<-e]
 have e2:(r:Int)*r=((r*r:Nat):Int):=by rw[Int.natCast_mul]
 rw[e2] at hT
 have h0:=h.t0
 by_cases h3:T=0
 ·rw[if_pos h3,if_pos (by omega)]
 ·rw[if_neg h3,if_neg (by omega)];omega
def qJ(t:Int×Int)(D:Nat):Nat:=isq (sqT t*(D*D))
def ZW(t:Int×Int)(D:Nat):Nat:=ja4 (sqT t*(D*D))
def Zx(ts:List (Int×Int))(D:Nat):Nat:=(ts.map λt=>if t.1<0 then 0 else qJ t D).sum
def Zd(ts:List (Int×Int))(D:Nat):Nat:=(ts.map λt=>if t.1<0 then 0 else ZW t D).sum
def Zf(ts:List (Int×Int))(D:Nat):Nat:=(ts.map λt=>if t.1<0 then qJ t D else 0).sum
def Zg(ts:List (Int×Int))(D:Nat):Nat:=(ts.map λt=>if t.1<0 then ZW t D else 0).sum
def Je(ts:List (Int×Int))(D:Nat):Int:=if Zg ts D<Zx ts D then 1 else if Zd ts D<Zf ts D then -1 else 0
theorem jcn2{a b:Nat}(h:a*a<=b*b):a<=b:=by
 rcases Nat.lt_or_ge b a with h1|h1
 ·have:=Nat.mul_self_lt_mul_self h1;omega
 ·exact h1
theorem jcr3{a b:Nat}(h:a*a<b*b):a<b:=by
 rcases Nat.lt_or_ge a b with h1|h1
 ·exact h1
 ·have:=Nat.mul_self_le_mul_self h1;omega
theorem jaa4(a b c d:Nat):a*b*(c*d)=a*c*(b*d):=Nat.mul_mul_mul_comm a b c d
section
variable (t : Int × Int) (k D : Nat)
theorem jaf1:qJ t D*bits k<=Jr t k*D:=by
 refine jcn2 ?_
 rw[jaa4,jaa4 (Jr t k)]
 have h1:=Nat.mul_le_mul_right (bits k*bits k) (qB (sqT t*(D*D)))
 have h2:=Nat.mul_le_mul_right (D*D) (js6 (Zv t k))
 have e:sqT t*(D*D)*(bits k*bits k)=Zv t k*(D*D):=by unfold Zv;rw[Nat.mul_assoc,Nat.mul_assoc (sqT t),Nat.mul_comm (D*D)]
 unfold qJ Jr
 omega
theorem zy5:zh t k*D<=ZW t D*bits k:=by
 refine jcn2 ?_
 rw[jaa4,jaa4 (ZW t D)]
 have h1:=Nat.mul_le_mul_right (D*D) (qB (Zv t k))
 have h2:=Nat.mul_le_mul_right (bits k*bits k) (js6 (sqT t*(D*D)))
 have e:sqT t*(D*D)*(bits k*bits k)=Zv t k*(D*D):=by unfold Zv;rw[Nat.mul_assoc,Nat.mul_assoc (sqT t),Nat.mul_comm (D*D)]
 unfold zh ZW
 omega
theorem zy4:zh t k*D<=qJ t D*bits k+bits k:=by
 have h0:=Zh k
 have h:zh t k*D<(qJ t D+1)*bits k:=by
  refine jcr3 ?_
  rw[jaa4,jaa4 (qJ t D+1)]
  have h1:=Nat.mul_le_mul_right (D*D) (qB (Zv t k))
  have h2:=Nat.mul_lt_mul_of_pos_right (qe (sqT t*(D*D))).lt (Nat.mul_pos h0 h0)
  have e:sqT t*(D*D)*(bits k*bits k)=Zv t k*(D*D):=by unfold Zv;rw[Nat.mul_assoc,Nat.mul_assoc (sqT t),Nat.mul_comm (D*D)]
  unfold zh qJ
  omega
 rw[Nat.add_mul,Nat.one_mul] at h
 omega
theorem jaa7:ZW t D*bits k<=Jr t k*D+bits k:=by
 have h1:=jaf1 t k D
 have h2:=Nat.mul_le_mul_right (bits k) (jbh1 (sqT t*(D*D)))
 rw[Nat.add_mul,Nat.one_mul] at h2
 unfold ZW
 unfold qJ at h1
 omega
end
theorem jb1 {α:Type} (f g:α->Nat) (c d e:Nat):∀l:List α,(∀x∈l,f x*c<=g x*d+e)->(l.map f).sum*c<=(l.map g).sum*d+l.length*e
 | [],_=>by simp
 | x::l,h=>by
  have h1:=h x (by simp)
  have h2:=jb1 f g c d e l (λy hy=>h y (by simp[hy]))
  rw[List.map_cons,List.map_cons,List.sum_cons,List.sum_cons,List.length_cons,Nat.add_mul,Nat.add_mul,Nat.add_mul,Nat.one_mul]
  omega
section
variable (ts : List (Int × Int)) (k D : Nat)
theorem jbk2:Zx ts D*bits k<=Jg ts k*D:=by
 have:=jb1 (λt:Int×Int=>if t.1<0 then 0 else qJ t D) (λt=>if t.1<0 then 0 else Jr t k) (bits k) D 0 ts (λt _=>by split;omega;have:=jaf1 t k D;omega)
 unfold Zx Jg;omega
theorem jbk4:Zf ts D*bits k<=Jh ts k*D:=by
 have:=jb1 (λt:Int×Int=>if t.1<0 then qJ t D else 0) (λt=>if t.1<0 then Jr t k else 0) (bits k) D 0 ts (λt _=>by split;have:=jaf1 t k D;omega;omega)
 unfold Zf Jh;omega
theorem jah4:zv ts k*D<=Zd ts D*bits k:=by
 have:=jb1 (λt:Int×Int=>if t.1<0 then 0 else zh t k) (λt=>if t.1<0 then 0 else ZW t D) D (bits k) 0 ts (λt _=>by split;omega;have:=zy5 t k D;omega)
 unfold zv Zd;omega
theorem jaj0:zw ts k*D<=Zg ts D*bits k:=by
 have:=jb1 (λt:Int×Int=>if t.1<0 then zh t k else 0) (λt=>if t.1<0 then ZW t D else 0) D (bits k) 0 ts (λt _=>by split;have:=zy5 t k D;omega;omega)
 unfold zw Zg;omega
theorem jah3:zv ts k*D<=Zx ts D*bits k+ts.length*bits k:=
 jb1 (λt:Int×Int=>if t.1<0 then 0 else zh t k) (λt=>if t.1<0 then 0 else qJ t D) D (bits k) (bits k) ts (λt _=>by split;omega;exact zy4 t k D)
theorem jah9:zw ts k*D<=Zf ts D*bits k+ts.length*bits k:=
 jb1 (λt:Int×Int=>if t.1<0 then zh t k else 0) (λt=>if t.1<0 then qJ t D else 0) D (bits k) (bits k) ts (λt _=>by split;exact zy4 t k D;omega)
theorem jah5:Zd ts D*bits k<=Jg ts k*D+ts.length*bits k:=
 jb1 (λt:Int×Int=>if t.1<0 then 0 else ZW t D) (λt=>if t.1<0 then 0 else Jr t k) (bits k) D (bits k) ts (λt _=>by split;omega;exact jaa7 t k D)
theorem jaj1:Zg ts D*bits k<=Jh ts k*D+ts.length*bits k:=
 jb1 (λt:Int×Int=>if t.1<0 then ZW t D else 0) (λt=>if t.1<0 then Jr t k else 0) (bits k) D (bits k) ts (λt _=>by split;exact jaa7 t k D;omega)
end
theorem zy6{a b c d x y:Nat}(h1:a*x<=b*y)(h2:b+1<=c)(h3:c*y<=d*x)(hy:0<y):a<d:=by
 rcases Nat.lt_or_ge a d with h|h
 ·exact h
 ·have e1:=Nat.mul_le_mul_right x h
  have e2:=Nat.mul_le_mul_right y h2
  rw[Nat.add_mul,Nat.one_mul] at e2
  omega
theorem jav2{ts:List (Int×Int)}{k D:Nat}(hD:0<D)(h:jy ts k≠0)(h':Je ts D≠0):Je ts D=jy ts k:=by
 have h0:=Zh k
 unfold jy at h ⊢
 unfold Je at h' ⊢
 by_cases c1:Jh ts k<zv ts k
 ·rw[if_pos c1]
  by_cases d1:Zg ts D<Zx ts D
  ·rw[if_pos d1]
  ·rw[if_neg d1] at h' ⊢
   by_cases d2:Zd ts D<Zf ts D
   ·have:=zy6 (jbk4 ts k D) c1 (jah4 ts k D) hD
    omega
   ·rw[if_neg d2] at h';exact absurd rfl h'
 ·rw[if_neg c1] at h ⊢
  by_cases c2:Jg ts k<zw ts k
  ·rw[if_pos c2]
   have:=zy6 (jbk2 ts k D) c2 (jaj0 ts k D) hD
   rw[if_neg (by omega)] at h' ⊢
   by_cases d2:Zd ts D<Zf ts D
   ·rw[if_pos d2]
   ·rw[if_neg d2] at h';exact absurd rfl h'
  ·rw[if_neg c2] at h;exact absurd rfl h
theorem jag6{ts:List (Int×Int)}{k D:Nat}(h:jy ts k≠0)(hD:2*ts.length*bits k<D):Je ts D≠0:=by
 have h0:=Zh k
 have key:∀ {lo hi LO HI:Nat},hi+1<=lo->lo*D<=LO*bits k+ts.length*bits k->HI*bits k<=hi*D+ts.length*bits k->HI<LO:=by
  intro lo hi LO HI g1 g2 g3
  rcases Nat.lt_or_ge HI LO with h1|h1
  ·exact h1
  ·have e1:=Nat.mul_le_mul_right (bits k) h1
   have e2:=Nat.mul_le_mul_right D g1
   rw[Nat.add_mul,Nat.one_mul] at e2
   have e3:2*ts.length*bits k=ts.length*bits k+ts.length*bits k:=by rw[Nat.mul_assoc,Nat.two_mul]
   omega
 unfold jy at h
 unfold Je
 by_cases c1:Jh ts k<zv ts k
 ·rw[if_pos (key c1 (jah3 ts k D) (jaj1 ts k D))];decide
 ·rw[if_neg c1] at h
  by_cases c2:Jg ts k<zw ts k
  ·have:=key c2 (jah9 ts k D) (jah5 ts k D)
   split
   ·decide
   ·decide
  ·rw[if_neg c2] at h;exact absurd rfl h
theorem jbm7:isq 0=0:=by have:=jf8 0;simpa using this
theorem jba1:ja4 0=0:=by have:=jad2 0;simpa using this
theorem ZE (f:Int×Int->Nat) (hf:∀t,JA t=false->f t=0):∀ts:List (Int×Int),((ts.filter JA).map f).sum=(ts.map f).sum
 | []=>rfl
 | t::ts=>by
  cases h:JA t
  ·rw[List.filter_cons_of_neg (by rw[h];decide),List.map_cons,List.sum_cons,hf t h,Nat.zero_add,ZE f hf ts]
  ·rw[List.filter_cons_of_pos h,List.map_cons,List.map_cons,List.sum_cons,List.sum_cons,ZE f hf ts]
theorem jat1{t:Int×Int}(h:JA t=false):sqT t=0:=by
 have:t.1=0:=by simpa [JA] using h
 unfold sqT;simp[this]
theorem jc3(ts:List (Int×Int))(D:Nat):Je (ts.filter JA) D=Je ts D:=by
 have hl:∀t,JA t=false->qJ t D=0:=λt h=>by unfold qJ;rw[jat1 h,Nat.zero_mul,jbm7]
 have hu:∀t,JA t=false->ZW t D=0:=λt h=>by unfold ZW;rw[jat1 h,Nat.zero_mul,jba1]
 unfold Je Zx Zf Zd Zg
 rw[ZE _ (λt h=>by split;exact hu t h;rfl),ZE _ (λt h=>by split;rfl;exact hl t h),ZE _ (λt h=>by split;rfl;exact hu t h),ZE _ (λt h=>by split;exact hl t h;rfl)]
theorem zt6{ts:List (Int×Int)}{D:Nat}{s:Int}(hD:0<D)(hs:jA ts s)(h:Je ts D≠0):Je ts D=s:=by
 rw[<-jc3] at h ⊢
 rcases hs with⟨h1,_⟩|⟨_,h2,k,h3⟩
 ·rw[h1] at h;exact absurd rfl h
 ·rw[<-h3];exact jav2 hD (by rw[h3];exact h2) h
open Go Go.RowKit
structure DSl where
 A:Option Addr
 c:Nat
 l:List Int
def DSl.v(d:DSl):Value:=.slice d.A d.l.length d.c
structure DOk(W:World)(Y:Nat)(d:DSl)(v m:Nat):Prop where
 row:W.ownsRow Y 3 1 d.v d.l.length (d.l.map (Value.int .i64))
 dig:zD d.l
 val:jj d.l=(v:Int)
 len:d.l.length<=m
theorem jck0{w:World}{base s n:Nat}{e:TypeId}{v:Value}{xs:List Value}(h:w.ownsRow base e s v n xs){p:Addr}(hp:p.block<base)(u:Value):(w.setCell p u).ownsRow base e s v n xs:=by
 obtain⟨hl,h⟩:=h
 refine⟨hl,?_⟩
 rcases h with h|⟨g,cap,cur,rfl,hb,hw,h1,h2,h3,h4⟩
 ·exact .inl h
 ·exact .inr ⟨g,cap,cur,rfl,hb,(Below.heap_setCell w p u g (by omega)).trans hw,h1,h2,h3,h4⟩
theorem DOk.far{W:World}{Y:Nat}{d:DSl}{v m:Nat}(h:DOk W Y d v m){p:Addr}(hp:p.block<Y)(u:Value):DOk (W.setCell p u) Y d v m:=⟨jck0 h.row hp u,h.dig,h.val,h.len⟩
theorem DOk.below{W W':World}{Y:Nat}{d:DSl}{v m:Nat}(h:DOk W Y d v m)(hb:Below W.heap.size W W'):DOk W' Y d v m:=⟨jt3 h.row hb,h.dig,h.val,h.len⟩
theorem DOk.read{W:World}{Y:Nat}{d:DSl}{v m:Nat}(h:DOk W Y d v m):jP W W.heap.size d.A d.l.length d.c d.l:=zd.read h.row
theorem DOk.start(W:World)(Y m:Nat):DOk W Y ⟨none,0,[]⟩ 0 m:=⟨World.ownsRow_nil W Y _ _,zD.nil,rfl,by simp⟩
structure SignS(W:World)(X6 X7 Y:Nat)(ts:List (Int×Int))(D i j m:Nat)(a0 a1 b0 b1:DSl):Prop where
 b6:jh W X6 125 #[a0.v,a1.v]
 b7:jh W X7 125 #[b0.v,b1.v]
 h6:X6<Y
 h7:X7<Y
 hY:Y<=W.heap.size
 ne:X6≠X7
 oa0:DOk W Y a0 (Zx (ts.take i) D) (m+i)
 oa1:DOk W Y a1 (Zf (ts.take i) D) (m+i)
 ob0:DOk W Y b0 (Zd (ts.take j) D) (m+j)
 ob1:DOk W Y b1 (Zg (ts.take j) D) (m+j)
section
variable {W W' : World} {X6 X7 Y D i j m : Nat} {ts : List (Int × Int)} {a0 a1 b0 b1 d : DSl}
theorem SignS.below(h:SignS W X6 X7 Y ts D i j m a0 a1 b0 b1)(hb:Below W.heap.size W W'):SignS W' X6 X7 Y ts D i j m a0 a1 b0 b1:=
 ⟨h.b6.below hb h.b6.lt,h.b7.below hb h.b7.lt,h.h6,h.h7,Nat.le_trans h.hY hb.size,h.ne,h.oa0.below hb,h.oa1.below hb,h.ob0.below hb,h.ob1.below hb⟩
theorem qy(f:Int×Int->Nat)(ts:List (Int×Int)){i:Nat}(hi:i<ts.length):((ts.take (i+1)).map f).sum=((ts.take i).map f).sum+f ts[i]:=by
 rw[List.take_succ_eq_append_getElem hi,QS]
theorem DOk.more{v m':Nat}(h:DOk W Y d v m)(hm:m<=m'):DOk W Y d v m':=⟨h.row,h.dig,h.val,Nat.le_trans h.len hm⟩
theorem SignS.least0 (h:SignS W X6 X7 Y ts D i j m a0 a1 b0 b1) (hi:i<ts.length) (hneg:¬ts[i].1<0) (hd:DOk W Y d (Zx (ts.take i) D+qJ ts[i] D) (m+(i+1))) :
  SignS (W.setCell ⟨X6,0,none⟩ d.v) X6 X7 Y ts D (i+1) j m d a1 b0 b1:=by
 have e1:Zx (ts.take (i+1)) D=Zx (ts.take i) D+qJ ts[i] D:=by unfold Zx;rw[qy _ ts hi,if_neg hneg]
 have e2:Zf (ts.take (i+1)) D=Zf (ts.take i) D:=by unfold Zf;rw[qy _ ts hi,if_neg hneg,Nat.add_zero]
 refine⟨h.b6.set_ 0 d.v,h.b7.far (Ne.symm h.ne) _,h.h6,h.h7,by rw[World.size_setCell];exact h.hY,h.ne,by rw[e1];exact hd.far h.h6 _,by rw[e2];exact(h.oa1.far h.h6 _).more (by omega),h.ob0.far h.h6 _,h.ob1.far h.h6 _⟩
theorem SignS.least1 (h:SignS W X6 X7 Y ts D i j m a0 a1 b0 b1) (hi:i<ts.length) (hneg:ts[i].1<0) (hd:DOk W Y d (Zf (ts.take i) D+qJ ts[i] D) (m+(i+1))) :
  SignS (W.setCell ⟨X6,1,none⟩ d.v) X6 X7 Y ts D (i+1) j m a0 d b0 b1:=by
 have e1:Zx (ts.take (i+1)) D=Zx (ts.take i) D:=by unfold Zx;rw[qy _ ts hi,if_pos hneg,Nat.add_zero]
 have e2:Zf (ts.take (i+1)) D=Zf (ts.take i) D+qJ ts[i] D:=by unfold Zf;rw[qy _ ts hi,if_pos hneg]
 refine⟨h.b6.set_ 1 d.v,h.b7.far (Ne.symm h.ne) _,h.h6,h.h7,by rw[World.size_setCell];exact h.hY,h.ne,by rw[e1];exact(h.oa0.far h.h6 _).more (by omega),by rw[e2];exact hd.far h.h6 _,h.ob0.far h.h6 _,h.ob1.far h.h6 _⟩
theorem SignS.most0 (h:SignS W X6 X7 Y ts D i j m a0 a1 b0 b1) (hi:j<ts.length) (hneg:¬ts[j].1<0) (hd:DOk W Y d (Zd (ts.take j) D+ZW ts[j] D) (m+(j+1))) :
  SignS (W.setCell ⟨X7,0,none⟩ d.v) X6 X7 Y ts D i (j+1) m a0 a1 d b1:=by
 have e1:Zd (ts.take (j+1)) D=Zd (ts.take j) D+ZW ts[j] D:=by unfold Zd;rw[qy _ ts hi,if_neg hneg]
 have e2:Zg (ts.take (j+1)) D=Zg (ts.take j) D:=by unfold Zg;rw[qy _ ts hi,if_neg hneg,Nat.add_zero]
 refine⟨h.b6.far h.ne _,h.b7.set_ 0 d.v,h.h6,h.h7,by rw[World.size_setCell];exact h.hY,h.ne,h.oa0.far h.h7 _,h.oa1.far h.h7 _,by rw[e1];exact hd.far h.h7 _,by rw[e2];exact(h.ob1.far h.h7 _).more (by omega)⟩
theorem SignS.most1 (h:SignS W X6 X7 Y ts D i j m a0 a1 b0 b1) (hi:j<ts.length) (hneg:ts[j].1<0) (hd:DOk W Y d (Zg (ts.take j) D+ZW ts[j] D) (m+(j+1))) :
  SignS (W.setCell ⟨X7,1,none⟩ d.v) X6 X7 Y ts D i (j+1) m a0 a1 b0 d:=by
 have e1:Zd (ts.take (j+1)) D=Zd (ts.take j) D:=by unfold Zd;rw[qy _ ts hi,if_pos hneg,Nat.add_zero]
 have e2:Zg (ts.take (j+1)) D=Zg (ts.take j) D+ZW ts[j] D:=by unfold Zg;rw[qy _ ts hi,if_pos hneg]
 refine⟨h.b6.far h.ne _,h.b7.set_ 1 d.v,h.h6,h.h7,by rw[World.size_setCell];exact h.hY,h.ne,h.oa0.far h.h7 _,h.oa1.far h.h7 _,by rw[e1];exact(h.ob0.far h.h7 _).more (by omega),by rw[e2];exact hd.far h.h7 _⟩
theorem SignS.start {wr W0:World} {X6 X7 Y:Nat} (h:W0=(wr.alloc (.cells #[.slice none 0 0,.slice none 0 0] 125)).alloc (.cells #[.slice none 0 0,.slice none 0 0] 125)) (h6:X6=wr.heap.size) (h7:X7=wr.heap.size+1) (hY:Y=wr.heap.size+2) (ts:List (Int×Int)) (D m:Nat) :
  SignS W0 X6 X7 Y ts D 0 0 m ⟨none,0,[]⟩ ⟨none,0,[]⟩ ⟨none,0,[]⟩ ⟨none,0,[]⟩:=by
 subst h6 h7 hY
 have hz:W0.heap.size=wr.heap.size+2:=by rw[h];simp
 have hn:=DOk.start W0 (wr.heap.size+2) (m+0)
 refine⟨?_,?_,by omega,by omega,by omega,by omega,hn,hn,hn,hn⟩
 ·rw[h];exact(jh.new wr _ _).alloc _
 ·rw[h]
  have h1:=jh.new (wr.alloc (.cells #[.slice none 0 0,.slice none 0 0] 125)) 125 #[.slice none 0 0,.slice none 0 0]
  rw[World.size_alloc] at h1
  exact h1
theorem SignS.all(h:SignS W X6 X7 Y ts D ts.length ts.length m a0 a1 b0 b1):jj a0.l=(Zx ts D:Int)/\jj a1.l=(Zf ts D:Int)/\jj b0.l=(Zd ts D:Int)/\jj b1.l=(Zg ts D:Int):=by
 have h1:=h.oa0.val
 have h2:=h.oa1.val
 have h3:=h.ob0.val
 have h4:=h.ob1.val
 rw[List.take_length] at h1 h2 h3 h4
 exact⟨h1,h2,h3,h4⟩
end
theorem zz9{t:Int×Int}{more:Nat}{R T:Int}(hr:0<=t.2)(h:SqAt (t.1*t.1*t.2*10 ^ (2*more)) R T):R=(qJ t (10 ^ more):Int)/\(if T=0 then R else R+1)=(ZW t (10 ^ more):Int):=by
 have e:(t.1*t.1*t.2*(10:Int) ^ (2*more)).toNat=sqT t*(10 ^ more*10 ^ more):=by
  obtain⟨r,hr'⟩:=Int.eq_ofNat_of_zero_le hr
  have h1:t.1*t.1=((t.1.natAbs*t.1.natAbs:Nat):Int):=by
   rw[Int.natCast_mul];rcases Int.natAbs_eq t.1 with h|h
   ·rw[<-h]
   ·have h2:(t.1.natAbs:Int)=-t.1:=by omega
    rw[h2,Int.neg_mul_neg]
  have h2:(10:Int) ^ (2*more)=((10 ^ more*10 ^ more:Nat):Int):=by
   rw[Nat.two_mul,Int.pow_add];norm_cast
  rw[h1,h2,hr']
  unfold sqT
  rw[hr',<-Int.natCast_mul,<-Int.natCast_mul,Int.toNat_natCast,Int.toNat_natCast]
 have h1:=h.isq
 rw[e] at h1
 exact h1
theorem jbs0{K more l:Nat}(h:5*K+2<=more)(hl:l<=9):2*l*bits K<10 ^ more:=by
 obtain⟨j,rfl⟩:=Nat.exists_eq_add_of_le h
 have h1:bits K<=(10 ^ 5) ^ K:=by unfold bits;exact Nat.pow_le_pow_left (by decide) K
 rw[<-Nat.pow_mul] at h1
 have h2:10 ^ (5*K+2+j)=10 ^ (5*K)*100*10 ^ j:=by rw[Nat.pow_add,Nat.pow_add]
 have h3:1<=10 ^ j:=Nat.pow_pos (by decide)
 have h4:0<10 ^ (5*K):=Nat.pow_pos (by decide)
 rw[h2]
 generalize 10 ^ (5*K)=q at *
 have h5:q*100*1<=q*100*10 ^ j:=Nat.mul_le_mul_left _ h3
 have h6:2*l*bits K<=18*q:=Nat.mul_le_mul (by omega) h1
 omega
def jcd2(xd a b r:Int):Int×List (Int×Int)×Int:=
 if((isq (a*a-b*b*r).toNat*isq (a*a-b*b*r).toNat:Nat):Int)=a*a-b*b*r then
  jY (Jc (Jc [] (a+isq (a*a-b*b*r).toNat) (2*xd) 1) (a-isq (a*a-b*b*r).toNat) (2*xd) (if b<0 then -1 else 1)) (2*xd)
 else(0,[],11)
def zd2(xd:Int)(xt:List (Int×Int)):Int×List (Int×Int)×Int:=
 match xt with
 | [t]=>if t.2=1 then jY (Jc [] t.1 xd 1) xd else(0,[],11)
 | [t,u]=>if t.2=1 then jcd2 xd t.1 u.1 u.2 else(0,[],11)
 | _=>(0,[],11)
def qI(xd:Int)(xt:List (Int×Int))(res:Int×List (Int×Int)×Int):Prop:=
 (js xd xt=false/\res=(0,[],2))\/(js xd xt=true/\∃s,jA xt s/\((s<0/\res=(0,[],3))\/(s=0/\res=(1,[],0))\/(0<s/\res=zd2 xd xt)))
theorem jck4{cb:Int}(h:cb<0)(h2:-100000<=cb):wrap64 (1-wrap64 (2*wrap64 (IntKind.u64.wrap cb/9223372036854775808)))=-1:=by
 have h1:IntKind.u64.wrap cb/9223372036854775808=1:=by
  rw[IntKind.wrap_u64];omega
 rw[h1];unfold wrap64;omega
theorem zv6(ad:Addr):ad.add 0=ad:=by unfold Addr.add;simp
theorem jA.pos_ne{xt:List (Int×Int)}{s:Int}(h:jA xt s)(hs:0<s):xt≠[]:=by
 rintro rfl
 rcases h with⟨_,h⟩|⟨h,_⟩
 ·omega
 ·exact h rfl
theorem jf5{kv:List (Int×Int)}{M num den sign:Int}(h:zB kv M)(hd:1<=den/\den<=200000)(hn:-200000<=num/\num<=200000)(hs:-1<=sign/\sign<=1):zB (Jc kv num den sign) (M+40000000000):=by
 unfold Jc
 split
 ·rename_i hp
  have hm:=jE (a:=num) (b:=den) (A:=200000) (B:=200000) hn ⟨by omega,by omega⟩
  have hm1:(1:Int)*1<=num*den:=Int.mul_le_mul (by omega) (by omega) (by omega) (by omega)
  have hle:=za7 (num*den).toNat (by omega)
  have hmm:=jE (a:=sign) (b:=((jo (num*den).toNat).1:Int)) (A:=1) (B:=40000000000) (by omega) ⟨by omega,by omega⟩
  exact h.addS (by omega) _
 ·exact h.mono (by omega)
theorem QM(kv:List (Int×Int))(num den sign:Int):(Jc kv num den sign).length<=kv.length+1:=by
 unfold Jc
 split
 ·exact jd4 _ _ _
 ·omega
theorem jbg9 {w w5 w6:World} {m n c:Nat} {A:Option Addr} {l:List (Int×Int)} {s1:Int} (ht:w6.ownsRow w5.heap.size 59 2 (.slice A n c) n (jr l)) (hb:Below w.heap.size w w5) (hg:w5.grownBy w6 (some m))
  (hr:jh w5 (w.heap.size+1) 24 #[.int .i64 0,.slice none 0 0]) (hm:w.heap.size+1<m) :
  ((w6.setCell ⟨w.heap.size+1,0,none⟩ (.int .i64 s1)).setCell ⟨w.heap.size+1,1,none⟩ (.slice A n c)).ownsRow w.heap.size 59 2 (.slice A n c) n (jr l) /\
  Below w.heap.size w ((w6.setCell ⟨w.heap.size+1,0,none⟩ (.int .i64 s1)).setCell ⟨w.heap.size+1,1,none⟩ (.slice A n c)) /\
  jh ((w6.setCell ⟨w.heap.size+1,0,none⟩ (.int .i64 s1)).setCell ⟨w.heap.size+1,1,none⟩ (.slice A n c)) (w.heap.size+1) 24 #[.int .i64 s1,.slice A n c]:=by
 have hrl:=hr.lt
 have hbz:=hb.size
 refine⟨jO (ownsRow_setCell_below (ownsRow_setCell_below ht (by show w.heap.size+1<_;omega) _) (by show w.heap.size+1<_;omega) _) hbz,?_,((hr.grown hg (by simp;omega)).set_ 0 _).set_ 1 _⟩
 exact Below.setCell (Below.setCell (hb.grown hg hbz (λ_ e=>by cases e;omega)) (by show _<=w.heap.size+1;omega) _) (by show _<=w.heap.size+1;omega) _
theorem jbr8 (xd:Int) (xA:Option Addr) (xn xc:Nat) (xt:List (Int×Int)) (B:Nat) (w:World) (hx:ji w B xA xn xc xt) (hB:B<=w.heap.size) :
  Calls Tryz.prog 26 #[.agg #[.int .i64 xd,.slice xA xn xc]] w λe w'=>∃res,qI xd xt res/\jV w res e w':=by
 obtain⟨w0,hw0⟩:∃w0,w0=(w.alloc (.cells #[.int .i64 xd,.slice xA xn xc] 24)).alloc (.cells #[.int .i64 0,.slice none 0 0] 24):=⟨_,rfl⟩
 have hz0:w0.heap.size=w.heap.size+2:=by rw[hw0];simp
 have h01:Below w.heap.size w w0:=by rw[hw0];exact((Below.refl _ _).alloc (Nat.le_refl _) _).alloc (by simp) _
 have HX0:Hid (jh w0 w.heap.size 24 #[.int .i64 xd,.slice xA xn xc]):=ja (by rw[hw0];exact(jh.new w _ _).alloc _)
 have HR0:Hid (jh w0 (w.heap.size+1) 24 #[.int .i64 0,.slice none 0 0]):=ja (by
  rw[hw0]
  have h:=jh.new (w.alloc (.cells #[.int .i64 xd,.slice xA xn xc] 24)) 24 #[.int .i64 0,.slice none 0 0]
  rwa [World.size_alloc] at h)
 have HT0:=ja (Rd.below hx (h01.mono hB))
 have hxl:=hx.len
 subst hxl
 have HSG:=ja (za5 xd xA xt.length xc xt B w0 HT0.o (by omega))
 obtain⟨x0,x1,_,_⟩:=HX0.o.two
 have HB0:=ja h01
 clear hx h01
 go_enter Tryz.func26,Tryz.ntmps26
 go_wp2_with fail
 rw[<-hw0]
 clear hw0
 refine HSG.o.mono ?_
 rintro e w1 ⟨s,cd,rfl,hsr,hb1⟩
 have HX1:=ja (HX0.o.below hb1 (by omega))
 have HR1:=ja (HR0.o.below hb1 (by omega))
 have HT1:Hid (ji w1 B xA xt.length xc xt):=ja (Rd.below HT0.o (hb1.mono (by omega)))
 have HB1:=ja (HB0.o.trans (hb1.mono (by omega)))
 have hz1:w.heap.size+2<=w1.heap.size:=by have:=hb1.size;omega
 clear HX0 HR0 HT0 HB0 HSG hb1 hz0 x0 x1
 obtain⟨r0,r1,rf0,rf1⟩:=HR1.o.two
 obtain⟨x0,x1,_,_⟩:=HX1.o.two
 have hpost:∀(W:World) (a:Act) (A:Option Addr) (n c:Nat) (x y:Int) (l:List (Int×Int)),qI xd xt (x,l,y)->W.ownsRow w.heap.size 59 2 (.slice A n c) n (jr l)->Below w.heap.size w W->jh W (w.heap.size+1) 24 #[.int .i64 x,.slice A n c] ->
   a.tmps.getD 2 undef=.pointer (some ⟨w.heap.size+1,0,none⟩)->a.tmps.getD 3 undef=.int .i64 y->a.defers=[] ->
   bodyPost Tryz.prog Tryz.f26 (λe w'=>∃res,qI xd xt res/\jV w res e w') .ret a W:=by
  intro W a A n c x y l e1 e2 e3 e4 e5 e6 e7
  refine jq (p:=2) (u:=3) (ty:=24) rfl e5 e4 Tryz.underlying24 rfl Tryz.sizeNumber e7 ?_
  rw[e6]
  exact⟨(x,l,y),e1,A,n,c,rfl,e2,e3⟩
 have HPOST:=ja hpost
 clear hpost
 have HBS:=ja (λx y=>Below.setCell (Below.setCell HB1.o (p:=⟨w.heap.size+1,0,none⟩) (by simp) x) (p:=⟨w.heap.size+1,1,none⟩) (by simp) y)
 rcases hsr with⟨hok,hs,rfl⟩|⟨hok,rfl,rfl⟩
 ·rcases Int.lt_trichotomy s 0 with hs0|hs0|hs0
  ·have HP:Hid (qI xd xt (0,[],3)):=ja (.inr ⟨hok,s,hs,.inl ⟨hs0,rfl⟩⟩)
   clear hok hs
   go_wp2
   exact HPOST.o _ _ none 0 0 0 3 [] HP.o ⟨rfl,.inl ⟨rfl,rfl⟩⟩ (HBS.o _ _) ((HR1.o.set_ 0 _).set_ 1 _) rfl rfl rfl
  ·subst hs0
   have HP:Hid (qI xd xt (1,[],0)):=ja (.inr ⟨hok,0,hs,.inr (.inl ⟨rfl,rfl⟩)⟩)
   clear hok hs
   go_wp2
   exact HPOST.o _ _ none 0 0 1 0 [] HP.o ⟨rfl,.inl ⟨rfl,rfl⟩⟩ (HBS.o _ _) ((HR1.o.set_ 0 _).set_ 1 _) rfl rfl rfl
  ·have HP:=ja (λ(res:Int×List (Int×Int)×Int) (h:zd2 xd xt=res)=>(show qI xd xt res from .inr ⟨hok,s,hs,.inr (.inr ⟨hs0,h.symm⟩)⟩))
   have hne:=hs.pos_ne hs0
   have hs1:¬s<0:=by omega
   have hs2:(s==0)=false:=beq_eq_false_iff_ne.2 (by omega)
   obtain⟨px1,px2,px3,px4⟩:=jz hok
   have HPX:=ja px4
   clear hok hs px4
   obtain⟨t,ts,rfl⟩:=List.exists_cons_of_ne_nil hne
   clear hne
   obtain⟨ad,had,hc0,hc1⟩:=HT1.o.at_ (i:=0) (by simp)
   subst had
   obtain⟨co,ro⟩:=t
   simp only[Nat.zero_mul,List.getElem_cons_zero,zv6] at hc0 hc1
   have hlen1:((co,ro)::ts).length=ts.length+1:=rfl
   by_cases hr1:ro=1
   ·subst hr1
    have hcb:-100000<=co/\co<=100000:=(HPX.o (co,1) (by simp)).1.2.2.2
    have HM1:Hid (zH (w1.alloc (.map #[] 0)) w1.heap.size []):=ja (jt.new w1)
    have HXm:=ja (HX1.o.alloc (.map #[] 0))
    have HRm:=ja (HR1.o.alloc (.map #[] 0))
    have HBm:=ja (HB1.o.alloc HB1.o.size (.map #[] 0))
    have HTm:=ja (Rd.alloc HT1.o (by omega) (.map #[] 0))
    have hxm:∀o,(w1.alloc o).cell? ⟨w.heap.size,0,none⟩=some (.int .i64 xd):=λo=>(HX1.o.alloc o).cell 0
    have hxm1:∀o,(w1.alloc o).cell? ⟨w.heap.size,1,none⟩=some (.slice (some ad) ((co,1)::ts).length xc):=λo=>(HX1.o.alloc o).cell 1
    rcases ts with _|⟨u,_|⟨v,vs⟩⟩
    ·have hl1:([(co,(1:Int))]:List (Int×Int)).length=1:=rfl
     have hP1:zd2 xd [(co,1)]=jY (Jc [] co xd 1) xd:=by unfold zd2;simp
     have hib:=jf5 (num:=co) (den:=xd) (sign:=1) zB.nil (by omega) (by omega) (by omega)
     have hil:=QM [] co xd 1
     have HIN:=ja (jf6 w1.heap.size [] co xd 1 (w1.alloc (.map #[] 0)) HM1.o (by omega) (by omega) (by omega) (λr=>by have:=zB.nil r;omega))
     have HOV:=ja (λW h=>QO w1.heap.size (Jc [] co xd 1) xd 40000000000 W h (by simp at hil;omega) (by omega) (by omega) (hib.mono (by omega)) (by omega))
     clear hib hil
     generalize Jc [] co xd 1=kv1 at *
     generalize hsv:jY kv1 xd=sv at *
     obtain⟨s1,s2,s3⟩:=sv
     have HSV:=ja (HP.o (s1,s2,s3) hP1)
     clear hsv hP1 HP HPX
     go_wp2_with (first
      | (refine zi _ rfl _ rfl ?_)
      | (go_at_call 65;refine HIN.o.mono ?_;rintro e w3 ⟨rfl,hm3,hg3⟩
         have HX3:=ja (HXm.o.grown hg3 (by simp;omega));have HR3:=ja (HRm.o.grown hg3 (by simp;omega));have HB3:=ja (HBm.o.grown hg3 (by simp;omega) (λ_ e=>by cases e;omega))
         have HOV3:=ja (HOV.o w3 hm3)
         obtain⟨c30,c31,_,_⟩:=HX3.o.two
         have hz3:w1.heap.size+1<=w3.heap.size:=by have:=hg3.size;simpa using this
         clear hm3 hg3)
      | (go_at_call 64;refine HOV3.o.mono ?_;rintro e w4 ⟨A4,n4,c4,rfl,ht4,hg4⟩
         obtain⟨q1,q2,q3,q4⟩:=(HR3.o.grown hg4 (by simp;omega)).two
         have HG4:=ja hg4;have HT4:=ja ht4;clear hg4 ht4))
     have hw4:=HG4.o.size
     exact HPOST.o _ _ A4 n4 c4 s1 s3 s2 HSV.o (jO (ownsRow_setCell_below (ownsRow_setCell_below HT4.o (by show w.heap.size+1<_;omega) _) (by show w.heap.size+1<_;omega) _) (by omega))
      (Below.setCell (Below.setCell (HB3.o.grown HG4.o (by omega) (λ_ e=>by cases e;omega)) (by show _<=w.heap.size+1;omega) _) (by show _<=w.heap.size+1;omega) _) (((HR3.o.grown HG4.o (by simp;omega)).set_ 0 _).set_ 1 _) rfl rfl rfl
    ·have hub:=(HPX.o u (by simp)).1
     have hl2:(((co,(1:Int))::u::[]).length:Int)=2:=rfl
     have hP2:zd2 xd [(co,1),u]=jcd2 xd co u.1 u.2:=by unfold zd2;simp
     obtain⟨wm,hwm⟩:∃wm,wm=w1.alloc (.map #[] 0):=⟨_,rfl⟩
     rw[<-hwm] at HM1 HXm HRm HBm HTm
     have hzm:wm.heap.size=w1.heap.size+1:=by rw[hwm];simp
     have HTM:Hid (ji wm B (some ad) ((co,(1:Int))::u::[]).length xc ((co,1)::u::[])):=HTm
     obtain⟨ad2,had2,hd0,hd1⟩:=HTM.o.at_ (i:=1) (by simp)
     injection had2 with had2
     subst had2
     simp only[List.getElem_cons_succ,List.getElem_cons_zero,Nat.one_mul] at hd0 hd1
     rw[show ad.add 2=⟨ad.block,ad.off+2,none⟩ by unfold Addr.add;simp] at hd0 hd1
     dsimp only at hd0 hd1
     obtain⟨cb,rb⟩:=u
     have hbb:-100000<=cb/\cb<=100000:=hub.2.2.2
     have hrb:1<=rb/\rb<=1000:=⟨hub.1,hub.2.1⟩
     dsimp only at hd0 hd1 hP2
     have m1:=jE hcb hcb
     have m2:=jE hbb hbb
     have m3:=jE m2 (b:=rb) (B:=1000) ⟨by omega,by omega⟩
     have m4:0<=cb*cb*rb:=Int.mul_nonneg (by rcases Int.le_total 0 cb with h|h;exact Int.mul_nonneg h h;exact Int.mul_nonneg_of_nonpos_of_nonpos h h) (by omega)
     unfold jcd2 at hP2
     obtain⟨sq,hsq⟩:∃sq,co*co-cb*cb*rb=sq:=⟨_,rfl⟩
     have hsb:-20000000000000<=sq/\sq<=10000000000:=by omega
     rw[hsq] at hP2
     have hp1:-9000000000000000000<=co*co/\co*co<=9000000000000000000:=by omega
     have hp2:-9000000000000000000<=cb*cb/\cb*cb<=9000000000000000000:=by omega
     have hp3:-9000000000000000000<=cb*cb*rb/\cb*cb*rb<=9000000000000000000:=by omega
     have hmx:max sq 0=((sq.toNat:Nat):Int):=by omega
     have HWH:=ja (λW=>jbt8 sq.toNat W (by omega))
     have hiw:=qB sq.toNat
     have hwl:isq sq.toNat<=100000:=by
      rcases Nat.lt_or_ge 100000 (isq sq.toNat)with h|h
      ·have:=Nat.mul_le_mul h h;omega
      ·exact h
     have hww:=Nat.mul_le_mul hwl hwl
     have hcw:((isq sq.toNat:Nat):Int)*((isq sq.toNat:Nat):Int)=((isq sq.toNat*isq sq.toNat:Nat):Int):=(Int.natCast_mul _ _).symm
     obtain⟨wa,hwa⟩:∃wa,wa=wm.alloc (.cells #[.int .i64 cb,.int .i64 rb] 59):=⟨_,rfl⟩
     have hza:wa.heap.size=w1.heap.size+2:=by rw[hwa];simp;omega
     have hba:Below wm.heap.size wm wa:=by rw[hwa];exact(Below.refl _ _).alloc (Nat.le_refl _) _
     have HTa:Hid (jh wa (w1.heap.size+1) 59 #[.int .i64 cb,.int .i64 rb]):=ja (by rw[hwa,<-hzm];exact jh.new _ _ _)
     have HMa:Hid (zH wa w1.heap.size []):=ja (jt.below HM1.o hba (by omega))
     have HXa:=ja (HXm.o.below hba (by omega))
     have HRa:=ja (HRm.o.below hba (by omega))
     have HBa:=ja (HBm.o.trans (hba.mono (by omega)))
     have hX2:=ja (λq=>(HXa.o.drewN q).two)
     have hT2:=ja (λq=>(HTa.o.drewN q).two)
     clear hub m1 m2 m3 m4 HXm HRm HBm HTm HTM HM1 hba hiw HPX
     generalize isq sq.toNat=rw at *
     subst hwa
     subst hwm
     by_cases hneg:sq<0
     ·have hm0:sq.toNat=0:=by omega
      rw[hm0] at HWH
      have hc:¬((rw*rw:Nat):Int)=sq:=by omega
      rw[if_neg hc] at hP2
      have HPE:=ja (HP.o _ hP2)
      have hcn:(((rw*rw:Nat):Int) !=sq)=true:=by simpa using hc
      have HRz:=ja (λq=>HRa.o.drewN q)
      have HBz:=ja (λq=>jp HBa.o q)
      have hr4:=ja (λq=>(HRa.o.drewN q).two)
      generalize rw*rw=rr at *
      clear HP hP2 hc HMa HXa hX2
      go_wp2_with (first
       | (refine zi _ rfl _ rfl ?_)
       | (go_at_call 66;refine(HWH.o _).mono ?_;rintro e w3 ⟨rfl,q,rfl⟩;obtain⟨z1,z2,z3,z4⟩:=hr4.o q))
      exact HPOST.o _ _ none 0 0 0 11 [] HPE.o ⟨rfl,.inl ⟨rfl,rfl⟩⟩ (Below.setCell (Below.setCell (HBz.o q) (p:=⟨w.heap.size+1,0,none⟩) (by simp) _) (p:=⟨w.heap.size+1,1,none⟩) (by simp) _) (((HRz.o q).set_ 0 _).set_ 1 _) rfl rfl rfl
     ·obtain⟨m,rfl⟩:=Int.eq_ofNat_of_zero_le (show 0<=sq by omega)
      rw[Int.toNat_natCast] at HWH
      have hm0:¬((m:Int)<0):=by omega
      by_cases hc:((rw*rw:Nat):Int)=(m:Int)
      ·rw[if_pos hc] at hP2
       have hne:(((rw*rw:Nat):Int) != (m:Int))=false:=by simpa using hc
       have hxx:2<=2*xd/\2*xd<=200000:=by omega
       by_cases hcb0:cb<0
       ·rw[if_pos hcb0] at hP2
        have hsg:=jck4 hcb0 (by omega)
        have hib1:=jf5 (num:=co+rw) (den:=2*xd) (sign:=1) zB.nil (by omega) (by omega) (by omega)
        have hil1:=QM [] (co+rw) (2*xd) 1
        have hib2:=jf5 (num:=co-rw) (den:=2*xd) (sign:=(-1)) hib1 (by omega) (by omega) (by omega)
        have hil2:=QM (Jc [] (co+rw) (2*xd) 1) (co-rw) (2*xd) (-1)
        have HIN1:=ja (λW h=>jf6 w1.heap.size [] (co+rw) (2*xd) 1 W h (by omega) (by omega) (by omega) (λr=>by have:=zB.nil r;omega))
        have HIN2:=ja (λW h=>jf6 w1.heap.size (Jc [] (co+rw) (2*xd) 1) (co-rw) (2*xd) (-1) W h (by omega) (by omega) (by omega) (λr=>by have:=hib1 r;omega))
        have HOV:=ja (λW h=>QO w1.heap.size (Jc (Jc [] (co+rw) (2*xd) 1) (co-rw) (2*xd) (-1)) (2*xd) 80000000000 W h (by simp at hil1;omega) (by omega) (by omega) (hib2.mono (by omega)) (by omega))
        clear hib1 hil1 hib2 hil2
        generalize Jc (Jc [] (co+rw) (2*xd) 1) (co-rw) (2*xd) (-1)=kv2 at *
        generalize Jc [] (co+rw) (2*xd) 1=kv1 at *
        generalize hsv:jY kv2 (2*xd)=sv at *
        obtain⟨s1,s2,s3⟩:=sv
        have HSV:=ja (HP.o (s1,s2,s3) hP2)
        clear hsv hP2 HP
        go_wp2_with (first
         | (refine zi _ rfl _ rfl ?_)
         | (go_at_call 66;refine(HWH.o _).mono ?_;rintro e w3 ⟨rfl,q,rfl⟩
            have HM3:Hid (zH ((((w1.alloc (.map #[] 0)).alloc (.cells #[.int .i64 cb,.int .i64 rb] 59))).drewN q) w1.heap.size []):=ja HMa.o
            have HX3:=ja (HXa.o.drewN q);have HT3:=ja (HTa.o.drewN q);have HR3:=ja (HRa.o.drewN q);have HB3:=ja (jp HBa.o q)
            have hz3:w1.heap.size+2<=((((w1.alloc (.map #[] 0)).alloc (.cells #[.int .i64 cb,.int .i64 rb] 59))).drewN q).heap.size:=by simp
            generalize (((w1.alloc (.map #[] 0)).alloc (.cells #[.int .i64 cb,.int .i64 rb] 59))).drewN q=W3 at *
            have HI3:=ja (HIN1.o W3 HM3.o)
            obtain⟨c30,c31,_,_⟩:=HX3.o.two
            obtain⟨c32,c33,_,_⟩:=HT3.o.two)
         | (go_at_call_of 65 (co+(rw:Int));refine HI3.o.mono ?_;rintro e w4 ⟨rfl,hm4,hg4⟩
            have HX4:=ja (HX3.o.grown hg4 (by simp;omega));have HT4:=ja (HT3.o.grown hg4 (by simp));have HR4:=ja (HR3.o.grown hg4 (by simp;omega));have HB4:=ja (HB3.o.grown hg4 HB3.o.size (λ_ e=>by cases e;omega))
            have hz4:=hg4.size
            have HI4:=ja (HIN2.o w4 hm4)
            obtain⟨c40,c41,_,_⟩:=HX4.o.two
            obtain⟨c42,c43,_,_⟩:=HT4.o.two
            clear hm4 hg4)
         | (go_at_call_of 65 (co-(rw:Int));refine HI4.o.mono ?_;rintro e w5 ⟨rfl,hm5,hg5⟩
            have HX5:=ja (HX4.o.grown hg5 (by simp;omega));have HR5:=ja (HR4.o.grown hg5 (by simp;omega));have HB5:=ja (HB4.o.grown hg5 HB4.o.size (λ_ e=>by cases e;omega))
            have hz5:=hg5.size
            have HO5:=ja (HOV.o w5 hm5)
            obtain⟨c50,c51,_,_⟩:=HX5.o.two
            clear hm5 hg5)
         | (go_at_call 64;refine HO5.o.mono ?_;rintro e w6 ⟨A4,n4,c4,rfl,ht6,hg6⟩
            obtain⟨q1,q2,q3,q4⟩:=(HR5.o.grown hg6 (by simp;omega)).two
            have HG6:=ja hg6;have HT6:=ja ht6;clear hg6 ht6))
        have hfin:=jbg9 (s1:=s1) HT6.o HB5.o HG6.o HR5.o (by omega)
        exact HPOST.o _ _ A4 n4 c4 s1 s3 s2 HSV.o hfin.1 hfin.2.1 hfin.2.2 rfl rfl rfl
       ·rw[if_neg hcb0] at hP2
        have hcb1:0<=cb:=by omega
        have hsg:1-2*(cb/9223372036854775808)=1:=by omega
        have hib1:=jf5 (num:=co+rw) (den:=2*xd) (sign:=1) zB.nil (by omega) (by omega) (by omega)
        have hil1:=QM [] (co+rw) (2*xd) 1
        have hib2:=jf5 (num:=co-rw) (den:=2*xd) (sign:=1) hib1 (by omega) (by omega) (by omega)
        have hil2:=QM (Jc [] (co+rw) (2*xd) 1) (co-rw) (2*xd) 1
        have HIN1:=ja (λW h=>jf6 w1.heap.size [] (co+rw) (2*xd) 1 W h (by omega) (by omega) (by omega) (λr=>by have:=zB.nil r;omega))
        have HIN2:=ja (λW h=>jf6 w1.heap.size (Jc [] (co+rw) (2*xd) 1) (co-rw) (2*xd) 1 W h (by omega) (by omega) (by omega) (λr=>by have:=hib1 r;omega))
        have HOV:=ja (λW h=>QO w1.heap.size (Jc (Jc [] (co+rw) (2*xd) 1) (co-rw) (2*xd) 1) (2*xd) 80000000000 W h (by simp at hil1;omega) (by omega) (by omega) (hib2.mono (by omega)) (by omega))
        clear hib1 hil1 hib2 hil2
        generalize Jc (Jc [] (co+rw) (2*xd) 1) (co-rw) (2*xd) 1=kv2 at *
        generalize Jc [] (co+rw) (2*xd) 1=kv1 at *
        generalize hsv:jY kv2 (2*xd)=sv at *
        obtain⟨s1,s2,s3⟩:=sv
        have HSV:=ja (HP.o (s1,s2,s3) hP2)
        clear hsv hP2 HP
        go_wp2_with (first
         | (refine zi _ rfl _ rfl ?_)
         | (go_at_call 66;refine(HWH.o _).mono ?_;rintro e w3 ⟨rfl,q,rfl⟩
            have HM3:Hid (zH ((((w1.alloc (.map #[] 0)).alloc (.cells #[.int .i64 cb,.int .i64 rb] 59))).drewN q) w1.heap.size []):=ja HMa.o
            have HX3:=ja (HXa.o.drewN q);have HT3:=ja (HTa.o.drewN q);have HR3:=ja (HRa.o.drewN q);have HB3:=ja (jp HBa.o q)
            have hz3:w1.heap.size+2<=((((w1.alloc (.map #[] 0)).alloc (.cells #[.int .i64 cb,.int .i64 rb] 59))).drewN q).heap.size:=by simp
            generalize (((w1.alloc (.map #[] 0)).alloc (.cells #[.int .i64 cb,.int .i64 rb] 59))).drewN q=W3 at *
            have HI3:=ja (HIN1.o W3 HM3.o)
            obtain⟨c30,c31,_,_⟩:=HX3.o.two
            obtain⟨c32,c33,_,_⟩:=HT3.o.two)
         | (go_at_call_of 65 (co+(rw:Int));refine HI3.o.mono ?_;rintro e w4 ⟨rfl,hm4,hg4⟩
            have HX4:=ja (HX3.o.grown hg4 (by simp;omega));have HT4:=ja (HT3.o.grown hg4 (by simp));have HR4:=ja (HR3.o.grown hg4 (by simp;omega));have HB4:=ja (HB3.o.grown hg4 HB3.o.size (λ_ e=>by cases e;omega))
            have hz4:=hg4.size
            have HI4:=ja (HIN2.o w4 hm4)
            obtain⟨c40,c41,_,_⟩:=HX4.o.two
            obtain⟨c42,c43,_,_⟩:=HT4.o.two
            clear hm4 hg4)
         | (go_at_call_of 65 (co-(rw:Int));refine HI4.o.mono ?_;rintro e w5 ⟨rfl,hm5,hg5⟩
            have HX5:=ja (HX4.o.grown hg5 (by simp;omega));have HR5:=ja (HR4.o.grown hg5 (by simp;omega));have HB5:=ja (HB4.o.grown hg5 HB4.o.size (λ_ e=>by cases e;omega))
            have hz5:=hg5.size
            have HO5:=ja (HOV.o w5 hm5)
            obtain⟨c50,c51,_,_⟩:=HX5.o.two
            clear hm5 hg5)
         | (go_at_call 64;refine HO5.o.mono ?_;rintro e w6 ⟨A4,n4,c4,rfl,ht6,hg6⟩
            obtain⟨q1,q2,q3,q4⟩:=(HR5.o.grown hg6 (by simp;omega)).two
            have HG6:=ja hg6;have HT6:=ja ht6;clear hg6 ht6))
        have hfin:=jbg9 (s1:=s1) HT6.o HB5.o HG6.o HR5.o (by omega)
        exact HPOST.o _ _ A4 n4 c4 s1 s3 s2 HSV.o hfin.1 hfin.2.1 hfin.2.2 rfl rfl rfl
      ·rw[if_neg hc] at hP2
       have HPE:=ja (HP.o _ hP2)
       have hcn:(((rw*rw:Nat):Int) != (m:Int))=true:=by simpa using hc
       have HRz:=ja (λq=>HRa.o.drewN q)
       have HBz:=ja (λq=>jp HBa.o q)
       have hr4:=ja (λq=>(HRa.o.drewN q).two)
       generalize rw*rw=rr at *
       clear HP hP2 hc HMa HXa hX2
       go_wp2_with (first
        | (refine zi _ rfl _ rfl ?_)
        | (go_at_call 66;refine(HWH.o _).mono ?_;rintro e w3 ⟨rfl,q,rfl⟩;obtain⟨z1,z2,z3,z4⟩:=hr4.o q))
       exact HPOST.o _ _ none 0 0 0 11 [] HPE.o ⟨rfl,.inl ⟨rfl,rfl⟩⟩ (Below.setCell (Below.setCell (HBz.o q) (p:=⟨w.heap.size+1,0,none⟩) (by simp) _) (p:=⟨w.heap.size+1,1,none⟩) (by simp) _) (((HRz.o q).set_ 0 _).set_ 1 _) rfl rfl rfl
    ·have HPE:=ja (HP.o (0,[],11) rfl)
     have hl3:(2:Int)<(((co,(1:Int))::u::v::vs).length:Int):=by simp;omega
     clear HP
     generalize ((co,(1:Int))::u::v::vs).length=len at *
     go_wp2
     exact HPOST.o _ _ none 0 0 0 11 [] HPE.o ⟨rfl,.inl ⟨rfl,rfl⟩⟩ (HBS.o _ _) ((HR1.o.set_ 0 _).set_ 1 _) rfl rfl rfl
   ·have hrn:(ro !=1)=true:=by simpa using hr1
    have HPE:=ja (HP.o (0,[],11) (by
     unfold zd2
     match ts with
     | []=>exact if_neg hr1
     | [u]=>exact if_neg hr1
     | _::_::_=>rfl))
    clear HP
    go_wp2
    exact HPOST.o _ _ none 0 0 0 11 [] HPE.o ⟨rfl,.inl ⟨rfl,rfl⟩⟩ (HBS.o _ _) ((HR1.o.set_ 0 _).set_ 1 _) rfl rfl rfl
 ·have HP:Hid (qI xd xt (0,[],2)):=ja (.inl ⟨hok,rfl⟩)
  clear hok
  go_wp2
  exact HPOST.o _ _ none 0 0 0 2 [] HP.o ⟨rfl,.inl ⟨rfl,rfl⟩⟩ (HBS.o _ _) ((HR1.o.set_ 0 _).set_ 1 _) rfl rfl rfl
