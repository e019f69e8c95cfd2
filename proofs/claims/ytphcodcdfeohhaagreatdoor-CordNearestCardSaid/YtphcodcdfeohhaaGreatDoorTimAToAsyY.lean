import Derived.Test.YtphcodcdfeohhaaGreatDoorIdxPToRefA
import Derived.Test.YtphcodcdfeohhaaGreatDoorAsyToAsyW
import Derived.Test.YtphcodcdfeohhaaGreatDoorQuoB
import Derived.Test.YtphcodcdfeohhaaGreatDoorMakeA
import Derived.Test.YtphcodcdfeohhaaGreatDoorCom
import Derived.Test.YtphcodcdfeohhaaGreatDoorSignDToOrdA
import Derived.Test.YtphcodcdfeohhaaGreatDoorOrdBToSgn
import Derived.Test.YtphcodcdfeohhaaGreatDoorRootB
set_option linter.unusedVariables false
set_option linter.unusedSimpArgs false
namespace Go.Proofs.YtphcodcdfeohhaaGreatDoor
theorem jy0.mul{x y:Nat}(hx:jy0 x)(hy:jy0 y)(hc:Nat.Coprime x y)(hx0:1<=x)(hy0:1<=y):jy0 (x*y):=by
 intro e he hd
 have h1:e∣x*y:=Nat.dvd_trans (Nat.dvd_mul_right e e) hd
 have h2:Nat.gcd e (x*y)=Nat.gcd e x*Nat.gcd e y:=Nat.Coprime.gcd_mul e hc
 rw[Nat.gcd_eq_left h1] at h2
 have hdx:1<=Nat.gcd e x:=Nat.gcd_pos_of_pos_right _ hx0
 have hdy:1<=Nat.gcd e y:=Nat.gcd_pos_of_pos_right _ hy0
 have k1:Nat.gcd e x*Nat.gcd e x∣x:=by
  have c1:Nat.Coprime (Nat.gcd e x) y:=Nat.Coprime.coprime_dvd_left (Nat.gcd_dvd_right e x) hc
  refine Nat.Coprime.dvd_of_dvd_mul_right (Nat.Coprime.mul_left c1 c1) (Nat.dvd_trans ?_ hd)
  exact Nat.mul_dvd_mul (Nat.gcd_dvd_left e x) (Nat.gcd_dvd_left e x)
 have k2:Nat.gcd e y*Nat.gcd e y∣y:=by
  have c1:Nat.Coprime (Nat.gcd e y) x:=Nat.Coprime.coprime_dvd_left (Nat.gcd_dvd_right e y) hc.symm
  refine Nat.Coprime.dvd_of_dvd_mul_left (Nat.Coprime.mul_left c1 c1) (Nat.dvd_trans ?_ hd)
  exact Nat.mul_dvd_mul (Nat.gcd_dvd_left e y) (Nat.gcd_dvd_left e y)
 have j1:Nat.gcd e x<2:=by
  rcases Nat.lt_or_ge (Nat.gcd e x) 2 with k|k
  ·exact k
  ·exact absurd k1 (hx _ k)
 have j2:Nat.gcd e y<2:=by
  rcases Nat.lt_or_ge (Nat.gcd e y) 2 with k|k
  ·exact k
  ·exact absurd k2 (hy _ k)
 have e1:Nat.gcd e x=1:=by omega
 have e2:Nat.gcd e y=1:=by omega
 rw[e1,e2] at h2
 omega
theorem jad0(kv:List (Int×Int))(c n r:Int):jc3 (addRoot kv c n) r=jc3 kv r+(if 0<n then(if r=((ja5 n.toNat).2:Int)then c*((ja5 n.toNat).1:Int)else 0)else 0):=by
 unfold addRoot
 split
 ·rw[zv4]
 ·omega
open Go.RowKit
def jb2(c:Int):List (Int×Int):=if c=0 then [] else [(c,1)]
theorem jaj9:jb2 0=[]:=rfl
theorem zj4{c:Int}(h:c≠0):jb2 c=[(c,1)]:=if_neg h
theorem jcn1:ja5 1=(1,1):=by decide +kernel
def jr2(v den:Int):Int:=(jf2 [den,v]:Int)
def jbf5(v den:Int):Int×List (Int×Int)×Int:=
 if 100000<den.tdiv (jr2 v den)\/inB (v.tdiv (jr2 v den)) (-100000) 100000=false then(0,[],10)else(den.tdiv (jr2 v den),jb2 (v.tdiv (jr2 v den)),0)
theorem zc1(a b:Int):jf2 [a,b]=Nat.gcd a.natAbs b.natAbs:=by
 unfold jf2
 simp
theorem jbs8(a:Int):jf2 [a]=a.natAbs:=by
 unfold jf2
 simp
theorem jbs9{v den:Int}(h:0<den):0<jr2 v den:=by
 have:=zr3 (l:=[den,v]) (x:=den) (by simp) (by omega)
 unfold jr2
 omega
theorem jdc5(v den:Int):jr2 v den∣v/\jr2 v den∣den:=by
 unfold jr2
 rw[zc1]
 exact⟨Int.ofNat_dvd_left.2 (Nat.gcd_dvd_right _ _),Int.ofNat_dvd_left.2 (Nat.gcd_dvd_left _ _)⟩
theorem jan2{v den d c:Int}(hden:0<den)(hd:0<d)(hg:jf2 [d,c]=1)(h:c*den=v*d):den.tdiv (jr2 v den)=d/\v.tdiv (jr2 v den)=c:=by
 rw[zc1] at hg
 have h1:d.natAbs∣c.natAbs*den.natAbs:=by
  rw[<-Int.natAbs_mul,h,Int.natAbs_mul]
  exact Nat.dvd_mul_left _ _
 have h2:d.natAbs∣den.natAbs:=Nat.Coprime.dvd_of_dvd_mul_left hg h1
 obtain⟨k,rfl⟩:=Int.natAbs_dvd_natAbs.1 h2
 have hv:v=c*k:=by
  have h3:v*d=(c*k)*d:=by rw[<-h,Int.mul_comm d k,Int.mul_assoc]
  exact Int.eq_of_mul_eq_mul_right (by omega) h3
 subst hv
 have hk:0<k:=by
  rcases Int.lt_or_le 0 k with hk|hk
  ·exact hk
  ·have:=Int.mul_le_mul_of_nonneg_left hk (Int.le_of_lt hd)
   rw[Int.mul_zero] at this;omega
 have hG:jr2 (c*k) (d*k)=k:=by
  unfold jr2
  rw[zc1,Int.natAbs_mul,Int.natAbs_mul,Nat.gcd_mul_right,hg,Nat.one_mul]
  omega
 rw[hG]
 exact⟨Int.mul_tdiv_cancel _ (by omega),Int.mul_tdiv_cancel _ (by omega)⟩
theorem jaa6{v den:Int}(hden:0<den):0<den.tdiv (jr2 v den)/\jf2 [den.tdiv (jr2 v den),v.tdiv (jr2 v den)]=1/\v.tdiv (jr2 v den)*den=v*den.tdiv (jr2 v den)/\(v.tdiv (jr2 v den)=0↔v=0) /\
  den.tdiv (jr2 v den)<=den/\(v.tdiv (jr2 v den)).natAbs<=v.natAbs:=by
 have hp:=jbs9 (v:=v) hden
 obtain⟨⟨c,hc⟩,⟨d,hd⟩⟩:=jdc5 v den
 have hG:jr2 v den=(Nat.gcd den.natAbs v.natAbs:Nat):=by unfold jr2;rw[zc1]
 generalize hg:jr2 v den=g at *
 have e1:den.tdiv g=d:=by rw[hd,Int.mul_comm];exact Int.mul_tdiv_cancel _ (by omega)
 have e2:v.tdiv g=c:=by rw[hc,Int.mul_comm];exact Int.mul_tdiv_cancel _ (by omega)
 rw[e1,e2]
 have hd0:0<d:=by
  rcases Int.lt_or_le 0 d with h|h
  ·exact h
  ·have:=Int.mul_le_mul_of_nonneg_left h (Int.le_of_lt hp)
   rw[Int.mul_zero] at this;omega
 refine⟨hd0,?_,?_,?_,?_,?_⟩
 ·rw[zc1]
  have h1:Nat.gcd den.natAbs v.natAbs=g.natAbs*Nat.gcd d.natAbs c.natAbs:=by rw[hd,hc,Int.natAbs_mul,Int.natAbs_mul,Nat.gcd_mul_left]
  have h2:g.natAbs=g.natAbs*Nat.gcd d.natAbs c.natAbs:=by rw[<-h1];omega
  exact Nat.eq_of_mul_eq_mul_left (show 0<g.natAbs by omega) (by omega)
 ·rw[hd,hc,<-Int.mul_assoc,Int.mul_comm c g]
 ·constructor
  ·intro h;rw[hc,h,Int.mul_zero]
  ·intro h
   rw[hc] at h
   rcases Int.mul_eq_zero.1 h with h|h
   ·omega
   ·exact h
 ·rw[hd]
  have:=Int.mul_le_mul_of_nonneg_right (show 1<=g by omega) (Int.le_of_lt hd0)
  omega
 ·rw[hc,Int.natAbs_mul]
  exact Nat.le_mul_of_pos_left _ (by omega)
theorem jdg3{v den:Int}(hden:0<den):jf4 [(1,v)] den=jbf5 v den:=by
 have hG:jf3 [(1,v)] den=jr2 v den:=by
  rw[jdg0,if_neg (by omega)];rfl
 obtain⟨h1,_,_,h4,_,_⟩:=jaa6 (v:=v) hden
 have hT:za8 [(1,v)] den=jb2 (v.tdiv (jr2 v den)):=by
  unfold za8
  rw[hG]
  by_cases hv:v=0
  ·subst hv
   rw[Int.zero_tdiv,jaj9]
   exact jan9 _ (fun p hp=>by rw[List.mem_singleton.1 hp])
  ·have h5:=jca3 (xs:=[]) (ys:=[]) (r:=1) (c:=v) (jr2 v den) (by simp) hv (fun p hp=>by simp at hp)
   have h6:jh0 (([]++(1,0)::[]:List (Int×Int)).filter nz) (jr2 v den)=[]:=jan9 _ (fun p hp=>by
    have:=List.mem_singleton.1 (by simpa using hp);rw[this])
   rw[h6] at h5
   rw[zj4 (fun h=>hv (h4.1 h))]
   simpa using h5
 unfold jf4 jbf5
 rw[hT,hG]
 have hlen:¬4<(jb2 (v.tdiv (jr2 v den))).length:=by unfold jb2;split<;>simp
 rw[if_neg hlen]
 by_cases hc:v.tdiv (jr2 v den)=0
 ·rw[hc,jaj9]
  simp[inB]
 ·rw[zj4 hc]
  simp[jp3]
theorem zb6{d c:Int}:ja7 d (jb2 c)=true↔(1<=d/\d<=100000)/\(-100000<=c/\c<=100000)/\jf2 [d,c]=1:=by
 by_cases hc:c=0
 ·subst hc
  rw[jaj9,zc1]
  unfold ja7
  rw[List.map_nil,jbs8]
  simp[inB,jt3]
 ·rw[zj4 hc]
  unfold ja7
  simp[inB,jt3,okT,jcn1,hc]
  exact and_assoc
theorem jct0{num D:Int}(hn:0<=num/\num<=100000)(hD:1<=D/\D<=100000):zs5 D [(num,1)]=jbf5 num D/\(jbf5 num D).2.2=0:=by
 have e:jb0 [] [(num,1)] 1=[(1,num)]:=by
  show addRoot [] (num*1) 1=_
  unfold addRoot
  rw[if_pos (by decide),show(1:Int).toNat=1 from rfl,jcn1]
  simp[addS]
 constructor
 ·unfold zs5
  rw[if_neg (by simp),if_neg,e]
  ·exact jdg3 (by omega)
  ·rintro(h|h)
   ·rw[show inB D 1 100000=true by simpa [inB] using hD] at h;cases h
   ·rw[List.any_cons,List.any_nil,Bool.or_false] at h
    have:badT (num,1)=false:=by
     unfold badT
     rw[show inB num (-100000) 100000=true by simp[inB];omega]
     show(!true || !inB 1 0 1000)=false
     decide
    rw[this] at h;cases h
 ·obtain⟨h1,_,_,_,h5,h6⟩:=jaa6 (v:=num) (den:=D) (by omega)
  unfold jbf5
  rw[if_neg]
  rintro(h|h)
  ·omega
  ·rw[show inB (num.tdiv (jr2 num D)) (-100000) 100000=true by simp[inB];omega] at h;cases h
theorem zj3{d c:Int}(h:ja7 d (jb2 c)=true):0<d:=by
 have:=(zb6.1 h).1;omega
theorem jbs7(c:Int):jf2 [1,c]=1:=by rw[zc1];simp
theorem jch6(n:Int):jc6 n=(1,jb2 n):=by
 unfold jc6 jb2
 split<;>rfl
def Ge(f:Nat->Int):Prop:=jd8 f\/Bdd f
def Lt(f:Nat->Int):Prop:=jd8 fun k=>-f k
theorem Ge.not_lt{f:Nat->Int}(h:Ge f)(h':Lt f):False:=by
 rcases h with h|h
 ·exact h.not_neg h'
 ·exact jd8.not_bdd h' h.neg
theorem Sg.ge{f:Nat->Int}{s:Int}(h:Sg f s)(hs:0<=s):Ge f:=by
 rcases h with⟨_,h⟩|⟨h,_⟩|⟨_,h⟩
 ·exact .inl h
 ·omega
 ·exact .inr h
theorem Sg.lt{f:Nat->Int}{s:Int}(h:Sg f s)(hs:s<0):Lt f:=by
 rcases h with⟨h,_⟩|⟨_,h⟩|⟨h,_⟩
 ·omega
 ·exact h
 ·omega
theorem Ge.near{f g:Nat->Int}(h:Ge f)(hn:jd2 f g):Ge g:=by
 rcases h with h|h
 ·exact .inl (h.near hn)
 ·exact .inr ((Bdd.add h hn.symm).congr fun k=>by(try dsimp only);omega)
theorem Ge.add{f g:Nat->Int}(hf:Ge f)(hg:Ge g):Ge fun k=>f k+g k:=by
 rcases hf with hf|hf<;>rcases hg with hg|hg
 ·exact .inl (hf.add hg)
 ·exact .inl (hf.near (Bdd.congr (fun k=>by(try dsimp only);omega) hg.neg))
 ·exact .inl (hg.near (Bdd.congr (fun k=>by(try dsimp only);omega) hf.neg))
 ·exact .inr (hf.add hg)
theorem Ge.smul{f:Nat->Int}{c:Int}(hc:0<c)(h:Ge f):Ge fun k=>c*f k:=by
 rcases h with h|h
 ·exact .inl (h.smul hc)
 ·exact .inr (h.smul c)
theorem jaa0{c:Int}(hc:0<c):jd8 fun k=>c*bits k:=⟨1,0,by omega,fun k _=>by
 have:=Int.mul_le_mul_of_nonneg_right (show 1<=c by omega) (Int.le_of_lt (jj3 k))
 dsimp only
 omega⟩
theorem jac9{c:Int}(hc:0<=c):Ge fun k=>c*bits k:=by
 rcases Int.lt_or_le 0 c with h|h
 ·exact .inl (jaa0 h)
 ·obtain rfl:c=0:=by omega
  exact .inr (Bdd.zero.congr fun k=>by simp)
theorem jbn0(k:Nat):rtA 1 k=bits k:=by
 unfold rtA
 rw[show(1:Int).toNat=1 from rfl,Nat.one_mul,zs1]
theorem jdd8(c:Int)(k:Nat):jh9 (jb2 c) k=c*bits k:=by
 unfold jb2
 split
 ·rename_i h;subst h;simp[jh9]
 ·simp[jh9,jbn0]
theorem jdd7(c:Int)(k:Nat):jh9 [(c,1)] k=c*bits k:=by simp[jh9,jbn0]
def jbc8(X:Nat->Int)(D f l:Int):Prop:=Ge (fun k=>f*X k-D*l*bits k)/\Lt (fun k=>f*X k-D*(l+1)*bits k)
theorem jbc8.le{X:Nat->Int}{D f l l':Int}(hD:0<D)(h:jbc8 X D f l)(h':Ge (fun k=>f*X k-D*l'*bits k)):l'<=l:=by
 rcases Int.lt_or_le l l' with hl|hl
 ·exfalso
  refine Ge.not_lt (Ge.near (Ge.add h' (jac9 (c:=D*(l'-l-1)) (Int.mul_nonneg (Int.le_of_lt hD) (by omega)))) (jd2.of_eq fun k=>?_)) h.2
  (try dsimp only)
  grind
 ·exact hl
theorem jbc8.unique{X:Nat->Int}{D f l l':Int}(hD:0<D)(h:jbc8 X D f l)(h':jbc8 X D f l'):l=l':=
 Int.le_antisymm (h'.le hD h.1) (h.le hD h'.1)
theorem Lt.near{f g:Nat->Int}(h:Lt f)(hn:jd2 f g):Lt g:=jd8.near h hn.neg
def IsN(xd:Int)(X:Nat->Int)(rd:Int)(rt:List (Int×Int)):Prop:=ja7 rd rt=true/\∃G,0<G/\xd=rd*G/\jd2 (fun k=>G*jh9 rt k) X
theorem IsN.sg{xd rd m v s:Int}{X:Nat->Int}{rt:List (Int×Int)}(h:IsN xd X rd rt)(hs:jb3 (jk5 rt m [(v,1)] rd) s):Sg (fun k=>m*X k-xd*v*bits k) s:=by
 obtain⟨_,G,hG,rfl,hn⟩:=h
 have h1:=Sg.smul hG hs.sg
 refine h1.near ((jd2.of_eq fun k=>?_).trans ((hn.smul m).sub (jd2.refl fun k=>rd*G*v*bits k)))
 (try dsimp only)
 rw[jaa5,jdd7]
 grind
theorem IsN.low{xd rd f l:Int}{X:Nat->Int}{rt:List (Int×Int)}(h:IsN xd X rd rt)(hb:zp1 rd rt f l):jbc8 X xd f l:=by
 obtain⟨⟨s,h1,h2⟩,⟨t,h3,h4⟩,_⟩:=hb
 exact⟨(h.sg h2).ge h1,(h.sg h4).lt h3⟩
theorem jbp2:∀(kv:List (Int×Int)) (r c:Int),r∉kv.map (·.1)->addS kv r c=kv++[(r,c)]
 | [],_,_,_=>rfl
 | (a,x)::t,r,c,h=>by
  unfold addS
  rw[if_neg (fun e=>h (by simp[e])),jbp2 t r c (fun hm=>h (by simp[hm]))];rfl
theorem jak8:∀(ts kv:List (Int×Int)) (m:Int),(∀t∈ts,jg8 t.2)->(ts.map (·.2)).Nodup->(∀t∈ts,t.2∉kv.map (·.1))->jb0 kv ts m=kv++ts.map (fun t=>(t.2,t.1*m))
 | [],kv,m,_,_,_=>by simp[jb0]
 | t::ts,kv,m,h1,h2,h3=>by
  have hr:=h1 t (by simp)
  rw[List.map_cons,List.nodup_cons] at h2
  have e:addRoot kv (t.1*m) t.2=kv++[(t.2,t.1*m)]:=by
   unfold addRoot
   rw[if_pos (by have:=hr.1;omega),zs9 _ (by have:=hr.1;omega) hr.2.2]
   dsimp only
   rw[Int.toNat_of_nonneg (by have:=hr.1;omega),jbp2 _ _ _ (h3 t (by simp))];simp
  have:=jak8 ts (addRoot kv (t.1*m) t.2) m (fun u hu=>h1 u (by simp[hu])) h2.2 (fun u hu=>by
   rw[e,List.map_append,List.mem_append]
   rintro(h|h)
   ·exact h3 u (by simp[hu]) h
   ·simp only[List.map_cons,List.map_nil,List.mem_singleton] at h
    exact h2.1 (by rw[<-h];exact List.mem_map_of_mem hu))
  show jb0 (addRoot kv (t.1*m) t.2) ts m=_
  rw[this,e];simp
theorem jcy5{s q:Int}(hs:1<=s/\s<=100000)(hq:q<=1000):jf4 [(q,s)] 1=(1,[(s,q)],0):=by
 have hs0:s≠0:=by omega
 have hnz:[(q,s)].filter nz=[(q,s)]:=by simp[nz,hs0]
 have hG:jf3 [(q,s)] 1=1:=by unfold jf3;rw[hnz];simp[jf2]
 have hT:za8 [(q,s)] 1=[(s,q)]:=by
  unfold za8 jh0;rw[hG,hnz]
  simp[jg7,jc3]
 unfold jf4
 rw[hT,hG]
 have h1:jp3 (s,q)=false:=by unfold jp3;simp[inB];omega
 simp[h1]
theorem jcm8{n:Int}(hn:1<=n/\n<=1000){r:Int×List (Int×Int)×Int}(h:jt1 (jc6 n).1 (jc6 n).2 r):∃s q:Int,r=(1,[(s,q)],0)/\1<=s/\s<=31/\jg8 q/\jd2 (rtA n) (fun k=>s*rtA q k):=by
 obtain⟨N,rfl⟩:=Int.eq_ofNat_of_zero_le (show 0<=n by omega)
 have hN:1<=N:=by omega
 obtain⟨h1,h2,h3,h4⟩:=jm9 N hN
 have h5:=(zj6 N hN).2
 have hs31:(ja5 N).1<=31:=by
  rcases Nat.lt_or_ge 31 (ja5 N).1 with g|g
  ·have g1:=Nat.mul_le_mul (show 32<=(ja5 N).1 from g) (show 32<=(ja5 N).1 from g)
   have g2:=Nat.mul_le_mul_left ((ja5 N).1*(ja5 N).1) h4
   omega
  ·exact g
 have hw:jc6 (N:Int)=(1,[((N:Int),1)]):=by rw[jch6,zj4 (by omega)]
 rw[hw] at h
 have hok:ja7 1 [((N:Int),1)]=true:=by rw[<-zj4 (show(N:Int)≠0 by omega)];exact zb6.2 ⟨by omega,by omega,jbs7 _⟩
 refine⟨((ja5 N).1:Int),((ja5 N).2:Int),?_,by omega,by omega,⟨by omega,by omega,by rw[Int.toNat_natCast];exact h2⟩,jak2 hN⟩
 rcases h with⟨h,_⟩|⟨_,s,hs,h⟩
 ·rw[hok] at h;cases h
 ·rcases js1 hs with⟨g,_⟩|⟨_,g⟩|⟨g,_⟩
  ·omega
  ·rcases h with⟨h,_⟩|⟨h,_⟩|⟨_,h⟩
   ·omega
   ·omega
   ·have e0:zs8 1 [((N:Int),1)]=jf4 (jj1 [] (N:Int) 1 1) 1:=by unfold zs8;simp
    rw[h]
    show zs8 1 [((N:Int),1)]=_
    rw[e0]
    have e:jj1 [] (N:Int) 1 1=[(((ja5 N).2:Int),((ja5 N).1:Int))]:=by
     unfold jj1
     rw[if_pos (by omega),Int.mul_one,Int.toNat_natCast]
     simp[addS]
    rw[e]
    exact jcy5 (by omega) (by omega)
  ·omega
theorem jdf9{rd xd:Int}{rt:List (Int×Int)}{X:Nat->Int}(h:IsN xd X rd rt):(jc4 1 [] rd rt (-1)).2.2=0/\IsN xd (fun k=>-X k) (jc4 1 [] rd rt (-1)).1 (jc4 1 [] rd rt (-1)).2.1:=by
 obtain⟨hok,G,hG,hGe,hn⟩:=h
 have hp:=jb1 hok
 obtain⟨hr1,hr2⟩:=jj2 hok
 have h0:ja7 1 []=true:=by decide +kernel
 have hcode:(jc4 1 [] rd rt (-1)).2.2=0:=by
  unfold jc4
  rw[h0,hok]
  simp only[Bool.and_self,if_true]
  have e:jb0 (jb0 [] [] rd) rt (-1*1)=rt.map (fun t=>(t.2,t.1*(-1*1))):=by
   rw[show jb0 [] [] rd=[] from rfl,jak8 rt [] _ hr1 hr2 (by simp)];rfl
  rw[e]
  have hk:(rt.map (fun t=>(t.2,t.1*(-1*1)))).map (·.1)=rt.map (·.2):=by rw[List.map_map];rfl
  refine jan3 (by rw[hk];exact hr2) (by rw[List.length_map];exact hp.2.2.1) (fun r=>?_) (fun r hr=>?_) (by omega)
  ·rcases zc2 (rt.map (fun t=>(t.2,t.1*(-1*1)))) r with h|h
   ·rw[h];omega
   ·obtain⟨t,ht,he⟩:=List.mem_map.1 h
    injection he with _ he
    have:=(hp.2.2.2 t ht).1.2.2.2
    rw[<-he];omega
  ·rw[hk] at hr
   obtain⟨t,ht,rfl⟩:=List.mem_map.1 hr
   exact(hr1 t ht).2.1
 refine⟨hcode,?_⟩
 obtain⟨d,t,c,he⟩:∃d t c,jc4 1 [] rd rt (-1)=(d,t,c):=⟨_,_,_,rfl⟩
 rw[he] at hcode ⊢
 dsimp only at hcode ⊢
 subst hcode
 obtain⟨_,_,G2,hG2,hGe2,hGn2⟩:=jaj7 he
 refine⟨jan5 he,G2*G,Int.mul_pos hG2 hG,by rw[hGe,<-Int.mul_assoc,<-hGe2,Int.one_mul],?_⟩
 refine jd2.trans (jd2.of_eq fun k=>?_) ((hGn2.smul G).trans (jd2.trans (jd2.of_eq fun k=>?_) hn.neg))
 ·(try dsimp only);grind
 ·(try dsimp only);rw[jbv7];grind
theorem jd8.le{f g:Nat->Int}(h:jd8 f)(h0:∀k,f k<=g k):jd8 g:=by
 obtain⟨D,k0,hD,h⟩:=h
 exact⟨D,k0,hD,fun k hk=>Int.le_trans (h k hk) (Int.mul_le_mul_of_nonneg_left (h0 k) (Int.le_of_lt hD))⟩
theorem Sg.one{f:Nat->Int}{s:Int}(h:Sg f s)(hs:0<s):jd8 f:=by
 rcases h with⟨_,h⟩|⟨h,_⟩|⟨h,_⟩
 ·exact h
 ·omega
 ·omega
open LI
def jbp0(r:Int):Prop:=1<=r/\jy0 r.toNat
theorem jg8.free{r:Int}(h:jg8 r):jbp0 r:=⟨h.1,h.2.2⟩
theorem jab9:∀(ts:List (Int×Int)),(∀t∈ts,jbp0 t.2)->∃qs:List Nat,(∀p∈qs,Pr p)/\∀t∈ts,∃l:List Nat,(∀p∈l,Pr p)/\l.Nodup/\(∀p∈l,p∈qs)/\prod l=t.2.toNat
 | [],_=>⟨[],by simp,by simp⟩
 | t::ts,h=>by
  obtain⟨qs,h1,h3⟩:=jab9 ts (fun u hu=>h u (List.mem_cons_of_mem _ hu))
  obtain⟨g1,g3⟩:=h t (by simp)
  obtain⟨l,hl,hs,hp⟩:=jac7 t.2.toNat (by omega) g3
  refine⟨l++qs,?_,?_⟩
  ·intro p hp
   rcases List.mem_append.1 hp with h|h
   ·exact hl p h
   ·exact h1 p h
  ·intro u hu
   rcases List.mem_cons.1 hu with rfl|hu
   ·exact⟨l,hl,hs.imp (fun h=>by omega),fun p hp=>List.mem_append.2 (.inl hp),hp⟩
   ·obtain⟨l',k1,k2,k3,k4⟩:=h3 u hu
    exact⟨l',k1,k2,fun p hp=>List.mem_append.2 (.inr (k3 p hp)),k4⟩
theorem jb3.exists_any(ts:List (Int×Int))(hr:∀t∈ts,jbp0 t.2)(hk:(ts.map (·.2)).Nodup):∃K,ts.filter nzT=[]\/jb9 (ts.filter nzT) K≠0:=by
 by_cases h:ts.filter nzT=[]
 ·exact⟨0,.inl h⟩
 ·have hr':∀t∈ts.filter nzT,jbp0 t.2:=fun t ht=>hr t (List.mem_filter.1 ht).1
  obtain⟨qs,h1,h3⟩:=jab9 (ts.filter nzT) hr'
  obtain⟨Y,_,hd⟩:=jar2 (ps:=zs6 qs) (fun p hp=>h1 p (jt7.1 hp)) (zk6 qs) h (fun t ht=>by
   obtain⟨l,g1,g2,g3,g4⟩:=h3 t ht
   exact jbk4 (fun p hp=>h1 p (jt7.1 hp)) g1 g2 (fun p hp=>jt7.2 (g3 p hp)) g4) (fun t ht e=>by
   have h2:=(List.mem_filter.1 ht).2
   rw[nzT,e] at h2
   cases h2) (fun t ht=>by have:=(hr' t ht).1;omega) (List.Nodup.sublist (List.filter_sublist.map _) hk)
  generalize (zn3 (zs6 qs).length (ts.filter nzT)+(ts.filter nzT).length)*Y+2*(zs6 qs).length*((conv (ts.filter nzT)).map fun t=>t.1.natAbs*t.2).sum*Y=Z at hd
  exact⟨Z+1,.inr (hd (Z+1) (by have:=jcj8 (Z+1);omega))⟩
theorem jda2{kv:List (Int×Int)}(hn:(kv.map (·.1)).Nodup)(hf:∀r∈kv.map (·.1),jbp0 r)(h:Bdd (zc3 kv))(r:Int):jc3 kv r=0:=by
 have hk:(kv.map js2).map (·.2)=kv.map (·.1):=by rw[List.map_map];rfl
 obtain⟨K,hK⟩:=jb3.exists_any (kv.map js2) (fun t ht=>hf _ (by rw[<-hk];exact List.mem_map_of_mem ht)) (by rw[hk];exact hn)
 have hb:Bdd (jh9 (kv.map js2)):=h.congr fun k=>(jbf1 kv k).symm
 have hz:(kv.map js2).filter nzT=[]:=by
  rcases hK with h1|h1
  ·exact h1
  ·exfalso
   rcases js3 ((kv.map js2).filter nzT) K with h2|h2|h2
   ·exact(zh6 h2).not_bdd (hb.congr fun k=>(zb1 _ k).symm)
   ·exact(zh5 h2).not_bdd (hb.neg.congr fun k=>by rw[zb1 _ k])
   ·exact h1 h2
 rcases zc2 kv r with h1|h1
 ·exact h1
 ·rcases Decidable.em (jc3 kv r=0)with h3|h3
  ·exact h3
  ·have h4:(jc3 kv r,r)∈(kv.map js2).filter nzT:=List.mem_filter.2 ⟨List.mem_map.2 ⟨_,h1,rfl⟩,by simp[nzT,h3]⟩
   rw[hz] at h4;cases h4
theorem jd2.bdd{f g:Nat->Int}(h:jd2 f g):Bdd fun k=>f k-g k:=h
theorem jd2.unsmul{f g:Nat->Int}{c:Int}(hc:c≠0)(h:jd2 (fun k=>c*f k) (fun k=>c*g k)):jd2 f g:=by
 obtain⟨C,hC0,h⟩:=Bdd.nonneg h
 refine⟨C,fun k=>?_⟩
 have h1:=h k
 dsimp only at h1 ⊢
 rw[<-Int.mul_sub] at h1
 generalize f k-g k=x at *
 have h2:(c*x).natAbs<=C.natAbs:=by omega
 rw[Int.natAbs_mul] at h2
 have h3:1*x.natAbs<=c.natAbs*x.natAbs:=Nat.mul_le_mul_right _ (by omega)
 omega
theorem jdn2{d:Int}{ts:List (Int×Int)}(h:ja7 d ts=true):0<d:=by have:=(jb1 h).1;omega
theorem IsN.self{d:Int}{ts:List (Int×Int)}(h:ja7 d ts=true):IsN d (jh9 ts) d ts:=⟨h,1,by omega,by omega,jd2.of_eq fun k=>by omega⟩
theorem IsN.pos{D d:Int}{X:Nat->Int}{ts:List (Int×Int)}(h:IsN D X d ts):0<D:=by
 obtain⟨h1,G,hG,rfl,_⟩:=h
 exact Int.mul_pos (jdn2 h1) hG
theorem IsN.near{D d:Int}{X Y:Nat->Int}{ts:List (Int×Int)}(h:IsN D X d ts)(hn:jd2 X Y):IsN D Y d ts:=by
 obtain⟨h1,G,hG,h2,h3⟩:=h
 exact⟨h1,G,hG,h2,h3.trans hn⟩
theorem IsN.ob{D d:Int}{X:Nat->Int}{ts:List (Int×Int)}(h:IsN D X d ts):OB X:=by
 obtain⟨_,G,_,_,h3⟩:=h
 exact OB.near (OB.smul G (jcm0 ts)) h3
theorem IsN.val{D d:Int}{X:Nat->Int}{ts:List (Int×Int)}(h:IsN D X d ts):jd2 (fun k=>D*jh9 ts k) (fun k=>d*X k):=by
 obtain⟨_,G,_,rfl,h3⟩:=h
 exact(jd2.of_eq fun k=>by(try dsimp only);grind).trans (h3.smul d)
theorem IsN.same{D D' d d':Int}{X X':Nat->Int}{ts ts':List (Int×Int)}(h:IsN D X d ts)(h':IsN D' X' d' ts')(hn:jd2 (fun k=>D'*X k) (fun k=>D*X' k)):d=d'/\ts=ts':=by
 have hD:=h.pos;have hD':=h'.pos
 refine jcy6 h.1 h'.1 (jd2.unsmul (c:=D*D') (Int.mul_ne_zero (by omega) (by omega)) ?_)
 refine jd2.trans (jd2.of_eq fun k=>?_) ((h.val.smul (D'*d')).trans (jd2.trans (jd2.of_eq fun k=>?_) ((hn.smul (d*d')).trans (jd2.trans (jd2.of_eq fun k=>?_) ((h'.val.symm.smul (D*d)).trans (jd2.of_eq fun k=>?_))))))<;>(try dsimp only)<;>grind
theorem zr4:∀(l kv:List (Int×Int)) (m r:Int),jc3 (jb0 kv l m) r=jc3 kv r+jc3 (jb0 [] l m) r
 | [],kv,m,r=>by show jc3 kv r=jc3 kv r+0;omega
 | t::l,kv,m,r=>by
  show jc3 (jb0 (addRoot kv (t.1*m) t.2) l m) r=jc3 kv r+jc3 (jb0 (addRoot [] (t.1*m) t.2) l m) r
  rw[zr4 l (addRoot kv (t.1*m) t.2),zr4 l (addRoot [] (t.1*m) t.2),jad0,jad0]
  show _=_+(0+_+_)
  omega
end Go.Proofs.YtphcodcdfeohhaaGreatDoor
