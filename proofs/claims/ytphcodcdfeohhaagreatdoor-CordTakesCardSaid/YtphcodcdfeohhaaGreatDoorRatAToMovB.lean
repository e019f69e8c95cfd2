import Derived.Test.YtphcodcdfeohhaaGreatDoorMakeAToCom
import Derived.Test.YtphcodcdfeohhaaGreatDoorRefAToRefE
import Derived.Test.YtphcodcdfeohhaaGreatDoorSignDToOrdA
import Derived.Test.YtphcodcdfeohhaaGreatDoorOrdBToSgn
import Derived.Test.YtphcodcdfeohhaaGreatDoorRootB
import Derived.Test.YtphcodcdfeohhaaGreatDoorAsyToAsyW
set_option linter.unusedVariables false
set_option linter.unusedSimpArgs false
namespace Go.Proofs.YtphcodcdfeohhaaGreatDoor
open Go.RowKit
def jb2(c:Int):List (Int×Int):=if c=0 then [] else [(c,1)]
theorem jaj9:jb2 0=[]:=rfl
theorem zj4{c:Int}(h:c≠0):jb2 c=[(c,1)]:=if_neg h
theorem jcn1:ja5 1=(1,1):=by decide +kernel
def jr2(v den:Int):Int:=(jf2 [den,v]:Int)
def jbf5(v den:Int):Int×List (Int×Int)×Int:=
 if 100000<den.tdiv (jr2 v den)\/inB (v.tdiv (jr2 v den)) (-100000) 100000=false then(0,[],10)else(den.tdiv (jr2 v den),jb2 (v.tdiv (jr2 v den)),0)
theorem zc1(a b:Int):jf2 [a,b]=Nat.gcd a.natAbs b.natAbs:=by
 unfold jf2
 simp
theorem jbs8(a:Int):jf2 [a]=a.natAbs:=by
 unfold jf2
 simp
theorem jbs9{v den:Int}(h:0<den):0<jr2 v den:=by
 have:=zr3 (l:=[den,v]) (x:=den) (by simp) (by omega)
 unfold jr2
 omega
theorem jdc5(v den:Int):jr2 v den∣v/\jr2 v den∣den:=by
 unfold jr2
 rw[zc1]
 exact⟨Int.ofNat_dvd_left.2 (Nat.gcd_dvd_right _ _),Int.ofNat_dvd_left.2 (Nat.gcd_dvd_left _ _)⟩
theorem jan2{v den d c:Int}(hden:0<den)(hd:0<d)(hg:jf2 [d,c]=1)(h:c*den=v*d):den.tdiv (jr2 v den)=d/\v.tdiv (jr2 v den)=c:=by
 rw[zc1] at hg
 have h1:d.natAbs∣c.natAbs*den.natAbs:=by
  rw[<-Int.natAbs_mul,h,Int.natAbs_mul]
  exact Nat.dvd_mul_left _ _
 have h2:d.natAbs∣den.natAbs:=Nat.Coprime.dvd_of_dvd_mul_left hg h1
 obtain⟨k,rfl⟩:=Int.natAbs_dvd_natAbs.1 h2
 have hv:v=c*k:=by
  have h3:v*d=(c*k)*d:=by rw[<-h,Int.mul_comm d k,Int.mul_assoc]
  exact Int.eq_of_mul_eq_mul_right (by omega) h3
 subst hv
 have hk:0<k:=by
  rcases Int.lt_or_le 0 k with hk|hk
  ·exact hk
  ·have:=Int.mul_le_mul_of_nonneg_left hk (Int.le_of_lt hd)
   rw[Int.mul_zero] at this;omega
 have hG:jr2 (c*k) (d*k)=k:=by
  unfold jr2
  rw[zc1,Int.natAbs_mul,Int.natAbs_mul,Nat.gcd_mul_right,hg,Nat.one_mul]
  omega
 rw[hG]
 exact⟨Int.mul_tdiv_cancel _ (by omega),Int.mul_tdiv_cancel _ (by omega)⟩
theorem jaa6{v den:Int}(hden:0<den):0<den.tdiv (jr2 v den)/\jf2 [den.tdiv (jr2 v den),v.tdiv (jr2 v den)]=1/\v.tdiv (jr2 v den)*den=v*den.tdiv (jr2 v den)/\(v.tdiv (jr2 v den)=0↔v=0) /\
  den.tdiv (jr2 v den)<=den/\(v.tdiv (jr2 v den)).natAbs<=v.natAbs:=by
 have hp:=jbs9 (v:=v) hden
 obtain⟨⟨c,hc⟩,⟨d,hd⟩⟩:=jdc5 v den
 have hG:jr2 v den=(Nat.gcd den.natAbs v.natAbs:Nat):=by unfold jr2;rw[zc1]
 generalize hg:jr2 v den=g at *
 have e1:den.tdiv g=d:=by rw[hd,Int.mul_comm];exact Int.mul_tdiv_cancel _ (by omega)
 have e2:v.tdiv g=c:=by rw[hc,Int.mul_comm];exact Int.mul_tdiv_cancel _ (by omega)
 rw[e1,e2]
 have hd0:0<d:=by
  rcases Int.lt_or_le 0 d with h|h
  ·exact h
  ·have:=Int.mul_le_mul_of_nonneg_left h (Int.le_of_lt hp)
   rw[Int.mul_zero] at this;omega
 refine⟨hd0,?_,?_,?_,?_,?_⟩
 ·rw[zc1]
  have h1:Nat.gcd den.natAbs v.natAbs=g.natAbs*Nat.gcd d.natAbs c.natAbs:=by rw[hd,hc,Int.natAbs_mul,Int.natAbs_mul,Nat.gcd_mul_left]
  have h2:g.natAbs=g.natAbs*Nat.gcd d.natAbs c.natAbs:=by rw[<-h1];omega
  exact Nat.eq_of_mul_eq_mul_left (show 0<g.natAbs by omega) (by omega)
 ·rw[hd,hc,<-Int.mul_assoc,Int.mul_comm c g]
 ·constructor
  ·intro h;rw[hc,h,Int.mul_zero]
  ·intro h
   rw[hc] at h
   rcases Int.mul_eq_zero.1 h with h|h
   ·omega
   ·exact h
 ·rw[hd]
  have:=Int.mul_le_mul_of_nonneg_right (show 1<=g by omega) (Int.le_of_lt hd0)
  omega
 ·rw[hc,Int.natAbs_mul]
  exact Nat.le_mul_of_pos_left _ (by omega)
theorem jdg3{v den:Int}(hden:0<den):jf4 [(1,v)] den=jbf5 v den:=by
 have hG:jf3 [(1,v)] den=jr2 v den:=by
  rw[jdg0,if_neg (by omega)];rfl
 obtain⟨h1,_,_,h4,_,_⟩:=jaa6 (v:=v) hden
 have hT:za8 [(1,v)] den=jb2 (v.tdiv (jr2 v den)):=by
  unfold za8
  rw[hG]
  by_cases hv:v=0
  ·subst hv
   rw[Int.zero_tdiv,jaj9]
   exact jan9 _ (fun p hp=>by rw[List.mem_singleton.1 hp])
  ·have h5:=jca3 (xs:=[]) (ys:=[]) (r:=1) (c:=v) (jr2 v den) (by simp) hv (fun p hp=>by simp at hp)
   have h6:jh0 (([]++(1,0)::[]:List (Int×Int)).filter nz) (jr2 v den)=[]:=jan9 _ (fun p hp=>by
    have:=List.mem_singleton.1 (by simpa using hp);rw[this])
   rw[h6] at h5
   rw[zj4 (fun h=>hv (h4.1 h))]
   simpa using h5
 unfold jf4 jbf5
 rw[hT,hG]
 have hlen:¬4<(jb2 (v.tdiv (jr2 v den))).length:=by unfold jb2;split<;>simp
 rw[if_neg hlen]
 by_cases hc:v.tdiv (jr2 v den)=0
 ·rw[hc,jaj9]
  simp[inB]
 ·rw[zj4 hc]
  simp[jp3]
theorem jft3{den:Int}(hden:0<den):jf4 [] den=jbf5 0 den:=by
 rw[<-jdg3 hden]
 have hG:jf3 [(1,0)] den=jf3 [] den:=by
  rw[jdg0,jdg0,if_neg (by omega),if_neg (by omega)]
  show((jf2 [den,0]:Nat):Int)=((jf2 [den]:Nat):Int)
  rw[zc1,jbs8];simp
 have hT:za8 [(1,0)] den=za8 [] den:=by
  unfold za8
  rw[hG]
  rfl
 unfold jf4
 rw[hG,hT]
theorem zb6{d c:Int}:ja7 d (jb2 c)=true↔(1<=d/\d<=100000)/\(-100000<=c/\c<=100000)/\jf2 [d,c]=1:=by
 by_cases hc:c=0
 ·subst hc
  rw[jaj9,zc1]
  unfold ja7
  rw[List.map_nil,jbs8]
  simp[inB,jt3]
 ·rw[zj4 hc]
  unfold ja7
  simp[inB,jt3,okT,jcn1,hc]
  exact and_assoc
theorem jfs8{v den d:Int}{t:List (Int×Int)}(hden:0<den)(h:jbf5 v den=(d,t,0)):∃c,t=jb2 c/\c*den=v*d/\ja7 d (jb2 c)=true:=by
 obtain⟨h1,h2,h3,_,_,_⟩:=jaa6 (v:=v) hden
 unfold jbf5 at h
 split at h
 ·injection h with _ h;injection h with _ h;omega
 ·rename_i hn
  injection h with e1 h
  injection h with e2 _
  subst e1
  refine⟨_,e2.symm,h3,zb6.2 ⟨⟨by omega,?_⟩,?_,h2⟩⟩
  ·rcases Int.lt_or_le 100000 (den.tdiv (jr2 v den))with h|h
   ·exact absurd (.inl h) hn
   ·exact h
  ·cases hi:inB (v.tdiv (jr2 v den)) (-100000) 100000
   ·exact absurd (.inr hi) hn
   ·simpa [inB] using hi
theorem jfk9{v den d c:Int}(hden:0<den)(hn:ja7 d (jb2 c)=true)(h:c*den=v*d):jbf5 v den=(d,jb2 c,0):=by
 obtain⟨h1,h2,h3⟩:=zb6.1 hn
 obtain⟨e1,e2⟩:=jan2 hden (by omega) h3 h
 unfold jbf5
 rw[e1,e2,if_neg]
 rintro(h|h)
 ·omega
 ·rw[show inB c (-100000) 100000=true by simpa [inB] using h2] at h
  cases h
theorem jfp5(kv:List (Int×Int))(b m:Int)(v:Int)(h:kv=[(1,v)]\/(kv=[]/\v=0)):(jb0 kv (jb2 b) m=[(1,v+b*m)]\/(jb0 kv (jb2 b) m=[]/\v+b*m=0)):=by
 by_cases hb:b=0
 ·subst hb
  rw[jaj9,Int.zero_mul,Int.add_zero]
  exact h
 ·left
  rw[zj4 hb]
  show addRoot kv (b*m) 1=_
  unfold addRoot
  rw[if_pos (by decide),show(1:Int).toNat=1 from rfl,jcn1]
  rcases h with rfl|⟨rfl,rfl⟩
  ·simp[addS]
  ·simp[addS]
theorem jfv4{kv:List (Int×Int)}{v den:Int}(h:kv=[(1,v)]\/(kv=[]/\v=0))(hden:0<den):jf4 kv den=jbf5 v den:=by
 rcases h with rfl|⟨rfl,rfl⟩
 ·exact jdg3 hden
 ·exact jft3 hden
theorem jfc3{xd yd a b k:Int}(hx:ja7 xd (jb2 a)=true)(hy:ja7 yd (jb2 b)=true):jc4 xd (jb2 a) yd (jb2 b) k=jbf5 (a*yd+b*(k*xd)) (xd*yd):=by
 obtain⟨h1,_,_⟩:=zb6.1 hx
 obtain⟨h2,_,_⟩:=zb6.1 hy
 unfold jc4
 rw[hx,hy]
 simp only[Bool.and_self,if_true]
 have e1:=jfp5 [] a yd 0 (.inr ⟨rfl,rfl⟩)
 rw[Int.zero_add] at e1
 exact jfv4 (jfp5 _ b (k*xd) _ e1) (Int.mul_pos (by omega) (by omega))
theorem jfs6(a yd b xd:Int):jk5 (jb2 a) yd (jb2 b) xd=[(a*yd-b*xd,1)]\/(jk5 (jb2 a) yd (jb2 b) xd=[]/\a=0/\b=0):=by
 unfold jk5 jr1
 by_cases ha:a=0
 ·subst ha
  by_cases hb:b=0
  ·subst hb
   exact .inr ⟨rfl,rfl,rfl⟩
  ·left
   rw[jaj9,zj4 hb]
   simp[jh1,addS,js2,Int.mul_neg]
 ·left
  rw[zj4 ha]
  by_cases hb:b=0
  ·subst hb
   rw[jaj9]
   simp[jh1,addS,js2]
  ·rw[zj4 hb]
   simp[jh1,addS,js2,Int.mul_neg,Int.sub_eq_add_neg]
theorem jfv2 {xd a yd b s c:Int} (hx:ja7 xd (jb2 a)=true) (hy:ja7 yd (jb2 b)=true) (h:zz6 xd (jb2 a) yd (jb2 b) s c) :
  c=0/\((a*yd=b*xd/\s=0)\/(b*xd<a*yd/\s=1)\/(a*yd<b*xd/\s=-1)):=by
 rcases h with⟨_,h,rfl⟩|⟨h,_,_⟩
 ·refine⟨rfl,?_⟩
  rcases jfs6 a yd b xd with e|⟨e,rfl,rfl⟩
  ·rw[e] at h
   rcases js1 h with⟨h1,h2⟩|⟨h1,h2⟩|⟨h1,h2⟩
   ·exact .inl ⟨by omega,h2⟩
   ·exact .inr (.inl ⟨by omega,h2⟩)
   ·exact .inr (.inr ⟨by omega,h2⟩)
  ·rw[e] at h
   rcases h with⟨_,h⟩|⟨h,_⟩
   ·exact .inl ⟨by omega,h⟩
   ·exact absurd rfl h
 ·rw[hx,hy] at h;cases h
theorem jfa2(d c:Int):jk2 d (jb2 c)=if c=0 then(0,1,true)else(c,d,true):=by
 by_cases hc:c=0
 ·subst hc;rfl
 ·rw[zj4 hc,if_neg hc];rfl
theorem zj3{d c:Int}(h:ja7 d (jb2 c)=true):0<d:=by
 have:=(zb6.1 h).1;omega
theorem jbs7(c:Int):jf2 [1,c]=1:=by rw[zc1];simp
theorem jfr2(d:Int):jf2 [d,1]=1:=by rw[zc1];simp
theorem jch6(n:Int):jc6 n=(1,jb2 n):=by
 unfold jc6 jb2
 split<;>rfl
def Ge(f:Nat->Int):Prop:=jd8 f\/Bdd f
def Lt(f:Nat->Int):Prop:=jd8 fun k=>-f k
theorem Ge.not_lt{f:Nat->Int}(h:Ge f)(h':Lt f):False:=by
 rcases h with h|h
 ·exact h.not_neg h'
 ·exact jd8.not_bdd h' h.neg
theorem Sg.ge{f:Nat->Int}{s:Int}(h:Sg f s)(hs:0<=s):Ge f:=by
 rcases h with⟨_,h⟩|⟨h,_⟩|⟨_,h⟩
 ·exact .inl h
 ·omega
 ·exact .inr h
theorem Sg.lt{f:Nat->Int}{s:Int}(h:Sg f s)(hs:s<0):Lt f:=by
 rcases h with⟨h,_⟩|⟨_,h⟩|⟨h,_⟩
 ·omega
 ·exact h
 ·omega
theorem Ge.near{f g:Nat->Int}(h:Ge f)(hn:jd2 f g):Ge g:=by
 rcases h with h|h
 ·exact .inl (h.near hn)
 ·exact .inr ((Bdd.add h hn.symm).congr fun k=>by(try dsimp only);omega)
theorem Ge.add{f g:Nat->Int}(hf:Ge f)(hg:Ge g):Ge fun k=>f k+g k:=by
 rcases hf with hf|hf<;>rcases hg with hg|hg
 ·exact .inl (hf.add hg)
 ·exact .inl (hf.near (Bdd.congr (fun k=>by(try dsimp only);omega) hg.neg))
 ·exact .inl (hg.near (Bdd.congr (fun k=>by(try dsimp only);omega) hf.neg))
 ·exact .inr (hf.add hg)
theorem Ge.smul{f:Nat->Int}{c:Int}(hc:0<c)(h:Ge f):Ge fun k=>c*f k:=by
 rcases h with h|h
 ·exact .inl (h.smul hc)
 ·exact .inr (h.smul c)
theorem jaa0{c:Int}(hc:0<c):jd8 fun k=>c*bits k:=⟨1,0,by omega,fun k _=>by
 have:=Int.mul_le_mul_of_nonneg_right (show 1<=c by omega) (Int.le_of_lt (jj3 k))
 dsimp only
 omega⟩
theorem jac9{c:Int}(hc:0<=c):Ge fun k=>c*bits k:=by
 rcases Int.lt_or_le 0 c with h|h
 ·exact .inl (jaa0 h)
 ·obtain rfl:c=0:=by omega
  exact .inr (Bdd.zero.congr fun k=>by simp)
theorem jbn0(k:Nat):rtA 1 k=bits k:=by
 unfold rtA
 rw[show(1:Int).toNat=1 from rfl,Nat.one_mul,zs1]
theorem jdd7(c:Int)(k:Nat):jh9 [(c,1)] k=c*bits k:=by simp[jh9,jbn0]
def jbc8(X:Nat->Int)(D f l:Int):Prop:=Ge (fun k=>f*X k-D*l*bits k)/\Lt (fun k=>f*X k-D*(l+1)*bits k)
theorem jbc8.le{X:Nat->Int}{D f l l':Int}(hD:0<D)(h:jbc8 X D f l)(h':Ge (fun k=>f*X k-D*l'*bits k)):l'<=l:=by
 rcases Int.lt_or_le l l' with hl|hl
 ·exfalso
  refine Ge.not_lt (Ge.near (Ge.add h' (jac9 (c:=D*(l'-l-1)) (Int.mul_nonneg (Int.le_of_lt hD) (by omega)))) (jd2.of_eq fun k=>?_)) h.2
  (try dsimp only)
  grind
 ·exact hl
theorem jbc8.unique{X:Nat->Int}{D f l l':Int}(hD:0<D)(h:jbc8 X D f l)(h':jbc8 X D f l'):l=l':=
 Int.le_antisymm (h'.le hD h.1) (h.le hD h'.1)
theorem Lt.near{f g:Nat->Int}(h:Lt f)(hn:jd2 f g):Lt g:=jd8.near h hn.neg
def IsN(xd:Int)(X:Nat->Int)(rd:Int)(rt:List (Int×Int)):Prop:=ja7 rd rt=true/\∃G,0<G/\xd=rd*G/\jd2 (fun k=>G*jh9 rt k) X
theorem IsN.sg{xd rd m v s:Int}{X:Nat->Int}{rt:List (Int×Int)}(h:IsN xd X rd rt)(hs:jb3 (jk5 rt m [(v,1)] rd) s):Sg (fun k=>m*X k-xd*v*bits k) s:=by
 obtain⟨_,G,hG,rfl,hn⟩:=h
 have h1:=Sg.smul hG hs.sg
 refine h1.near ((jd2.of_eq fun k=>?_).trans ((hn.smul m).sub (jd2.refl fun k=>rd*G*v*bits k)))
 (try dsimp only)
 rw[jaa5,jdd7]
 grind
theorem IsN.low{xd rd f l:Int}{X:Nat->Int}{rt:List (Int×Int)}(h:IsN xd X rd rt)(hb:zp1 rd rt f l):jbc8 X xd f l:=by
 obtain⟨⟨s,h1,h2⟩,⟨t,h3,h4⟩,_⟩:=hb
 exact⟨(h.sg h2).ge h1,(h.sg h4).lt h3⟩
theorem jbp2:∀(kv:List (Int×Int)) (r c:Int),r∉kv.map (·.1)->addS kv r c=kv++[(r,c)]
 | [],_,_,_=>rfl
 | (a,x)::t,r,c,h=>by
  unfold addS
  rw[if_neg (fun e=>h (by simp[e])),jbp2 t r c (fun hm=>h (by simp[hm]))];rfl
theorem jd8.le{f g:Nat->Int}(h:jd8 f)(h0:∀k,f k<=g k):jd8 g:=by
 obtain⟨D,k0,hD,h⟩:=h
 exact⟨D,k0,hD,fun k hk=>Int.le_trans (h k hk) (Int.mul_le_mul_of_nonneg_left (h0 k) (Int.le_of_lt hD))⟩
theorem Sg.one{f:Nat->Int}{s:Int}(h:Sg f s)(hs:0<s):jd8 f:=by
 rcases h with⟨_,h⟩|⟨h,_⟩|⟨h,_⟩
 ·exact h
 ·omega
 ·omega
end Go.Proofs.YtphcodcdfeohhaaGreatDoor
