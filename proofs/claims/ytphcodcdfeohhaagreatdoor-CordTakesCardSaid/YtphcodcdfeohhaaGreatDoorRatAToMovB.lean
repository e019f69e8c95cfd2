import Derived.Test.YtphcodcdfeohhaaGreatDoorRefAToRefE
import Derived.Test.YtphcodcdfeohhaaGreatDoorRootB
import Derived.Test.YtphcodcdfeohhaaGreatDoorAsyToAsyW
set_option linter.all false
namespace Go.Proofs.YtphcodcdfeohhaaGreatDoor
open Go.RowKit
def jK(c:Int):List (Int×Int):=if c=0 then [] else [(c,1)]
theorem ZC:jK 0=[]:=rfl
theorem za{c:Int}(h:c≠0):jK c=[(c,1)]:=if_neg h
theorem jbj2:jo 1=(1,1):=by decide +kernel
def Zk(v den:Int):Int:=(jM [den,v]:Int)
def jk8(v den:Int):Int×List (Int×Int)×Int:=
 if 100000<den.tdiv (Zk v den)\/zz (v.tdiv (Zk v den)) (-100000) 100000=false then(0,[],10)else(den.tdiv (Zk v den),jK (v.tdiv (Zk v den)),0)
theorem Zj(a b:Int):jM [a,b]=Nat.gcd a.natAbs b.natAbs:=by
 unfold jM
 simp
theorem zc2(a:Int):jM [a]=a.natAbs:=by
 unfold jM
 simp
theorem jbz5{v den:Int}(h:0<den):0<Zk v den:=by
 have:=ZK (l:=[den,v]) (x:=den) (by simp) (by omega)
 unfold Zk
 omega
theorem jbz4(v den:Int):Zk v den∣v/\Zk v den∣den:=by
 unfold Zk
 rw[Zj]
 exact⟨Int.ofNat_dvd_left.2 (Nat.gcd_dvd_right _ _),Int.ofNat_dvd_left.2 (Nat.gcd_dvd_left _ _)⟩
theorem jap9{v den d c:Int}(hden:0<den)(hd:0<d)(hg:jM [d,c]=1)(h:c*den=v*d):den.tdiv (Zk v den)=d/\v.tdiv (Zk v den)=c:=by
 rw[Zj] at hg
 have h1:d.natAbs∣c.natAbs*den.natAbs:=by
  rw[<-Int.natAbs_mul,h,Int.natAbs_mul]
  exact Nat.dvd_mul_left _ _
 have h2:d.natAbs∣den.natAbs:=Nat.Coprime.dvd_of_dvd_mul_left hg h1
 obtain⟨k,rfl⟩:=Int.natAbs_dvd_natAbs.1 h2
 have hv:v=c*k:=by
  have h3:v*d=(c*k)*d:=by rw[<-h,Int.mul_comm d k,Int.mul_assoc]
  exact Int.eq_of_mul_eq_mul_right (by omega) h3
 subst hv
 have hk:0<k:=by
  rcases Int.lt_or_le 0 k with hk|hk
  ·exact hk
  ·have:=Int.mul_le_mul_of_nonneg_left hk (Int.le_of_lt hd)
   rw[Int.mul_zero] at this;omega
 have hG:Zk (c*k) (d*k)=k:=by
  unfold Zk
  rw[Zj,Int.natAbs_mul,Int.natAbs_mul,Nat.gcd_mul_right,hg,Nat.one_mul]
  omega
 rw[hG]
 exact⟨Int.mul_tdiv_cancel _ (by omega),Int.mul_tdiv_cancel _ (by omega)⟩
theorem zm1{v den:Int}(hden:0<den):0<den.tdiv (Zk v den)/\jM [den.tdiv (Zk v den),v.tdiv (Zk v den)]=1/\v.tdiv (Zk v den)*den=v*den.tdiv (Zk v den)/\(v.tdiv (Zk v den)=0↔v=0) /\
  den.tdiv (Zk v den)<=den/\(v.tdiv (Zk v den)).natAbs<=v.natAbs:=by
 have hp:=jbz5 (v:=v) hden
 obtain⟨⟨c,hc⟩,⟨d,hd⟩⟩:=jbz4 v den
 have hG:Zk v den=(Nat.gcd den.natAbs v.natAbs:Nat):=by unfold Zk;rw[Zj]
 generalize hg:Zk v den=g at *
 have e1:den.tdiv g=d:=by rw[hd,Int.mul_comm];exact Int.mul_tdiv_cancel _ (by omega)
 have e2:v.tdiv g=c:=by rw[hc,Int.mul_comm];exact Int.mul_tdiv_cancel _ (by omega)
 rw[e1,e2]
 have hd0:0<d:=by
  rcases Int.lt_or_le 0 d with h|h
  ·exact h
  ·have:=Int.mul_le_mul_of_nonneg_left h (Int.le_of_lt hp)
   rw[Int.mul_zero] at this;omega
 refine⟨hd0,?_,?_,?_,?_,?_⟩
 ·rw[Zj]
  have h1:Nat.gcd den.natAbs v.natAbs=g.natAbs*Nat.gcd d.natAbs c.natAbs:=by rw[hd,hc,Int.natAbs_mul,Int.natAbs_mul,Nat.gcd_mul_left]
  have h2:g.natAbs=g.natAbs*Nat.gcd d.natAbs c.natAbs:=by rw[<-h1];omega
  exact Nat.eq_of_mul_eq_mul_left (show 0<g.natAbs by omega) (by omega)
 ·rw[hd,hc,<-Int.mul_assoc,Int.mul_comm c g]
 ·constructor
  ·intro h;rw[hc,h,Int.mul_zero]
  ·intro h
   rw[hc] at h
   rcases Int.mul_eq_zero.1 h with h|h
   ·omega
   ·exact h
 ·rw[hd]
  have:=Int.mul_le_mul_of_nonneg_right (show 1<=g by omega) (Int.le_of_lt hd0)
  omega
 ·rw[hc,Int.natAbs_mul]
  exact Nat.le_mul_of_pos_left _ (by omega)
theorem jar5{v den:Int}(hden:0<den):jY [(1,v)] den=jk8 v den:=by
 have hG:jU [(1,v)] den=Zk v den:=by
  rw[jg3,if_neg (by omega)];rfl
 obtain⟨h1,_,_,h4,_,_⟩:=zm1 (v:=v) hden
 have hT:Qp [(1,v)] den=jK (v.tdiv (Zk v den)):=by
  unfold Qp
  rw[hG]
  by_cases hv:v=0
  ·subst hv
   rw[Int.zero_tdiv,ZC]
   exact Qu _ (λp hp=>by rw[List.mem_singleton.1 hp])
  ·have h5:=zd6 (xs:=[]) (ys:=[]) (r:=1) (c:=v) (Zk v den) (by simp) hv (λp hp=>by simp at hp)
   have h6:zp (([]++(1,0)::[]:List (Int×Int)).filter nz) (Zk v den)=[]:=Qu _ (λp hp=>by
    have:=List.mem_singleton.1 (by simpa using hp);rw[this])
   rw[h6] at h5
   rw[za (λh=>hv (h4.1 h))]
   simpa using h5
 unfold jY jk8
 rw[hT,hG]
 have hlen:¬4<(jK (v.tdiv (Zk v den))).length:=by unfold jK;split<;>simp
 rw[if_neg hlen]
 by_cases hc:v.tdiv (Zk v den)=0
 ·rw[hc,ZC]
  simp[zz]
 ·rw[za hc]
  simp[jW]
theorem jcc6{den:Int}(hden:0<den):jY [] den=jk8 0 den:=by
 rw[<-jar5 hden]
 have hG:jU [(1,0)] den=jU [] den:=by
  rw[jg3,jg3,if_neg (by omega),if_neg (by omega)]
  show((jM [den,0]:Nat):Int)=((jM [den]:Nat):Int)
  rw[Zj,zc2];simp
 have hT:Qp [(1,0)] den=Qp [] den:=by
  unfold Qp
  rw[hG]
  rfl
 unfold jY
 rw[hG,hT]
theorem Ja{d c:Int}:js d (jK c)=true↔(1<=d/\d<=100000)/\(-100000<=c/\c<=100000)/\jM [d,c]=1:=by
 by_cases hc:c=0
 ·subst hc
  rw[ZC,Zj]
  unfold js
  rw[List.map_nil,zc2]
  simp[zz,Qj]
 ·rw[za hc]
  unfold js
  simp[zz,Qj,okT,jbj2,hc]
  exact and_assoc
theorem jcb7{v den d:Int}{t:List (Int×Int)}(hden:0<den)(h:jk8 v den=(d,t,0)):∃c,t=jK c/\c*den=v*d/\js d (jK c)=true:=by
 obtain⟨h1,h2,h3,_,_,_⟩:=zm1 (v:=v) hden
 unfold jk8 at h
 split at h
 ·injection h with _ h;injection h with _ h;omega
 ·rename_i hn
  injection h with e1 h
  injection h with e2 _
  subst e1
  refine⟨_,e2.symm,h3,Ja.2 ⟨⟨by omega,?_⟩,?_,h2⟩⟩
  ·rcases Int.lt_or_le 100000 (den.tdiv (Zk v den))with h|h
   ·exact absurd (.inl h) hn
   ·exact h
  ·cases hi:zz (v.tdiv (Zk v den)) (-100000) 100000
   ·exact absurd (.inr hi) hn
   ·simpa [zz] using hi
theorem jap8{v den d c:Int}(hden:0<den)(hn:js d (jK c)=true)(h:c*den=v*d):jk8 v den=(d,jK c,0):=by
 obtain⟨h1,h2,h3⟩:=Ja.1 hn
 obtain⟨e1,e2⟩:=jap9 hden (by omega) h3 h
 unfold jk8
 rw[e1,e2,if_neg]
 rintro(h|h)
 ·omega
 ·rw[show zz c (-100000) 100000=true by simpa [zz] using h2] at h
  cases h
theorem jbg1(kv:List (Int×Int))(b m:Int)(v:Int)(h:kv=[(1,v)]\/(kv=[]/\v=0)):(ju kv (jK b) m=[(1,v+b*m)]\/(ju kv (jK b) m=[]/\v+b*m=0)):=by
 by_cases hb:b=0
 ·subst hb
  rw[ZC,Int.zero_mul,Int.add_zero]
  exact h
 ·left
  rw[za hb]
  show addRoot kv (b*m) 1=_
  unfold addRoot
  rw[if_pos (by decide),show(1:Int).toNat=1 from rfl,jbj2]
  rcases h with rfl|⟨rfl,rfl⟩
  ·simp[addS]
  ·simp[addS]
theorem jcj9{kv:List (Int×Int)}{v den:Int}(h:kv=[(1,v)]\/(kv=[]/\v=0))(hden:0<den):jY kv den=jk8 v den:=by
 rcases h with rfl|⟨rfl,rfl⟩
 ·exact jar5 hden
 ·exact jcc6 hden
theorem jz8{xd yd a b k:Int}(hx:js xd (jK a)=true)(hy:js yd (jK b)=true):jL xd (jK a) yd (jK b) k=jk8 (a*yd+b*(k*xd)) (xd*yd):=by
 obtain⟨h1,_,_⟩:=Ja.1 hx
 obtain⟨h2,_,_⟩:=Ja.1 hy
 unfold jL
 rw[hx,hy]
 simp only[Bool.and_self,if_true]
 have e1:=jbg1 [] a yd 0 (.inr ⟨rfl,rfl⟩)
 rw[Int.zero_add] at e1
 exact jcj9 (jbg1 _ b (k*xd) _ e1) (Int.mul_pos (by omega) (by omega))
theorem jca8(a yd b xd:Int):zO (jK a) yd (jK b) xd=[(a*yd-b*xd,1)]\/(zO (jK a) yd (jK b) xd=[]/\a=0/\b=0):=by
 unfold zO Zl
 by_cases ha:a=0
 ·subst ha
  by_cases hb:b=0
  ·subst hb
   exact .inr ⟨rfl,rfl,rfl⟩
  ·left
   rw[ZC,za hb]
   simp[ze,addS,ZZ,Int.mul_neg]
 ·left
  rw[za ha]
  by_cases hb:b=0
  ·subst hb
   rw[ZC]
   simp[ze,addS,ZZ]
  ·rw[za hb]
   simp[ze,addS,ZZ,Int.mul_neg,Int.sub_eq_add_neg]
theorem jch2 {xd a yd b s c:Int} (hx:js xd (jK a)=true) (hy:js yd (jK b)=true) (h:jav6 xd (jK a) yd (jK b) s c) :
  c=0/\((a*yd=b*xd/\s=0)\/(b*xd<a*yd/\s=1)\/(a*yd<b*xd/\s=-1)):=by
 rcases h with⟨_,h,rfl⟩|⟨h,_,_⟩
 ·refine⟨rfl,?_⟩
  rcases jca8 a yd b xd with e|⟨e,rfl,rfl⟩
  ·rw[e] at h
   rcases Zp h with⟨h1,h2⟩|⟨h1,h2⟩|⟨h1,h2⟩
   ·exact .inl ⟨by omega,h2⟩
   ·exact .inr (.inl ⟨by omega,h2⟩)
   ·exact .inr (.inr ⟨by omega,h2⟩)
  ·rw[e] at h
   rcases h with⟨_,h⟩|⟨h,_⟩
   ·exact .inl ⟨by omega,h⟩
   ·exact absurd rfl h
 ·rw[hx,hy] at h;cases h
theorem jj2(d c:Int):jn d (jK c)=if c=0 then(0,1,true)else(c,d,true):=by
 by_cases hc:c=0
 ·subst hc;rfl
 ·rw[za hc,if_neg hc];rfl
theorem zP{d c:Int}(h:js d (jK c)=true):0<d:=by
 have:=(Ja.1 h).1;omega
theorem jbz3(c:Int):jM [1,c]=1:=by rw[Zj];simp
theorem jbm4(d:Int):jM [d,1]=1:=by rw[Zj];simp
theorem zr0(n:Int):jI n=(1,jK n):=by
 unfold jI jK
 split<;>rfl
def Ge(f:Nat->Int):Prop:=zm f\/QH f
def Lt(f:Nat->Int):Prop:=zm λk=>-f k
theorem Ge.not_lt{f:Nat->Int}(h:Ge f)(h':Lt f):False:=by
 rcases h with h|h
 ·exact h.not_neg h'
 ·exact zm.not_bdd h' h.neg
theorem Sg.ge{f:Nat->Int}{s:Int}(h:Sg f s)(hs:0<=s):Ge f:=by
 rcases h with⟨_,h⟩|⟨h,_⟩|⟨_,h⟩
 ·exact .inl h
 ·omega
 ·exact .inr h
theorem Sg.lt{f:Nat->Int}{s:Int}(h:Sg f s)(hs:s<0):Lt f:=by
 rcases h with⟨h,_⟩|⟨_,h⟩|⟨h,_⟩
 ·omega
 ·exact h
 ·omega
theorem Ge.near{f g:Nat->Int}(h:Ge f)(hn:zL f g):Ge g:=by
 rcases h with h|h
 ·exact .inl (h.near hn)
 ·exact .inr ((QH.add h hn.symm).congr λk=>by(try dsimp only);omega)
theorem Ge.add{f g:Nat->Int}(hf:Ge f)(hg:Ge g):Ge λk=>f k+g k:=by
 rcases hf with hf|hf<;>rcases hg with hg|hg
 ·exact .inl (hf.add hg)
 ·exact .inl (hf.near (QH.congr (λk=>by(try dsimp only);omega) hg.neg))
 ·exact .inl (hg.near (QH.congr (λk=>by(try dsimp only);omega) hf.neg))
 ·exact .inr (hf.add hg)
theorem Ge.smul{f:Nat->Int}{c:Int}(hc:0<c)(h:Ge f):Ge λk=>c*f k:=by
 rcases h with h|h
 ·exact .inl (h.smul hc)
 ·exact .inr (h.smul c)
theorem jaz9{c:Int}(hc:0<c):zm λk=>c*bits k:=⟨1,0,by omega,λk _=>by
 have:=Int.mul_le_mul_of_nonneg_right (show 1<=c by omega) (Int.le_of_lt (JF k))
 dsimp only
 omega⟩
theorem jch4{c:Int}(hc:0<=c):Ge λk=>c*bits k:=by
 rcases Int.lt_or_le 0 c with h|h
 ·exact .inl (jaz9 h)
 ·obtain rfl:c=0:=by omega
  exact .inr (QH.zero.congr λk=>by simp)
theorem jck2(k:Nat):rtA 1 k=bits k:=by
 unfold rtA
 rw[show(1:Int).toNat=1 from rfl,Nat.one_mul,jf8]
theorem jca9(c:Int)(k:Nat):JY [(c,1)] k=c*bits k:=by simp[JY,jck2]
def zv0(X:Nat->Int)(D f l:Int):Prop:=Ge (λk=>f*X k-D*l*bits k)/\Lt (λk=>f*X k-D*(l+1)*bits k)
theorem zv0.le{X:Nat->Int}{D f l l':Int}(hD:0<D)(h:zv0 X D f l)(h':Ge (λk=>f*X k-D*l'*bits k)):l'<=l:=by
 rcases Int.lt_or_le l l' with hl|hl
 ·exfalso
  refine Ge.not_lt (Ge.near (Ge.add h' (jch4 (c:=D*(l'-l-1)) (Int.mul_nonneg (Int.le_of_lt hD) (by omega)))) (zL.of_eq λk=>?_)) h.2
  (try dsimp only)
  grind
 ·exact hl
theorem zv0.unique{X:Nat->Int}{D f l l':Int}(hD:0<D)(h:zv0 X D f l)(h':zv0 X D f l'):l=l':=
 Int.le_antisymm (h'.le hD h.1) (h.le hD h'.1)
theorem Lt.near{f g:Nat->Int}(h:Lt f)(hn:zL f g):Lt g:=zm.near h hn.neg
def IsN(xd:Int)(X:Nat->Int)(rd:Int)(rt:List (Int×Int)):Prop:=js rd rt=true/\∃G,0<G/\xd=rd*G/\zL (λk=>G*JY rt k) X
theorem IsN.sg{xd rd m v s:Int}{X:Nat->Int}{rt:List (Int×Int)}(h:IsN xd X rd rt)(hs:jA (zO rt m [(v,1)] rd) s):Sg (λk=>m*X k-xd*v*bits k) s:=by
 obtain⟨_,G,hG,rfl,hn⟩:=h
 have h1:=Sg.smul hG hs.sg
 refine h1.near ((zL.of_eq λk=>?_).trans ((hn.smul m).sub (zL.refl λk=>rd*G*v*bits k)))
 (try dsimp only)
 rw[jba8,jca9]
 grind
theorem IsN.low{xd rd f l:Int}{X:Nat->Int}{rt:List (Int×Int)}(h:IsN xd X rd rt)(hb:jd0 rd rt f l):zv0 X xd f l:=by
 obtain⟨⟨s,h1,h2⟩,⟨t,h3,h4⟩,_⟩:=hb
 exact⟨(h.sg h2).ge h1,(h.sg h4).lt h3⟩
theorem jah7:∀(kv:List (Int×Int)) (r c:Int),r∉kv.map (·.1)->addS kv r c=kv++[(r,c)]
 | [],_,_,_=>rfl
 | (a,x)::t,r,c,h=>by
  unfold addS
  rw[if_neg (λe=>h (by simp[e])),jah7 t r c (λhm=>h (by simp[hm]))];rfl
theorem zm.le{f g:Nat->Int}(h:zm f)(h0:∀k,f k<=g k):zm g:=by
 obtain⟨D,k0,hD,h⟩:=h
 exact⟨D,k0,hD,λk hk=>Int.le_trans (h k hk) (Int.mul_le_mul_of_nonneg_left (h0 k) (Int.le_of_lt hD))⟩
theorem Sg.one{f:Nat->Int}{s:Int}(h:Sg f s)(hs:0<s):zm f:=by
 rcases h with⟨_,h⟩|⟨h,_⟩|⟨h,_⟩
 ·exact h
 ·omega
 ·omega
