import Derived.Test.YtphcodcdfeohhaaGreatDoorAsyToAsyW
import Derived.Test.YtphcodcdfeohhaaGreatDoorRootAToRootB
set_option linter.all false
namespace Go.Proofs.YtphcodcdfeohhaaGreatDoor
theorem jcz5{s r s' r':Nat}(hs:1<=s)(hs':1<=s')(hr:jm7 r)(hr':jm7 r')(h:s*s*r=s'*s'*r'):s=s'/\r=r':=by
 have hg:0<Nat.gcd s s':=Nat.gcd_pos_of_pos_left _ hs
 obtain⟨u,hu⟩:=Nat.gcd_dvd_left s s'
 obtain⟨v,hv⟩:=Nat.gcd_dvd_right s s'
 have hc:Nat.Coprime u v:=by
  have e:Nat.gcd s s'*Nat.gcd u v=Nat.gcd s s'*1:=by
   rw[<-Nat.gcd_mul_left,<-hu,<-hv,Nat.mul_one]
  exact Nat.eq_of_mul_eq_mul_left hg e
 generalize Nat.gcd s s'=g at *
 subst hu
 subst hv
 have h2:u*u*r=v*v*r':=by
  refine Nat.eq_of_mul_eq_mul_left (Nat.mul_pos hg hg) ?_
  have e1:g*g*(u*u*r)=g*u*(g*u)*r:=by simp only[Nat.mul_comm,Nat.mul_left_comm,Nat.mul_assoc]
  have e2:g*g*(v*v*r')=g*v*(g*v)*r':=by simp only[Nat.mul_comm,Nat.mul_left_comm,Nat.mul_assoc]
  rw[e1,e2,h]
 have hcc:Nat.Coprime (v*v) (u*u):=Nat.Coprime.mul_left (Nat.Coprime.mul_right hc.symm hc.symm) (Nat.Coprime.mul_right hc.symm hc.symm)
 have hv1:v=1:=by
  have d1:v*v∣r:=by
   refine Nat.Coprime.dvd_of_dvd_mul_left hcc ?_
   rw[h2];exact Nat.dvd_mul_right _ _
  rcases Nat.lt_or_ge v 2 with k|k
  ·have:v≠0:=by rintro rfl;simp at hs'
   omega
  ·exact absurd d1 (hr v k)
 have hu1:u=1:=by
  have d1:u*u∣r':=by
   refine Nat.Coprime.dvd_of_dvd_mul_left hcc.symm ?_
   rw[<-h2];exact Nat.dvd_mul_right _ _
  rcases Nat.lt_or_ge u 2 with k|k
  ·have:u≠0:=by rintro rfl;simp at hs
   omega
  ·exact absurd d1 (hr' u k)
 subst hv1
 subst hu1
 exact⟨rfl,by omega⟩
theorem jm7.mul{x y:Nat}(hx:jm7 x)(hy:jm7 y)(hc:Nat.Coprime x y)(hx0:1<=x)(hy0:1<=y):jm7 (x*y):=by
 intro e he hd
 have h1:e∣x*y:=Nat.dvd_trans (Nat.dvd_mul_right e e) hd
 have h2:Nat.gcd e (x*y)=Nat.gcd e x*Nat.gcd e y:=Nat.Coprime.gcd_mul e hc
 rw[Nat.gcd_eq_left h1] at h2
 have hdx:1<=Nat.gcd e x:=Nat.gcd_pos_of_pos_right _ hx0
 have hdy:1<=Nat.gcd e y:=Nat.gcd_pos_of_pos_right _ hy0
 have k1:Nat.gcd e x*Nat.gcd e x∣x:=by
  have c1:Nat.Coprime (Nat.gcd e x) y:=Nat.Coprime.coprime_dvd_left (Nat.gcd_dvd_right e x) hc
  refine Nat.Coprime.dvd_of_dvd_mul_right (Nat.Coprime.mul_left c1 c1) (Nat.dvd_trans ?_ hd)
  exact Nat.mul_dvd_mul (Nat.gcd_dvd_left e x) (Nat.gcd_dvd_left e x)
 have k2:Nat.gcd e y*Nat.gcd e y∣y:=by
  have c1:Nat.Coprime (Nat.gcd e y) x:=Nat.Coprime.coprime_dvd_left (Nat.gcd_dvd_right e y) hc.symm
  refine Nat.Coprime.dvd_of_dvd_mul_left (Nat.Coprime.mul_left c1 c1) (Nat.dvd_trans ?_ hd)
  exact Nat.mul_dvd_mul (Nat.gcd_dvd_left e y) (Nat.gcd_dvd_left e y)
 have j1:Nat.gcd e x<2:=by
  rcases Nat.lt_or_ge (Nat.gcd e x) 2 with k|k
  ·exact k
  ·exact absurd k1 (hx _ k)
 have j2:Nat.gcd e y<2:=by
  rcases Nat.lt_or_ge (Nat.gcd e y) 2 with k|k
  ·exact k
  ·exact absurd k2 (hy _ k)
 have e1:Nat.gcd e x=1:=by omega
 have e2:Nat.gcd e y=1:=by omega
 rw[e1,e2] at h2
 omega
theorem jm7.of_dvd{x y:Nat}(hy:jm7 y)(h:x∣y):jm7 x:=λe he hd=>hy e he (Nat.dvd_trans hd h)
theorem jct1{a b:Nat}(ha:1<=a)(hb:1<=b)(fa:jm7 a)(fb:jm7 b):jo (a*b)=(Nat.gcd a b,a/Nat.gcd a b*(b/Nat.gcd a b)):=by
 have hg:0<Nat.gcd a b:=Nat.gcd_pos_of_pos_left _ ha
 obtain⟨h1,h2,h3,_⟩:=JR (a*b) (Nat.mul_pos ha hb)
 have hx:=Nat.div_mul_cancel (Nat.gcd_dvd_left a b)
 have hy:=Nat.div_mul_cancel (Nat.gcd_dvd_right a b)
 have hc:Nat.Coprime (a/Nat.gcd a b) (b/Nat.gcd a b):=Nat.coprime_div_gcd_div_gcd hg
 have hx0:1<=a/Nat.gcd a b:=Nat.div_pos (Nat.le_of_dvd ha (Nat.gcd_dvd_left a b)) hg
 have hy0:1<=b/Nat.gcd a b:=Nat.div_pos (Nat.le_of_dvd hb (Nat.gcd_dvd_right a b)) hg
 have hf:=jm7.mul (fa.of_dvd ⟨_,hx.symm⟩) (fb.of_dvd ⟨_,hy.symm⟩) hc hx0 hy0
 have he:Nat.gcd a b*Nat.gcd a b*(a/Nat.gcd a b*(b/Nat.gcd a b))=a*b:=by
  generalize a/Nat.gcd a b=x at *
  generalize b/Nat.gcd a b=y at *
  generalize Nat.gcd a b=g at *
  rw[<-hx,<-hy]
  simp only[Nat.mul_comm,Nat.mul_left_comm,Nat.mul_assoc]
 obtain⟨e1,e2⟩:=jcz5 h3 hg h2 hf (h1.trans he.symm)
 exact Prod.ext e1 e2
def zn4(xt yt:List (Int×Int)):List (Int×Int):=xt.flatMap λt=>yt.map λu=>(t.1*u.1,t.2*u.2)
theorem jct6 {t:Int×Int} (ht:zu t.2):∀(yt kv:List (Int×Int)),(∀u∈yt,zu u.2)->ju kv (yt.map λu=>(t.1*u.1,t.2*u.2)) 1=Zo kv t yt
 | [],_,_=>rfl
 | u::yt,kv,h=>by
  have hu:=h u (by simp)
  have e:addRoot kv (t.1*u.1*1) (t.2*u.2)=addS kv (mulK t u) (jc6 t u):=by
   obtain⟨a,ha⟩:=Int.eq_ofNat_of_zero_le (show 0<=t.2 by have:=ht.1;omega)
   obtain⟨b,hb⟩:=Int.eq_ofNat_of_zero_le (show 0<=u.2 by have:=hu.1;omega)
   have ha1:1<=a:=by have:=ht.1;omega
   have hb1:1<=b:=by have:=hu.1;omega
   have fa:jm7 a:=by have:=ht.2.2;rwa [ha,Int.toNat_natCast] at this
   have fb:jm7 b:=by have:=hu.2.2;rwa [hb,Int.toNat_natCast] at this
   have hs:=jct1 ha1 hb1 fa fb
   unfold addRoot mulK jc6
   rw[ha,hb,show ∀x y:Int,jM [x,y]=Nat.gcd x.natAbs y.natAbs from λx y=>by unfold jM;simp,Int.natAbs_natCast,Int.natAbs_natCast,Int.toNat_natCast,Int.toNat_natCast,<-Int.natCast_mul,Int.toNat_natCast,hs,if_pos (by have:=Nat.mul_pos ha1 hb1;omega)]
   dsimp only
   rw[Int.mul_one]
  show ju (addRoot kv (t.1*u.1*1) (t.2*u.2)) (yt.map λu=>(t.1*u.1,t.2*u.2)) 1=_
  rw[e]
  exact jct6 ht yt _ (λu hu=>h u (by simp[hu]))
theorem jas3:∀(xt yt kv:List (Int×Int)),(∀t∈xt,zu t.2)->(∀u∈yt,zu u.2)->ju kv (zn4 xt yt) 1=Jq kv xt yt
 | [],_,_,_,_=>rfl
 | t::xt,yt,kv,h,h'=>by
  have e:zn4 (t::xt) yt=(yt.map λu=>(t.1*u.1,t.2*u.2))++zn4 xt yt:=rfl
  rw[e,zr7,jct6 (h t (by simp)) yt kv h',jas3 xt yt _ (λu hu=>h u (by simp[hu])) h']
  rfl
theorem jdf4{xd yd:Int}{xt yt:List (Int×Int)}(hx:js xd xt=true)(hy:js yd yt=true):zm8 (xd*yd) (zn4 xt yt)=jc7 xd xt yd yt:=by
 unfold zm8 jc7
 rw[hx,hy,jas3 xt yt [] (Jd hx).1 (Jd hy).1]
 rfl
theorem jcr8{kv:List (Int×Int)}(h:(kv.map (·.1)).Nodup):kv.Nodup:=by
 rw[List.nodup_iff_pairwise_ne] at *
 rw[List.pairwise_map] at h
 exact h.imp (λh e=>h (by rw[e]))
theorem jay1{kv:List (Int×Int)}(p:Int×Int->Bool)(h:(kv.map (·.1)).Nodup):((kv.filter p).map (·.1)).Nodup:=
 h.sublist (List.Sublist.map _ List.filter_sublist)
theorem jdd7{kv:List (Int×Int)}(h:(kv.map (·.1)).Nodup)(p:Int×Int):p∈kv.filter nz↔p.2≠0/\zb kv p.1=p.2:=by
 rw[List.mem_filter]
 constructor
 ·rintro⟨h1,h2⟩
  exact⟨by simpa [nz] using h2,zr h p h1⟩
 ·rintro⟨h1,h2⟩
  rcases js0 kv p.1 with h3|h3
  ·exact absurd (h2.symm.trans h3) h1
  ·rw[h2] at h3
   exact⟨h3,by simp[nz,h1]⟩
theorem jdc2{l l':List (Int×Int)}(h:(l.map (·.1)).Nodup)(h':(l'.map (·.1)).Nodup)(hp:l.Perm l')(r:Int):zb l r=zb l' r:=by
 rcases js0 l r with h1|h1
 ·rcases js0 l' r with h2|h2
  ·rw[h1,h2]
  ·exact zr h _ (hp.mem_iff.2 h2)
 ·exact(zr h' _ (hp.mem_iff.1 h1)).symm
theorem jdc5{kv kv':List (Int×Int)}(h:(kv.map (·.1)).Nodup)(h':(kv'.map (·.1)).Nodup)(he:∀r,zb kv r=zb kv' r)(den:Int):jY kv den=jY kv' den:=by
 have hp:(kv.filter nz).Perm (kv'.filter nz):=by
  refine(List.perm_ext_iff_of_nodup (jcr8 (jay1 _ h)) (jcr8 (jay1 _ h'))).2 (λp=>?_)
  rw[jdd7 h,jdd7 h',he]
 have hG:jU kv den=jU kv' den:=by
  unfold jU
  rw[jh5 ((hp.map (·.2)).append_right [den])]
 have hT:Qp kv den=Qp kv' den:=by
  unfold Qp zp
  rw[zt2 (hp.map (·.1)),hG]
  refine List.map_congr_left (λr _=>?_)
  rw[jdc2 (jay1 _ h) (jay1 _ h') hp r]
 unfold jY
 rw[hG,hT]
theorem jcg7(kv:List (Int×Int))(c n r:Int):zb (addRoot kv c n) r=zb kv r+(if 0<n then(if r=((jo n.toNat).2:Int)then c*((jo n.toNat).1:Int)else 0)else 0):=by
 unfold addRoot
 split
 ·rw[zy2]
 ·omega
def zr2(yd:Int)(a b:Int×Int)(xt:List (Int×Int)):List (Int×Int):=xt.flatMap λt=>[(t.1*a.1*yd,t.2*a.2),(-t.1*b.1*yd,t.2*b.2)]
theorem jcy4 (yd:Int) (a:Int×Int):∀(xt kv kv':List (Int×Int)),(∀r,zb kv r=zb kv' r)->∀r,zb (ju kv (zr2 yd a (0,1) xt) 1) r=zb (ju kv' (zn4 xt [(a.1*(1*yd),a.2)]) 1) r
 | [],_,_,h,r=>h r
 | t::xt,kv,kv',h,r=>by
  have e1:zr2 yd a (0,1) (t::xt)=(t.1*a.1*yd,t.2*a.2)::(-t.1*0*yd,t.2*1)::zr2 yd a (0,1) xt:=rfl
  have e2:zn4 (t::xt) [(a.1*(1*yd),a.2)]=(t.1*(a.1*(1*yd)),t.2*a.2)::zn4 xt [(a.1*(1*yd),a.2)]:=rfl
  rw[e1,e2]
  show zb (ju (addRoot (addRoot kv (t.1*a.1*yd*1) (t.2*a.2)) (-t.1*0*yd*1) (t.2*1)) (zr2 yd a (0,1) xt) 1) r=zb (ju (addRoot kv' (t.1*(a.1*(1*yd))*1) (t.2*a.2)) (zn4 xt [(a.1*(1*yd),a.2)]) 1) r
  refine jcy4 yd a xt _ _ (λq=>?_) r
  rw[jcg7,jcg7,jcg7,h q]
  have e3:-t.1*0*yd*1=0:=by simp
  have e4:t.1*a.1*yd*1=t.1*(a.1*(1*yd))*1:=by rw[Int.one_mul,Int.mul_assoc t.1]
  rw[e3,e4]
  simp
theorem jcy5 (yd:Int) (a b:Int×Int):∀xt:List (Int×Int),zr2 yd a b xt=zn4 xt [(a.1*(1*yd),a.2),(b.1*(-1*yd),b.2)]
 | []=>rfl
 | t::xt=>by
  have e1:zr2 yd a b (t::xt)=(t.1*a.1*yd,t.2*a.2)::(-t.1*b.1*yd,t.2*b.2)::zr2 yd a b xt:=rfl
  have e2:zn4 (t::xt) [(a.1*(1*yd),a.2),(b.1*(-1*yd),b.2)]=(t.1*(a.1*(1*yd)),t.2*a.2)::(t.1*(b.1*(-1*yd)),t.2*b.2)::zn4 xt [(a.1*(1*yd),a.2),(b.1*(-1*yd),b.2)]:=rfl
  rw[e1,e2,jcy5 yd a b xt]
  have e4:t.1*a.1*yd=t.1*(a.1*(1*yd)):=by rw[Int.one_mul,Int.mul_assoc t.1]
  have e5:-t.1*b.1*yd=t.1*(b.1*(-1*yd)):=by
   rw[Int.neg_mul,Int.neg_mul,Int.neg_mul,Int.one_mul,Int.mul_neg,Int.mul_neg,Int.mul_assoc t.1]
  rw[e4,e5]
theorem jdd9{xd yd:Int}{xt:List (Int×Int)}{a b:Int×Int}(hx:js xd xt=true)(hy:js yd [a,b]=true):zm8 (xd*(a.1*a.1*a.2-b.1*b.1*b.2)) (zr2 yd a b xt)=jn7 xd xt yd [a,b]:=by
 have hr:=(Jd hy).1
 have e:JD yd [a,b]=[(a.1*(1*yd),a.2),(b.1*(-1*yd),b.2)]:=rfl
 have n:zR [a,b]=a.1*a.1*a.2-b.1*b.1*b.2:=by
  show 1*a.1*a.1*a.2+(-1*b.1*b.1*b.2+0)=_
  rw[Int.one_mul,Int.neg_mul,Int.one_mul,Int.neg_mul,Int.neg_mul];omega
 unfold jn7 zm8
 rw[hx,hy,if_pos (show(true&&true)=true from rfl),if_neg (by simp),if_neg (by simp),e,n,jcy5,jas3 xt _ [] (Jd hx).1 (λu hu=>by
  rcases List.mem_cons.1 hu with rfl|hu
  ·exact hr a (by simp)
  ·rcases List.mem_cons.1 hu with rfl|hu
   ·exact hr b (by simp)
   ·simp at hu)]
theorem jdc6{xd yd:Int}{xt:List (Int×Int)}{a:Int×Int}(hx:js xd xt=true)(hy:js yd [a]=true):zm8 (xd*(a.1*a.1*a.2-0*0*1)) (zr2 yd a (0,1) xt)=jn7 xd xt yd [a]:=by
 have hr:=(Jd hy).1
 have e:JD yd [a]=[(a.1*(1*yd),a.2)]:=rfl
 have n:zR [a]=a.1*a.1*a.2-0*0*1:=by
  show 1*a.1*a.1*a.2+0=_
  rw[Int.one_mul];omega
 unfold jn7 zm8
 rw[hx,hy,if_pos (show(true&&true)=true from rfl),if_neg (by simp),if_neg (by simp),e,n,<-jas3 xt _ [] (Jd hx).1 (λu hu=>by
  rcases List.mem_cons.1 hu with rfl|hu
  ·exact hr a (by simp)
  ·simp at hu)]
 exact jdc5 (jp8 _ _ _ (by simp)) (jp8 _ _ _ (by simp)) (jcy4 yd a xt [] [] (λ_=>rfl)) _
theorem jbc5{xd yd:Int}{xt:List (Int×Int)}{c r:Int}(hx:js xd xt=true)(hyd:1<=yd/\yd<=100000)(hc:-100000<=c/\c<=100000)(hr:zu r):∀u∈xt,∀s:Int,(s=u.1\/s=-u.1)->(0<=u.2*r/\u.2*r<=100000000000)/\-1000000000000000000<=s*c*yd*((jo (u.2*r).toNat).1:Int)/\s*c*yd*((jo (u.2*r).toNat).1:Int)<=1000000000000000000:=by
 intro u hu s hs
 obtain⟨⟨a1,a2,a3,a4⟩,a5⟩:=(jz hx).2.2.2 u hu
 have fa:=((Jd hx).1 u hu).2.2
 obtain⟨b1,b2,fb⟩:=hr
 obtain⟨cu,ru⟩:=u
 dsimp only at *
 obtain⟨a,rfl⟩:=Int.eq_ofNat_of_zero_le (show 0<=ru by omega)
 obtain⟨b,rfl⟩:=Int.eq_ofNat_of_zero_le (show 0<=r by omega)
 rw[Int.toNat_natCast] at fa fb
 rw[<-Int.natCast_mul,Int.toNat_natCast,jct1 (by omega) (by omega) fa fb]
 have hg:Nat.gcd a b<=a:=Nat.gcd_le_left b (by omega)
 have h1:=jE (a:=s) (A:=100000) (by omega) hc
 have h2:=jE h1 (b:=yd) (B:=100000) (by omega)
 have h3:=jE h2 (b:=(Nat.gcd a b:Int)) (B:=1000) (by omega)
 have h4:a*b<=1000*1000:=Nat.mul_le_mul (by omega) (by omega)
 dsimp only
 generalize s*c*yd*(Nat.gcd a b:Int)=z at *
 generalize a*b=y at *
 omega
open Go.RowKit
def jK(c:Int):List (Int×Int):=if c=0 then [] else [(c,1)]
theorem ZC:jK 0=[]:=rfl
theorem za{c:Int}(h:c≠0):jK c=[(c,1)]:=if_neg h
theorem jbj2:jo 1=(1,1):=by decide +kernel
theorem Zj(a b:Int):jM [a,b]=Nat.gcd a.natAbs b.natAbs:=by
 unfold jM
 simp
theorem zc2(a:Int):jM [a]=a.natAbs:=by
 unfold jM
 simp
theorem Ja{d c:Int}:js d (jK c)=true↔(1<=d/\d<=100000)/\(-100000<=c/\c<=100000)/\jM [d,c]=1:=by
 by_cases hc:c=0
 ·subst hc
  rw[ZC,Zj]
  unfold js
  rw[List.map_nil,zc2]
  simp[zz,Qj]
 ·rw[za hc]
  unfold js
  simp[zz,Qj,okT,jbj2,hc]
  exact and_assoc
theorem jbz3(c:Int):jM [1,c]=1:=by rw[Zj];simp
def Ge(f:Nat->Int):Prop:=zm f\/QH f
def Lt(f:Nat->Int):Prop:=zm λk=>-f k
theorem Ge.not_lt{f:Nat->Int}(h:Ge f)(h':Lt f):False:=by
 rcases h with h|h
 ·exact h.not_neg h'
 ·exact zm.not_bdd h' h.neg
theorem Sg.ge{f:Nat->Int}{s:Int}(h:Sg f s)(hs:0<=s):Ge f:=by
 rcases h with⟨_,h⟩|⟨h,_⟩|⟨_,h⟩
 ·exact .inl h
 ·omega
 ·exact .inr h
theorem Sg.lt{f:Nat->Int}{s:Int}(h:Sg f s)(hs:s<0):Lt f:=by
 rcases h with⟨h,_⟩|⟨_,h⟩|⟨h,_⟩
 ·omega
 ·exact h
 ·omega
theorem Ge.near{f g:Nat->Int}(h:Ge f)(hn:zL f g):Ge g:=by
 rcases h with h|h
 ·exact .inl (h.near hn)
 ·exact .inr ((QH.add h hn.symm).congr λk=>by(try dsimp only);omega)
theorem Ge.add{f g:Nat->Int}(hf:Ge f)(hg:Ge g):Ge λk=>f k+g k:=by
 rcases hf with hf|hf<;>rcases hg with hg|hg
 ·exact .inl (hf.add hg)
 ·exact .inl (hf.near (QH.congr (λk=>by(try dsimp only);omega) hg.neg))
 ·exact .inl (hg.near (QH.congr (λk=>by(try dsimp only);omega) hf.neg))
 ·exact .inr (hf.add hg)
theorem Ge.smul{f:Nat->Int}{c:Int}(hc:0<c)(h:Ge f):Ge λk=>c*f k:=by
 rcases h with h|h
 ·exact .inl (h.smul hc)
 ·exact .inr (h.smul c)
theorem jaz9{c:Int}(hc:0<c):zm λk=>c*bits k:=⟨1,0,by omega,λk _=>by
 have:=Int.mul_le_mul_of_nonneg_right (show 1<=c by omega) (Int.le_of_lt (JF k))
 dsimp only
 omega⟩
theorem jch4{c:Int}(hc:0<=c):Ge λk=>c*bits k:=by
 rcases Int.lt_or_le 0 c with h|h
 ·exact .inl (jaz9 h)
 ·obtain rfl:c=0:=by omega
  exact .inr (QH.zero.congr λk=>by simp)
theorem jck2(k:Nat):rtA 1 k=bits k:=by
 unfold rtA
 rw[show(1:Int).toNat=1 from rfl,Nat.one_mul,jf8]
theorem jca9(c:Int)(k:Nat):JY [(c,1)] k=c*bits k:=by simp[JY,jck2]
def zv0(X:Nat->Int)(D f l:Int):Prop:=Ge (λk=>f*X k-D*l*bits k)/\Lt (λk=>f*X k-D*(l+1)*bits k)
theorem zv0.le{X:Nat->Int}{D f l l':Int}(hD:0<D)(h:zv0 X D f l)(h':Ge (λk=>f*X k-D*l'*bits k)):l'<=l:=by
 rcases Int.lt_or_le l l' with hl|hl
 ·exfalso
  refine Ge.not_lt (Ge.near (Ge.add h' (jch4 (c:=D*(l'-l-1)) (Int.mul_nonneg (Int.le_of_lt hD) (by omega)))) (zL.of_eq λk=>?_)) h.2
  (try dsimp only)
  grind
 ·exact hl
theorem zv0.unique{X:Nat->Int}{D f l l':Int}(hD:0<D)(h:zv0 X D f l)(h':zv0 X D f l'):l=l':=
 Int.le_antisymm (h'.le hD h.1) (h.le hD h'.1)
theorem Lt.near{f g:Nat->Int}(h:Lt f)(hn:zL f g):Lt g:=zm.near h hn.neg
def IsN(xd:Int)(X:Nat->Int)(rd:Int)(rt:List (Int×Int)):Prop:=js rd rt=true/\∃G,0<G/\xd=rd*G/\zL (λk=>G*JY rt k) X
theorem IsN.sg{xd rd m v s:Int}{X:Nat->Int}{rt:List (Int×Int)}(h:IsN xd X rd rt)(hs:jA (zO rt m [(v,1)] rd) s):Sg (λk=>m*X k-xd*v*bits k) s:=by
 obtain⟨_,G,hG,rfl,hn⟩:=h
 have h1:=Sg.smul hG hs.sg
 refine h1.near ((zL.of_eq λk=>?_).trans ((hn.smul m).sub (zL.refl λk=>rd*G*v*bits k)))
 (try dsimp only)
 rw[jba8,jca9]
 grind
theorem IsN.low{xd rd f l:Int}{X:Nat->Int}{rt:List (Int×Int)}(h:IsN xd X rd rt)(hb:jd0 rd rt f l):zv0 X xd f l:=by
 obtain⟨⟨s,h1,h2⟩,⟨t,h3,h4⟩,_⟩:=hb
 exact⟨(h.sg h2).ge h1,(h.sg h4).lt h3⟩
theorem jah7:∀(kv:List (Int×Int)) (r c:Int),r∉kv.map (·.1)->addS kv r c=kv++[(r,c)]
 | [],_,_,_=>rfl
 | (a,x)::t,r,c,h=>by
  unfold addS
  rw[if_neg (λe=>h (by simp[e])),jah7 t r c (λhm=>h (by simp[hm]))];rfl
theorem zm.le{f g:Nat->Int}(h:zm f)(h0:∀k,f k<=g k):zm g:=by
 obtain⟨D,k0,hD,h⟩:=h
 exact⟨D,k0,hD,λk hk=>Int.le_trans (h k hk) (Int.mul_le_mul_of_nonneg_left (h0 k) (Int.le_of_lt hD))⟩
theorem Sg.one{f:Nat->Int}{s:Int}(h:Sg f s)(hs:0<s):zm f:=by
 rcases h with⟨_,h⟩|⟨h,_⟩|⟨h,_⟩
 ·exact h
 ·omega
 ·omega
open LI
def jdh5(r:Int):Prop:=1<=r/\jm7 r.toNat
theorem zu.free{r:Int}(h:zu r):jdh5 r:=⟨h.1,h.2.2⟩
theorem zL.bdd{f g:Nat->Int}(h:zL f g):QH λk=>f k-g k:=h
theorem zL.unsmul{f g:Nat->Int}{c:Int}(hc:c≠0)(h:zL (λk=>c*f k) (λk=>c*g k)):zL f g:=by
 obtain⟨C,hC0,h⟩:=QH.nonneg h
 refine⟨C,λk=>?_⟩
 have h1:=h k
 dsimp only at h1 ⊢
 rw[<-Int.mul_sub] at h1
 generalize f k-g k=x at *
 have h2:(c*x).natAbs<=C.natAbs:=by omega
 rw[Int.natAbs_mul] at h2
 have h3:1*x.natAbs<=c.natAbs*x.natAbs:=Nat.mul_le_mul_right _ (by omega)
 omega
theorem jdf7{d:Int}{ts:List (Int×Int)}(h:js d ts=true):0<d:=by have:=(jz h).1;omega
theorem IsN.self{d:Int}{ts:List (Int×Int)}(h:js d ts=true):IsN d (JY ts) d ts:=⟨h,1,by omega,by omega,zL.of_eq λk=>by omega⟩
theorem IsN.pos{D d:Int}{X:Nat->Int}{ts:List (Int×Int)}(h:IsN D X d ts):0<D:=by
 obtain⟨h1,G,hG,rfl,_⟩:=h
 exact Int.mul_pos (jdf7 h1) hG
theorem IsN.near{D d:Int}{X Y:Nat->Int}{ts:List (Int×Int)}(h:IsN D X d ts)(hn:zL X Y):IsN D Y d ts:=by
 obtain⟨h1,G,hG,h2,h3⟩:=h
 exact⟨h1,G,hG,h2,h3.trans hn⟩
theorem IsN.ob{D d:Int}{X:Nat->Int}{ts:List (Int×Int)}(h:IsN D X d ts):OB X:=by
 obtain⟨_,G,_,_,h3⟩:=h
 exact OB.near (OB.smul G (jdb3 ts)) h3
theorem IsN.val{D d:Int}{X:Nat->Int}{ts:List (Int×Int)}(h:IsN D X d ts):zL (λk=>D*JY ts k) (λk=>d*X k):=by
 obtain⟨_,G,_,rfl,h3⟩:=h
 exact(zL.of_eq λk=>by(try dsimp only);grind).trans (h3.smul d)
theorem IsN.same{D D' d d':Int}{X X':Nat->Int}{ts ts':List (Int×Int)}(h:IsN D X d ts)(h':IsN D' X' d' ts')(hn:zL (λk=>D'*X k) (λk=>D*X' k)):d=d'/\ts=ts':=by
 have hD:=h.pos;have hD':=h'.pos
 refine jdd2 h.1 h'.1 (zL.unsmul (c:=D*D') (Int.mul_ne_zero (by omega) (by omega)) ?_)
 refine zL.trans (zL.of_eq λk=>?_) ((h.val.smul (D'*d')).trans (zL.trans (zL.of_eq λk=>?_) ((hn.smul (d*d')).trans (zL.trans (zL.of_eq λk=>?_) ((h'.val.symm.smul (D*d)).trans (zL.of_eq λk=>?_))))))<;>(try dsimp only)<;>grind
