import Derived.Test.YtphcodcdfeohhaaGreatDoorRefAToRefE
import Derived.Test.YtphcodcdfeohhaaGreatDoorAsyToAsyW
import Derived.Test.YtphcodcdfeohhaaGreatDoorQuoB
import Derived.Test.YtphcodcdfeohhaaGreatDoorMakeAToCom
import Derived.Test.YtphcodcdfeohhaaGreatDoorSignDToOrdA
import Derived.Test.YtphcodcdfeohhaaGreatDoorOrdBToSgn
import Derived.Test.YtphcodcdfeohhaaGreatDoorRootB
set_option linter.unusedVariables false
set_option linter.unusedSimpArgs false
namespace Go.Proofs.YtphcodcdfeohhaaGreatDoor
theorem jcc8{s r s' r':Nat}(hs:1<=s)(hs':1<=s')(hr:jm1 r)(hr':jm1 r')(h:s*s*r=s'*s'*r'):s=s'/\r=r':=by
 have hg:0<Nat.gcd s s':=Nat.gcd_pos_of_pos_left _ hs
 obtain⟨u,hu⟩:=Nat.gcd_dvd_left s s'
 obtain⟨v,hv⟩:=Nat.gcd_dvd_right s s'
 have hc:Nat.Coprime u v:=by
  have e:Nat.gcd s s'*Nat.gcd u v=Nat.gcd s s'*1:=by
   rw[<-Nat.gcd_mul_left,<-hu,<-hv,Nat.mul_one]
  exact Nat.eq_of_mul_eq_mul_left hg e
 generalize Nat.gcd s s'=g at *
 subst hu
 subst hv
 have h2:u*u*r=v*v*r':=by
  refine Nat.eq_of_mul_eq_mul_left (Nat.mul_pos hg hg) ?_
  have e1:g*g*(u*u*r)=g*u*(g*u)*r:=by simp only[Nat.mul_comm,Nat.mul_left_comm,Nat.mul_assoc]
  have e2:g*g*(v*v*r')=g*v*(g*v)*r':=by simp only[Nat.mul_comm,Nat.mul_left_comm,Nat.mul_assoc]
  rw[e1,e2,h]
 have hcc:Nat.Coprime (v*v) (u*u):=Nat.Coprime.mul_left (Nat.Coprime.mul_right hc.symm hc.symm) (Nat.Coprime.mul_right hc.symm hc.symm)
 have hv1:v=1:=by
  have d1:v*v∣r:=by
   refine Nat.Coprime.dvd_of_dvd_mul_left hcc ?_
   rw[h2];exact Nat.dvd_mul_right _ _
  rcases Nat.lt_or_ge v 2 with k|k
  ·have:v≠0:=by rintro rfl;simp at hs'
   omega
  ·exact absurd d1 (hr v k)
 have hu1:u=1:=by
  have d1:u*u∣r':=by
   refine Nat.Coprime.dvd_of_dvd_mul_left hcc.symm ?_
   rw[<-h2];exact Nat.dvd_mul_right _ _
  rcases Nat.lt_or_ge u 2 with k|k
  ·have:u≠0:=by rintro rfl;simp at hs
   omega
  ·exact absurd d1 (hr' u k)
 subst hv1
 subst hu1
 exact⟨rfl,by omega⟩
theorem jm1.mul{x y:Nat}(hx:jm1 x)(hy:jm1 y)(hc:Nat.Coprime x y)(hx0:1<=x)(hy0:1<=y):jm1 (x*y):=by
 intro e he hd
 have h1:e∣x*y:=Nat.dvd_trans (Nat.dvd_mul_right e e) hd
 have h2:Nat.gcd e (x*y)=Nat.gcd e x*Nat.gcd e y:=Nat.Coprime.gcd_mul e hc
 rw[Nat.gcd_eq_left h1] at h2
 have hdx:1<=Nat.gcd e x:=Nat.gcd_pos_of_pos_right _ hx0
 have hdy:1<=Nat.gcd e y:=Nat.gcd_pos_of_pos_right _ hy0
 have k1:Nat.gcd e x*Nat.gcd e x∣x:=by
  have c1:Nat.Coprime (Nat.gcd e x) y:=Nat.Coprime.coprime_dvd_left (Nat.gcd_dvd_right e x) hc
  refine Nat.Coprime.dvd_of_dvd_mul_right (Nat.Coprime.mul_left c1 c1) (Nat.dvd_trans ?_ hd)
  exact Nat.mul_dvd_mul (Nat.gcd_dvd_left e x) (Nat.gcd_dvd_left e x)
 have k2:Nat.gcd e y*Nat.gcd e y∣y:=by
  have c1:Nat.Coprime (Nat.gcd e y) x:=Nat.Coprime.coprime_dvd_left (Nat.gcd_dvd_right e y) hc.symm
  refine Nat.Coprime.dvd_of_dvd_mul_left (Nat.Coprime.mul_left c1 c1) (Nat.dvd_trans ?_ hd)
  exact Nat.mul_dvd_mul (Nat.gcd_dvd_left e y) (Nat.gcd_dvd_left e y)
 have j1:Nat.gcd e x<2:=by
  rcases Nat.lt_or_ge (Nat.gcd e x) 2 with k|k
  ·exact k
  ·exact absurd k1 (hx _ k)
 have j2:Nat.gcd e y<2:=by
  rcases Nat.lt_or_ge (Nat.gcd e y) 2 with k|k
  ·exact k
  ·exact absurd k2 (hy _ k)
 have e1:Nat.gcd e x=1:=by omega
 have e2:Nat.gcd e y=1:=by omega
 rw[e1,e2] at h2
 omega
theorem jm1.of_dvd{x y:Nat}(hy:jm1 y)(h:x∣y):jm1 x:=fun e he hd=>hy e he (Nat.dvd_trans hd h)
theorem jav1{a b:Nat}(ha:1<=a)(hb:1<=b)(fa:jm1 a)(fb:jm1 b):jb0 (a*b)=(Nat.gcd a b,a/Nat.gcd a b*(b/Nat.gcd a b)):=by
 have hg:0<Nat.gcd a b:=Nat.gcd_pos_of_pos_left _ ha
 obtain⟨h1,h2,h3,_⟩:=jk8 (a*b) (Nat.mul_pos ha hb)
 have hx:=Nat.div_mul_cancel (Nat.gcd_dvd_left a b)
 have hy:=Nat.div_mul_cancel (Nat.gcd_dvd_right a b)
 have hc:Nat.Coprime (a/Nat.gcd a b) (b/Nat.gcd a b):=Nat.coprime_div_gcd_div_gcd hg
 have hx0:1<=a/Nat.gcd a b:=Nat.div_pos (Nat.le_of_dvd ha (Nat.gcd_dvd_left a b)) hg
 have hy0:1<=b/Nat.gcd a b:=Nat.div_pos (Nat.le_of_dvd hb (Nat.gcd_dvd_right a b)) hg
 have hf:=jm1.mul (fa.of_dvd ⟨_,hx.symm⟩) (fb.of_dvd ⟨_,hy.symm⟩) hc hx0 hy0
 have he:Nat.gcd a b*Nat.gcd a b*(a/Nat.gcd a b*(b/Nat.gcd a b))=a*b:=by
  generalize a/Nat.gcd a b=x at *
  generalize b/Nat.gcd a b=y at *
  generalize Nat.gcd a b=g at *
  rw[<-hx,<-hy]
  simp only[Nat.mul_comm,Nat.mul_left_comm,Nat.mul_assoc]
 obtain⟨e1,e2⟩:=jcc8 h3 hg h2 hf (h1.trans he.symm)
 exact Prod.ext e1 e2
def js5(xt yt:List (Int×Int)):List (Int×Int):=xt.flatMap fun t=>yt.map fun u=>(t.1*u.1,t.2*u.2)
theorem jbc4 {t:Int×Int} (ht:jg0 t.2):∀(yt kv:List (Int×Int)),(∀u∈yt,jg0 u.2)->jb6 kv (yt.map fun u=>(t.1*u.1,t.2*u.2)) 1=jp1 kv t yt
 | [],_,_=>rfl
 | u::yt,kv,h=>by
  have hu:=h u (by simp)
  have e:addRoot kv (t.1*u.1*1) (t.2*u.2)=addS kv (zt1 t u) (zg7 t u):=by
   obtain⟨a,ha⟩:=Int.eq_ofNat_of_zero_le (show 0<=t.2 by have:=ht.1;omega)
   obtain⟨b,hb⟩:=Int.eq_ofNat_of_zero_le (show 0<=u.2 by have:=hu.1;omega)
   have ha1:1<=a:=by have:=ht.1;omega
   have hb1:1<=b:=by have:=hu.1;omega
   have fa:jm1 a:=by have:=ht.2.2;rwa [ha,Int.toNat_natCast] at this
   have fb:jm1 b:=by have:=hu.2.2;rwa [hb,Int.toNat_natCast] at this
   have hs:=jav1 ha1 hb1 fa fb
   unfold addRoot zt1 zg7
   rw[ha,hb,show ∀x y:Int,jd2 [x,y]=Nat.gcd x.natAbs y.natAbs from fun x y=>by unfold jd2;simp,Int.natAbs_natCast,Int.natAbs_natCast,Int.toNat_natCast,Int.toNat_natCast,<-Int.natCast_mul,Int.toNat_natCast,hs,if_pos (by have:=Nat.mul_pos ha1 hb1;omega)]
   dsimp only
   rw[Int.mul_one]
  show jb6 (addRoot kv (t.1*u.1*1) (t.2*u.2)) (yt.map fun u=>(t.1*u.1,t.2*u.2)) 1=_
  rw[e]
  exact jbc4 ht yt _ (fun u hu=>h u (by simp[hu]))
theorem jak3:∀(xt yt kv:List (Int×Int)),(∀t∈xt,jg0 t.2)->(∀u∈yt,jg0 u.2)->jb6 kv (js5 xt yt) 1=jj3 kv xt yt
 | [],_,_,_,_=>rfl
 | t::xt,yt,kv,h,h'=>by
  have e:js5 (t::xt) yt=(yt.map fun u=>(t.1*u.1,t.2*u.2))++js5 xt yt:=rfl
  rw[e,jaf9,jbc4 (h t (by simp)) yt kv h',jak3 xt yt _ (fun u hu=>h u (by simp[hu])) h']
  rfl
theorem jff8{xd yd:Int}{xt yt:List (Int×Int)}(hx:jb3 xd xt=true)(hy:jb3 yd yt=true):jab3 (xd*yd) (js5 xt yt)=zd1 xd xt yd yt:=by
 unfold jab3 zd1
 rw[hx,hy,jak3 xt yt [] (jc9 hx).1 (jc9 hy).1]
 rfl
theorem jag1{kv:List (Int×Int)}(h:(kv.map (·.1)).Nodup):kv.Nodup:=by
 rw[List.nodup_iff_pairwise_ne] at *
 rw[List.pairwise_map] at h
 exact h.imp (fun h e=>h (by rw[e]))
theorem zm5{kv:List (Int×Int)}(p:Int×Int->Bool)(h:(kv.map (·.1)).Nodup):((kv.filter p).map (·.1)).Nodup:=
 h.sublist (List.Sublist.map _ List.filter_sublist)
theorem jfa9{kv:List (Int×Int)}(h:(kv.map (·.1)).Nodup)(p:Int×Int):p∈kv.filter nz↔p.2≠0/\jd4 kv p.1=p.2:=by
 rw[List.mem_filter]
 constructor
 ·rintro⟨h1,h2⟩
  exact⟨by simpa [nz] using h2,jd5 h p h1⟩
 ·rintro⟨h1,h2⟩
  rcases jy7 kv p.1 with h3|h3
  ·exact absurd (h2.symm.trans h3) h1
  ·rw[h2] at h3
   exact⟨h3,by simp[nz,h1]⟩
theorem jdk2{l l':List (Int×Int)}(h:(l.map (·.1)).Nodup)(h':(l'.map (·.1)).Nodup)(hp:l.Perm l')(r:Int):jd4 l r=jd4 l' r:=by
 rcases jy7 l r with h1|h1
 ·rcases jy7 l' r with h2|h2
  ·rw[h1,h2]
  ·exact jd5 h _ (hp.mem_iff.2 h2)
 ·exact(jd5 h' _ (hp.mem_iff.1 h1)).symm
theorem jdn9{kv kv':List (Int×Int)}(h:(kv.map (·.1)).Nodup)(h':(kv'.map (·.1)).Nodup)(he:∀r,jd4 kv r=jd4 kv' r)(den:Int):jf3 kv den=jf3 kv' den:=by
 have hp:(kv.filter nz).Perm (kv'.filter nz):=by
  refine(List.perm_ext_iff_of_nodup (jag1 (zm5 _ h)) (jag1 (zm5 _ h'))).2 (fun p=>?_)
  rw[jfa9 h,jfa9 h',he]
 have hG:jd8 kv den=jd8 kv' den:=by
  unfold jd8
  rw[zr0 ((hp.map (·.2)).append_right [den])]
 have hT:zg2 kv den=zg2 kv' den:=by
  unfold zg2 jg5
  rw[jag5 (hp.map (·.1)),hG]
  refine List.map_congr_left (fun r _=>?_)
  rw[jdk2 (zm5 _ h) (zm5 _ h') hp r]
 unfold jf3
 rw[hG,hT]
open Go.RowKit
def ratT(c:Int):List (Int×Int):=if c=0 then [] else [(c,1)]
theorem jdr1:ratT 0=[]:=rfl
theorem jbv0{c:Int}(h:c≠0):ratT c=[(c,1)]:=if_neg h
theorem jfk9:jb0 1=(1,1):=by decide +kernel
theorem jbf5(a b:Int):jd2 [a,b]=Nat.gcd a.natAbs b.natAbs:=by
 unfold jd2
 simp
theorem jcj2(a:Int):jd2 [a]=a.natAbs:=by
 unfold jd2
 simp
theorem jdn1{d c:Int}:jb3 d (ratT c)=true↔(1<=d/\d<=100000)/\(-100000<=c/\c<=100000)/\jd2 [d,c]=1:=by
 by_cases hc:c=0
 ·subst hc
  rw[jdr1,jbf5]
  unfold jb3
  rw[List.map_nil,jcj2]
  simp[inB,jv9]
 ·rw[jbv0 hc]
  unfold jb3
  simp[inB,jv9,okT,jfk9,hc]
  exact and_assoc
theorem jdy9(c:Int):jd2 [1,c]=1:=by rw[jbf5];simp
def Ge(f:Nat->Int):Prop:=jg4 f\/Bdd f
def Lt(f:Nat->Int):Prop:=jg4 fun k=>-f k
theorem Ge.not_lt{f:Nat->Int}(h:Ge f)(h':Lt f):False:=by
 rcases h with h|h
 ·exact h.not_neg h'
 ·exact jg4.not_bdd h' h.neg
theorem Sg.ge{f:Nat->Int}{s:Int}(h:Sg f s)(hs:0<=s):Ge f:=by
 rcases h with⟨_,h⟩|⟨h,_⟩|⟨_,h⟩
 ·exact .inl h
 ·omega
 ·exact .inr h
theorem Sg.lt{f:Nat->Int}{s:Int}(h:Sg f s)(hs:s<0):Lt f:=by
 rcases h with⟨h,_⟩|⟨_,h⟩|⟨h,_⟩
 ·omega
 ·exact h
 ·omega
theorem Ge.near{f g:Nat->Int}(h:Ge f)(hn:jf8 f g):Ge g:=by
 rcases h with h|h
 ·exact .inl (h.near hn)
 ·exact .inr ((Bdd.add h hn.symm).congr fun k=>by(try dsimp only);omega)
theorem Ge.add{f g:Nat->Int}(hf:Ge f)(hg:Ge g):Ge fun k=>f k+g k:=by
 rcases hf with hf|hf<;>rcases hg with hg|hg
 ·exact .inl (hf.add hg)
 ·exact .inl (hf.near (Bdd.congr (fun k=>by(try dsimp only);omega) hg.neg))
 ·exact .inl (hg.near (Bdd.congr (fun k=>by(try dsimp only);omega) hf.neg))
 ·exact .inr (hf.add hg)
theorem Ge.smul{f:Nat->Int}{c:Int}(hc:0<c)(h:Ge f):Ge fun k=>c*f k:=by
 rcases h with h|h
 ·exact .inl (h.smul hc)
 ·exact .inr (h.smul c)
theorem jcv8{c:Int}(hc:0<c):jg4 fun k=>c*bits k:=⟨1,0,by omega,fun k _=>by
 have:=Int.mul_le_mul_of_nonneg_right (show 1<=c by omega) (Int.le_of_lt (js0 k))
 dsimp only
 omega⟩
theorem jfh1{c:Int}(hc:0<=c):Ge fun k=>c*bits k:=by
 rcases Int.lt_or_le 0 c with h|h
 ·exact .inl (jcv8 h)
 ·obtain rfl:c=0:=by omega
  exact .inr (Bdd.zero.congr fun k=>by simp)
theorem jfk5(k:Nat):rtA 1 k=bits k:=by
 unfold rtA
 rw[show(1:Int).toNat=1 from rfl,Nat.one_mul,jaa8]
theorem jcm1(c:Int)(k:Nat):jj2 [(c,1)] k=c*bits k:=by simp[jj2,jfk5]
def jbc0(X:Nat->Int)(D f l:Int):Prop:=Ge (fun k=>f*X k-D*l*bits k)/\Lt (fun k=>f*X k-D*(l+1)*bits k)
theorem jbc0.le{X:Nat->Int}{D f l l':Int}(hD:0<D)(h:jbc0 X D f l)(h':Ge (fun k=>f*X k-D*l'*bits k)):l'<=l:=by
 rcases Int.lt_or_le l l' with hl|hl
 ·exfalso
  refine Ge.not_lt (Ge.near (Ge.add h' (jfh1 (c:=D*(l'-l-1)) (Int.mul_nonneg (Int.le_of_lt hD) (by omega)))) (jf8.of_eq fun k=>?_)) h.2
  (try dsimp only)
  grind
 ·exact hl
theorem jbc0.unique{X:Nat->Int}{D f l l':Int}(hD:0<D)(h:jbc0 X D f l)(h':jbc0 X D f l'):l=l':=
 Int.le_antisymm (h'.le hD h.1) (h.le hD h'.1)
theorem Lt.near{f g:Nat->Int}(h:Lt f)(hn:jf8 f g):Lt g:=jg4.near h hn.neg
def IsN(xd:Int)(X:Nat->Int)(rd:Int)(rt:List (Int×Int)):Prop:=jb3 rd rt=true/\∃G,0<G/\xd=rd*G/\jf8 (fun k=>G*jj2 rt k) X
theorem IsN.sg{xd rd m v s:Int}{X:Nat->Int}{rt:List (Int×Int)}(h:IsN xd X rd rt)(hs:jc1 (jh2 rt m [(v,1)] rd) s):Sg (fun k=>m*X k-xd*v*bits k) s:=by
 obtain⟨_,G,hG,rfl,hn⟩:=h
 have h1:=Sg.smul hG hs.sg
 refine h1.near ((jf8.of_eq fun k=>?_).trans ((hn.smul m).sub (jf8.refl fun k=>rd*G*v*bits k)))
 (try dsimp only)
 rw[jbg8,jcm1]
 grind
theorem IsN.low{xd rd f l:Int}{X:Nat->Int}{rt:List (Int×Int)}(h:IsN xd X rd rt)(hb:zb0 rd rt f l):jbc0 X xd f l:=by
 obtain⟨⟨s,h1,h2⟩,⟨t,h3,h4⟩,_⟩:=hb
 exact⟨(h.sg h2).ge h1,(h.sg h4).lt h3⟩
theorem jbc6:∀(kv:List (Int×Int)) (r c:Int),r∉kv.map (·.1)->addS kv r c=kv++[(r,c)]
 | [],_,_,_=>rfl
 | (a,x)::t,r,c,h=>by
  unfold addS
  rw[if_neg (fun e=>h (by simp[e])),jbc6 t r c (fun hm=>h (by simp[hm]))];rfl
theorem jay0:∀(ts kv:List (Int×Int)) (m:Int),(∀t∈ts,jg0 t.2)->(ts.map (·.2)).Nodup->(∀t∈ts,t.2∉kv.map (·.1))->jb6 kv ts m=kv++ts.map (fun t=>(t.2,t.1*m))
 | [],kv,m,_,_,_=>by simp[jb6]
 | t::ts,kv,m,h1,h2,h3=>by
  have hr:=h1 t (by simp)
  rw[List.map_cons,List.nodup_cons] at h2
  have e:addRoot kv (t.1*m) t.2=kv++[(t.2,t.1*m)]:=by
   unfold addRoot
   rw[if_pos (by have:=hr.1;omega),jbk4 _ (by have:=hr.1;omega) hr.2.2]
   dsimp only
   rw[Int.toNat_of_nonneg (by have:=hr.1;omega),jbc6 _ _ _ (h3 t (by simp))];simp
  have:=jay0 ts (addRoot kv (t.1*m) t.2) m (fun u hu=>h1 u (by simp[hu])) h2.2 (fun u hu=>by
   rw[e,List.map_append,List.mem_append]
   rintro(h|h)
   ·exact h3 u (by simp[hu]) h
   ·simp only[List.map_cons,List.map_nil,List.mem_singleton] at h
    exact h2.1 (by rw[<-h];exact List.mem_map_of_mem hu))
  show jb6 (addRoot kv (t.1*m) t.2) ts m=_
  rw[this,e];simp
theorem jcz5{rd xd:Int}{rt:List (Int×Int)}{X:Nat->Int}(h:IsN xd X rd rt):(jd6 1 [] rd rt (-1)).2.2=0/\IsN xd (fun k=>-X k) (jd6 1 [] rd rt (-1)).1 (jd6 1 [] rd rt (-1)).2.1:=by
 obtain⟨hok,G,hG,hGe,hn⟩:=h
 have hp:=jb2 hok
 obtain⟨hr1,hr2⟩:=jc9 hok
 have h0:jb3 1 []=true:=by decide +kernel
 have hcode:(jd6 1 [] rd rt (-1)).2.2=0:=by
  unfold jd6
  rw[h0,hok]
  simp only[Bool.and_self,if_true]
  have e:jb6 (jb6 [] [] rd) rt (-1*1)=rt.map (fun t=>(t.2,t.1*(-1*1))):=by
   rw[show jb6 [] [] rd=[] from rfl,jay0 rt [] _ hr1 hr2 (by simp)];rfl
  rw[e]
  have hk:(rt.map (fun t=>(t.2,t.1*(-1*1)))).map (·.1)=rt.map (·.2):=by rw[List.map_map];rfl
  refine jcn6 (by rw[hk];exact hr2) (by rw[List.length_map];exact hp.2.2.1) (fun r=>?_) (fun r hr=>?_) (by omega)
  ·rcases jy7 (rt.map (fun t=>(t.2,t.1*(-1*1)))) r with h|h
   ·rw[h];omega
   ·obtain⟨t,ht,he⟩:=List.mem_map.1 h
    injection he with _ he
    have:=(hp.2.2.2 t ht).1.2.2.2
    rw[<-he];omega
  ·rw[hk] at hr
   obtain⟨t,ht,rfl⟩:=List.mem_map.1 hr
   exact(hr1 t ht).2.1
 refine⟨hcode,?_⟩
 obtain⟨d,t,c,he⟩:∃d t c,jd6 1 [] rd rt (-1)=(d,t,c):=⟨_,_,_,rfl⟩
 rw[he] at hcode ⊢
 dsimp only at hcode ⊢
 subst hcode
 obtain⟨_,_,G2,hG2,hGe2,hGn2⟩:=jbt7 he
 refine⟨jaz5 he,G2*G,Int.mul_pos hG2 hG,by rw[hGe,<-Int.mul_assoc,<-hGe2,Int.one_mul],?_⟩
 refine jf8.trans (jf8.of_eq fun k=>?_) ((hGn2.smul G).trans (jf8.trans (jf8.of_eq fun k=>?_) hn.neg))
 ·(try dsimp only);grind
 ·(try dsimp only);rw[jfa2];grind
theorem jg4.le{f g:Nat->Int}(h:jg4 f)(h0:∀k,f k<=g k):jg4 g:=by
 obtain⟨D,k0,hD,h⟩:=h
 exact⟨D,k0,hD,fun k hk=>Int.le_trans (h k hk) (Int.mul_le_mul_of_nonneg_left (h0 k) (Int.le_of_lt hD))⟩
theorem Sg.one{f:Nat->Int}{s:Int}(h:Sg f s)(hs:0<s):jg4 f:=by
 rcases h with⟨_,h⟩|⟨h,_⟩|⟨h,_⟩
 ·exact h
 ·omega
 ·omega
open LI
def zc7(r:Int):Prop:=1<=r/\jm1 r.toNat
theorem jg0.free{r:Int}(h:jg0 r):zc7 r:=⟨h.1,h.2.2⟩
theorem jak4:∀(ts:List (Int×Int)),(∀t∈ts,zc7 t.2)->∃qs:List Nat,(∀p∈qs,Pr p)/\∀t∈ts,∃l:List Nat,(∀p∈l,Pr p)/\l.Nodup/\(∀p∈l,p∈qs)/\prod l=t.2.toNat
 | [],_=>⟨[],by simp,by simp⟩
 | t::ts,h=>by
  obtain⟨qs,h1,h3⟩:=jak4 ts (fun u hu=>h u (List.mem_cons_of_mem _ hu))
  obtain⟨g1,g3⟩:=h t (by simp)
  obtain⟨l,hl,hs,hp⟩:=jam7 t.2.toNat (by omega) g3
  refine⟨l++qs,?_,?_⟩
  ·intro p hp
   rcases List.mem_append.1 hp with h|h
   ·exact hl p h
   ·exact h1 p h
  ·intro u hu
   rcases List.mem_cons.1 hu with rfl|hu
   ·exact⟨l,hl,hs.imp (fun h=>by omega),fun p hp=>List.mem_append.2 (.inl hp),hp⟩
   ·obtain⟨l',k1,k2,k3,k4⟩:=h3 u hu
    exact⟨l',k1,k2,fun p hp=>List.mem_append.2 (.inr (k3 p hp)),k4⟩
theorem jc1.exists_any(ts:List (Int×Int))(hr:∀t∈ts,zc7 t.2)(hk:(ts.map (·.2)).Nodup):∃K,ts.filter nzT=[]\/jc5 (ts.filter nzT) K≠0:=by
 by_cases h:ts.filter nzT=[]
 ·exact⟨0,.inl h⟩
 ·have hr':∀t∈ts.filter nzT,zc7 t.2:=fun t ht=>hr t (List.mem_filter.1 ht).1
  obtain⟨qs,h1,h3⟩:=jak4 (ts.filter nzT) hr'
  obtain⟨Y,_,hd⟩:=jak9 (ps:=zy7 qs) (fun p hp=>h1 p (zb7.1 hp)) (zt4 qs) h (fun t ht=>by
   obtain⟨l,g1,g2,g3,g4⟩:=h3 t ht
   exact jca2 (fun p hp=>h1 p (zb7.1 hp)) g1 g2 (fun p hp=>zb7.2 (g3 p hp)) g4) (fun t ht e=>by
   have h2:=(List.mem_filter.1 ht).2
   rw[nzT,e] at h2
   cases h2) (fun t ht=>by have:=(hr' t ht).1;omega) (List.Nodup.sublist (List.filter_sublist.map _) hk)
  generalize (zy2 (zy7 qs).length (ts.filter nzT)+(ts.filter nzT).length)*Y+2*(zy7 qs).length*((conv (ts.filter nzT)).map fun t=>t.1.natAbs*t.2).sum*Y=Z at hd
  exact⟨Z+1,.inr (hd (Z+1) (by have:=jdd3 (Z+1);omega))⟩
theorem jdt6{kv:List (Int×Int)}(hn:(kv.map (·.1)).Nodup)(hf:∀r∈kv.map (·.1),zc7 r)(h:Bdd (jy2 kv))(r:Int):jd4 kv r=0:=by
 have hk:(kv.map jv8).map (·.2)=kv.map (·.1):=by rw[List.map_map];rfl
 obtain⟨K,hK⟩:=jc1.exists_any (kv.map jv8) (fun t ht=>hf _ (by rw[<-hk];exact List.mem_map_of_mem ht)) (by rw[hk];exact hn)
 have hb:Bdd (jj2 (kv.map jv8)):=h.congr fun k=>(jbs3 kv k).symm
 have hz:(kv.map jv8).filter nzT=[]:=by
  rcases hK with h1|h1
  ·exact h1
  ·exfalso
   rcases jz3 ((kv.map jv8).filter nzT) K with h2|h2|h2
   ·exact(zp6 h2).not_bdd (hb.congr fun k=>(zh3 _ k).symm)
   ·exact(zp5 h2).not_bdd (hb.neg.congr fun k=>by rw[zh3 _ k])
   ·exact h1 h2
 rcases jy7 kv r with h1|h1
 ·exact h1
 ·rcases Decidable.em (jd4 kv r=0)with h3|h3
  ·exact h3
  ·have h4:(jd4 kv r,r)∈(kv.map jv8).filter nzT:=List.mem_filter.2 ⟨List.mem_map.2 ⟨_,h1,rfl⟩,by simp[nzT,h3]⟩
   rw[hz] at h4;cases h4
def jaj2(kv:List (Int×Int))(m:Int):List (Int×Int):=kv.map fun p=>(p.1,p.2*m)
theorem jba0(kv:List (Int×Int))(m:Int):(jaj2 kv m).map (·.1)=kv.map (·.1):=by unfold jaj2;rw[List.map_map];rfl
theorem jbf7:∀(kv:List (Int×Int)) (m r:Int),jd4 (jaj2 kv m) r=jd4 kv r*m
 | [],m,r=>by show(0:Int)=0*m;omega
 | (a,x)::t,m,r=>by
  show(if r=a then x*m else jd4 (jaj2 t m) r)=(if r=a then x else jd4 t r)*m
  rw[jbf7 t m r]
  split<;>rfl
theorem jbg7:∀(kv:List (Int×Int)) (m:Int) (k:Nat),jy2 (jaj2 kv m) k=m*jy2 kv k
 | [],m,k=>by show(0:Int)=m*0;omega
 | p::t,m,k=>by
  show jy2 ((p.1,p.2*m)::jaj2 t m) k=_
  rw[jp8,jp8,jbg7 t m k,Int.mul_add,Int.mul_comm p.2 m,Int.mul_assoc]
theorem jf8.bdd{f g:Nat->Int}(h:jf8 f g):Bdd fun k=>f k-g k:=h
theorem jdj7{kv:List (Int×Int)}{ts:List (Int×Int)}{m den:Int}(hn:(kv.map (·.1)).Nodup)(hf:∀r∈kv.map (·.1),zc7 r)(ht:∀t∈ts,zc7 t.2)(h:jf8 (fun k=>m*jy2 kv k) (fun k=>den*jj2 ts k))(r:Int):jd4 kv r*m=cf ts r*den:=by
 have hk:=zh8 (P:=zc7) ts (jaj2 kv m) (-den) (by rw[jba0];exact hn) (by rw[jba0];exact hf) ht
 have hz:=jdt6 hk.1 hk.2 (Bdd.congr (fun k=>by(try dsimp only);rw[jad2,jbg7,Int.neg_mul];omega) h.bdd) r
 rw[jac7,jbf7,Int.mul_neg] at hz
 omega
theorem jcj1{n:Nat}{l:List Int}(h:∀x∈l,n∣x.natAbs):n∣jd2 l:=by
 have key:∀(l:List Int) (g:Nat),n∣g->(∀x∈l,n∣x.natAbs)->n∣l.foldl (fun g x=>Nat.gcd g x.natAbs) g:=fun l=>by
  induction l with
  | nil=>intro g hg _;exact hg
  | cons x l ih=>intro g hg h;exact ih _ (Nat.dvd_gcd hg (h x (by simp))) (fun y hy=>h y (List.mem_cons_of_mem _ hy))
 exact key l 0 (Nat.dvd_zero n) h
theorem jay7(m:Int)(l:List Int):jd2 (l.map fun x=>x*m)=jd2 l*m.natAbs:=by
 have key:∀(l:List Int) (g:Nat),(l.map fun x=>x*m).foldl (fun g x=>Nat.gcd g x.natAbs) (g*m.natAbs)=l.foldl (fun g x=>Nat.gcd g x.natAbs) g*m.natAbs:=fun l=>by
  induction l with
  | nil=>intro g;rfl
  | cons x l ih=>
   intro g
   rw[List.map_cons,List.foldl_cons,List.foldl_cons,Int.natAbs_mul,Nat.gcd_mul_right]
   exact ih _
 have:=key l 0
 rw[Nat.zero_mul] at this
 exact this
theorem jdd6:∀ {ts:List (Int×Int)} {last:Int},jv9 last ts=true->(ts.map (·.2)).Pairwise (fun a b=>a<=b)
 | [],_,_=>by simp
 | t::ts,last,h=>by
  rw[List.map_cons,List.pairwise_cons]
  refine⟨fun r hr=>?_,jdd6 (zd0 h)⟩
  obtain⟨u,hu,rfl⟩:=List.mem_map.1 hr
  have:=(zm3 ts t.2 (zd0 h) u hu).1
  omega
theorem jas8:∀(ts:List (Int×Int)) (G r:Int),(ts.map (·.2)).Nodup->jd4 (ts.map fun t=>(t.2,t.1*G)) r=cf ts r*G
 | [],G,r,_=>by show(0:Int)=0*G;omega
 | t::ts,G,r,h=>by
  rw[List.map_cons,List.nodup_cons] at h
  rw[List.map_cons,zm2,Int.add_mul]
  show(if r=t.2 then t.1*G else jd4 (ts.map fun t=>(t.2,t.1*G)) r)=_
  rw[jas8 ts G r h.2]
  split
  ·rename_i e
   rw[jbb5 ts r (fun u hu e'=>h.1 (by rw[<-e,<-e'];exact List.mem_map_of_mem hu))];omega
  ·omega
theorem jcn0{d:Int}{ts:List (Int×Int)}(h:jb3 d ts=true):ts.any jf7=false:=by
 rw[List.any_eq_false]
 intro t ht
 obtain⟨a1,a2,a3,a4⟩:=((jb2 h).2.2.2 t ht).1
 have e:inB t.1 (-100000) 100000=true:=by simp[inB];omega
 unfold jf7
 rw[e]
 simp;omega
theorem jcn7{d G:Int}{ts:List (Int×Int)}(ho:jb3 d ts=true)(hG:G≠0):jf3 (ts.map fun t=>(t.2,t.1*G)) (d*G)=(d,ts,0):=by
 obtain⟨p1,p2,p3,p4⟩:=jb2 ho
 obtain⟨c1,c2⟩:=jad4 ho
 have hnd:=(jc9 ho).2
 have hnz:(ts.map fun t=>(t.2,t.1*G)).filter nz=ts.map fun t=>(t.2,t.1*G):=by
  rw[List.filter_eq_self]
  intro p hp
  obtain⟨t,ht,rfl⟩:=List.mem_map.1 hp
  have:=(p4 t ht).1.2.2.1
  simp[nz,Int.mul_ne_zero this hG]
 have hg:jd8 (ts.map fun t=>(t.2,t.1*G)) (d*G)=G:=by
  have e1:d*G::(ts.map fun t=>(t.2,t.1*G)).map (·.2)=(d::ts.map (·.1)).map fun x=>x*G:=by
   rw[List.map_cons,List.map_map,List.map_map];rfl
  rw[jbh6,e1,jay7,c2,Nat.one_mul]
  rcases Int.lt_or_le G 0 with h|h
  ·rw[if_pos (Int.mul_neg_of_pos_of_neg (by omega) h)];omega
  ·rw[if_neg (by have:=Int.mul_nonneg (show 0<=d by omega) h;omega)];omega
 have hkeys:(ts.map fun t=>(t.2,t.1*G)).map (·.1)=ts.map (·.2):=by rw[List.map_map];rfl
 have hs:jj6 (ts.map (·.2))=ts.map (·.2):=zp4 _ _ (jh6 _) (jv1 _) (jdd6 c1)
 have hT:zg2 (ts.map fun t=>(t.2,t.1*G)) (d*G)=ts:=by
  unfold zg2 jg5
  rw[hg,hnz,hkeys,hs,List.map_map]
  have e2:ts.map ((fun r=>((jd4 (ts.map fun t=>(t.2,t.1*G)) r).tdiv G,r))∘fun t:Int×Int=>t.2)=ts.map id:=by
   refine List.map_congr_left (fun t ht=>?_)
   have e3:=jd5 (kv:=ts.map fun t=>(t.2,t.1*G)) (by rw[hkeys];exact hnd) (t.2,t.1*G) (List.mem_map.2 ⟨t,ht,rfl⟩)
   show((jd4 (ts.map fun t=>(t.2,t.1*G)) t.2).tdiv G,t.2)=t
   dsimp only at e3
   rw[e3,Int.mul_tdiv_cancel _ hG]
  rw[e2,List.map_id]
 unfold jf3
 rw[hT,hg,Int.mul_tdiv_cancel _ hG,if_neg (by omega),jcn0 ho]
 rw[if_neg]
 simp;omega
theorem jfc4{kv:List (Int×Int)}{den d:Int}{ts:List (Int×Int)}(hn:(kv.map (·.1)).Nodup)(hd:den≠0)(ho:jb3 d ts=true)(h:∀r,jd4 kv r*d=cf ts r*den):jf3 kv den=(d,ts,0):=by
 obtain⟨p1,p2,p3,p4⟩:=jb2 ho
 obtain⟨c1,c2⟩:=jad4 ho
 have hnd:=(jc9 ho).2
 have hdv:d∣den:=by
  have g1:=jay7 den (d::ts.map (·.1))
  rw[c2,Nat.one_mul] at g1
  have g2:d.natAbs∣jd2 ((d::ts.map (·.1)).map fun x=>x*den):=jcj1 (fun x hx=>by
   rw[List.map_cons,List.mem_cons] at hx
   rcases hx with rfl|hx
   ·exact Int.natAbs_dvd_natAbs.2 (Int.dvd_mul_right d den)
   ·rw[List.map_map] at hx
    obtain⟨t,ht,rfl⟩:=List.mem_map.1 hx
    have g3:=h t.2
    have g4:cf ts t.2=t.1:=by
     have g5:=jas8 ts 1 t.2 hnd
     have g6:=jd5 (kv:=ts.map fun t=>(t.2,t.1*1)) (by rw[List.map_map];exact hnd) (t.2,t.1*1) (List.mem_map.2 ⟨t,ht,rfl⟩)
     dsimp only at g6
     rw[g6] at g5
     omega
    rw[g4] at g3
    show d.natAbs∣(t.1*den).natAbs
    rw[<-g3]
    exact Int.natAbs_dvd_natAbs.2 (Int.dvd_mul_left _ d))
  rw[g1] at g2
  exact Int.natAbs_dvd_natAbs.1 g2
 obtain⟨G,rfl⟩:=hdv
 have hG:G≠0:=fun e=>hd (by rw[e,Int.mul_zero])
 rw[<-jcn7 ho hG]
 refine jdn9 hn (by rw[List.map_map];exact hnd) (fun r=>?_) _
 rw[jas8 ts G r hnd]
 have:=h r
 rw[Int.mul_comm d G,<-Int.mul_assoc] at this
 exact Int.eq_of_mul_eq_mul_right (show d≠0 by omega) this
theorem jcz6{kv:List (Int×Int)}{den d:Int}{ts:List (Int×Int)}(hn:(kv.map (·.1)).Nodup)(hf:∀r∈kv.map (·.1),zc7 r)(hd:den≠0)(ho:jb3 d ts=true)(h:jf8 (fun k=>d*jy2 kv k) (fun k=>den*jj2 ts k)):jf3 kv den=(d,ts,0):=
 jfc4 hn hd ho (jdj7 hn hf (fun t ht=>((jc9 ho).1 t ht).free) h)
theorem jf8.unsmul{f g:Nat->Int}{c:Int}(hc:c≠0)(h:jf8 (fun k=>c*f k) (fun k=>c*g k)):jf8 f g:=by
 obtain⟨C,hC0,h⟩:=Bdd.nonneg h
 refine⟨C,fun k=>?_⟩
 have h1:=h k
 dsimp only at h1 ⊢
 rw[<-Int.mul_sub] at h1
 generalize f k-g k=x at *
 have h2:(c*x).natAbs<=C.natAbs:=by omega
 rw[Int.natAbs_mul] at h2
 have h3:1*x.natAbs<=c.natAbs*x.natAbs:=Nat.mul_le_mul_right _ (by omega)
 omega
theorem jp4.cst(c:Int)(f:Nat->Int):jp4 f (fun k=>c*bits k) (fun k=>c*f k):=⟨0,fun k=>by
 have h:f k*(c*bits k)-bits k*(c*f k)=0:=by grind
 dsimp only
 omega⟩
theorem jdm6{t u:Int×Int}(ht:zc7 t.2)(hu:zc7 u.2):zc7 (zt1 t u):=by
 obtain⟨h1,f1⟩:=ht;obtain⟨h2,f2⟩:=hu
 have e:=jav1 (a:=t.2.toNat) (b:=u.2.toNat) (by omega) (by omega) f1 f2
 obtain⟨_,g1,_,g2⟩:=jk8 (t.2.toNat*u.2.toNat) (Nat.mul_pos (by omega) (by omega))
 rw[e] at g1 g2
 dsimp only at g1 g2
 have e2:jd2 [t.2,u.2]=Nat.gcd t.2.toNat u.2.toNat:=by
  rw[jbf5]
  congr 1<;>omega
 unfold zt1
 rw[e2]
 exact⟨by omega,by rw[Int.toNat_natCast];exact g1⟩
theorem jdv1{kv:List (Int×Int)}{r c q:Int}(h:q∈(addS kv r c).map (·.1)):q∈kv.map (·.1)\/q=r:=by
 rw[zh9] at h
 split at h
 ·exact .inl h
 ·rcases List.mem_append.1 h with h|h
  ·exact .inl h
  ·exact .inr (by simpa using h)
theorem jbj3 {P:Int->Prop}:∀(b kv:List (Int×Int)) (t:Int×Int),(∀r∈kv.map (·.1),P r)->(∀u∈b,P (zt1 t u))->∀r∈(jp1 kv t b).map (·.1),P r
 | [],_,_,h,_=>h
 | u::b,kv,t,h,hb=>jbj3 b _ t (fun r hr=>by
   rcases jdv1 hr with h1|h1
   ·exact h r h1
   ·rw[h1];exact hb u (by simp)) (fun v hv=>hb v (List.mem_cons_of_mem _ hv))
theorem jbj4 {P:Int->Prop}:∀(a b kv:List (Int×Int)),(∀r∈kv.map (·.1),P r)->(∀t∈a,∀u∈b,P (zt1 t u))->∀r∈(jj3 kv a b).map (·.1),P r
 | [],_,_,h,_=>h
 | t::a,b,kv,h,hb=>jbj4 a b _ (jbj3 b kv t h (hb t (by simp))) (fun v hv=>hb v (List.mem_cons_of_mem _ hv))
theorem jdp8{a b:List (Int×Int)}(ha:∀t∈a,zc7 t.2)(hb:∀t∈b,zc7 t.2):∀r∈(jj3 [] a b).map (·.1),zc7 r:=
 jbj4 a b [] (by simp) (fun t ht u hu=>jdm6 (ha t ht) (hb u hu))
theorem zt3{d:Int}{ts:List (Int×Int)}(h:jb3 d ts=true):∀t∈ts,zc7 t.2:=fun t ht=>((jc9 h).1 t ht).free
theorem jcb8{d:Int}{ts:List (Int×Int)}(h:jb3 d ts=true):0<d:=by have:=(jb2 h).1;omega
theorem IsN.self{d:Int}{ts:List (Int×Int)}(h:jb3 d ts=true):IsN d (jj2 ts) d ts:=⟨h,1,by omega,by omega,jf8.of_eq fun k=>by omega⟩
theorem IsN.pos{D d:Int}{X:Nat->Int}{ts:List (Int×Int)}(h:IsN D X d ts):0<D:=by
 obtain⟨h1,G,hG,rfl,_⟩:=h
 exact Int.mul_pos (jcb8 h1) hG
theorem IsN.near{D d:Int}{X Y:Nat->Int}{ts:List (Int×Int)}(h:IsN D X d ts)(hn:jf8 X Y):IsN D Y d ts:=by
 obtain⟨h1,G,hG,h2,h3⟩:=h
 exact⟨h1,G,hG,h2,h3.trans hn⟩
theorem IsN.ob{D d:Int}{X:Nat->Int}{ts:List (Int×Int)}(h:IsN D X d ts):OB X:=by
 obtain⟨_,G,_,_,h3⟩:=h
 exact OB.near (OB.smul G (jdf4 ts)) h3
theorem IsN.val{D d:Int}{X:Nat->Int}{ts:List (Int×Int)}(h:IsN D X d ts):jf8 (fun k=>D*jj2 ts k) (fun k=>d*X k):=by
 obtain⟨_,G,_,rfl,h3⟩:=h
 exact(jf8.of_eq fun k=>by(try dsimp only);grind).trans (h3.smul d)
theorem IsN.same{D D' d d':Int}{X X':Nat->Int}{ts ts':List (Int×Int)}(h:IsN D X d ts)(h':IsN D' X' d' ts')(hn:jf8 (fun k=>D'*X k) (fun k=>D*X' k)):d=d'/\ts=ts':=by
 have hD:=h.pos;have hD':=h'.pos
 refine jdr8 h.1 h'.1 (jf8.unsmul (c:=D*D') (Int.mul_ne_zero (by omega) (by omega)) ?_)
 refine jf8.trans (jf8.of_eq fun k=>?_) ((h.val.smul (D'*d')).trans (jf8.trans (jf8.of_eq fun k=>?_) ((hn.smul (d*d')).trans (jf8.trans (jf8.of_eq fun k=>?_) ((h'.val.symm.smul (D*d)).trans (jf8.of_eq fun k=>?_))))))<;>(try dsimp only)<;>grind
theorem jfa3(a b:List (Int×Int))(k:Nat):jy2 (jj3 [] a b) k=tabK a b k:=by rw[jbg6,jbg4];omega
theorem jfd1{a b:List (Int×Int)}(ha:∀t∈a,zc7 t.2)(hb:∀t∈b,zc7 t.2):jp4 (jj2 a) (jj2 b) (jy2 (jj3 [] a b)):=
 (jdf9 (fun u hu=>(hb u hu).1) a (fun u hu=>(ha u hu).1)).congr (fun _=>rfl) (fun _=>rfl) (fun k=>(jfa3 a b k).symm)
theorem jfb2{xd yd d:Int}{xt yt ts:List (Int×Int)}{P:Nat->Int}(hx:jb3 xd xt=true)(hy:jb3 yd yt=true)(ho:jb3 d ts=true)(hp:jp4 (jj2 xt) (jj2 yt) P)(h:jf8 (fun k=>d*P k) (fun k=>xd*yd*jj2 ts k)):zd1 xd xt yd yt=(d,ts,0):=by
 unfold zd1
 rw[hx,hy,if_pos (by rfl)]
 exact jcz6 (jaz7 xt yt [] (by simp)) (jdp8 (zt3 hx) (zt3 hy)) (Int.mul_ne_zero (by have:=jcb8 hx;omega) (by have:=jcb8 hy;omega)) ho ((((jfd1 (zt3 hx) (zt3 hy)).unique hp).smul d).trans h)
end Go.Proofs.YtphcodcdfeohhaaGreatDoor
