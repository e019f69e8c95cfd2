import Derived.Test.YtphcodcdfeohhaaGreatDoorCnrCToCnrE
import Derived.Test.YtphcodcdfeohhaaGreatDoorTimAToAsyY
import Derived.Test.YtphcodcdfeohhaaGreatDoorWeakToOrdP
import Derived.Test.YtphcodcdfeohhaaGreatDoorCordIToCordJ
import Derived.Test.YtphcodcdfeohhaaGreatDoorWithA
set_option linter.unusedVariables false
set_option linter.unusedSimpArgs false
namespace Go.Proofs.YtphcodcdfeohhaaGreatDoor
open Go Go.RowKit
theorem jas2{c r m:Int}(hr:1<=r)(hq:jy0 r.toNat):jb0 [] [(c,r)] m=[(r,c*m)]:=by
 unfold jb0
 simp only[List.foldl_cons,List.foldl_nil]
 unfold addRoot
 rw[if_pos (by omega),zs9 _ (by omega) hq]
 dsimp only
 rw[Int.toNat_of_nonneg (by omega),show((1:Nat):Int)=1 from rfl,Int.mul_one]
 rfl
theorem jcr7{xd xc s q:Int}(hx:ja7 xd (jb2 xc)=true)(hxd:xd<=3000)(hc:0<=xc/\xc<=96000)(hs:1<=s/\s<=31)(hq:jg8 q):(jc4 xd (jb2 xc) 1 [(s,q)] (-1)).2.2=0:=by
 have hxd1:=(zb6.1 hx).1
 have hok:ja7 1 [(s,q)]=true:=by
  have h4:=(zg4 q.toNat (by have:=hq.1;omega)).2 hq.2.2
  unfold ja7 jt3 jt3 okT
  have g:jf2 [1,s]=1:=jbs7 s
  have:=hq.1;have:=hq.2.1
  simp[inB,g,h4];omega
 have hlen:(jb2 xc).length<=1:=by unfold jb2;split<;>simp
 have hsx:xd*s<=3000*31:=Int.mul_le_mul hxd (by omega) (by omega) (by omega)
 have hsx0:0<=xd*s:=Int.mul_nonneg (by omega) (by omega)
 unfold jc4
 rw[hx,hok]
 simp only[Bool.and_self,if_true]
 have g1:∀r,jc3 (jb0 [] (jb2 xc) 1) r=if r=1 then xc else 0:=fun r=>by
  unfold jb2
  split
  ·rename_i h;rw[h];simp[jb0,jc3]
  ·rw[jas2 (by omega) (fun e he hd=>by have h8:=Nat.le_of_dvd (by decide) hd;have h9:=Nat.mul_le_mul he he;simp at h8;omega),Int.mul_one];rfl
 have g2:∀r,jc3 (jb0 [] [(s,q)] (-1*xd)) r=if r=q then s*(-1*xd)else 0:=fun r=>by
  rw[jas2 hq.1 hq.2.2];rfl
 refine jan3 (jk7 _ _ _ (jk7 _ _ _ (by simp))) ?_ (fun r=>?_) (fun r hr=>(jz8 _ _ _ (jz8 _ _ _ (by simp) (jad7 hx)) (jad7 hok) r hr).2.1) (by omega)
 ·have g1:=jy2 (jb2 xc) [] 1
  have g2:=jy2 [(s,q)] (jb0 [] (jb2 xc) 1) (-1*xd)
  rw[show([(s,q)]:List (Int×Int)).length=1 from rfl] at g2
  rw[show([]:List (Int×Int)).length=0 from rfl] at g1
  omega
 ·have e:s*(-1*xd)=-(xd*s):=by grind
  rw[zr4,g1,g2,e]
  split<;>split<;>omega
theorem jbg0{n:Nat}{a b a' b':Int}(hb:0<b)(hb':0<b')(h:a*b'=a'*b)(ho:(n:Int)*(b*b)<=a*a):(n:Int)*(b'*b')<=a'*a':=by
 have hbb:0<b*b:=Int.mul_pos hb hb
 have h1:=Int.mul_le_mul_of_nonneg_right ho (show 0<=b'*b' from Int.mul_nonneg (by omega) (by omega))
 have e1:a*a*(b'*b')=a'*a'*(b*b):=by
  have:(a*b')*(a*b')=(a'*b)*(a'*b):=by rw[h]
  grind
 have e2:(n:Int)*(b*b)*(b'*b')=n*(b'*b')*(b*b):=by ac_rfl
 exact Int.le_of_mul_le_mul_right (show(n:Int)*(b'*b')*(b*b)<=a'*a'*(b*b) by omega) hbb
theorem jct9{n:Nat}{a b a' b':Int}(hb:0<b)(hb':0<b')(h:a*b'=a'*b)(k:Nat):b'*jh2 n (a,b) k=b*jh2 n (a',b') k:=by
 unfold jh2
 dsimp only
 by_cases ho:(n:Int)*(b*b)<=a*a
 ·rw[if_pos ho,if_pos (jbg0 hb hb' h ho)]
  generalize (bits k:Int)=B
  generalize rtA (n:Int) k=r
  have:a*b'*B=a'*b*B:=by rw[h]
  grind
 ·rw[if_neg ho,if_neg (fun g=>ho (jbg0 hb' hb h.symm g))]
  generalize (bits k:Int)=B
  generalize rtA (n:Int) k=r
  have:a*b'*B=a'*b*B:=by rw[h]
  grind
theorem LeD.same{n:Nat}{a b a' b':Int}(hb:0<b)(hb':0<b')(h:a*b'=a'*b):LeD n (a,b) (a',b'):=.inr (Bdd.zero.congr fun k=>by
 have:=jct9 (n:=n) hb hb' h k
 dsimp only
 omega)
theorem jca2{a g:Int}(ha:0<=a)(hg:0<=g):0<=a.tdiv g/\a.tdiv g<=a:=by
 obtain⟨a,rfl⟩:=Int.eq_ofNat_of_zero_le ha
 obtain⟨g,rfl⟩:=Int.eq_ofNat_of_zero_le hg
 rw[<-Int.ofNat_tdiv]
 have h1:=Nat.div_le_self a g
 generalize a/g=q at *
 omega
theorem jaj2{num D:Int}(hn:0<=num/\num<=96000)(hD:1<=D/\D<=3000):∃d c,zs5 D [(num,1)]=(d,jb2 c,0)/\ja7 d (jb2 c)=true/\(1<=d/\d<=3000)/\(0<=c/\c<=96000)/\c*D=num*d:=by
 obtain⟨h1,h2⟩:=jct0 (num:=num) (D:=D) (by omega) (by omega)
 rw[h1]
 have hg:=jbs9 (v:=num) (show 0<D by omega)
 obtain⟨g1,g2,g3,_⟩:=jaa6 (v:=num) (show 0<D by omega)
 have b1:=jca2 (a:=D) (g:=jr2 num D) (by omega) (by omega)
 have b2:=jca2 (a:=num) (g:=jr2 num D) (by omega) (by omega)
 unfold jbf5 at h2 ⊢
 split at h2
 ·cases h2
 ·rename_i hc
  rw[if_neg hc]
  exact⟨_,_,rfl,zb6.2 ⟨by omega,by omega,g2⟩,by omega,by omega,g3⟩
theorem jcr8{d c d' c':Int}(h:ja7 d (jb2 c)=true)(h':ja7 d' (jb2 c')=true)(e:c*d'=c'*d):d=d'/\c=c':=by
 obtain⟨g1,g2⟩:=jan2 (v:=c) (den:=d) (d:=d) (c:=c) (zj3 h) (zj3 h) (zb6.1 h).2.2 rfl
 obtain⟨g3,g4⟩:=jan2 (v:=c) (den:=d) (d:=d') (c:=c') (zj3 h) (zj3 h') (zb6.1 h').2.2 e.symm
 exact⟨by rw[<-g1,<-g3],by rw[<-g2,<-g4]⟩
theorem Sg.nonpos{f:Nat->Int}{s:Int}(h:Sg f s):s<=0↔Ge fun k=>-f k:=by
 constructor
 ·intro hs
  exact h.neg.ge (by omega)
 ·intro hg
  rcases Int.lt_or_le 0 s with h1|h1
  ·exfalso
   rcases h with⟨_,h⟩|⟨h2,_⟩|⟨h2,_⟩
   ·rcases hg with hg|hg
    ·exact h.not_neg hg
    ·exact h.not_bdd (hg.neg.congr fun k=>by omega)
   ·omega
   ·omega
  ·exact h1
theorem jck5 {n xd xc:Int} {r:Int×List (Int×Int)×Int} (hx:ja7 xd (jb2 xc)=true) (hxd:xd<=3000) (hc:0<=xc/\xc<=96000) (hn:1<=n/\n<=1000) (h:jz3 xd (jb2 xc) n r) :
  r.2.2=0/\IsN xd (fun k=>xc*bits k-xd*rtA n k) r.1 r.2.1:=by
 have hin:inB n 1 1000=true:=by simp[inB];omega
 rcases h with⟨h,_⟩|⟨_,h,_⟩|⟨_,_,r0,hr0,hr⟩
 ·rw[hx] at h;cases h
 ·rw[hin] at h;cases h
 ·obtain⟨s,q,rfl,hs1,hs2,hq,hnear⟩:=jcm8 hn hr0
  dsimp only at hr
  have hcode:=jcr7 hx hxd hc ⟨hs1,hs2⟩ hq
  obtain⟨rd,rt,rc⟩:=r
  rw[<-hr] at hcode
  dsimp only at hcode ⊢
  subst hcode
  have hpl:=hr.symm
  obtain⟨_,_,G,hG,hGe,hGn⟩:=jaj7 hpl
  refine⟨rfl,jan5 hpl,G,hG,by omega,hGn.trans ?_⟩
  refine jd2.trans (jd2.of_eq fun k=>?_) ((jd2.refl fun k=>xc*bits k).sub ((hnear.symm).smul xd))
  (try dsimp only)
  rw[jdd8,jp6,jbv7]
  grind
theorem jcf3{a b:Nat->Int}{u v:Int}(ha:Ge a)(hb:Ge b)(hu:0<u)(hv:0<v):Ge fun k=>u*a k+v*b k:=(ha.smul hu).add (hb.smul hv)
theorem jap3 {n:Nat} {td tc bd ac yd c:Int} {yt:List (Int×Int)} {b:Bool} (hn:1<=n/\n<=1000) (ht:ja7 td (jb2 tc)=true) (htd:td<=3000) (htc:0<=tc/\tc<=96000)
  (hbd:0<bd) (hac:0<=ac) (hy:IsN bd (jh2 n (ac,bd)) yd yt) (h:jm3 td (jb2 tc) n yd yt b c):c=0/\(b=true↔LeD n (tc,td) (ac,bd)):=by
 have htp:=zj3 ht
 rcases h with⟨h,_⟩|⟨_,r,hr,h⟩
 ·rw[hy.1] at h;cases h
 obtain⟨h0,hT⟩:=jck5 ht htd htc (by omega) hr
 rcases h with⟨h,_⟩|⟨_,hc,s1,c1,s2,c2,h1,h2,hb⟩
 ·exact absurd h0 h
 refine⟨hc,?_⟩
 obtain⟨_,g1⟩:=jdb0 hT hy h1
 obtain⟨_,hO⟩:=jdf9 hT
 obtain⟨_,g2⟩:=jdb0 hO hy h2
 have hY:Ge (jh2 n (ac,bd)):=jar5 hac (by dsimp only;omega)
 have hD:Ge (jh2 n (tc,td)):=jar5 htc.1 (by dsimp only;omega)
 have hsum:Ge fun k=>bd*jh2 n (tc,td) k+td*jh2 n (ac,bd) k:=jcf3 hD hY hbd htp
 have e:b=true↔s1<=0/\s2<=0:=by rw[hb];simp
 rw[e,g1.nonpos,g2.nonpos]
 by_cases ho:(n:Int)*(td*td)<=tc*tc
 ·have eT:∀k,jh2 n (tc,td) k=tc*bits k-td*rtA (n:Int) k:=fun k=>by unfold jh2;dsimp only;rw[if_pos ho]
  constructor
  ·intro hh
   exact hh.1.congr fun k=>by(try dsimp only);rw[eT];omega
  ·intro hl
   refine⟨hl.congr fun k=>by(try dsimp only);rw[eT];omega,hsum.congr fun k=>by(try dsimp only);rw[eT,Int.mul_neg];omega⟩
 ·have eT:∀k,jh2 n (tc,td) k=-(tc*bits k-td*rtA (n:Int) k):=fun k=>by unfold jh2;dsimp only;rw[if_neg ho];omega
  constructor
  ·intro hh
   exact hh.2.congr fun k=>by(try dsimp only);rw[eT];omega
  ·intro hl
   refine⟨hsum.congr fun k=>by(try dsimp only);rw[eT,Int.mul_neg];omega,hl.congr fun k=>by(try dsimp only);rw[eT];omega⟩
theorem jdm1 {n:Nat} {bd ac xd s c:Int} {xt:List (Int×Int)} (hbd:0<bd) (hac:0<=ac) (hX:IsN bd (fun k=>ac*bits k-bd*rtA (n:Int) k) xd xt) (hs:zt7 xd xt s c) :
  c=0/\(s<0->(jc4 1 [] xd xt (-1)).2.2=0/\IsN bd (jh2 n (ac,bd)) (jc4 1 [] xd xt (-1)).1 (jc4 1 [] xd xt (-1)).2.1)/\(¬s<0->IsN bd (jh2 n (ac,bd)) xd xt):=by
 obtain⟨hc,hs⟩:=jdj2 hX.1 hs
 have hsg:=hs.sg
 obtain⟨hok,G,hG,hGe,hGn⟩:=hX
 have hsX:Sg (fun k=>ac*bits k-bd*rtA (n:Int) k) s:=(hsg.smul hG).near hGn
 have hX:IsN bd (fun k=>ac*bits k-bd*rtA (n:Int) k) xd xt:=⟨hok,G,hG,hGe,hGn⟩
 refine⟨hc,fun h=>?_,fun h=>?_⟩
 ·obtain⟨h0,hO⟩:=jdf9 hX
  refine⟨h0,hO.near (jd2.of_eq fun k=>?_)⟩
  unfold jh2
  dsimp only
  have ho:¬(n:Int)*(bd*bd)<=ac*ac:=fun ho=>by
   have hg:Ge (jh2 n (ac,bd)):=jar5 hac (by dsimp only;omega)
   exact(hg.congr fun k=>by unfold jh2;dsimp only;rw[if_pos ho]).not_lt (hsX.lt h)
  rw[if_neg ho];omega
 ·refine hX.near (jd2.of_eq fun k=>?_)
  unfold jh2
  dsimp only
  have ho:(n:Int)*(bd*bd)<=ac*ac:=by
   rcases Int.lt_or_le (ac*ac) ((n:Int)*(bd*bd))with ho|ho
   ·exact((hsX.ge (by omega)).not_lt ((zf9 hac (by omega) ho).congr fun k=>by(try dsimp only);omega)).elim
   ·exact ho
  rw[if_pos ho]
end Go.Proofs.YtphcodcdfeohhaaGreatDoor
