import Derived.Test.YtphcodcdfeohhaaGreatDoorRfeA
set_option linter.all false
namespace Go.Proofs.YtphcodcdfeohhaaGreatDoor
set_option maxRecDepth 100000
set_option maxHeartbeats 4000000
open Go Go.RowKit
theorem zr4 (xd:Int) (A:Option Addr) (n c:Nat) (xt:List (Int×Int)) (den:Int) (B:Nat) (w:World) (hx:jJ w B A n c xt) (hB:B<=w.heap.size) (hok:js xd xt=true) :
  Calls Tryz.prog 45 #[.agg #[.int .i64 xd,.slice A n c],.int .i64 den] w λe w'=>∃low high cc,e=.returned (.tuple #[.int .i64 low,.int .i64 high,.int .i64 cc])/\qc xd xt den low high cc/\Below w.heap.size w w':=by
 obtain⟨w0,hw0⟩:∃w0,w0=w.alloc (.cells #[.int .i64 xd,.slice A n c] 24):=⟨_,rfl⟩
 have hz0:w0.heap.size=w.heap.size+1:=by rw[hw0];simp
 have HX0:Hid (jh w0 w.heap.size 24 #[.int .i64 xd,.slice A n c]):=ja (by rw[hw0];exact jh.new w _ _)
 have HB0:Hid (Below w.heap.size w w0):=ja (by rw[hw0];exact(Below.refl _ _).alloc (Nat.le_refl _) _)
 have HP:=ja (λW (hb:Below w.heap.size w W)=>Rq.below hx (hb.mono hB))
 have HIN:=ja (λW=>jbc6 den 1 1000000000 W)
 clear hx
 go_enter Tryz.func45,Tryz.ntmps45
 go_upto_region 1 with fail
 rw[<-hw0]
 clear hw0
 obtain⟨x0,x1,_,_⟩:=HX0.o.two
 cases hin:zz den 1 1000000000
 ·rw[hin] at HIN
  have HV:=ja hin
  clear hin
  go_wp2_with (first
   | (go_at_call 56;refine(HIN.o _).mono ?_;rintro e w2 ⟨rfl,hw⟩;subst w2))
  go_ret3
  exact⟨_,_,_,rfl,.inr (.inl ⟨hok,HV.o,rfl,rfl,rfl⟩),HB0.o⟩
 ·rw[hin] at HIN
  have HV:=ja hin
  have hd:1<=den/\den<=1000000000:=by simpa [zz] using hin
  have HBW:=ja (show Calls Tryz.prog 91 #[.agg #[.int .i64 xd,.slice A n c],.int .i64 den] w0 λe w'=>∃r,e=.returned (.int .i64 r)/\jd0 xd xt den r/\Below w0.heap.size w0 w' by
   obtain⟨xdn,hxdn⟩:=Int.eq_ofNat_of_zero_le (show 0<=xd by have:=(jz hok).1;omega)
   obtain⟨dn,hdn⟩:=Int.eq_ofNat_of_zero_le (show 0<=den by omega)
   subst hxdn hdn
   exact jcz1 xdn A n c xt dn B w0 (HP.o _ HB0.o) (by omega) hok (by omega) (by omega))
  clear hin
  go_upto_region 4 with(first
   | (go_at_call 91;refine HBW.o.mono ?_;rintro e w1 ⟨low,rfl,hr,hb⟩
      have HBL:=ja hr
      have HX1:=ja (HX0.o.below hb (by omega));have HB1:=ja (HB0.o.trans (hb.mono (by omega)))
      clear hr hb)
   | (go_at_call 56;refine(HIN.o _).mono ?_;rintro e w2 ⟨rfl,hw⟩;subst w2))
  clear x0 x1 HBW HIN
  obtain⟨x0,x1,_,_⟩:=HX1.o.two
  have hlb:=HBL.o.2.2.1
  have HBE:=ja (jcs5 xd A n c xt den low B w1 (HP.o _ HB1.o) (Nat.le_trans hB HB1.o.size) hok hd (by have:=HBL.o.2.2.2;omega) (by omega))
  go_wp2_with fail
  refine HBE.o.mono ?_
  rintro e w2 ⟨s,rfl,hs,hb⟩
  have HB2:=ja (HB1.o.trans (hb.mono HB1.o.size))
  obtain⟨s',h1,h2⟩:=HBL.o.1
  obtain rfl:=hs.unique h2
  have HSG:=ja hs
  clear hs h2 hb HBE x0 x1
  by_cases h0:s=0
  ·subst h0
   go_wp2
   go_ret3
   exact⟨_,_,_,rfl,.inr (.inr ⟨hok,HV.o,rfl,HBL.o,.inr ⟨HSG.o,rfl⟩⟩),HB2.o⟩
  ·have hse:(s==0)=false:=by simpa using h0
   go_wp2
   go_ret3
   exact⟨_,_,_,rfl,.inr (.inr ⟨hok,HV.o,rfl,HBL.o,.inl ⟨⟨s,by omega,HSG.o⟩,rfl⟩⟩),HB2.o⟩
def fMul:jb6:=λx y=>jc7 x.1 x.2 y.1 y.2
def fQuo:jb6:=λx y=>jn7 x.1 x.2 y.1 y.2
def fSub:jb6:=λx y=>jL x.1 x.2 y.1 y.2 (-1)
def zr3(e:Int)(a b c1 d1 c2 d2 c3 d3:Num):Num×Num×Int:=
 za8 fSub (za8 fQuo (za8 fMul e a b c1 d1).2.2 (za8 fMul e a b c1 d1).1 (za8 fMul e a b c1 d1).2.1 c2 d2).2.2 (za8 fQuo (za8 fMul e a b c1 d1).2.2 (za8 fMul e a b c1 d1).1 (za8 fMul e a b c1 d1).2.1 c2 d2).1
  (za8 fQuo (za8 fMul e a b c1 d1).2.2 (za8 fMul e a b c1 d1).1 (za8 fMul e a b c1 d1).2.1 c2 d2).2.1 c3 d3
theorem zr5{f:jb6}{e:Int}{a b c d:Num}(h:e≠0):za8 f e a b c d=(a,b,e):=by unfold za8;rw[if_pos h]
theorem jcv9{f:jb6}{a b c d:Num}(h:(f a c).2.2≠0):za8 f 0 a b c d=((0,[]),(0,[]),(f a c).2.2):=by unfold za8;rw[if_neg (by simp),if_pos h]
theorem jcy0{f:jb6}{a b c d:Num}(h1:(f a c).2.2=0)(h:(f b d).2.2≠0):za8 f 0 a b c d=((0,[]),(0,[]),(f b d).2.2):=by unfold za8;rw[if_neg (by simp),if_neg (λx=>x h1),if_pos h]
theorem jcz9{f:jb6}{a b c d:Num}(h1:(f a c).2.2=0)(h2:(f b d).2.2=0):za8 f 0 a b c d=(jk9 (f a c),jk9 (f b d),0):=by unfold za8;rw[if_neg (by simp),if_neg (λx=>x h1),if_neg (λx=>x h2)]
theorem jdb1{e:Int}{a b c1 d1 c2 d2 c3 d3:Num}(h:e≠0):(zr3 e a b c1 d1 c2 d2 c3 d3).2.2=e:=by
 unfold zr3
 rw[zr5 h]
 dsimp only
 rw[zr5 h]
 dsimp only
 rw[zr5 h]
theorem jcs3 {f g:jb6} {gs:List jb6} {a b c d lo hi:Num} (h1:g a lo=f a c) (h2:g b hi=f b d) :
  ((za8 f 0 a b c d).2.2≠0/\(jp0 (g::gs) a b lo hi).2.2=(za8 f 0 a b c d).2.2)\/((za8 f 0 a b c d).2.2=0/\jp0 (g::gs) a b lo hi=jp0 gs (za8 f 0 a b c d).1 (za8 f 0 a b c d).2.1 lo hi):=by
 by_cases k1:(f a c).2.2=0
 ·by_cases k2:(f b d).2.2=0
  ·right
   rw[jcz9 k1 k2]
   refine⟨rfl,?_⟩
   rw[jp0,h1,h2,if_neg (λx=>x k1),if_neg (λx=>x k2)]
  ·left
   rw[jcy0 k1 k2]
   refine⟨k2,?_⟩
   rw[jp0,h1,h2,if_neg (λx=>x k1),if_pos k2]
 ·left
  rw[jcv9 k1]
  refine⟨k1,?_⟩
  rw[jp0,h1,if_pos k1]
theorem jda3 {g1 g2:jb6} {a b c1 d1 c2 d2 c3 d3 lo hi:Num} (h1:∀x,g1 x lo=fMul x c1) (h1':∀x,g1 x hi=fMul x d1) (h2:∀x,g2 x lo=fQuo x c2) (h2':∀x,g2 x hi=fQuo x d2) {g3:jb6} (h3:∀x,g3 x lo=fSub x c3) (h3':∀x,g3 x hi=fSub x d3) :
  (jp0 [g1,g2,g3] a b lo hi).2.2=(zr3 0 a b c1 d1 c2 d2 c3 d3).2.2/\((zr3 0 a b c1 d1 c2 d2 c3 d3).2.2=0->jp0 [g1,g2,g3] a b lo hi=zr3 0 a b c1 d1 c2 d2 c3 d3):=by
 unfold zr3
 rcases jcs3 (gs:=[g2,g3]) (h1 a) (h1' b)with⟨k,e⟩|⟨k,e⟩
 ·rw[e,zr5 (e:=(za8 fMul 0 a b c1 d1).2.2) k]
  dsimp only
  rw[zr5 k]
  exact⟨rfl,λh=>absurd h k⟩
 ·rw[e,k]
  generalize (za8 fMul 0 a b c1 d1).1=a'
  generalize (za8 fMul 0 a b c1 d1).2.1=b'
  rcases jcs3 (gs:=[g3]) (h2 a') (h2' b')with⟨k,e⟩|⟨k,e⟩
  ·rw[e,zr5 (e:=(za8 fQuo 0 a' b' c2 d2).2.2) k]
   exact⟨rfl,λh=>absurd h k⟩
  ·rw[e,k]
   generalize (za8 fQuo 0 a' b' c2 d2).1=a''
   generalize (za8 fQuo 0 a' b' c2 d2).2.1=b''
   rcases jcs3 (gs:=[]) (h3 a'') (h3' b'')with⟨k,e⟩|⟨k,e⟩
   ·rw[e]
    exact⟨rfl,λh=>absurd h k⟩
   ·rw[e,k]
    refine⟨rfl,λ_=>?_⟩
    exact Prod.ext rfl (Prod.ext rfl k.symm)
theorem jcp0{e:Int}{a b c1 d1 c2 d2 c3 d3:Num}(h:(zr3 e a b c1 d1 c2 d2 c3 d3).2.2=0):js (zr3 e a b c1 d1 c2 d2 c3 d3).1.1 (zr3 e a b c1 d1 c2 d2 c3 d3).1.2=true/\js (zr3 e a b c1 d1 c2 d2 c3 d3).2.1.1 (zr3 e a b c1 d1 c2 d2 c3 d3).2.1.2=true:=by
 unfold zr3 at h ⊢
 generalize za8 fQuo (za8 fMul e a b c1 d1).2.2 (za8 fMul e a b c1 d1).1 (za8 fMul e a b c1 d1).2.1 c2 d2=r at *
 obtain⟨ra,rb,re⟩:=r
 dsimp only at h ⊢
 by_cases he:re=0
 ·subst he
  by_cases k1:(fSub ra c3).2.2=0
  ·by_cases k2:(fSub rb d3).2.2=0
   ·rw[jcz9 k1 k2]
    have e1:fSub ra c3=((fSub ra c3).1,(fSub ra c3).2.1,0):=Prod.ext rfl (Prod.ext rfl k1)
    have e2:fSub rb d3=((fSub rb d3).1,(fSub rb d3).2.1,0):=Prod.ext rfl (Prod.ext rfl k2)
    exact⟨jas1 e1,jas1 e2⟩
   ·rw[jcy0 k1 k2] at h;exact absurd h k2
  ·rw[jcv9 k1] at h;exact absurd h k1
 ·rw[zr5 he] at h;exact absurd h he
def jdd6(r:Num×Num×Int)(den low high c:Int):Prop:=
 (r.2.2≠0/\low=0/\high=0/\c=r.2.2)\/(r.2.2=0/\∃l1 h1 c1,qc r.1.1 r.1.2 den l1 h1 c1/\((c1≠0/\low=0/\high=0/\c=c1)\/(c1=0/\∃l2 c2,qc r.2.1.1 r.2.1.2 den l2 high c2/\low=l1/\c=0)))
def jbt9(x lo hi:Num)(c1 d1 c2 d2:Num)(den low high c:Int):Prop:=
 (js x.1 x.2=false/\low=0/\high=0/\c=2)\/(js x.1 x.2=true/\∃p,jdd5 lo.1 lo.2 hi.1 hi.2 p/\((p=false/\low=0/\high=0/\c=2) \/
  (p=true/\∃s,jA x.2 s/\((s<=0/\low=0/\high=0/\c=3) \/
   (0<s/\jdd6 (zr3 (jc7 x.1 x.2 x.1 x.2).2.2 (jk9 (jc7 x.1 x.2 x.1 x.2)) (jk9 (jc7 x.1 x.2 x.1 x.2)) c1 d1 c2 d2 (1,[(1,1)]) (1,[(1,1)])) den low high c)))))
theorem jcz8{xd den l h c:Int}{xt:List (Int×Int)}(hx:js xd xt=true){yd l' h':Int}{yt:List (Int×Int)}(hb:qc yd yt den l' h' 0)(g:qc xd xt den l h c):c=0:=by
 rcases hb with⟨_,_,_,h1⟩|⟨_,_,_,_,h1⟩|⟨_,h1,_⟩
 ·exact absurd h1 (by decide)
 ·exact absurd h1 (by decide)
 ·rcases g with⟨k,_⟩|⟨_,k,_⟩|⟨_,_,k,_⟩
  ·rw[hx] at k;cases k
  ·rw[h1] at k;cases k
  ·exact k
theorem jdb5 {x lo hi c1 d1 c2 d2:Num} {g1 g2 g3:jb6} {den l h c l' h' c' r:Int} (h1:∀x,g1 x lo=fMul x c1) (h1':∀x,g1 x hi=fMul x d1) (h2:∀x,g2 x lo=fQuo x c2) (h2':∀x,g2 x hi=fQuo x d2) (h3:∀x y,g3 x y=fSub x (1,[(1,1)]))
  (plo phi:Num) (hr:jbv0 x.1 x.2 plo.1 plo.2 phi.1 phi.2 r) (g:(r≠0/\l=0/\h=0/\c=r)\/(r=0/\jbf6 x [g1,g2,g3] lo hi den l h c)) (g':jbt9 x plo phi c1 d1 c2 d2 den l' h' c'):l=l'/\h=h'/\c=c':=by
 obtain⟨s,e,k1,k⟩:=hr
 rcases g' with⟨m1,rfl,rfl,rfl⟩|⟨m1,p,m2,m⟩
 ·rcases k1 with⟨n1,_⟩|⟨_,rfl,rfl⟩
  ·rw[m1] at n1;cases n1
  ·rcases k with⟨_,rfl⟩|⟨k,_⟩
   ·rcases g with⟨_,rfl,rfl,rfl⟩|⟨g,_⟩
    ·exact⟨rfl,rfl,rfl⟩
    ·exact absurd g (by decide)
   ·exact absurd k (by decide)
 ·rcases k1 with⟨_,n1,rfl⟩|⟨n1,_⟩
  rotate_left 1
  ·rw[m1] at n1;cases n1
  rcases k with⟨k,_⟩|⟨_,p',k2,rfl⟩
  ·exact absurd rfl k
  obtain rfl:=jdh9 k2 m2
  rcases m with⟨rfl,rfl,rfl,rfl⟩|⟨rfl,s',m3,m⟩
  ·rw[if_neg (by decide)] at g
   rcases g with⟨_,rfl,rfl,g⟩|⟨g,_⟩
   ·exact⟨rfl,rfl,g⟩
   ·exact absurd g (by decide)
  obtain rfl:=n1.unique m3
  rw[if_pos rfl] at g
  rcases m with⟨m4,rfl,rfl,rfl⟩|⟨m4,m⟩
  ·rw[if_pos m4] at g
   rcases g with⟨_,rfl,rfl,g⟩|⟨g,_⟩
   ·exact⟨rfl,rfl,g⟩
   ·exact absurd g (by decide)
  rw[if_neg (by omega)] at g
  rcases g with⟨g,_⟩|⟨_,g⟩
  ·exact absurd rfl g
  rcases g with⟨g1',rfl,rfl,rfl⟩|⟨g1',q,hq,g⟩
  ·have e3:=jdb1 (a:=jk9 (jc7 x.1 x.2 x.1 x.2)) (b:=jk9 (jc7 x.1 x.2 x.1 x.2)) (c1:=c1) (d1:=d1) (c2:=c2) (d2:=d2) (c3:=(1,[(1,1)])) (d3:=(1,[(1,1)])) g1'
   rcases m with⟨_,rfl,rfl,rfl⟩|⟨m5,_⟩
   ·rw[e3];exact⟨rfl,rfl,rfl⟩
   ·rw[e3] at m5;exact absurd m5 g1'
  ·rw[g1'] at m
   obtain⟨s1,s2⟩:=jda3 (a:=jk9 (jc7 x.1 x.2 x.1 x.2)) (b:=jk9 (jc7 x.1 x.2 x.1 x.2)) (lo:=lo) (hi:=hi) h1 h1' h2 h2' (c3:=(1,[(1,1)])) (d3:=(1,[(1,1)])) (g3:=g3) (λy=>h3 y lo) (λy=>h3 y hi)
   have hok:=jcp0 (e:=0) (a:=jk9 (jc7 x.1 x.2 x.1 x.2)) (b:=jk9 (jc7 x.1 x.2 x.1 x.2)) (c1:=c1) (d1:=d1) (c2:=c2) (d2:=d2) (c3:=(1,[(1,1)])) (d3:=(1,[(1,1)]))
   generalize zr3 0 (jk9 (jc7 x.1 x.2 x.1 x.2)) (jk9 (jc7 x.1 x.2 x.1 x.2)) c1 d1 c2 d2 (1,[(1,1)]) (1,[(1,1)])=T at *
   rw[hq] at s1 s2
   rcases m with⟨m5,rfl,rfl,rfl⟩|⟨m5,l1,hh1,cc1,m6,m⟩
   ·rcases g with⟨_,rfl,rfl,rfl⟩|⟨g,_⟩
    ·exact⟨rfl,rfl,s1⟩
    ·rw[s1] at g;exact absurd g m5
   ·obtain rfl:=s2 m5
    rcases g with⟨g,_⟩|⟨_,l2,hh2,cc2,g4,g⟩
    ·exact absurd m5 g
    ·obtain⟨rfl,rfl,rfl⟩:=jct3 g4 m6
     rcases m with⟨m7,rfl,rfl,rfl⟩|⟨m7,l3,c3,m8,rfl,rfl⟩
     ·rcases g with⟨_,rfl,rfl,rfl⟩|⟨g,_⟩
      ·exact⟨rfl,rfl,rfl⟩
      ·exact absurd g m7
     ·rcases g with⟨g,_⟩|⟨_,l4,g5,rfl⟩
      ·exact absurd m7 g
      ·obtain⟨_,rfl,rfl⟩:=jct3 g5 m8
       subst m7
       exact⟨rfl,rfl,jcz8 (hok m5).2 m6 m8⟩
