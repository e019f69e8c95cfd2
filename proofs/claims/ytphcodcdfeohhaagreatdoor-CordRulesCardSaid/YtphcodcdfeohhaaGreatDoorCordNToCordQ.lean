import Derived.Test.YtphcodcdfeohhaaGreatDoorCordIToCordJ
import Derived.Sort.CutIn
set_option linter.all false
namespace Go.Proofs.YtphcodcdfeohhaaGreatDoor
set_option maxRecDepth 100000
set_option maxHeartbeats 4000000
open Go.RowKit
def qw(x:Int×Int)(n:Int):Bool:=decide (n*x.2*x.2<=x.1*x.1)
theorem zz2 (x:Int×Int) (n:Int) (w:World) (hx:0<=x.1/\x.1<=100000) (hy:0<=x.2/\x.2<=3000) (hn:1<=n/\n<=1000) :
  Calls Tryz.prog 138 #[.agg #[.int .i64 x.1,.int .i64 x.2],.int .i64 n] w λe w'=>e=.returned (.bool (qw x n))/\Below w.heap.size w w':=by
 obtain⟨a,b⟩:=x
 unfold qw
 dsimp only at *
 have h1:=jE (a:=a) (b:=a) (A:=100000) (B:=100000) (by omega) (by omega)
 have h2:=jE (a:=n) (b:=b) (A:=1000) (B:=3000) (by omega) (by omega)
 have h3:=jE (a:=n*b) (b:=b) (A:=3000000) (B:=3000) (by omega) (by omega)
 generalize haa:a*a=aa at *
 generalize hnb:n*b=nb at *
 generalize hnbb:nb*b=nbb at *
 go_enter Tryz.func138,Tryz.ntmps138
 go_wp2
 go_ret
 exact⟨rfl,(Below.refl _ _).alloc (Nat.le_refl _) _⟩
def ja5(x y:Int×Int)(n:Int):Bool:=
 if qw x n&&qw y n then decide (x.1*y.2-y.1*x.2<0)
 else if qw x n then decide ((x.1*y.2+y.1*x.2)*(x.1*y.2+y.1*x.2)-4*n*x.2*x.2*y.2*y.2<0)
 else if qw y n then decide (0<(x.1*y.2+y.1*x.2)*(x.1*y.2+y.1*x.2)-4*n*x.2*x.2*y.2*y.2)
 else decide (0<x.1*y.2-y.1*x.2)
theorem jaj8 (x y:Int×Int) (n:Int) (w:World) (hx:0<=x.1/\x.1<=100000) (hx2:0<=x.2/\x.2<=3000) (hy:0<=y.1/\y.1<=100000) (hy2:0<=y.2/\y.2<=3000) (hn:1<=n/\n<=1000) :
  Calls Tryz.prog 100 #[.agg #[.int .i64 x.1,.int .i64 x.2],.agg #[.int .i64 y.1,.int .i64 y.2],.int .i64 n] w λe w'=>e=.returned (.bool (ja5 x y n))/\Below w.heap.size w w':=by
 have HOX:=ja (λW=>zz2 x n W hx hx2 hn)
 have HOY:=ja (λW=>zz2 y n W hy hy2 hn)
 have HX0:=ja ((jh.new w 100 #[.int .i64 x.1,.int .i64 x.2]).alloc (.cells #[.int .i64 y.1,.int .i64 y.2] 100))
 have hY:=jh.new (w.alloc (.cells #[.int .i64 x.1,.int .i64 x.2] 100)) 100 #[.int .i64 y.1,.int .i64 y.2]
 rw[World.size_alloc] at hY
 have HY0:=ja hY
 have HB0:=ja (((Below.refl w.heap.size w).alloc (Nat.le_refl _) (.cells #[.int .i64 x.1,.int .i64 x.2] 100)).alloc (by simp) (.cells #[.int .i64 y.1,.int .i64 y.2] 100))
 clear hY
 unfold ja5
 generalize qw x n=ox at *
 generalize qw y n=oy at *
 obtain⟨a,b⟩:=x
 obtain⟨c,d⟩:=y
 dsimp only at *
 have h1:=jE (a:=a) (b:=d) (A:=100000) (B:=3000) (by omega) (by omega)
 have h2:=jE (a:=c) (b:=b) (A:=100000) (B:=3000) (by omega) (by omega)
 generalize had:a*d=p at *
 generalize hcb:c*b=q at *
 have h3:=jE (a:=p+q) (b:=p+q) (A:=600000000) (B:=600000000) (by omega) (by omega)
 have h4:=jE (a:=4*n) (b:=b) (A:=4000) (B:=3000) (by omega) (by omega)
 generalize hss:(p+q)*(p+q)=ss at *
 generalize hk1:4*n*b=k1 at *
 have h5:=jE (a:=k1) (b:=b) (A:=12000000) (B:=3000) (by omega) (by omega)
 generalize hk2:k1*b=k2 at *
 have h6:=jE (a:=k2) (b:=d) (A:=36000000000) (B:=3000) (by omega) (by omega)
 generalize hk3:k2*d=k3 at *
 have h7:=jE (a:=k3) (b:=d) (A:=108000000000000) (B:=3000) (by omega) (by omega)
 generalize hk4:k3*d=k4 at *
 obtain⟨x0,x1,xf0,xf1⟩:=HX0.o.two
 obtain⟨y0,y1,yf0,yf1⟩:=HY0.o.two
 cases ox<;>cases oy
 all_goals
  go_enter Tryz.func100,Tryz.ntmps100
  go_wp2_with (first
   | (go_at_call_of 138 a;refine(HOX.o _).mono ?_;rintro e w1 ⟨rfl,hb1⟩
      have HX0:=ja (HX0.o.below hb1 (by have:=HX0.o.lt;omega));have HY0:=ja (HY0.o.below hb1 (by have:=HY0.o.lt;omega));have HB0:=ja (HB0.o.trans (hb1.mono HB0.o.size))
      obtain⟨x0,x1,xf0,xf1⟩:=HX0.o.two
      obtain⟨y0,y1,yf0,yf1⟩:=HY0.o.two
      clear hb1)
   | (go_at_call_of 138 c;refine(HOY.o _).mono ?_;rintro e w1 ⟨rfl,hb1⟩
      have HX0:=ja (HX0.o.below hb1 (by have:=HX0.o.lt;omega));have HY0:=ja (HY0.o.below hb1 (by have:=HY0.o.lt;omega));have HB0:=ja (HB0.o.trans (hb1.mono HB0.o.size))
      obtain⟨x0,x1,xf0,xf1⟩:=HX0.o.two
      obtain⟨y0,y1,yf0,yf1⟩:=HY0.o.two
      clear hb1))
  all_goals go_ret
  all_goals exact⟨by simp,HB0.o⟩
attribute [local go_sem] Oper.semAt_some
def zz0:Nat->Int->Int->Int
 | 0,_,k=>k
 | f+1,b,k=>if(2*k+1)*(2*k+1)<=b then zz0 f b (k+1)else k
def numR(b:Int):Int:=zz0 200000 b 0
theorem zm2 {b:Int}:∀(k f:Nat) (s:Int),(∀j:Nat,j<k->(2*(s+j)+1)*(2*(s+j)+1)<=b)->zz0 (k+f) b s=zz0 f b (s+k)
 | 0,f,s,_=>by simp
 | k+1,f,s,h=>by
  have h0:=h 0 (by omega)
  rw[show k+1+f=(k+f)+1 by omega]
  conv=>lhs;unfold zz0
  rw[if_pos (by simpa using h0),zm2 k f (s+1) (λj hj=>by
   have:=h (j+1) (by omega)
   rw[show s+1+(j:Int)=s+((j+1:Nat):Int) by omega];exact this)]
  congr 1;omega
theorem jcj4{b:Int}{k:Nat}(hk:k<200000)(h:∀j:Nat,j<k->(2*(j:Int)+1)*(2*(j:Int)+1)<=b)(h2:¬(2*(k:Int)+1)*(2*(k:Int)+1)<=b):numR b=k:=by
 unfold numR
 obtain⟨f,hf⟩:∃f,200000=k+(f+1):=⟨200000-k-1,by omega⟩
 rw[hf,zm2 k (f+1) 0 (λj hj=>by simpa using h j hj)]
 unfold zz0
 rw[if_neg (by simpa using h2)]
 omega
theorem jbp2{k:Int}(h:(2*k+1)*(2*k+1)<=36000000000)(hk:0<=k):k<=94868:=by
 rcases Int.lt_or_le 94868 k with h1|h1
 ·have h2:(189739:Int)*189739<=(2*k+1)*(2*k+1):=Int.mul_le_mul (by omega) (by omega) (by omega) (by omega)
  exact absurd (Int.le_trans h2 h) (by decide)
 ·exact h1
def recF (n:Int):Nat->Int->Int×Int->List (Int×Int)
 | 0,_,_=>[]
 | k+1,den,best=>if(decide (1<den)&&!ja5 (numR (4*n*den*den),den) best n)=true then recF n k (den+1) best else(numR (4*n*den*den),den)::recF n k (den+1) (numR (4*n*den*den),den)
def recS(n most:Int):List (Int×Int):=recF n most.toNat 1 (0,0)
def encN(x:Int×Int):Array Value:=#[.agg #[.int .i64 x.1,.int .i64 x.2]]
def jcn8(W0:World)(b1 b2:Nat)(n most:Int)(J:List (Int×Int)->World->Prop)(u v:Value)(A:World):Prop:=
 ∃(pre:List (Int×Int)) (k d:Nat) (best:Int×Int),u=.int .i64 k/\v=.int .i64 d/\k<=94869/\1<=d/\d<=most+1/\(∀j:Nat,j<k->(2*(j:Int)+1)*(2*(j:Int)+1)<=4*n*d*d) /\
  jh A W0.heap.size 100 #[.int .i64 best.1,.int .i64 best.2]/\(0<=best.1/\best.1<=100000)/\(0<=best.2/\best.2<=3000)/\pre++recF n (most+1-d).toNat d best=recS n most /\
  J pre A/\A.cell? ⟨b1,0,none⟩=some (.int .i64 most)/\A.cell? ⟨b2,0,none⟩=some (.int .i64 n)
theorem zn2 (b1 b2:Nat) (n most:Int) (w0:World) (h1:w0.cell? ⟨b1,0,none⟩=some (.int .i64 most)) (h2:w0.cell? ⟨b2,0,none⟩=some (.int .i64 n)) (hn:1<=n/\n<=1000) (hm:1<=most/\most<=3000) :
  jk6 Tryz.prog 99 #[.pointer (some ⟨b1,0,none⟩),.pointer (some ⟨b2,0,none⟩)] encN (λys=>ys=recS n most) (λpre=>∃rest,pre++rest=recS n most) (λc=>c=b1\/c=b2) 1 w0:=by
 intro l J Jx W hW hJ hJx hY h0
 have hl1:b1<w0.heap.size:=World.block_lt_of_cell? _ _ h1
 have hl2:b2<w0.heap.size:=World.block_lt_of_cell? _ _ h2
 have hc1:W.cell? ⟨b1,0,none⟩=some (.int .i64 most):=(hW.cell (p:=⟨b1,0,none⟩) hl1).trans h1
 have hc2:W.cell? ⟨b2,0,none⟩=some (.int .i64 n):=(hW.cell (p:=⟨b2,0,none⟩) hl2).trans h2
 have hWz:=hW.size
 have HY:=ja hY;clear hY
 have HJ:=ja hJ;clear hJ
 have HJx:=ja hJx;clear hJx
 have H0:=ja h0;clear h0
 have HC1:=ja hc1
 have HC2:=ja hc2
 clear h1 h2 hc1 hc2 hW
 have HCL:=ja (λn' x y W a b c d=>(callsIn_wide (n:=n')).2 (jaj8 x y n W a b c d hn))
 refine callsIn_of_wp Tryz.func99 rfl trivial ?_
 simp only[Tryz.ntmps99,List.size_toArray,List.length_cons,List.length_nil,Nat.reduceAdd,Nat.reduceSub,Array.replicate_succ,Array.replicate_zero,List.push_toArray,List.append_toArray,List.nil_append,List.cons_append]
 gi_wp2
 gi_loopw [5,6] (λu v A=>jcn8 W b1 b2 n most J u v A) (λ_ v _=>(most+1-intOf v).toNat)
 case atStart=>
  refine⟨[],0,1,(0,0),rfl,rfl,by omega,by omega,by omega,λj hj=>by omega,jh.new W _ _,by decide,by decide,?_,HJ.o _ _ _ none H0.o (World.grownBy_alloc _ _ _) (by simp),?_,?_⟩
  ·unfold recS;rw[show(most+1-((1:Nat):Int)).toNat=most.toNat by omega];rfl
  ·exact(World.cell?_alloc_lt _ _ _ (by show b1<_;omega)).trans HC1.o
  ·exact(World.cell?_alloc_lt _ _ _ (by show b2<_;omega)).trans HC2.o
 case round=>
  obtain⟨pre,k,d,best,rfl,rfl,hk,hd1,hd2,hsq,hbk,hbb1,hbb2,hp,hJp,hcm,hcn⟩:=hrel
  have HSQ:=ja hsq;clear hsq
  have HBK:=ja hbk;clear hbk
  have HP:=ja hp;clear hp
  have HJp:=ja hJp;clear hJp
  by_cases hdm:(d:Int)<=most
  ·have e1:=jE (a:=4*n) (b:=(d:Int)) (A:=4000) (B:=3000) (by omega) (by omega)
   generalize hq1:4*n*(d:Int)=q1 at *
   have e2:=jE (a:=q1) (b:=(d:Int)) (A:=12000000) (B:=3000) (by omega) (by omega)
   generalize hq2:q1*(d:Int)=q2 at *
   have hq2b:q2<=36000000000:=by omega
   obtain⟨m,hmm⟩:∃m,(most+1-(d:Int)).toNat=m+1:=⟨(most-d).toNat,by omega⟩
   have hm2:(most+1-((d+1:Nat):Int)).toNat=m:=by omega
   have hp1:=HP.o
   rw[hmm,recF,hq1,hq2] at hp1
   have HP1:=ja hp1
   have hmono:q2<=4*n*((d+1:Nat):Int)*((d+1:Nat):Int):=by
    rw[<-hq2,<-hq1]
    exact Int.mul_le_mul (Int.mul_le_mul_of_nonneg_left (by omega) (by omega)) (by omega) (by omega) (Int.mul_nonneg (by omega) (by omega))
   clear hp1 HP
   gi_wp2
   gi_loopw [5] (λu U=>∃k':Nat,u=.int .i64 k'/\k'<=94869/\(∀j:Nat,j<k'->(2*(j:Int)+1)*(2*(j:Int)+1)<=q2)/\U=wr) (λu _=>(94869-intOf u).toNat)
   case atStart=>
    exact⟨k,rfl,hk,HSQ.o,rfl⟩
   case round=>
    obtain⟨k',rfl,hk',hsq',hU⟩:=hrel
    subst hU
    have HSQ':=ja hsq';clear hsq'
    have e3:=jE (a:=2*(k':Int)+1) (b:=2*(k':Int)+1) (A:=200000) (B:=200000) (by omega) (by omega)
    by_cases hle:(2*(k':Int)+1)*(2*(k':Int)+1)<=q2
    ·have hk2:=jbp2 (Int.le_trans hle hq2b) (by omega)
     have HLE:=ja hle
     generalize hsqg:(2*(k':Int)+1)*(2*(k':Int)+1)=sq at *
     gi_wp2
     go_roundw
     case rel=>
      refine⟨k'+1,by go_num,by omega,λj hj=>?_,trivial⟩
      rcases Nat.lt_or_ge j k' with h|h
      ·exact HSQ'.o j h
      ·have:j=k':=by omega
       subst this
       rw[hsqg];exact HLE.o
     case measure=>simp[intOf];omega
    ·have HNR:=ja (jcj4 (by omega) HSQ'.o hle)
     generalize hsqg:(2*(k':Int)+1)*(2*(k':Int)+1)=sq at *
     obtain⟨V,hV⟩:∃V,V=wr.alloc (.cells #[.int .i64 k',.int .i64 d] 100):=⟨_,rfl⟩
     obtain⟨X,hX⟩:∃X,X=wr.heap.size:=⟨_,rfl⟩
     have hzV:V.heap.size=X+1:=by rw[hV,hX];simp
     have hWX:W.heap.size<X:=by have:=HBK.o.lt;omega
     have HXV:Hid (jh V X 100 #[.int .i64 k',.int .i64 d]):=ja (by rw[hV,hX];exact jh.new _ _ _)
     have HBV:Hid (jh V W.heap.size 100 #[.int .i64 best.1,.int .i64 best.2]):=ja (by rw[hV];exact HBK.o.alloc _)
     have HJV:Hid (J pre V):=ja (by rw[hV];exact HJ.o _ _ _ none HJp.o (World.grownBy_alloc _ _ _) (by simp))
     have HMV:Hid (V.cell? ⟨b1,0,none⟩=some (.int .i64 most)):=ja (by rw[hV];exact(World.cell?_alloc_lt _ _ _ (by show b1<_;omega)).trans hcm)
     have HNV:Hid (V.cell? ⟨b2,0,none⟩=some (.int .i64 n)):=ja (by rw[hV];exact(World.cell?_alloc_lt _ _ _ (by show b2<_;omega)).trans hcn)
     gi_upto_region 8 with fail
     rw[<-hV,<-hX]
     clear hcm hcn HJp HBK hV hX
     obtain⟨x0,x1,xf0,xf1⟩:=HXV.o.two
     obtain⟨v0,v1,vf0,vf1⟩:=HBV.o.two
     have hvn:=HNV.o
     have hp1:=HP1.o
     rw[HNR.o] at hp1
     have HP2:=ja hp1
     clear hp1 HP1 HNR
     have HCL1:=ja (λn'=>HCL.o n' (k',d) best V (by dsimp only;omega) (by dsimp only;omega) hbb1 hbb2)
     by_cases hd:1<(d:Int)
     case' pos=>
      gi_wp2_with fail
      refine⟨trivial,rfl,CallsIn.mono (HCL1.o _) ?_⟩
      rintro e V1 ⟨rfl,hb1⟩
      cases hcl:ja5 (k',d) best n
      ·have hp2:=HP2.o
       rw[hcl,if_pos (by simp[hd])] at hp2
       have HP3:=ja hp2
       have hz1:=hb1.size
       have HB1:=ja (HBV.o.below hb1 (by omega))
       have HJ1:=ja (HJ.o _ _ _ none HJV.o (jX hb1 none) (by simp))
       have HM1:=ja ((hb1.cell (p:=⟨b1,0,none⟩) (by show b1<_;omega)).trans HMV.o)
       have HN1:=ja ((hb1.cell (p:=⟨b2,0,none⟩) (by show b2<_;omega)).trans HNV.o)
       clear hp2 HP2 hcl hb1
       gi_wp2
       go_roundw
       case rel=>
        refine⟨pre,k',d+1,best,rfl,by go_num,hk',by omega,by omega,λj hj=>Int.le_trans (HSQ'.o j hj) hmono,HB1.o,hbb1,hbb2,?_,HJ1.o,HM1.o,HN1.o⟩
        rw[hm2];exact HP3.o
       case measure=>simp[intOf];omega
      have hp2:=HP2.o
      rw[hcl,if_neg (by simp)] at hp2
      have HP3:=ja hp2
      have hz1:=hb1.size
      have HB1:=ja (HBV.o.below hb1 (by omega))
      have HX1:=ja (HXV.o.below hb1 (by omega))
      have HJ1:=ja (HJ.o _ _ _ none HJV.o (jX hb1 none) (by simp))
      have HM1:=ja ((hb1.cell (p:=⟨b1,0,none⟩) (by show b1<_;omega)).trans HMV.o)
      have HN1:=ja ((hb1.cell (p:=⟨b2,0,none⟩) (by show b2<_;omega)).trans HNV.o)
      clear hp2 HP2 hcl hb1
     case' neg=>
      gi_wp2_with fail
      refine⟨trivial,?_⟩
      have hp2:=HP2.o
      rw[if_neg (by simp;intro h;omega)] at hp2
      have HP3:=ja hp2
      have hz1:V.heap.size<=V.heap.size:=Nat.le_refl _
      have HB1:=ja HBV.o
      have HX1:=ja HXV.o
      have HJ1:=ja HJV.o
      have HM1:=ja HMV.o
      have HN1:=ja HNV.o
      clear hp2 HP2
      generalize V=V1 at *
     all_goals
      obtain⟨y0,y1,yf0,yf1⟩:=HX1.o.two
      obtain⟨t0,t1,tf0,tf1⟩:=HB1.o.two
      obtain⟨V2,hV2⟩:∃V2,V2=(V1.setCell ⟨W.heap.size,0,none⟩ (.int .i64 k')).setCell ⟨W.heap.size,1,none⟩ (.int .i64 d):=⟨_,rfl⟩
      have hz2:V2.heap.size=V1.heap.size:=by rw[hV2];simp
      have hg2:V1.grownBy V2 (some W.heap.size):=by rw[hV2];exact zn (zn (jac9 V1 (some W.heap.size)) 0 (.int .i64 k')) 1 (.int .i64 d)
      have HJ2:Hid (J pre V2):=ja (HJ.o _ _ _ (some W.heap.size) HJ1.o hg2 (λb e=>by cases e;omega))
      have HB2:Hid (jh V2 W.heap.size 100 #[.int .i64 k',.int .i64 d]):=ja (by rw[hV2];exact(HB1.o.set_ 0 _).set_ 1 _)
      have HX2:=ja (HX1.o.grown hg2 (λe=>by cases e;omega))
      have HM2:=ja (hg2.cell HM1.o (λe=>by have e':b1=W.heap.size:=Option.some.inj e;omega))
      have HN2:=ja (hg2.cell HN1.o (λe=>by have e':b2=W.heap.size:=Option.some.inj e;omega))
      clear hg2
      obtain⟨fn,tm,as_,bd,hy,hR⟩:=HY.o pre ((k':Int),(d:Int)) V2 ⟨recF n m ((d:Int)+1) (k',d),by rw[List.append_assoc];exact HP3.o⟩ HJ2.o (by omega)
      have HR:=ja hR;clear hR
      simp only[encN] at hy
      gi_upto_region 10 with fail
      rw[<-hV2]
      clear hV2
      obtain⟨z0,z1,zf0,zf1⟩:=HX2.o.two
      gi_wp2_with (first
       | (refine⟨rfl,HR.o.mono ?_⟩
          rintro e V3 hV3
          obtain⟨bb,rfl,hT,hF⟩:=zp4 hV3
          have HT:=ja hT;have HF:=ja hF
          clear hT hF hV3))
      ·rename_i hbb
       have hb2:bb=false:=by simpa using hbb
       subst hb2
       have h:=HF.o rfl
       refine bodyPost_ret (results_none rfl _ _ _) rfl ?_
       exact⟨⟨_,rfl⟩,.inr ⟨_,⟨recF n m ((d:Int)+1) (k',d),by rw[List.append_assoc];exact HP3.o⟩,h.1⟩⟩
      ·rename_i hbb
       have hb2:bb=true:=by simpa using hbb
       subst hb2
       have h:=HT.o rfl
       refine⟨⟨pre++[((k':Int),(d:Int))],k',d+1,(k',d),rfl,by go_num,hk',by omega,by omega,λj hj=>Int.le_trans (HSQ'.o j hj) hmono,HB2.o.of_block (h.2.same _ (.inr (by omega))),by dsimp only;omega,by dsimp only;omega,?_,h.1,
        (World.cell?_of_block (h.2.same b1 (.inl (.inl rfl)))).trans HM2.o,(World.cell?_of_block (h.2.same b2 (.inl (.inr rfl)))).trans HN2.o⟩,by simp[intOf];omega⟩
       rw[hm2,List.append_assoc];exact HP3.o
  ·gi_wp2
   have hd:(d:Int)=most+1:=by omega
   have hp:=HP.o
   rw[show(most+1-(d:Int)).toNat=0 by omega] at hp
   simp only[recF,List.append_nil] at hp
   go_end0
   exact⟨⟨_,rfl⟩,.inl (hp▸HJp.o)⟩
attribute [local go_sem] Oper.semAt_some
theorem jc0{w:World}{b:Nat}{v:Value}(h:w.cell? ⟨b,0,none⟩=some v):(loadVar 3 ⟨b,0,none⟩).run Tryz.prog w=.ok v w:=by
 have hagg:(isAgg 3).run Tryz.prog w=.ok false w:=by
  unfold isAgg
  rw[Sem.run_bind,run_underlying Tryz.underlying3 w]
  simp[Result.andThen]
 simp[loadVar,Sem.run_bind,hagg,go_sem,h]
theorem jt8 {fn:Func} {p q u:Tmp} {x y:TypeId} (h:fn.results=#[.cell p x,.cell q y,.tmp u]) (tmps:Array Value) (P:Program) (w:World) :
  (results fn tmps).run P w=((asAddr (tmps.getD p undef)).run P w).andThen λa w1=>((loadVar x a).run P w1).andThen λv w2=>((asAddr (tmps.getD q undef)).run P w2).andThen λb w3=>
   ((loadVar y b).run P w3).andThen λv2 w4=>.ok (.tuple #[v,v2,tmps.getD u undef]) w4:=by
 simp only[results,h]
 simp[Sem.run_bind,Result.andThen]
theorem jt9 {fn:Func} {p q u:Tmp} (h:fn.results=#[.cell p 3,.cell q 3,.tmp u]) {tmps:Array Value} {w:World} {b1 b2:Nat} {v1 v2 v3:Value}
  (e1:tmps.getD p undef=.pointer (some ⟨b1,0,none⟩)) (e2:tmps.getD q undef=.pointer (some ⟨b2,0,none⟩)) (e3:tmps.getD u undef=v3) (h1:w.cell? ⟨b1,0,none⟩=some v1) (h2:w.cell? ⟨b2,0,none⟩=some v2) :
  (results fn tmps).run Tryz.prog w=.ok (.tuple #[v1,v2,v3]) w:=by
 rw[jt8 h,e1,e2,e3]
 simp[asAddr,Result.andThen,jc0 h1,jc0 h2]
theorem jam3(n most:Int)(w:World):Calls Tryz.prog 58 #[.int .i64 n,.int .i64 most] w λe w'=>e=.returned (.bool (zz n 1 1000&&zz most 1 3000))/\w'=w:=by
 have HW:=ja (λW=>jN n 1 1000 W)
 have HM:=ja (λW=>jN most 1 3000 W)
 generalize zz n 1 1000=x at *
 generalize zz most 1 3000=y at *
 cases x
 all_goals
  go_enter Tryz.func58,Tryz.ntmps58
  go_wp2_with (first
   | (go_at_call_of 54 n;refine(HW.o _).mono ?_;rintro e w2 ⟨rfl,hw⟩;subst w2)
   | (go_at_call_of 54 most;refine(HM.o _).mono ?_;rintro e w2 ⟨rfl,hw⟩;subst w2))
  go_ret
  exact⟨by simp,rfl⟩
theorem jas4(n most:Int)(w:World):Calls Tryz.prog 59 #[.int .i64 n,.int .i64 most] w λe w'=>
  e=.returned (.func (.func 99) #[] #[.pointer (some ⟨w.heap.size+1,0,none⟩),.pointer (some ⟨w.heap.size,0,none⟩)])/\w'=(w.alloc (.cells #[.int .i64 n] 3)).alloc (.cells #[.int .i64 most] 3):=by
 go_enter Tryz.func59,Tryz.ntmps59
 go_wp2
 go_ret
 exact⟨by simp,rfl⟩
theorem zj6(args:Array Value)(w:World):(callFunc 99 args).run Tryz.prog w=.ok (.enter 99 args) w:=enters_of Tryz.func99 (by kernel_rfl) rfl args w
attribute [local go_sem] Oper.semAt_some
def js5(l:List (Int×Int)):Int×Int:=(l.getLast?).getD (0,0)
theorem zk4(l:List (Int×Int))(x:Int×Int):js5 (l++[x])=x:=by simp[js5]
def jg2(n most:Int):Int×Int×Int:=if(zz n 1 1000&&zz most 1 3000)=true then((js5 (recS n most)).1,(js5 (recS n most)).2,0)else(0,0,3)
def jcg8(w:World)(pre:List (Int×Int))(W:World):Prop:=
 ZG W w.heap.size 3 (.int .i64 (js5 pre).1)/\ZG W (w.heap.size+1) 3 (.int .i64 (js5 pre).2)/\Below w.heap.size w W
theorem jap4(n most:Int)(w:World):Calls Tryz.prog 22 #[.int .i64 n,.int .i64 most] w λe w'=>
  e=.returned (.tuple #[.int .i64 (jg2 n most).1,.int .i64 (jg2 n most).2.1,.int .i64 (jg2 n most).2.2])/\Below w.heap.size w w':=by
 have HA:=ja (λm W=>(callsIn_wide (n:=m)).2 (jam3 n most W))
 have HRC:=ja (λm W=>(callsIn_wide (n:=m)).2 (jas4 n most W))
 have HX0:=ja ((ZG.new w 3 (.int .i64 0)).alloc (.cells #[.int .i64 0] 3))
 have hY:=ZG.new (w.alloc (.cells #[.int .i64 0] 3)) 3 (.int .i64 0)
 rw[World.size_alloc] at hY
 have HY0:=ja hY
 have HB0:=ja (((Below.refl w.heap.size w).alloc (Nat.le_refl _) (.cells #[.int .i64 0] 3)).alloc (by simp) (.cells #[.int .i64 0] 3))
 obtain⟨w0,hw0⟩:∃w0,w0=(w.alloc (.cells #[.int .i64 0] 3)).alloc (.cells #[.int .i64 0] 3):=⟨_,rfl⟩
 have hz0:w0.heap.size=w.heap.size+2:=by rw[hw0];simp
 rw[<-hw0] at HX0 HY0 HB0
 clear hY
 have HX0:=ja HX0.o
 have HY0:=ja HY0.o
 unfold jg2
 refine(callsIn_wide (n:=0)).1 ?_
 refine callsIn_of_wp_marks Tryz.func22 rfl trivial ?_ rfl
 simp only[Tryz.ntmps22,List.size_toArray,List.length_cons,List.length_nil,Nat.reduceAdd,Nat.reduceSub,Array.replicate_succ,Array.replicate_zero,List.push_toArray,List.append_toArray,List.nil_append,List.cons_append]
 cases hin:(zz n 1 1000&&zz most 1 3000)
 ·rw[hin] at HA
  gi_wp2_with fail
  rw[<-hw0]
  clear hw0
  refine⟨trivial,rfl,CallsIn.mono (HA.o _ _) ?_⟩
  rintro e w1 ⟨rfl,hw1⟩
  subst w1
  have h1:=HX0.o.cell
  have h2:=HY0.o.cell
  have f1:=HX0.o.free
  have f2:=HY0.o.free
  gi_wp2
  refine⟨_,jt9 rfl rfl rfl rfl (b1:=w.heap.size) (b2:=w.heap.size+1) (v1:=.int .i64 0) (v2:=.int .i64 0) ?_ ?_,rfl,Below.setCell (Below.setCell HB0.o (p:=⟨w.heap.size,0,none⟩) (by simp) _) (p:=⟨w.heap.size+1,0,none⟩) (by simp) _⟩
  ·exact((HX0.o.set_ _).far (by simp) _).cell
  ·exact((HY0.o.far (by simp) _).set_ _).cell
 ·rw[hin] at HA
  have hn:1<=n/\n<=1000:=by
   have:=(Bool.and_eq_true _ _▸hin:_/\_).1;simpa [zz] using this
  have hm:1<=most/\most<=3000:=by
   have:=(Bool.and_eq_true _ _▸hin:_/\_).2;simpa [zz] using this
  have hg:=zn2 (w.heap.size+3) (w.heap.size+2) n most ((w0.alloc (.cells #[.int .i64 n] 3)).alloc (.cells #[.int .i64 most] 3)) (by
   have:=(ZG.new (w0.alloc (.cells #[.int .i64 n] 3)) 3 (.int .i64 most)).cell
   rw[World.size_alloc,hz0] at this
   exact this) (by
   have:=((ZG.new w0 3 (.int .i64 n)).alloc (.cells #[.int .i64 most] 3)).cell
   rw[hz0] at this
   exact this) hn hm
  have HG:=ja hg
  clear hg
  gi_wp2_with fail
  rw[<-hw0]
  clear hw0
  refine⟨trivial,rfl,CallsIn.mono (HA.o _ _) ?_⟩
  rintro e w1 ⟨rfl,hw1⟩
  subst w1
  gi_wp2_with fail
  refine⟨trivial,rfl,CallsIn.mono (HRC.o _ _) ?_⟩
  rintro e w1 ⟨rfl,hw1⟩
  subst w1
  rw[hz0]
  have hbR:Below w.heap.size w ((w0.alloc (.cells #[.int .i64 n] 3)).alloc (.cells #[.int .i64 most] 3)):=(HB0.o.alloc (by omega) _).alloc (by simp;omega) _
  gi_wp2_with fail
  refine QV (gf:=99) (lb:=#[.pointer (some ⟨w.heap.size+3,0,none⟩),.pointer (some ⟨w.heap.size+2,0,none⟩)]) rfl zj6 HG.o (Below.refl _ _) ?_ (λ_=>rfl) (λpre W=>jcg8 w pre W) (λ_ _ _=>False) ?_ ?_ ?_ ?_ ?_ ?_
  ·rintro b (rfl|rfl)<;>simp<;>omega
  ·rintro s A B row ⟨h1,h2,h3⟩ hg hr
   simp only[World.size_alloc,hz0] at hr
   exact⟨h1.grown hg (λe=>by have:=hr _ e;omega),h2.grown hg (λe=>by have:=hr _ e;omega),h3.grown hg h3.size (λj e=>by have:=hr j e;omega)⟩
  ·rintro _ _ _ _ _ h;exact h.elim
  ·exact⟨(HX0.o.alloc _).alloc _,(HY0.o.alloc _).alloc _,hbR⟩
  ·rintro pre x W hsp ⟨h1,h2,h3⟩ hsz
   simp only[World.size_alloc,hz0] at hsz ⊢
   obtain⟨xa,xb⟩:=x
   have HX1:=ja h1
   have HY1:=ja h2
   have HB1:=ja h3
   clear h1 h2 h3 hsp
   simp only[encN]
   gi_wp2
   refine⟨(KeepB.refl _ _).alloc (by rintro b ((rfl|rfl)|h)<;>omega) _,?_⟩
   intro W2 hg2 hzz
   have HX2:=ja ((HX1.o.alloc _).grown hg2 (by simp;omega))
   have HY2:=ja ((HY1.o.alloc _).grown hg2 (by simp;omega))
   have HN2:=ja ((jh.new W 100 #[.int .i64 xa,.int .i64 xb]).grown hg2 (by simp;omega))
   have HB2:=ja ((HB1.o.alloc HB1.o.size _).grown hg2 (by simp;omega) (λj e=>by cases e;omega))
   obtain⟨Z,hZ⟩:∃Z,Z=W.heap.size:=⟨_,rfl⟩
   simp only[World.size_alloc] at hzz
   rw[<-hZ] at HN2 hzz ⊢
   clear hg2 HX1 HY1 HB1
   have hZ1:w.heap.size+1<Z:=by omega
   have hZ2:w.heap.size+1<W2.heap.size:=by omega
   clear hZ hzz hsz
   obtain⟨n0,n1,nf0,nf1⟩:=HN2.o.two
   have x0:=HX2.o.cell
   have y0:=HY2.o.cell
   have xf:=HX2.o.free
   have yf:=HY2.o.free
   have e1:(W2.setCell ⟨w.heap.size,0,none⟩ (.int .i64 xa)).cell? ⟨Z,1,none⟩=some (.int .i64 xb):=(World.cell?_setCell_other _ _ _ _ (by simp)).trans n1
   have F1:=ja (show ZG ((W2.setCell ⟨w.heap.size,0,none⟩ (.int .i64 xa)).setCell ⟨w.heap.size+1,0,none⟩ (.int .i64 xb)) w.heap.size 3 (.int .i64 (js5 (pre++[(xa,xb)])).1) by rw[zk4];exact(HX2.o.set_ _).far (by simp) _)
   have F2:=ja (show ZG ((W2.setCell ⟨w.heap.size,0,none⟩ (.int .i64 xa)).setCell ⟨w.heap.size+1,0,none⟩ (.int .i64 xb)) (w.heap.size+1) 3 (.int .i64 (js5 (pre++[(xa,xb)])).2) by rw[zk4];exact(HY2.o.far (by simp) _).set_ _)
   have F3:=ja (Below.setCell (Below.setCell HB2.o (p:=⟨w.heap.size,0,none⟩) (by simp) (.int .i64 xa)) (p:=⟨w.heap.size+1,0,none⟩) (by simp) (.int .i64 xb))
   have F4:Hid (KeepB (λb=>(b=w.heap.size+3\/b=w.heap.size+2)\/w.heap.size+2+1+1<=b/\b<w.heap.size+2+1+1+2+1) W2 ((W2.setCell ⟨w.heap.size,0,none⟩ (.int .i64 xa)).setCell ⟨w.heap.size+1,0,none⟩ (.int .i64 xb))):=ja (((KeepB.refl _ _).setCell (by rintro((h|h)|h)<;>simp at h<;>omega) _).setCell (by rintro((h|h)|h)<;>simp at h<;>omega) _)
   gi_wp2
   first|gi_region_with fail|done
   all_goals gi_wp2
   all_goals exact⟨F4.o.drewN 1,F1.o,F2.o,Below.drew F3.o⟩
  ·rintro xs V rfl ⟨h1,h2,h3⟩ hD
   simp only[World.size_alloc,hz0] at hD ⊢
   obtain⟨lp,hlp⟩:∃lp,js5 (recS n most)=lp:=⟨_,rfl⟩
   rw[hlp] at h1 h2
   have HLP:=ja hlp
   clear hlp
   have HX1:=ja h1
   have HY1:=ja h2
   have HB1:=ja h3
   have HD:=ja hD
   clear h1 h2 h3 hD
   have x0:=HX1.o.cell
   have y0:=HY1.o.cell
   have xf:=HX1.o.free
   have yf:=HY1.o.free
   gi_wp2
   have F1:=ja (show ZG ((V.setCell ⟨w.heap.size,0,none⟩ (.int .i64 lp.1)).setCell ⟨w.heap.size+1,0,none⟩ (.int .i64 lp.2)) w.heap.size 3 (.int .i64 lp.1)from(HX1.o.set_ _).far (by simp) _)
   have F2:=ja (show ZG ((V.setCell ⟨w.heap.size,0,none⟩ (.int .i64 lp.1)).setCell ⟨w.heap.size+1,0,none⟩ (.int .i64 lp.2)) (w.heap.size+1) 3 (.int .i64 lp.2)from(HY1.o.far (by simp) _).set_ _)
   have F3:=ja (Below.setCell (Below.setCell HB1.o (p:=⟨w.heap.size,0,none⟩) (by simp) (.int .i64 lp.1)) (p:=⟨w.heap.size+1,0,none⟩) (by simp) (.int .i64 lp.2))
   have F4:=ja (((Below.heap_setCell (V.setCell ⟨w.heap.size,0,none⟩ (.int .i64 lp.1)) ⟨w.heap.size+1,0,none⟩ (.int .i64 lp.2) _ (by simp;omega)).trans (Below.heap_setCell V ⟨w.heap.size,0,none⟩ (.int .i64 lp.1) _ (by simp;omega))).trans HD.o)
   first|gi_region_with fail|done
   all_goals gi_wp2
   all_goals
    refine⟨by simp,.inl ⟨_,_,rfl,run_takeDeferred (w:=World.drew _) F4.o,?_⟩⟩
    refine⟨_,jt9 rfl rfl rfl rfl (b1:=w.heap.size) (b2:=w.heap.size+1) (v1:=.int .i64 lp.1) (v2:=.int .i64 lp.2) ?_ ?_,by rw[HLP.o];rfl,?_⟩
    ·exact(ZG.of_block F1.o (World.putObj_heap_other (by omega))).cell
    ·exact(ZG.of_block F2.o (World.putObj_heap_other (by omega))).cell
    ·exact(Below.drew F3.o).grown (jZ _ _) F3.o.size (λj e=>by cases e;omega)
  ·rintro _ _ _ _ h;exact h.elim
