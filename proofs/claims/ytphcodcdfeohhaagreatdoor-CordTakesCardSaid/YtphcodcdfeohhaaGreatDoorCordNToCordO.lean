import Derived.Test.YtphcodcdfeohhaaGreatDoorCordIToCordJ
import Derived.Test.YtphcodcdfeohhaaGreatDoorLongJToLongM
import Derived.Sort.CutIn
set_option linter.unusedVariables false
set_option linter.unusedSimpArgs false
namespace Go.Proofs.YtphcodcdfeohhaaGreatDoor
set_option maxRecDepth 100000
set_option maxHeartbeats 4000000
open Go.RowKit
def jt9(x:Int×Int)(n:Int):Bool:=decide (n*x.2*x.2<=x.1*x.1)
theorem jbf9 (x:Int×Int) (n:Int) (w:World) (hx:0<=x.1/\x.1<=100000) (hy:0<=x.2/\x.2<=3000) (hn:1<=n/\n<=1000) :
  Calls Tryz.prog 138 #[.agg #[.int .i64 x.1,.int .i64 x.2],.int .i64 n] w fun e w'=>e=.returned (.bool (jt9 x n))/\Below w.heap.size w w':=by
 obtain⟨a,b⟩:=x
 unfold jt9
 dsimp only at *
 have h1:=jc0 (a:=a) (b:=a) (A:=100000) (B:=100000) (by omega) (by omega)
 have h2:=jc0 (a:=n) (b:=b) (A:=1000) (B:=3000) (by omega) (by omega)
 have h3:=jc0 (a:=n*b) (b:=b) (A:=3000000) (B:=3000) (by omega) (by omega)
 generalize haa:a*a=aa at *
 generalize hnb:n*b=nb at *
 generalize hnbb:nb*b=nbb at *
 go_enter Tryz.func138,Tryz.ntmps138
 go_wp2
 go_ret
 exact⟨rfl,(Below.refl _ _).alloc (Nat.le_refl _) _⟩
def jj4(x y:Int×Int)(n:Int):Bool:=
 if jt9 x n&&jt9 y n then decide (x.1*y.2-y.1*x.2<0)
 else if jt9 x n then decide ((x.1*y.2+y.1*x.2)*(x.1*y.2+y.1*x.2)-4*n*x.2*x.2*y.2*y.2<0)
 else if jt9 y n then decide (0<(x.1*y.2+y.1*x.2)*(x.1*y.2+y.1*x.2)-4*n*x.2*x.2*y.2*y.2)
 else decide (0<x.1*y.2-y.1*x.2)
theorem jbr4 (x y:Int×Int) (n:Int) (w:World) (hx:0<=x.1/\x.1<=100000) (hx2:0<=x.2/\x.2<=3000) (hy:0<=y.1/\y.1<=100000) (hy2:0<=y.2/\y.2<=3000) (hn:1<=n/\n<=1000) :
  Calls Tryz.prog 100 #[.agg #[.int .i64 x.1,.int .i64 x.2],.agg #[.int .i64 y.1,.int .i64 y.2],.int .i64 n] w fun e w'=>e=.returned (.bool (jj4 x y n))/\Below w.heap.size w w':=by
 have HOX:=ja0 (fun W=>jbf9 x n W hx hx2 hn)
 have HOY:=ja0 (fun W=>jbf9 y n W hy hy2 hn)
 have HX0:=ja0 ((Blk.new w 100 #[.int .i64 x.1,.int .i64 x.2]).alloc (.cells #[.int .i64 y.1,.int .i64 y.2] 100))
 have hY:=Blk.new (w.alloc (.cells #[.int .i64 x.1,.int .i64 x.2] 100)) 100 #[.int .i64 y.1,.int .i64 y.2]
 rw[World.size_alloc] at hY
 have HY0:=ja0 hY
 have HB0:=ja0 (((Below.refl w.heap.size w).alloc (Nat.le_refl _) (.cells #[.int .i64 x.1,.int .i64 x.2] 100)).alloc (by simp) (.cells #[.int .i64 y.1,.int .i64 y.2] 100))
 clear hY
 unfold jj4
 generalize jt9 x n=ox at *
 generalize jt9 y n=oy at *
 obtain⟨a,b⟩:=x
 obtain⟨c,d⟩:=y
 dsimp only at *
 have h1:=jc0 (a:=a) (b:=d) (A:=100000) (B:=3000) (by omega) (by omega)
 have h2:=jc0 (a:=c) (b:=b) (A:=100000) (B:=3000) (by omega) (by omega)
 generalize had:a*d=p at *
 generalize hcb:c*b=q at *
 have h3:=jc0 (a:=p+q) (b:=p+q) (A:=600000000) (B:=600000000) (by omega) (by omega)
 have h4:=jc0 (a:=4*n) (b:=b) (A:=4000) (B:=3000) (by omega) (by omega)
 generalize hss:(p+q)*(p+q)=ss at *
 generalize hk1:4*n*b=k1 at *
 have h5:=jc0 (a:=k1) (b:=b) (A:=12000000) (B:=3000) (by omega) (by omega)
 generalize hk2:k1*b=k2 at *
 have h6:=jc0 (a:=k2) (b:=d) (A:=36000000000) (B:=3000) (by omega) (by omega)
 generalize hk3:k2*d=k3 at *
 have h7:=jc0 (a:=k3) (b:=d) (A:=108000000000000) (B:=3000) (by omega) (by omega)
 generalize hk4:k3*d=k4 at *
 obtain⟨x0,x1,xf0,xf1⟩:=HX0.out.two
 obtain⟨y0,y1,yf0,yf1⟩:=HY0.out.two
 cases ox<;>cases oy
 all_goals
  go_enter Tryz.func100,Tryz.ntmps100
  go_wp2_with (first
   | (go_at_call_of 138 a;refine(HOX.out _).mono ?_;rintro e w1 ⟨rfl,hb1⟩
      have HX0:=ja0 (HX0.out.below hb1 (by have:=HX0.out.lt;omega));have HY0:=ja0 (HY0.out.below hb1 (by have:=HY0.out.lt;omega));have HB0:=ja0 (HB0.out.trans (hb1.mono HB0.out.size))
      obtain⟨x0,x1,xf0,xf1⟩:=HX0.out.two
      obtain⟨y0,y1,yf0,yf1⟩:=HY0.out.two
      clear hb1)
   | (go_at_call_of 138 c;refine(HOY.out _).mono ?_;rintro e w1 ⟨rfl,hb1⟩
      have HX0:=ja0 (HX0.out.below hb1 (by have:=HX0.out.lt;omega));have HY0:=ja0 (HY0.out.below hb1 (by have:=HY0.out.lt;omega));have HB0:=ja0 (HB0.out.trans (hb1.mono HB0.out.size))
      obtain⟨x0,x1,xf0,xf1⟩:=HX0.out.two
      obtain⟨y0,y1,yf0,yf1⟩:=HY0.out.two
      clear hb1))
  all_goals go_ret
  all_goals exact⟨by simp,HB0.out⟩
attribute [local go_sem] Oper.semAt_some
def jbf7:Nat->Int->Int->Int
 | 0,_,k=>k
 | f+1,b,k=>if(2*k+1)*(2*k+1)<=b then jbf7 f b (k+1)else k
def numR(b:Int):Int:=jbf7 200000 b 0
theorem jay4 {b:Int}:∀(k f:Nat) (s:Int),(∀j:Nat,j<k->(2*(s+j)+1)*(2*(s+j)+1)<=b)->jbf7 (k+f) b s=jbf7 f b (s+k)
 | 0,f,s,_=>by simp
 | k+1,f,s,h=>by
  have h0:=h 0 (by omega)
  rw[show k+1+f=(k+f)+1 by omega]
  conv=>lhs;unfold jbf7
  rw[if_pos (by simpa using h0),jay4 k f (s+1) (fun j hj=>by
   have:=h (j+1) (by omega)
   rw[show s+1+(j:Int)=s+((j+1:Nat):Int) by omega];exact this)]
  congr 1;omega
theorem jcm4{b:Int}{k:Nat}(hk:k<200000)(h:∀j:Nat,j<k->(2*(j:Int)+1)*(2*(j:Int)+1)<=b)(h2:¬(2*(k:Int)+1)*(2*(k:Int)+1)<=b):numR b=k:=by
 unfold numR
 obtain⟨f,hf⟩:∃f,200000=k+(f+1):=⟨200000-k-1,by omega⟩
 rw[hf,jay4 k (f+1) 0 (fun j hj=>by simpa using h j hj)]
 unfold jbf7
 rw[if_neg (by simpa using h2)]
 omega
theorem jbf8{k:Int}(h:(2*k+1)*(2*k+1)<=36000000000)(hk:0<=k):k<=94868:=by
 rcases Int.lt_or_le 94868 k with h1|h1
 ·have h2:(189739:Int)*189739<=(2*k+1)*(2*k+1):=Int.mul_le_mul (by omega) (by omega) (by omega) (by omega)
  exact absurd (Int.le_trans h2 h) (by decide)
 ·exact h1
def za5 (n:Int):Nat->Int->Int×Int->List (Int×Int)
 | 0,_,_=>[]
 | k+1,den,best=>if(decide (1<den)&&!jj4 (numR (4*n*den*den),den) best n)=true then za5 n k (den+1) best else(numR (4*n*den*den),den)::za5 n k (den+1) (numR (4*n*den*den),den)
def js0(n most:Int):List (Int×Int):=za5 n most.toNat 1 (0,0)
def encN(x:Int×Int):Array Value:=#[.agg #[.int .i64 x.1,.int .i64 x.2]]
def jdr8(W0:World)(b1 b2:Nat)(n most:Int)(J:List (Int×Int)->World->Prop)(u v:Value)(A:World):Prop:=
 ∃(pre:List (Int×Int)) (k d:Nat) (best:Int×Int),u=.int .i64 k/\v=.int .i64 d/\k<=94869/\1<=d/\d<=most+1/\(∀j:Nat,j<k->(2*(j:Int)+1)*(2*(j:Int)+1)<=4*n*d*d) /\
  Blk A W0.heap.size 100 #[.int .i64 best.1,.int .i64 best.2]/\(0<=best.1/\best.1<=100000)/\(0<=best.2/\best.2<=3000)/\pre++za5 n (most+1-d).toNat d best=js0 n most /\
  J pre A/\A.cell? ⟨b1,0,none⟩=some (.int .i64 most)/\A.cell? ⟨b2,0,none⟩=some (.int .i64 n)
theorem zs7 (b1 b2:Nat) (n most:Int) (w0:World) (h1:w0.cell? ⟨b1,0,none⟩=some (.int .i64 most)) (h2:w0.cell? ⟨b2,0,none⟩=some (.int .i64 n)) (hn:1<=n/\n<=1000) (hm:1<=most/\most<=3000) :
  zy6 Tryz.prog 99 #[.pointer (some ⟨b1,0,none⟩),.pointer (some ⟨b2,0,none⟩)] encN (fun ys=>ys=js0 n most) (fun pre=>∃rest,pre++rest=js0 n most) (fun c=>c=b1\/c=b2) 1 w0:=by
 intro l J Jx W hW hJ hJx hY h0
 have hl1:b1<w0.heap.size:=World.block_lt_of_cell? _ _ h1
 have hl2:b2<w0.heap.size:=World.block_lt_of_cell? _ _ h2
 have hc1:W.cell? ⟨b1,0,none⟩=some (.int .i64 most):=(hW.cell (p:=⟨b1,0,none⟩) hl1).trans h1
 have hc2:W.cell? ⟨b2,0,none⟩=some (.int .i64 n):=(hW.cell (p:=⟨b2,0,none⟩) hl2).trans h2
 have hWz:=hW.size
 have HY:=ja0 hY;clear hY
 have HJ:=ja0 hJ;clear hJ
 have HJx:=ja0 hJx;clear hJx
 have H0:=ja0 h0;clear h0
 have HC1:=ja0 hc1
 have HC2:=ja0 hc2
 clear h1 h2 hc1 hc2 hW
 have HCL:=ja0 (fun n' x y W a b c d=>(callsIn_wide (n:=n')).2 (jbr4 x y n W a b c d hn))
 refine callsIn_of_wp Tryz.func99 rfl trivial ?_
 simp only[Tryz.ntmps99,List.size_toArray,List.length_cons,List.length_nil,Nat.reduceAdd,Nat.reduceSub,Array.replicate_succ,Array.replicate_zero,List.push_toArray,List.append_toArray,List.nil_append,List.cons_append]
 gi_wp2
 gi_loopw [5,6] (fun u v A=>jdr8 W b1 b2 n most J u v A) (fun _ v _=>(most+1-intOf v).toNat)
 case atStart=>
  refine⟨[],0,1,(0,0),rfl,rfl,by omega,by omega,by omega,fun j hj=>by omega,Blk.new W _ _,by decide,by decide,?_,HJ.out _ _ _ none H0.out (World.grownBy_alloc _ _ _) (by simp),?_,?_⟩
  ·unfold js0;rw[show(most+1-((1:Nat):Int)).toNat=most.toNat by omega];rfl
  ·exact(World.cell?_alloc_lt _ _ _ (by show b1<_;omega)).trans HC1.out
  ·exact(World.cell?_alloc_lt _ _ _ (by show b2<_;omega)).trans HC2.out
 case round=>
  obtain⟨pre,k,d,best,rfl,rfl,hk,hd1,hd2,hsq,hbk,hbb1,hbb2,hp,hJp,hcm,hcn⟩:=hrel
  have HSQ:=ja0 hsq;clear hsq
  have HBK:=ja0 hbk;clear hbk
  have HP:=ja0 hp;clear hp
  have HJp:=ja0 hJp;clear hJp
  by_cases hdm:(d:Int)<=most
  ·have e1:=jc0 (a:=4*n) (b:=(d:Int)) (A:=4000) (B:=3000) (by omega) (by omega)
   generalize hq1:4*n*(d:Int)=q1 at *
   have e2:=jc0 (a:=q1) (b:=(d:Int)) (A:=12000000) (B:=3000) (by omega) (by omega)
   generalize hq2:q1*(d:Int)=q2 at *
   have hq2b:q2<=36000000000:=by omega
   obtain⟨m,hmm⟩:∃m,(most+1-(d:Int)).toNat=m+1:=⟨(most-d).toNat,by omega⟩
   have hm2:(most+1-((d+1:Nat):Int)).toNat=m:=by omega
   have hp1:=HP.out
   rw[hmm,za5,hq1,hq2] at hp1
   have HP1:=ja0 hp1
   have hmono:q2<=4*n*((d+1:Nat):Int)*((d+1:Nat):Int):=by
    rw[<-hq2,<-hq1]
    exact Int.mul_le_mul (Int.mul_le_mul_of_nonneg_left (by omega) (by omega)) (by omega) (by omega) (Int.mul_nonneg (by omega) (by omega))
   clear hp1 HP
   gi_wp2
   gi_loopw [5] (fun u U=>∃k':Nat,u=.int .i64 k'/\k'<=94869/\(∀j:Nat,j<k'->(2*(j:Int)+1)*(2*(j:Int)+1)<=q2)/\U=wr) (fun u _=>(94869-intOf u).toNat)
   case atStart=>
    exact⟨k,rfl,hk,HSQ.out,rfl⟩
   case round=>
    obtain⟨k',rfl,hk',hsq',hU⟩:=hrel
    subst hU
    have HSQ':=ja0 hsq';clear hsq'
    have e3:=jc0 (a:=2*(k':Int)+1) (b:=2*(k':Int)+1) (A:=200000) (B:=200000) (by omega) (by omega)
    by_cases hle:(2*(k':Int)+1)*(2*(k':Int)+1)<=q2
    ·have hk2:=jbf8 (Int.le_trans hle hq2b) (by omega)
     have HLE:=ja0 hle
     generalize hsqg:(2*(k':Int)+1)*(2*(k':Int)+1)=sq at *
     gi_wp2
     go_roundw
     case rel=>
      refine⟨k'+1,by go_num,by omega,fun j hj=>?_,trivial⟩
      rcases Nat.lt_or_ge j k' with h|h
      ·exact HSQ'.out j h
      ·have:j=k':=by omega
       subst this
       rw[hsqg];exact HLE.out
     case measure=>simp[intOf];omega
    ·have HNR:=ja0 (jcm4 (by omega) HSQ'.out hle)
     generalize hsqg:(2*(k':Int)+1)*(2*(k':Int)+1)=sq at *
     obtain⟨V,hV⟩:∃V,V=wr.alloc (.cells #[.int .i64 k',.int .i64 d] 100):=⟨_,rfl⟩
     obtain⟨X,hX⟩:∃X,X=wr.heap.size:=⟨_,rfl⟩
     have hzV:V.heap.size=X+1:=by rw[hV,hX];simp
     have hWX:W.heap.size<X:=by have:=HBK.out.lt;omega
     have HXV:Hid (Blk V X 100 #[.int .i64 k',.int .i64 d]):=ja0 (by rw[hV,hX];exact Blk.new _ _ _)
     have HBV:Hid (Blk V W.heap.size 100 #[.int .i64 best.1,.int .i64 best.2]):=ja0 (by rw[hV];exact HBK.out.alloc _)
     have HJV:Hid (J pre V):=ja0 (by rw[hV];exact HJ.out _ _ _ none HJp.out (World.grownBy_alloc _ _ _) (by simp))
     have HMV:Hid (V.cell? ⟨b1,0,none⟩=some (.int .i64 most)):=ja0 (by rw[hV];exact(World.cell?_alloc_lt _ _ _ (by show b1<_;omega)).trans hcm)
     have HNV:Hid (V.cell? ⟨b2,0,none⟩=some (.int .i64 n)):=ja0 (by rw[hV];exact(World.cell?_alloc_lt _ _ _ (by show b2<_;omega)).trans hcn)
     gi_upto_region 8 with fail
     rw[<-hV,<-hX]
     clear hcm hcn HJp HBK hV hX
     obtain⟨x0,x1,xf0,xf1⟩:=HXV.out.two
     obtain⟨v0,v1,vf0,vf1⟩:=HBV.out.two
     have hvn:=HNV.out
     have hp1:=HP1.out
     rw[HNR.out] at hp1
     have HP2:=ja0 hp1
     clear hp1 HP1 HNR
     have HCL1:=ja0 (fun n'=>HCL.out n' (k',d) best V (by dsimp only;omega) (by dsimp only;omega) hbb1 hbb2)
     by_cases hd:1<(d:Int)
     case' pos=>
      gi_wp2_with fail
      refine⟨trivial,rfl,CallsIn.mono (HCL1.out _) ?_⟩
      rintro e V1 ⟨rfl,hb1⟩
      cases hcl:jj4 (k',d) best n
      ·have hp2:=HP2.out
       rw[hcl,if_pos (by simp[hd])] at hp2
       have HP3:=ja0 hp2
       have hz1:=hb1.size
       have HB1:=ja0 (HBV.out.below hb1 (by omega))
       have HJ1:=ja0 (HJ.out _ _ _ none HJV.out (jf0 hb1 none) (by simp))
       have HM1:=ja0 ((hb1.cell (p:=⟨b1,0,none⟩) (by show b1<_;omega)).trans HMV.out)
       have HN1:=ja0 ((hb1.cell (p:=⟨b2,0,none⟩) (by show b2<_;omega)).trans HNV.out)
       clear hp2 HP2 hcl hb1
       gi_wp2
       go_roundw
       case rel=>
        refine⟨pre,k',d+1,best,rfl,by go_num,hk',by omega,by omega,fun j hj=>Int.le_trans (HSQ'.out j hj) hmono,HB1.out,hbb1,hbb2,?_,HJ1.out,HM1.out,HN1.out⟩
        rw[hm2];exact HP3.out
       case measure=>simp[intOf];omega
      have hp2:=HP2.out
      rw[hcl,if_neg (by simp)] at hp2
      have HP3:=ja0 hp2
      have hz1:=hb1.size
      have HB1:=ja0 (HBV.out.below hb1 (by omega))
      have HX1:=ja0 (HXV.out.below hb1 (by omega))
      have HJ1:=ja0 (HJ.out _ _ _ none HJV.out (jf0 hb1 none) (by simp))
      have HM1:=ja0 ((hb1.cell (p:=⟨b1,0,none⟩) (by show b1<_;omega)).trans HMV.out)
      have HN1:=ja0 ((hb1.cell (p:=⟨b2,0,none⟩) (by show b2<_;omega)).trans HNV.out)
      clear hp2 HP2 hcl hb1
     case' neg=>
      gi_wp2_with fail
      refine⟨trivial,?_⟩
      have hp2:=HP2.out
      rw[if_neg (by simp;intro h;omega)] at hp2
      have HP3:=ja0 hp2
      have hz1:V.heap.size<=V.heap.size:=Nat.le_refl _
      have HB1:=ja0 HBV.out
      have HX1:=ja0 HXV.out
      have HJ1:=ja0 HJV.out
      have HM1:=ja0 HMV.out
      have HN1:=ja0 HNV.out
      clear hp2 HP2
      generalize V=V1 at *
     all_goals
      obtain⟨y0,y1,yf0,yf1⟩:=HX1.out.two
      obtain⟨t0,t1,tf0,tf1⟩:=HB1.out.two
      obtain⟨V2,hV2⟩:∃V2,V2=(V1.setCell ⟨W.heap.size,0,none⟩ (.int .i64 k')).setCell ⟨W.heap.size,1,none⟩ (.int .i64 d):=⟨_,rfl⟩
      have hz2:V2.heap.size=V1.heap.size:=by rw[hV2];simp
      have hg2:V1.grownBy V2 (some W.heap.size):=by rw[hV2];exact jf6 (jf6 (jbk5 V1 (some W.heap.size)) 0 (.int .i64 k')) 1 (.int .i64 d)
      have HJ2:Hid (J pre V2):=ja0 (HJ.out _ _ _ (some W.heap.size) HJ1.out hg2 (fun b e=>by cases e;omega))
      have HB2:Hid (Blk V2 W.heap.size 100 #[.int .i64 k',.int .i64 d]):=ja0 (by rw[hV2];exact(HB1.out.set_ 0 _).set_ 1 _)
      have HX2:=ja0 (HX1.out.grown hg2 (fun e=>by cases e;omega))
      have HM2:=ja0 (hg2.cell HM1.out (fun e=>by have e':b1=W.heap.size:=Option.some.inj e;omega))
      have HN2:=ja0 (hg2.cell HN1.out (fun e=>by have e':b2=W.heap.size:=Option.some.inj e;omega))
      clear hg2
      obtain⟨fn,tm,as_,bd,hy,hR⟩:=HY.out pre ((k':Int),(d:Int)) V2 ⟨za5 n m ((d:Int)+1) (k',d),by rw[List.append_assoc];exact HP3.out⟩ HJ2.out (by omega)
      have HR:=ja0 hR;clear hR
      simp only[encN] at hy
      gi_upto_region 10 with fail
      rw[<-hV2]
      clear hV2
      obtain⟨z0,z1,zf0,zf1⟩:=HX2.out.two
      gi_wp2_with (first
       | (refine⟨rfl,HR.out.mono ?_⟩
          rintro e V3 hV3
          obtain⟨bb,rfl,hT,hF⟩:=jba5 hV3
          have HT:=ja0 hT;have HF:=ja0 hF
          clear hT hF hV3))
      ·rename_i hbb
       have hb2:bb=false:=by simpa using hbb
       subst hb2
       have h:=HF.out rfl
       refine bodyPost_ret (results_none rfl _ _ _) rfl ?_
       exact⟨⟨_,rfl⟩,.inr ⟨_,⟨za5 n m ((d:Int)+1) (k',d),by rw[List.append_assoc];exact HP3.out⟩,h.1⟩⟩
      ·rename_i hbb
       have hb2:bb=true:=by simpa using hbb
       subst hb2
       have h:=HT.out rfl
       refine⟨⟨pre++[((k':Int),(d:Int))],k',d+1,(k',d),rfl,by go_num,hk',by omega,by omega,fun j hj=>Int.le_trans (HSQ'.out j hj) hmono,HB2.out.of_block (h.2.same _ (.inr (by omega))),by dsimp only;omega,by dsimp only;omega,?_,h.1,
        (World.cell?_of_block (h.2.same b1 (.inl (.inl rfl)))).trans HM2.out,(World.cell?_of_block (h.2.same b2 (.inl (.inr rfl)))).trans HN2.out⟩,by simp[intOf];omega⟩
       rw[hm2,List.append_assoc];exact HP3.out
  ·gi_wp2
   have hd:(d:Int)=most+1:=by omega
   have hp:=HP.out
   rw[show(most+1-(d:Int)).toNat=0 by omega] at hp
   simp only[za5,List.append_nil] at hp
   go_end0
   exact⟨⟨_,rfl⟩,.inl (hp▸HJp.out)⟩
end Go.Proofs.YtphcodcdfeohhaaGreatDoor
