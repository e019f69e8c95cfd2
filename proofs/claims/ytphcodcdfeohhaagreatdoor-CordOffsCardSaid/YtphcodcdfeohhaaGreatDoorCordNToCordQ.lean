import Derived.Test.YtphcodcdfeohhaaGreatDoorCordIToCordJ
import Derived.Test.YtphcodcdfeohhaaGreatDoorLongJToLongM
import Derived.Sort.CutIn
set_option linter.unusedVariables false
set_option linter.unusedSimpArgs false
namespace Go.Proofs.YtphcodcdfeohhaaGreatDoor
set_option maxRecDepth 100000
set_option maxHeartbeats 4000000
open Go.RowKit
def zg0(x:Int×Int)(n:Int):Bool:=decide (n*x.2*x.2<=x.1*x.1)
theorem jbt2 (x:Int×Int) (n:Int) (w:World) (hx:0<=x.1/\x.1<=100000) (hy:0<=x.2/\x.2<=3000) (hn:1<=n/\n<=1000) :
  Calls Tryz.prog 138 #[.agg #[.int .i64 x.1,.int .i64 x.2],.int .i64 n] w fun e w'=>e=.returned (.bool (zg0 x n))/\Below w.heap.size w w':=by
 obtain⟨a,b⟩:=x
 unfold zg0
 dsimp only at *
 have h1:=jc2 (a:=a) (b:=a) (A:=100000) (B:=100000) (by omega) (by omega)
 have h2:=jc2 (a:=n) (b:=b) (A:=1000) (B:=3000) (by omega) (by omega)
 have h3:=jc2 (a:=n*b) (b:=b) (A:=3000000) (B:=3000) (by omega) (by omega)
 generalize haa:a*a=aa at *
 generalize hnb:n*b=nb at *
 generalize hnbb:nb*b=nbb at *
 go_enter Tryz.func138,Tryz.ntmps138
 go_wp2
 go_ret
 exact⟨rfl,(Below.refl _ _).alloc (Nat.le_refl _) _⟩
def zt2(x y:Int×Int)(n:Int):Bool:=
 if zg0 x n&&zg0 y n then decide (x.1*y.2-y.1*x.2<0)
 else if zg0 x n then decide ((x.1*y.2+y.1*x.2)*(x.1*y.2+y.1*x.2)-4*n*x.2*x.2*y.2*y.2<0)
 else if zg0 y n then decide (0<(x.1*y.2+y.1*x.2)*(x.1*y.2+y.1*x.2)-4*n*x.2*x.2*y.2*y.2)
 else decide (0<x.1*y.2-y.1*x.2)
theorem jch0 (x y:Int×Int) (n:Int) (w:World) (hx:0<=x.1/\x.1<=100000) (hx2:0<=x.2/\x.2<=3000) (hy:0<=y.1/\y.1<=100000) (hy2:0<=y.2/\y.2<=3000) (hn:1<=n/\n<=1000) :
  Calls Tryz.prog 100 #[.agg #[.int .i64 x.1,.int .i64 x.2],.agg #[.int .i64 y.1,.int .i64 y.2],.int .i64 n] w fun e w'=>e=.returned (.bool (zt2 x y n))/\Below w.heap.size w w':=by
 have HOX:=ja0 (fun W=>jbt2 x n W hx hx2 hn)
 have HOY:=ja0 (fun W=>jbt2 y n W hy hy2 hn)
 have HX0:=ja0 ((Blk.new w 100 #[.int .i64 x.1,.int .i64 x.2]).alloc (.cells #[.int .i64 y.1,.int .i64 y.2] 100))
 have hY:=Blk.new (w.alloc (.cells #[.int .i64 x.1,.int .i64 x.2] 100)) 100 #[.int .i64 y.1,.int .i64 y.2]
 rw[World.size_alloc] at hY
 have HY0:=ja0 hY
 have HB0:=ja0 (((Below.refl w.heap.size w).alloc (Nat.le_refl _) (.cells #[.int .i64 x.1,.int .i64 x.2] 100)).alloc (by simp) (.cells #[.int .i64 y.1,.int .i64 y.2] 100))
 clear hY
 unfold zt2
 generalize zg0 x n=ox at *
 generalize zg0 y n=oy at *
 obtain⟨a,b⟩:=x
 obtain⟨c,d⟩:=y
 dsimp only at *
 have h1:=jc2 (a:=a) (b:=d) (A:=100000) (B:=3000) (by omega) (by omega)
 have h2:=jc2 (a:=c) (b:=b) (A:=100000) (B:=3000) (by omega) (by omega)
 generalize had:a*d=p at *
 generalize hcb:c*b=q at *
 have h3:=jc2 (a:=p+q) (b:=p+q) (A:=600000000) (B:=600000000) (by omega) (by omega)
 have h4:=jc2 (a:=4*n) (b:=b) (A:=4000) (B:=3000) (by omega) (by omega)
 generalize hss:(p+q)*(p+q)=ss at *
 generalize hk1:4*n*b=k1 at *
 have h5:=jc2 (a:=k1) (b:=b) (A:=12000000) (B:=3000) (by omega) (by omega)
 generalize hk2:k1*b=k2 at *
 have h6:=jc2 (a:=k2) (b:=d) (A:=36000000000) (B:=3000) (by omega) (by omega)
 generalize hk3:k2*d=k3 at *
 have h7:=jc2 (a:=k3) (b:=d) (A:=108000000000000) (B:=3000) (by omega) (by omega)
 generalize hk4:k3*d=k4 at *
 obtain⟨x0,x1,xf0,xf1⟩:=HX0.out.two
 obtain⟨y0,y1,yf0,yf1⟩:=HY0.out.two
 cases ox<;>cases oy
 all_goals
  go_enter Tryz.func100,Tryz.ntmps100
  go_wp2_with (first
   | (go_at_call_of 138 a;refine(HOX.out _).mono ?_;rintro e w1 ⟨rfl,hb1⟩
      have HX0:=ja0 (HX0.out.below hb1 (by have:=HX0.out.lt;omega));have HY0:=ja0 (HY0.out.below hb1 (by have:=HY0.out.lt;omega));have HB0:=ja0 (HB0.out.trans (hb1.mono HB0.out.size))
      obtain⟨x0,x1,xf0,xf1⟩:=HX0.out.two
      obtain⟨y0,y1,yf0,yf1⟩:=HY0.out.two
      clear hb1)
   | (go_at_call_of 138 c;refine(HOY.out _).mono ?_;rintro e w1 ⟨rfl,hb1⟩
      have HX0:=ja0 (HX0.out.below hb1 (by have:=HX0.out.lt;omega));have HY0:=ja0 (HY0.out.below hb1 (by have:=HY0.out.lt;omega));have HB0:=ja0 (HB0.out.trans (hb1.mono HB0.out.size))
      obtain⟨x0,x1,xf0,xf1⟩:=HX0.out.two
      obtain⟨y0,y1,yf0,yf1⟩:=HY0.out.two
      clear hb1))
  all_goals go_ret
  all_goals exact⟨by simp,HB0.out⟩
attribute [local go_sem] Oper.semAt_some
def jbt0:Nat->Int->Int->Int
 | 0,_,k=>k
 | f+1,b,k=>if(2*k+1)*(2*k+1)<=b then jbt0 f b (k+1)else k
def numR(b:Int):Int:=jbt0 200000 b 0
theorem jbh4 {b:Int}:∀(k f:Nat) (s:Int),(∀j:Nat,j<k->(2*(s+j)+1)*(2*(s+j)+1)<=b)->jbt0 (k+f) b s=jbt0 f b (s+k)
 | 0,f,s,_=>by simp
 | k+1,f,s,h=>by
  have h0:=h 0 (by omega)
  rw[show k+1+f=(k+f)+1 by omega]
  conv=>lhs;unfold jbt0
  rw[if_pos (by simpa using h0),jbh4 k f (s+1) (fun j hj=>by
   have:=h (j+1) (by omega)
   rw[show s+1+(j:Int)=s+((j+1:Nat):Int) by omega];exact this)]
  congr 1;omega
theorem jfj1{b:Int}{k:Nat}(hk:k<200000)(h:∀j:Nat,j<k->(2*(j:Int)+1)*(2*(j:Int)+1)<=b)(h2:¬(2*(k:Int)+1)*(2*(k:Int)+1)<=b):numR b=k:=by
 unfold numR
 obtain⟨f,hf⟩:∃f,200000=k+(f+1):=⟨200000-k-1,by omega⟩
 rw[hf,jbh4 k (f+1) 0 (fun j hj=>by simpa using h j hj)]
 unfold jbt0
 rw[if_neg (by simpa using h2)]
 omega
theorem jdn2{k:Int}(h:(2*k+1)*(2*k+1)<=36000000000)(hk:0<=k):k<=94868:=by
 rcases Int.lt_or_le 94868 k with h1|h1
 ·have h2:(189739:Int)*189739<=(2*k+1)*(2*k+1):=Int.mul_le_mul (by omega) (by omega) (by omega) (by omega)
  exact absurd (Int.le_trans h2 h) (by decide)
 ·exact h1
def recF (n:Int):Nat->Int->Int×Int->List (Int×Int)
 | 0,_,_=>[]
 | k+1,den,best=>if(decide (1<den)&&!zt2 (numR (4*n*den*den),den) best n)=true then recF n k (den+1) best else(numR (4*n*den*den),den)::recF n k (den+1) (numR (4*n*den*den),den)
def recS(n most:Int):List (Int×Int):=recF n most.toNat 1 (0,0)
def encN(x:Int×Int):Array Value:=#[.agg #[.int .i64 x.1,.int .i64 x.2]]
def jfn8(W0:World)(b1 b2:Nat)(n most:Int)(J:List (Int×Int)->World->Prop)(u v:Value)(A:World):Prop:=
 ∃(pre:List (Int×Int)) (k d:Nat) (best:Int×Int),u=.int .i64 k/\v=.int .i64 d/\k<=94869/\1<=d/\d<=most+1/\(∀j:Nat,j<k->(2*(j:Int)+1)*(2*(j:Int)+1)<=4*n*d*d) /\
  Blk A W0.heap.size 100 #[.int .i64 best.1,.int .i64 best.2]/\(0<=best.1/\best.1<=100000)/\(0<=best.2/\best.2<=3000)/\pre++recF n (most+1-d).toNat d best=recS n most /\
  J pre A/\A.cell? ⟨b1,0,none⟩=some (.int .i64 most)/\A.cell? ⟨b2,0,none⟩=some (.int .i64 n)
theorem jbj7 (b1 b2:Nat) (n most:Int) (w0:World) (h1:w0.cell? ⟨b1,0,none⟩=some (.int .i64 most)) (h2:w0.cell? ⟨b2,0,none⟩=some (.int .i64 n)) (hn:1<=n/\n<=1000) (hm:1<=most/\most<=3000) :
  jaf8 Tryz.prog 99 #[.pointer (some ⟨b1,0,none⟩),.pointer (some ⟨b2,0,none⟩)] encN (fun ys=>ys=recS n most) (fun pre=>∃rest,pre++rest=recS n most) (fun c=>c=b1\/c=b2) 1 w0:=by
 intro l J Jx W hW hJ hJx hY h0
 have hl1:b1<w0.heap.size:=World.block_lt_of_cell? _ _ h1
 have hl2:b2<w0.heap.size:=World.block_lt_of_cell? _ _ h2
 have hc1:W.cell? ⟨b1,0,none⟩=some (.int .i64 most):=(hW.cell (p:=⟨b1,0,none⟩) hl1).trans h1
 have hc2:W.cell? ⟨b2,0,none⟩=some (.int .i64 n):=(hW.cell (p:=⟨b2,0,none⟩) hl2).trans h2
 have hWz:=hW.size
 have HY:=ja0 hY;clear hY
 have HJ:=ja0 hJ;clear hJ
 have HJx:=ja0 hJx;clear hJx
 have H0:=ja0 h0;clear h0
 have HC1:=ja0 hc1
 have HC2:=ja0 hc2
 clear h1 h2 hc1 hc2 hW
 have HCL:=ja0 (fun n' x y W a b c d=>(callsIn_wide (n:=n')).2 (jch0 x y n W a b c d hn))
 refine callsIn_of_wp Tryz.func99 rfl trivial ?_
 simp only[Tryz.ntmps99,List.size_toArray,List.length_cons,List.length_nil,Nat.reduceAdd,Nat.reduceSub,Array.replicate_succ,Array.replicate_zero,List.push_toArray,List.append_toArray,List.nil_append,List.cons_append]
 gi_wp2
 gi_loopw [5,6] (fun u v A=>jfn8 W b1 b2 n most J u v A) (fun _ v _=>(most+1-intOf v).toNat)
 case atStart=>
  refine⟨[],0,1,(0,0),rfl,rfl,by omega,by omega,by omega,fun j hj=>by omega,Blk.new W _ _,by decide,by decide,?_,HJ.out _ _ _ none H0.out (World.grownBy_alloc _ _ _) (by simp),?_,?_⟩
  ·unfold recS;rw[show(most+1-((1:Nat):Int)).toNat=most.toNat by omega];rfl
  ·exact(World.cell?_alloc_lt _ _ _ (by show b1<_;omega)).trans HC1.out
  ·exact(World.cell?_alloc_lt _ _ _ (by show b2<_;omega)).trans HC2.out
 case round=>
  obtain⟨pre,k,d,best,rfl,rfl,hk,hd1,hd2,hsq,hbk,hbb1,hbb2,hp,hJp,hcm,hcn⟩:=hrel
  have HSQ:=ja0 hsq;clear hsq
  have HBK:=ja0 hbk;clear hbk
  have HP:=ja0 hp;clear hp
  have HJp:=ja0 hJp;clear hJp
  by_cases hdm:(d:Int)<=most
  ·have e1:=jc2 (a:=4*n) (b:=(d:Int)) (A:=4000) (B:=3000) (by omega) (by omega)
   generalize hq1:4*n*(d:Int)=q1 at *
   have e2:=jc2 (a:=q1) (b:=(d:Int)) (A:=12000000) (B:=3000) (by omega) (by omega)
   generalize hq2:q1*(d:Int)=q2 at *
   have hq2b:q2<=36000000000:=by omega
   obtain⟨m,hmm⟩:∃m,(most+1-(d:Int)).toNat=m+1:=⟨(most-d).toNat,by omega⟩
   have hm2:(most+1-((d+1:Nat):Int)).toNat=m:=by omega
   have hp1:=HP.out
   rw[hmm,recF,hq1,hq2] at hp1
   have HP1:=ja0 hp1
   have hmono:q2<=4*n*((d+1:Nat):Int)*((d+1:Nat):Int):=by
    rw[<-hq2,<-hq1]
    exact Int.mul_le_mul (Int.mul_le_mul_of_nonneg_left (by omega) (by omega)) (by omega) (by omega) (Int.mul_nonneg (by omega) (by omega))
   clear hp1 HP
   gi_wp2
   gi_loopw [5] (fun u U=>∃k':Nat,u=.int .i64 k'/\k'<=94869/\(∀j:Nat,j<k'->(2*(j:Int)+1)*(2*(j:Int)+1)<=q2)/\U=wr) (fun u _=>(94869-intOf u).toNat)
   case atStart=>
    exact⟨k,rfl,hk,HSQ.out,rfl⟩
   case round=>
    obtain⟨k',rfl,hk',hsq',hU⟩:=hrel
    subst hU
    have HSQ':=ja0 hsq';clear hsq'
    have e3:=jc2 (a:=2*(k':Int)+1) (b:=2*(k':Int)+1) (A:=200000) (B:=200000) (by omega) (by omega)
    by_cases hle:(2*(k':Int)+1)*(2*(k':Int)+1)<=q2
    ·have hk2:=jdn2 (Int.le_trans hle hq2b) (by omega)
     have HLE:=ja0 hle
     generalize hsqg:(2*(k':Int)+1)*(2*(k':Int)+1)=sq at *
     gi_wp2
     go_roundw
     case rel=>
      refine⟨k'+1,by go_num,by omega,fun j hj=>?_,trivial⟩
      rcases Nat.lt_or_ge j k' with h|h
      ·exact HSQ'.out j h
      ·have:j=k':=by omega
       subst this
       rw[hsqg];exact HLE.out
     case measure=>simp[intOf];omega
    ·have HNR:=ja0 (jfj1 (by omega) HSQ'.out hle)
     generalize hsqg:(2*(k':Int)+1)*(2*(k':Int)+1)=sq at *
     obtain⟨V,hV⟩:∃V,V=wr.alloc (.cells #[.int .i64 k',.int .i64 d] 100):=⟨_,rfl⟩
     obtain⟨X,hX⟩:∃X,X=wr.heap.size:=⟨_,rfl⟩
     have hzV:V.heap.size=X+1:=by rw[hV,hX];simp
     have hWX:W.heap.size<X:=by have:=HBK.out.lt;omega
     have HXV:Hid (Blk V X 100 #[.int .i64 k',.int .i64 d]):=ja0 (by rw[hV,hX];exact Blk.new _ _ _)
     have HBV:Hid (Blk V W.heap.size 100 #[.int .i64 best.1,.int .i64 best.2]):=ja0 (by rw[hV];exact HBK.out.alloc _)
     have HJV:Hid (J pre V):=ja0 (by rw[hV];exact HJ.out _ _ _ none HJp.out (World.grownBy_alloc _ _ _) (by simp))
     have HMV:Hid (V.cell? ⟨b1,0,none⟩=some (.int .i64 most)):=ja0 (by rw[hV];exact(World.cell?_alloc_lt _ _ _ (by show b1<_;omega)).trans hcm)
     have HNV:Hid (V.cell? ⟨b2,0,none⟩=some (.int .i64 n)):=ja0 (by rw[hV];exact(World.cell?_alloc_lt _ _ _ (by show b2<_;omega)).trans hcn)
     gi_upto_region 8 with fail
     rw[<-hV,<-hX]
     clear hcm hcn HJp HBK hV hX
     obtain⟨x0,x1,xf0,xf1⟩:=HXV.out.two
     obtain⟨v0,v1,vf0,vf1⟩:=HBV.out.two
     have hvn:=HNV.out
     have hp1:=HP1.out
     rw[HNR.out] at hp1
     have HP2:=ja0 hp1
     clear hp1 HP1 HNR
     have HCL1:=ja0 (fun n'=>HCL.out n' (k',d) best V (by dsimp only;omega) (by dsimp only;omega) hbb1 hbb2)
     by_cases hd:1<(d:Int)
     case' pos=>
      gi_wp2_with fail
      refine⟨trivial,rfl,CallsIn.mono (HCL1.out _) ?_⟩
      rintro e V1 ⟨rfl,hb1⟩
      cases hcl:zt2 (k',d) best n
      ·have hp2:=HP2.out
       rw[hcl,if_pos (by simp[hd])] at hp2
       have HP3:=ja0 hp2
       have hz1:=hb1.size
       have HB1:=ja0 (HBV.out.below hb1 (by omega))
       have HJ1:=ja0 (HJ.out _ _ _ none HJV.out (jg1 hb1 none) (by simp))
       have HM1:=ja0 ((hb1.cell (p:=⟨b1,0,none⟩) (by show b1<_;omega)).trans HMV.out)
       have HN1:=ja0 ((hb1.cell (p:=⟨b2,0,none⟩) (by show b2<_;omega)).trans HNV.out)
       clear hp2 HP2 hcl hb1
       gi_wp2
       go_roundw
       case rel=>
        refine⟨pre,k',d+1,best,rfl,by go_num,hk',by omega,by omega,fun j hj=>Int.le_trans (HSQ'.out j hj) hmono,HB1.out,hbb1,hbb2,?_,HJ1.out,HM1.out,HN1.out⟩
        rw[hm2];exact HP3.out
       case measure=>simp[intOf];omega
      have hp2:=HP2.out
      rw[hcl,if_neg (by simp)] at hp2
      have HP3:=ja0 hp2
      have hz1:=hb1.size
      have HB1:=ja0 (HBV.out.below hb1 (by omega))
      have HX1:=ja0 (HXV.out.below hb1 (by omega))
      have HJ1:=ja0 (HJ.out _ _ _ none HJV.out (jg1 hb1 none) (by simp))
      have HM1:=ja0 ((hb1.cell (p:=⟨b1,0,none⟩) (by show b1<_;omega)).trans HMV.out)
      have HN1:=ja0 ((hb1.cell (p:=⟨b2,0,none⟩) (by show b2<_;omega)).trans HNV.out)
      clear hp2 HP2 hcl hb1
     case' neg=>
      gi_wp2_with fail
      refine⟨trivial,?_⟩
      have hp2:=HP2.out
      rw[if_neg (by simp;intro h;omega)] at hp2
      have HP3:=ja0 hp2
      have hz1:V.heap.size<=V.heap.size:=Nat.le_refl _
      have HB1:=ja0 HBV.out
      have HX1:=ja0 HXV.out
      have HJ1:=ja0 HJV.out
      have HM1:=ja0 HMV.out
      have HN1:=ja0 HNV.out
      clear hp2 HP2
      generalize V=V1 at *
     all_goals
      obtain⟨y0,y1,yf0,yf1⟩:=HX1.out.two
      obtain⟨t0,t1,tf0,tf1⟩:=HB1.out.two
      obtain⟨V2,hV2⟩:∃V2,V2=(V1.setCell ⟨W.heap.size,0,none⟩ (.int .i64 k')).setCell ⟨W.heap.size,1,none⟩ (.int .i64 d):=⟨_,rfl⟩
      have hz2:V2.heap.size=V1.heap.size:=by rw[hV2];simp
      have hg2:V1.grownBy V2 (some W.heap.size):=by rw[hV2];exact jh4 (jh4 (jca3 V1 (some W.heap.size)) 0 (.int .i64 k')) 1 (.int .i64 d)
      have HJ2:Hid (J pre V2):=ja0 (HJ.out _ _ _ (some W.heap.size) HJ1.out hg2 (fun b e=>by cases e;omega))
      have HB2:Hid (Blk V2 W.heap.size 100 #[.int .i64 k',.int .i64 d]):=ja0 (by rw[hV2];exact(HB1.out.set_ 0 _).set_ 1 _)
      have HX2:=ja0 (HX1.out.grown hg2 (fun e=>by cases e;omega))
      have HM2:=ja0 (hg2.cell HM1.out (fun e=>by have e':b1=W.heap.size:=Option.some.inj e;omega))
      have HN2:=ja0 (hg2.cell HN1.out (fun e=>by have e':b2=W.heap.size:=Option.some.inj e;omega))
      clear hg2
      obtain⟨fn,tm,as_,bd,hy,hR⟩:=HY.out pre ((k':Int),(d:Int)) V2 ⟨recF n m ((d:Int)+1) (k',d),by rw[List.append_assoc];exact HP3.out⟩ HJ2.out (by omega)
      have HR:=ja0 hR;clear hR
      simp only[encN] at hy
      gi_upto_region 10 with fail
      rw[<-hV2]
      clear hV2
      obtain⟨z0,z1,zf0,zf1⟩:=HX2.out.two
      gi_wp2_with (first
       | (refine⟨rfl,HR.out.mono ?_⟩
          rintro e V3 hV3
          obtain⟨bb,rfl,hT,hF⟩:=jbm1 hV3
          have HT:=ja0 hT;have HF:=ja0 hF
          clear hT hF hV3))
      ·rename_i hbb
       have hb2:bb=false:=by simpa using hbb
       subst hb2
       have h:=HF.out rfl
       refine bodyPost_ret (results_none rfl _ _ _) rfl ?_
       exact⟨⟨_,rfl⟩,.inr ⟨_,⟨recF n m ((d:Int)+1) (k',d),by rw[List.append_assoc];exact HP3.out⟩,h.1⟩⟩
      ·rename_i hbb
       have hb2:bb=true:=by simpa using hbb
       subst hb2
       have h:=HT.out rfl
       refine⟨⟨pre++[((k':Int),(d:Int))],k',d+1,(k',d),rfl,by go_num,hk',by omega,by omega,fun j hj=>Int.le_trans (HSQ'.out j hj) hmono,HB2.out.of_block (h.2.same _ (.inr (by omega))),by dsimp only;omega,by dsimp only;omega,?_,h.1,
        (World.cell?_of_block (h.2.same b1 (.inl (.inl rfl)))).trans HM2.out,(World.cell?_of_block (h.2.same b2 (.inl (.inr rfl)))).trans HN2.out⟩,by simp[intOf];omega⟩
       rw[hm2,List.append_assoc];exact HP3.out
  ·gi_wp2
   have hd:(d:Int)=most+1:=by omega
   have hp:=HP.out
   rw[show(most+1-(d:Int)).toNat=0 by omega] at hp
   simp only[recF,List.append_nil] at hp
   go_end0
   exact⟨⟨_,rfl⟩,.inl (hp▸HJp.out)⟩
attribute [local go_sem] Oper.semAt_some
theorem zy0{w:World}{b:Nat}{v:Value}(h:w.cell? ⟨b,0,none⟩=some v):(loadVar 3 ⟨b,0,none⟩).run Tryz.prog w=.ok v w:=by
 have hagg:(isAgg 3).run Tryz.prog w=.ok false w:=by
  unfold isAgg
  rw[Sem.run_bind,run_underlying Tryz.underlying3 w]
  simp[Result.andThen]
 simp[loadVar,Sem.run_bind,hagg,go_sem,h]
theorem jap6 {fn:Func} {p q u:Tmp} {x y:TypeId} (h:fn.results=#[.cell p x,.cell q y,.tmp u]) (tmps:Array Value) (P:Program) (w:World) :
  (results fn tmps).run P w=((asAddr (tmps.getD p undef)).run P w).andThen fun a w1=>((loadVar x a).run P w1).andThen fun v w2=>((asAddr (tmps.getD q undef)).run P w2).andThen fun b w3=>
   ((loadVar y b).run P w3).andThen fun v2 w4=>.ok (.tuple #[v,v2,tmps.getD u undef]) w4:=by
 simp only[results,h]
 simp[Sem.run_bind,Result.andThen]
theorem jap7 {fn:Func} {p q u:Tmp} (h:fn.results=#[.cell p 3,.cell q 3,.tmp u]) {tmps:Array Value} {w:World} {b1 b2:Nat} {v1 v2 v3:Value}
  (e1:tmps.getD p undef=.pointer (some ⟨b1,0,none⟩)) (e2:tmps.getD q undef=.pointer (some ⟨b2,0,none⟩)) (e3:tmps.getD u undef=v3) (h1:w.cell? ⟨b1,0,none⟩=some v1) (h2:w.cell? ⟨b2,0,none⟩=some v2) :
  (results fn tmps).run Tryz.prog w=.ok (.tuple #[v1,v2,v3]) w:=by
 rw[jap6 h,e1,e2,e3]
 simp[asAddr,Result.andThen,zy0 h1,zy0 h2]
theorem jcj7(n most:Int)(w:World):Calls Tryz.prog 58 #[.int .i64 n,.int .i64 most] w fun e w'=>e=.returned (.bool (inB n 1 1000&&inB most 1 3000))/\w'=w:=by
 have HW:=ja0 (fun W=>jd9 n 1 1000 W)
 have HM:=ja0 (fun W=>jd9 most 1 3000 W)
 generalize inB n 1 1000=x at *
 generalize inB most 1 3000=y at *
 cases x
 all_goals
  go_enter Tryz.func58,Tryz.ntmps58
  go_wp2_with (first
   | (go_at_call_of 54 n;refine(HW.out _).mono ?_;rintro e w2 ⟨rfl,hw⟩;subst w2)
   | (go_at_call_of 54 most;refine(HM.out _).mono ?_;rintro e w2 ⟨rfl,hw⟩;subst w2))
  go_ret
  exact⟨by simp,rfl⟩
theorem jcp3(n most:Int)(w:World):Calls Tryz.prog 59 #[.int .i64 n,.int .i64 most] w fun e w'=>
  e=.returned (.func (.func 99) #[] #[.pointer (some ⟨w.heap.size+1,0,none⟩),.pointer (some ⟨w.heap.size,0,none⟩)])/\w'=(w.alloc (.cells #[.int .i64 n] 3)).alloc (.cells #[.int .i64 most] 3):=by
 go_enter Tryz.func59,Tryz.ntmps59
 go_wp2
 go_ret
 exact⟨by simp,rfl⟩
theorem jbf1(args:Array Value)(w:World):(callFunc 99 args).run Tryz.prog w=.ok (.enter 99 args) w:=enters_of Tryz.func99 (by kernel_rfl) rfl args w
attribute [local go_sem] Oper.semAt_some
def jan1(l:List (Int×Int)):Int×Int:=(l.getLast?).getD (0,0)
theorem jbg1(l:List (Int×Int))(x:Int×Int):jan1 (l++[x])=x:=by simp[jan1]
def jab2(n most:Int):Int×Int×Int:=if(inB n 1 1000&&inB most 1 3000)=true then((jan1 (recS n most)).1,(jan1 (recS n most)).2,0)else(0,0,3)
def jfg6(w:World)(pre:List (Int×Int))(W:World):Prop:=
 Box W w.heap.size 3 (.int .i64 (jan1 pre).1)/\Box W (w.heap.size+1) 3 (.int .i64 (jan1 pre).2)/\Below w.heap.size w W
theorem jcm6(n most:Int)(w:World):Calls Tryz.prog 22 #[.int .i64 n,.int .i64 most] w fun e w'=>
  e=.returned (.tuple #[.int .i64 (jab2 n most).1,.int .i64 (jab2 n most).2.1,.int .i64 (jab2 n most).2.2])/\Below w.heap.size w w':=by
 have HA:=ja0 (fun m W=>(callsIn_wide (n:=m)).2 (jcj7 n most W))
 have HRC:=ja0 (fun m W=>(callsIn_wide (n:=m)).2 (jcp3 n most W))
 have HX0:=ja0 ((Box.new w 3 (.int .i64 0)).alloc (.cells #[.int .i64 0] 3))
 have hY:=Box.new (w.alloc (.cells #[.int .i64 0] 3)) 3 (.int .i64 0)
 rw[World.size_alloc] at hY
 have HY0:=ja0 hY
 have HB0:=ja0 (((Below.refl w.heap.size w).alloc (Nat.le_refl _) (.cells #[.int .i64 0] 3)).alloc (by simp) (.cells #[.int .i64 0] 3))
 obtain⟨w0,hw0⟩:∃w0,w0=(w.alloc (.cells #[.int .i64 0] 3)).alloc (.cells #[.int .i64 0] 3):=⟨_,rfl⟩
 have hz0:w0.heap.size=w.heap.size+2:=by rw[hw0];simp
 rw[<-hw0] at HX0 HY0 HB0
 clear hY
 have HX0:=ja0 HX0.out
 have HY0:=ja0 HY0.out
 unfold jab2
 refine(callsIn_wide (n:=0)).1 ?_
 refine callsIn_of_wp_marks Tryz.func22 rfl trivial ?_ rfl
 simp only[Tryz.ntmps22,List.size_toArray,List.length_cons,List.length_nil,Nat.reduceAdd,Nat.reduceSub,Array.replicate_succ,Array.replicate_zero,List.push_toArray,List.append_toArray,List.nil_append,List.cons_append]
 cases hin:(inB n 1 1000&&inB most 1 3000)
 ·rw[hin] at HA
  gi_wp2_with fail
  rw[<-hw0]
  clear hw0
  refine⟨trivial,rfl,CallsIn.mono (HA.out _ _) ?_⟩
  rintro e w1 ⟨rfl,hw1⟩
  subst w1
  have h1:=HX0.out.cell
  have h2:=HY0.out.cell
  have f1:=HX0.out.free
  have f2:=HY0.out.free
  gi_wp2
  refine⟨_,jap7 rfl rfl rfl rfl (b1:=w.heap.size) (b2:=w.heap.size+1) (v1:=.int .i64 0) (v2:=.int .i64 0) ?_ ?_,rfl,Below.setCell (Below.setCell HB0.out (p:=⟨w.heap.size,0,none⟩) (by simp) _) (p:=⟨w.heap.size+1,0,none⟩) (by simp) _⟩
  ·exact((HX0.out.set_ _).far (by simp) _).cell
  ·exact((HY0.out.far (by simp) _).set_ _).cell
 ·rw[hin] at HA
  have hn:1<=n/\n<=1000:=by
   have:=(Bool.and_eq_true _ _▸hin:_/\_).1;simpa [inB] using this
  have hm:1<=most/\most<=3000:=by
   have:=(Bool.and_eq_true _ _▸hin:_/\_).2;simpa [inB] using this
  have hg:=jbj7 (w.heap.size+3) (w.heap.size+2) n most ((w0.alloc (.cells #[.int .i64 n] 3)).alloc (.cells #[.int .i64 most] 3)) (by
   have:=(Box.new (w0.alloc (.cells #[.int .i64 n] 3)) 3 (.int .i64 most)).cell
   rw[World.size_alloc,hz0] at this
   exact this) (by
   have:=((Box.new w0 3 (.int .i64 n)).alloc (.cells #[.int .i64 most] 3)).cell
   rw[hz0] at this
   exact this) hn hm
  have HG:=ja0 hg
  clear hg
  gi_wp2_with fail
  rw[<-hw0]
  clear hw0
  refine⟨trivial,rfl,CallsIn.mono (HA.out _ _) ?_⟩
  rintro e w1 ⟨rfl,hw1⟩
  subst w1
  gi_wp2_with fail
  refine⟨trivial,rfl,CallsIn.mono (HRC.out _ _) ?_⟩
  rintro e w1 ⟨rfl,hw1⟩
  subst w1
  rw[hz0]
  have hbR:Below w.heap.size w ((w0.alloc (.cells #[.int .i64 n] 3)).alloc (.cells #[.int .i64 most] 3)):=(HB0.out.alloc (by omega) _).alloc (by simp;omega) _
  gi_wp2_with fail
  refine zr9 (gf:=99) (lb:=#[.pointer (some ⟨w.heap.size+3,0,none⟩),.pointer (some ⟨w.heap.size+2,0,none⟩)]) rfl jbf1 HG.out (Below.refl _ _) ?_ (fun _=>rfl) (fun pre W=>jfg6 w pre W) (fun _ _ _=>False) ?_ ?_ ?_ ?_ ?_ ?_
  ·rintro b (rfl|rfl)<;>simp<;>omega
  ·rintro s A B row ⟨h1,h2,h3⟩ hg hr
   simp only[World.size_alloc,hz0] at hr
   exact⟨h1.grown hg (fun e=>by have:=hr _ e;omega),h2.grown hg (fun e=>by have:=hr _ e;omega),h3.grown hg h3.size (fun j e=>by have:=hr j e;omega)⟩
  ·rintro _ _ _ _ _ h;exact h.elim
  ·exact⟨(HX0.out.alloc _).alloc _,(HY0.out.alloc _).alloc _,hbR⟩
  ·rintro pre x W hsp ⟨h1,h2,h3⟩ hsz
   simp only[World.size_alloc,hz0] at hsz ⊢
   obtain⟨xa,xb⟩:=x
   have HX1:=ja0 h1
   have HY1:=ja0 h2
   have HB1:=ja0 h3
   clear h1 h2 h3 hsp
   simp only[encN]
   gi_wp2
   refine⟨(KeepB.refl _ _).alloc (by rintro b ((rfl|rfl)|h)<;>omega) _,?_⟩
   intro W2 hg2 hzz
   have HX2:=ja0 ((HX1.out.alloc _).grown hg2 (by simp;omega))
   have HY2:=ja0 ((HY1.out.alloc _).grown hg2 (by simp;omega))
   have HN2:=ja0 ((Blk.new W 100 #[.int .i64 xa,.int .i64 xb]).grown hg2 (by simp;omega))
   have HB2:=ja0 ((HB1.out.alloc HB1.out.size _).grown hg2 (by simp;omega) (fun j e=>by cases e;omega))
   obtain⟨Z,hZ⟩:∃Z,Z=W.heap.size:=⟨_,rfl⟩
   simp only[World.size_alloc] at hzz
   rw[<-hZ] at HN2 hzz ⊢
   clear hg2 HX1 HY1 HB1
   have hZ1:w.heap.size+1<Z:=by omega
   have hZ2:w.heap.size+1<W2.heap.size:=by omega
   clear hZ hzz hsz
   obtain⟨n0,n1,nf0,nf1⟩:=HN2.out.two
   have x0:=HX2.out.cell
   have y0:=HY2.out.cell
   have xf:=HX2.out.free
   have yf:=HY2.out.free
   have e1:(W2.setCell ⟨w.heap.size,0,none⟩ (.int .i64 xa)).cell? ⟨Z,1,none⟩=some (.int .i64 xb):=(World.cell?_setCell_other _ _ _ _ (by simp)).trans n1
   have F1:=ja0 (show Box ((W2.setCell ⟨w.heap.size,0,none⟩ (.int .i64 xa)).setCell ⟨w.heap.size+1,0,none⟩ (.int .i64 xb)) w.heap.size 3 (.int .i64 (jan1 (pre++[(xa,xb)])).1) by rw[jbg1];exact(HX2.out.set_ _).far (by simp) _)
   have F2:=ja0 (show Box ((W2.setCell ⟨w.heap.size,0,none⟩ (.int .i64 xa)).setCell ⟨w.heap.size+1,0,none⟩ (.int .i64 xb)) (w.heap.size+1) 3 (.int .i64 (jan1 (pre++[(xa,xb)])).2) by rw[jbg1];exact(HY2.out.far (by simp) _).set_ _)
   have F3:=ja0 (Below.setCell (Below.setCell HB2.out (p:=⟨w.heap.size,0,none⟩) (by simp) (.int .i64 xa)) (p:=⟨w.heap.size+1,0,none⟩) (by simp) (.int .i64 xb))
   have F4:Hid (KeepB (fun b=>(b=w.heap.size+3\/b=w.heap.size+2)\/w.heap.size+2+1+1<=b/\b<w.heap.size+2+1+1+2+1) W2 ((W2.setCell ⟨w.heap.size,0,none⟩ (.int .i64 xa)).setCell ⟨w.heap.size+1,0,none⟩ (.int .i64 xb))):=ja0 (((KeepB.refl _ _).setCell (by rintro((h|h)|h)<;>simp at h<;>omega) _).setCell (by rintro((h|h)|h)<;>simp at h<;>omega) _)
   gi_wp2
   first|gi_region_with fail|done
   all_goals gi_wp2
   all_goals exact⟨F4.out.drewN 1,F1.out,F2.out,Below.drew F3.out⟩
  ·rintro xs V rfl ⟨h1,h2,h3⟩ hD
   simp only[World.size_alloc,hz0] at hD ⊢
   obtain⟨lp,hlp⟩:∃lp,jan1 (recS n most)=lp:=⟨_,rfl⟩
   rw[hlp] at h1 h2
   have HLP:=ja0 hlp
   clear hlp
   have HX1:=ja0 h1
   have HY1:=ja0 h2
   have HB1:=ja0 h3
   have HD:=ja0 hD
   clear h1 h2 h3 hD
   have x0:=HX1.out.cell
   have y0:=HY1.out.cell
   have xf:=HX1.out.free
   have yf:=HY1.out.free
   gi_wp2
   have F1:=ja0 (show Box ((V.setCell ⟨w.heap.size,0,none⟩ (.int .i64 lp.1)).setCell ⟨w.heap.size+1,0,none⟩ (.int .i64 lp.2)) w.heap.size 3 (.int .i64 lp.1)from(HX1.out.set_ _).far (by simp) _)
   have F2:=ja0 (show Box ((V.setCell ⟨w.heap.size,0,none⟩ (.int .i64 lp.1)).setCell ⟨w.heap.size+1,0,none⟩ (.int .i64 lp.2)) (w.heap.size+1) 3 (.int .i64 lp.2)from(HY1.out.far (by simp) _).set_ _)
   have F3:=ja0 (Below.setCell (Below.setCell HB1.out (p:=⟨w.heap.size,0,none⟩) (by simp) (.int .i64 lp.1)) (p:=⟨w.heap.size+1,0,none⟩) (by simp) (.int .i64 lp.2))
   have F4:=ja0 (((Below.heap_setCell (V.setCell ⟨w.heap.size,0,none⟩ (.int .i64 lp.1)) ⟨w.heap.size+1,0,none⟩ (.int .i64 lp.2) _ (by simp;omega)).trans (Below.heap_setCell V ⟨w.heap.size,0,none⟩ (.int .i64 lp.1) _ (by simp;omega))).trans HD.out)
   first|gi_region_with fail|done
   all_goals gi_wp2
   all_goals
    refine⟨by simp,.inl ⟨_,_,rfl,run_takeDeferred (w:=World.drew _) F4.out,?_⟩⟩
    refine⟨_,jap7 rfl rfl rfl rfl (b1:=w.heap.size) (b2:=w.heap.size+1) (v1:=.int .i64 lp.1) (v2:=.int .i64 lp.2) ?_ ?_,by rw[HLP.out];rfl,?_⟩
    ·exact(Box.of_block F1.out (World.putObj_heap_other (by omega))).cell
    ·exact(Box.of_block F2.out (World.putObj_heap_other (by omega))).cell
    ·exact(Below.drew F3.out).grown (jg3 _ _) F3.out.size (fun j e=>by cases e;omega)
  ·rintro _ _ _ _ h;exact h.elim
end Go.Proofs.YtphcodcdfeohhaaGreatDoor
