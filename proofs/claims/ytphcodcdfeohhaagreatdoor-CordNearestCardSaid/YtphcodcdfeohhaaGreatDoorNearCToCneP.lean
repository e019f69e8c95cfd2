import Derived.Test.YtphcodcdfeohhaaGreatDoorCordPToCordQ
import Derived.Test.YtphcodcdfeohhaaGreatDoorCnrCToCnrE
import Derived.Test.YtphcodcdfeohhaaGreatDoorCnrFToCnrH
import Derived.Test.YtphcodcdfeohhaaGreatDoorMakeA
set_option linter.unusedVariables false
set_option linter.unusedSimpArgs false
namespace Go.Proofs.YtphcodcdfeohhaaGreatDoor
set_option maxRecDepth 100000
set_option maxHeartbeats 2000000
open Go.RowKit
attribute [local go_sem] Oper.semAt_some
theorem jaf4 (n:Int):∀(k:Nat) (d:Int) (best:Int×Int),(za5 n k d best).length<=k
 | 0,_,_=>by simp[za5]
 | k+1,d,best=>by
  unfold za5
  split
  ·have:=jaf4 n k (d+1) best;omega
  ·have:=jaf4 n k (d+1) (numR (4*n*d*d),d);simp only[List.length_cons];omega
def dens(l:List (Int×Int)):List Value:=l.map fun x=>.int .i64 x.2
def RecI(w:World)(pre:List (Int×Int))(W:World):Prop:=∃v,Box W w.heap.size 52 v/\W.ownsRow (w.heap.size+6) 3 1 v pre.length (dens pre)/\Below w.heap.size w W
def jv1(n most:Int):List Int×Int:=if(inB n 1 1000&&inB most 1 3000)=true then((js0 n most).map (·.2),0)else([],3)
theorem zm7(n most:Int)(w:World):Calls Tryz.prog 23 #[.int .i64 n,.int .i64 most] w fun e w'=>∃(A:Option Addr) (c:Nat),
  e=.returned (.tuple #[.slice A (jv1 n most).1.length c,.int .i64 (jv1 n most).2])/\zb0 w' w'.heap.size A (jv1 n most).1.length c (jv1 n most).1/\Below w.heap.size w w':=by
 obtain⟨i0,hi0,hz0',hz1,hz2⟩:=info_parts Tryz.infoInt
 have HA:=ja0 (fun m W=>(callsIn_wide (n:=m)).2 (jam6 n most W))
 have HRC:=ja0 (fun m W=>(callsIn_wide (n:=m)).2 (jan7 n most W))
 unfold jv1
 refine(callsIn_wide (n:=0)).1 ?_
 refine callsIn_of_wp_marks Tryz.func23 rfl trivial ?_ rfl
 simp only[Tryz.ntmps23,List.size_toArray,List.length_cons,List.length_nil,Nat.reduceAdd,Nat.reduceSub,Array.replicate_succ,Array.replicate_zero,List.push_toArray,List.append_toArray,List.nil_append,List.cons_append]
 cases hin:(inB n 1 1000&&inB most 1 3000)
 ·rw[hin] at HA
  gi_wp2_with fail
  refine⟨trivial,rfl,CallsIn.mono (HA.out _ _) ?_⟩
  rintro e w1 ⟨rfl,hw1⟩
  subst w1
  gi_wp2
  exact⟨_,results_tmp2 rfl _ _ _,none,0,rfl,Rd.nil_ _ _ _,Below.refl _ _⟩
 ·rw[hin] at HA
  have hn:1<=n/\n<=1000:=by
   have:=(Bool.and_eq_true _ _▸hin:_/\_).1;simpa [inB] using this
  have hm:1<=most/\most<=3000:=by
   have:=(Bool.and_eq_true _ _▸hin:_/\_).2;simpa [inB] using this
  have HX0:=ja0 (Box.new w 52 (.slice none 0 0))
  have HB0:=ja0 ((Below.refl w.heap.size w).alloc (Nat.le_refl _) (.cells #[.slice none 0 0] 52))
  obtain⟨w0,hw0⟩:∃w0,w0=w.alloc (.cells #[.slice none 0 0] 52):=⟨_,rfl⟩
  have hz0:w0.heap.size=w.heap.size+1:=by rw[hw0];simp
  rw[<-hw0] at HX0 HB0
  have HX0:=ja0 HX0.out
  have hg:=zs7 (w.heap.size+2) (w.heap.size+1) n most ((w0.alloc (.cells #[.int .i64 n] 3)).alloc (.cells #[.int .i64 most] 3)) (by
   have:=(Box.new (w0.alloc (.cells #[.int .i64 n] 3)) 3 (.int .i64 most)).cell
   rw[World.size_alloc,hz0] at this
   exact this) (by
   have:=((Box.new w0 3 (.int .i64 n)).alloc (.cells #[.int .i64 most] 3)).cell
   rw[hz0] at this
   exact this) hn hm
  have HG:=ja0 hg
  clear hg
  have HLEN:=ja0 (show ∀pre:List (Int×Int),(∃rest,pre++rest=js0 n most)->pre.length<=3000 from fun pre ⟨rest,h⟩=>by
   have h1:=jaf4 n most.toNat 1 (0,0)
   have h2:(js0 n most).length<=most.toNat:=h1
   rw[<-h,List.length_append] at h2
   omega)
  gi_wp2_with fail
  refine⟨trivial,rfl,CallsIn.mono (HA.out _ _) ?_⟩
  rintro e w1 ⟨rfl,hw1⟩
  subst w1
  gi_wp2_with fail
  rw[<-hw0]
  clear hw0
  refine⟨trivial,rfl,CallsIn.mono (HRC.out _ _) ?_⟩
  rintro e w1 ⟨rfl,hw1⟩
  subst w1
  rw[hz0]
  have hbR:Below w.heap.size w ((w0.alloc (.cells #[.int .i64 n] 3)).alloc (.cells #[.int .i64 most] 3)):=(HB0.out.alloc (by omega) _).alloc (by simp;omega) _
  gi_wp2_with fail
  refine zf3 (gf:=99) (lb:=#[.pointer (some ⟨w.heap.size+2,0,none⟩),.pointer (some ⟨w.heap.size+1,0,none⟩)]) rfl zr0 HG.out (Below.refl _ _) ?_ (fun _=>rfl) (fun pre W=>RecI w pre W) (fun _ _ _=>False) ?_ ?_ ?_ ?_ ?_ ?_
  ·rintro b (rfl|rfl)<;>simp<;>omega
  ·rintro s A B row ⟨v,h1,h2,h3⟩ hg hr
   simp only[World.size_alloc,hz0] at hr
   refine⟨v,h1.grown hg (fun e=>by have:=hr _ e;omega),h2.kept hg ?_,h3.grown hg h3.size (fun j e=>by have:=hr j e;omega)⟩
   by_cases hv:v.ownBlock=none
   ·exact .inl hv
   ·refine .inr (fun e=>?_)
    cases hrow:row with
    | none=>rw[hrow] at e;exact hv e
    | some j=>have h5:=hr j hrow;rw[hrow] at e;have:=(h2.lt j e).1;omega
  ·rintro _ _ _ _ _ h;exact h.elim
  ·exact⟨_,(HX0.out.alloc _).alloc _,World.ownsRow_nil _ _ _ _,hbR⟩
  ·rintro pre x W hsp ⟨v,h1,h2,h3⟩ hsz
   have hlen:=HLEN.out _ hsp
   simp only[List.length_append,List.length_cons,List.length_nil] at hlen
   simp only[World.size_alloc,hz0] at hsz ⊢
   obtain⟨xa,xb⟩:=x
   have HX1:=ja0 h1
   have HO1:=ja0 h2
   have HB1:=ja0 h3
   clear h1 h2 h3 hsp
   simp only[encN]
   gi_wp2
   refine⟨(KeepB.refl _ _).alloc (by rintro b ((rfl|rfl)|h)<;>omega) _,?_⟩
   intro W2 hg2 hzz
   have HX2:=ja0 ((HX1.out.alloc _).grown hg2 (by simp;omega))
   have HO2:=ja0 ((HO1.out.alloc (.cells #[.int .i64 xa,.int .i64 xb] 100)).kept hg2 (by
    by_cases hv:v.ownBlock=none
    ·exact .inl hv
    ·refine .inr (fun e=>?_)
     have:=(HO1.out.lt _ e).1
     omega))
   have HN2:=ja0 ((Blk.new W 100 #[.int .i64 xa,.int .i64 xb]).grown hg2 (by simp;omega))
   have HB2:=ja0 ((HB1.out.alloc HB1.out.size _).grown hg2 (by simp;omega) (fun j e=>by cases e;omega))
   obtain⟨Z,hZ⟩:∃Z,Z=W.heap.size:=⟨_,rfl⟩
   simp only[World.size_alloc] at hzz
   rw[<-hZ] at HN2 hzz ⊢
   clear hg2 HX1 HO1 HB1
   have hsz2:w.heap.size+6<=W2.heap.size:=by omega
   have hZW:Z<W2.heap.size:=HN2.out.lt
   have hZ6:w.heap.size+6<=Z:=by omega
   clear hZ hzz hsz
   obtain⟨n0,n1,nf0,nf1⟩:=HN2.out.two
   have x0:=HX2.out.cell
   have xf:=HX2.out.free
   have hlt0:=HX2.out.lt
   gi_wp2_with (first
    | (gi_at_builtin;refine wpListIn_append_own _ rfl _ _ 52 rfl (w.heap.size+6) 3 i0 (.int .i64 0) 1 8 Tryz.underlying52 hi0 hz0' hz1 hz2 rfl (by decide) v pre.length _ rfl (HO2.out.alloc _) ⟨W2.heap.size,0,none⟩ 1 1 [.int .i64 xb] rfl rfl (jm4 _ _ _) (by simp[Value.oneCell']) (by unfold maxLen;omega) (by omega) (by simp;omega) ?_;intro v' w3 hown' hgrow _;obtain⟨A',c',rfl⟩:=jc1 hown';have hne:=zg0 HO2.out (b:=w.heap.size) (by omega);have hx3:=(HX2.out.alloc (.cells #[.int .i64 xb] 3)).grown hgrow hne;have hcx3:=hx3.cell;have hfx3:=hx3.free;have HO3:=ja0 hown';have HX3:=ja0 hx3;have HG3:=ja0 hgrow;clear hown' hgrow hne hx3))
   have hR:∀b,((b=w.heap.size+2\/b=w.heap.size+1)\/(w.heap.size+1+1+1<=b/\b<w.heap.size+1+1+1+2+1))->b<W2.heap.size/\w.heap.size<b/\b<w.heap.size+6:=by
    rintro b ((h|h)|h)<;>omega
   have hkp:=((KeepB.refl (fun b=>(b=w.heap.size+2\/b=w.heap.size+1)\/(w.heap.size+1+1+1<=b/\b<w.heap.size+1+1+1+2+1)) W2).alloc (fun b hb=>(hR b hb).1) (.cells #[.int .i64 xb] 3)).trans (KeepB.of_grown HG3.out (fun b hb=>by have:=(hR b hb).1;simp;omega) (fun b hb h=>by have h1:=(HO2.out.lt b hb).1;have:=(hR b h).2.2;omega))
   refine⟨hkp.setCell (p:=⟨w.heap.size,0,none⟩) (fun h=>by have:=(hR _ h).2.1;exact absurd this (Nat.lt_irrefl _)) _,_,HX3.out.set_ _,?_,?_⟩
   ·have h5:=ownsRow_setCell_other HO3.out (a:=⟨w.heap.size,0,none⟩) (zg0 HO3.out (show w.heap.size<_ by omega)) (.slice A' (pre.length+1) c')
    have e5:dens (pre++[(xa,xb)])=dens pre++[.int .i64 xb]:=by simp[dens]
    rw[e5,List.length_append,List.length_singleton]
    exact h5
   ·refine(((HB2.out.alloc HB2.out.size _).grown HG3.out (by have:=HB2.out.size;simp;omega) (fun j e=>by have:=(HO2.out.lt j e).1;omega))).setCell (p:=⟨w.heap.size,0,none⟩) (Nat.le_refl _) _
  ·rintro xs V rfl ⟨v,h1,h2,h3⟩ hD
   simp only[World.size_alloc,hz0] at hD ⊢
   obtain⟨A,c,rfl⟩:=jc1 h2
   have x0:=h1.cell
   have HO:=ja0 h2
   have HX:=ja0 h1
   have HB:=ja0 h3
   have HD:=ja0 hD
   clear h1 h2 h3 hD
   gi_wp2
   refine⟨by simp,.inl ⟨_,_,rfl,run_takeDeferred HD.out,?_⟩⟩
   refine⟨_,results_tmp2 rfl _ _ _,A,c,by simp,?_,?_⟩
   ·have h1:=HO.out.kept (jd7 (w.heap.size+1+1+1) (.deferred none)) (.inr (by
     intro e
     have:=(HO.out.lt _ e).1
     omega))
    have h2:=Rd.of_own h1
    have e5:dens (js0 n most)=((js0 n most).map (·.2)).map (Value.int .i64):=by simp[dens]
    rw[e5] at h2
    exact h2
   ·exact HB.out.grown (jd7 _ _) HB.out.size (fun j e=>by cases e;omega)
  ·rintro _ _ _ _ h;exact h.elim
open Go Go.RowKit
theorem jby4{n:Nat}{m:Int}(hn:1<=n/\n<=1000)(hm:1<=m/\m<=3000):∃bd ac,zs5 (jm5 (js0 n m)).2 [((jm5 (js0 n m)).1,1)]=(bd,jb2 ac,0)/\ja7 bd (jb2 ac)=true/\(1<=bd/\bd<=3000)/\(0<=ac/\ac<=96000) /\
  ∀(yd:Int) (yt:List (Int×Int)),IsN bd (jh2 n (ac,bd)) yd yt ->
   (∀f cf,jm3 bd (jb2 ac) n yd yt f cf->cf=0/\f=true) /\
   ∀(c d:Int),0<=c/\c<=96000->1<=d/\d<=m->∃td tc,zs5 d [(c,1)]=(td,jb2 tc,0)/\ja7 td (jb2 tc)=true/\∀i ci,jm3 td (jb2 tc) n yd yt i ci->ci=0/\(i=true->td=bd/\tc=ac):=by
 obtain⟨⟨⟨h1,h2⟩,h3,h4⟩,hall⟩:=jbg6 hn hm
 generalize jm5 (js0 n m)=best at *
 obtain⟨a,b⟩:=best
 dsimp only at *
 obtain⟨bd,ac,e1,e2,e3,e4,e5⟩:=jaj2 (num:=a) (D:=b) (by omega) (by omega)
 refine⟨bd,ac,e1,e2,e3,e4,fun yd yt hy=>⟨fun f cf h=>?_,fun c d hc hd=>?_⟩⟩
 ·obtain⟨g1,g2⟩:=jap3 hn e2 e3.2 e4 (by omega) e4.1 hy h
  exact⟨g1,g2.2 (LeD.refl n (ac,bd))⟩
 ·obtain⟨td,tc,f1,f2,f3,f4,f5⟩:=jaj2 (num:=c) (D:=d) hc (by omega)
  refine⟨td,tc,f1,f2,fun i ci h=>?_⟩
  obtain⟨g1,g2⟩:=jap3 hn f2 f3.2 f4 (by omega) e4.1 hy h
  refine⟨g1,fun hi=>?_⟩
  have k1:=g2.1 hi
  have k0:LeD n (ac,bd) (a,b):=LeD.same (by omega) (by omega) e5
  have k2:LeD n (ac,bd) (tc,td):=LeD.trans (q:=(c,d)) (by dsimp only;omega) (by dsimp only;omega) (by dsimp only;omega)
   (LeD.trans (q:=(a,b)) (by dsimp only;omega) (by dsimp only;omega) (by dsimp only;omega) k0 (hall c d hc.1 hd.1 hd.2)) (LeD.same (by omega) (by omega) f5.symm)
  have k3:=jct5 hn.1 (by omega) (by omega) e4.1 f4.1 k2 k1 fun r _=>LeD.trans (q:=(a,b)) (by dsimp only;omega) (by dsimp only;omega) (by dsimp only;omega) k0 (hall r 1 (by omega) (by omega) hm.1)
  obtain⟨j1,j2⟩:=jcr8 f2 e2 k3
  exact⟨j1,j2⟩
theorem jbg7{n:Nat}{m:Int}(hn:1<=n/\n<=1000)(hm:1<=m/\m<=3000):∃(L:List Int) (a d:Int),(js0 n m).map (·.2)=L/\jm5 (js0 n m)=(a,d)/\0<L.length/\L.length<=3000/\L[L.length-1]?=some d/\L[0]?=some 1:=by
 obtain⟨k1,hk1⟩:=jaa1 (b:=4*(n:Int)*1*1) (by omega)
 have h1:=jaz4 (m:=m) hm.1 hk1
 have hlen:(js0 n m).length<=m.toNat:=jaf4 n m.toNat 1 (0,0)
 have hne:js0 n m≠[]:=by rw[h1];simp
 obtain⟨x,hx⟩:∃x,(js0 n m).getLast?=some x:=by
  cases h:(js0 n m).getLast? with
  | none=>exact absurd (List.getLast?_eq_none_iff.1 h) hne
  | some x=>exact⟨x,rfl⟩
 have hp:0<(js0 n m).length:=List.length_pos_iff.2 hne
 refine⟨_,x.1,x.2,rfl,by simp[jm5,hx],by simpa using hp,by simp;omega,?_,?_⟩
 ·rw[List.getLast?_eq_getElem?] at hx
  rw[List.length_map,List.getElem?_map,hx]
  rfl
 ·rw[h1];rfl
theorem jbc1 {n:Nat} {m p c:Int} (hn:1<=n/\n<=1000) (hm:1<=m/\m<=3000) (hp:1<=p/\p<=m) (hc:0<=c/\c<=96000) :
  ∃(L F:List Int) (a b bd ac td tc:Int),zc4 n m=(a,b,0)/\jv1 n m=(L,0)/\jv1 n p=(F,0)/\(0<F.length/\F.length<=L.length/\L.length<=3000)/\L[0]?=some 1/\L[L.length-1]?=some b/\L.take F.length=F /\
   (1<=b/\b<=m)/\(1<=a/\a<=94869)/\zs5 b [(a,1)]=(bd,jb2 ac,0)/\(ja7 bd (jb2 ac)=true/\(1<=bd/\bd<=3000)/\(0<=ac/\ac<=96000))/\zs5 p [(c,1)]=(td,jb2 tc,0) /\
   ∀(yd:Int) (yt:List (Int×Int)),IsN bd (jh2 n (ac,bd)) yd yt->(∀f cf,jm3 bd (jb2 ac) n yd yt f cf->cf=0/\f=true)/\∀i ci,jm3 td (jb2 tc) n yd yt i ci->ci=0/\(i=true->td=bd/\jb2 tc=jb2 ac):=by
 obtain⟨L,a,b,e1,e2,e3,e4,e5,e6⟩:=jbg7 hn hm
 obtain⟨F,a',b',f1,_,f3,_,_,_⟩:=jbg7 (m:=p) hn (by omega)
 obtain⟨t,ht⟩:=jdg9 (n:Int) hp.2
 have hLF:L=F++t.map (·.2):=by rw[<-e1,ht,List.map_append,f1]
 obtain⟨⟨hb1,hb2,hb3⟩,_⟩:=jbg6 hn hm
 obtain⟨bd,ac,g1,g2,g3,g4,g5⟩:=jby4 hn hm
 obtain⟨td,tc,k1,_⟩:=jaj2 hc (show 1<=p/\p<=3000 by omega)
 rw[e2] at hb1 hb2 hb3 g1
 dsimp only at hb1 hb2 hb3 g1
 have hin:(inB (n:Int) 1 1000&&inB m 1 3000)=true:=by simp[inB];omega
 have hip:(inB (n:Int) 1 1000&&inB p 1 3000)=true:=by simp[inB];omega
 refine⟨L,F,a,b,bd,ac,td,tc,?_,?_,?_,⟨f3,by rw[hLF];simp,e4⟩,e6,e5,by rw[hLF];simp,⟨hb2,hb3⟩,hb1,g1,⟨g2,g3,g4⟩,k1,fun yd yt hy=>⟨(g5 yd yt hy).1,fun i ci hi=>?_⟩⟩
 ·unfold zc4;rw[if_pos hin,e2]
 ·unfold jv1;rw[if_pos hin,e1]
 ·unfold jv1;rw[if_pos hip,f1]
 ·obtain⟨td',tc',h1,_,h3⟩:=(g5 yd yt hy).2 c p hc hp
  rw[k1] at h1
  injection h1 with h4 h1
  injection h1 with h5 _
  subst h4
  rw[h5] at hi ⊢
  obtain⟨j1,j2⟩:=h3 i ci hi
  exact⟨j1,fun h=>⟨(j2 h).1,by rw[(j2 h).2]⟩⟩
theorem jcp2 {n:Nat} {bd ac s q xd xc:Int} {xt:List (Int×Int)} (hn:1<=n/\n<=1000) (hb:ja7 bd (jb2 ac)=true/\(1<=bd/\bd<=3000)/\(0<=ac/\ac<=96000)) (hr:jt1 1 [((n:Int),1)] (1,[(s,q)],0)) (h:jc4 bd (jb2 ac) 1 [(s,q)] (-1)=(xd,xt,xc)) :
  xc=0/\∀sg cc,zt7 xd xt sg cc->cc=0/\(sg<0->(jc4 1 [] xd xt (-1)).2.2=0/\IsN bd (jh2 n (ac,bd)) (jc4 1 [] xd xt (-1)).1 (jc4 1 [] xd xt (-1)).2.1)/\(¬sg<0->IsN bd (jh2 n (ac,bd)) xd xt):=by
 have hw:jc6 (n:Int)=(1,[((n:Int),1)]):=by unfold jc6;rw[if_neg (by omega)]
 have hd:jz3 bd (jb2 ac) n (jc4 bd (jb2 ac) 1 [(s,q)] (-1)):=.inr (.inr ⟨hb.1,by simp[inB];omega,(1,[(s,q)],0),by rw[hw];exact hr,rfl⟩)
 obtain⟨h1,h2⟩:=jck5 hb.1 hb.2.1.2 hb.2.2 (by omega) hd
 rw[h] at h1 h2
 exact⟨h1,fun sg cc hs=>jdm1 (by omega) hb.2.2.1 h2 hs⟩
end Go.Proofs.YtphcodcdfeohhaaGreatDoor
