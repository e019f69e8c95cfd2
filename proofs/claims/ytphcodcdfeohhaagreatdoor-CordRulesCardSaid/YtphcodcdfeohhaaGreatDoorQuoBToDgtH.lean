import Derived.Test.YtphcodcdfeohhaaGreatDoorQuoAToSurdL
import Derived.Test.YtphcodcdfeohhaaGreatDoorDgtG
set_option linter.all false
namespace Go.Proofs.YtphcodcdfeohhaaGreatDoor
set_option maxRecDepth 100000
set_option maxHeartbeats 8000000
open Go.RowKit
theorem jch9{a b:Nat}(ha:a<=4)(hb:b<=2){N:Int}(hN:0<=N):(a:Int)*((b:Int)*N)<=8*N:=by
 have h:=Nat.mul_le_mul ha hb
 rw[<-Int.mul_assoc,<-Int.natCast_mul]
 exact Int.mul_le_mul_of_nonneg_right (by omega) hN
theorem zy8{yd:Int}{l:List (Int×Int)}{u:Int×Int}(h:u∈JD yd l):∃t∈l,∃i,u=(t.1*(qj i*yd),t.2):=by
 obtain⟨i,hi,rfl⟩:=List.mem_iff_getElem.1 h
 rw[qk] at hi
 refine⟨l[i],List.getElem_mem hi,i,?_⟩
 simp[JD]
theorem jcd1 (xd:Int) (xA:Option Addr) (xn xc:Nat) (xt:List (Int×Int)) (yd:Int) (yA:Option Addr) (yn yc:Nat) (yt:List (Int×Int)) (B:Nat) (w:World) (hx:ji w B xA xn xc xt) (hy:ji w B yA yn yc yt) (hB:B<=w.heap.size) :
  Calls Tryz.prog 38 #[.agg #[.int .i64 xd,.slice xA xn xc],.agg #[.int .i64 yd,.slice yA yn yc]] w (jV w (jn7 xd xt yd yt)):=by
 have HV:=ja (Qv xd xA xn xc xt yd yA yn yc yt B (((w.alloc (.cells #[.int .i64 xd,.slice xA xn xc] 24)).alloc (.cells #[.int .i64 yd,.slice yA yn yc] 24)).alloc (.cells #[.int .i64 0,.slice none 0 0] 24))
  (Rd.alloc (Rd.alloc (Rd.alloc hx hB _) (by simp;omega) _) (by simp;omega) _) (Rd.alloc (Rd.alloc (Rd.alloc hy hB _) (by simp;omega) _) (by simp;omega) _) (by simp;omega))
 have HX0:=ja ((jh.new w 24 #[.int .i64 xd,.slice xA xn xc]).alloc (.cells #[.int .i64 yd,.slice yA yn yc] 24) |>.alloc (.cells #[.int .i64 0,.slice none 0 0] 24))
 have HY0:=ja ((jh.new (w.alloc (.cells #[.int .i64 xd,.slice xA xn xc] 24)) 24 #[.int .i64 yd,.slice yA yn yc]).alloc (.cells #[.int .i64 0,.slice none 0 0] 24))
 have HR0:=ja (jh.new ((w.alloc (.cells #[.int .i64 xd,.slice xA xn xc] 24)).alloc (.cells #[.int .i64 yd,.slice yA yn yc] 24)) 24 #[.int .i64 0,.slice none 0 0])
 have HB0:=ja ((((Below.refl w.heap.size w).alloc (Nat.le_refl _) (.cells #[.int .i64 xd,.slice xA xn xc] 24)).alloc (by simp) (.cells #[.int .i64 yd,.slice yA yn yc] 24)).alloc (by simp;omega) (.cells #[.int .i64 0,.slice none 0 0] 24))
 have hsz:Hid (w.heap.size+3=(((w.alloc (.cells #[.int .i64 xd,.slice xA xn xc] 24)).alloc (.cells #[.int .i64 yd,.slice yA yn yc] 24)).alloc (.cells #[.int .i64 0,.slice none 0 0] 24)).heap.size):=ja (by simp)
 have hyl:=hy.len
 subst hyl
 simp only[World.size_alloc] at HV HX0 HY0 HR0
 go_enter Tryz.func38,Tryz.ntmps38
 go_wp2_with fail
 refine HV.o.mono ?_
 rintro e w1 ⟨rfl,hb1⟩
 clear HV
 have HXT:=ja (ji.below hx (HB0.o.mono hB))
 have HYT:=ja (ji.below hy (HB0.o.mono hB))
 clear hx hy
 generalize ((w.alloc (.cells #[.int .i64 xd,.slice xA xn xc] 24)).alloc (.cells #[.int .i64 yd,.slice yA yt.length yc] 24)).alloc (.cells #[.int .i64 0,.slice none 0 0] 24)=w0 at *
 have hszb:=hb1.size
 have hsz:=hsz.o
 have hb1':Below w0.heap.size w0 w1:=by rw[<-hsz];exact hb1
 have HX1:=ja (HX0.o.below hb1' (by omega))
 have HY1:=ja (HY0.o.below hb1' (by omega))
 have HR1:=ja (HR0.o.below hb1' (by omega))
 have HXT1:=ja (ji.below HXT.o (hb1'.mono (by omega)))
 have HYT1:=ja (ji.below HYT.o (hb1'.mono (by omega)))
 have HB1:=ja (HB0.o.trans (hb1'.mono (by omega)))
 have hz1:w.heap.size+3<=w1.heap.size:=by omega
 clear hb1 hb1' HX0 HY0 HR0 HXT HYT HB0 hsz hszb
 have hpost:∀(W:World) (a:Act) (A:Option Addr) (n c:Nat) (x y:Int) (l:List (Int×Int)),jn7 xd xt yd yt=(x,l,y)->W.ownsRow w.heap.size 59 2 (.slice A n c) n (jr l)->Below w.heap.size w W->jh W (w.heap.size+1+1) 24 #[.int .i64 x,.slice A n c] ->
   a.tmps.getD 4 undef=.pointer (some ⟨w.heap.size+1+1,0,none⟩)->a.tmps.getD 5 undef=.int .i64 y->a.defers=[] ->
   bodyPost Tryz.prog Tryz.f38 (jV w (jn7 xd xt yd yt)) .ret a W:=by
  intro W a A n c x y l e1 e2 e3 e4 e5 e6 e7
  refine jq (p:=4) (u:=5) (ty:=24) rfl e5 e4 Tryz.underlying24 rfl Tryz.sizeNumber e7 ?_
  rw[e1,e6]
  exact⟨A,n,c,rfl,e2,e3⟩
 have HPOST:=ja hpost
 clear hpost
 obtain⟨hr0,hr1,hrf0,hrf1⟩:=HR1.o.two
 obtain⟨y0,y1,_,_⟩:=HY1.o.two
 have HBS:=ja (λx y=>Below.setCell (Below.setCell HB1.o (p:=⟨w.heap.size+1+1,0,none⟩) (by simp;omega) x) (p:=⟨w.heap.size+1+1,1,none⟩) (by simp;omega) y)
 cases hok:(js xd xt&&js yd yt)
 ·have HP:=ja (show jn7 xd xt yd yt=(0,[],2) by unfold jn7;rw[hok];rfl)
  go_wp2
  exact HPOST.o _ _ none 0 0 0 2 [] HP.o ⟨rfl,.inl ⟨rfl,rfl⟩⟩ (HBS.o _ _) ((HR1.o.set_ 0 _).set_ 1 _) rfl rfl rfl
 by_cases h0:yt.length=0
 ·have HP:=ja (show jn7 xd xt yd yt=(0,[],7) by unfold jn7;rw[hok,if_pos rfl,if_pos h0])
  clear hok
  go_wp2
  exact HPOST.o _ _ none 0 0 0 7 [] HP.o ⟨rfl,.inl ⟨rfl,rfl⟩⟩ (HBS.o _ _) ((HR1.o.set_ 0 _).set_ 1 _) rfl rfl rfl
 have hbe:((yt.length:Int)==0)=false:=beq_eq_false_iff_ne.2 (by omega)
 by_cases h2:2<yt.length
 ·have HP:=ja (show jn7 xd xt yd yt=(0,[],11) by unfold jn7;rw[hok,if_pos rfl,if_neg h0,if_pos h2])
  clear hok
  go_wp2
  exact HPOST.o _ _ none 0 0 0 11 [] HP.o ⟨rfl,.inl ⟨rfl,rfl⟩⟩ (HBS.o _ _) ((HR1.o.set_ 0 _).set_ 1 _) rfl rfl rfl
 have HP:=ja (show jn7 xd xt yd yt=jY (Jq [] xt (JD yd yt)) (xd*zR yt) by unfold jn7;rw[hok,if_pos rfl,if_neg h0,if_neg h2])
 rw[Bool.and_eq_true] at hok
 obtain⟨px1,px2,px3,px4⟩:=jz hok.1
 obtain⟨py1,py2,py3,py4⟩:=jz hok.2
 have hnm:=jcj3 hok.2 h0 h2
 have PY:=ja py4
 have HCL:=ja (zh7 B yA yt.length yc yt w1 HYT1.o (by omega) (by omega))
 have hcx:∀t∈xt,∀u∈JD yd yt,(-1000000000000000000<=jc6 t u/\jc6 t u<=1000000000000000000)/\-9000000000000000000<=t.1*u.1/\t.1*u.1<=9000000000000000000:=λt ht u hu=>by
  obtain⟨v,hv,i,rfl⟩:=zy8 hu
  have h3:=jE (jbj0 i) (b:=yd) (B:=100000) ⟨by omega,by omega⟩
  have h4:=jE (py4 v hv).1.2.2.2 h3
  have h1:=jbh5 (t:=t) (u:=(v.1*(qj i*yd),v.2)) (A:=100000) (C:=100000*(1*100000)) ⟨(px4 t ht).1.1,(px4 t ht).1.2.1⟩ (px4 t ht).1.2.2.2 h4
  omega
 have hrt:∀u∈JD yd yt,1<=u.2/\u.2<=1000:=λu hu=>by
  obtain⟨v,hv,i,rfl⟩:=zy8 hu
  exact⟨(py4 v hv).1.1,(py4 v hv).1.2.1⟩
 have htl:=qk yd yt
 have hlb:=jch9 px3 (show(JD yd yt).length<=2 by omega) (N:=1000000000000000000) (by omega)
 have HPD:=ja (λ(W:World) (A:Option Addr) (c B':Nat) (hxW:ji W B' xA xn xc xt) (hyW:ji W B' A yt.length c (JD yd yt)) (hB':B'<=W.heap.size)=>
  zd0 xA xn xc xt A yt.length c (JD yd yt) B' W hxW hyW hB' px3 (by omega) 1000000000000000000 (by omega) (by omega) (λt ht=>⟨(px4 t ht).1.1,(px4 t ht).1.2.1⟩) hrt hcx)
 have hbd:=jt6 (N:=1000000000000000000) (by omega) (JD yd yt) xt [] 0 zB.nil (λt ht u hu=>(hcx t ht u hu).1)
 have hbd2:zB (Jq [] xt (JD yd yt)) 8000000000000000000:=hbd.mono (by omega)
 have hln:=za2 (JD yd yt) xt []
 have hln2:(Jq [] xt (JD yd yt)).length<=16:=by
  have:=Nat.mul_le_mul px3 (show(JD yd yt).length<=4 by omega)
  simp at hln;omega
 have hdd:=jE (a:=xd) (A:=100000) (by omega) hnm.2
 have hd0:xd*zR yt≠0:=λh=>by rcases Int.mul_eq_zero.1 h with h|h;omega;exact hnm.1 h
 have HOV:=ja (λW b h=>QO b (Jq [] xt (JD yd yt)) (xd*zR yt) 8000000000000000000 W h (by omega) hd0 (by omega) hbd2 (by omega))
 have hwr:IntKind.i64.wrap (xd*zR yt)=xd*zR yt:=by rw[IntKind.wrap_i64];omega
 have HWR:=ja hwr
 have HNM:=ja hnm
 clear hbd hbd2 hln hln2 hcx px4 py4 hok hrt htl hlb hdd hd0 hnm hwr
 go_wp2_with (first
  | (go_at_call 81;refine HCL.o.mono ?_;rintro e w2 ⟨A2,c2,rfl,ho2,hb2⟩
     have HO2:=ja ho2
     have HX2:=ja (HX1.o.below hb2 (by omega));have HY2:=ja (HY1.o.below hb2 (by omega));have HR2:=ja (HR1.o.below hb2 (by omega))
     have HXT2:=ja (ji.below HXT1.o (hb2.mono (by omega)));have HYT2:=ja (ji.below HYT1.o (hb2.mono (by omega)))
     have HB2:=ja (HB1.o.trans (hb2.mono (by omega)))
     obtain⟨u0,u1,_,_⟩:=HY2.o.two
     have hz2:=hb2.size
     clear ho2 hb2))
 obtain⟨g,hg,hg1,hg2⟩:=zm4 HO2.o (by omega)
 subst hg
 have HO3:Hid (w2.ownsRow w1.heap.size 59 2 (.slice (some ⟨g,0,none⟩) yt.length c2) yt.length (jr (Qe yd yt 0))):=ja (by
  have h:=HO2.o
  rwa [show Qe yd yt 0=yt by simp[Qe,JD]])
 clear HO2 HX1 HY1 HR1 HXT1 HYT1 HB1 HCL HBS hr0 hr1 hrf0 hrf1 y0 y1
 go_loopw [7,8,36] (λnm sg i W=>∃k:Nat,k<=yt.length/\i=.int .i64 k/\nm=.int .i64 (zR (yt.take k))/\sg=.int .i64 (qj k)/\(-((k:Int)*10000000000000)<=zR (yt.take k)/\zR (yt.take k)<=(k:Int)*10000000000000) /\
  W.ownsRow w1.heap.size 59 2 (.slice (some ⟨g,0,none⟩) yt.length c2) yt.length (jr (Qe yd yt k))/\jh W w.heap.size 24 #[.int .i64 xd,.slice xA xn xc]/\jh W (w.heap.size+1) 24 #[.int .i64 yd,.slice yA yt.length yc] /\
  jh W (w.heap.size+1+1) 24 #[.int .i64 0,.slice none 0 0]/\ji W B xA xn xc xt/\ji W B yA yt.length yc yt/\Below w.heap.size w W) (λ_ _ i _=>yt.length-(intOf i).toNat)
 case atStart=>exact⟨0,by omega,rfl,rfl,rfl,by simp[zR],HO3.o,HX2.o,HY2.o,HR2.o,HXT2.o,HYT2.o,HB2.o⟩
 case round=>
  obtain⟨k,hk,rfl,rfl,rfl,hnb,ho,hbx,hby,hbr,htx,hty,hbl⟩:=hrel
  by_cases hlt:k<yt.length
  ·obtain⟨ad,had,hc0,hc1⟩:=hty.at_ hlt
   subst had
   have hpy:=(PY.o yt[k] (List.getElem_mem hlt)).1
   have hat:=jcg4 yd yt k hlt
   have htkl:=jbt4 yd yt k hk
   have hkl:k<(Qe yd yt k).length:=by omega
   rw[List.getElem?_eq_getElem hkl] at hat
   have hat:=Option.some.inj hat
   have hset:=ja (jbt5 yd yt k hlt)
   have hns:=ja (show zR (yt.take (k+1))=zR (yt.take k)+qj k*yt[k].1*yt[k].1*yt[k].2 by
    rw[jw yt k hlt,jbb6];simp[Nat.min_eq_left (Nat.le_of_lt hlt)])
   obtain⟨wa,hwa⟩:∃wa,wa=wr.alloc (.cells #[.int .i64 yt[k].1,.int .i64 yt[k].2] 59):=⟨_,rfl⟩
   have hza:wa.heap.size=wr.heap.size+1:=by rw[hwa];simp
   have hab:Below wr.heap.size wr wa:=by rw[hwa];exact(Below.refl _ _).alloc (Nat.le_refl _) _
   have HUa:Hid (jh wa wr.heap.size 59 #[.int .i64 yt[k].1,.int .i64 yt[k].2]):=ja (by rw[hwa];exact jh.new _ _ _)
   have hoa:=jG ho hab
   have d0:=(zl hoa hkl).1
   have df0:=(zl hoa hkl).2.2.1
   rw[hat] at d0
   have hst:=World.ownsRow.stored (World.ownsRow.drew hoa) (k*2) (.int .i64 (yt[k].1*(qj k*yd)))
   rw[jd6 _ k _ hkl,hat,hset.o] at hst
   have hsk:=jbs1 k
   have hsb:=jbj0 k
   have hgk:g<wr.heap.size:=(ho.lt g rfl).2
   generalize yt[k]=t at *
   obtain⟨co,ro⟩:=t
   dsimp only at hpy hst hc0 hc1 hns HUa hwa d0
   have hc:-100000<=co/\co<=100000:=hpy.2.2.2
   have hro1:1<=ro:=hpy.1
   have hro2:ro<=1000:=hpy.2.1
   have m1:=jE hsb (b:=yd) (B:=100000) ⟨by omega,by omega⟩
   have m2:=jE hc m1
   have m3:=jE hsb hc
   have m4:=jE m3 hc
   have m5:=jE m4 (b:=ro) (B:=1000) ⟨by omega,by omega⟩
   have hnb2:-(((k:Int)+1)*10000000000000)<=zR (yt.take k)+qj k*co*co*ro/\zR (yt.take k)+qj k*co*co*ro<=((k:Int)+1)*10000000000000:=by omega
   have HST:=ja hst;have HHX:=ja (hbx.below hab hbx.lt);have HHY:=ja (hby.below hab hby.lt);have HHR:=ja (hbr.below hab hbr.lt)
   have hlx:=hbx.lt;have hly:=hby.lt;have hlr:=hbr.lt
   have HTX:=ja (Rd.below htx (hab.mono (by omega)));have HTY:=ja (Rd.below hty (hab.mono (by omega)));have HBL:=ja (hbl.trans (hab.mono (by omega)))
   have hks:IntKind.i64.wrap (qj k*yd)=qj k*yd:=by rw[IntKind.wrap_i64];omega
   have hks2:IntKind.i64.wrap (co*(qj k*yd))=co*(qj k*yd):=by rw[IntKind.wrap_i64];omega
   have hnk:-90000000000000<=zR (yt.take k)/\zR (yt.take k)<=90000000000000:=by omega
   have hnk2:-90000000000000<=zR (yt.take k)+qj k*co*co*ro/\zR (yt.take k)+qj k*co*co*ro<=90000000000000:=by omega
   have hg3:w.heap.size+1<g:=by omega
   obtain⟨U,hU⟩:∃U,U=wr.heap.size:=⟨_,rfl⟩
   rw[<-hU] at HUa hgk
   generalize zR (yt.take k)=nm at *
   generalize qj k=sg at *
   clear hst
   clear ho hoa hbx hby hbr htx hty hbl hab hpy hset hza HO3 HX2 HY2 HR2 HXT2 HYT2 HB2 u0 u1
   obtain⟨y0,_,_,_⟩:=HHY.o.two
   go_wp2
   rw[<-hwa,<-hU]
   clear hwa hU
   have HS1:=ja (show(wa.drew).cell? ⟨w.heap.size+1,0,none⟩=some (.int .i64 yd)from y0)
   have HS2:=ja (show(wa.drew.setCell ⟨g,k*2,none⟩ (.int .i64 (co*(sg*yd)))).cell? ⟨w.heap.size+1,0,none⟩=some (.int .i64 yd)from(World.cell?_setCell_other _ _ _ _ (by simp)).trans y0)
   have HS3:=ja (show((wa.setCell ⟨g,k*2,none⟩ (.int .i64 (co*(sg*yd)))).drew).cell? ⟨w.heap.size+1,0,none⟩=some (.int .i64 yd)from(World.cell?_setCell_other wa _ _ _ (by simp)).trans y0)
   have HS4:=ja (show(wa.drew).cell? ⟨g,k*2,none⟩=some (.int .i64 co)from d0)
   refine jk (λw'=>w'.cell? ⟨w.heap.size+1,0,none⟩=some (.int .i64 yd)) 12 (λw'=>w'.cell? ⟨g,k*2,none⟩=some (.int .i64 co)) 12 (λw'=>w'.cell? ⟨g,k*2,none⟩=some (.int .i64 co)) (by kernel_rfl) ⟨HS1.o,λ_=>HS4.o,λ_=>HS4.o⟩ (λjb=>?_)
   revert jb
   refine jtk 0 ?_ ?_ ?_
   rotate_left 1
   focus(intro w' hSw;obtain⟨hC,hF,hG⟩:=hSw;clear hF;clear hG;go_simp;try with_reducible rfl)
   intro jb
   simp only[Act.put,lA,lB,lC]
   revert jb
   refine jtk 1 ?_ ?_ ?_
   rotate_left 1
   focus(intro w' hSw;obtain⟨hC,hF,hG⟩:=hSw;clear hF;clear hG;go_simp;try with_reducible rfl)
   intro jb
   simp only[Act.put,lA,lB,lC]
   revert jb
   refine jtk 2 ?_ ?_ ?_
   rotate_left 1
   focus(intro w' hSw;obtain⟨hC,hF,hG⟩:=hSw;clear hF;clear hG;go_simp;try with_reducible rfl)
   intro jb
   simp only[Act.put,lA,lB,lC]
   revert jb
   refine jtk 3 ?_ ?_ ?_
   rotate_left 1
   focus(intro w' hSw;obtain⟨hC,hF,hG⟩:=hSw;clear hF;clear hG;go_simp;try with_reducible rfl)
   intro jb
   simp only[Act.put,lA,lB,lC]
   revert jb
   refine jtk 4 ?_ ?_ ?_
   rotate_left 1
   focus(intro w' hSw;obtain⟨hC,hF,hG⟩:=hSw;have hF:=hF (by decide +kernel);clear hG;go_simp;try with_reducible rfl)
   intro jb
   simp only[Act.put,lA,lB,lC]
   revert jb
   refine jtk 5 ?_ ?_ ?_
   rotate_left 1
   focus(intro w' hSw;obtain⟨hC,hF,hG⟩:=hSw;clear hF;clear hG;go_simp;try with_reducible rfl)
   intro jb
   simp only[Act.put,lA,lB,lC]
   revert jb
   refine jtk 6 ?_ ?_ ?_
   rotate_left 1
   focus(intro w' hSw;obtain⟨hC,hF,hG⟩:=hSw;clear hF;clear hG;go_simp;try with_reducible rfl)
   intro jb
   simp only[Act.put,lA,lB,lC]
   revert jb
   refine jtk 7 ?_ ?_ ?_
   rotate_left 1
   focus(intro w' hSw;obtain⟨hC,hF,hG⟩:=hSw;clear hF;clear hG;go_simp;try with_reducible rfl)
   intro jb
   simp only[Act.put,lA,lB,lC]
   revert jb
   refine jtk 8 ?_ ?_ ?_
   rotate_left 1
   focus(intro w' hSw;obtain⟨hC,hF,hG⟩:=hSw;clear hF;clear hG;go_simp;try with_reducible rfl)
   intro jb
   simp only[Act.put,lA,lB,lC]
   revert jb
   refine jtk 9 ?_ ?_ ?_
   rotate_left 1
   focus(intro w' hSw;obtain⟨hC,hF,hG⟩:=hSw;clear hF;clear hG;go_simp;try with_reducible rfl)
   intro jb
   simp only[Act.put,lA,lB,lC]
   revert jb
   refine jtk 10 ?_ ?_ ?_
   rotate_left 1
   focus(intro w' hSw;obtain⟨hC,hF,hG⟩:=hSw;clear hF;clear hG;go_simp;try with_reducible rfl)
   intro jb
   simp only[Act.put,lA,lB,lC]
   revert jb
   refine jtk 11 ?_ ?_ ?_
   rotate_left 1
   focus(intro w' hSw;obtain⟨hC,hF,hG⟩:=hSw;clear hF;clear hG;go_simp;try with_reducible rfl)
   intro jb
   simp only[Act.put,lA,lB,lC]
   refine je 12 rfl (by decide +kernel) (λK hK=>?_)
   go_simp
   refine hK.out _ _ ⟨by first|with_reducible exact HS2.o|with_reducible exact HS3.o,λh=>absurd h (by decide +kernel),λh=>absurd h (by decide +kernel)⟩ (λjb=>?_)
   clear hK K
   refine jl (by decide +kernel) ?_
   clear jb
   all_goals
    have HOz:Hid (((wa.setCell ⟨g,k*2,none⟩ (.int .i64 (co*(sg*yd)))).drew).ownsRow w1.heap.size 59 2 (.slice (some ⟨g,0,none⟩) yt.length c2) yt.length (jr (Qe yd yt (k+1)))):=ja HST.o.1
    have HUz:=ja ((HUa.o.far (p:=⟨g,k*2,none⟩) (by simp;omega) (.int .i64 (co*(sg*yd)))).drew)
    have HXz:=ja ((HHX.o.far (p:=⟨g,k*2,none⟩) (by simp;omega) (.int .i64 (co*(sg*yd)))).drew)
    have HYz:=ja ((HHY.o.far (p:=⟨g,k*2,none⟩) (by simp;omega) (.int .i64 (co*(sg*yd)))).drew)
    have HRz:=ja ((HHR.o.far (p:=⟨g,k*2,none⟩) (by simp;omega) (.int .i64 (co*(sg*yd)))).drew)
    have HTXz:=ja (Rd.drew (Rd.setCell HTX.o (p:=⟨g,k*2,none⟩) (by simp;omega) (.int .i64 (co*(sg*yd)))))
    have HTYz:=ja (Rd.drew (Rd.setCell HTY.o (p:=⟨g,k*2,none⟩) (by simp;omega) (.int .i64 (co*(sg*yd)))))
    have HBz:=ja (Below.drew (Below.setCell HBL.o (p:=⟨g,k*2,none⟩) (by simp;omega) (.int .i64 (co*(sg*yd)))))
    clear HST HUa HHX HHY HHR HTX HTY HBL HS1 HS2 HS3 d0 df0 y0
    generalize (wa.setCell ⟨g,k*2,none⟩ (.int .i64 (co*(sg*yd)))).drew=wz at *
    obtain⟨v0,v1,_,_⟩:=HUz.o.two
    go_wp2
    refine⟨⟨k+1,by omega,by go_num,?_,?_,?_,HOz.o,HXz.o,HYz.o,HRz.o,HTXz.o,HTYz.o,HBz.o⟩,by simp[intOf];omega⟩
    ·rw[hns.o]
    ·rw[hsk]
    ·rw[hns.o]
     have:((k+1:Nat):Int)=(k:Int)+1:=by omega
     rw[this];exact hnb2
  ·obtain rfl:k=yt.length:=by omega
   rw[List.take_length] at *
   rw[show Qe yd yt yt.length=JD yd yt by simp[Qe]] at ho
   have HO:=ja ho;have HX4:=ja hbx;have HY4:=ja hby;have HR4:=ja hbr;have HTX4:=ja htx;have HB4:=ja hbl
   have hzr:w1.heap.size<=wr.heap.size:=by have:=(ho.lt g rfl);omega
   have hRow:Hid (ji wr.drew wr.heap.size (some ⟨g,0,none⟩) yt.length c2 (JD yd yt)):=ja (Rd.of_own ho)
   have HPD4:=ja (HPD.o wr.drew (some ⟨g,0,none⟩) c2 wr.heap.size (Rd.more (Rd.drew htx) (by omega)) hRow.o (Nat.le_refl _))
   obtain⟨x0,x1,_,_⟩:=hbx.two
   have HLX:=ja hbx.lt;have HLR:=ja hbr.lt
   have hlx:=hbx.lt;have hlr:=hbr.lt
   have hwr:=HWR.o
   clear ho hbx hby hbr htx hty hbl HPD hRow hnb HX2 HY2 HR2 HXT2 HYT2 HB2 HO3 u0 u1
   generalize Jq [] xt (JD yd yt)=kv1 at *
   generalize hsv:jY kv1 (xd*zR yt)=sv at *
   obtain⟨s1,s2,s3⟩:=sv
   have HSV:=ja hsv;clear hsv
   generalize zR yt=nm at *
   have HS1:=ja (show(wr.drew).cell? ⟨w.heap.size,0,none⟩=some (.int .i64 xd)/\(wr.drew).cell? ⟨w.heap.size,1,none⟩=some (.slice xA xn xc)from⟨x0,x1⟩)
   have HSET:=ja (λ(W:World) (i:Nat) (u:Value) (h:W.cell? ⟨w.heap.size,0,none⟩=some (.int .i64 xd)/\W.cell? ⟨w.heap.size,1,none⟩=some (.slice xA xn xc))=>
    (show(W.setCell ⟨w.heap.size+1+1,i,none⟩ u).cell? ⟨w.heap.size,0,none⟩=some (.int .i64 xd)/\(W.setCell ⟨w.heap.size+1+1,i,none⟩ u).cell? ⟨w.heap.size,1,none⟩=some (.slice xA xn xc)from
     ⟨(World.cell?_setCell_other W _ _ u (by simp)).trans h.1,(World.cell?_setCell_other W _ _ u (by simp)).trans h.2⟩))
   go_wp2
   go_region_held3 (λw'=>w'.cell? ⟨w.heap.size,0,none⟩=some (.int .i64 xd)/\w'.cell? ⟨w.heap.size,1,none⟩=some (.slice xA xn xc)) (first|with_reducible exact HS5.o|with_reducible exact HS4.o|with_reducible exact HS1.o|with_reducible (exact HSET.o _ _ _ HS5.o)|with_reducible (exact HSET.o _ _ _ (HSET.o _ _ _ HS5.o))) (first
    | (go_at_call 79;refine HPD4.o.mono ?_;rintro e w4 ⟨rfl,hm4,hb4⟩
       have HX5:=ja ((HX4.o.drew).below hb4 (by show w.heap.size<wr.heap.size;omega))
       have HR5:=ja ((HR4.o.drew).below hb4 (by show w.heap.size+1+1<wr.heap.size;omega))
       have HB5:=ja ((HB4.o.drew).trans (hb4.mono (by show w.heap.size<=wr.heap.size;omega)))
       have HS4:=ja (show w4.cell? ⟨w.heap.size,0,none⟩=some (.int .i64 xd)/\w4.cell? ⟨w.heap.size,1,none⟩=some (.slice xA xn xc)from⟨HX5.o.cell 0,HX5.o.cell 1⟩)
       have HOV4:=ja (HOV.o w4 wr.heap.size hm4)
       have hz4:wr.heap.size<=w4.heap.size:=hb4.size
       clear hm4 hb4)
    | (go_at_call 64;refine HOV4.o.mono ?_;rintro e w5 ⟨A4,n4,c4,rfl,ht5,hg5⟩
       have HX6:=HX5.o.grown hg5 (by simp;omega)
       have HR6:=ja (HR5.o.grown hg5 (by simp;omega))
       have HB6:=ja (HB5.o.grown hg5 (by omega) (by simp;omega))
       have HS5:=ja (show w5.cell? ⟨w.heap.size,0,none⟩=some (.int .i64 xd)/\w5.cell? ⟨w.heap.size,1,none⟩=some (.slice xA xn xc)from⟨HX6.cell 0,HX6.cell 1⟩)
       obtain⟨q1,q2,q3,q4⟩:=HR6.o.two
       have HT5:=ja ht5
       have hz5:=hg5.size
       obtain⟨c51,c52⟩:=HS5.o
       clear HX6 ht5 hg5))
   all_goals
    go_wp2
    exact HPOST.o _ _ A4 n4 c4 s1 s3 s2 HP.o (jO (ownsRow_setCell_below (ownsRow_setCell_below HT5.o (by show w.heap.size+1+1<_;omega) _) (by show w.heap.size+1+1<_;omega) _) (by omega))
     (Below.setCell (Below.setCell HB6.o (by show _<=w.heap.size+1+1;omega) _) (by show _<=w.heap.size+1+1;omega) _) ((HR6.o.set_ 0 _).set_ 1 _) rfl rfl rfl
open Go Go.RowKit
theorem jbv5(n:Int)(w:World)(h:-9000000000000000000<=n/\n<=9000000000000000000):Calls Tryz.prog 130 #[.int .i64 n] w λe w'=>e=.returned (.int .i64 (n.natAbs:Int))/\w'=w:=by
 have hm:max n (-n)=(n.natAbs:Int):=by omega
 have hw:IntKind.i64.wrap (-n)=-n:=by rw[IntKind.wrap_i64];omega
 go_enter Tryz.func130,Tryz.ntmps130
 go_wp2
 go_ret
 exact⟨by first|rfl|simp[hm]|(congr 1;congr 1),rfl⟩
theorem zz3{w w':World}{base s n:Nat}{e:TypeId}{v:Value}{xs:List Value}(h:w.ownsRow base e s v n xs){row:Option Nat}(hg:w.grownBy w' row)(hne:∀g,v.ownBlock=some g->row≠some g):w'.ownsRow base e s v n xs:=by
 refine h.kept hg ?_
 cases hv:v.ownBlock with
 | none=>exact .inl rfl
 | some g=>exact .inr (λe=>hne g hv e.symm)
theorem jj8 {ops:Array Oper} {o:Oper} {a:Act} {K:Act->World->Prop} {Q:Exit->Act->World->Prop} {E:Prop} {w:World} (hgd:o.guard=none) (s x:Operand)
  (ho:o.op=.call { callee:=.builtin .append,args:=#[s,x],argTypes:=#[52,52] }) (base:Nat) (A1:Option Addr) (n1 c1:Nat) (l1:List Int) (A:Option Addr) (n c B:Nat) (l:List Int)
  (hs:a.eval s=.slice A1 n1 c1) (hx:a.eval x=.slice A n c) (h1:w.ownsRow base 3 1 (.slice A1 n1 c1) n1 (l1.map (Value.int .i64))) (hl:jP w B A n c l) (hb:base<=w.heap.size) (hn:n1+n<=15000000000000)
  (h:∀A' c' w',w'.ownsRow base 3 1 (.slice A' (n1+n) c') (n1+n) ((l1++l).map (Value.int .i64))->w.grownBy w' (Value.slice A1 n1 c1).ownBlock->Below base w w'->K (a.put o.dst (.slice A' (n1+n) c')) w') :
  if Region.wanted o (yielded ops a.tmps)=true then Oper.wp Tryz.prog o a w K Q else E:=by
 obtain⟨i1,hi1,hy0,hy1,hy2⟩:=info_parts Tryz.infoIntD
 refine zt3 hgd s x 52 ho base 3 i1 (.int .i64 0) 1 8 Tryz.underlying52 hi1 hy0 hy1 hy2 rfl (by decide) _ n1 (l1.map (Value.int .i64)) hs h1 A n c B (l.map (Value.int .i64)) hx hl (js4 l) (by unfold maxLen;omega) (by omega) hb ?_
 intro A' c' w' h3 h4
 rw[<-List.map_append] at h3
 exact h A' c' w' h3 h4 ((Below.refl base w).grown h4 hb (λj e=>(h1.lt j e).1))
theorem zb0 {ops:Array Oper} {o:Oper} {a:Act} {K:Act->World->Prop} {Q:Exit->Act->World->Prop} {E:Prop} {w:World} (hgd:o.guard=none) (s x:Operand)
  (ho:o.op=.call { callee:=.builtin .append,args:=#[s,x],argTypes:=#[52,52] }) (base:Nat) (A1:Option Addr) (A:Option Addr) (n c B:Nat) (l:List Int)
  (hs:a.eval s=.slice A1 0 0) (hx:a.eval x=.slice A n c) (h1:w.ownsRow base 3 1 (.slice A1 0 0) 0 []) (hl:jP w B A n c l) (hb:base<=w.heap.size) (hn:n<=15000000000000)
  (h:∀A' c' w',w'.ownsRow base 3 1 (.slice A' n c') n (l.map (Value.int .i64))->w.grownBy w' (Value.slice A1 0 0).ownBlock->Below base w w'->K (a.put o.dst (.slice A' n c')) w') :
  if Region.wanted o (yielded ops a.tmps)=true then Oper.wp Tryz.prog o a w K Q else E:=by
 refine jj8 hgd s x ho base A1 0 0 [] A n c B l hs hx h1 hl hb (by omega) ?_
 intro A' c' w' h3 h4 h5
 rw[Nat.zero_add] at h3 ⊢
 exact h A' c' w' h3 h4 h5
def jah2(w:World)(v:Int)(e:Ending)(w':World):Prop:=
 ∃(L:List Int) (A:Option Addr) (c:Nat),e=.returned (.slice A L.length c)/\jP w' w'.heap.size A L.length c L/\zD L/\jj L=v/\L.length % 2=0/\L.length<=200/\Below w.heap.size w w'
theorem jm4(c n:Int)(w:World)(hc:-9000000000000000000<=c/\c<=9000000000000000000)(hn:0<=n/\n<=9223372036854775807):Calls Tryz.prog 86 #[.int .i64 c,.int .i64 n] w (jah2 w (c*c*n)):=by
 obtain⟨ab,hab⟩:∃ab:Nat,ab=c.natAbs:=⟨_,rfl⟩
 have HAB:Hid (∀W,Calls Tryz.prog 130 #[.int .i64 c] W λe w'=>e=.returned (.int .i64 (ab:Int))/\w'=W):=ja (λW=>hab▸jbv5 c W hc)
 have hab1:(ab:Int)<=9000000000000000000:=by omega
 have HSQ:Hid (c*c*n=n*(ab:Int) ^ 2):=ja (by
  have:c*c=(ab:Int) ^ 2:=by
   rw[hab,Int.pow_succ,Int.pow_succ,Int.pow_zero,Int.one_mul]
   rcases Int.natAbs_eq c with h|h
   ·rw[<-h]
   ·have h2:(c.natAbs:Int)=-c:=by omega
    rw[h2,Int.neg_mul_neg]
  rw[this,Int.mul_comm])
 clear hab
 rw[HSQ.o]
 clear HSQ hc
 go_enter Tryz.func86,Tryz.ntmps86
 go_wp2_with (first
  | (go_at_call 134;refine(jr4 n w hn.1 hn.2).mono ?_;rintro e w11 ⟨o1,A11,c11,rfl,ho,hd,hv,he,hl,hb⟩;have HO:=ja ho;have HD:=ja (And.intro hd (And.intro hv hl));have HB11:=ja hb;clear ho hd hv he hl hb))
 go_loopw [5,6] (λov kv W=>∃(k:Nat) (o:List Int) (A:Option Addr) (c':Nat),ov=.slice A o.length c'/\kv=.int .i64 k/\k<=2/\zD o/\jj o=n*(ab:Int) ^ k/\o.length<=20+45*k/\jP W W.heap.size A o.length c' o/\Below w.heap.size w W) (λ_ kv _=>2-(intOf kv).toNat)
 case atStart=>exact⟨0,o1,A11,c11,rfl,rfl,by omega,HD.o.1,by rw[HD.o.2.1];simp,by have:=HD.o.2.2;omega,zd.read HO.o,HB11.o⟩
 case round=>
  obtain⟨k,o,Ao,co,rfl,rfl,hk2,hdo,hvo,hlo,hqo,hb⟩:=hrel
  have HQO:=ja hqo
  have HDO:=ja hdo
  have HVO:=ja hvo
  have HB:=ja hb
  have hol:o.length<=110:=by omega
  clear hqo hdo hvo hb HO HD HB11
  by_cases hk:(k:Int)<2
  ·go_upto_region 6 with(first
    | (go_at_call 134;refine(jr4 (ab:Int) _ (by omega) (by omega)).mono ?_;rintro e w19 ⟨l,Al,cl,rfl,ho,hd,hv,he,hl,hb⟩;have HO19:=ja ho;have HD19:=ja (And.intro hd hv);have HB19:=ja hb;clear ho hd hv he hb)
    | (go_at_call 130;refine(HAB.o _).mono ?_;rintro e w1 ⟨rfl,hw1⟩;subst w1))
   have HBa:=ja ((Below.refl wr.heap.size wr).alloc (Nat.le_refl _) (.cells #[] 3))
   have HB2:=ja (HBa.o.trans (HB19.o.mono HBa.o.size))
   have HQo:Hid (∀W,Below w19.heap.size w19 W->jP W w19.heap.size Ao o.length co o):=ja (λW hb=>Rq.below (jm HQO.o HB2.o) hb)
   have HQl:Hid (∀W,Below w19.heap.size w19 W->jP W w19.heap.size Al l.length cl l):=ja (λW hb=>Rq.below (zd.read HO19.o) hb)
   have HBo:=ja (HB.o.trans (HB2.o.mono HB.o.size))
   have HDl:=ja HD19.o.1
   have HVl:=ja HD19.o.2
   clear HQO HB HBa HB2 HB19 HO19 HD19
   go_wp2
   go_loopw [7,9] (λsv jv W=>∃(j:Nat) (S:List Int) (AS:Option Addr) (cS:Nat),sv=.slice AS S.length cS/\jv=.int .i64 j/\j<=l.length/\zD S/\jj S=jj o*jj (l.take j)/\S.length<=o.length+3+2*j/\jP W W.heap.size AS S.length cS S/\Below w19.heap.size w19 W) (λ_ jv _=>l.length-(intOf jv).toNat)
   case atStart=>exact⟨0,[],_,0,rfl,rfl,Nat.zero_le _,zD.nil,by simp[jj],by simp,⟨by simp,by simp,by omega,.inl rfl⟩,Below.refl _ _⟩
   case round=>
    obtain⟨j,S,AS,cS,rfl,rfl,hjl',hdS,hvS,hlS,hqS,hbi⟩:=hrel
    have HDS:=ja hdS
    have HVS:=ja hvS
    have HSi:=ja hqS
    have HBi:=ja hbi
    clear hdS hvS hqS hbi
    have hSb:S.length<=160:=by omega
    by_cases hj:(j:Int)<(l.length:Int)
    ·have hjl:j<l.length:=by omega
     go_upto_region 9 with fail
     refine jk (λW'=>Below wr.drew.heap.size wr.drew W') 12 (λ_=>True) 12 (λ_=>True) (by kernel_rfl) ⟨Below.refl _ _,λ_=>trivial,λ_=>trivial⟩ (λjb=>?_)
     have HBw:=ja (HBi.o.trans ((Below.drew (Below.refl wr.heap.size wr)).mono HBi.o.size))
     have HSd:=ja (jm HSi.o (Below.drew (Below.refl wr.heap.size wr)))
     have HQd:=ja (Rq.more (HQo.o _ HBw.o) HBw.o.size)
     obtain⟨ad,rfl,hadb,h1⟩:=jP.at_ (HQl.o _ HBw.o) hjl
     replace hadb:ad.block<wr.drew.heap.size:=Nat.lt_of_lt_of_le hadb HBw.o.size
     obtain⟨d,hdj⟩:∃d,d=l[j]:=⟨_,rfl⟩
     have hd9:0<=d/\d<=9:=hdj▸HDl.o.at_ hjl
     rw[<-hdj] at h1
     have HDJ:=ja hdj
     clear HBi HSi hdj
     generalize wr.drew=Wd at *
     refine jc 1 rfl (by decide +kernel) (λc a w h=>by first|exact h|(cases h;done)) (by rfl) (v:=?_) ?_ jb (λjd=>?_)
     rotate_left 1
     focus (intro w' hSw;clear hSw;go_simp;try with_reducible rfl)
     clear jb
     rename jf _ _ _ _ _ _ _=>jb
     (try simp only[Act.put,lA,lB,lC])
     refine jc 5 rfl (by decide +kernel) (λc a w h=>by first|exact h|(cases h;done)) (by rfl) (v:=?_) ?_ jb (λjd=>?_)
     rotate_left 1
     focus (intro w' hSw;clear hSw;go_simp;try with_reducible rfl)
     clear jb
     rename jf _ _ _ _ _ _ _=>jb
     (try simp only[Act.put,lA,lB,lC])
     refine jc 6 rfl (by decide +kernel) (λc a w h=>by first|exact h|(cases h;done)) (by rfl) (v:=?_) ?_ jb (λjd=>?_)
     rotate_left 1
     focus (intro w' hSw;clear hSw;go_simp;try with_reducible rfl)
     clear jb
     rename jf _ _ _ _ _ _ _=>jb
     (try simp only[Act.put,lA,lB,lC])
     refine jc 7 rfl (by decide +kernel) (λc a w h=>by first|exact h|(cases h;done)) (by rfl) (v:=?_) ?_ jb (λjd=>?_)
     rotate_left 1
     focus (intro w' hSw;clear hSw;go_simp;try with_reducible rfl)
     clear jb
     rename jf _ _ _ _ _ _ _=>jb
     (try simp only[Act.put,lA,lB,lC])
     refine jc 8 rfl (by decide +kernel) (λc a w h=>by first|exact h|(cases h;done)) (by rfl) (v:=?_) ?_ jb (λjd=>?_)
     rotate_left 1
     focus (intro w' hSw;clear hSw;go_simp;try with_reducible rfl)
     clear jb
     rename jf _ _ _ _ _ _ _=>jb
     (try simp only[Act.put,lA,lB,lC])
     refine jc 9 rfl (by decide +kernel) (λc a w h=>by first|exact h|(cases h;done)) (by rfl) (v:=?_) ?_ jb (λjd=>?_)
     rotate_left 1
     focus (intro w' hSw;obtain⟨hC,hF,hG⟩:=hSw;clear hG;have hF:=hC;have e1:=(hF.cell (p:=ad.add j) (by rw[jH];exact hadb)).trans h1;clear hF;go_simp;try with_reducible rfl)
     clear jb
     rename jf _ _ _ _ _ _ _=>jb
     (try simp only[Act.put,lA,lB,lC])
     refine jb4 0 3 rfl rfl (by decide +kernel) (λK hK=>?_) (λK hK=>?_)
     ·go_simp
      have HBe:=ja ((Below.refl _ Wd).alloc (Nat.le_refl _) (.cells #[] 3))
      refine hK.out _ _ ⟨HBe.o,λ_=>trivial,λ_=>trivial⟩ (λjb=>?_)
      clear hK K
      (try simp only[Act.put,lA,lB,lC])
      refine jb4 2 3 rfl rfl (by decide +kernel) (λK hK=>?_) (λK hK=>?_)
      ·refine zb0 rfl _ _ rfl Wd.heap.size (some ⟨Wd.heap.size,0,none⟩) AS S.length cS Wd.heap.size S rfl rfl (World.ownsRow_lit (base:=Wd.heap.size) (e:=3) (size:=1) Wd #[] 0 (Nat.le_refl _) (by unfold maxLen;omega) rfl) (Rq.below HSd.o ((Below.refl _ Wd).alloc (Nat.le_refl _) (.cells #[] 3))) (((Below.refl _ Wd).alloc (Nat.le_refl _) (.cells #[] 3))).size (by omega) ?_
       intro A2 c2 w2 ho2 hg2 hb2
       have HO2:=ja ho2
       have HB2:=ja ((((Below.refl _ Wd).alloc (Nat.le_refl _) (.cells #[] 3))).trans hb2)
       clear ho2 hg2 hb2
       refine hK.out _ _ ⟨HB2.o,λ_=>trivial,λ_=>trivial⟩ (λjb=>?_)
       clear hK K
       (try simp only[Act.put,lA,lB,lC])
       refine je 3 rfl (by decide +kernel) (λK hK=>?_)
       go_simp
       have HB3:=ja (HB2.o.alloc HB2.o.size (.cells #[.int .i64 0] 3))
       refine hK.out _ _ ⟨HB3.o,λ_=>trivial,λ_=>trivial⟩ (λjb=>?_)
       clear hK K
       (try simp only[Act.put,lA,lB,lC])
       refine je 4 rfl (by decide +kernel) (λK hK=>?_)
       refine jj8 rfl _ _ rfl Wd.heap.size A2 S.length c2 S (some ⟨w2.heap.size,0,none⟩) 1 1 (w2.alloc (.cells #[.int .i64 0] 3)).heap.size [0] rfl rfl (World.ownsRow.alloc HO2.o _) (zd.read (qt Wd.heap.size w2 0 HB2.o.size)) (HB3.o).size (by omega) ?_
       intro A4 c4 w4 ho4 hg4 hb4
       have HO4:=ja ho4
       have HB4:=ja ((HB3.o).trans hb4)
       clear ho4 hg4 hb4
       clear HO2 HB2 HB3
       refine hK.out _ _ ⟨HB4.o,λ_=>trivial,λ_=>trivial⟩ (λjb=>?_)
       clear hK K
       (try simp only[Act.put,lA,lB,lC])
       refine je 10 rfl (by decide +kernel) (λK hK=>?_)
       go_simp
       have HC:=ja (JS Ao o.length co Wd.heap.size o d w4 (Rq.below HQd.o HB4.o) HB4.o.size HDO.o (by omega) (by omega))
       go_wp2_with (first
        | (go_at_call 132;refine HC.o.mono ?_;rintro e w36 ⟨p,A36,c36,rfl,ho36,hd36,hv36,hl36,hb36⟩;have HO36:=ja ho36;have HD36:=ja (And.intro hd36 (And.intro hv36 hl36));have HB36:=ja hb36;clear ho36 hd36 hv36 hl36 hb36))
       have HB5:=ja (HB4.o.trans (HB36.o.mono HB4.o.size))
       refine hK.out _ _ ⟨HB5.o,λ_=>trivial,λ_=>trivial⟩ (λjb=>?_)
       clear hK K HC
       (try simp only[Act.put,lA,lB,lC])
       refine je 11 rfl (by decide +kernel) (λK hK=>?_)
       go_simp
       have hpl:=HD36.o.2.2
       have HC:=ja (Jp A4 (S.length+1) c4 (S++[0]) A36 p.length c36 p w36.heap.size w36 (jm (zd.read HO4.o) HB36.o) (zd.read HO36.o) (Nat.le_refl _) (HDS.o.append (zD.zeros 1)) HD36.o.1 (by omega) (by omega))
       go_wp2_with (first
        | (go_at_call 87;refine HC.o.mono ?_;rintro e w37 ⟨S2,A37,c37,rfl,ho37,hd37,hv37,hl37,hb37⟩;have HO37:=ja ho37;have HD37:=ja (And.intro hd37 (And.intro hv37 hl37));have HB37:=ja hb37;clear ho37 hd37 hv37 hl37 hb37))
       have HB6:=ja (HB5.o.trans (HB37.o.mono HB5.o.size))
       refine hK.out _ _ ⟨HB6.o,λ_=>trivial,λ_=>trivial⟩ (λjb=>?_)
       clear hK K HC
       (try simp only[Act.put,lA,lB,lC])
       refine je 12 rfl (by decide +kernel) (λK hK=>?_)
       go_simp
       refine hK.out _ _ ⟨HB6.o,λ_=>trivial,λ_=>trivial⟩ (λjb=>?_)
       clear hK K
       (try simp only[Act.put,lA,lB,lC])
       refine jl (by decide +kernel) ?_
       clear jb
       have HF:=ja (And.intro HO37.o (And.intro HD37.o HB6.o))
       have HV2:Hid (jj S2=jj o*jj (l.take (j+1))):=ja (zm0 hjl rfl HVS.o (by rw[HD37.o.2.1,HD36.o.2.1,HDJ.o]))
       have hS2:S2.length<=o.length+3+2*(j+1):=by have:=HD37.o.2.2;omega
       clear HO4 HB4 HB5 HB6 HO36 HB36 HB37 HO37 HD36 HD37
       go_wp2
       exact⟨⟨j+1,S2,A37,c37,rfl,by go_num,by omega,HF.o.2.1.1,HV2.o,hS2,zd.read HF.o.1,HBw.o.trans (HF.o.2.2.mono HBw.o.size)⟩,by simp only[intOf];omega⟩
      ·go_simp
       have HB3:=ja (((Below.refl _ Wd).alloc (Nat.le_refl _) (.cells #[] 3)).alloc (by simp) (.cells #[.int .i64 0] 3))
       refine hK.out _ _ ⟨HB3.o,λ_=>trivial,λ_=>trivial⟩ (λjb=>?_)
       clear hK K
       (try simp only[Act.put,lA,lB,lC])
       refine je 2 rfl (by decide +kernel) (λK hK=>?_)
       refine zb0 rfl _ _ rfl Wd.heap.size (some ⟨Wd.heap.size,0,none⟩) AS S.length cS Wd.heap.size S rfl rfl (World.ownsRow.alloc (World.ownsRow_lit (base:=Wd.heap.size) (e:=3) (size:=1) Wd #[] 0 (Nat.le_refl _) (by unfold maxLen;omega) rfl) _) (Rq.below HSd.o HB3.o) (HB3.o).size (by omega) ?_
       intro A2 c2 w2 ho2 hg2 hb2
       have HO2:=ja ho2
       have HB2:=ja ((HB3.o).trans hb2)
       have HZ:Hid (w2.ownsRow Wd.heap.size 3 1 (.slice (some ⟨Wd.heap.size+1,0,none⟩) 1 1) 1 [.int .i64 0]):=ja (zz3 (by have h:=(World.ownsRow_lit (base:=Wd.heap.size) (e:=3) (size:=1) (Wd.alloc (.cells #[] 3)) #[.int .i64 0] 1 (by simp) (by unfold maxLen;omega) rfl);rw[World.size_alloc] at h;exact h) hg2 (λg e1 e2=>by
        have e3:Wd.heap.size+1=g:=Option.some.inj e1
        have e4:Wd.heap.size=g:=Option.some.inj e2
        omega))
       clear ho2 hg2 hb2
       refine hK.out _ _ ⟨HB2.o,λ_=>trivial,λ_=>trivial⟩ (λjb=>?_)
       clear hK K
       (try simp only[Act.put,lA,lB,lC])
       refine je 4 rfl (by decide +kernel) (λK hK=>?_)
       refine jj8 rfl _ _ rfl Wd.heap.size A2 S.length c2 S (some ⟨Wd.heap.size+1,0,none⟩) 1 1 (w2).heap.size [0] rfl rfl HO2.o (zd.read HZ.o) (HB2.o).size (by omega) ?_
       intro A4 c4 w4 ho4 hg4 hb4
       have HO4:=ja ho4
       have HB4:=ja ((HB2.o).trans hb4)
       clear ho4 hg4 hb4
       clear HO2 HB2 HB3 HZ
       refine hK.out _ _ ⟨HB4.o,λ_=>trivial,λ_=>trivial⟩ (λjb=>?_)
       clear hK K
       (try simp only[Act.put,lA,lB,lC])
       refine je 10 rfl (by decide +kernel) (λK hK=>?_)
       go_simp
       have HC:=ja (JS Ao o.length co Wd.heap.size o d w4 (Rq.below HQd.o HB4.o) HB4.o.size HDO.o (by omega) (by omega))
       go_wp2_with (first
        | (go_at_call 132;refine HC.o.mono ?_;rintro e w36 ⟨p,A36,c36,rfl,ho36,hd36,hv36,hl36,hb36⟩;have HO36:=ja ho36;have HD36:=ja (And.intro hd36 (And.intro hv36 hl36));have HB36:=ja hb36;clear ho36 hd36 hv36 hl36 hb36))
       have HB5:=ja (HB4.o.trans (HB36.o.mono HB4.o.size))
       refine hK.out _ _ ⟨HB5.o,λ_=>trivial,λ_=>trivial⟩ (λjb=>?_)
       clear hK K HC
       (try simp only[Act.put,lA,lB,lC])
       refine je 11 rfl (by decide +kernel) (λK hK=>?_)
       go_simp
       have hpl:=HD36.o.2.2
       have HC:=ja (Jp A4 (S.length+1) c4 (S++[0]) A36 p.length c36 p w36.heap.size w36 (jm (zd.read HO4.o) HB36.o) (zd.read HO36.o) (Nat.le_refl _) (HDS.o.append (zD.zeros 1)) HD36.o.1 (by omega) (by omega))
       go_wp2_with (first
        | (go_at_call 87;refine HC.o.mono ?_;rintro e w37 ⟨S2,A37,c37,rfl,ho37,hd37,hv37,hl37,hb37⟩;have HO37:=ja ho37;have HD37:=ja (And.intro hd37 (And.intro hv37 hl37));have HB37:=ja hb37;clear ho37 hd37 hv37 hl37 hb37))
       have HB6:=ja (HB5.o.trans (HB37.o.mono HB5.o.size))
       refine hK.out _ _ ⟨HB6.o,λ_=>trivial,λ_=>trivial⟩ (λjb=>?_)
       clear hK K HC
       (try simp only[Act.put,lA,lB,lC])
       refine je 12 rfl (by decide +kernel) (λK hK=>?_)
       go_simp
       refine hK.out _ _ ⟨HB6.o,λ_=>trivial,λ_=>trivial⟩ (λjb=>?_)
       clear hK K
       (try simp only[Act.put,lA,lB,lC])
       refine jl (by decide +kernel) ?_
       clear jb
       have HF:=ja (And.intro HO37.o (And.intro HD37.o HB6.o))
       have HV2:Hid (jj S2=jj o*jj (l.take (j+1))):=ja (zm0 hjl rfl HVS.o (by rw[HD37.o.2.1,HD36.o.2.1,HDJ.o]))
       have hS2:S2.length<=o.length+3+2*(j+1):=by have:=HD37.o.2.2;omega
       clear HO4 HB4 HB5 HB6 HO36 HB36 HB37 HO37 HD36 HD37
       go_wp2
       exact⟨⟨j+1,S2,A37,c37,rfl,by go_num,by omega,HF.o.2.1.1,HV2.o,hS2,zd.read HF.o.1,HBw.o.trans (HF.o.2.2.mono HBw.o.size)⟩,by simp only[intOf];omega⟩
     ·go_simp
      have HB3:=ja ((Below.refl _ Wd).alloc (Nat.le_refl _) (.cells #[.int .i64 0] 3))
      refine hK.out _ _ ⟨HB3.o,λ_=>trivial,λ_=>trivial⟩ (λjb=>?_)
      clear hK K
      (try simp only[Act.put,lA,lB,lC])
      refine je 0 rfl (by decide +kernel) (λK hK=>?_)
      go_simp
      have HB1:=ja (HB3.o.alloc (by simp) (.cells #[] 3))
      refine hK.out _ _ ⟨HB1.o,λ_=>trivial,λ_=>trivial⟩ (λjb=>?_)
      clear hK K
      (try simp only[Act.put,lA,lB,lC])
      refine je 2 rfl (by decide +kernel) (λK hK=>?_)
      refine zb0 rfl _ _ rfl Wd.heap.size (some ⟨Wd.heap.size+1,0,none⟩) AS S.length cS Wd.heap.size S rfl rfl (by have h:=(World.ownsRow_lit (base:=Wd.heap.size) (e:=3) (size:=1) (Wd.alloc (.cells #[.int .i64 0] 3)) #[] 0 (by simp) (by unfold maxLen;omega) rfl);rw[World.size_alloc] at h;exact h) (Rq.below HSd.o HB1.o) (HB1.o).size (by omega) ?_
      intro A2 c2 w2 ho2 hg2 hb2
      have HO2:=ja ho2
      have HB2:=ja ((HB1.o).trans hb2)
      have HZ:Hid (w2.ownsRow Wd.heap.size 3 1 (.slice (some ⟨Wd.heap.size,0,none⟩) 1 1) 1 [.int .i64 0]):=ja (zz3 (World.ownsRow.alloc (World.ownsRow_lit (base:=Wd.heap.size) (e:=3) (size:=1) Wd #[.int .i64 0] 1 (Nat.le_refl _) (by unfold maxLen;omega) rfl) _) hg2 (λg e1 e2=>by
       have e3:Wd.heap.size=g:=Option.some.inj e1
       have e4:Wd.heap.size+1=g:=Option.some.inj e2
       omega))
      clear ho2 hg2 hb2
      refine hK.out _ _ ⟨HB2.o,λ_=>trivial,λ_=>trivial⟩ (λjb=>?_)
      clear hK K
      (try simp only[Act.put,lA,lB,lC])
      refine je 4 rfl (by decide +kernel) (λK hK=>?_)
      refine jj8 rfl _ _ rfl Wd.heap.size A2 S.length c2 S (some ⟨Wd.heap.size,0,none⟩) 1 1 (w2).heap.size [0] rfl rfl HO2.o (zd.read HZ.o) (HB2.o).size (by omega) ?_
      intro A4 c4 w4 ho4 hg4 hb4
      have HO4:=ja ho4
      have HB4:=ja ((HB2.o).trans hb4)
      clear ho4 hg4 hb4
      clear HO2 HB2 HB3 HB1 HZ
      refine hK.out _ _ ⟨HB4.o,λ_=>trivial,λ_=>trivial⟩ (λjb=>?_)
      clear hK K
      (try simp only[Act.put,lA,lB,lC])
      refine je 10 rfl (by decide +kernel) (λK hK=>?_)
      go_simp
      have HC:=ja (JS Ao o.length co Wd.heap.size o d w4 (Rq.below HQd.o HB4.o) HB4.o.size HDO.o (by omega) (by omega))
      go_wp2_with (first
       | (go_at_call 132;refine HC.o.mono ?_;rintro e w36 ⟨p,A36,c36,rfl,ho36,hd36,hv36,hl36,hb36⟩;have HO36:=ja ho36;have HD36:=ja (And.intro hd36 (And.intro hv36 hl36));have HB36:=ja hb36;clear ho36 hd36 hv36 hl36 hb36))
      have HB5:=ja (HB4.o.trans (HB36.o.mono HB4.o.size))
      refine hK.out _ _ ⟨HB5.o,λ_=>trivial,λ_=>trivial⟩ (λjb=>?_)
      clear hK K HC
      (try simp only[Act.put,lA,lB,lC])
      refine je 11 rfl (by decide +kernel) (λK hK=>?_)
      go_simp
      have hpl:=HD36.o.2.2
      have HC:=ja (Jp A4 (S.length+1) c4 (S++[0]) A36 p.length c36 p w36.heap.size w36 (jm (zd.read HO4.o) HB36.o) (zd.read HO36.o) (Nat.le_refl _) (HDS.o.append (zD.zeros 1)) HD36.o.1 (by omega) (by omega))
      go_wp2_with (first
       | (go_at_call 87;refine HC.o.mono ?_;rintro e w37 ⟨S2,A37,c37,rfl,ho37,hd37,hv37,hl37,hb37⟩;have HO37:=ja ho37;have HD37:=ja (And.intro hd37 (And.intro hv37 hl37));have HB37:=ja hb37;clear ho37 hd37 hv37 hl37 hb37))
      have HB6:=ja (HB5.o.trans (HB37.o.mono HB5.o.size))
      refine hK.out _ _ ⟨HB6.o,λ_=>trivial,λ_=>trivial⟩ (λjb=>?_)
      clear hK K HC
      (try simp only[Act.put,lA,lB,lC])
      refine je 12 rfl (by decide +kernel) (λK hK=>?_)
      go_simp
      refine hK.out _ _ ⟨HB6.o,λ_=>trivial,λ_=>trivial⟩ (λjb=>?_)
      clear hK K
      (try simp only[Act.put,lA,lB,lC])
      refine jl (by decide +kernel) ?_
      clear jb
      have HF:=ja (And.intro HO37.o (And.intro HD37.o HB6.o))
      have HV2:Hid (jj S2=jj o*jj (l.take (j+1))):=ja (zm0 hjl rfl HVS.o (by rw[HD37.o.2.1,HD36.o.2.1,HDJ.o]))
      have hS2:S2.length<=o.length+3+2*(j+1):=by have:=HD37.o.2.2;omega
      clear HO4 HB4 HB5 HB6 HO36 HB36 HB37 HO37 HD36 HD37
      go_wp2
      exact⟨⟨j+1,S2,A37,c37,rfl,by go_num,by omega,HF.o.2.1.1,HV2.o,hS2,zd.read HF.o.1,HBw.o.trans (HF.o.2.2.mono HBw.o.size)⟩,by simp only[intOf];omega⟩
    ·obtain rfl:j=l.length:=by omega
     have HVX:Hid (jj S=n*(ab:Int) ^ (k+1)):=ja (by
      have h:=HVS.o
      rw[List.take_length,HVl.o,HVO.o,Int.mul_assoc,<-Int.pow_succ] at h
      exact h)
     have HBX:=ja (HBo.o.trans (HBi.o.mono HBo.o.size))
     go_wp2
     exact⟨⟨k+1,S,AS,cS,rfl,by go_num,by omega,HDS.o,HVX.o,by omega,HSi.o,HBX.o⟩,by simp only[intOf];omega⟩
  ·obtain rfl:k=2:=by omega
   go_upto_region 12 with(first
    | (go_at_call 131;refine(Zw Ao o.length co wr.heap.size o wr HQO.o HDO.o).mono ?_;rintro e w40 ⟨L,AL,cL,rfl,hL,hdL,hvL,htr,hlL,hb40⟩;have HL:=ja hL;have HDL:=ja hdL;have HVL:=ja hvL;have HB40:=ja hb40;clear hL hdL hvL htr hb40))
   have HVS:Hid (jj L=n*(ab:Int) ^ 2):=ja (by rw[HVL.o,HVO.o])
   have HBA:=ja (HB.o.trans (HB40.o.mono HB.o.size))
   have HQL:Hid (jP w40 w40.heap.size AL L.length cL L):=ja (Rq.more HL.o HB40.o.size)
   clear HVO HQO HB HL HB40 HVL
   have hmod:IntKind.i64.wrap ((L.length:Int) % 2)=(L.length:Int) % 2:=by rw[IntKind.wrap_i64];omega
   by_cases hodd:(L.length:Int) % 2=1
   ·go_wp2_with (first
     | (at_builtin;refine Js rfl _ _ rfl 0 w40.heap.size AL L.length cL L rfl rfl HQL.o (Nat.le_refl _) (by omega) ?_;intro A47 c47 w47 ho hb;have HO47:=ja ho;have HB47:=ja hb;clear ho hb))
    go_ret
    exact⟨0::L,A47,c47,rfl,zd.read HO47.o,zD.cons (by omega) HDL.o,by rw[ZR];exact HVS.o,by simp only[List.length_cons];omega,by simp only[List.length_cons];omega,HBA.o.trans (HB47.o.mono HBA.o.size)⟩
   ·go_wp2
    go_ret
    exact⟨L,AL,cL,rfl,HQL.o,HDL.o,HVS.o,by omega,by omega,HBA.o⟩
