import Derived.Test.YtphcodcdfeohhaaGreatDoorWeakRToCardN
set_option linter.all false
namespace Go.Proofs.YtphcodcdfeohhaaGreatDoor
set_option maxRecDepth 100000
set_option maxHeartbeats 8000000
open Go.RowKit
theorem jch9{a b:Nat}(ha:a<=4)(hb:b<=2){N:Int}(hN:0<=N):(a:Int)*((b:Int)*N)<=8*N:=by
 have h:=Nat.mul_le_mul ha hb
 rw[<-Int.mul_assoc,<-Int.natCast_mul]
 exact Int.mul_le_mul_of_nonneg_right (by omega) hN
theorem zy8{yd:Int}{l:List (Int×Int)}{u:Int×Int}(h:u∈JD yd l):∃t∈l,∃i,u=(t.1*(qj i*yd),t.2):=by
 obtain⟨i,hi,rfl⟩:=List.mem_iff_getElem.1 h
 rw[qk] at hi
 refine⟨l[i],List.getElem_mem hi,i,?_⟩
 simp[JD]
theorem jcd1 (xd:Int) (xA:Option Addr) (xn xc:Nat) (xt:List (Int×Int)) (yd:Int) (yA:Option Addr) (yn yc:Nat) (yt:List (Int×Int)) (B:Nat) (w:World) (hx:ji w B xA xn xc xt) (hy:ji w B yA yn yc yt) (hB:B<=w.heap.size) :
  Calls Tryz.prog 38 #[.agg #[.int .i64 xd,.slice xA xn xc],.agg #[.int .i64 yd,.slice yA yn yc]] w (jV w (jn7 xd xt yd yt)):=by
 have HV:=ja (Qv xd xA xn xc xt yd yA yn yc yt B (((w.alloc (.cells #[.int .i64 xd,.slice xA xn xc] 24)).alloc (.cells #[.int .i64 yd,.slice yA yn yc] 24)).alloc (.cells #[.int .i64 0,.slice none 0 0] 24))
  (Rd.alloc (Rd.alloc (Rd.alloc hx hB _) (by simp;omega) _) (by simp;omega) _) (Rd.alloc (Rd.alloc (Rd.alloc hy hB _) (by simp;omega) _) (by simp;omega) _) (by simp;omega))
 have HX0:=ja ((jh.new w 24 #[.int .i64 xd,.slice xA xn xc]).alloc (.cells #[.int .i64 yd,.slice yA yn yc] 24) |>.alloc (.cells #[.int .i64 0,.slice none 0 0] 24))
 have HY0:=ja ((jh.new (w.alloc (.cells #[.int .i64 xd,.slice xA xn xc] 24)) 24 #[.int .i64 yd,.slice yA yn yc]).alloc (.cells #[.int .i64 0,.slice none 0 0] 24))
 have HR0:=ja (jh.new ((w.alloc (.cells #[.int .i64 xd,.slice xA xn xc] 24)).alloc (.cells #[.int .i64 yd,.slice yA yn yc] 24)) 24 #[.int .i64 0,.slice none 0 0])
 have HB0:=ja ((((Below.refl w.heap.size w).alloc (Nat.le_refl _) (.cells #[.int .i64 xd,.slice xA xn xc] 24)).alloc (by simp) (.cells #[.int .i64 yd,.slice yA yn yc] 24)).alloc (by simp;omega) (.cells #[.int .i64 0,.slice none 0 0] 24))
 have hsz:Hid (w.heap.size+3=(((w.alloc (.cells #[.int .i64 xd,.slice xA xn xc] 24)).alloc (.cells #[.int .i64 yd,.slice yA yn yc] 24)).alloc (.cells #[.int .i64 0,.slice none 0 0] 24)).heap.size):=ja (by simp)
 have hyl:=hy.len
 subst hyl
 simp only[World.size_alloc] at HV HX0 HY0 HR0
 go_enter Tryz.func38,Tryz.ntmps38
 go_wp2_with fail
 refine HV.o.mono ?_
 rintro e w1 ⟨rfl,hb1⟩
 clear HV
 have HXT:=ja (ji.below hx (HB0.o.mono hB))
 have HYT:=ja (ji.below hy (HB0.o.mono hB))
 clear hx hy
 generalize ((w.alloc (.cells #[.int .i64 xd,.slice xA xn xc] 24)).alloc (.cells #[.int .i64 yd,.slice yA yt.length yc] 24)).alloc (.cells #[.int .i64 0,.slice none 0 0] 24)=w0 at *
 have hszb:=hb1.size
 have hsz:=hsz.o
 have hb1':Below w0.heap.size w0 w1:=by rw[<-hsz];exact hb1
 have HX1:=ja (HX0.o.below hb1' (by omega))
 have HY1:=ja (HY0.o.below hb1' (by omega))
 have HR1:=ja (HR0.o.below hb1' (by omega))
 have HXT1:=ja (ji.below HXT.o (hb1'.mono (by omega)))
 have HYT1:=ja (ji.below HYT.o (hb1'.mono (by omega)))
 have HB1:=ja (HB0.o.trans (hb1'.mono (by omega)))
 have hz1:w.heap.size+3<=w1.heap.size:=by omega
 clear hb1 hb1' HX0 HY0 HR0 HXT HYT HB0 hsz hszb
 have hpost:∀(W:World) (a:Act) (A:Option Addr) (n c:Nat) (x y:Int) (l:List (Int×Int)),jn7 xd xt yd yt=(x,l,y)->W.ownsRow w.heap.size 59 2 (.slice A n c) n (jr l)->Below w.heap.size w W->jh W (w.heap.size+1+1) 24 #[.int .i64 x,.slice A n c] ->
   a.tmps.getD 4 undef=.pointer (some ⟨w.heap.size+1+1,0,none⟩)->a.tmps.getD 5 undef=.int .i64 y->a.defers=[] ->
   bodyPost Tryz.prog Tryz.f38 (jV w (jn7 xd xt yd yt)) .ret a W:=by
  intro W a A n c x y l e1 e2 e3 e4 e5 e6 e7
  refine jq (p:=4) (u:=5) (ty:=24) rfl e5 e4 Tryz.underlying24 rfl Tryz.sizeNumber e7 ?_
  rw[e1,e6]
  exact⟨A,n,c,rfl,e2,e3⟩
 have HPOST:=ja hpost
 clear hpost
 obtain⟨hr0,hr1,hrf0,hrf1⟩:=HR1.o.two
 obtain⟨y0,y1,_,_⟩:=HY1.o.two
 have HBS:=ja (λx y=>Below.setCell (Below.setCell HB1.o (p:=⟨w.heap.size+1+1,0,none⟩) (by simp;omega) x) (p:=⟨w.heap.size+1+1,1,none⟩) (by simp;omega) y)
 cases hok:(js xd xt&&js yd yt)
 ·have HP:=ja (show jn7 xd xt yd yt=(0,[],2) by unfold jn7;rw[hok];rfl)
  go_wp2
  exact HPOST.o _ _ none 0 0 0 2 [] HP.o ⟨rfl,.inl ⟨rfl,rfl⟩⟩ (HBS.o _ _) ((HR1.o.set_ 0 _).set_ 1 _) rfl rfl rfl
 by_cases h0:yt.length=0
 ·have HP:=ja (show jn7 xd xt yd yt=(0,[],7) by unfold jn7;rw[hok,if_pos rfl,if_pos h0])
  clear hok
  go_wp2
  exact HPOST.o _ _ none 0 0 0 7 [] HP.o ⟨rfl,.inl ⟨rfl,rfl⟩⟩ (HBS.o _ _) ((HR1.o.set_ 0 _).set_ 1 _) rfl rfl rfl
 have hbe:((yt.length:Int)==0)=false:=beq_eq_false_iff_ne.2 (by omega)
 by_cases h2:2<yt.length
 ·have HP:=ja (show jn7 xd xt yd yt=(0,[],11) by unfold jn7;rw[hok,if_pos rfl,if_neg h0,if_pos h2])
  clear hok
  go_wp2
  exact HPOST.o _ _ none 0 0 0 11 [] HP.o ⟨rfl,.inl ⟨rfl,rfl⟩⟩ (HBS.o _ _) ((HR1.o.set_ 0 _).set_ 1 _) rfl rfl rfl
 have HP:=ja (show jn7 xd xt yd yt=jY (Jq [] xt (JD yd yt)) (xd*zR yt) by unfold jn7;rw[hok,if_pos rfl,if_neg h0,if_neg h2])
 rw[Bool.and_eq_true] at hok
 obtain⟨px1,px2,px3,px4⟩:=jz hok.1
 obtain⟨py1,py2,py3,py4⟩:=jz hok.2
 have hnm:=jcj3 hok.2 h0 h2
 have PY:=ja py4
 have HCL:=ja (zh7 B yA yt.length yc yt w1 HYT1.o (by omega) (by omega))
 have hcx:∀t∈xt,∀u∈JD yd yt,(-1000000000000000000<=jc6 t u/\jc6 t u<=1000000000000000000)/\-9000000000000000000<=t.1*u.1/\t.1*u.1<=9000000000000000000:=λt ht u hu=>by
  obtain⟨v,hv,i,rfl⟩:=zy8 hu
  have h3:=jE (jbj0 i) (b:=yd) (B:=100000) ⟨by omega,by omega⟩
  have h4:=jE (py4 v hv).1.2.2.2 h3
  have h1:=jbh5 (t:=t) (u:=(v.1*(qj i*yd),v.2)) (A:=100000) (C:=100000*(1*100000)) ⟨(px4 t ht).1.1,(px4 t ht).1.2.1⟩ (px4 t ht).1.2.2.2 h4
  omega
 have hrt:∀u∈JD yd yt,1<=u.2/\u.2<=1000:=λu hu=>by
  obtain⟨v,hv,i,rfl⟩:=zy8 hu
  exact⟨(py4 v hv).1.1,(py4 v hv).1.2.1⟩
 have htl:=qk yd yt
 have hlb:=jch9 px3 (show(JD yd yt).length<=2 by omega) (N:=1000000000000000000) (by omega)
 have HPD:=ja (λ(W:World) (A:Option Addr) (c B':Nat) (hxW:ji W B' xA xn xc xt) (hyW:ji W B' A yt.length c (JD yd yt)) (hB':B'<=W.heap.size)=>
  zd0 xA xn xc xt A yt.length c (JD yd yt) B' W hxW hyW hB' px3 (by omega) 1000000000000000000 (by omega) (by omega) (λt ht=>⟨(px4 t ht).1.1,(px4 t ht).1.2.1⟩) hrt hcx)
 have hbd:=jt6 (N:=1000000000000000000) (by omega) (JD yd yt) xt [] 0 zB.nil (λt ht u hu=>(hcx t ht u hu).1)
 have hbd2:zB (Jq [] xt (JD yd yt)) 8000000000000000000:=hbd.mono (by omega)
 have hln:=za2 (JD yd yt) xt []
 have hln2:(Jq [] xt (JD yd yt)).length<=16:=by
  have:=Nat.mul_le_mul px3 (show(JD yd yt).length<=4 by omega)
  simp at hln;omega
 have hdd:=jE (a:=xd) (A:=100000) (by omega) hnm.2
 have hd0:xd*zR yt≠0:=λh=>by rcases Int.mul_eq_zero.1 h with h|h;omega;exact hnm.1 h
 have HOV:=ja (λW b h=>QO b (Jq [] xt (JD yd yt)) (xd*zR yt) 8000000000000000000 W h (by omega) hd0 (by omega) hbd2 (by omega))
 have hwr:IntKind.i64.wrap (xd*zR yt)=xd*zR yt:=by rw[IntKind.wrap_i64];omega
 have HWR:=ja hwr
 have HNM:=ja hnm
 clear hbd hbd2 hln hln2 hcx px4 py4 hok hrt htl hlb hdd hd0 hnm hwr
 go_wp2_with (first
  | (go_at_call 81;refine HCL.o.mono ?_;rintro e w2 ⟨A2,c2,rfl,ho2,hb2⟩
     have HO2:=ja ho2
     have HX2:=ja (HX1.o.below hb2 (by omega));have HY2:=ja (HY1.o.below hb2 (by omega));have HR2:=ja (HR1.o.below hb2 (by omega))
     have HXT2:=ja (ji.below HXT1.o (hb2.mono (by omega)));have HYT2:=ja (ji.below HYT1.o (hb2.mono (by omega)))
     have HB2:=ja (HB1.o.trans (hb2.mono (by omega)))
     obtain⟨u0,u1,_,_⟩:=HY2.o.two
     have hz2:=hb2.size
     clear ho2 hb2))
 obtain⟨g,hg,hg1,hg2⟩:=zm4 HO2.o (by omega)
 subst hg
 have HO3:Hid (w2.ownsRow w1.heap.size 59 2 (.slice (some ⟨g,0,none⟩) yt.length c2) yt.length (jr (Qe yd yt 0))):=ja (by
  have h:=HO2.o
  rwa [show Qe yd yt 0=yt by simp[Qe,JD]])
 clear HO2 HX1 HY1 HR1 HXT1 HYT1 HB1 HCL HBS hr0 hr1 hrf0 hrf1 y0 y1
 go_loopw [7,8,36] (λnm sg i W=>∃k:Nat,k<=yt.length/\i=.int .i64 k/\nm=.int .i64 (zR (yt.take k))/\sg=.int .i64 (qj k)/\(-((k:Int)*10000000000000)<=zR (yt.take k)/\zR (yt.take k)<=(k:Int)*10000000000000) /\
  W.ownsRow w1.heap.size 59 2 (.slice (some ⟨g,0,none⟩) yt.length c2) yt.length (jr (Qe yd yt k))/\jh W w.heap.size 24 #[.int .i64 xd,.slice xA xn xc]/\jh W (w.heap.size+1) 24 #[.int .i64 yd,.slice yA yt.length yc] /\
  jh W (w.heap.size+1+1) 24 #[.int .i64 0,.slice none 0 0]/\ji W B xA xn xc xt/\ji W B yA yt.length yc yt/\Below w.heap.size w W) (λ_ _ i _=>yt.length-(intOf i).toNat)
 case atStart=>exact⟨0,by omega,rfl,rfl,rfl,by simp[zR],HO3.o,HX2.o,HY2.o,HR2.o,HXT2.o,HYT2.o,HB2.o⟩
 case round=>
  obtain⟨k,hk,rfl,rfl,rfl,hnb,ho,hbx,hby,hbr,htx,hty,hbl⟩:=hrel
  by_cases hlt:k<yt.length
  ·obtain⟨ad,had,hc0,hc1⟩:=hty.at_ hlt
   subst had
   have hpy:=(PY.o yt[k] (List.getElem_mem hlt)).1
   have hat:=jcg4 yd yt k hlt
   have htkl:=jbt4 yd yt k hk
   have hkl:k<(Qe yd yt k).length:=by omega
   rw[List.getElem?_eq_getElem hkl] at hat
   have hat:=Option.some.inj hat
   have hset:=ja (jbt5 yd yt k hlt)
   have hns:=ja (show zR (yt.take (k+1))=zR (yt.take k)+qj k*yt[k].1*yt[k].1*yt[k].2 by
    rw[jw yt k hlt,jbb6];simp[Nat.min_eq_left (Nat.le_of_lt hlt)])
   obtain⟨wa,hwa⟩:∃wa,wa=wr.alloc (.cells #[.int .i64 yt[k].1,.int .i64 yt[k].2] 59):=⟨_,rfl⟩
   have hza:wa.heap.size=wr.heap.size+1:=by rw[hwa];simp
   have hab:Below wr.heap.size wr wa:=by rw[hwa];exact(Below.refl _ _).alloc (Nat.le_refl _) _
   have HUa:Hid (jh wa wr.heap.size 59 #[.int .i64 yt[k].1,.int .i64 yt[k].2]):=ja (by rw[hwa];exact jh.new _ _ _)
   have hoa:=jG ho hab
   have d0:=(zl hoa hkl).1
   have df0:=(zl hoa hkl).2.2.1
   rw[hat] at d0
   have hst:=World.ownsRow.stored (World.ownsRow.drew hoa) (k*2) (.int .i64 (yt[k].1*(qj k*yd)))
   rw[jd6 _ k _ hkl,hat,hset.o] at hst
   have hsk:=jbs1 k
   have hsb:=jbj0 k
   have hgk:g<wr.heap.size:=(ho.lt g rfl).2
   generalize yt[k]=t at *
   obtain⟨co,ro⟩:=t
   dsimp only at hpy hst hc0 hc1 hns HUa hwa d0
   have hc:-100000<=co/\co<=100000:=hpy.2.2.2
   have hro1:1<=ro:=hpy.1
   have hro2:ro<=1000:=hpy.2.1
   have m1:=jE hsb (b:=yd) (B:=100000) ⟨by omega,by omega⟩
   have m2:=jE hc m1
   have m3:=jE hsb hc
   have m4:=jE m3 hc
   have m5:=jE m4 (b:=ro) (B:=1000) ⟨by omega,by omega⟩
   have hnb2:-(((k:Int)+1)*10000000000000)<=zR (yt.take k)+qj k*co*co*ro/\zR (yt.take k)+qj k*co*co*ro<=((k:Int)+1)*10000000000000:=by omega
   have HST:=ja hst;have HHX:=ja (hbx.below hab hbx.lt);have HHY:=ja (hby.below hab hby.lt);have HHR:=ja (hbr.below hab hbr.lt)
   have hlx:=hbx.lt;have hly:=hby.lt;have hlr:=hbr.lt
   have HTX:=ja (Rd.below htx (hab.mono (by omega)));have HTY:=ja (Rd.below hty (hab.mono (by omega)));have HBL:=ja (hbl.trans (hab.mono (by omega)))
   have hks:IntKind.i64.wrap (qj k*yd)=qj k*yd:=by rw[IntKind.wrap_i64];omega
   have hks2:IntKind.i64.wrap (co*(qj k*yd))=co*(qj k*yd):=by rw[IntKind.wrap_i64];omega
   have hnk:-90000000000000<=zR (yt.take k)/\zR (yt.take k)<=90000000000000:=by omega
   have hnk2:-90000000000000<=zR (yt.take k)+qj k*co*co*ro/\zR (yt.take k)+qj k*co*co*ro<=90000000000000:=by omega
   have hg3:w.heap.size+1<g:=by omega
   obtain⟨U,hU⟩:∃U,U=wr.heap.size:=⟨_,rfl⟩
   rw[<-hU] at HUa hgk
   generalize zR (yt.take k)=nm at *
   generalize qj k=sg at *
   clear hst
   clear ho hoa hbx hby hbr htx hty hbl hab hpy hset hza HO3 HX2 HY2 HR2 HXT2 HYT2 HB2 u0 u1
   obtain⟨y0,_,_,_⟩:=HHY.o.two
   go_wp2
   rw[<-hwa,<-hU]
   clear hwa hU
   have HS1:=ja (show(wa.drew).cell? ⟨w.heap.size+1,0,none⟩=some (.int .i64 yd)from y0)
   have HS2:=ja (show(wa.drew.setCell ⟨g,k*2,none⟩ (.int .i64 (co*(sg*yd)))).cell? ⟨w.heap.size+1,0,none⟩=some (.int .i64 yd)from(World.cell?_setCell_other _ _ _ _ (by simp)).trans y0)
   have HS3:=ja (show((wa.setCell ⟨g,k*2,none⟩ (.int .i64 (co*(sg*yd)))).drew).cell? ⟨w.heap.size+1,0,none⟩=some (.int .i64 yd)from(World.cell?_setCell_other wa _ _ _ (by simp)).trans y0)
   have HS4:=ja (show(wa.drew).cell? ⟨g,k*2,none⟩=some (.int .i64 co)from d0)
   refine jk (λw'=>w'.cell? ⟨w.heap.size+1,0,none⟩=some (.int .i64 yd)) 12 (λw'=>w'.cell? ⟨g,k*2,none⟩=some (.int .i64 co)) 12 (λw'=>w'.cell? ⟨g,k*2,none⟩=some (.int .i64 co)) (by kernel_rfl) ⟨HS1.o,λ_=>HS4.o,λ_=>HS4.o⟩ (λjb=>?_)
   revert jb
   refine jtk 0 ?_ ?_ ?_
   rotate_left 1
   focus(intro w' hSw;obtain⟨hC,hF,hG⟩:=hSw;clear hF;clear hG;go_simp;try with_reducible rfl)
   intro jb
   simp only[Act.put,lA,lB,lC]
   revert jb
   refine jtk 1 ?_ ?_ ?_
   rotate_left 1
   focus(intro w' hSw;obtain⟨hC,hF,hG⟩:=hSw;clear hF;clear hG;go_simp;try with_reducible rfl)
   intro jb
   simp only[Act.put,lA,lB,lC]
   revert jb
   refine jtk 2 ?_ ?_ ?_
   rotate_left 1
   focus(intro w' hSw;obtain⟨hC,hF,hG⟩:=hSw;clear hF;clear hG;go_simp;try with_reducible rfl)
   intro jb
   simp only[Act.put,lA,lB,lC]
   revert jb
   refine jtk 3 ?_ ?_ ?_
   rotate_left 1
   focus(intro w' hSw;obtain⟨hC,hF,hG⟩:=hSw;clear hF;clear hG;go_simp;try with_reducible rfl)
   intro jb
   simp only[Act.put,lA,lB,lC]
   revert jb
   refine jtk 4 ?_ ?_ ?_
   rotate_left 1
   focus(intro w' hSw;obtain⟨hC,hF,hG⟩:=hSw;have hF:=hF (by decide +kernel);clear hG;go_simp;try with_reducible rfl)
   intro jb
   simp only[Act.put,lA,lB,lC]
   revert jb
   refine jtk 5 ?_ ?_ ?_
   rotate_left 1
   focus(intro w' hSw;obtain⟨hC,hF,hG⟩:=hSw;clear hF;clear hG;go_simp;try with_reducible rfl)
   intro jb
   simp only[Act.put,lA,lB,lC]
   revert jb
   refine jtk 6 ?_ ?_ ?_
   rotate_left 1
   focus(intro w' hSw;obtain⟨hC,hF,hG⟩:=hSw;clear hF;clear hG;go_simp;try with_reducible rfl)
   intro jb
   simp only[Act.put,lA,lB,lC]
   revert jb
   refine jtk 7 ?_ ?_ ?_
   rotate_left 1
   focus(intro w' hSw;obtain⟨hC,hF,hG⟩:=hSw;clear hF;clear hG;go_simp;try with_reducible rfl)
   intro jb
   simp only[Act.put,lA,lB,lC]
   revert jb
   refine jtk 8 ?_ ?_ ?_
   rotate_left 1
   focus(intro w' hSw;obtain⟨hC,hF,hG⟩:=hSw;clear hF;clear hG;go_simp;try with_reducible rfl)
   intro jb
   simp only[Act.put,lA,lB,lC]
   revert jb
   refine jtk 9 ?_ ?_ ?_
   rotate_left 1
   focus(intro w' hSw;obtain⟨hC,hF,hG⟩:=hSw;clear hF;clear hG;go_simp;try with_reducible rfl)
   intro jb
   simp only[Act.put,lA,lB,lC]
   revert jb
   refine jtk 10 ?_ ?_ ?_
   rotate_left 1
   focus(intro w' hSw;obtain⟨hC,hF,hG⟩:=hSw;clear hF;clear hG;go_simp;try with_reducible rfl)
   intro jb
   simp only[Act.put,lA,lB,lC]
   revert jb
   refine jtk 11 ?_ ?_ ?_
   rotate_left 1
   focus(intro w' hSw;obtain⟨hC,hF,hG⟩:=hSw;clear hF;clear hG;go_simp;try with_reducible rfl)
   intro jb
   simp only[Act.put,lA,lB,lC]
   refine je 12 rfl (by decide +kernel) (λK hK=>?_)
   go_simp
   refine hK.out _ _ ⟨by first|with_reducible exact HS2.o|with_reducible exact HS3.o,λh=>absurd h (by decide +kernel),λh=>absurd h (by decide +kernel)⟩ (λjb=>?_)
   clear hK K
   refine jl (by decide +kernel) ?_
   clear jb
   all_goals
    have HOz:Hid (((wa.setCell ⟨g,k*2,none⟩ (.int .i64 (co*(sg*yd)))).drew).ownsRow w1.heap.size 59 2 (.slice (some ⟨g,0,none⟩) yt.length c2) yt.length (jr (Qe yd yt (k+1)))):=ja HST.o.1
    have HUz:=ja ((HUa.o.far (p:=⟨g,k*2,none⟩) (by simp;omega) (.int .i64 (co*(sg*yd)))).drew)
    have HXz:=ja ((HHX.o.far (p:=⟨g,k*2,none⟩) (by simp;omega) (.int .i64 (co*(sg*yd)))).drew)
    have HYz:=ja ((HHY.o.far (p:=⟨g,k*2,none⟩) (by simp;omega) (.int .i64 (co*(sg*yd)))).drew)
    have HRz:=ja ((HHR.o.far (p:=⟨g,k*2,none⟩) (by simp;omega) (.int .i64 (co*(sg*yd)))).drew)
    have HTXz:=ja (Rd.drew (Rd.setCell HTX.o (p:=⟨g,k*2,none⟩) (by simp;omega) (.int .i64 (co*(sg*yd)))))
    have HTYz:=ja (Rd.drew (Rd.setCell HTY.o (p:=⟨g,k*2,none⟩) (by simp;omega) (.int .i64 (co*(sg*yd)))))
    have HBz:=ja (Below.drew (Below.setCell HBL.o (p:=⟨g,k*2,none⟩) (by simp;omega) (.int .i64 (co*(sg*yd)))))
    clear HST HUa HHX HHY HHR HTX HTY HBL HS1 HS2 HS3 d0 df0 y0
    generalize (wa.setCell ⟨g,k*2,none⟩ (.int .i64 (co*(sg*yd)))).drew=wz at *
    obtain⟨v0,v1,_,_⟩:=HUz.o.two
    go_wp2
    refine⟨⟨k+1,by omega,by go_num,?_,?_,?_,HOz.o,HXz.o,HYz.o,HRz.o,HTXz.o,HTYz.o,HBz.o⟩,by simp[intOf];omega⟩
    ·rw[hns.o]
    ·rw[hsk]
    ·rw[hns.o]
     have:((k+1:Nat):Int)=(k:Int)+1:=by omega
     rw[this];exact hnb2
  ·obtain rfl:k=yt.length:=by omega
   rw[List.take_length] at *
   rw[show Qe yd yt yt.length=JD yd yt by simp[Qe]] at ho
   have HO:=ja ho;have HX4:=ja hbx;have HY4:=ja hby;have HR4:=ja hbr;have HTX4:=ja htx;have HB4:=ja hbl
   have hzr:w1.heap.size<=wr.heap.size:=by have:=(ho.lt g rfl);omega
   have hRow:Hid (ji wr.drew wr.heap.size (some ⟨g,0,none⟩) yt.length c2 (JD yd yt)):=ja (Rd.of_own ho)
   have HPD4:=ja (HPD.o wr.drew (some ⟨g,0,none⟩) c2 wr.heap.size (Rd.more (Rd.drew htx) (by omega)) hRow.o (Nat.le_refl _))
   obtain⟨x0,x1,_,_⟩:=hbx.two
   have HLX:=ja hbx.lt;have HLR:=ja hbr.lt
   have hlx:=hbx.lt;have hlr:=hbr.lt
   have hwr:=HWR.o
   clear ho hbx hby hbr htx hty hbl HPD hRow hnb HX2 HY2 HR2 HXT2 HYT2 HB2 HO3 u0 u1
   generalize Jq [] xt (JD yd yt)=kv1 at *
   generalize hsv:jY kv1 (xd*zR yt)=sv at *
   obtain⟨s1,s2,s3⟩:=sv
   have HSV:=ja hsv;clear hsv
   generalize zR yt=nm at *
   have HS1:=ja (show(wr.drew).cell? ⟨w.heap.size,0,none⟩=some (.int .i64 xd)/\(wr.drew).cell? ⟨w.heap.size,1,none⟩=some (.slice xA xn xc)from⟨x0,x1⟩)
   have HSET:=ja (λ(W:World) (i:Nat) (u:Value) (h:W.cell? ⟨w.heap.size,0,none⟩=some (.int .i64 xd)/\W.cell? ⟨w.heap.size,1,none⟩=some (.slice xA xn xc))=>
    (show(W.setCell ⟨w.heap.size+1+1,i,none⟩ u).cell? ⟨w.heap.size,0,none⟩=some (.int .i64 xd)/\(W.setCell ⟨w.heap.size+1+1,i,none⟩ u).cell? ⟨w.heap.size,1,none⟩=some (.slice xA xn xc)from
     ⟨(World.cell?_setCell_other W _ _ u (by simp)).trans h.1,(World.cell?_setCell_other W _ _ u (by simp)).trans h.2⟩))
   go_wp2
   go_region_held3 (λw'=>w'.cell? ⟨w.heap.size,0,none⟩=some (.int .i64 xd)/\w'.cell? ⟨w.heap.size,1,none⟩=some (.slice xA xn xc)) (first|with_reducible exact HS5.o|with_reducible exact HS4.o|with_reducible exact HS1.o|with_reducible (exact HSET.o _ _ _ HS5.o)|with_reducible (exact HSET.o _ _ _ (HSET.o _ _ _ HS5.o))) (first
    | (go_at_call 79;refine HPD4.o.mono ?_;rintro e w4 ⟨rfl,hm4,hb4⟩
       have HX5:=ja ((HX4.o.drew).below hb4 (by show w.heap.size<wr.heap.size;omega))
       have HR5:=ja ((HR4.o.drew).below hb4 (by show w.heap.size+1+1<wr.heap.size;omega))
       have HB5:=ja ((HB4.o.drew).trans (hb4.mono (by show w.heap.size<=wr.heap.size;omega)))
       have HS4:=ja (show w4.cell? ⟨w.heap.size,0,none⟩=some (.int .i64 xd)/\w4.cell? ⟨w.heap.size,1,none⟩=some (.slice xA xn xc)from⟨HX5.o.cell 0,HX5.o.cell 1⟩)
       have HOV4:=ja (HOV.o w4 wr.heap.size hm4)
       have hz4:wr.heap.size<=w4.heap.size:=hb4.size
       clear hm4 hb4)
    | (go_at_call 64;refine HOV4.o.mono ?_;rintro e w5 ⟨A4,n4,c4,rfl,ht5,hg5⟩
       have HX6:=HX5.o.grown hg5 (by simp;omega)
       have HR6:=ja (HR5.o.grown hg5 (by simp;omega))
       have HB6:=ja (HB5.o.grown hg5 (by omega) (by simp;omega))
       have HS5:=ja (show w5.cell? ⟨w.heap.size,0,none⟩=some (.int .i64 xd)/\w5.cell? ⟨w.heap.size,1,none⟩=some (.slice xA xn xc)from⟨HX6.cell 0,HX6.cell 1⟩)
       obtain⟨q1,q2,q3,q4⟩:=HR6.o.two
       have HT5:=ja ht5
       have hz5:=hg5.size
       obtain⟨c51,c52⟩:=HS5.o
       clear HX6 ht5 hg5))
   all_goals
    go_wp2
    exact HPOST.o _ _ A4 n4 c4 s1 s3 s2 HP.o (jO (ownsRow_setCell_below (ownsRow_setCell_below HT5.o (by show w.heap.size+1+1<_;omega) _) (by show w.heap.size+1+1<_;omega) _) (by omega))
     (Below.setCell (Below.setCell HB6.o (by show _<=w.heap.size+1+1;omega) _) (by show _<=w.heap.size+1+1;omega) _) ((HR6.o.set_ 0 _).set_ 1 _) rfl rfl rfl
