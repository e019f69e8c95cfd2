import Derived.Test.YtphcodcdfeohhaaGreatDoorWeakRToCardN
import Derived.Test.YtphcodcdfeohhaaGreatDoorBaseToStage
set_option linter.unusedVariables false
set_option linter.unusedSimpArgs false
namespace Go.Proofs.YtphcodcdfeohhaaGreatDoor
set_option maxRecDepth 100000
set_option maxHeartbeats 8000000
open Go.RowKit
theorem jdm8{a b:Nat}(ha:a<=4)(hb:b<=2){N:Int}(hN:0<=N):(a:Int)*((b:Int)*N)<=8*N:=by
 have h:=Nat.mul_le_mul ha hb
 rw[<-Int.mul_assoc,<-Int.natCast_mul]
 exact Int.mul_le_mul_of_nonneg_right (by omega) hN
theorem jbf3{yd:Int}{l:List (Int×Int)}{u:Int×Int}(h:u∈jn8 yd l):∃t∈l,∃i,u=(t.1*(jy8 i*yd),t.2):=by
 obtain⟨i,hi,rfl⟩:=List.mem_iff_getElem.1 h
 rw[jy9] at hi
 refine⟨l[i],List.getElem_mem hi,i,?_⟩
 simp[jn8]
theorem jdg8 (xd:Int) (xA:Option Addr) (xn xc:Nat) (xt:List (Int×Int)) (yd:Int) (yA:Option Addr) (yn yc:Nat) (yt:List (Int×Int)) (B:Nat) (w:World) (hx:ja3 w B xA xn xc xt) (hy:ja3 w B yA yn yc yt) (hB:B<=w.heap.size) :
  Calls Tryz.prog 38 #[.agg #[.int .i64 xd,.slice xA xn xc],.agg #[.int .i64 yd,.slice yA yn yc]] w (jg0 w (quoS xd xt yd yt)):=by
 have HV:=ja0 (zg5 xd xA xn xc xt yd yA yn yc yt B (((w.alloc (.cells #[.int .i64 xd,.slice xA xn xc] 24)).alloc (.cells #[.int .i64 yd,.slice yA yn yc] 24)).alloc (.cells #[.int .i64 0,.slice none 0 0] 24))
  (Rd.alloc (Rd.alloc (Rd.alloc hx hB _) (by simp;omega) _) (by simp;omega) _) (Rd.alloc (Rd.alloc (Rd.alloc hy hB _) (by simp;omega) _) (by simp;omega) _) (by simp;omega))
 have HX0:=ja0 ((Blk.new w 24 #[.int .i64 xd,.slice xA xn xc]).alloc (.cells #[.int .i64 yd,.slice yA yn yc] 24) |>.alloc (.cells #[.int .i64 0,.slice none 0 0] 24))
 have HY0:=ja0 ((Blk.new (w.alloc (.cells #[.int .i64 xd,.slice xA xn xc] 24)) 24 #[.int .i64 yd,.slice yA yn yc]).alloc (.cells #[.int .i64 0,.slice none 0 0] 24))
 have HR0:=ja0 (Blk.new ((w.alloc (.cells #[.int .i64 xd,.slice xA xn xc] 24)).alloc (.cells #[.int .i64 yd,.slice yA yn yc] 24)) 24 #[.int .i64 0,.slice none 0 0])
 have HB0:=ja0 ((((Below.refl w.heap.size w).alloc (Nat.le_refl _) (.cells #[.int .i64 xd,.slice xA xn xc] 24)).alloc (by simp) (.cells #[.int .i64 yd,.slice yA yn yc] 24)).alloc (by simp;omega) (.cells #[.int .i64 0,.slice none 0 0] 24))
 have hsz:Hid (w.heap.size+3=(((w.alloc (.cells #[.int .i64 xd,.slice xA xn xc] 24)).alloc (.cells #[.int .i64 yd,.slice yA yn yc] 24)).alloc (.cells #[.int .i64 0,.slice none 0 0] 24)).heap.size):=ja0 (by simp)
 have hyl:=hy.len
 subst hyl
 simp only[World.size_alloc] at HV HX0 HY0 HR0
 go_enter Tryz.func38,Tryz.ntmps38
 go_wp2_with fail
 refine HV.out.mono ?_
 rintro e w1 ⟨rfl,hb1⟩
 clear HV
 have HXT:=ja0 (ja3.below hx (HB0.out.mono hB))
 have HYT:=ja0 (ja3.below hy (HB0.out.mono hB))
 clear hx hy
 generalize ((w.alloc (.cells #[.int .i64 xd,.slice xA xn xc] 24)).alloc (.cells #[.int .i64 yd,.slice yA yt.length yc] 24)).alloc (.cells #[.int .i64 0,.slice none 0 0] 24)=w0 at *
 have hszb:=hb1.size
 have hsz:=hsz.out
 have hb1':Below w0.heap.size w0 w1:=by rw[<-hsz];exact hb1
 have HX1:=ja0 (HX0.out.below hb1' (by omega))
 have HY1:=ja0 (HY0.out.below hb1' (by omega))
 have HR1:=ja0 (HR0.out.below hb1' (by omega))
 have HXT1:=ja0 (ja3.below HXT.out (hb1'.mono (by omega)))
 have HYT1:=ja0 (ja3.below HYT.out (hb1'.mono (by omega)))
 have HB1:=ja0 (HB0.out.trans (hb1'.mono (by omega)))
 have hz1:w.heap.size+3<=w1.heap.size:=by omega
 clear hb1 hb1' HX0 HY0 HR0 HXT HYT HB0 hsz hszb
 have hpost:∀(W:World) (a:Act) (A:Option Addr) (n c:Nat) (x y:Int) (l:List (Int×Int)),quoS xd xt yd yt=(x,l,y)->W.ownsRow w.heap.size 59 2 (.slice A n c) n (ja9 l)->Below w.heap.size w W->Blk W (w.heap.size+1+1) 24 #[.int .i64 x,.slice A n c] ->
   a.tmps.getD 4 undef=.pointer (some ⟨w.heap.size+1+1,0,none⟩)->a.tmps.getD 5 undef=.int .i64 y->a.defers=[] ->
   bodyPost Tryz.prog Tryz.f38 (jg0 w (quoS xd xt yd yt)) .ret a W:=by
  intro W a A n c x y l e1 e2 e3 e4 e5 e6 e7
  refine jb8 (p:=4) (u:=5) (ty:=24) rfl e5 e4 Tryz.underlying24 rfl Tryz.sizeNumber e7 ?_
  rw[e1,e6]
  exact⟨A,n,c,rfl,e2,e3⟩
 have HPOST:=ja0 hpost
 clear hpost
 obtain⟨hr0,hr1,hrf0,hrf1⟩:=HR1.out.two
 obtain⟨y0,y1,_,_⟩:=HY1.out.two
 have HBS:=ja0 (fun x y=>Below.setCell (Below.setCell HB1.out (p:=⟨w.heap.size+1+1,0,none⟩) (by simp;omega) x) (p:=⟨w.heap.size+1+1,1,none⟩) (by simp;omega) y)
 cases hok:(ja7 xd xt&&ja7 yd yt)
 ·have HP:=ja0 (show quoS xd xt yd yt=(0,[],2) by unfold quoS;rw[hok];rfl)
  go_wp2
  exact HPOST.out _ _ none 0 0 0 2 [] HP.out ⟨rfl,.inl ⟨rfl,rfl⟩⟩ (HBS.out _ _) ((HR1.out.set_ 0 _).set_ 1 _) rfl rfl rfl
 by_cases h0:yt.length=0
 ·have HP:=ja0 (show quoS xd xt yd yt=(0,[],7) by unfold quoS;rw[hok,if_pos rfl,if_pos h0])
  clear hok
  go_wp2
  exact HPOST.out _ _ none 0 0 0 7 [] HP.out ⟨rfl,.inl ⟨rfl,rfl⟩⟩ (HBS.out _ _) ((HR1.out.set_ 0 _).set_ 1 _) rfl rfl rfl
 have hbe:((yt.length:Int)==0)=false:=beq_eq_false_iff_ne.2 (by omega)
 by_cases h2:2<yt.length
 ·have HP:=ja0 (show quoS xd xt yd yt=(0,[],11) by unfold quoS;rw[hok,if_pos rfl,if_neg h0,if_pos h2])
  clear hok
  go_wp2
  exact HPOST.out _ _ none 0 0 0 11 [] HP.out ⟨rfl,.inl ⟨rfl,rfl⟩⟩ (HBS.out _ _) ((HR1.out.set_ 0 _).set_ 1 _) rfl rfl rfl
 have HP:=ja0 (show quoS xd xt yd yt=jf4 (jm7 [] xt (jn8 yd yt)) (xd*jj5 yt) by unfold quoS;rw[hok,if_pos rfl,if_neg h0,if_neg h2])
 rw[Bool.and_eq_true] at hok
 obtain⟨px1,px2,px3,px4⟩:=jb1 hok.1
 obtain⟨py1,py2,py3,py4⟩:=jb1 hok.2
 have hnm:=jdn1 hok.2 h0 h2
 have PY:=ja0 py4
 have HCL:=ja0 (jas9 B yA yt.length yc yt w1 HYT1.out (by omega) (by omega))
 have hcx:∀t∈xt,∀u∈jn8 yd yt,(-1000000000000000000<=zn7 t u/\zn7 t u<=1000000000000000000)/\-9000000000000000000<=t.1*u.1/\t.1*u.1<=9000000000000000000:=fun t ht u hu=>by
  obtain⟨v,hv,i,rfl⟩:=jbf3 hu
  have h3:=jc0 (jcm9 i) (b:=yd) (B:=100000) ⟨by omega,by omega⟩
  have h4:=jc0 (py4 v hv).1.2.2.2 h3
  have h1:=jcm3 (t:=t) (u:=(v.1*(jy8 i*yd),v.2)) (A:=100000) (C:=100000*(1*100000)) ⟨(px4 t ht).1.1,(px4 t ht).1.2.1⟩ (px4 t ht).1.2.2.2 h4
  omega
 have hrt:∀u∈jn8 yd yt,1<=u.2/\u.2<=1000:=fun u hu=>by
  obtain⟨v,hv,i,rfl⟩:=jbf3 hu
  exact⟨(py4 v hv).1.1,(py4 v hv).1.2.1⟩
 have htl:=jy9 yd yt
 have hlb:=jdm8 px3 (show(jn8 yd yt).length<=2 by omega) (N:=1000000000000000000) (by omega)
 have HPD:=ja0 (fun(W:World) (A:Option Addr) (c B':Nat) (hxW:ja3 W B' xA xn xc xt) (hyW:ja3 W B' A yt.length c (jn8 yd yt)) (hB':B'<=W.heap.size)=>
  jan6 xA xn xc xt A yt.length c (jn8 yd yt) B' W hxW hyW hB' px3 (by omega) 1000000000000000000 (by omega) (by omega) (fun t ht=>⟨(px4 t ht).1.1,(px4 t ht).1.2.1⟩) hrt hcx)
 have hbd:=jaf2 (N:=1000000000000000000) (by omega) (jn8 yd yt) xt [] 0 jg2.nil (fun t ht u hu=>(hcx t ht u hu).1)
 have hbd2:jg2 (jm7 [] xt (jn8 yd yt)) 8000000000000000000:=hbd.mono (by omega)
 have hln:=jaj8 (jn8 yd yt) xt []
 have hln2:(jm7 [] xt (jn8 yd yt)).length<=16:=by
  have:=Nat.mul_le_mul px3 (show(jn8 yd yt).length<=4 by omega)
  simp at hln;omega
 have hdd:=jc0 (a:=xd) (A:=100000) (by omega) hnm.2
 have hd0:xd*jj5 yt≠0:=fun h=>by rcases Int.mul_eq_zero.1 h with h|h;omega;exact hnm.1 h
 have HOV:=ja0 (fun W b h=>zc5 b (jm7 [] xt (jn8 yd yt)) (xd*jj5 yt) 8000000000000000000 W h (by omega) hd0 (by omega) hbd2 (by omega))
 have hwr:IntKind.i64.wrap (xd*jj5 yt)=xd*jj5 yt:=by rw[IntKind.wrap_i64];omega
 have HWR:=ja0 hwr
 have HNM:=ja0 hnm
 clear hbd hbd2 hln hln2 hcx px4 py4 hok hrt htl hlb hdd hd0 hnm hwr
 go_wp2_with (first
  | (go_at_call 81;refine HCL.out.mono ?_;rintro e w2 ⟨A2,c2,rfl,ho2,hb2⟩
     have HO2:=ja0 ho2
     have HX2:=ja0 (HX1.out.below hb2 (by omega));have HY2:=ja0 (HY1.out.below hb2 (by omega));have HR2:=ja0 (HR1.out.below hb2 (by omega))
     have HXT2:=ja0 (ja3.below HXT1.out (hb2.mono (by omega)));have HYT2:=ja0 (ja3.below HYT1.out (hb2.mono (by omega)))
     have HB2:=ja0 (HB1.out.trans (hb2.mono (by omega)))
     obtain⟨u0,u1,_,_⟩:=HY2.out.two
     have hz2:=hb2.size
     clear ho2 hb2))
 obtain⟨g,hg,hg1,hg2⟩:=jay6 HO2.out (by omega)
 subst hg
 have HO3:Hid (w2.ownsRow w1.heap.size 59 2 (.slice (some ⟨g,0,none⟩) yt.length c2) yt.length (ja9 (zd4 yd yt 0))):=ja0 (by
  have h:=HO2.out
  rwa [show zd4 yd yt 0=yt by simp[zd4,jn8]])
 clear HO2 HX1 HY1 HR1 HXT1 HYT1 HB1 HCL HBS hr0 hr1 hrf0 hrf1 y0 y1
 go_loopw [7,8,36] (fun nm sg i W=>∃k:Nat,k<=yt.length/\i=.int .i64 k/\nm=.int .i64 (jj5 (yt.take k))/\sg=.int .i64 (jy8 k)/\(-((k:Int)*10000000000000)<=jj5 (yt.take k)/\jj5 (yt.take k)<=(k:Int)*10000000000000) /\
  W.ownsRow w1.heap.size 59 2 (.slice (some ⟨g,0,none⟩) yt.length c2) yt.length (ja9 (zd4 yd yt k))/\Blk W w.heap.size 24 #[.int .i64 xd,.slice xA xn xc]/\Blk W (w.heap.size+1) 24 #[.int .i64 yd,.slice yA yt.length yc] /\
  Blk W (w.heap.size+1+1) 24 #[.int .i64 0,.slice none 0 0]/\ja3 W B xA xn xc xt/\ja3 W B yA yt.length yc yt/\Below w.heap.size w W) (fun _ _ i _=>yt.length-(intOf i).toNat)
 case atStart=>exact⟨0,by omega,rfl,rfl,rfl,by simp[jj5],HO3.out,HX2.out,HY2.out,HR2.out,HXT2.out,HYT2.out,HB2.out⟩
 case round=>
  obtain⟨k,hk,rfl,rfl,rfl,hnb,ho,hbx,hby,hbr,htx,hty,hbl⟩:=hrel
  by_cases hlt:k<yt.length
  ·obtain⟨ad,had,hc0,hc1⟩:=hty.at_ hlt
   subst had
   have hpy:=(PY.out yt[k] (List.getElem_mem hlt)).1
   have hat:=jdj8 yd yt k hlt
   have htkl:=jcz7 yd yt k hk
   have hkl:k<(zd4 yd yt k).length:=by omega
   rw[List.getElem?_eq_getElem hkl] at hat
   have hat:=Option.some.inj hat
   have hset:=ja0 (jcz8 yd yt k hlt)
   have hns:=ja0 (show jj5 (yt.take (k+1))=jj5 (yt.take k)+jy8 k*yt[k].1*yt[k].1*yt[k].2 by
    rw[jc7 yt k hlt,jcf4];simp[Nat.min_eq_left (Nat.le_of_lt hlt)])
   obtain⟨wa,hwa⟩:∃wa,wa=wr.alloc (.cells #[.int .i64 yt[k].1,.int .i64 yt[k].2] 59):=⟨_,rfl⟩
   have hza:wa.heap.size=wr.heap.size+1:=by rw[hwa];simp
   have hab:Below wr.heap.size wr wa:=by rw[hwa];exact(Below.refl _ _).alloc (Nat.le_refl _) _
   have HUa:Hid (Blk wa wr.heap.size 59 #[.int .i64 yt[k].1,.int .i64 yt[k].2]):=ja0 (by rw[hwa];exact Blk.new _ _ _)
   have hoa:=jf7 ho hab
   have d0:=(zc6 hoa hkl).1
   have df0:=(zc6 hoa hkl).2.2.1
   rw[hat] at d0
   have hst:=World.ownsRow.stored (World.ownsRow.drew hoa) (k*2) (.int .i64 (yt[k].1*(jy8 k*yd)))
   rw[jbp8 _ k _ hkl,hat,hset.out] at hst
   have hsk:=jcy7 k
   have hsb:=jcm9 k
   have hgk:g<wr.heap.size:=(ho.lt g rfl).2
   generalize yt[k]=t at *
   obtain⟨co,ro⟩:=t
   dsimp only at hpy hst hc0 hc1 hns HUa hwa d0
   have hc:-100000<=co/\co<=100000:=hpy.2.2.2
   have hro1:1<=ro:=hpy.1
   have hro2:ro<=1000:=hpy.2.1
   have m1:=jc0 hsb (b:=yd) (B:=100000) ⟨by omega,by omega⟩
   have m2:=jc0 hc m1
   have m3:=jc0 hsb hc
   have m4:=jc0 m3 hc
   have m5:=jc0 m4 (b:=ro) (B:=1000) ⟨by omega,by omega⟩
   have hnb2:-(((k:Int)+1)*10000000000000)<=jj5 (yt.take k)+jy8 k*co*co*ro/\jj5 (yt.take k)+jy8 k*co*co*ro<=((k:Int)+1)*10000000000000:=by omega
   have HST:=ja0 hst;have HHX:=ja0 (hbx.below hab hbx.lt);have HHY:=ja0 (hby.below hab hby.lt);have HHR:=ja0 (hbr.below hab hbr.lt)
   have hlx:=hbx.lt;have hly:=hby.lt;have hlr:=hbr.lt
   have HTX:=ja0 (Rd.below htx (hab.mono (by omega)));have HTY:=ja0 (Rd.below hty (hab.mono (by omega)));have HBL:=ja0 (hbl.trans (hab.mono (by omega)))
   have hks:IntKind.i64.wrap (jy8 k*yd)=jy8 k*yd:=by rw[IntKind.wrap_i64];omega
   have hks2:IntKind.i64.wrap (co*(jy8 k*yd))=co*(jy8 k*yd):=by rw[IntKind.wrap_i64];omega
   have hnk:-90000000000000<=jj5 (yt.take k)/\jj5 (yt.take k)<=90000000000000:=by omega
   have hnk2:-90000000000000<=jj5 (yt.take k)+jy8 k*co*co*ro/\jj5 (yt.take k)+jy8 k*co*co*ro<=90000000000000:=by omega
   have hg3:w.heap.size+1<g:=by omega
   obtain⟨U,hU⟩:∃U,U=wr.heap.size:=⟨_,rfl⟩
   rw[<-hU] at HUa hgk
   generalize jj5 (yt.take k)=nm at *
   generalize jy8 k=sg at *
   clear hst
   clear ho hoa hbx hby hbr htx hty hbl hab hpy hset hza HO3 HX2 HY2 HR2 HXT2 HYT2 HB2 u0 u1
   obtain⟨y0,_,_,_⟩:=HHY.out.two
   go_wp2
   rw[<-hwa,<-hU]
   clear hwa hU
   have HS1:=ja0 (show(wa.drew).cell? ⟨w.heap.size+1,0,none⟩=some (.int .i64 yd)from y0)
   have HS2:=ja0 (show(wa.drew.setCell ⟨g,k*2,none⟩ (.int .i64 (co*(sg*yd)))).cell? ⟨w.heap.size+1,0,none⟩=some (.int .i64 yd)from(World.cell?_setCell_other _ _ _ _ (by simp)).trans y0)
   have HS3:=ja0 (show((wa.setCell ⟨g,k*2,none⟩ (.int .i64 (co*(sg*yd)))).drew).cell? ⟨w.heap.size+1,0,none⟩=some (.int .i64 yd)from(World.cell?_setCell_other wa _ _ _ (by simp)).trans y0)
   have HS4:=ja0 (show(wa.drew).cell? ⟨g,k*2,none⟩=some (.int .i64 co)from d0)
   refine jj7 (fun w'=>w'.cell? ⟨w.heap.size+1,0,none⟩=some (.int .i64 yd)) 12 (fun w'=>w'.cell? ⟨g,k*2,none⟩=some (.int .i64 co)) 12 (fun w'=>w'.cell? ⟨g,k*2,none⟩=some (.int .i64 co)) (by kernel_rfl) ⟨HS1.out,fun _=>HS4.out,fun _=>HS4.out⟩ (fun ja1=>?_)
   refine ja2 0 rfl (by decide +kernel) (fun _ _ _ h=>h) (by rfl) (v:=?_) ?_ ja1 (fun ja4=>?_)
   rotate_left 1
   focus (intro w' hSw;obtain⟨hC,hF,hG⟩:=hSw;clear hF;clear hG;go_simp;try with_reducible rfl)
   clear ja1
   rename ja8 _ _ _ _ _ _ _=>ja1
   simp only[Act.put,lA,lB,lC]
   refine ja2 1 rfl (by decide +kernel) (fun _ _ _ h=>h) (by rfl) (v:=?_) ?_ ja1 (fun ja4=>?_)
   rotate_left 1
   focus (intro w' hSw;obtain⟨hC,hF,hG⟩:=hSw;clear hF;clear hG;go_simp;try with_reducible rfl)
   clear ja1
   rename ja8 _ _ _ _ _ _ _=>ja1
   simp only[Act.put,lA,lB,lC]
   refine ja2 2 rfl (by decide +kernel) (fun _ _ _ h=>h) (by rfl) (v:=?_) ?_ ja1 (fun ja4=>?_)
   rotate_left 1
   focus (intro w' hSw;obtain⟨hC,hF,hG⟩:=hSw;clear hF;clear hG;go_simp;try with_reducible rfl)
   clear ja1
   rename ja8 _ _ _ _ _ _ _=>ja1
   simp only[Act.put,lA,lB,lC]
   refine ja2 3 rfl (by decide +kernel) (fun _ _ _ h=>h) (by rfl) (v:=?_) ?_ ja1 (fun ja4=>?_)
   rotate_left 1
   focus (intro w' hSw;obtain⟨hC,hF,hG⟩:=hSw;clear hF;clear hG;go_simp;try with_reducible rfl)
   clear ja1
   rename ja8 _ _ _ _ _ _ _=>ja1
   simp only[Act.put,lA,lB,lC]
   refine ja2 4 rfl (by decide +kernel) (fun _ _ _ h=>h) (by rfl) (v:=?_) ?_ ja1 (fun ja4=>?_)
   rotate_left 1
   focus (intro w' hSw;obtain⟨hC,hF,hG⟩:=hSw;have hF:=hF (by decide +kernel);clear hG;go_simp;try with_reducible rfl)
   clear ja1
   rename ja8 _ _ _ _ _ _ _=>ja1
   simp only[Act.put,lA,lB,lC]
   refine ja2 5 rfl (by decide +kernel) (fun _ _ _ h=>h) (by rfl) (v:=?_) ?_ ja1 (fun ja4=>?_)
   rotate_left 1
   focus (intro w' hSw;obtain⟨hC,hF,hG⟩:=hSw;clear hF;clear hG;go_simp;try with_reducible rfl)
   clear ja1
   rename ja8 _ _ _ _ _ _ _=>ja1
   simp only[Act.put,lA,lB,lC]
   refine ja2 6 rfl (by decide +kernel) (fun _ _ _ h=>h) (by rfl) (v:=?_) ?_ ja1 (fun ja4=>?_)
   rotate_left 1
   focus (intro w' hSw;obtain⟨hC,hF,hG⟩:=hSw;clear hF;clear hG;go_simp;try with_reducible rfl)
   clear ja1
   rename ja8 _ _ _ _ _ _ _=>ja1
   simp only[Act.put,lA,lB,lC]
   refine ja2 7 rfl (by decide +kernel) (fun _ _ _ h=>h) (by rfl) (v:=?_) ?_ ja1 (fun ja4=>?_)
   rotate_left 1
   focus (intro w' hSw;obtain⟨hC,hF,hG⟩:=hSw;clear hF;clear hG;go_simp;try with_reducible rfl)
   clear ja1
   rename ja8 _ _ _ _ _ _ _=>ja1
   simp only[Act.put,lA,lB,lC]
   refine ja2 8 rfl (by decide +kernel) (fun _ _ _ h=>h) (by rfl) (v:=?_) ?_ ja1 (fun ja4=>?_)
   rotate_left 1
   focus (intro w' hSw;obtain⟨hC,hF,hG⟩:=hSw;clear hF;clear hG;go_simp;try with_reducible rfl)
   clear ja1
   rename ja8 _ _ _ _ _ _ _=>ja1
   simp only[Act.put,lA,lB,lC]
   refine ja2 9 rfl (by decide +kernel) (fun _ _ _ h=>h) (by rfl) (v:=?_) ?_ ja1 (fun ja4=>?_)
   rotate_left 1
   focus (intro w' hSw;obtain⟨hC,hF,hG⟩:=hSw;clear hF;clear hG;go_simp;try with_reducible rfl)
   clear ja1
   rename ja8 _ _ _ _ _ _ _=>ja1
   simp only[Act.put,lA,lB,lC]
   refine ja2 10 rfl (by decide +kernel) (fun _ _ _ h=>h) (by rfl) (v:=?_) ?_ ja1 (fun ja4=>?_)
   rotate_left 1
   focus (intro w' hSw;obtain⟨hC,hF,hG⟩:=hSw;clear hF;clear hG;go_simp;try with_reducible rfl)
   clear ja1
   rename ja8 _ _ _ _ _ _ _=>ja1
   simp only[Act.put,lA,lB,lC]
   refine ja2 11 rfl (by decide +kernel) (fun _ _ _ h=>h) (by rfl) (v:=?_) ?_ ja1 (fun ja4=>?_)
   rotate_left 1
   focus (intro w' hSw;obtain⟨hC,hF,hG⟩:=hSw;clear hF;clear hG;go_simp;try with_reducible rfl)
   clear ja1
   rename ja8 _ _ _ _ _ _ _=>ja1
   simp only[Act.put,lA,lB,lC]
   refine jb5 12 rfl (by decide +kernel) (fun K hK=>?_)
   go_simp
   refine hK.out _ _ ⟨by first|with_reducible exact HS2.out|with_reducible exact HS3.out,fun h=>absurd h (by decide +kernel),fun h=>absurd h (by decide +kernel)⟩ (fun ja1=>?_)
   clear hK K
   refine jf8 (by decide +kernel) ?_
   clear ja1
   all_goals
    have HOz:Hid (((wa.setCell ⟨g,k*2,none⟩ (.int .i64 (co*(sg*yd)))).drew).ownsRow w1.heap.size 59 2 (.slice (some ⟨g,0,none⟩) yt.length c2) yt.length (ja9 (zd4 yd yt (k+1)))):=ja0 HST.out.1
    have HUz:=ja0 ((HUa.out.far (p:=⟨g,k*2,none⟩) (by simp;omega) (.int .i64 (co*(sg*yd)))).drew)
    have HXz:=ja0 ((HHX.out.far (p:=⟨g,k*2,none⟩) (by simp;omega) (.int .i64 (co*(sg*yd)))).drew)
    have HYz:=ja0 ((HHY.out.far (p:=⟨g,k*2,none⟩) (by simp;omega) (.int .i64 (co*(sg*yd)))).drew)
    have HRz:=ja0 ((HHR.out.far (p:=⟨g,k*2,none⟩) (by simp;omega) (.int .i64 (co*(sg*yd)))).drew)
    have HTXz:=ja0 (Rd.drew (Rd.setCell HTX.out (p:=⟨g,k*2,none⟩) (by simp;omega) (.int .i64 (co*(sg*yd)))))
    have HTYz:=ja0 (Rd.drew (Rd.setCell HTY.out (p:=⟨g,k*2,none⟩) (by simp;omega) (.int .i64 (co*(sg*yd)))))
    have HBz:=ja0 (Below.drew (Below.setCell HBL.out (p:=⟨g,k*2,none⟩) (by simp;omega) (.int .i64 (co*(sg*yd)))))
    clear HST HUa HHX HHY HHR HTX HTY HBL HS1 HS2 HS3 d0 df0 y0
    generalize (wa.setCell ⟨g,k*2,none⟩ (.int .i64 (co*(sg*yd)))).drew=wz at *
    obtain⟨v0,v1,_,_⟩:=HUz.out.two
    go_wp2
    refine⟨⟨k+1,by omega,by go_num,?_,?_,?_,HOz.out,HXz.out,HYz.out,HRz.out,HTXz.out,HTYz.out,HBz.out⟩,by simp[intOf];omega⟩
    ·rw[hns.out]
    ·rw[hsk]
    ·rw[hns.out]
     have:((k+1:Nat):Int)=(k:Int)+1:=by omega
     rw[this];exact hnb2
  ·obtain rfl:k=yt.length:=by omega
   rw[List.take_length] at *
   rw[show zd4 yd yt yt.length=jn8 yd yt by simp[zd4]] at ho
   have HO:=ja0 ho;have HX4:=ja0 hbx;have HY4:=ja0 hby;have HR4:=ja0 hbr;have HTX4:=ja0 htx;have HB4:=ja0 hbl
   have hzr:w1.heap.size<=wr.heap.size:=by have:=(ho.lt g rfl);omega
   have hRow:Hid (ja3 wr.drew wr.heap.size (some ⟨g,0,none⟩) yt.length c2 (jn8 yd yt)):=ja0 (Rd.of_own ho)
   have HPD4:=ja0 (HPD.out wr.drew (some ⟨g,0,none⟩) c2 wr.heap.size (Rd.more (Rd.drew htx) (by omega)) hRow.out (Nat.le_refl _))
   obtain⟨x0,x1,_,_⟩:=hbx.two
   have HLX:=ja0 hbx.lt;have HLR:=ja0 hbr.lt
   have hlx:=hbx.lt;have hlr:=hbr.lt
   have hwr:=HWR.out
   clear ho hbx hby hbr htx hty hbl HPD hRow hnb HX2 HY2 HR2 HXT2 HYT2 HB2 HO3 u0 u1
   generalize jm7 [] xt (jn8 yd yt)=kv1 at *
   generalize hsv:jf4 kv1 (xd*jj5 yt)=sv at *
   obtain⟨s1,s2,s3⟩:=sv
   have HSV:=ja0 hsv;clear hsv
   generalize jj5 yt=nm at *
   have HS1:=ja0 (show(wr.drew).cell? ⟨w.heap.size,0,none⟩=some (.int .i64 xd)/\(wr.drew).cell? ⟨w.heap.size,1,none⟩=some (.slice xA xn xc)from⟨x0,x1⟩)
   have HSET:=ja0 (fun(W:World) (i:Nat) (u:Value) (h:W.cell? ⟨w.heap.size,0,none⟩=some (.int .i64 xd)/\W.cell? ⟨w.heap.size,1,none⟩=some (.slice xA xn xc))=>
    (show(W.setCell ⟨w.heap.size+1+1,i,none⟩ u).cell? ⟨w.heap.size,0,none⟩=some (.int .i64 xd)/\(W.setCell ⟨w.heap.size+1+1,i,none⟩ u).cell? ⟨w.heap.size,1,none⟩=some (.slice xA xn xc)from
     ⟨(World.cell?_setCell_other W _ _ u (by simp)).trans h.1,(World.cell?_setCell_other W _ _ u (by simp)).trans h.2⟩))
   go_wp2
   go_region_held3 (fun w'=>w'.cell? ⟨w.heap.size,0,none⟩=some (.int .i64 xd)/\w'.cell? ⟨w.heap.size,1,none⟩=some (.slice xA xn xc)) (first|with_reducible exact HS5.out|with_reducible exact HS4.out|with_reducible exact HS1.out|with_reducible (exact HSET.out _ _ _ HS5.out)|with_reducible (exact HSET.out _ _ _ (HSET.out _ _ _ HS5.out))) (first
    | (go_at_call 79;refine HPD4.out.mono ?_;rintro e w4 ⟨rfl,hm4,hb4⟩
       have HX5:=ja0 ((HX4.out.drew).below hb4 (by show w.heap.size<wr.heap.size;omega))
       have HR5:=ja0 ((HR4.out.drew).below hb4 (by show w.heap.size+1+1<wr.heap.size;omega))
       have HB5:=ja0 ((HB4.out.drew).trans (hb4.mono (by show w.heap.size<=wr.heap.size;omega)))
       have HS4:=ja0 (show w4.cell? ⟨w.heap.size,0,none⟩=some (.int .i64 xd)/\w4.cell? ⟨w.heap.size,1,none⟩=some (.slice xA xn xc)from⟨HX5.out.cell 0,HX5.out.cell 1⟩)
       have HOV4:=ja0 (HOV.out w4 wr.heap.size hm4)
       have hz4:wr.heap.size<=w4.heap.size:=hb4.size
       clear hm4 hb4)
    | (go_at_call 64;refine HOV4.out.mono ?_;rintro e w5 ⟨A4,n4,c4,rfl,ht5,hg5⟩
       have HX6:=HX5.out.grown hg5 (by simp;omega)
       have HR6:=ja0 (HR5.out.grown hg5 (by simp;omega))
       have HB6:=ja0 (HB5.out.grown hg5 (by omega) (by simp;omega))
       have HS5:=ja0 (show w5.cell? ⟨w.heap.size,0,none⟩=some (.int .i64 xd)/\w5.cell? ⟨w.heap.size,1,none⟩=some (.slice xA xn xc)from⟨HX6.cell 0,HX6.cell 1⟩)
       obtain⟨q1,q2,q3,q4⟩:=HR6.out.two
       have HT5:=ja0 ht5
       have hz5:=hg5.size
       obtain⟨c51,c52⟩:=HS5.out
       clear HX6 ht5 hg5))
   all_goals
    go_wp2
    exact HPOST.out _ _ A4 n4 c4 s1 s3 s2 HP.out (jc5 (ownsRow_setCell_below (ownsRow_setCell_below HT5.out (by show w.heap.size+1+1<_;omega) _) (by show w.heap.size+1+1<_;omega) _) (by omega))
     (Below.setCell (Below.setCell HB6.out (by show _<=w.heap.size+1+1;omega) _) (by show _<=w.heap.size+1+1;omega) _) ((HR6.out.set_ 0 _).set_ 1 _) rfl rfl rfl
end Go.Proofs.YtphcodcdfeohhaaGreatDoor
