import Derived.Test.YtphcodcdfeohhaaGreatDoorProdAToProdM
import Derived.Test.YtphcodcdfeohhaaGreatDoorSurdKToSurdL
import Derived.Test.YtphcodcdfeohhaaGreatDoorWithAToCordX
set_option linter.unusedVariables false
set_option linter.unusedSimpArgs false
namespace Go.Proofs.YtphcodcdfeohhaaGreatDoor
set_option maxRecDepth 100000
set_option maxHeartbeats 8000000
open Go.RowKit
theorem jcm5 (xd:Int) (xA:Option Addr) (xn xc:Nat) (xt:List (Int×Int)) (yd:Int) (yA:Option Addr) (yn yc:Nat) (yt:List (Int×Int)) (B:Nat) (w:World) (hx:ja6 w B xA xn xc xt) (hy:ja6 w B yA yn yc yt) (hB:B<=w.heap.size) :
  Calls Tryz.prog 36 #[.agg #[.int .i64 xd,.slice xA xn xc],.agg #[.int .i64 yd,.slice yA yn yc]] w (jd0 w (zd1 xd xt yd yt)):=by
 have HV:=ja0 (zn6 xd xA xn xc xt yd yA yn yc yt B (((w.alloc (.cells #[.int .i64 xd,.slice xA xn xc] 24)).alloc (.cells #[.int .i64 yd,.slice yA yn yc] 24)).alloc (.cells #[.int .i64 0,.slice none 0 0] 24))
  (Rd.alloc (Rd.alloc (Rd.alloc hx hB _) (by simp;omega) _) (by simp;omega) _) (Rd.alloc (Rd.alloc (Rd.alloc hy hB _) (by simp;omega) _) (by simp;omega) _) (by simp;omega))
 have HX0:=ja0 ((Blk.new w 24 #[.int .i64 xd,.slice xA xn xc]).alloc (.cells #[.int .i64 yd,.slice yA yn yc] 24) |>.alloc (.cells #[.int .i64 0,.slice none 0 0] 24))
 have HY0:=ja0 ((Blk.new (w.alloc (.cells #[.int .i64 xd,.slice xA xn xc] 24)) 24 #[.int .i64 yd,.slice yA yn yc]).alloc (.cells #[.int .i64 0,.slice none 0 0] 24))
 have HR0:=ja0 (Blk.new ((w.alloc (.cells #[.int .i64 xd,.slice xA xn xc] 24)).alloc (.cells #[.int .i64 yd,.slice yA yn yc] 24)) 24 #[.int .i64 0,.slice none 0 0])
 have HB0:=ja0 ((((Below.refl w.heap.size w).alloc (Nat.le_refl _) (.cells #[.int .i64 xd,.slice xA xn xc] 24)).alloc (by simp) (.cells #[.int .i64 yd,.slice yA yn yc] 24)).alloc (by simp;omega) (.cells #[.int .i64 0,.slice none 0 0] 24))
 have hsz:Hid (w.heap.size+3=(((w.alloc (.cells #[.int .i64 xd,.slice xA xn xc] 24)).alloc (.cells #[.int .i64 yd,.slice yA yn yc] 24)).alloc (.cells #[.int .i64 0,.slice none 0 0] 24)).heap.size):=ja0 (by simp)
 simp only[World.size_alloc] at HV HX0 HY0 HR0
 go_enter Tryz.func36,Tryz.ntmps36
 go_wp2_with fail
 refine HV.out.mono ?_
 rintro e w1 ⟨rfl,hb1⟩
 clear HV
 have HXT:=ja0 (ja6.below hx (HB0.out.mono hB))
 have HYT:=ja0 (ja6.below hy (HB0.out.mono hB))
 clear hx hy
 generalize ((w.alloc (.cells #[.int .i64 xd,.slice xA xn xc] 24)).alloc (.cells #[.int .i64 yd,.slice yA yn yc] 24)).alloc (.cells #[.int .i64 0,.slice none 0 0] 24)=w0 at *
 have hszb:=hb1.size
 have hsz:=hsz.out
 have hb1':Below w0.heap.size w0 w1:=by rw[<-hsz];exact hb1
 have HX1:=ja0 (HX0.out.below hb1' (by omega))
 have HY1:=ja0 (HY0.out.below hb1' (by omega))
 have HR1:=ja0 (HR0.out.below hb1' (by omega))
 have HXT1:=ja0 (ja6.below HXT.out (hb1'.mono (by omega)))
 have HYT1:=ja0 (ja6.below HYT.out (hb1'.mono (by omega)))
 have HB1:=ja0 (HB0.out.trans (hb1'.mono (by omega)))
 have hz1:w.heap.size+3<=w1.heap.size:=by omega
 clear hb1 hb1' HX0 HY0 HR0 HXT HYT HB0 hsz hszb
 have hpost:∀(W:World) (a:Act) (A:Option Addr) (n c:Nat) (x y:Int) (l:List (Int×Int)),zd1 xd xt yd yt=(x,l,y)->W.ownsRow w.heap.size 59 2 (.slice A n c) n (jb4 l)->Below w.heap.size w W->Blk W (w.heap.size+1+1) 24 #[.int .i64 x,.slice A n c] ->
   a.tmps.getD 4 undef=.pointer (some ⟨w.heap.size+1+1,0,none⟩)->a.tmps.getD 5 undef=.int .i64 y->a.defers=[] ->
   bodyPost Tryz.prog Tryz.f36 (jd0 w (zd1 xd xt yd yt)) .ret a W:=by
  intro W a A n c x y l e1 e2 e3 e4 e5 e6 e7
  refine ja8 (p:=4) (u:=5) (ty:=24) rfl e5 e4 Tryz.underlying24 rfl Tryz.sizeNumber e7 ?_
  rw[e1,e6]
  exact⟨A,n,c,rfl,e2,e3⟩
 obtain⟨hr0,hr1,hrf0,hrf1⟩:=HR1.out.two
 cases hok:(jb3 xd xt&&jb3 yd yt)
 ·have HP:=ja0 (show zd1 xd xt yd yt=(0,[],2) by unfold zd1;rw[hok];rfl)
  go_wp2
  exact hpost _ _ none 0 0 0 2 [] HP.out ⟨rfl,.inl ⟨rfl,rfl⟩⟩ (Below.setCell (Below.setCell HB1.out (by simp;omega) _) (by simp;omega) _) ((HR1.out.set_ 0 _).set_ 1 _) rfl rfl rfl
 ·have HP:=ja0 (show zd1 xd xt yd yt=jf3 (jj3 [] xt yt) (xd*yd) by unfold zd1;rw[hok];rfl)
  rw[Bool.and_eq_true] at hok
  obtain⟨px1,px2,px3,px4⟩:=jb2 hok.1
  obtain⟨py1,py2,py3,py4⟩:=jb2 hok.2
  have hcx:∀t∈xt,∀u∈yt,(-10000000000000<=zg7 t u/\zg7 t u<=10000000000000)/\-9000000000000000000<=t.1*u.1/\t.1*u.1<=9000000000000000000:=fun t ht u hu=>by
   have h1:=jdf7 (t:=t) (u:=u) (A:=100000) (C:=100000) ⟨(px4 t ht).1.1,(px4 t ht).1.2.1⟩ (px4 t ht).1.2.2.2 (py4 u hu).1.2.2.2
   omega
  have HPD:=ja0 (jaz8 xA xn xc xt yA yn yc yt B w1.drew HXT1.out HYT1.out (by show B<=w1.heap.size;omega) px3 py3 10000000000000 (by omega) (by have:=jfa1 (Nat.mul_le_mul px3 py3) (N:=10000000000000) (by omega);omega) (fun t ht=>⟨(px4 t ht).1.1,(px4 t ht).1.2.1⟩) (fun t ht=>⟨(py4 t ht).1.1,(py4 t ht).1.2.1⟩) hcx)
  have hdd:=jc2 (a:=xd) (b:=yd) (A:=100000) (B:=100000) (by omega) (by omega)
  have hd1:1<=xd*yd:=by
   have:(1:Int)*1<=xd*yd:=Int.mul_le_mul (by omega) (by omega) (by omega) (by omega)
   omega
  have hbd:=jap4 (N:=10000000000000) (by omega) yt xt [] 0 jh9.nil (fun t ht u hu=>(hcx t ht u hu).1)
  have hbd2:jh9 (jj3 [] xt yt) 160000000000000:=hbd.mono (by have:=jfa1 (Nat.mul_le_mul px3 py3) (N:=10000000000000) (by omega);omega)
  have hln:=jat6 yt xt []
  have hln2:(jj3 [] xt yt).length<=16:=by have:=Nat.mul_le_mul px3 py3;simp at hln;omega
  have HOV:=ja0 (fun W h=>zr2 w1.heap.size (jj3 [] xt yt) (xd*yd) 160000000000000 W h (by omega) (by omega) (by omega) hbd2 (by omega))
  have hwr:IntKind.i64.wrap (xd*yd)=xd*yd:=by rw[IntKind.wrap_i64];omega
  obtain⟨x0,x1,_,_⟩:=HX1.out.two
  obtain⟨y0,y1,_,_⟩:=HY1.out.two
  clear hbd hbd2 hln hln2 hcx px4 py4 hok
  generalize jj3 [] xt yt=kv1 at *
  generalize hsv:jf3 kv1 (xd*yd)=sv at *
  obtain⟨s1,s2,s3⟩:=sv
  have HSV:=ja0 hsv;clear hsv
  have HS1:=ja0 (show(w1.drew).cell? ⟨w.heap.size,0,none⟩=some (.int .i64 xd)/\(w1.drew).cell? ⟨w.heap.size,1,none⟩=some (.slice xA xn xc)/\(w1.drew).cell? ⟨w.heap.size+1,0,none⟩=some (.int .i64 yd)/\(w1.drew).cell? ⟨w.heap.size+1,1,none⟩=some (.slice yA yn yc)from⟨x0,x1,y0,y1⟩)
  have HSET:=ja0 (fun(W:World) (i:Nat) (u:Value) (h:W.cell? ⟨w.heap.size,0,none⟩=some (.int .i64 xd)/\W.cell? ⟨w.heap.size,1,none⟩=some (.slice xA xn xc)/\W.cell? ⟨w.heap.size+1,0,none⟩=some (.int .i64 yd)/\W.cell? ⟨w.heap.size+1,1,none⟩=some (.slice yA yn yc))=>
   (show(W.setCell ⟨w.heap.size+1+1,i,none⟩ u).cell? ⟨w.heap.size,0,none⟩=some (.int .i64 xd)/\(W.setCell ⟨w.heap.size+1+1,i,none⟩ u).cell? ⟨w.heap.size,1,none⟩=some (.slice xA xn xc)/\(W.setCell ⟨w.heap.size+1+1,i,none⟩ u).cell? ⟨w.heap.size+1,0,none⟩=some (.int .i64 yd)/\(W.setCell ⟨w.heap.size+1+1,i,none⟩ u).cell? ⟨w.heap.size+1,1,none⟩=some (.slice yA yn yc)from
    ⟨(World.cell?_setCell_other W _ _ u (by simp)).trans h.1,(World.cell?_setCell_other W _ _ u (by simp)).trans h.2.1,(World.cell?_setCell_other W _ _ u (by simp)).trans h.2.2.1,(World.cell?_setCell_other W _ _ u (by simp)).trans h.2.2.2⟩))
  have HPOST:=ja0 hpost
  clear hpost
  go_wp2
  go_region_held3 (fun w'=>w'.cell? ⟨w.heap.size,0,none⟩=some (.int .i64 xd)/\w'.cell? ⟨w.heap.size,1,none⟩=some (.slice xA xn xc)/\w'.cell? ⟨w.heap.size+1,0,none⟩=some (.int .i64 yd)/\w'.cell? ⟨w.heap.size+1,1,none⟩=some (.slice yA yn yc)) (first|with_reducible exact HS5.out|with_reducible exact HS4.out|with_reducible exact HS1.out|with_reducible (exact HSET.out _ _ _ HS5.out)|with_reducible (exact HSET.out _ _ _ (HSET.out _ _ _ HS5.out))) (first
   | (go_at_call 79;refine HPD.out.mono ?_;rintro e w4 ⟨rfl,hm4,hb4⟩
      have HX4:=ja0 ((HX1.out.drew).below hb4 (by show w.heap.size<w1.heap.size;omega))
      have HY4:=ja0 ((HY1.out.drew).below hb4 (by show w.heap.size+1<w1.heap.size;omega))
      have HR4:=ja0 ((HR1.out.drew).below hb4 (by show w.heap.size+1+1<w1.heap.size;omega))
      have HB4:=ja0 ((HB1.out.drew).trans (hb4.mono (by show w.heap.size<=w1.heap.size;omega)))
      have HS4:=ja0 (show w4.cell? ⟨w.heap.size,0,none⟩=some (.int .i64 xd)/\w4.cell? ⟨w.heap.size,1,none⟩=some (.slice xA xn xc)/\w4.cell? ⟨w.heap.size+1,0,none⟩=some (.int .i64 yd)/\w4.cell? ⟨w.heap.size+1,1,none⟩=some (.slice yA yn yc)from⟨HX4.out.cell 0,HX4.out.cell 1,HY4.out.cell 0,HY4.out.cell 1⟩)
      have HOV4:=ja0 (HOV.out w4 hm4)
      have hz4:w1.heap.size<=w4.heap.size:=hb4.size
      clear hm4 hb4)
   | (go_at_call 64;refine HOV4.out.mono ?_;rintro e w5 ⟨A4,n4,c4,rfl,ht5,hg5⟩
      have HX5:=HX4.out.grown hg5 (by simp;omega)
      have HY5:=HY4.out.grown hg5 (by simp;omega)
      have HR5:=ja0 (HR4.out.grown hg5 (by simp;omega))
      have HB5:=ja0 (HB4.out.grown hg5 (by omega) (by simp;omega))
      have HS5:=ja0 (show w5.cell? ⟨w.heap.size,0,none⟩=some (.int .i64 xd)/\w5.cell? ⟨w.heap.size,1,none⟩=some (.slice xA xn xc)/\w5.cell? ⟨w.heap.size+1,0,none⟩=some (.int .i64 yd)/\w5.cell? ⟨w.heap.size+1,1,none⟩=some (.slice yA yn yc)from⟨HX5.cell 0,HX5.cell 1,HY5.cell 0,HY5.cell 1⟩)
      obtain⟨q1,q2,q3,q4⟩:=HR5.out.two
      have HT5:=ja0 ht5
      have hz5:=hg5.size
      obtain⟨c51,c52,c53,c54⟩:=HS5.out
      clear HX5 HY5 ht5 hg5))
  all_goals
   go_wp2
   exact HPOST.out _ _ A4 n4 c4 s1 s3 s2 HP.out (jd3 (ownsRow_setCell_below (ownsRow_setCell_below HT5.out (by show w.heap.size+1+1<_;omega) _) (by show w.heap.size+1+1<_;omega) _) (by omega))
    (Below.setCell (Below.setCell HB5.out (by show _<=w.heap.size+1+1;omega) _) (by show _<=w.heap.size+1+1;omega) _) ((HR5.out.set_ 0 _).set_ 1 _) rfl rfl rfl
def jbr2(gf:Nat)(g:Int->List (Int×Int)->Int->List (Int×Int)->Int×List (Int×Int)×Int):Prop:=
 (∀(xd:Int) (xA:Option Addr) (xn xc:Nat) (xt:List (Int×Int)) (yd:Int) (yA:Option Addr) (yn yc:Nat) (yt:List (Int×Int)) (B:Nat) (w:World),ja6 w B xA xn xc xt->ja6 w B yA yn yc yt->B<=w.heap.size ->
  Calls Tryz.prog gf #[.agg #[.int .i64 xd,.slice xA xn xc],.agg #[.int .i64 yd,.slice yA yn yc]] w (jd0 w (g xd xt yd yt)))/\(∀args w,(callFunc gf args).run Tryz.prog w=.ok (.enter gf args) w)
theorem jdm8:jbr2 36 zd1:=⟨fun xd xA xn xc xt yd yA yn yc yt B w h1 h2 h3=>jcm5 xd xA xn xc xt yd yA yn yc yt B w h1 h2 h3,fun args w=>enters_of Tryz.func36 (by kernel_rfl) rfl args w⟩
theorem jdm9:jbr2 38 quoS:=⟨fun xd xA xn xc xt yd yA yn yc yt B w h1 h2 h3=>jfd2 xd xA xn xc xt yd yA yn yc yt B w h1 h2 h3,fun args w=>enters_of Tryz.func38 (by kernel_rfl) rfl args w⟩
theorem jdn0:jbr2 28 (fun xd xt yd yt=>jd6 xd xt yd yt (-1)):=⟨fun xd xA xn xc xt yd yA yn yc yt B w h1 h2 h3=>jar4 xd xA xn xc xt yd yA yn yc yt B w h1 h2 h3,fun args w=>enters_of Tryz.func28 (by kernel_rfl) rfl args w⟩
theorem jdv7(gf:Nat)(n:Int)(w:World):Calls Tryz.prog 37 #[.func (.func gf) #[] #[],.int .i64 n] w fun e w'=>
  e=.returned (.func (.func 80) #[] #[.pointer (some ⟨w.heap.size,0,none⟩),.pointer (some ⟨w.heap.size+1,0,none⟩)])/\w'=(w.alloc (.cells #[.func (.func gf) #[] #[]] 76)).alloc (.cells #[.int .i64 n] 3):=by
 go_enter Tryz.func37,Tryz.ntmps37
 go_wp2
 go_ret
 exact⟨by simp,rfl⟩
theorem jcv2(args:Array Value)(w:World):(callFunc 80 args).run Tryz.prog w=.ok (.enter 80 args) w:=enters_of Tryz.func80 (by kernel_rfl) rfl args w
theorem jfg8 {gf:Nat} {g:Int->List (Int×Int)->Int->List (Int×Int)->Int×List (Int×Int)×Int} (hf:jbr2 gf g) (b1 b2:Nat) (m:Int) (xd:Int) (xA:Option Addr) (xn xc:Nat) (xt:List (Int×Int)) (ld:Int) (lA:Option Addr) (ln lc:Nat) (B:Nat) (w:World)
  (h1:w.cell? ⟨b1,0,none⟩=some (.func (.func gf) #[] #[])) (h2:w.cell? ⟨b2,0,none⟩=some (.int .i64 m)) (hx:ja6 w B xA xn xc xt) (hB:B<=w.heap.size) :
  Calls Tryz.prog 80 #[.agg #[.int .i64 xd,.slice xA xn xc],.agg #[.int .i64 ld,.slice lA ln lc],.pointer (some ⟨b1,0,none⟩),.pointer (some ⟨b2,0,none⟩)] w (jd0 w (g xd xt (jf6 m).1 (jf6 m).2)):=by
 obtain⟨w0,hw0⟩:∃w0,w0=((w.alloc (.cells #[.int .i64 xd,.slice xA xn xc] 24)).alloc (.cells #[.int .i64 ld,.slice lA ln lc] 24)).alloc (.cells #[.int .i64 0,.slice none 0 0] 24):=⟨_,rfl⟩
 have hz0:w0.heap.size=w.heap.size+3:=by rw[hw0];simp
 have h01:Below w.heap.size w w0:=by rw[hw0];exact(((Below.refl _ _).alloc (Nat.le_refl _) _).alloc (by simp) _).alloc (by simp;omega) _
 have HX0:Hid (Blk w0 w.heap.size 24 #[.int .i64 xd,.slice xA xn xc]):=ja0 (by rw[hw0];exact((Blk.new w _ _).alloc _).alloc _)
 have HR0:Hid (Blk w0 (w.heap.size+2) 24 #[.int .i64 0,.slice none 0 0]):=ja0 (by
  rw[hw0]
  have h:=Blk.new ((w.alloc (.cells #[.int .i64 xd,.slice xA xn xc] 24)).alloc (.cells #[.int .i64 ld,.slice lA ln lc] 24)) 24 #[.int .i64 0,.slice none 0 0]
  rwa [World.size_alloc,World.size_alloc] at h)
 have hl1:b1<w.heap.size:=World.block_lt_of_cell? _ _ h1
 have hl2:b2<w.heap.size:=World.block_lt_of_cell? _ _ h2
 have HC1:=ja0 ((h01.cell (p:=⟨b1,0,none⟩) hl1).trans h1)
 have HC2:=ja0 ((h01.cell (p:=⟨b2,0,none⟩) hl2).trans h2)
 have HT0:=ja0 (Rd.below hx (h01.mono hB))
 have HB0:=ja0 h01
 have HWN:=ja0 (fun W=>jaf6 m W)
 have HDO:=ja0 hf.1
 have eg:=hf.2
 generalize jf6 m=wn at *
 obtain⟨d0,xt0⟩:=wn
 dsimp only
 clear hx h01 h1 h2 hf
 have hpost:∀(W:World) (a:Act) (A:Option Addr) (n c:Nat),W.ownsRow w.heap.size 59 2 (.slice A n c) n (jb4 (g xd xt d0 xt0).2.1)->Below w.heap.size w W->Blk W (w.heap.size+2) 24 #[.int .i64 (g xd xt d0 xt0).1,.slice A n c] ->
   a.tmps.getD 6 undef=.pointer (some ⟨w.heap.size+2,0,none⟩)->a.tmps.getD 7 undef=.int .i64 (g xd xt d0 xt0).2.2->a.defers=[] ->
   bodyPost Tryz.prog Tryz.f80 (jd0 w (g xd xt d0 xt0)) .ret a W:=by
  intro W a A n c e2 e3 e4 e5 e6 e7
  refine ja8 (p:=6) (u:=7) (ty:=24) rfl e5 e4 Tryz.underlying24 rfl Tryz.sizeNumber e7 ?_
  rw[e6]
  exact⟨A,n,c,rfl,e2,e3⟩
 have HPOST:=ja0 hpost
 clear hpost
 go_enter Tryz.func80,Tryz.ntmps80
 go_wp2
 rw[<-hw0]
 clear hw0
 obtain⟨x0,x1,xf0,xf1⟩:=HX0.out.two
 obtain⟨r0,r1,rf0,rf1⟩:=HR0.out.two
 have hc1:=HC1.out
 have hc2:=HC2.out
 have hbd:Hid (Below w0.heap.size w0 w0.drew):=ja0 (Below.drew (Below.refl _ _))
 go_region_law (first
  | (go_simp;go_at_call 50;refine(HWN.out _).mono ?_;rintro e w3 ⟨A3,n3,c3,rfl,ho3,hb3⟩
     have hb3:Below w0.heap.size w0 w3:=hbd.out.trans hb3
     have hz3:=hb3.size
     have HX3:=ja0 (HX0.out.below hb3 (by omega));have HR3:=ja0 (HR0.out.below hb3 (by omega));have HB3:=ja0 (HB0.out.trans (hb3.mono (by omega)))
     have HT3:=ja0 (Rd.below HT0.out (hb3.mono (by omega)))
     have hc13:=(hb3.cell (p:=⟨b1,0,none⟩) (by show b1<_;omega)).trans hc1
     obtain⟨y0,y1,yf0,yf1⟩:=HX3.out.two
     have HDO3:=ja0 (HDO.out xd xA xn xc xt d0 A3 n3 c3 xt0 w3.heap.size w3 (Rd.more HT3.out (by omega)) (Rd.of_own ho3) (Nat.le_refl _))
     clear ho3 hb3)
  | (go_simp;refine HDO3.out.mono ?_;rintro e w5 ⟨A5,n5,c5,rfl,ho5,hb5⟩
     have HR5:=ja0 (HR3.out.below hb5 (by omega));have HB5:=ja0 (HB3.out.trans (hb5.mono (by omega)))
     obtain⟨z0,z1,zf0,zf1⟩:=HR5.out.two
     have HO5:=ja0 ho5
     clear hb5 ho5))
 all_goals
  go_wp2
  exact HPOST.out _ _ A5 n5 c5 (jf9 (jf9 (jd3 (base':=w.heap.size) HO5.out (by omega)) HR5.out (by decide)) (HR5.out.set_ 0 _) (by decide)) (Below.setCell (Below.setCell HB5.out (p:=⟨w.heap.size+2,0,none⟩) (by simp) _) (p:=⟨w.heap.size+2,1,none⟩) (by simp) _) ((HR5.out.set_ 0 _).set_ 1 _) rfl rfl rfl
abbrev Num:=Int×List (Int×Int)
abbrev zv6:=Num->Num->Int×List (Int×Int)×Int
def jag2(r:Int×List (Int×Int)×Int):Num:=(r.1,r.2.1)
def jaj4:List zv6->Num->Num->Num->Num->Num×Num×Int
 | [],a,b,_,_=>(a,b,0)
 | g::gs,a,b,lo,hi=>
  if(g a lo).2.2≠0 then(a,b,(g a lo).2.2)
  else if(g b hi).2.2≠0 then(a,b,(g b hi).2.2)
  else jaj4 gs (jag2 (g a lo)) (jag2 (g b hi)) lo hi
def jp6(w0:World)(R:Nat->Prop)(v:Value)(g:zv6):Prop:=
 ∃gf lb,v=.func (.func gf) #[] lb/\(∀args w,(callFunc gf args).run Tryz.prog w=.ok (.enter gf args) w) /\
  ∀(W:World),KeepB R w0 W->∀(xd:Int) (xA:Option Addr) (xn xc:Nat) (xt:List (Int×Int)) (yd:Int) (yA:Option Addr) (yn yc:Nat) (yt:List (Int×Int)) (B:Nat),ja6 W B xA xn xc xt->ja6 W B yA yn yc yt->B<=W.heap.size ->
   Calls Tryz.prog gf (#[.agg #[.int .i64 xd,.slice xA xn xc],.agg #[.int .i64 yd,.slice yA yn yc]]++lb) W (jd0 W (g (xd,xt) (yd,yt)))
theorem jp6.keep{w0 w1:World}{R:Nat->Prop}{v:Value}{g:zv6}(h:jp6 w0 R v g)(hb:KeepB R w0 w1):jp6 w1 R v g:=by
 obtain⟨gf,lb,h1,h2,h3⟩:=h
 exact⟨gf,lb,h1,h2,fun W hW=>h3 W (hb.trans hW)⟩
theorem jp6.mono{w0:World}{R R':Nat->Prop}{v:Value}{g:zv6}(h:jp6 w0 R v g)(hb:∀b,R b->R' b):jp6 w0 R' v g:=by
 obtain⟨gf,lb,h1,h2,h3⟩:=h
 exact⟨gf,lb,h1,h2,fun W hW=>h3 W (hW.mono hb)⟩
theorem jp6.of_num{gf:Nat}{g:Int->List (Int×Int)->Int->List (Int×Int)->Int×List (Int×Int)×Int}(h:jbr2 gf g)(w:World)(R:Nat->Prop):jp6 w R (.func (.func gf) #[] #[]) (fun x y=>g x.1 x.2 y.1 y.2):=
 ⟨gf,#[],rfl,h.2,fun W _ xd xA xn xc xt yd yA yn yc yt B hx hy hB=>h.1 xd xA xn xc xt yd yA yn yc yt B W hx hy hB⟩
theorem jp6.of_by {gf:Nat} {g:Int->List (Int×Int)->Int->List (Int×Int)->Int×List (Int×Int)×Int} (h:jbr2 gf g) {w:World} {b1 b2:Nat} {m:Int} (h1:w.cell? ⟨b1,0,none⟩=some (.func (.func gf) #[] #[])) (h2:w.cell? ⟨b2,0,none⟩=some (.int .i64 m)) :
  jp6 w (fun b=>b=b1\/b=b2) (.func (.func 80) #[] #[.pointer (some ⟨b1,0,none⟩),.pointer (some ⟨b2,0,none⟩)]) (fun x _=>g x.1 x.2 (jf6 m).1 (jf6 m).2):=by
 refine⟨_,_,rfl,jcv2,fun W hW xd xA xn xc xt yd yA yn yc yt B hx hy hB=>?_⟩
 exact jfg8 h b1 b2 m xd xA xn xc xt yd yA yn yc B W ((World.cell?_of_block (hW.same b1 (.inl rfl))).trans h1) ((World.cell?_of_block (hW.same b2 (.inr rfl))).trans h2) hx hB
theorem Rd.keepB{w w':World}{R:Nat->Prop}{B k n c:Nat}{A:Option Addr}{xs:List Value}(h:Rd w B k A n c xs)(hk:KeepB R w w')(hR:∀b,b<B->R b):Rd w' B k A n c xs:=by
 refine⟨h.1,h.2.1,h.2.2.1,?_⟩
 rcases h.2.2.2 with h0|⟨ad,rfl,hb,hc⟩
 ·exact .inl h0
 ·refine .inr ⟨ad,rfl,hb,fun j u hu=>?_⟩
  exact(World.cell?_of_block (hk.same _ (by rw[jc4];exact hR _ hb))).trans (hc j u hu)
def jdc4(x:Num)(gs:List zv6)(lo hi:Num)(den:Int)(low high c:Int):Prop:=
 ((zd1 x.1 x.2 x.1 x.2).2.2≠0/\low=0/\high=0/\c=(zd1 x.1 x.2 x.1 x.2).2.2) \/
 ((zd1 x.1 x.2 x.1 x.2).2.2=0/\∃r,jaj4 gs (jag2 (zd1 x.1 x.2 x.1 x.2)) (jag2 (zd1 x.1 x.2 x.1 x.2)) lo hi=r /\
  ((r.2.2≠0/\low=0/\high=0/\c=r.2.2) \/
    (r.2.2=0/\∃l1 h1 c1,jp3 r.1.1 r.1.2 den l1 h1 c1 /\
     ((c1≠0/\low=0/\high=0/\c=c1)\/(c1=0/\∃l2,jp3 r.2.1.1 r.2.1.2 den l2 high c/\low=l1)))))
end Go.Proofs.YtphcodcdfeohhaaGreatDoor
