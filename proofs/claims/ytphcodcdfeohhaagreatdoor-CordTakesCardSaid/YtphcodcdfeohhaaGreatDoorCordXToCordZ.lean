import Derived.Test.YtphcodcdfeohhaaGreatDoorCordIToCordJ
set_option linter.all false
namespace Go.Proofs.YtphcodcdfeohhaaGreatDoor
set_option maxRecDepth 100000
set_option maxHeartbeats 4000000
open Go.RowKit
def jcm8(ld:Int)(lt:List (Int×Int))(hd:Int)(ht:List (Int×Int))(r:Bool):Prop:=
 ∃o e s f,jav6 ld lt hd ht o e/\jab8 ld lt s f/\r=(decide (e=0)&&decide (f=0)&&decide (o<=0)&&decide (0<s))
def jcn7(w:World)(ld:Int)(lt:List (Int×Int))(hd:Int)(ht:List (Int×Int))(e:Ending)(w':World):Prop:=∃r,e=.returned (.bool r)/\jcm8 ld lt hd ht r/\Below w.heap.size w w'
theorem jh.four{w:World}{b:Nat}{t:TypeId}{u v x y:Value}(h:jh w b t #[u,v,x,y]):w.cell? ⟨b,0,none⟩=some u/\w.cell? ⟨b,1,none⟩=some v/\w.cell? ⟨b,2,none⟩=some x/\w.cell? ⟨b,3,none⟩=some y:=
 ⟨h.cell 0,h.cell 1,h.cell 2,h.cell 3⟩
theorem jbz9 (ld:Int) (A:Option Addr) (n c:Nat) (lt:List (Int×Int)) (hd:Int) (A2:Option Addr) (n2 c2:Nat) (ht:List (Int×Int)) (B:Nat) (w:World) (hx:ji w B A n c lt) (hy:ji w B A2 n2 c2 ht) (hB:B<=w.heap.size) :
  Calls Tryz.prog 78 #[.agg #[.int .i64 ld,.slice A n c,.int .i64 hd,.slice A2 n2 c2]] w (jcn7 w ld lt hd ht):=by
 have HX0:=ja (jh.new w 26 #[.int .i64 ld,.slice A n c,.int .i64 hd,.slice A2 n2 c2])
 have HB0:=ja ((Below.refl w.heap.size w).alloc (Nat.le_refl _) (.cells #[.int .i64 ld,.slice A n c,.int .i64 hd,.slice A2 n2 c2] 26))
 have hxa:=Rd.alloc hx hB (.cells #[.int .i64 ld,.slice A n c,.int .i64 hd,.slice A2 n2 c2] 26)
 have hya:=Rd.alloc hy hB (.cells #[.int .i64 ld,.slice A n c,.int .i64 hd,.slice A2 n2 c2] 26)
 obtain⟨x0,x1,x2,x3⟩:=HX0.o.four
 have HXA:=ja (hxa.more (show B<=w.heap.size from hB))
 have HYA:=ja (hya.more (show B<=w.heap.size from hB))
 have HCM:=ja (jac4 ld A n c lt hd A2 n2 c2 ht w.heap.size _ HXA.o HYA.o (by simp))
 clear hx hy hxa hya
 go_enter Tryz.func78,Tryz.ntmps78
 go_wp2_with (first
  | (go_at_call 51;refine HCM.o.mono ?_;rintro e w1 ⟨o,oe,rfl,hcr,hb1⟩
     have HB1:=ja (HB0.o.trans (hb1.mono (by simp)))
     have HX1:=ja (HX0.o.below hb1 (by simp))
     have HSG:=ja (za5 ld A n c lt w.heap.size w1 (Rd.below HXA.o (hb1.mono (by simp))) HB1.o.size)
     obtain⟨y0,y1,y2,y3⟩:=HX1.o.four
     have HCR:=ja hcr
     clear hb1 hcr)
  | (go_at_call 29;refine HSG.o.mono ?_;rintro e w2 ⟨s,f,rfl,hsr,hb2⟩
     have HB2:=ja (HB1.o.trans (hb2.mono HB1.o.size))
     have HSR:=ja hsr
     clear hb2 hsr))
 all_goals go_ret
 all_goals first
  | exact⟨_,rfl,⟨o,oe,s,f,HCR.o,HSR.o,by first|(simp[*];done)|(simp[*];omega)⟩,HB2.o⟩
  | (trace_state;fail)
def jbv0(xd:Int)(xt:List (Int×Int))(ld:Int)(lt:List (Int×Int))(hd:Int)(ht:List (Int×Int))(r:Int):Prop:=
 ∃s e,jab8 xd xt s e/\((e≠0/\r=2)\/(e=0/\∃p,jcm8 ld lt hd ht p/\r=if p=true then(if s<=0 then 3 else 0)else 2))
theorem zh9 (xd:Int) (A0:Option Addr) (n0 c0:Nat) (xt:List (Int×Int)) (ld:Int) (A:Option Addr) (n c:Nat) (lt:List (Int×Int)) (hd:Int) (A2:Option Addr) (n2 c2:Nat) (ht:List (Int×Int)) (B:Nat) (w:World)
  (hz:ji w B A0 n0 c0 xt) (hx:ji w B A n c lt) (hy:ji w B A2 n2 c2 ht) (hB:B<=w.heap.size) :
  Calls Tryz.prog 34 #[.agg #[.int .i64 xd,.slice A0 n0 c0],.agg #[.int .i64 ld,.slice A n c,.int .i64 hd,.slice A2 n2 c2]] w λe w'=>∃r,e=.returned (.int .i64 r)/\jbv0 xd xt ld lt hd ht r/\Below w.heap.size w w':=by
 obtain⟨w0,hw0⟩:∃w0,w0=(w.alloc (.cells #[.int .i64 xd,.slice A0 n0 c0] 24)).alloc (.cells #[.int .i64 ld,.slice A n c,.int .i64 hd,.slice A2 n2 c2] 26):=⟨_,rfl⟩
 have hz0:w0.heap.size=w.heap.size+2:=by rw[hw0];simp
 have h01:Below w.heap.size w w0:=by rw[hw0];exact((Below.refl _ _).alloc (Nat.le_refl _) _).alloc (by simp) _
 have HX0:Hid (jh w0 w.heap.size 24 #[.int .i64 xd,.slice A0 n0 c0]):=ja (by rw[hw0];exact(jh.new w _ _).alloc _)
 have HP0:Hid (jh w0 (w.heap.size+1) 26 #[.int .i64 ld,.slice A n c,.int .i64 hd,.slice A2 n2 c2]):=ja (by
  rw[hw0]
  have h:=jh.new (w.alloc (.cells #[.int .i64 xd,.slice A0 n0 c0] 24)) 26 #[.int .i64 ld,.slice A n c,.int .i64 hd,.slice A2 n2 c2]
  rwa [World.size_alloc] at h)
 have HZ:=ja (Rd.below hz (h01.mono hB));have HX:=ja (Rd.below hx (h01.mono hB));have HY:=ja (Rd.below hy (h01.mono hB))
 have HB0:=ja h01
 have HSG:=ja (za5 xd A0 n0 c0 xt B w0 HZ.o (by omega))
 clear hz hx hy h01
 go_enter Tryz.func34,Tryz.ntmps34
 go_wp2_with fail
 rw[<-hw0]
 clear hw0
 obtain⟨x0,x1,_,_⟩:=HX0.o.two
 obtain⟨y0,y1,y2,y3⟩:=HP0.o.four
 go_wp2_with (first
  | (go_at_call 29;refine HSG.o.mono ?_;rintro e w1 ⟨s,f,rfl,hsr,hb1⟩
     have HB1:=ja (HB0.o.trans (hb1.mono (by omega)))
     have HP1:=ja (HP0.o.below hb1 (by omega))
     have HIP:=ja (jbz9 ld A n c lt hd A2 n2 c2 ht B w1 (Rd.below HX.o (hb1.mono (by omega))) (Rd.below HY.o (hb1.mono (by omega))) (by have:=HB1.o.size;omega))
     obtain⟨z0,z1,z2,z3⟩:=HP1.o.four
     have HSR:=ja hsr
     clear hb1 hsr)
  | (go_at_call 78;refine HIP.o.mono ?_;rintro e w2 ⟨p,rfl,hpr,hb2⟩
     have HB2:=ja (HB1.o.trans (hb2.mono HB1.o.size))
     have HPR:=ja hpr
     clear hb2 hpr))
 all_goals go_ret
 all_goals first
  | exact⟨_,rfl,⟨s,f,HSR.o,.inr ⟨by simp_all,p,HPR.o,by simp_all⟩⟩,HB2.o⟩
  | exact⟨_,rfl,⟨s,f,HSR.o,.inl ⟨by simp_all,rfl⟩⟩,HB1.o⟩
  | (trace_state;fail)
def zv2(gf:Nat)(g:Int->List (Int×Int)->Int->List (Int×Int)->Int×List (Int×Int)×Int):Prop:=
 (∀(xd:Int) (xA:Option Addr) (xn xc:Nat) (xt:List (Int×Int)) (yd:Int) (yA:Option Addr) (yn yc:Nat) (yt:List (Int×Int)) (B:Nat) (w:World),ji w B xA xn xc xt->ji w B yA yn yc yt->B<=w.heap.size ->
  Calls Tryz.prog gf #[.agg #[.int .i64 xd,.slice xA xn xc],.agg #[.int .i64 yd,.slice yA yn yc]] w (jV w (g xd xt yd yt)))/\(∀args w,(callFunc gf args).run Tryz.prog w=.ok (.enter gf args) w)
theorem jbn9:zv2 36 jc7:=⟨λxd xA xn xc xt yd yA yn yc yt B w h1 h2 h3=>jap3 xd xA xn xc xt yd yA yn yc yt B w h1 h2 h3,λargs w=>enters_of Tryz.func36 (by kernel_rfl) rfl args w⟩
theorem jbp0:zv2 38 jn7:=⟨λxd xA xn xc xt yd yA yn yc yt B w h1 h2 h3=>jcd1 xd xA xn xc xt yd yA yn yc yt B w h1 h2 h3,λargs w=>enters_of Tryz.func38 (by kernel_rfl) rfl args w⟩
theorem jbp1:zv2 28 (λxd xt yd yt=>jL xd xt yd yt (-1)):=⟨λxd xA xn xc xt yd yA yn yc yt B w h1 h2 h3=>Qb xd xA xn xc xt yd yA yn yc yt B w h1 h2 h3,λargs w=>enters_of Tryz.func28 (by kernel_rfl) rfl args w⟩
theorem jby0(gf:Nat)(n:Int)(w:World):Calls Tryz.prog 37 #[.func (.func gf) #[] #[],.int .i64 n] w λe w'=>
  e=.returned (.func (.func 80) #[] #[.pointer (some ⟨w.heap.size,0,none⟩),.pointer (some ⟨w.heap.size+1,0,none⟩)])/\w'=(w.alloc (.cells #[.func (.func gf) #[] #[]] 76)).alloc (.cells #[.int .i64 n] 3):=by
 go_enter Tryz.func37,Tryz.ntmps37
 go_wp2
 go_ret
 exact⟨by simp,rfl⟩
theorem jaz0(args:Array Value)(w:World):(callFunc 80 args).run Tryz.prog w=.ok (.enter 80 args) w:=enters_of Tryz.func80 (by kernel_rfl) rfl args w
theorem jch1 {gf:Nat} {g:Int->List (Int×Int)->Int->List (Int×Int)->Int×List (Int×Int)×Int} (hf:zv2 gf g) (b1 b2:Nat) (m:Int) (xd:Int) (xA:Option Addr) (xn xc:Nat) (xt:List (Int×Int)) (ld:Int) (lA:Option Addr) (ln lc:Nat) (B:Nat) (w:World)
  (h1:w.cell? ⟨b1,0,none⟩=some (.func (.func gf) #[] #[])) (h2:w.cell? ⟨b2,0,none⟩=some (.int .i64 m)) (hx:ji w B xA xn xc xt) (hB:B<=w.heap.size) :
  Calls Tryz.prog 80 #[.agg #[.int .i64 xd,.slice xA xn xc],.agg #[.int .i64 ld,.slice lA ln lc],.pointer (some ⟨b1,0,none⟩),.pointer (some ⟨b2,0,none⟩)] w (jV w (g xd xt (jI m).1 (jI m).2)):=by
 obtain⟨w0,hw0⟩:∃w0,w0=((w.alloc (.cells #[.int .i64 xd,.slice xA xn xc] 24)).alloc (.cells #[.int .i64 ld,.slice lA ln lc] 24)).alloc (.cells #[.int .i64 0,.slice none 0 0] 24):=⟨_,rfl⟩
 have hz0:w0.heap.size=w.heap.size+3:=by rw[hw0];simp
 have h01:Below w.heap.size w w0:=by rw[hw0];exact(((Below.refl _ _).alloc (Nat.le_refl _) _).alloc (by simp) _).alloc (by simp;omega) _
 have HX0:Hid (jh w0 w.heap.size 24 #[.int .i64 xd,.slice xA xn xc]):=ja (by rw[hw0];exact((jh.new w _ _).alloc _).alloc _)
 have HR0:Hid (jh w0 (w.heap.size+2) 24 #[.int .i64 0,.slice none 0 0]):=ja (by
  rw[hw0]
  have h:=jh.new ((w.alloc (.cells #[.int .i64 xd,.slice xA xn xc] 24)).alloc (.cells #[.int .i64 ld,.slice lA ln lc] 24)) 24 #[.int .i64 0,.slice none 0 0]
  rwa [World.size_alloc,World.size_alloc] at h)
 have hl1:b1<w.heap.size:=World.block_lt_of_cell? _ _ h1
 have hl2:b2<w.heap.size:=World.block_lt_of_cell? _ _ h2
 have HC1:=ja ((h01.cell (p:=⟨b1,0,none⟩) hl1).trans h1)
 have HC2:=ja ((h01.cell (p:=⟨b2,0,none⟩) hl2).trans h2)
 have HT0:=ja (Rd.below hx (h01.mono hB))
 have HB0:=ja h01
 have HWN:=ja (λW=>jk3 m W)
 have HDO:=ja hf.1
 have eg:=hf.2
 generalize jI m=wn at *
 obtain⟨d0,xt0⟩:=wn
 dsimp only
 clear hx h01 h1 h2 hf
 have hpost:∀(W:World) (a:Act) (A:Option Addr) (n c:Nat),W.ownsRow w.heap.size 59 2 (.slice A n c) n (jr (g xd xt d0 xt0).2.1)->Below w.heap.size w W->jh W (w.heap.size+2) 24 #[.int .i64 (g xd xt d0 xt0).1,.slice A n c] ->
   a.tmps.getD 6 undef=.pointer (some ⟨w.heap.size+2,0,none⟩)->a.tmps.getD 7 undef=.int .i64 (g xd xt d0 xt0).2.2->a.defers=[] ->
   bodyPost Tryz.prog Tryz.f80 (jV w (g xd xt d0 xt0)) .ret a W:=by
  intro W a A n c e2 e3 e4 e5 e6 e7
  refine jq (p:=6) (u:=7) (ty:=24) rfl e5 e4 Tryz.underlying24 rfl Tryz.sizeNumber e7 ?_
  rw[e6]
  exact⟨A,n,c,rfl,e2,e3⟩
 have HPOST:=ja hpost
 clear hpost
 go_enter Tryz.func80,Tryz.ntmps80
 go_wp2
 rw[<-hw0]
 clear hw0
 obtain⟨x0,x1,xf0,xf1⟩:=HX0.o.two
 obtain⟨r0,r1,rf0,rf1⟩:=HR0.o.two
 have hc1:=HC1.o
 have hc2:=HC2.o
 have hbd:Hid (Below w0.heap.size w0 w0.drew):=ja (Below.drew (Below.refl _ _))
 go_region_law (first
  | (go_simp;go_at_call 50;refine(HWN.o _).mono ?_;rintro e w3 ⟨A3,n3,c3,rfl,ho3,hb3⟩
     have hb3:Below w0.heap.size w0 w3:=hbd.o.trans hb3
     have hz3:=hb3.size
     have HX3:=ja (HX0.o.below hb3 (by omega));have HR3:=ja (HR0.o.below hb3 (by omega));have HB3:=ja (HB0.o.trans (hb3.mono (by omega)))
     have HT3:=ja (Rd.below HT0.o (hb3.mono (by omega)))
     have hc13:=(hb3.cell (p:=⟨b1,0,none⟩) (by show b1<_;omega)).trans hc1
     obtain⟨y0,y1,yf0,yf1⟩:=HX3.o.two
     have HDO3:=ja (HDO.o xd xA xn xc xt d0 A3 n3 c3 xt0 w3.heap.size w3 (Rd.more HT3.o (by omega)) (Rd.of_own ho3) (Nat.le_refl _))
     clear ho3 hb3)
  | (go_simp;refine HDO3.o.mono ?_;rintro e w5 ⟨A5,n5,c5,rfl,ho5,hb5⟩
     have HR5:=ja (HR3.o.below hb5 (by omega));have HB5:=ja (HB3.o.trans (hb5.mono (by omega)))
     obtain⟨z0,z1,zf0,zf1⟩:=HR5.o.two
     have HO5:=ja ho5
     clear hb5 ho5))
 all_goals
  go_wp2
  exact HPOST.o _ _ A5 n5 c5 (jC (jC (jO (base':=w.heap.size) HO5.o (by omega)) HR5.o (by decide)) (HR5.o.set_ 0 _) (by decide)) (Below.setCell (Below.setCell HB5.o (p:=⟨w.heap.size+2,0,none⟩) (by simp) _) (p:=⟨w.heap.size+2,1,none⟩) (by simp) _) ((HR5.o.set_ 0 _).set_ 1 _) rfl rfl rfl
abbrev Num:=Int×List (Int×Int)
abbrev jb6:=Num->Num->Int×List (Int×Int)×Int
def jk9(r:Int×List (Int×Int)×Int):Num:=(r.1,r.2.1)
def jp0:List jb6->Num->Num->Num->Num->Num×Num×Int
 | [],a,b,_,_=>(a,b,0)
 | g::gs,a,b,lo,hi=>
  if(g a lo).2.2≠0 then(a,b,(g a lo).2.2)
  else if(g b hi).2.2≠0 then(a,b,(g b hi).2.2)
  else jp0 gs (jk9 (g a lo)) (jk9 (g b hi)) lo hi
def Jo(w0:World)(R:Nat->Prop)(v:Value)(g:jb6):Prop:=
 ∃gf lb,v=.func (.func gf) #[] lb/\(∀args w,(callFunc gf args).run Tryz.prog w=.ok (.enter gf args) w) /\
  ∀(W:World),KeepB R w0 W->∀(xd:Int) (xA:Option Addr) (xn xc:Nat) (xt:List (Int×Int)) (yd:Int) (yA:Option Addr) (yn yc:Nat) (yt:List (Int×Int)) (B:Nat),ji W B xA xn xc xt->ji W B yA yn yc yt->B<=W.heap.size ->
   Calls Tryz.prog gf (#[.agg #[.int .i64 xd,.slice xA xn xc],.agg #[.int .i64 yd,.slice yA yn yc]]++lb) W (jV W (g (xd,xt) (yd,yt)))
theorem Jo.keep{w0 w1:World}{R:Nat->Prop}{v:Value}{g:jb6}(h:Jo w0 R v g)(hb:KeepB R w0 w1):Jo w1 R v g:=by
 obtain⟨gf,lb,h1,h2,h3⟩:=h
 exact⟨gf,lb,h1,h2,λW hW=>h3 W (hb.trans hW)⟩
theorem Jo.mono{w0:World}{R R':Nat->Prop}{v:Value}{g:jb6}(h:Jo w0 R v g)(hb:∀b,R b->R' b):Jo w0 R' v g:=by
 obtain⟨gf,lb,h1,h2,h3⟩:=h
 exact⟨gf,lb,h1,h2,λW hW=>h3 W (hW.mono hb)⟩
theorem Jo.of_num{gf:Nat}{g:Int->List (Int×Int)->Int->List (Int×Int)->Int×List (Int×Int)×Int}(h:zv2 gf g)(w:World)(R:Nat->Prop):Jo w R (.func (.func gf) #[] #[]) (λx y=>g x.1 x.2 y.1 y.2):=
 ⟨gf,#[],rfl,h.2,λW _ xd xA xn xc xt yd yA yn yc yt B hx hy hB=>h.1 xd xA xn xc xt yd yA yn yc yt B W hx hy hB⟩
theorem Jo.of_by {gf:Nat} {g:Int->List (Int×Int)->Int->List (Int×Int)->Int×List (Int×Int)×Int} (h:zv2 gf g) {w:World} {b1 b2:Nat} {m:Int} (h1:w.cell? ⟨b1,0,none⟩=some (.func (.func gf) #[] #[])) (h2:w.cell? ⟨b2,0,none⟩=some (.int .i64 m)) :
  Jo w (λb=>b=b1\/b=b2) (.func (.func 80) #[] #[.pointer (some ⟨b1,0,none⟩),.pointer (some ⟨b2,0,none⟩)]) (λx _=>g x.1 x.2 (jI m).1 (jI m).2):=by
 refine⟨_,_,rfl,jaz0,λW hW xd xA xn xc xt yd yA yn yc yt B hx hy hB=>?_⟩
 exact jch1 h b1 b2 m xd xA xn xc xt yd yA yn yc B W ((World.cell?_of_block (hW.same b1 (.inl rfl))).trans h1) ((World.cell?_of_block (hW.same b2 (.inr rfl))).trans h2) hx hB
theorem Rd.keepB{w w':World}{R:Nat->Prop}{B k n c:Nat}{A:Option Addr}{xs:List Value}(h:Rd w B k A n c xs)(hk:KeepB R w w')(hR:∀b,b<B->R b):Rd w' B k A n c xs:=by
 refine⟨h.1,h.2.1,h.2.2.1,?_⟩
 rcases h.2.2.2 with h0|⟨ad,rfl,hb,hc⟩
 ·exact .inl h0
 ·refine .inr ⟨ad,rfl,hb,λj u hu=>?_⟩
  exact(World.cell?_of_block (hk.same _ (by rw[jH];exact hR _ hb))).trans (hc j u hu)
def jbf6(x:Num)(gs:List jb6)(lo hi:Num)(den:Int)(low high c:Int):Prop:=
 ((jc7 x.1 x.2 x.1 x.2).2.2≠0/\low=0/\high=0/\c=(jc7 x.1 x.2 x.1 x.2).2.2) \/
 ((jc7 x.1 x.2 x.1 x.2).2.2=0/\∃r,jp0 gs (jk9 (jc7 x.1 x.2 x.1 x.2)) (jk9 (jc7 x.1 x.2 x.1 x.2)) lo hi=r /\
  ((r.2.2≠0/\low=0/\high=0/\c=r.2.2) \/
    (r.2.2=0/\∃l1 h1 c1,qc r.1.1 r.1.2 den l1 h1 c1 /\
     ((c1≠0/\low=0/\high=0/\c=c1)\/(c1=0/\∃l2,qc r.2.1.1 r.2.1.2 den l2 high c/\low=l1)))))
