import Derived.Test.YtphcodcdfeohhaaGreatDoorCordKToCordR
import Derived.Test.YtphcodcdfeohhaaGreatDoorCordNToCordQ
import Derived.Laws.RangeAny
import Derived.Laws.Runes
set_option linter.all false
namespace Go.Proofs.YtphcodcdfeohhaaGreatDoor
set_option maxRecDepth 100000
set_option maxHeartbeats 4000000
open Go.RowKit
def jcm8(ld:Int)(lt:List (Int×Int))(hd:Int)(ht:List (Int×Int))(r:Bool):Prop:=
 ∃o e s f,jav6 ld lt hd ht o e/\jab8 ld lt s f/\r=(decide (e=0)&&decide (f=0)&&decide (o<=0)&&decide (0<s))
def jcn7(w:World)(ld:Int)(lt:List (Int×Int))(hd:Int)(ht:List (Int×Int))(e:Ending)(w':World):Prop:=∃r,e=.returned (.bool r)/\jcm8 ld lt hd ht r/\Below w.heap.size w w'
theorem jh.four{w:World}{b:Nat}{t:TypeId}{u v x y:Value}(h:jh w b t #[u,v,x,y]):w.cell? ⟨b,0,none⟩=some u/\w.cell? ⟨b,1,none⟩=some v/\w.cell? ⟨b,2,none⟩=some x/\w.cell? ⟨b,3,none⟩=some y:=
 ⟨h.cell 0,h.cell 1,h.cell 2,h.cell 3⟩
theorem jbz9 (ld:Int) (A:Option Addr) (n c:Nat) (lt:List (Int×Int)) (hd:Int) (A2:Option Addr) (n2 c2:Nat) (ht:List (Int×Int)) (B:Nat) (w:World) (hx:ji w B A n c lt) (hy:ji w B A2 n2 c2 ht) (hB:B<=w.heap.size) :
  Calls Tryz.prog 78 #[.agg #[.int .i64 ld,.slice A n c,.int .i64 hd,.slice A2 n2 c2]] w (jcn7 w ld lt hd ht):=by
 have HX0:=ja (jh.new w 26 #[.int .i64 ld,.slice A n c,.int .i64 hd,.slice A2 n2 c2])
 have HB0:=ja ((Below.refl w.heap.size w).alloc (Nat.le_refl _) (.cells #[.int .i64 ld,.slice A n c,.int .i64 hd,.slice A2 n2 c2] 26))
 have hxa:=Rd.alloc hx hB (.cells #[.int .i64 ld,.slice A n c,.int .i64 hd,.slice A2 n2 c2] 26)
 have hya:=Rd.alloc hy hB (.cells #[.int .i64 ld,.slice A n c,.int .i64 hd,.slice A2 n2 c2] 26)
 obtain⟨x0,x1,x2,x3⟩:=HX0.o.four
 have HXA:=ja (hxa.more (show B<=w.heap.size from hB))
 have HYA:=ja (hya.more (show B<=w.heap.size from hB))
 have HCM:=ja (jac4 ld A n c lt hd A2 n2 c2 ht w.heap.size _ HXA.o HYA.o (by simp))
 clear hx hy hxa hya
 go_enter Tryz.func78,Tryz.ntmps78
 go_wp2_with (first
  | (go_at_call 51;refine HCM.o.mono ?_;rintro e w1 ⟨o,oe,rfl,hcr,hb1⟩
     have HB1:=ja (HB0.o.trans (hb1.mono (by simp)))
     have HX1:=ja (HX0.o.below hb1 (by simp))
     have HSG:=ja (za5 ld A n c lt w.heap.size w1 (Rd.below HXA.o (hb1.mono (by simp))) HB1.o.size)
     obtain⟨y0,y1,y2,y3⟩:=HX1.o.four
     have HCR:=ja hcr
     clear hb1 hcr)
  | (go_at_call 29;refine HSG.o.mono ?_;rintro e w2 ⟨s,f,rfl,hsr,hb2⟩
     have HB2:=ja (HB1.o.trans (hb2.mono HB1.o.size))
     have HSR:=ja hsr
     clear hb2 hsr))
 all_goals go_ret
 all_goals first
  | exact⟨_,rfl,⟨o,oe,s,f,HCR.o,HSR.o,by first|(simp[*];done)|(simp[*];omega)⟩,HB2.o⟩
  | (trace_state;fail)
def jbv0(xd:Int)(xt:List (Int×Int))(ld:Int)(lt:List (Int×Int))(hd:Int)(ht:List (Int×Int))(r:Int):Prop:=
 ∃s e,jab8 xd xt s e/\((e≠0/\r=2)\/(e=0/\∃p,jcm8 ld lt hd ht p/\r=if p=true then(if s<=0 then 3 else 0)else 2))
theorem zh9 (xd:Int) (A0:Option Addr) (n0 c0:Nat) (xt:List (Int×Int)) (ld:Int) (A:Option Addr) (n c:Nat) (lt:List (Int×Int)) (hd:Int) (A2:Option Addr) (n2 c2:Nat) (ht:List (Int×Int)) (B:Nat) (w:World)
  (hz:ji w B A0 n0 c0 xt) (hx:ji w B A n c lt) (hy:ji w B A2 n2 c2 ht) (hB:B<=w.heap.size) :
  Calls Tryz.prog 34 #[.agg #[.int .i64 xd,.slice A0 n0 c0],.agg #[.int .i64 ld,.slice A n c,.int .i64 hd,.slice A2 n2 c2]] w λe w'=>∃r,e=.returned (.int .i64 r)/\jbv0 xd xt ld lt hd ht r/\Below w.heap.size w w':=by
 obtain⟨w0,hw0⟩:∃w0,w0=(w.alloc (.cells #[.int .i64 xd,.slice A0 n0 c0] 24)).alloc (.cells #[.int .i64 ld,.slice A n c,.int .i64 hd,.slice A2 n2 c2] 26):=⟨_,rfl⟩
 have hz0:w0.heap.size=w.heap.size+2:=by rw[hw0];simp
 have h01:Below w.heap.size w w0:=by rw[hw0];exact((Below.refl _ _).alloc (Nat.le_refl _) _).alloc (by simp) _
 have HX0:Hid (jh w0 w.heap.size 24 #[.int .i64 xd,.slice A0 n0 c0]):=ja (by rw[hw0];exact(jh.new w _ _).alloc _)
 have HP0:Hid (jh w0 (w.heap.size+1) 26 #[.int .i64 ld,.slice A n c,.int .i64 hd,.slice A2 n2 c2]):=ja (by
  rw[hw0]
  have h:=jh.new (w.alloc (.cells #[.int .i64 xd,.slice A0 n0 c0] 24)) 26 #[.int .i64 ld,.slice A n c,.int .i64 hd,.slice A2 n2 c2]
  rwa [World.size_alloc] at h)
 have HZ:=ja (Rd.below hz (h01.mono hB));have HX:=ja (Rd.below hx (h01.mono hB));have HY:=ja (Rd.below hy (h01.mono hB))
 have HB0:=ja h01
 have HSG:=ja (za5 xd A0 n0 c0 xt B w0 HZ.o (by omega))
 clear hz hx hy h01
 go_enter Tryz.func34,Tryz.ntmps34
 go_wp2_with fail
 rw[<-hw0]
 clear hw0
 obtain⟨x0,x1,_,_⟩:=HX0.o.two
 obtain⟨y0,y1,y2,y3⟩:=HP0.o.four
 go_wp2_with (first
  | (go_at_call 29;refine HSG.o.mono ?_;rintro e w1 ⟨s,f,rfl,hsr,hb1⟩
     have HB1:=ja (HB0.o.trans (hb1.mono (by omega)))
     have HP1:=ja (HP0.o.below hb1 (by omega))
     have HIP:=ja (jbz9 ld A n c lt hd A2 n2 c2 ht B w1 (Rd.below HX.o (hb1.mono (by omega))) (Rd.below HY.o (hb1.mono (by omega))) (by have:=HB1.o.size;omega))
     obtain⟨z0,z1,z2,z3⟩:=HP1.o.four
     have HSR:=ja hsr
     clear hb1 hsr)
  | (go_at_call 78;refine HIP.o.mono ?_;rintro e w2 ⟨p,rfl,hpr,hb2⟩
     have HB2:=ja (HB1.o.trans (hb2.mono HB1.o.size))
     have HPR:=ja hpr
     clear hb2 hpr))
 all_goals go_ret
 all_goals first
  | exact⟨_,rfl,⟨s,f,HSR.o,.inr ⟨by simp_all,p,HPR.o,by simp_all⟩⟩,HB2.o⟩
  | exact⟨_,rfl,⟨s,f,HSR.o,.inl ⟨by simp_all,rfl⟩⟩,HB1.o⟩
  | (trace_state;fail)
def zv2(gf:Nat)(g:Int->List (Int×Int)->Int->List (Int×Int)->Int×List (Int×Int)×Int):Prop:=
 (∀(xd:Int) (xA:Option Addr) (xn xc:Nat) (xt:List (Int×Int)) (yd:Int) (yA:Option Addr) (yn yc:Nat) (yt:List (Int×Int)) (B:Nat) (w:World),ji w B xA xn xc xt->ji w B yA yn yc yt->B<=w.heap.size ->
  Calls Tryz.prog gf #[.agg #[.int .i64 xd,.slice xA xn xc],.agg #[.int .i64 yd,.slice yA yn yc]] w (jV w (g xd xt yd yt)))/\(∀args w,(callFunc gf args).run Tryz.prog w=.ok (.enter gf args) w)
theorem jbn9:zv2 36 jc7:=⟨λxd xA xn xc xt yd yA yn yc yt B w h1 h2 h3=>jap3 xd xA xn xc xt yd yA yn yc yt B w h1 h2 h3,λargs w=>enters_of Tryz.func36 (by kernel_rfl) rfl args w⟩
theorem jbp0:zv2 38 jn7:=⟨λxd xA xn xc xt yd yA yn yc yt B w h1 h2 h3=>jcd1 xd xA xn xc xt yd yA yn yc yt B w h1 h2 h3,λargs w=>enters_of Tryz.func38 (by kernel_rfl) rfl args w⟩
theorem jbp1:zv2 28 (λxd xt yd yt=>jL xd xt yd yt (-1)):=⟨λxd xA xn xc xt yd yA yn yc yt B w h1 h2 h3=>Qb xd xA xn xc xt yd yA yn yc yt B w h1 h2 h3,λargs w=>enters_of Tryz.func28 (by kernel_rfl) rfl args w⟩
theorem jby0(gf:Nat)(n:Int)(w:World):Calls Tryz.prog 37 #[.func (.func gf) #[] #[],.int .i64 n] w λe w'=>
  e=.returned (.func (.func 80) #[] #[.pointer (some ⟨w.heap.size,0,none⟩),.pointer (some ⟨w.heap.size+1,0,none⟩)])/\w'=(w.alloc (.cells #[.func (.func gf) #[] #[]] 76)).alloc (.cells #[.int .i64 n] 3):=by
 go_enter Tryz.func37,Tryz.ntmps37
 go_wp2
 go_ret
 exact⟨by simp,rfl⟩
theorem jaz0(args:Array Value)(w:World):(callFunc 80 args).run Tryz.prog w=.ok (.enter 80 args) w:=enters_of Tryz.func80 (by kernel_rfl) rfl args w
theorem jch1 {gf:Nat} {g:Int->List (Int×Int)->Int->List (Int×Int)->Int×List (Int×Int)×Int} (hf:zv2 gf g) (b1 b2:Nat) (m:Int) (xd:Int) (xA:Option Addr) (xn xc:Nat) (xt:List (Int×Int)) (ld:Int) (lA:Option Addr) (ln lc:Nat) (B:Nat) (w:World)
  (h1:w.cell? ⟨b1,0,none⟩=some (.func (.func gf) #[] #[])) (h2:w.cell? ⟨b2,0,none⟩=some (.int .i64 m)) (hx:ji w B xA xn xc xt) (hB:B<=w.heap.size) :
  Calls Tryz.prog 80 #[.agg #[.int .i64 xd,.slice xA xn xc],.agg #[.int .i64 ld,.slice lA ln lc],.pointer (some ⟨b1,0,none⟩),.pointer (some ⟨b2,0,none⟩)] w (jV w (g xd xt (jI m).1 (jI m).2)):=by
 obtain⟨w0,hw0⟩:∃w0,w0=((w.alloc (.cells #[.int .i64 xd,.slice xA xn xc] 24)).alloc (.cells #[.int .i64 ld,.slice lA ln lc] 24)).alloc (.cells #[.int .i64 0,.slice none 0 0] 24):=⟨_,rfl⟩
 have hz0:w0.heap.size=w.heap.size+3:=by rw[hw0];simp
 have h01:Below w.heap.size w w0:=by rw[hw0];exact(((Below.refl _ _).alloc (Nat.le_refl _) _).alloc (by simp) _).alloc (by simp;omega) _
 have HX0:Hid (jh w0 w.heap.size 24 #[.int .i64 xd,.slice xA xn xc]):=ja (by rw[hw0];exact((jh.new w _ _).alloc _).alloc _)
 have HR0:Hid (jh w0 (w.heap.size+2) 24 #[.int .i64 0,.slice none 0 0]):=ja (by
  rw[hw0]
  have h:=jh.new ((w.alloc (.cells #[.int .i64 xd,.slice xA xn xc] 24)).alloc (.cells #[.int .i64 ld,.slice lA ln lc] 24)) 24 #[.int .i64 0,.slice none 0 0]
  rwa [World.size_alloc,World.size_alloc] at h)
 have hl1:b1<w.heap.size:=World.block_lt_of_cell? _ _ h1
 have hl2:b2<w.heap.size:=World.block_lt_of_cell? _ _ h2
 have HC1:=ja ((h01.cell (p:=⟨b1,0,none⟩) hl1).trans h1)
 have HC2:=ja ((h01.cell (p:=⟨b2,0,none⟩) hl2).trans h2)
 have HT0:=ja (Rd.below hx (h01.mono hB))
 have HB0:=ja h01
 have HWN:=ja (λW=>jk3 m W)
 have HDO:=ja hf.1
 have eg:=hf.2
 generalize jI m=wn at *
 obtain⟨d0,xt0⟩:=wn
 dsimp only
 clear hx h01 h1 h2 hf
 have hpost:∀(W:World) (a:Act) (A:Option Addr) (n c:Nat),W.ownsRow w.heap.size 59 2 (.slice A n c) n (jr (g xd xt d0 xt0).2.1)->Below w.heap.size w W->jh W (w.heap.size+2) 24 #[.int .i64 (g xd xt d0 xt0).1,.slice A n c] ->
   a.tmps.getD 6 undef=.pointer (some ⟨w.heap.size+2,0,none⟩)->a.tmps.getD 7 undef=.int .i64 (g xd xt d0 xt0).2.2->a.defers=[] ->
   bodyPost Tryz.prog Tryz.f80 (jV w (g xd xt d0 xt0)) .ret a W:=by
  intro W a A n c e2 e3 e4 e5 e6 e7
  refine jq (p:=6) (u:=7) (ty:=24) rfl e5 e4 Tryz.underlying24 rfl Tryz.sizeNumber e7 ?_
  rw[e6]
  exact⟨A,n,c,rfl,e2,e3⟩
 have HPOST:=ja hpost
 clear hpost
 go_enter Tryz.func80,Tryz.ntmps80
 go_wp2
 rw[<-hw0]
 clear hw0
 obtain⟨x0,x1,xf0,xf1⟩:=HX0.o.two
 obtain⟨r0,r1,rf0,rf1⟩:=HR0.o.two
 have hc1:=HC1.o
 have hc2:=HC2.o
 have hbd:Hid (Below w0.heap.size w0 w0.drew):=ja (Below.drew (Below.refl _ _))
 go_region_law (first
  | (go_simp;go_at_call 50;refine(HWN.o _).mono ?_;rintro e w3 ⟨A3,n3,c3,rfl,ho3,hb3⟩
     have hb3:Below w0.heap.size w0 w3:=hbd.o.trans hb3
     have hz3:=hb3.size
     have HX3:=ja (HX0.o.below hb3 (by omega));have HR3:=ja (HR0.o.below hb3 (by omega));have HB3:=ja (HB0.o.trans (hb3.mono (by omega)))
     have HT3:=ja (Rd.below HT0.o (hb3.mono (by omega)))
     have hc13:=(hb3.cell (p:=⟨b1,0,none⟩) (by show b1<_;omega)).trans hc1
     obtain⟨y0,y1,yf0,yf1⟩:=HX3.o.two
     have HDO3:=ja (HDO.o xd xA xn xc xt d0 A3 n3 c3 xt0 w3.heap.size w3 (Rd.more HT3.o (by omega)) (Rd.of_own ho3) (Nat.le_refl _))
     clear ho3 hb3)
  | (go_simp;refine HDO3.o.mono ?_;rintro e w5 ⟨A5,n5,c5,rfl,ho5,hb5⟩
     have HR5:=ja (HR3.o.below hb5 (by omega));have HB5:=ja (HB3.o.trans (hb5.mono (by omega)))
     obtain⟨z0,z1,zf0,zf1⟩:=HR5.o.two
     have HO5:=ja ho5
     clear hb5 ho5))
 all_goals
  go_wp2
  exact HPOST.o _ _ A5 n5 c5 (jC (jC (jO (base':=w.heap.size) HO5.o (by omega)) HR5.o (by decide)) (HR5.o.set_ 0 _) (by decide)) (Below.setCell (Below.setCell HB5.o (p:=⟨w.heap.size+2,0,none⟩) (by simp) _) (p:=⟨w.heap.size+2,1,none⟩) (by simp) _) ((HR5.o.set_ 0 _).set_ 1 _) rfl rfl rfl
abbrev Num:=Int×List (Int×Int)
abbrev jb6:=Num->Num->Int×List (Int×Int)×Int
def jk9(r:Int×List (Int×Int)×Int):Num:=(r.1,r.2.1)
def jp0:List jb6->Num->Num->Num->Num->Num×Num×Int
 | [],a,b,_,_=>(a,b,0)
 | g::gs,a,b,lo,hi=>
  if(g a lo).2.2≠0 then(a,b,(g a lo).2.2)
  else if(g b hi).2.2≠0 then(a,b,(g b hi).2.2)
  else jp0 gs (jk9 (g a lo)) (jk9 (g b hi)) lo hi
def Jo(w0:World)(R:Nat->Prop)(v:Value)(g:jb6):Prop:=
 ∃gf lb,v=.func (.func gf) #[] lb/\(∀args w,(callFunc gf args).run Tryz.prog w=.ok (.enter gf args) w) /\
  ∀(W:World),KeepB R w0 W->∀(xd:Int) (xA:Option Addr) (xn xc:Nat) (xt:List (Int×Int)) (yd:Int) (yA:Option Addr) (yn yc:Nat) (yt:List (Int×Int)) (B:Nat),ji W B xA xn xc xt->ji W B yA yn yc yt->B<=W.heap.size ->
   Calls Tryz.prog gf (#[.agg #[.int .i64 xd,.slice xA xn xc],.agg #[.int .i64 yd,.slice yA yn yc]]++lb) W (jV W (g (xd,xt) (yd,yt)))
theorem Jo.keep{w0 w1:World}{R:Nat->Prop}{v:Value}{g:jb6}(h:Jo w0 R v g)(hb:KeepB R w0 w1):Jo w1 R v g:=by
 obtain⟨gf,lb,h1,h2,h3⟩:=h
 exact⟨gf,lb,h1,h2,λW hW=>h3 W (hb.trans hW)⟩
theorem Jo.mono{w0:World}{R R':Nat->Prop}{v:Value}{g:jb6}(h:Jo w0 R v g)(hb:∀b,R b->R' b):Jo w0 R' v g:=by
 obtain⟨gf,lb,h1,h2,h3⟩:=h
 exact⟨gf,lb,h1,h2,λW hW=>h3 W (hW.mono hb)⟩
theorem Jo.of_num{gf:Nat}{g:Int->List (Int×Int)->Int->List (Int×Int)->Int×List (Int×Int)×Int}(h:zv2 gf g)(w:World)(R:Nat->Prop):Jo w R (.func (.func gf) #[] #[]) (λx y=>g x.1 x.2 y.1 y.2):=
 ⟨gf,#[],rfl,h.2,λW _ xd xA xn xc xt yd yA yn yc yt B hx hy hB=>h.1 xd xA xn xc xt yd yA yn yc yt B W hx hy hB⟩
theorem Jo.of_by {gf:Nat} {g:Int->List (Int×Int)->Int->List (Int×Int)->Int×List (Int×Int)×Int} (h:zv2 gf g) {w:World} {b1 b2:Nat} {m:Int} (h1:w.cell? ⟨b1,0,none⟩=some (.func (.func gf) #[] #[])) (h2:w.cell? ⟨b2,0,none⟩=some (.int .i64 m)) :
  Jo w (λb=>b=b1\/b=b2) (.func (.func 80) #[] #[.pointer (some ⟨b1,0,none⟩),.pointer (some ⟨b2,0,none⟩)]) (λx _=>g x.1 x.2 (jI m).1 (jI m).2):=by
 refine⟨_,_,rfl,jaz0,λW hW xd xA xn xc xt yd yA yn yc yt B hx hy hB=>?_⟩
 exact jch1 h b1 b2 m xd xA xn xc xt yd yA yn yc B W ((World.cell?_of_block (hW.same b1 (.inl rfl))).trans h1) ((World.cell?_of_block (hW.same b2 (.inr rfl))).trans h2) hx hB
theorem Rd.keepB{w w':World}{R:Nat->Prop}{B k n c:Nat}{A:Option Addr}{xs:List Value}(h:Rd w B k A n c xs)(hk:KeepB R w w')(hR:∀b,b<B->R b):Rd w' B k A n c xs:=by
 refine⟨h.1,h.2.1,h.2.2.1,?_⟩
 rcases h.2.2.2 with h0|⟨ad,rfl,hb,hc⟩
 ·exact .inl h0
 ·refine .inr ⟨ad,rfl,hb,λj u hu=>?_⟩
  exact(World.cell?_of_block (hk.same _ (by rw[jH];exact hR _ hb))).trans (hc j u hu)
def jbf6(x:Num)(gs:List jb6)(lo hi:Num)(den:Int)(low high c:Int):Prop:=
 ((jc7 x.1 x.2 x.1 x.2).2.2≠0/\low=0/\high=0/\c=(jc7 x.1 x.2 x.1 x.2).2.2) \/
 ((jc7 x.1 x.2 x.1 x.2).2.2=0/\∃r,jp0 gs (jk9 (jc7 x.1 x.2 x.1 x.2)) (jk9 (jc7 x.1 x.2 x.1 x.2)) lo hi=r /\
  ((r.2.2≠0/\low=0/\high=0/\c=r.2.2) \/
    (r.2.2=0/\∃l1 h1 c1,qc r.1.1 r.1.2 den l1 h1 c1 /\
     ((c1≠0/\low=0/\high=0/\c=c1)\/(c1=0/\∃l2,qc r.2.1.1 r.2.1.2 den l2 high c/\low=l1)))))
attribute [local go_sem] Oper.semAt_some
def qZ:Nat->ByteArray->Nat->List Int
 | 0,_,_=>[]
 | f+1,s,pos=>if pos<s.size then((Utf8.decode s pos).1:Int)::qZ f s (pos+(Utf8.decode s pos).2)else []
def zp2:Int->List UInt8->List Int->List (Int×Int)
 | _,_,[]=>[]
 | sg,ds,c::cs=>if 48<=c/\c<=57 then zp2 sg (ds++[UInt8.ofNat c.toNat]) cs else(sg,zh2 ds)::zp2 c [] cs
def zY(s:ByteArray):ByteArray:=s++⟨#[46]⟩
def zf8(s:ByteArray):List (Int×Int):=zp2 0 [] (qZ ((zY s).size+1) (zY s) 0)
def encK(x:Int×Int):Array Value:=#[.int .i32 x.1,.int .i64 x.2]
theorem jas8 {w:World} {b:Nat} {s:ByteArray} {pos:Nat} (h:w.heap[b]?=some (.stringIter s pos)) (ty:TypeId) (hp:pos<s.size) :
  (Instr.next (.pointer (some ⟨b,0,none⟩)) true ty).run Tryz.prog w=.ok (.tuple #[.bool true,.int .i64 pos,.int .i32 (Utf8.decode s pos).1]) (w.putObj b (.stringIter s (pos+(Utf8.decode s pos).2))):=by
 simp only[Instr.next,getObj,setObj,Sem.run_bind,Sem.run,h,Result.andThen,hp,if_true]
 simp[goInt,World.putObj,Result.andThen]
theorem zf7 {w:World} {b:Nat} {s:ByteArray} {pos:Nat} (h:w.heap[b]?=some (.stringIter s pos)) (ty:TypeId) (hp:¬pos<s.size) :
  (Instr.next (.pointer (some ⟨b,0,none⟩)) true ty).run Tryz.prog w=.ok (.tuple #[.bool false]) w:=by
 simp only[Instr.next,getObj,setObj,Sem.run_bind,Sem.run,h,Result.andThen,hp,if_false]
 simp[Sem.run,Result.andThen]
theorem jac5(s:ByteArray)(pos:Nat):1<=(Utf8.decode s pos).2:=by
 simp only[Utf8.decode]
 repeat' split
 all_goals simp
theorem jac6{c:Int}(h:48<=c/\c<=57):Utf8.encode c=⟨#[UInt8.ofNat c.toNat]⟩:=by
 unfold Utf8.encode
 have h1:Utf8.valid c=true:=by unfold Utf8.valid;simp;omega
 have h2:c.toNat<128:=by omega
 simp[h1,h2]
attribute [local go_sem] Oper.semAt_some
def jcn9(W0:World)(b1:Nat)(s:ByteArray)(J:List (Int×Int)->World->Prop)(u v:Value)(A:World):Prop:=
 ∃(pre:List (Int×Int)) (pos fuel:Nat) (ds:List UInt8) (g:Int),u=.int .i32 g/\v=.string ⟨ds.toArray⟩/\ds.length<=pos/\A.heap[W0.heap.size]?=some (.stringIter (zY s) pos)/\(zY s).size<pos+fuel /\
  pre++zp2 g ds (qZ fuel (zY s) pos)=zf8 s/\J pre A/\W0.heap.size+1<=A.heap.size/\Jm A/\A.cell? ⟨b1,0,none⟩=some (.string s)
theorem jn1{w:World}{k:Nat}{s:ByteArray}{p:Nat}(h:w.heap[k]?=some (.stringIter s p)):w.iterPos k=p:=by simp[World.iterPos,h]
theorem jbc9 {s:ByteArray} {pos:Nat} (h:¬pos<s.size):∀f,qZ f s pos=[]
 | 0=>rfl
 | f+1=>by unfold qZ;rw[if_neg h]
theorem zt4 (b1:Nat) (s:ByteArray) (w0:World) (h1:w0.cell? ⟨b1,0,none⟩=some (.string s)) (hs:s.size<=100000) (hE:Jm w0) :
  jk6 Tryz.prog 118 #[.pointer (some ⟨b1,0,none⟩)] encK (λys=>ys=zf8 s) (λpre=>∃rest,pre++rest=zf8 s) (λc=>c=b1\/jv9 c) 1 w0:=by
 intro l J Jx W hW hJ hJx hY h0
 have hl1:b1<w0.heap.size:=World.block_lt_of_cell? _ _ h1
 have hWz:=hW.size
 have hc1:W.cell? ⟨b1,0,none⟩=some (.string s):=(hW.cell (p:=⟨b1,0,none⟩) hl1).trans h1
 have HE:=ja (hE.below hW (Nat.le_refl _))
 have HEL:=ja (λb (hb:jv9 b)=>Nat.lt_of_lt_of_le (hE.lt hb) hWz)
 have HY:=ja hY;clear hY
 have HJ:=ja hJ;clear hJ
 have HJx:=ja hJx;clear hJx
 have H0:=ja h0;clear h0
 have HAT:=ja (λn l W h1 h2=>(callsIn_wide (n:=n)).2 (jbv8 l W h1 h2))
 have hdz:(zY s).size=s.size+1:=by rw[show zY s=s++⟨#[46]⟩from rfl,ByteArray.size_append];rfl
 clear h1 hE hW
 refine callsIn_of_wp Tryz.func118 rfl trivial ?_
 simp only[Tryz.ntmps118,List.size_toArray,List.length_cons,List.length_nil,Nat.reduceAdd,Nat.reduceSub,Array.replicate_succ,Array.replicate_zero,List.push_toArray,List.append_toArray,List.nil_append,List.cons_append]
 gi_wp2
 gi_loopw [3,4] (λu v A=>jcn9 W b1 s J u v A) (λ_ _ A=>(zY s).size-A.iterPos W.heap.size)
 case atStart=>
  have hg:W.grownBy (W.iter (s++⟨#[46]⟩) 0) none:=World.grownBy_alloc _ _ _
  refine⟨[],0,(zY s).size+1,[],0,rfl,rfl,by simp,World.iter_heap _ _ _,by omega,rfl,HJ.o _ _ _ none H0.o hg (by simp),by simp[World.iter],HE.o.same (λb hb=>hg.block b (HEL.o b hb) (by simp)),(hg.cell hc1 (by simp))⟩
 case round=>
  obtain⟨pre,pos,fuel,ds,g,rfl,rfl,hds,hit,hfu,hp,hJp,hsz,her,hcb⟩:=hrel
  have HIT:=ja hit;have HP:=ja hp;have HJp:=ja hJp;have HER:=ja her
  clear hit hp hJp her
  by_cases hpos:pos<(zY s).size
  ·have hnx:=λty=>jas8 HIT.o ty hpos
   have hwd:=jac5 (zY s) pos
   have hcl:=decode_le (zY s) pos
   obtain⟨f,rfl⟩:∃f,fuel=f+1:=⟨fuel-1,by omega⟩
   have hp:=HP.o
   rw[qZ,if_pos hpos] at hp
   generalize hdec:Utf8.decode (zY s) pos=dc at *
   obtain⟨rn,wd⟩:=dc
   dsimp only at hp hwd hcl hnx
   gi_upto_region 4 with fail
   obtain⟨V,hV⟩:∃V,V=wr.putObj W.heap.size (.stringIter (zY s) (pos+wd)):=⟨_,rfl⟩
   have hgV:wr.grownBy V (some W.heap.size):=by rw[hV];exact jZ _ _
   have hzV:V.heap.size=wr.heap.size:=by rw[hV];simp
   have HITV:Hid (V.heap[W.heap.size]?=some (.stringIter (zY s) (pos+wd))):=ja (by rw[hV];exact World.putObj_heap_same (by omega))
   have HJV:=ja (HJ.o _ _ _ _ HJp.o hgV (λb e=>by cases e;omega))
   have HERV:=ja (HER.o.same (λb hb=>hgV.block b (by have:=HEL.o b hb;omega) (λe=>by have:=HEL.o b hb;simp at e;omega)))
   have HCV:=ja (hgV.cell hcb (λe=>by simp at e;omega))
   rw[<-hV]
   have HPM:=ja (jn1 HIT.o)
   have HPV:=ja (jn1 HITV.o)
   have HP2:=ja hp
   clear hV hgV hnx hp HP HIT HJp HER hcb
   obtain⟨c,hc⟩:∃c:Int,c=(rn:Int):=⟨_,rfl⟩
   have hcb:0<=c/\c<=2147483647:=by omega
   rw[<-hc]
   have hp:=HP2.o
   rw[<-hc] at hp
   clear hc hcl HP2
   by_cases hdg:48<=c/\c<=57
   ·rw[zp2,if_pos hdg] at hp
    have HP3:=ja hp
    have hen:=jac6 hdg
    obtain⟨hd1,hd2⟩:=hdg
    clear hp
    gi_wp2
    go_roundw
    case rel=>
     refine⟨pre,pos+wd,f,ds++[UInt8.ofNat c.toNat],g,rfl,?_,by simp;omega,HITV.o,by omega,HP3.o,HJV.o,by omega,HERV.o,HCV.o⟩
     have h1:(⟨ds.toArray⟩:ByteArray)++⟨#[UInt8.ofNat c.toNat]⟩=⟨(ds++[UInt8.ofNat c.toNat]).toArray⟩:=zn9 ds [UInt8.ofNat c.toNat]
     rw[h1]
    case measure=>rw[HPM.o,HPV.o];omega
   ·rw[zp2,if_neg hdg] at hp
    have HP3:=ja hp
    clear hp
    have HA1:=ja (λn=>HAT.o n ds V (by omega) HERV.o)
    unfold jah0 at HA1
    generalize zh2 ds=av at *
    by_cases h48:48<=c
    all_goals
     gi_wp2_with fail
     refine⟨trivial,rfl,CallsIn.mono (HA1.o _) ?_⟩
     rintro e V1 ⟨v,er,rfl,her,hb1⟩
     have hz1:=hb1.size
     have HIT1:=ja ((hb1.block W.heap.size (by omega)).trans HITV.o)
     have HJ1:=ja (HJ.o _ _ _ none HJV.o (jX hb1 none) (by simp))
     have HER1:=ja (HERV.o.below hb1 (Nat.le_refl _))
     have HC1:=ja ((hb1.cell (p:=⟨b1,0,none⟩) (by show b1<_;omega)).trans HCV.o)
     have hspx:∃rest,pre++[(g,av)]++rest=zf8 s:=⟨zp2 c [] (qZ f (zY s) (pos+wd)),by rw[List.append_assoc];exact HP3.o⟩
     obtain⟨fn,tm,as_,bd,hy,hR⟩:=HY.o pre (g,av) V1 hspx HJ1.o (by omega)
     have HR:=ja hR
     have HSP:=ja hspx
     clear hR hb1 hspx HA1
     simp only[encK] at hy
     rcases her with⟨rfl,rfl⟩|⟨⟨t,q,rfl⟩,hav⟩
     case' inr=>subst hav
     all_goals
      gi_wp2_with (first
       | (refine⟨rfl,HR.o.mono ?_⟩
          rintro e V3 hV3
          obtain⟨bb,rfl,hT,hF⟩:=zp4 hV3
          have HT:=ja hT;have HF:=ja hF
          clear hT hF hV3))
      ·rename_i hbb
       have hb2:bb=false:=by simpa using hbb
       subst hb2
       have h:=HF.o rfl
       refine bodyPost_ret (results_none rfl _ _ _) rfl ?_
       exact⟨⟨_,rfl⟩,.inr ⟨_,HSP.o,h.1⟩⟩
      ·rename_i hbb
       have hb2:bb=true:=by simpa using hbb
       subst hb2
       have h:=HT.o rfl
       have hk:=h.2.size
       have hit3:=(h.2.same W.heap.size (.inr (by omega))).trans HIT1.o
       refine⟨⟨_,pos+wd,f,[],c,rfl,rfl,by simp,hit3,by omega,by rw[List.append_assoc];exact HP3.o,h.1,by omega,HER1.o.same (λb hb=>h.2.same b (.inl (.inr hb))),(World.cell?_of_block (h.2.same b1 (.inl (.inl rfl)))).trans HC1.o⟩,?_⟩
       rw[HPM.o,jn1 hit3];omega
  ·have hnx:=λty=>zf7 HIT.o ty hpos
   have hp:=HP.o
   rw[jbc9 hpos] at hp
   simp only[zp2,List.append_nil] at hp
   gi_wp2
   go_end0
   exact⟨⟨_,rfl⟩,.inl ⟨_,rfl,hp▸HJp.o⟩⟩
def jcn3(p q:PieceV):Prop:=∀a b,p.A=some a->q.A=some b->a.block≠b.block
structure PState(w:World)(base:Nat)(W:World)(wh:Int)(A:Option Addr)(c:Nat)(l:List PieceV):Prop where
 blk:jh W w.heap.size 43 #[.int .i64 wh,.slice A l.length c]
 row:W.ownsRow base 94 2 (.slice A l.length c) l.length (jB (l.map PieceV.enc))
 marks:∀p∈l,W.ownsRow base 3 1 (.slice p.A p.n p.c) p.n (p.ms.map (Value.int .i64))
 apart:l.Pairwise jcn3
 below:Below w.heap.size w W
theorem zS{w:World}{b1 b2 s1 s2 n1 n2:Nat}{e1 e2:TypeId}{v1 v2:Value}{xs1 xs2:List Value}(h1:w.ownsRow b1 e1 s1 v1 n1 xs1)(h2:w.ownsRow b2 e2 s2 v2 n2 xs2)(hne:e1≠e2){g:Nat}(hg:v1.ownBlock=some g):v2.ownBlock≠some g:=by
 intro hg2
 rcases h1.2 with⟨rfl,_⟩|⟨g1,c1,cur1,rfl,_,hh1,_⟩
 ·simp[Value.ownBlock] at hg
 ·rcases h2.2 with⟨rfl,_⟩|⟨g2,c2,cur2,rfl,_,hh2,_⟩
  ·simp[Value.ownBlock] at hg2
  ·simp only[Value.ownBlock,Option.some.injEq] at hg hg2
   subst hg
   subst hg2
   rw[hh1] at hh2
   simp only[Option.some.injEq,Obj.cells.injEq] at hh2
   exact hne hh2.2.1
section
variable {w W W' : World} {base : Nat} {wh : Int} {A : Option Addr} {c : Nat} {l : List PieceV}
theorem PState.grown(h:PState w base W wh A c l){row:Option Nat}(hg:W.grownBy W' row)(hr:∀b,row=some b->w.heap.size<b/\b<base):PState w base W' wh A c l:=
 ⟨h.blk.grown hg (λe=>by have:=hr _ e;omega),zF h.row hg (λg e1 e2=>by have:=(h.row.lt g e1).1;have:=hr g e2;omega),
  λp hp=>zF (h.marks p hp) hg (λg e1 e2=>by have:=((h.marks p hp).lt g e1).1;have:=hr g e2;omega),h.apart,
  h.below.grown hg h.below.size (λj e=>by have:=hr j e;omega)⟩
theorem PState.whole(h:PState w base W wh A c l)(hb:w.heap.size<base)(v:Int):PState w base (W.setCell ⟨w.heap.size,0,none⟩ (.int .i64 v)) v A c l:=
 ⟨h.blk.set_ 0 _,ownsRow_setCell_below h.row hb _,λp hp=>ownsRow_setCell_below (h.marks p hp) hb _,h.apart,h.below.setCell (p:=⟨w.heap.size,0,none⟩) (by simp) _⟩
theorem PState.piece (h:PState w base W wh A c l) (hb:w.heap.size<base) {o:Obj} {w3:World} {g cap:Nat} {mi:Bool}
  (hown:w3.ownsRow base 94 2 (.slice (some ⟨g,0,none⟩) (l.length+1) cap) (l.length+1) (jB (l.map PieceV.enc)++[.bool mi,.slice none 0 0]))
  (hg:(W.alloc o).grownBy w3 (Value.slice A l.length c).ownBlock) :
  PState w base (w3.setCell ⟨w.heap.size,1,none⟩ (.slice (some ⟨g,0,none⟩) (l.length+1) cap)) wh (some ⟨g,0,none⟩) cap (l++[⟨mi,none,0,0,[]⟩]):=by
 have hbl:∀g,(Value.slice A l.length c).ownBlock=some g->base<=g:=λg e=>(h.row.lt g e).1
 have hm3:∀p∈l,w3.ownsRow base 3 1 (.slice p.A p.n p.c) p.n (p.ms.map (Value.int .i64)):=λp hp=>
  zF ((h.marks p hp).alloc _) hg (λg' e1=>zS (h.marks p hp) h.row (by decide) e1)
 refine⟨?_,?_,?_,?_,?_⟩
 ·rw[List.length_append,List.length_singleton]
  exact((h.blk.alloc o).grown hg (λe=>by have:=hbl _ e;omega)).set_ 1 _
 ·rw[Jt,List.length_append,List.length_singleton]
  exact ownsRow_setCell_below hown hb _
 ·intro p hp
  rcases List.mem_append.1 hp with h'|h'
  ·exact ownsRow_setCell_below (hm3 p h') hb _
  ·rw[List.mem_singleton] at h'
   subst h'
   exact⟨rfl,.inl ⟨rfl,rfl⟩⟩
 ·refine List.pairwise_append.2 ⟨h.apart,List.pairwise_singleton _ _,λp hp q hq=>?_⟩
  rw[List.mem_singleton] at hq
  subst hq
  intro a b _ e
  simp at e
 ·exact((h.below.alloc h.below.size o).grown hg (by have:=h.below.size;simp;omega) (λj e=>by have:=hbl j e;omega)).setCell (p:=⟨w.heap.size,1,none⟩) (by simp) _
theorem PState.mark {p:PieceV} {ga:Nat} (h:PState w base W wh (some ⟨ga,0,none⟩) c (l++[p])) (hb:w.heap.size<base) {w1 w3:World} (h1:W.grownBy w1 none) {g cap:Nat} {v:Int}
  (hown:w3.ownsRow base 3 1 (.slice (some ⟨g,0,none⟩) (p.n+1) cap) (p.n+1) (p.ms.map (Value.int .i64)++[.int .i64 v]))
  (hg:w1.grownBy w3 (Value.slice p.A p.n p.c).ownBlock) (hat:(Value.slice p.A p.n p.c).ownBlock=some g\/W.heap.size<=g) :
  PState w base (w3.setCell ⟨ga,l.length*2+1,none⟩ (.slice (some ⟨g,0,none⟩) (p.n+1) cap)) wh (some ⟨ga,0,none⟩) c (l++[⟨p.minus,some ⟨g,0,none⟩,p.n+1,cap,p.ms++[v]⟩]):=by
 have hpl:p∈l++[p]:=by simp
 have hga:base<=ga:=(h.row.lt ga rfl).1
 have hbl:∀g,(Value.slice p.A p.n p.c).ownBlock=some g->base<=g:=λg e=>((h.marks p hpl).lt g e).1
 have hw1:PState w base w1 wh (some ⟨ga,0,none⟩) c (l++[p]):=h.grown h1 (by simp)
 have hrow3:w3.ownsRow base 94 2 (.slice (some ⟨ga,0,none⟩) (l++[p]).length c) (l++[p]).length (jB ((l++[p]).map PieceV.enc)):=
  zF hw1.row hg (λg' e1=>zS h.row (h.marks p hpl) (by decide) e1)
 obtain⟨hal,_,hap⟩:=List.pairwise_append.1 h.apart
 have hm3:∀q∈l,w3.ownsRow base 3 1 (.slice q.A q.n q.c) q.n (q.ms.map (Value.int .i64)):=λq hq=>
  zF (hw1.marks q (by simp[hq])) hg (λg' e1 e2=>by
   have h2:=hap q hq p (by simp)
   cases hqa:q.A with
   | none=>rw[hqa] at e1;simp[Value.ownBlock] at e1
   | some a=>
    cases hpa:p.A with
    | none=>rw[hpa] at e2;simp[Value.ownBlock] at e2
    | some b=>
     rw[hqa] at e1
     rw[hpa] at e2
     simp only[Value.ownBlock,Option.some.injEq] at e1 e2
     exact h2 a b hqa hpa (by omega))
 have hne:∀q:PieceV,∀base' n xs,w3.ownsRow base' 3 1 (.slice q.A q.n q.c) n xs->(Value.slice q.A q.n q.c).ownBlock≠some ga:=λq base' n xs hq=>zS hrow3 hq (by decide) rfl
 refine⟨?_,?_,?_,?_,?_⟩
 ·have h2:=(hw1.blk.grown hg (λe=>by have:=hbl _ e;omega)).far (p:=⟨ga,l.length*2+1,none⟩) (by simp;omega) (.slice (some ⟨g,0,none⟩) (p.n+1) cap)
  rw[show(l++[(⟨p.minus,some ⟨g,0,none⟩,p.n+1,cap,p.ms++[v]⟩:PieceV)]).length=(l++[p]).length by simp]
  exact h2
 ·have h2:=hrow3.stored (l.length*2+1) (.slice (some ⟨g,0,none⟩) (p.n+1) cap)
  rw[Jt] at h2 ⊢
  have hlen:(jB (l.map PieceV.enc)).length=l.length*2:=by
   have h3:=h.row.1
   rw[Jt] at h3
   simp only[List.length_append,List.length_cons,List.length_nil] at h3
   omega
  rw[List.set_append_right _ _ (by omega),hlen] at h2
  simpa using h2.1
 ·intro q hq
  rcases List.mem_append.1 hq with h'|h'
  ·exact ownsRow_setCell_other (hm3 q h') (a:=⟨ga,l.length*2+1,none⟩) (hne q _ _ _ (hm3 q h')) _
  ·rw[List.mem_singleton] at h'
   subst h'
   have h3:=ownsRow_setCell_other hown (a:=⟨ga,l.length*2+1,none⟩) (zS hrow3 hown (by decide) rfl) (.slice (some ⟨g,0,none⟩) (p.n+1) cap)
   simpa using h3
 ·refine List.pairwise_append.2 ⟨hal,List.pairwise_singleton _ _,λq hq r hr=>?_⟩
  rw[List.mem_singleton] at hr
  subst hr
  intro a b ha hb' e
  simp only[Option.some.injEq] at hb'
  subst hb'
  have hlt:=(h.marks q (by simp[hq])).lt a.block (by rw[ha];rfl)
  rcases hat with hat|hat
  ·cases hpa:p.A with
   | none=>rw[hpa] at hat;simp[Value.ownBlock] at hat
   | some b=>
    rw[hpa] at hat
    simp only[Value.ownBlock,Option.some.injEq] at hat
    exact hap q hq p (by simp) a b ha hpa (by rw[hat];exact e)
  ·have:a.block=g:=e
   omega
 ·exact((hw1.below).grown hg hw1.below.size (λj e=>by have:=hbl j e;omega)).setCell (p:=⟨ga,l.length*2+1,none⟩) (by show _<=ga;omega) _
end
attribute [local go_sem] Oper.semAt_some
def zf9(l:List (Bool×List Int))(v:Int):List (Bool×List Int):=
 match l.getLast? with
 | none=>l
 | some p=>l.dropLast++[(p.1,p.2++[v])]
def ja7(st:Int×List (Bool×List Int))(x:Int×Int):Int×List (Bool×List Int):=
 if x.1=0 then(x.2,st.2)
 else if x.1=43\/x.1=45 then(st.1,st.2++[(decide (x.1=45),[])])
 else(st.1,zf9 st.2 x.2)
def zs8(l:List (Int×Int)):Int×List (Bool×List Int):=l.foldl ja7 (0,[])
theorem jbp9(l:List (Int×Int))(x:Int×Int):zs8 (l++[x])=ja7 (zs8 l) x:=by unfold zs8;rw[List.foldl_append];rfl
theorem jah8(v:Int):zf9 [] v=[]:=rfl
theorem jac0(l:List (Bool×List Int))(p:Bool×List Int)(v:Int):zf9 (l++[p]) v=l++[(p.1,p.2++[v])]:=by
 unfold zf9
 simp
def ja8(s:ByteArray):Int×List (Bool×List Int)×Int:=
 if 300<s.size then(0,[],5)
 else if ZO (zs8 (zf8 s)).1 (zs8 (zf8 s)).2=true/\(⟨(qH (zs8 (zf8 s)).1 (zs8 (zf8 s)).2).toArray⟩:ByteArray)=s then((zs8 (zf8 s)).1,(zs8 (zf8 s)).2,0)
 else(0,[],4)
theorem zn6:∀(f:Nat) (s:ByteArray) (pos:Nat),(qZ f s pos).length<=f
 | 0,_,_=>by simp[qZ]
 | f+1,s,pos=>by
  unfold qZ
  split
  ·have:=zn6 f s (pos+(Utf8.decode s pos).2)
   simp only[List.length_cons];omega
  ·simp
theorem zp3:∀(cs:List Int) (g:Int) (ds:List UInt8),(zp2 g ds cs).length<=cs.length
 | [],_,_=>by simp[zp2]
 | c::cs,g,ds=>by
  unfold zp2
  split
  ·have:=zp3 cs g (ds++[UInt8.ofNat c.toNat]);simp only[List.length_cons];omega
  ·have:=zp3 cs c [];simp only[List.length_cons];omega
theorem jak2(s:ByteArray):(zY s).size=s.size+1:=by rw[show zY s=s++⟨#[46]⟩from rfl,ByteArray.size_append];rfl
theorem jcg1(s:ByteArray):(zf8 s).length<=s.size+2:=by
 have h1:=zp3 (qZ ((zY s).size+1) (zY s) 0) 0 []
 have h2:=zn6 ((zY s).size+1) (zY s) 0
 have h3:=jak2 s
 unfold zf8
 omega
theorem jbd8(s:ByteArray)(w:World):Calls Tryz.prog 70 #[.string s] w λe w'=>
  e=.returned (.func (.func 118) #[] #[.pointer (some ⟨w.heap.size,0,none⟩)])/\w'=w.alloc (.cells #[.string s] 9):=by
 go_enter Tryz.func70,Tryz.ntmps70
 go_wp2
 go_ret
 exact⟨by simp,rfl⟩
theorem zs3(args:Array Value)(w:World):(callFunc 118 args).run Tryz.prog w=.ok (.enter 118 args) w:=enters_of Tryz.func118 (by kernel_rfl) rfl args w
def jab7(w:World)(base:Nat)(pre:List (Int×Int))(W:World):Prop:=
 ∃(wh:Int) (A:Option Addr) (c:Nat) (l:List PieceV),zs8 pre=(wh,l.map PieceV.flat)/\PState w base W wh A c l/\l.length<=pre.length/\∀p∈l,p.n<=pre.length
theorem jab7.grown{w W W':World}{base:Nat}{pre:List (Int×Int)}(h:jab7 w base pre W){row:Option Nat}(hg:W.grownBy W' row)(hr:∀b,row=some b->w.heap.size<b/\b<base):jab7 w base pre W':=by
 obtain⟨wh,A,c,l,h1,h2,h3,h4⟩:=h
 exact⟨wh,A,c,l,h1,h2.grown hg hr,h3,h4⟩
