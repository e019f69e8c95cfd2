import Derived.Test.YtphcodcdfeohhaaGreatDoorOfsAToRfrP
set_option linter.all false
namespace Go.Proofs.YtphcodcdfeohhaaGreatDoor
set_option maxRecDepth 100000
set_option maxHeartbeats 16000000
open Go Go.RowKit
theorem jah1(w:World):Calls Tryz.prog 44 #[.int .i64 4] w (QY w (1,[(4,1)])):=jt7 4 w
theorem jad4(w:World):Calls Tryz.prog 44 #[.int .i64 1] w (QY w (1,[(1,1)])):=jt7 1 w
def TQ(x:Sl)(ts:List (Int×Int))(W:World):Prop:=∃B,B<=W.heap.size/\jJ W B x.1 x.2.1 x.2.2 ts
instance {x:Sl}{ts:List (Int×Int)}:Kept (TQ x ts):=⟨λ_ _ h hb=>h.elim λB h2=>⟨B,Nat.le_trans h2.1 hb.size,Rq.below h2.2 (hb.mono h2.1)⟩⟩
theorem TQ.read{x:Sl}{ts:List (Int×Int)}{W:World}(h:TQ x ts W):jJ W W.heap.size x.1 x.2.1 x.2.2 ts:=by obtain⟨B,hB,h⟩:=h;exact Rq.more h hB
theorem TQ.of{A:Option Addr}{n c:Nat}{ts:List (Int×Int)}{W:World}(h:jJ W W.heap.size A n c ts):TQ (A,n,c) ts W:=⟨_,Nat.le_refl _,h⟩
abbrev RuS(w:World)(X5:Nat)(xd:Int)(A:Option Addr)(n c:Nat)(ld:Int)(A1:Option Addr)(n1 c1:Nat)(hd:Int)(A2:Option Addr)(n2 c2:Nat)(W:World):Prop:=
 ((Below w.heap.size w W/\w.heap.size<=W.heap.size)/\jh W w.heap.size 24 #[.int .i64 xd,.slice A n c])/\jh W X5 26 #[.int .i64 ld,.slice A1 n1 c1,.int .i64 hd,.slice A2 n2 c2]
instance {w:World}{X5:Nat}{xd:Int}{A:Option Addr}{n c:Nat}{ld:Int}{A1:Option Addr}{n1 c1:Nat}{hd:Int}{A2:Option Addr}{n2 c2:Nat}:Kept (RuS w X5 xd A n c ld A1 n1 c1 hd A2 n2 c2):=
 ⟨λW W' h hb=>Kept.keep (S:=λW=>((Below w.heap.size w W/\w.heap.size<=W.heap.size)/\jh W w.heap.size 24 #[.int .i64 xd,.slice A n c])/\jh W X5 26 #[.int .i64 ld,.slice A1 n1 c1,.int .i64 hd,.slice A2 n2 c2]) W W' h hb⟩
def PvQ(X:Nat)(r:Num×Num×Int)(x y:Sl)(W:World):Prop:=(jh W X 82 #[.int .i64 r.1.1,.slice x.1 x.2.1 x.2.2,.int .i64 r.2.1.1,.slice y.1 y.2.1 y.2.2,.int .i64 r.2.2]/\TQ x r.1.2 W)/\TQ y r.2.1.2 W
instance {X:Nat}{r:Num×Num×Int}{x y:Sl}:Kept (PvQ X r x y):=⟨λ_ _ h hb=>⟨⟨h.1.1.below hb h.1.1.lt,Kept.keep _ _ h.1.2 hb⟩,Kept.keep _ _ h.2 hb⟩⟩
theorem TQ.own{x:Sl}{ts:List (Int×Int)}{W W':World}(h:TQ x ts W)(hk:∀p:Addr,p.block<W.heap.size->W'.cell? p=W.cell? p)(hz:W.heap.size<=W'.heap.size):TQ x ts W':=by
 obtain⟨B,hB,h⟩:=h
 exact⟨B,Nat.le_trans hB hz,h.keep λp hp=>hk p (by omega)⟩
theorem jct5{x:Sl}{ts:List (Int×Int)}{W:World}(h:TQ x ts W){g i:Nat}(hg:ts≠[]->∀ad,x.1=some ad->ad.block≠g)(u:Value):TQ x ts (W.setCell ⟨g,i,none⟩ u):=by
 obtain⟨B,hB,h⟩:=h
 refine⟨B,by simpa using hB,h.1,h.2.1,h.2.2.1,?_⟩
 rcases h.2.2.2 with h0|⟨ad,e,hb,hc⟩
 ·exact .inl h0
 ·refine .inr ⟨ad,e,hb,λj v hv=>?_⟩
  have hne:ts≠[]:=by rintro rfl;simp[jr,jB] at hv
  rw[World.cell?_setCell_other _ _ _ _ (by intro q;exact hg hne ad e (by rw[<-jH ad j,<-q]))]
  exact hc j v hv
theorem TQ.off{x:Sl}{ts:List (Int×Int)}{W:World}{X:Nat}{ka kb ke:Int}{sa sb:Option Addr}{na ca nb cb:Nat}(h:TQ x ts W)(hb:jh W X 82 #[.int .i64 ka,.slice sa na ca,.int .i64 kb,.slice sb nb cb,.int .i64 ke]):ts≠[]->∀ad,x.1=some ad->ad.block≠X:=by
 intro hne ad e hX
 obtain⟨B,hB,h⟩:=h
 obtain⟨t,ts,rfl⟩:=List.exists_cons_of_ne_nil hne
 obtain⟨ad',e',hl,h1,h2⟩:=jbc8 (l:=(t::ts).map jr7) h (i:=0) (by simp)
 rw[e] at e'
 cases e'
 have z:ad.add (0*2)=ad:=by simp[Addr.add]
 rw[z] at h1 h2
 simp only[List.map_cons,List.getElem_cons_zero,jr7] at h1 h2
 have f1:=hb.cell ad.off
 have f2:=hb.cell (ad.off+1)
 have g1:W.cell? ⟨X,ad.off,ad.spot⟩=some (.int .i64 t.1):=by rw[<-hX];exact h1
 rw[hX] at h2
 rw[f2] at h2
 have g2:W.cell? ⟨X,ad.off,none⟩=some (.int .i64 t.1):=by
  unfold World.cell? at g1 ⊢
  rw[show W.heap[X]?=_ from hb] at g1 ⊢
  dsimp only at g1 ⊢
  split at g1
  ·cases g1
  ·rw[if_neg (by decide)];exact g1
 rw[f1] at g2
 clear f1 f2 h1 g1
 generalize ad.off=o at *
 rcases o with _|_|_|_|_|o<;>simp at g2 h2
theorem jcp2{x:Sl}{ts:List (Int×Int)}{W:World}{X:Nat}{ka kb ke:Int}{sa sb:Option Addr}{na ca nb cb:Nat}(h:TQ x ts W)(hb:jh W X 82 #[.int .i64 ka,.slice sa na ca,.int .i64 kb,.slice sb nb cb,.int .i64 ke])(a b c d e:Value):TQ x ts (((((W.setCell ⟨X,0,none⟩ a).setCell ⟨X,1,none⟩ b).setCell ⟨X,2,none⟩ c).setCell ⟨X,3,none⟩ d).setCell ⟨X,4,none⟩ e):=
 have g:=h.off hb
 jct5 (jct5 (jct5 (jct5 (jct5 h g a) g b) g c) g d) g e
def jdb8(w:World)(xd:Int)(xt:List (Int×Int))(ld:Int)(lt:List (Int×Int))(hd:Int)(ht:List (Int×Int))(den:Int)(e:Ending)(w':World):Prop:=∃low high cc,e=.returned (.tuple #[.int .i64 low,.int .i64 high,.int .i64 cc])/\jbt9 (xd,xt) (ld,lt) (hd,ht) (ld,lt) (hd,ht) (1,[(4,1)]) (1,[(4,1)]) den low high cc/\Below w.heap.size w w'
theorem jcz2 (xd:Int) (A:Option Addr) (n c:Nat) (xt:List (Int×Int)) (ld:Int) (A1:Option Addr) (n1 c1:Nat) (lt:List (Int×Int)) (hd:Int) (A2:Option Addr) (n2 c2:Nat) (ht:List (Int×Int)) (den:Int) (w:World)
  (hx:jJ w w.heap.size A n c xt) (hl:jJ w w.heap.size A1 n1 c1 lt) (hh:jJ w w.heap.size A2 n2 c2 ht) :
  Calls Tryz.prog 12 #[.agg #[.int .i64 xd,.slice A n c],.agg #[.int .i64 ld,.slice A1 n1 c1,.int .i64 hd,.slice A2 n2 c2],.int .i64 den,.bool false] w (jdb8 w xd xt ld lt hd ht den):=by
 obtain⟨w0,hw0⟩:∃w0,w0=(w.alloc (.cells #[.int .i64 xd,.slice A n c] 24)).alloc (.cells #[.int .i64 ld,.slice A1 n1 c1,.int .i64 hd,.slice A2 n2 c2] 26):=⟨_,rfl⟩
 obtain⟨X5,hX5⟩:∃X,X=w.heap.size+1:=⟨_,rfl⟩
 have HS:Hid (((Below w.heap.size w w0/\w.heap.size<=w0.heap.size)/\jh w0 w.heap.size 24 #[.int .i64 xd,.slice A n c])/\jh w0 X5 26 #[.int .i64 ld,.slice A1 n1 c1,.int .i64 hd,.slice A2 n2 c2]):=ja (by
  rw[hw0]
  refine⟨⟨⟨((Below.refl _ _).alloc (Nat.le_refl _) _).alloc (by simp) _,by simp;omega⟩,(jh.new w _ _).alloc _⟩,?_⟩
  have h:=jh.new (w.alloc (.cells #[.int .i64 xd,.slice A n c] 24)) 26 #[.int .i64 ld,.slice A1 n1 c1,.int .i64 hd,.slice A2 n2 c2]
  rw[World.size_alloc] at h
  rw[hX5];exact h)
 have HPX:=ja (λW (hb:Below w.heap.size w W)=>Rq.below hx hb)
 have HPL:=ja (λW (hb:Below w.heap.size w W)=>Rq.below hl hb)
 have HPH:=ja (λW (hb:Below w.heap.size w W)=>Rq.below hh hb)
 have HNX:=ja (λW (hb:Below w.heap.size w W)=>QB xd A n c w.heap.size xt W (HPX.o W hb) hb.size)
 have HPI:=ja (λW (hb:Below w.heap.size w W)=>jcy6 ld A1 n1 c1 lt hd A2 n2 c2 ht w.heap.size W (HPL.o W hb) (HPH.o W hb) hb.size)
 clear hx hl hh
 go_enter Tryz.func12,Tryz.ntmps12
 go_upto_region 1 with fail
 rw[<-hX5,<-hw0]
 clear hX5 hw0
 obtain⟨x0,x1,_,_⟩:=HS.o.1.2.two
 obtain⟨y0,y1,y2,y3⟩:=HS.o.2.four
 cases hok:js xd xt
 ·rw[hok] at HNX
  go_wp2_with (first
   | (go_at_call 39;refine(HNX.o _ HS.o.1.1.1).mono ?_;rintro e w1 ⟨rfl,hb⟩
      have HB1:=ja (HS.o.1.1.1.trans (hb.mono HS.o.1.1.2))
      clear hb))
  go_ret3
  exact⟨_,_,_,rfl,.inl ⟨hok,rfl,rfl,rfl⟩,HB1.o⟩
 rw[hok] at HNX
 have HOK:=ja hok
 clear hok
 go_wp2_with (first
  | (go_at_call 39;refine(HNX.o _ HS.o.1.1.1).mono ?_;rintro e w1 ⟨rfl,hb⟩
     have HS1:=ja (Kept.keep (S:=λW=>RuS w X5 xd A n c ld A1 n1 c1 hd A2 n2 c2 W) _ _ HS.o hb)
     clear hb x0 x1 y0 y1 y2 y3
     obtain⟨y0,y1,y2,y3⟩:=HS1.o.2.four))
 refine(HPI.o _ HS1.o.1.1.1).mono ?_
 rintro e w2 ⟨p,rfl,hp,hb⟩
 have HS2:=ja (Kept.keep (S:=λW=>RuS w X5 xd A n c ld A1 n1 c1 hd A2 n2 c2 W) _ _ HS1.o hb)
 have HPV:=ja hp
 clear hb hp y0 y1 y2 y3 HS HS1 HPI HNX
 cases p
 ·have HB2:=ja HS2.o.1.1.1
  go_wp2
  go_ret3
  exact⟨_,_,_,rfl,.inr ⟨HOK.o,false,HPV.o,.inl ⟨rfl,rfl,rfl,rfl⟩⟩,HB2.o⟩
 obtain⟨x0,x1,_,_⟩:=HS2.o.1.2.two
 have HSG:=ja (jbd1 A n c w.heap.size xt w2 (HPX.o w2 HS2.o.1.1.1) HS2.o.1.1.2 (λt ht=>by have:=((jz HOK.o).2.2.2 t ht).1.2.2.2;omega) (Jd HOK.o).1 (Jd HOK.o).2 (by have:=(jz HOK.o).2.2.1;omega))
 go_wp2_with fail
 refine HSG.o.mono ?_
 rintro e w3 ⟨s,rfl,hs,hb⟩
 have HS3:=ja (Kept.keep (S:=λW=>RuS w X5 xd A n c ld A1 n1 c1 hd A2 n2 c2 W) _ _ HS2.o hb)
 have HSN:=ja hs
 clear hb hs x0 x1 HS2 HSG
 by_cases h0:0<s
 rotate_left 1
 focus
  have h0':s<=0:=by omega
  have HB3:=ja HS3.o.1.1.1
  go_wp2
  go_ret3
  exact⟨_,_,_,rfl,.inr ⟨HOK.o,true,HPV.o,.inr ⟨rfl,s,HSN.o,.inl ⟨h0',rfl,rfl,rfl⟩⟩⟩,HB3.o⟩
 obtain⟨m1,m2,m3,hm⟩:∃a b c,jc7 xd xt xd xt=(a,b,c):=⟨_,_,_,rfl⟩
 have HM:=ja hm
 have HTM:=ja (jat5 xd A n c xt xd A n c xt w.heap.size w3 (HPX.o w3 HS3.o.1.1.1) (HPX.o w3 HS3.o.1.1.1) HS3.o.1.1.2)
 rw[hm] at HTM
 have HRES:Hid (∀low high cc,jdd6 (zr3 m3 (m1,m2) (m1,m2) (ld,lt) (hd,ht) (1,[(4,1)]) (1,[(4,1)]) (1,[(1,1)]) (1,[(1,1)])) den low high cc->jbt9 (xd,xt) (ld,lt) (hd,ht) (ld,lt) (hd,ht) (1,[(4,1)]) (1,[(4,1)]) den low high cc):=ja (λlow high cc h=>.inr ⟨HOK.o,true,HPV.o,.inr ⟨rfl,s,HSN.o,.inr ⟨h0,by rw[HM.o];exact h⟩⟩⟩)
 clear hm
 obtain⟨x0,x1,_,_⟩:=HS3.o.1.2.two
 go_upto_region 6 with(first
  | (go_at_call 42;refine HTM.o.mono ?_;rintro e w5 ⟨A5,n5,c5,rfl,ho,hb⟩
     have HS5:=ja (Kept.keep (S:=λW=>RuS w X5 xd A n c ld A1 n1 c1 hd A2 n2 c2 W) _ _ HS3.o (hb.trans ((Below.refl w5.heap.size w5).alloc (Nat.le_refl _) (.cells #[.int .i64 m1,.slice A5 n5 c5] 24) |>.mono hb.size)))
     have HN5:=ja (jh.new w5 24 #[.int .i64 m1,.slice A5 n5 c5])
     have HT5:=ja (TQ.of (Rq.of (ZF (World.ownsRow.alloc ho (.cells #[.int .i64 m1,.slice A5 n5 c5] 24)))))
     clear ho hb))
 clear x0 x1 HS3 HTM HSN HPV
 obtain⟨X11,hX⟩:∃X,X=w5.heap.size:=⟨_,rfl⟩
 rw[<-hX] at HN5 ⊢
 clear hX
 generalize w5.alloc (.cells #[.int .i64 m1,.slice A5 n5 c5] 24)=W5 at *
 obtain⟨x0,x1,_,_⟩:=HN5.o.two
 go_upto_region 9 with fail
 have HS6:=ja (And.intro (Kept.keep (S:=λW=>RuS w X5 xd A n c ld A1 n1 c1 hd A2 n2 c2 W) _ _ HS5.o ((Below.refl W5.heap.size W5).alloc (Nat.le_refl _) (.cells #[.int .i64 m1,.slice A5 n5 c5,.int .i64 m1,.slice A5 n5 c5,.int .i64 m3] 82))) (show PvQ W5.heap.size ((m1,m2),(m1,m2),m3) (A5,n5,c5) (A5,n5,c5) (W5.alloc (.cells #[.int .i64 m1,.slice A5 n5 c5,.int .i64 m1,.slice A5 n5 c5,.int .i64 m3] 82))from⟨⟨jh.new W5 _ _,Kept.keep _ _ HT5.o ((Below.refl W5.heap.size W5).alloc (Nat.le_refl _) _)⟩,Kept.keep _ _ HT5.o ((Below.refl W5.heap.size W5).alloc (Nat.le_refl _) _)⟩))
 have HX13:Hid (w.heap.size<=W5.heap.size/\w.heap.size≠W5.heap.size/\X5≠W5.heap.size):=ja ⟨HS5.o.1.1.2,Nat.ne_of_lt HS5.o.1.2.lt,Nat.ne_of_lt HS5.o.2.lt⟩
 obtain⟨X13,hX⟩:∃X,X=W5.heap.size:=⟨_,rfl⟩
 rw[<-hX] at HS6 HX13 ⊢
 clear hX x0 x1 HN5 HT5 HS5
 generalize W5.alloc (.cells #[.int .i64 m1,.slice A5 n5 c5,.int .i64 m1,.slice A5 n5 c5,.int .i64 m3] 82)=W6 at *
 have HS:=ja HS6.o
 clear HS6
 obtain⟨⟨⟨ra,rat⟩,⟨rb,rbt⟩,re⟩,hr1⟩:∃r,za8 fMul m3 (m1,m2) (m1,m2) (ld,lt) (hd,ht)=r:=⟨_,rfl⟩
 obtain⟨⟨⟨sa,sat⟩,⟨sb,sbt⟩,se⟩,hr2⟩:∃r,za8 fQuo re (ra,rat) (rb,rbt) (1,[(4,1)]) (1,[(4,1)])=r:=⟨_,rfl⟩
 obtain⟨⟨⟨ta,tat⟩,⟨tb,tbt⟩,te⟩,hr3⟩:∃r,za8 fSub se (sa,sat) (sb,sbt) (1,[(1,1)]) (1,[(1,1)])=r:=⟨_,rfl⟩
 have hth:zr3 m3 (m1,m2) (m1,m2) (ld,lt) (hd,ht) (1,[(4,1)]) (1,[(4,1)]) (1,[(1,1)]) (1,[(1,1)])=((ta,tat),(tb,tbt),te):=by
  unfold zr3
  rw[hr1]
  dsimp only
  rw[hr2]
  exact hr3
 have HTN:=ja (jcp0 (e:=m3) (a:=(m1,m2)) (b:=(m1,m2)) (c1:=(ld,lt)) (d1:=(hd,ht)) (c2:=(1,[(4,1)])) (d2:=(1,[(4,1)])) (c3:=(1,[(1,1)])) (d3:=(1,[(1,1)])))
 rw[hth] at HRES HTN
 have HR1:=ja hr1;have HR2:=ja hr2;have HR3:=ja hr3
 clear hr1 hr2 hr3 hth
 obtain⟨p0,p1,p2,p3,p4,pf0,pf1,pf2,pf3,pf4⟩:=HS.o.2.1.1.five
 dsimp only at p0 p1 p2 p3 p4
 obtain⟨y0,y1,y2,y3⟩:=HS.o.1.2.four
 have HC:=ja (jcv6 m1 A5 n5 c5 m2 m1 A5 n5 c5 m2 m3 ld A1 n1 c1 lt hd A2 n2 c2 ht W6 (TQ.read HS.o.2.1.2) (TQ.read HS.o.2.2) (Rq.more (HPL.o W6 HS.o.1.1.1.1) HS.o.1.1.1.2) (Rq.more (HPH.o W6 HS.o.1.1.1.1) HS.o.1.1.1.2))
 rw[show za8 (λx y=>jc7 x.1 x.2 y.1 y.2) _ _ _ _ _=_ from HR1.o] at HC
 go_upto_region 10 with(first
  | (go_at_call 43;refine HD.o.mono ?_;rintro e w9 ⟨Ae,ne,ce,Af,nf,cf,rfl,ta,tb,hb⟩
     have HS5:=ja (Kept.keep (S:=λW=>((RuS w X5 xd A n c ld A1 n1 c1 hd A2 n2 c2 W)/\PvQ X13 ((m1,m2),(m1,m2),m3) (A5,n5,c5) (A5,n5,c5) W)) _ _ HS8.o hb)
     have HTA5:=ja (TQ.of (A:=Ae) (n:=ne) (c:=ce) ta);have HTB5:=ja (TQ.of (A:=Af) (n:=nf) (c:=cf) tb)
     clear ta tb hb p0 p1 p2 p3 p4 pf0 pf1 pf2 pf3 pf4
     obtain⟨p0,p1,p2,p3,p4,pf0,pf1,pf2,pf3,pf4⟩:=HS5.o.2.1.1.five
     dsimp only at p0 p1 p2 p3 p4)
  | (go_at_call 44;refine(jah1 _).mono ?_;rintro e w8 ⟨Ad,nd,cd,rfl,hwd,hb⟩
     have HS8:=ja (Kept.keep (S:=λW=>((RuS w X5 xd A n c ld A1 n1 c1 hd A2 n2 c2 W)/\PvQ X13 ((m1,m2),(m1,m2),m3) (A5,n5,c5) (A5,n5,c5) W)) _ _ HS7b.o hb)
     have HD:=ja (jcv7 ra Aa na ca rat rb Ab nb cb rbt re 1 Ac nc cc [(4,1)] 1 Ad nd cd [(4,1)] w8 (TQ.read (Kept.keep _ _ HTA2.o hb)) (TQ.read (Kept.keep _ _ HTB2.o hb)) (Rq.of (ZF (jG HWC.o hb))) (Rq.of (ZF hwd)))
     rw[show za8 (λx y=>jn7 x.1 x.2 y.1 y.2) _ _ _ _ _=_ from HR2.o] at HD
     clear hwd hb)
  | (go_at_call 44;refine(jah1 _).mono ?_;rintro e w7b ⟨Ac,nc,cc,rfl,hwc,hb⟩
     have HS7b:=ja (Kept.keep (S:=λW=>((RuS w X5 xd A n c ld A1 n1 c1 hd A2 n2 c2 W)/\PvQ X13 ((m1,m2),(m1,m2),m3) (A5,n5,c5) (A5,n5,c5) W)) _ _ HS7.o hb)
     have HTA2:=ja (Kept.keep _ _ HTA1.o hb);have HTB2:=ja (Kept.keep _ _ HTB1.o hb)
     have HWC:=ja hwc
     clear hwc hb)
  | (go_at_call 43;refine HC.o.mono ?_;rintro e w7 ⟨Aa,na,ca,Ab,nb,cb,rfl,ta,tb,hb⟩
     have HS7:=ja (Kept.keep (S:=λW=>((RuS w X5 xd A n c ld A1 n1 c1 hd A2 n2 c2 W)/\PvQ X13 ((m1,m2),(m1,m2),m3) (A5,n5,c5) (A5,n5,c5) W)) _ _ HS.o hb)
     have HTA1:=ja (TQ.of (A:=Aa) (n:=na) (c:=ca) ta);have HTB1:=ja (TQ.of (A:=Ab) (n:=nb) (c:=cb) tb)
     clear ta tb hb))
 clear p0 p1 p2 p3 p4 pf0 pf1 pf2 pf3 pf4 y0 y1 y2 y3 HC HS7 HS7b HS8 HTA1 HTA2 HTB1 HTB2 HWC HD HS
 have HS9:Hid ((RuS w X5 xd A n c ld A1 n1 c1 hd A2 n2 c2 (((((w9.setCell ⟨X13,0,none⟩ (.int .i64 sa)).setCell ⟨X13,1,none⟩ (.slice Ae ne ce)).setCell ⟨X13,2,none⟩ (.int .i64 sb)).setCell ⟨X13,3,none⟩ (.slice Af nf cf)).setCell ⟨X13,4,none⟩ (.int .i64 se)))/\PvQ X13 ((sa,sat),(sb,sbt),se) (Ae,ne,ce) (Af,nf,cf) (((((w9.setCell ⟨X13,0,none⟩ (.int .i64 sa)).setCell ⟨X13,1,none⟩ (.slice Ae ne ce)).setCell ⟨X13,2,none⟩ (.int .i64 sb)).setCell ⟨X13,3,none⟩ (.slice Af nf cf)).setCell ⟨X13,4,none⟩ (.int .i64 se))):=ja ⟨⟨⟨⟨(((((HS5.o.1.1.1.1.setCell (p:=⟨X13,0,none⟩) HX13.o.1 (.int .i64 sa)).setCell (p:=⟨X13,1,none⟩) HX13.o.1 (.slice Ae ne ce)).setCell (p:=⟨X13,2,none⟩) HX13.o.1 (.int .i64 sb)).setCell (p:=⟨X13,3,none⟩) HX13.o.1 (.slice Af nf cf)).setCell (p:=⟨X13,4,none⟩) HX13.o.1 (.int .i64 se)),by simp;exact HS5.o.1.1.1.2⟩,(((((HS5.o.1.1.2.far (p:=⟨X13,0,none⟩) HX13.o.2.1 (.int .i64 sa)).far (p:=⟨X13,1,none⟩) HX13.o.2.1 (.slice Ae ne ce)).far (p:=⟨X13,2,none⟩) HX13.o.2.1 (.int .i64 sb)).far (p:=⟨X13,3,none⟩) HX13.o.2.1 (.slice Af nf cf)).far (p:=⟨X13,4,none⟩) HX13.o.2.1 (.int .i64 se))⟩,(((((HS5.o.1.2.far (p:=⟨X13,0,none⟩) HX13.o.2.2 (.int .i64 sa)).far (p:=⟨X13,1,none⟩) HX13.o.2.2 (.slice Ae ne ce)).far (p:=⟨X13,2,none⟩) HX13.o.2.2 (.int .i64 sb)).far (p:=⟨X13,3,none⟩) HX13.o.2.2 (.slice Af nf cf)).far (p:=⟨X13,4,none⟩) HX13.o.2.2 (.int .i64 se))⟩,⟨(((((HS5.o.2.1.1.set_ 0 (.int .i64 sa)).set_ 1 (.slice Ae ne ce)).set_ 2 (.int .i64 sb)).set_ 3 (.slice Af nf cf)).set_ 4 (.int .i64 se)),jcp2 HTA5.o HS5.o.2.1.1 (.int .i64 sa) (.slice Ae ne ce) (.int .i64 sb) (.slice Af nf cf) (.int .i64 se)⟩,jcp2 HTB5.o HS5.o.2.1.1 (.int .i64 sa) (.slice Ae ne ce) (.int .i64 sb) (.slice Af nf cf) (.int .i64 se)⟩
 clear HS5 HTA5 HTB5
 generalize (((((w9.setCell ⟨X13,0,none⟩ (.int .i64 sa)).setCell ⟨X13,1,none⟩ (.slice Ae ne ce)).setCell ⟨X13,2,none⟩ (.int .i64 sb)).setCell ⟨X13,3,none⟩ (.slice Af nf cf)).setCell ⟨X13,4,none⟩ (.int .i64 se))=V8 at *
 have HS:=ja HS9.o
 clear HS9
 obtain⟨xP,hxP⟩:∃x:Sl,x=(Ae,ne,ce):=⟨_,rfl⟩
 obtain⟨yP,hyP⟩:∃x:Sl,x=(Af,nf,cf):=⟨_,rfl⟩
 rw[<-hxP,<-hyP] at HS
 clear hxP hyP
 obtain⟨p0,p1,p2,p3,p4,_,_,_,_,_⟩:=HS.o.2.1.1.five
 dsimp only at p0 p1 p2 p3 p4
 have h13:X13<V8.heap.size:=HS.o.2.1.1.lt
 have HGd:Hid (((RuS w X5 xd A n c ld A1 n1 c1 hd A2 n2 c2 V8.drew)/\PvQ X13 ((sa,sat),(sb,sbt),se) xP yP V8.drew)/\(Below V8.heap.size V8 V8.drew/\V8.heap.size<=V8.drew.heap.size)):=ja ⟨Kept.keep (S:=λW=>((RuS w X5 xd A n c ld A1 n1 c1 hd A2 n2 c2 W)/\PvQ X13 ((sa,sat),(sb,sbt),se) xP yP W)) _ _ HS.o (Below.drew (Below.refl _ _)),Below.drew (Below.refl _ _),Nat.le_refl _⟩
 refine zV 4 (λW'=>Below V8.heap.size V8 W') (λ_ _ _=>True) [] (λW'=>((RuS w X5 xd A n c ld A1 n1 c1 hd A2 n2 c2 W')/\PvQ X13 ((sa,sat),(sb,sbt),se) xP yP W')/\(Below V8.heap.size V8 W'/\V8.heap.size<=W'.heap.size)) (by kernel_rfl)
  (Floats.of (by decide +kernel) (λc a d v w=>by cases d<;>exact Iff.rfl) (by intro i hi;cases hi) (λ_ _ _ _ _ _=>trivial))
  (λ_ _ _ h=>h) (by decide) HGd.o (λW h=>h.2.1) (λHFL=>?_)
 refine jst 0 HFL (λW h=>h.2.1) ?_ ?_ ?_
 rotate_left 1
 focus(intro W hF;have hF:=hF (by decide +kernel);have e1:=(hF.cell (p:=⟨X13,0,none⟩) h13).trans p0;have e2:=(hF.cell (p:=⟨X13,1,none⟩) h13).trans p1;have e3:=(hF.cell (p:=⟨X13,2,none⟩) h13).trans p2;have e4:=(hF.cell (p:=⟨X13,3,none⟩) h13).trans p3;have e5:=(hF.cell (p:=⟨X13,4,none⟩) h13).trans p4;clear hF;go_simp;try with_reducible rfl)
 (try simp only[Act.put,lA,lB,lC])
 refine jg.on 1 (λx:Sl=>.agg #[.int .i64 1,.slice x.1 x.2.1 x.2.2]) (λx W=>zf3 0 x [(1,1)] W) rfl rfl HFL (by decide +kernel) (λW h=>h.2.1) (λW hG K' hK=>?_) (λx1 hF1=>?_)
 focus
  have HC:=ja (jad4 W)
  clear hG
  go_simp
  go_wp2_with (first
   | (go_at_call 44;refine HC.o.mono ?_;rintro e w6 ⟨A,n,c,rfl,ho,hb⟩
      have HO:=ja (jO ho (Nat.zero_le _));have HBB:=ja hb;clear ho hb))
  exact hK.out (A,n,c) _ HO.o HBB.o
 (try simp only[Act.put,lA,lB,lC])
 refine jg.on 2 (λx:Sl=>.agg #[.int .i64 1,.slice x.1 x.2.1 x.2.2]) (λx W=>zf3 0 x [(1,1)] W) rfl rfl HFL (by decide +kernel) hF1 (λW hG K' hK=>?_) (λx2 hF2=>?_)
 focus
  have HC:=ja (jad4 W)
  clear hG
  go_simp
  go_wp2_with (first
   | (go_at_call 44;refine HC.o.mono ?_;rintro e w6 ⟨A,n,c,rfl,ho,hb⟩
      have HO:=ja (jO ho (Nat.zero_le _));have HBB:=ja hb;clear ho hb))
  exact hK.out (A,n,c) _ HO.o HBB.o
 (try simp only[Act.put,lA,lB,lC])
 refine jg.on 3 (λx:Sl×Sl=>.agg #[.int .i64 ta,.slice x.1.1 x.1.2.1 x.1.2.2,.int .i64 tb,.slice x.2.1 x.2.2.1 x.2.2.2,.int .i64 te]) (λx W=>(TQ x.1 tat W/\TQ x.2 tbt W)) rfl rfl HFL (by decide +kernel) hF2 (λW hG K' hK=>?_) (λx3 hF3=>?_)
 focus
  have HC:=ja (jcv8 sa xP.1 xP.2.1 xP.2.2 sat sb yP.1 yP.2.1 yP.2.2 sbt se 1 x1.1 x1.2.1 x1.2.2 [(1,1)] 1 x2.1 x2.2.1 x2.2.2 [(1,1)] W (TQ.read hG.1.1.1.2.1.2) (TQ.read hG.1.1.1.2.2) (Rq.of (ZF hG.1.2)) (Rq.of (ZF hG.2)))
  rw[show za8 (λx y=>jL x.1 x.2 y.1 y.2 (-1)) _ _ _ _ _=_ from HR3.o] at HC
  clear hG
  go_simp
  go_wp2_with (first
   | (go_at_call 43;refine HC.o.mono ?_;rintro e w6 ⟨Aa,na,ca,Ab,nb,cb,rfl,ta,tb,hb⟩
      have HTA:=ja (TQ.of ta);have HTB:=ja (TQ.of tb)
      have HBB:=ja hb;clear ta tb hb))
  exact hK.out ((Aa,na,ca),(Ab,nb,cb)) _ ⟨HTA.o,HTB.o⟩ HBB.o
 (try simp only[Act.put,lA,lB,lC])
 refine jg.fin rfl hF3 (λW9 hG jb=>?_)
 have HS5:=ja hG.1.1.1.1
 have HTA5:=ja hG.2.1
 have HTB5:=ja hG.2.2
 clear hG HGd HFL hF1 hF2 hF3 HS p0 p1 p2 p3 p4 h13
 obtain⟨q0,q1,q2,q3,q4,qf0,qf1,qf2,qf3,qf4⟩:=HS5.o.2.1.1.five
 refine je 4 rfl (by decide +kernel) (λK hK=>?_)
 go_simp
 refine hK.out _ _ ⟨trivial,λh=>absurd h (by decide +kernel),λ_=>trivial⟩ (λjb=>?_)
 clear hK K
 (try simp only[Act.put,lA,lB,lC])
 refine jl (by decide +kernel) ?_
 clear jb
 clear q0 q1 q2 q3 q4 qf0 qf1 qf2 qf3 qf4
 have HS9:Hid ((RuS w X5 xd A n c ld A1 n1 c1 hd A2 n2 c2 (((((W9.setCell ⟨X13,0,none⟩ (.int .i64 ta)).setCell ⟨X13,1,none⟩ (.slice x3.1.1 x3.1.2.1 x3.1.2.2)).setCell ⟨X13,2,none⟩ (.int .i64 tb)).setCell ⟨X13,3,none⟩ (.slice x3.2.1 x3.2.2.1 x3.2.2.2)).setCell ⟨X13,4,none⟩ (.int .i64 te)))/\PvQ X13 ((ta,tat),(tb,tbt),te) x3.1 x3.2 (((((W9.setCell ⟨X13,0,none⟩ (.int .i64 ta)).setCell ⟨X13,1,none⟩ (.slice x3.1.1 x3.1.2.1 x3.1.2.2)).setCell ⟨X13,2,none⟩ (.int .i64 tb)).setCell ⟨X13,3,none⟩ (.slice x3.2.1 x3.2.2.1 x3.2.2.2)).setCell ⟨X13,4,none⟩ (.int .i64 te))):=ja ⟨⟨⟨⟨(((((HS5.o.1.1.1.1.setCell (p:=⟨X13,0,none⟩) HX13.o.1 (.int .i64 ta)).setCell (p:=⟨X13,1,none⟩) HX13.o.1 (.slice x3.1.1 x3.1.2.1 x3.1.2.2)).setCell (p:=⟨X13,2,none⟩) HX13.o.1 (.int .i64 tb)).setCell (p:=⟨X13,3,none⟩) HX13.o.1 (.slice x3.2.1 x3.2.2.1 x3.2.2.2)).setCell (p:=⟨X13,4,none⟩) HX13.o.1 (.int .i64 te)),by simp;exact HS5.o.1.1.1.2⟩,(((((HS5.o.1.1.2.far (p:=⟨X13,0,none⟩) HX13.o.2.1 (.int .i64 ta)).far (p:=⟨X13,1,none⟩) HX13.o.2.1 (.slice x3.1.1 x3.1.2.1 x3.1.2.2)).far (p:=⟨X13,2,none⟩) HX13.o.2.1 (.int .i64 tb)).far (p:=⟨X13,3,none⟩) HX13.o.2.1 (.slice x3.2.1 x3.2.2.1 x3.2.2.2)).far (p:=⟨X13,4,none⟩) HX13.o.2.1 (.int .i64 te))⟩,(((((HS5.o.1.2.far (p:=⟨X13,0,none⟩) HX13.o.2.2 (.int .i64 ta)).far (p:=⟨X13,1,none⟩) HX13.o.2.2 (.slice x3.1.1 x3.1.2.1 x3.1.2.2)).far (p:=⟨X13,2,none⟩) HX13.o.2.2 (.int .i64 tb)).far (p:=⟨X13,3,none⟩) HX13.o.2.2 (.slice x3.2.1 x3.2.2.1 x3.2.2.2)).far (p:=⟨X13,4,none⟩) HX13.o.2.2 (.int .i64 te))⟩,⟨(((((HS5.o.2.1.1.set_ 0 (.int .i64 ta)).set_ 1 (.slice x3.1.1 x3.1.2.1 x3.1.2.2)).set_ 2 (.int .i64 tb)).set_ 3 (.slice x3.2.1 x3.2.2.1 x3.2.2.2)).set_ 4 (.int .i64 te)),jcp2 HTA5.o HS5.o.2.1.1 (.int .i64 ta) (.slice x3.1.1 x3.1.2.1 x3.1.2.2) (.int .i64 tb) (.slice x3.2.1 x3.2.2.1 x3.2.2.2) (.int .i64 te)⟩,jcp2 HTB5.o HS5.o.2.1.1 (.int .i64 ta) (.slice x3.1.1 x3.1.2.1 x3.1.2.2) (.int .i64 tb) (.slice x3.2.1 x3.2.2.1 x3.2.2.2) (.int .i64 te)⟩
 clear HS5 HTA5 HTB5
 generalize (((((W9.setCell ⟨X13,0,none⟩ (.int .i64 ta)).setCell ⟨X13,1,none⟩ (.slice x3.1.1 x3.1.2.1 x3.1.2.2)).setCell ⟨X13,2,none⟩ (.int .i64 tb)).setCell ⟨X13,3,none⟩ (.slice x3.2.1 x3.2.2.1 x3.2.2.2)).setCell ⟨X13,4,none⟩ (.int .i64 te))=V9 at *
 have HS:=ja HS9.o
 clear HS9
 obtain⟨xR,yR⟩:=x3
 dsimp only at HS
 obtain⟨p0,p1,p2,p3,p4,_,_,_,_,_⟩:=HS.o.2.1.1.five
 dsimp only at p0 p1 p2 p3 p4
 by_cases hte:te=0
 rotate_left 1
 focus
  have hteb:(te !=0)=true:=by simpa using hte
  have HBe:=ja HS.o.1.1.1.1
  have HV:=ja (HRES.o 0 0 te (.inl ⟨hte,rfl,rfl,rfl⟩))
  clear HRES HTN
  go_upto_region 12 with fail
  go_quiet (fail)
  go_wp2
  go_ret3
  exact⟨_,_,_,rfl,HV.o,jp HBe.o _⟩
 subst hte
 obtain⟨hn1,hn2⟩:=HTN.o rfl
 have HBN:=ja (zr4 ta xR.1 xR.2.1 xR.2.2 tat den V9.heap.size V9 (TQ.read HS.o.2.1.2) (Nat.le_refl _) hn1)
 have HN2:=ja hn2
 clear hn1 hn2 HTN
 go_wp2_with fail
 refine HBN.o.mono ?_
 rintro e w10 ⟨l1,hh1,cc1,rfl,hb1,hb⟩
 have HS10:=ja (Kept.keep (S:=λW=>((RuS w X5 xd A n c ld A1 n1 c1 hd A2 n2 c2 W)/\PvQ X13 ((ta,tat),(tb,tbt),0) xR yR W)) _ _ HS.o hb)
 have HB1:=ja hb1
 clear hb hb1 p0 p1 p2 p3 p4 HBN HS
 by_cases hc1:cc1=0
 rotate_left 1
 focus
  have hcb:(cc1 !=0)=true:=by simpa using hc1
  have HBe:=ja HS10.o.1.1.1.1
  have HV:=ja (HRES.o 0 0 cc1 (.inr ⟨rfl,l1,hh1,cc1,HB1.o,.inl ⟨hc1,rfl,rfl,rfl⟩⟩))
  clear HRES
  go_wp2
  go_ret3
  exact⟨_,_,_,rfl,HV.o,HBe.o⟩
 subst hc1
 obtain⟨p0,p1,p2,p3,p4,_,_,_,_,_⟩:=HS10.o.2.1.1.five
 dsimp only at p0 p1 p2 p3 p4
 have HBM:=ja (zr4 tb yR.1 yR.2.1 yR.2.2 tbt den w10.heap.size w10 (TQ.read HS10.o.2.2) (Nat.le_refl _) HN2.o)
 go_wp2_with fail
 refine HBM.o.mono ?_
 rintro e w11 ⟨l2,hh2,cc2,rfl,hb2,hb⟩
 have HBe:=ja (HS10.o.1.1.1.1.trans (hb.mono HS10.o.1.1.1.2))
 have HV:=ja (HRES.o l1 hh2 0 (.inr ⟨rfl,l1,hh1,0,HB1.o,.inr ⟨rfl,l2,cc2,hb2,rfl,rfl⟩⟩))
 clear HRES hb hb2 p0 p1 p2 p3 p4
 go_wp2
 go_ret3
 exact⟨_,_,_,rfl,HV.o,HBe.o⟩
def jdb9(w:World)(xd:Int)(xt:List (Int×Int))(ld:Int)(lt:List (Int×Int))(hd:Int)(ht:List (Int×Int))(den:Int)(e:Ending)(w':World):Prop:=∃low high cc,e=.returned (.tuple #[.int .i64 low,.int .i64 high,.int .i64 cc])/\jbt9 (xd,xt) (ld,lt) (hd,ht) (1,[(4,1)]) (1,[(4,1)]) (hd,ht) (ld,lt) den low high cc/\Below w.heap.size w w'
theorem jcz3 (xd:Int) (A:Option Addr) (n c:Nat) (xt:List (Int×Int)) (ld:Int) (A1:Option Addr) (n1 c1:Nat) (lt:List (Int×Int)) (hd:Int) (A2:Option Addr) (n2 c2:Nat) (ht:List (Int×Int)) (den:Int) (w:World)
  (hx:jJ w w.heap.size A n c xt) (hl:jJ w w.heap.size A1 n1 c1 lt) (hh:jJ w w.heap.size A2 n2 c2 ht) :
  Calls Tryz.prog 12 #[.agg #[.int .i64 xd,.slice A n c],.agg #[.int .i64 ld,.slice A1 n1 c1,.int .i64 hd,.slice A2 n2 c2],.int .i64 den,.bool true] w (jdb9 w xd xt ld lt hd ht den):=by
 obtain⟨w0,hw0⟩:∃w0,w0=(w.alloc (.cells #[.int .i64 xd,.slice A n c] 24)).alloc (.cells #[.int .i64 ld,.slice A1 n1 c1,.int .i64 hd,.slice A2 n2 c2] 26):=⟨_,rfl⟩
 obtain⟨X5,hX5⟩:∃X,X=w.heap.size+1:=⟨_,rfl⟩
 have HS:Hid (((Below w.heap.size w w0/\w.heap.size<=w0.heap.size)/\jh w0 w.heap.size 24 #[.int .i64 xd,.slice A n c])/\jh w0 X5 26 #[.int .i64 ld,.slice A1 n1 c1,.int .i64 hd,.slice A2 n2 c2]):=ja (by
  rw[hw0]
  refine⟨⟨⟨((Below.refl _ _).alloc (Nat.le_refl _) _).alloc (by simp) _,by simp;omega⟩,(jh.new w _ _).alloc _⟩,?_⟩
  have h:=jh.new (w.alloc (.cells #[.int .i64 xd,.slice A n c] 24)) 26 #[.int .i64 ld,.slice A1 n1 c1,.int .i64 hd,.slice A2 n2 c2]
  rw[World.size_alloc] at h
  rw[hX5];exact h)
 have HPX:=ja (λW (hb:Below w.heap.size w W)=>Rq.below hx hb)
 have HPL:=ja (λW (hb:Below w.heap.size w W)=>Rq.below hl hb)
 have HPH:=ja (λW (hb:Below w.heap.size w W)=>Rq.below hh hb)
 have HNX:=ja (λW (hb:Below w.heap.size w W)=>QB xd A n c w.heap.size xt W (HPX.o W hb) hb.size)
 have HPI:=ja (λW (hb:Below w.heap.size w W)=>jcy6 ld A1 n1 c1 lt hd A2 n2 c2 ht w.heap.size W (HPL.o W hb) (HPH.o W hb) hb.size)
 clear hx hl hh
 go_enter Tryz.func12,Tryz.ntmps12
 go_upto_region 1 with fail
 rw[<-hX5,<-hw0]
 clear hX5 hw0
 obtain⟨x0,x1,_,_⟩:=HS.o.1.2.two
 obtain⟨y0,y1,y2,y3⟩:=HS.o.2.four
 cases hok:js xd xt
 ·rw[hok] at HNX
  go_wp2_with (first
   | (go_at_call 39;refine(HNX.o _ HS.o.1.1.1).mono ?_;rintro e w1 ⟨rfl,hb⟩
      have HB1:=ja (HS.o.1.1.1.trans (hb.mono HS.o.1.1.2))
      clear hb))
  go_ret3
  exact⟨_,_,_,rfl,.inl ⟨hok,rfl,rfl,rfl⟩,HB1.o⟩
 rw[hok] at HNX
 have HOK:=ja hok
 clear hok
 go_wp2_with (first
  | (go_at_call 39;refine(HNX.o _ HS.o.1.1.1).mono ?_;rintro e w1 ⟨rfl,hb⟩
     have HS1:=ja (Kept.keep (S:=λW=>RuS w X5 xd A n c ld A1 n1 c1 hd A2 n2 c2 W) _ _ HS.o hb)
     clear hb x0 x1 y0 y1 y2 y3
     obtain⟨y0,y1,y2,y3⟩:=HS1.o.2.four))
 refine(HPI.o _ HS1.o.1.1.1).mono ?_
 rintro e w2 ⟨p,rfl,hp,hb⟩
 have HS2:=ja (Kept.keep (S:=λW=>RuS w X5 xd A n c ld A1 n1 c1 hd A2 n2 c2 W) _ _ HS1.o hb)
 have HPV:=ja hp
 clear hb hp y0 y1 y2 y3 HS HS1 HPI HNX
 cases p
 ·have HB2:=ja HS2.o.1.1.1
  go_wp2
  go_ret3
  exact⟨_,_,_,rfl,.inr ⟨HOK.o,false,HPV.o,.inl ⟨rfl,rfl,rfl,rfl⟩⟩,HB2.o⟩
 obtain⟨x0,x1,_,_⟩:=HS2.o.1.2.two
 have HSG:=ja (jbd1 A n c w.heap.size xt w2 (HPX.o w2 HS2.o.1.1.1) HS2.o.1.1.2 (λt ht=>by have:=((jz HOK.o).2.2.2 t ht).1.2.2.2;omega) (Jd HOK.o).1 (Jd HOK.o).2 (by have:=(jz HOK.o).2.2.1;omega))
 go_wp2_with fail
 refine HSG.o.mono ?_
 rintro e w3 ⟨s,rfl,hs,hb⟩
 have HS3:=ja (Kept.keep (S:=λW=>RuS w X5 xd A n c ld A1 n1 c1 hd A2 n2 c2 W) _ _ HS2.o hb)
 have HSN:=ja hs
 clear hb hs x0 x1 HS2 HSG
 by_cases h0:0<s
 rotate_left 1
 focus
  have h0':s<=0:=by omega
  have HB3:=ja HS3.o.1.1.1
  go_wp2
  go_ret3
  exact⟨_,_,_,rfl,.inr ⟨HOK.o,true,HPV.o,.inr ⟨rfl,s,HSN.o,.inl ⟨h0',rfl,rfl,rfl⟩⟩⟩,HB3.o⟩
 obtain⟨m1,m2,m3,hm⟩:∃a b c,jc7 xd xt xd xt=(a,b,c):=⟨_,_,_,rfl⟩
 have HM:=ja hm
 have HTM:=ja (jat5 xd A n c xt xd A n c xt w.heap.size w3 (HPX.o w3 HS3.o.1.1.1) (HPX.o w3 HS3.o.1.1.1) HS3.o.1.1.2)
 rw[hm] at HTM
 have HRES:Hid (∀low high cc,jdd6 (zr3 m3 (m1,m2) (m1,m2) (1,[(4,1)]) (1,[(4,1)]) (hd,ht) (ld,lt) (1,[(1,1)]) (1,[(1,1)])) den low high cc->jbt9 (xd,xt) (ld,lt) (hd,ht) (1,[(4,1)]) (1,[(4,1)]) (hd,ht) (ld,lt) den low high cc):=ja (λlow high cc h=>.inr ⟨HOK.o,true,HPV.o,.inr ⟨rfl,s,HSN.o,.inr ⟨h0,by rw[HM.o];exact h⟩⟩⟩)
 clear hm
 obtain⟨x0,x1,_,_⟩:=HS3.o.1.2.two
 go_upto_region 6 with(first
  | (go_at_call 42;refine HTM.o.mono ?_;rintro e w5 ⟨A5,n5,c5,rfl,ho,hb⟩
     have HS5:=ja (Kept.keep (S:=λW=>RuS w X5 xd A n c ld A1 n1 c1 hd A2 n2 c2 W) _ _ HS3.o (hb.trans ((Below.refl w5.heap.size w5).alloc (Nat.le_refl _) (.cells #[.int .i64 m1,.slice A5 n5 c5] 24) |>.mono hb.size)))
     have HN5:=ja (jh.new w5 24 #[.int .i64 m1,.slice A5 n5 c5])
     have HT5:=ja (TQ.of (Rq.of (ZF (World.ownsRow.alloc ho (.cells #[.int .i64 m1,.slice A5 n5 c5] 24)))))
     clear ho hb))
 clear x0 x1 HS3 HTM HSN HPV
 obtain⟨X11,hX⟩:∃X,X=w5.heap.size:=⟨_,rfl⟩
 rw[<-hX] at HN5 ⊢
 clear hX
 generalize w5.alloc (.cells #[.int .i64 m1,.slice A5 n5 c5] 24)=W5 at *
 obtain⟨x0,x1,_,_⟩:=HN5.o.two
 go_upto_region 8 with fail
 have HS6:=ja (And.intro (Kept.keep (S:=λW=>RuS w X5 xd A n c ld A1 n1 c1 hd A2 n2 c2 W) _ _ HS5.o ((Below.refl W5.heap.size W5).alloc (Nat.le_refl _) (.cells #[.int .i64 m1,.slice A5 n5 c5,.int .i64 m1,.slice A5 n5 c5,.int .i64 m3] 82))) (show PvQ W5.heap.size ((m1,m2),(m1,m2),m3) (A5,n5,c5) (A5,n5,c5) (W5.alloc (.cells #[.int .i64 m1,.slice A5 n5 c5,.int .i64 m1,.slice A5 n5 c5,.int .i64 m3] 82))from⟨⟨jh.new W5 _ _,Kept.keep _ _ HT5.o ((Below.refl W5.heap.size W5).alloc (Nat.le_refl _) _)⟩,Kept.keep _ _ HT5.o ((Below.refl W5.heap.size W5).alloc (Nat.le_refl _) _)⟩))
 have HX13:Hid (w.heap.size<=W5.heap.size/\w.heap.size≠W5.heap.size/\X5≠W5.heap.size):=ja ⟨HS5.o.1.1.2,Nat.ne_of_lt HS5.o.1.2.lt,Nat.ne_of_lt HS5.o.2.lt⟩
 obtain⟨X13,hX⟩:∃X,X=W5.heap.size:=⟨_,rfl⟩
 rw[<-hX] at HS6 HX13 ⊢
 clear hX x0 x1 HN5 HT5 HS5
 generalize W5.alloc (.cells #[.int .i64 m1,.slice A5 n5 c5,.int .i64 m1,.slice A5 n5 c5,.int .i64 m3] 82)=W6 at *
 have HS:=ja HS6.o
 clear HS6
 obtain⟨⟨⟨ra,rat⟩,⟨rb,rbt⟩,re⟩,hr1⟩:∃r,za8 fMul m3 (m1,m2) (m1,m2) (1,[(4,1)]) (1,[(4,1)])=r:=⟨_,rfl⟩
 obtain⟨⟨⟨sa,sat⟩,⟨sb,sbt⟩,se⟩,hr2⟩:∃r,za8 fQuo re (ra,rat) (rb,rbt) (hd,ht) (ld,lt)=r:=⟨_,rfl⟩
 obtain⟨⟨⟨ta,tat⟩,⟨tb,tbt⟩,te⟩,hr3⟩:∃r,za8 fSub se (sa,sat) (sb,sbt) (1,[(1,1)]) (1,[(1,1)])=r:=⟨_,rfl⟩
 have hth:zr3 m3 (m1,m2) (m1,m2) (1,[(4,1)]) (1,[(4,1)]) (hd,ht) (ld,lt) (1,[(1,1)]) (1,[(1,1)])=((ta,tat),(tb,tbt),te):=by
  unfold zr3
  rw[hr1]
  dsimp only
  rw[hr2]
  exact hr3
 have HTN:=ja (jcp0 (e:=m3) (a:=(m1,m2)) (b:=(m1,m2)) (c1:=(1,[(4,1)])) (d1:=(1,[(4,1)])) (c2:=(hd,ht)) (d2:=(ld,lt)) (c3:=(1,[(1,1)])) (d3:=(1,[(1,1)])))
 rw[hth] at HRES HTN
 have HR1:=ja hr1;have HR2:=ja hr2;have HR3:=ja hr3
 clear hr1 hr2 hr3 hth
 obtain⟨p0,p1,p2,p3,p4,_,_,_,_,_⟩:=HS.o.2.1.1.five
 dsimp only at p0 p1 p2 p3 p4
 have h13:X13<W6.heap.size:=HS.o.2.1.1.lt
 obtain⟨y0,y1,y2,y3⟩:=HS.o.1.2.four
 have h5:X5<W6.heap.size:=HS.o.1.2.lt
 have HGd:Hid (((RuS w X5 xd A n c ld A1 n1 c1 hd A2 n2 c2 W6.drew)/\PvQ X13 ((m1,m2),(m1,m2),m3) (A5,n5,c5) (A5,n5,c5) W6.drew)/\(Below W6.heap.size W6 W6.drew/\W6.heap.size<=W6.drew.heap.size)):=ja ⟨Kept.keep (S:=λW=>((RuS w X5 xd A n c ld A1 n1 c1 hd A2 n2 c2 W)/\PvQ X13 ((m1,m2),(m1,m2),m3) (A5,n5,c5) (A5,n5,c5) W)) _ _ HS.o (Below.drew (Below.refl _ _)),Below.drew (Below.refl _ _),Nat.le_refl _⟩
 refine zV 9 (λW'=>Below W6.heap.size W6 W') (λ_ _ _=>True) [] (λW'=>((RuS w X5 xd A n c ld A1 n1 c1 hd A2 n2 c2 W')/\PvQ X13 ((m1,m2),(m1,m2),m3) (A5,n5,c5) (A5,n5,c5) W')/\(Below W6.heap.size W6 W'/\W6.heap.size<=W'.heap.size)) (by kernel_rfl)
  (Floats.of (by decide +kernel) (λc a d v w=>by cases d<;>exact Iff.rfl) (by intro i hi;cases hi) (λ_ _ _ _ _ _=>trivial))
  (λ_ _ _ h=>h) (by decide) HGd.o (λW h=>h.2.1) (λHFL=>?_)
 refine jst 0 HFL (λW h=>h.2.1) ?_ ?_ ?_
 rotate_left 1
 focus(intro W hF;have hF:=hF (by decide +kernel);have e1:=(hF.cell (p:=⟨X13,0,none⟩) h13).trans p0;have e2:=(hF.cell (p:=⟨X13,1,none⟩) h13).trans p1;have e3:=(hF.cell (p:=⟨X13,2,none⟩) h13).trans p2;have e4:=(hF.cell (p:=⟨X13,3,none⟩) h13).trans p3;have e5:=(hF.cell (p:=⟨X13,4,none⟩) h13).trans p4;clear hF;go_simp;try with_reducible rfl)
 (try simp only[Act.put,lA,lB,lC])
 refine jsq 4 HFL (λW h=>h.2.1) ?_ ?_ ?_
 rotate_left 1
 focus(intro;go_simp;try with_reducible rfl)
 (try simp only[Act.put,lA,lB,lC])
 refine jst 5 HFL (λW h=>h.2.1) ?_ ?_ ?_
 rotate_left 1
 focus(intro W hF;have hF:=hF (by decide +kernel);have e1:=(hF.cell (p:=⟨X5,2,none⟩) h5).trans y2;have e2:=(hF.cell (p:=⟨X5,3,none⟩) h5).trans y3;clear hF;go_simp;try with_reducible rfl)
 (try simp only[Act.put,lA,lB,lC])
 refine jsq 6 HFL (λW h=>h.2.1) ?_ ?_ ?_
 rotate_left 1
 focus(intro;go_simp;try with_reducible rfl)
 (try simp only[Act.put,lA,lB,lC])
 refine jst 7 HFL (λW h=>h.2.1) ?_ ?_ ?_
 rotate_left 1
 focus(intro W hF;have hF:=hF (by decide +kernel);have e1:=(hF.cell (p:=⟨X5,0,none⟩) h5).trans y0;have e2:=(hF.cell (p:=⟨X5,1,none⟩) h5).trans y1;clear hF;go_simp;try with_reducible rfl)
 (try simp only[Act.put,lA,lB,lC])
 refine jg.on 1 (λx:Sl=>.agg #[.int .i64 1,.slice x.1 x.2.1 x.2.2]) (λx W=>zf3 0 x [(4,1)] W) rfl rfl HFL (by decide +kernel) (λW h=>h.2.1) (λW hG K' hK=>?_) (λx1 hF1=>?_)
 focus
  have HC:=ja (jah1 W)
  clear hG
  go_simp
  go_wp2_with (first
   | (go_at_call 44;refine HC.o.mono ?_;rintro e w6 ⟨A,n,c,rfl,ho,hb⟩
      have HO:=ja (jO ho (Nat.zero_le _));have HBB:=ja hb;clear ho hb))
  exact hK.out (A,n,c) _ HO.o HBB.o
 (try simp only[Act.put,lA,lB,lC])
 refine jg.on 2 (λx:Sl=>.agg #[.int .i64 1,.slice x.1 x.2.1 x.2.2]) (λx W=>zf3 0 x [(4,1)] W) rfl rfl HFL (by decide +kernel) hF1 (λW hG K' hK=>?_) (λx2 hF2=>?_)
 focus
  have HC:=ja (jah1 W)
  clear hG
  go_simp
  go_wp2_with (first
   | (go_at_call 44;refine HC.o.mono ?_;rintro e w6 ⟨A,n,c,rfl,ho,hb⟩
      have HO:=ja (jO ho (Nat.zero_le _));have HBB:=ja hb;clear ho hb))
  exact hK.out (A,n,c) _ HO.o HBB.o
 (try simp only[Act.put,lA,lB,lC])
 refine jg.on 3 (λx:Sl×Sl=>.agg #[.int .i64 ra,.slice x.1.1 x.1.2.1 x.1.2.2,.int .i64 rb,.slice x.2.1 x.2.2.1 x.2.2.2,.int .i64 re]) (λx W=>(TQ x.1 rat W/\TQ x.2 rbt W)) rfl rfl HFL (by decide +kernel) hF2 (λW hG K' hK=>?_) (λx3 hF3=>?_)
 focus
  have HC:=ja (jcv6 m1 A5 n5 c5 m2 m1 A5 n5 c5 m2 m3 1 x1.1 x1.2.1 x1.2.2 [(4,1)] 1 x2.1 x2.2.1 x2.2.2 [(4,1)] W (TQ.read hG.1.1.1.2.1.2) (TQ.read hG.1.1.1.2.2) (Rq.of (ZF hG.1.2)) (Rq.of (ZF hG.2)))
  rw[show za8 (λx y=>jc7 x.1 x.2 y.1 y.2) _ _ _ _ _=_ from HR1.o] at HC
  clear hG
  go_simp
  go_wp2_with (first
   | (go_at_call 43;refine HC.o.mono ?_;rintro e w6 ⟨Aa,na,ca,Ab,nb,cb,rfl,ta,tb,hb⟩
      have HTA:=ja (TQ.of ta);have HTB:=ja (TQ.of tb)
      have HBB:=ja hb;clear ta tb hb))
  exact hK.out ((Aa,na,ca),(Ab,nb,cb)) _ ⟨HTA.o,HTB.o⟩ HBB.o
 (try simp only[Act.put,lA,lB,lC])
 refine jg.on 8 (λx:Sl×Sl=>.agg #[.int .i64 sa,.slice x.1.1 x.1.2.1 x.1.2.2,.int .i64 sb,.slice x.2.1 x.2.2.1 x.2.2.2,.int .i64 se]) (λx W=>(TQ x.1 sat W/\TQ x.2 sbt W)) rfl rfl HFL (by decide +kernel) hF3 (λW hG K' hK=>?_) (λx8 hF8=>?_)
 focus
  have HC:=ja (jcv7 ra x3.1.1 x3.1.2.1 x3.1.2.2 rat rb x3.2.1 x3.2.2.1 x3.2.2.2 rbt re hd A2 n2 c2 ht ld A1 n1 c1 lt W (TQ.read hG.2.1) (TQ.read hG.2.2) (Rq.more (HPH.o W hG.1.1.1.1.1.1.1.1) hG.1.1.1.1.1.1.1.2) (Rq.more (HPL.o W hG.1.1.1.1.1.1.1.1) hG.1.1.1.1.1.1.1.2))
  rw[show za8 (λx y=>jn7 x.1 x.2 y.1 y.2) _ _ _ _ _=_ from HR2.o] at HC
  clear hG
  go_simp
  go_wp2_with (first
   | (go_at_call 43;refine HC.o.mono ?_;rintro e w6 ⟨Aa,na,ca,Ab,nb,cb,rfl,ta,tb,hb⟩
      have HTA:=ja (TQ.of ta);have HTB:=ja (TQ.of tb)
      have HBB:=ja hb;clear ta tb hb))
  exact hK.out ((Aa,na,ca),(Ab,nb,cb)) _ ⟨HTA.o,HTB.o⟩ HBB.o
 (try simp only[Act.put,lA,lB,lC])
 refine jg.fin rfl hF8 (λW9 hG jb=>?_)
 have HS5:=ja hG.1.1.1.1.1
 have HTA5:=ja hG.2.1
 have HTB5:=ja hG.2.2
 clear hG HGd HFL hF1 hF2 hF3 hF8 HS p0 p1 p2 p3 p4 y0 y1 y2 y3 h13 h5
 obtain⟨q0,q1,q2,q3,q4,qf0,qf1,qf2,qf3,qf4⟩:=HS5.o.2.1.1.five
 refine je 9 rfl (by decide +kernel) (λK hK=>?_)
 go_simp
 refine hK.out _ _ ⟨trivial,λh=>absurd h (by decide +kernel),λ_=>trivial⟩ (λjb=>?_)
 clear hK K
 (try simp only[Act.put,lA,lB,lC])
 refine jl (by decide +kernel) ?_
 clear jb
 clear q0 q1 q2 q3 q4 qf0 qf1 qf2 qf3 qf4
 have HS9:Hid ((RuS w X5 xd A n c ld A1 n1 c1 hd A2 n2 c2 (((((W9.setCell ⟨X13,0,none⟩ (.int .i64 sa)).setCell ⟨X13,1,none⟩ (.slice x8.1.1 x8.1.2.1 x8.1.2.2)).setCell ⟨X13,2,none⟩ (.int .i64 sb)).setCell ⟨X13,3,none⟩ (.slice x8.2.1 x8.2.2.1 x8.2.2.2)).setCell ⟨X13,4,none⟩ (.int .i64 se)))/\PvQ X13 ((sa,sat),(sb,sbt),se) x8.1 x8.2 (((((W9.setCell ⟨X13,0,none⟩ (.int .i64 sa)).setCell ⟨X13,1,none⟩ (.slice x8.1.1 x8.1.2.1 x8.1.2.2)).setCell ⟨X13,2,none⟩ (.int .i64 sb)).setCell ⟨X13,3,none⟩ (.slice x8.2.1 x8.2.2.1 x8.2.2.2)).setCell ⟨X13,4,none⟩ (.int .i64 se))):=ja ⟨⟨⟨⟨(((((HS5.o.1.1.1.1.setCell (p:=⟨X13,0,none⟩) HX13.o.1 (.int .i64 sa)).setCell (p:=⟨X13,1,none⟩) HX13.o.1 (.slice x8.1.1 x8.1.2.1 x8.1.2.2)).setCell (p:=⟨X13,2,none⟩) HX13.o.1 (.int .i64 sb)).setCell (p:=⟨X13,3,none⟩) HX13.o.1 (.slice x8.2.1 x8.2.2.1 x8.2.2.2)).setCell (p:=⟨X13,4,none⟩) HX13.o.1 (.int .i64 se)),by simp;exact HS5.o.1.1.1.2⟩,(((((HS5.o.1.1.2.far (p:=⟨X13,0,none⟩) HX13.o.2.1 (.int .i64 sa)).far (p:=⟨X13,1,none⟩) HX13.o.2.1 (.slice x8.1.1 x8.1.2.1 x8.1.2.2)).far (p:=⟨X13,2,none⟩) HX13.o.2.1 (.int .i64 sb)).far (p:=⟨X13,3,none⟩) HX13.o.2.1 (.slice x8.2.1 x8.2.2.1 x8.2.2.2)).far (p:=⟨X13,4,none⟩) HX13.o.2.1 (.int .i64 se))⟩,(((((HS5.o.1.2.far (p:=⟨X13,0,none⟩) HX13.o.2.2 (.int .i64 sa)).far (p:=⟨X13,1,none⟩) HX13.o.2.2 (.slice x8.1.1 x8.1.2.1 x8.1.2.2)).far (p:=⟨X13,2,none⟩) HX13.o.2.2 (.int .i64 sb)).far (p:=⟨X13,3,none⟩) HX13.o.2.2 (.slice x8.2.1 x8.2.2.1 x8.2.2.2)).far (p:=⟨X13,4,none⟩) HX13.o.2.2 (.int .i64 se))⟩,⟨(((((HS5.o.2.1.1.set_ 0 (.int .i64 sa)).set_ 1 (.slice x8.1.1 x8.1.2.1 x8.1.2.2)).set_ 2 (.int .i64 sb)).set_ 3 (.slice x8.2.1 x8.2.2.1 x8.2.2.2)).set_ 4 (.int .i64 se)),jcp2 HTA5.o HS5.o.2.1.1 (.int .i64 sa) (.slice x8.1.1 x8.1.2.1 x8.1.2.2) (.int .i64 sb) (.slice x8.2.1 x8.2.2.1 x8.2.2.2) (.int .i64 se)⟩,jcp2 HTB5.o HS5.o.2.1.1 (.int .i64 sa) (.slice x8.1.1 x8.1.2.1 x8.1.2.2) (.int .i64 sb) (.slice x8.2.1 x8.2.2.1 x8.2.2.2) (.int .i64 se)⟩
 clear HS5 HTA5 HTB5
 generalize (((((W9.setCell ⟨X13,0,none⟩ (.int .i64 sa)).setCell ⟨X13,1,none⟩ (.slice x8.1.1 x8.1.2.1 x8.1.2.2)).setCell ⟨X13,2,none⟩ (.int .i64 sb)).setCell ⟨X13,3,none⟩ (.slice x8.2.1 x8.2.2.1 x8.2.2.2)).setCell ⟨X13,4,none⟩ (.int .i64 se))=V8 at *
 have HS:=ja HS9.o
 clear HS9
 obtain⟨xP,yP⟩:=x8
 dsimp only at HS
 go_upto_region 10 with fail
 obtain⟨p0,p1,p2,p3,p4,_,_,_,_,_⟩:=HS.o.2.1.1.five
 dsimp only at p0 p1 p2 p3 p4
 have h13:X13<V8.heap.size:=HS.o.2.1.1.lt
 have HGd:Hid (((RuS w X5 xd A n c ld A1 n1 c1 hd A2 n2 c2 V8.drew)/\PvQ X13 ((sa,sat),(sb,sbt),se) xP yP V8.drew)/\(Below V8.heap.size V8 V8.drew/\V8.heap.size<=V8.drew.heap.size)):=ja ⟨Kept.keep (S:=λW=>((RuS w X5 xd A n c ld A1 n1 c1 hd A2 n2 c2 W)/\PvQ X13 ((sa,sat),(sb,sbt),se) xP yP W)) _ _ HS.o (Below.drew (Below.refl _ _)),Below.drew (Below.refl _ _),Nat.le_refl _⟩
 refine zV 4 (λW'=>Below V8.heap.size V8 W') (λ_ _ _=>True) [] (λW'=>((RuS w X5 xd A n c ld A1 n1 c1 hd A2 n2 c2 W')/\PvQ X13 ((sa,sat),(sb,sbt),se) xP yP W')/\(Below V8.heap.size V8 W'/\V8.heap.size<=W'.heap.size)) (by kernel_rfl)
  (Floats.of (by decide +kernel) (λc a d v w=>by cases d<;>exact Iff.rfl) (by intro i hi;cases hi) (λ_ _ _ _ _ _=>trivial))
  (λ_ _ _ h=>h) (by decide) HGd.o (λW h=>h.2.1) (λHFL=>?_)
 refine jst 0 HFL (λW h=>h.2.1) ?_ ?_ ?_
 rotate_left 1
 focus(intro W hF;have hF:=hF (by decide +kernel);have e1:=(hF.cell (p:=⟨X13,0,none⟩) h13).trans p0;have e2:=(hF.cell (p:=⟨X13,1,none⟩) h13).trans p1;have e3:=(hF.cell (p:=⟨X13,2,none⟩) h13).trans p2;have e4:=(hF.cell (p:=⟨X13,3,none⟩) h13).trans p3;have e5:=(hF.cell (p:=⟨X13,4,none⟩) h13).trans p4;clear hF;go_simp;try with_reducible rfl)
 (try simp only[Act.put,lA,lB,lC])
 refine jg.on 1 (λx:Sl=>.agg #[.int .i64 1,.slice x.1 x.2.1 x.2.2]) (λx W=>zf3 0 x [(1,1)] W) rfl rfl HFL (by decide +kernel) (λW h=>h.2.1) (λW hG K' hK=>?_) (λx1 hF1=>?_)
 focus
  have HC:=ja (jad4 W)
  clear hG
  go_simp
  go_wp2_with (first
   | (go_at_call 44;refine HC.o.mono ?_;rintro e w6 ⟨A,n,c,rfl,ho,hb⟩
      have HO:=ja (jO ho (Nat.zero_le _));have HBB:=ja hb;clear ho hb))
  exact hK.out (A,n,c) _ HO.o HBB.o
 (try simp only[Act.put,lA,lB,lC])
 refine jg.on 2 (λx:Sl=>.agg #[.int .i64 1,.slice x.1 x.2.1 x.2.2]) (λx W=>zf3 0 x [(1,1)] W) rfl rfl HFL (by decide +kernel) hF1 (λW hG K' hK=>?_) (λx2 hF2=>?_)
 focus
  have HC:=ja (jad4 W)
  clear hG
  go_simp
  go_wp2_with (first
   | (go_at_call 44;refine HC.o.mono ?_;rintro e w6 ⟨A,n,c,rfl,ho,hb⟩
      have HO:=ja (jO ho (Nat.zero_le _));have HBB:=ja hb;clear ho hb))
  exact hK.out (A,n,c) _ HO.o HBB.o
 (try simp only[Act.put,lA,lB,lC])
 refine jg.on 3 (λx:Sl×Sl=>.agg #[.int .i64 ta,.slice x.1.1 x.1.2.1 x.1.2.2,.int .i64 tb,.slice x.2.1 x.2.2.1 x.2.2.2,.int .i64 te]) (λx W=>(TQ x.1 tat W/\TQ x.2 tbt W)) rfl rfl HFL (by decide +kernel) hF2 (λW hG K' hK=>?_) (λx3 hF3=>?_)
 focus
  have HC:=ja (jcv8 sa xP.1 xP.2.1 xP.2.2 sat sb yP.1 yP.2.1 yP.2.2 sbt se 1 x1.1 x1.2.1 x1.2.2 [(1,1)] 1 x2.1 x2.2.1 x2.2.2 [(1,1)] W (TQ.read hG.1.1.1.2.1.2) (TQ.read hG.1.1.1.2.2) (Rq.of (ZF hG.1.2)) (Rq.of (ZF hG.2)))
  rw[show za8 (λx y=>jL x.1 x.2 y.1 y.2 (-1)) _ _ _ _ _=_ from HR3.o] at HC
  clear hG
  go_simp
  go_wp2_with (first
   | (go_at_call 43;refine HC.o.mono ?_;rintro e w6 ⟨Aa,na,ca,Ab,nb,cb,rfl,ta,tb,hb⟩
      have HTA:=ja (TQ.of ta);have HTB:=ja (TQ.of tb)
      have HBB:=ja hb;clear ta tb hb))
  exact hK.out ((Aa,na,ca),(Ab,nb,cb)) _ ⟨HTA.o,HTB.o⟩ HBB.o
 (try simp only[Act.put,lA,lB,lC])
 refine jg.fin rfl hF3 (λW9 hG jb=>?_)
 have HS5:=ja hG.1.1.1.1
 have HTA5:=ja hG.2.1
 have HTB5:=ja hG.2.2
 clear hG HGd HFL hF1 hF2 hF3 HS p0 p1 p2 p3 p4 h13
 obtain⟨q0,q1,q2,q3,q4,qf0,qf1,qf2,qf3,qf4⟩:=HS5.o.2.1.1.five
 refine je 4 rfl (by decide +kernel) (λK hK=>?_)
 go_simp
 refine hK.out _ _ ⟨trivial,λh=>absurd h (by decide +kernel),λ_=>trivial⟩ (λjb=>?_)
 clear hK K
 (try simp only[Act.put,lA,lB,lC])
 refine jl (by decide +kernel) ?_
 clear jb
 clear q0 q1 q2 q3 q4 qf0 qf1 qf2 qf3 qf4
 have HS9:Hid ((RuS w X5 xd A n c ld A1 n1 c1 hd A2 n2 c2 (((((W9.setCell ⟨X13,0,none⟩ (.int .i64 ta)).setCell ⟨X13,1,none⟩ (.slice x3.1.1 x3.1.2.1 x3.1.2.2)).setCell ⟨X13,2,none⟩ (.int .i64 tb)).setCell ⟨X13,3,none⟩ (.slice x3.2.1 x3.2.2.1 x3.2.2.2)).setCell ⟨X13,4,none⟩ (.int .i64 te)))/\PvQ X13 ((ta,tat),(tb,tbt),te) x3.1 x3.2 (((((W9.setCell ⟨X13,0,none⟩ (.int .i64 ta)).setCell ⟨X13,1,none⟩ (.slice x3.1.1 x3.1.2.1 x3.1.2.2)).setCell ⟨X13,2,none⟩ (.int .i64 tb)).setCell ⟨X13,3,none⟩ (.slice x3.2.1 x3.2.2.1 x3.2.2.2)).setCell ⟨X13,4,none⟩ (.int .i64 te))):=ja ⟨⟨⟨⟨(((((HS5.o.1.1.1.1.setCell (p:=⟨X13,0,none⟩) HX13.o.1 (.int .i64 ta)).setCell (p:=⟨X13,1,none⟩) HX13.o.1 (.slice x3.1.1 x3.1.2.1 x3.1.2.2)).setCell (p:=⟨X13,2,none⟩) HX13.o.1 (.int .i64 tb)).setCell (p:=⟨X13,3,none⟩) HX13.o.1 (.slice x3.2.1 x3.2.2.1 x3.2.2.2)).setCell (p:=⟨X13,4,none⟩) HX13.o.1 (.int .i64 te)),by simp;exact HS5.o.1.1.1.2⟩,(((((HS5.o.1.1.2.far (p:=⟨X13,0,none⟩) HX13.o.2.1 (.int .i64 ta)).far (p:=⟨X13,1,none⟩) HX13.o.2.1 (.slice x3.1.1 x3.1.2.1 x3.1.2.2)).far (p:=⟨X13,2,none⟩) HX13.o.2.1 (.int .i64 tb)).far (p:=⟨X13,3,none⟩) HX13.o.2.1 (.slice x3.2.1 x3.2.2.1 x3.2.2.2)).far (p:=⟨X13,4,none⟩) HX13.o.2.1 (.int .i64 te))⟩,(((((HS5.o.1.2.far (p:=⟨X13,0,none⟩) HX13.o.2.2 (.int .i64 ta)).far (p:=⟨X13,1,none⟩) HX13.o.2.2 (.slice x3.1.1 x3.1.2.1 x3.1.2.2)).far (p:=⟨X13,2,none⟩) HX13.o.2.2 (.int .i64 tb)).far (p:=⟨X13,3,none⟩) HX13.o.2.2 (.slice x3.2.1 x3.2.2.1 x3.2.2.2)).far (p:=⟨X13,4,none⟩) HX13.o.2.2 (.int .i64 te))⟩,⟨(((((HS5.o.2.1.1.set_ 0 (.int .i64 ta)).set_ 1 (.slice x3.1.1 x3.1.2.1 x3.1.2.2)).set_ 2 (.int .i64 tb)).set_ 3 (.slice x3.2.1 x3.2.2.1 x3.2.2.2)).set_ 4 (.int .i64 te)),jcp2 HTA5.o HS5.o.2.1.1 (.int .i64 ta) (.slice x3.1.1 x3.1.2.1 x3.1.2.2) (.int .i64 tb) (.slice x3.2.1 x3.2.2.1 x3.2.2.2) (.int .i64 te)⟩,jcp2 HTB5.o HS5.o.2.1.1 (.int .i64 ta) (.slice x3.1.1 x3.1.2.1 x3.1.2.2) (.int .i64 tb) (.slice x3.2.1 x3.2.2.1 x3.2.2.2) (.int .i64 te)⟩
 clear HS5 HTA5 HTB5
 generalize (((((W9.setCell ⟨X13,0,none⟩ (.int .i64 ta)).setCell ⟨X13,1,none⟩ (.slice x3.1.1 x3.1.2.1 x3.1.2.2)).setCell ⟨X13,2,none⟩ (.int .i64 tb)).setCell ⟨X13,3,none⟩ (.slice x3.2.1 x3.2.2.1 x3.2.2.2)).setCell ⟨X13,4,none⟩ (.int .i64 te))=V9 at *
 have HS:=ja HS9.o
 clear HS9
 obtain⟨xR,yR⟩:=x3
 dsimp only at HS
 obtain⟨p0,p1,p2,p3,p4,_,_,_,_,_⟩:=HS.o.2.1.1.five
 dsimp only at p0 p1 p2 p3 p4
 by_cases hte:te=0
 rotate_left 1
 focus
  have hteb:(te !=0)=true:=by simpa using hte
  have HBe:=ja HS.o.1.1.1.1
  have HV:=ja (HRES.o 0 0 te (.inl ⟨hte,rfl,rfl,rfl⟩))
  clear HRES HTN
  go_upto_region 12 with fail
  go_quiet (fail)
  go_wp2
  go_ret3
  exact⟨_,_,_,rfl,HV.o,jp HBe.o _⟩
 subst hte
 obtain⟨hn1,hn2⟩:=HTN.o rfl
 have HBN:=ja (zr4 ta xR.1 xR.2.1 xR.2.2 tat den V9.heap.size V9 (TQ.read HS.o.2.1.2) (Nat.le_refl _) hn1)
 have HN2:=ja hn2
 clear hn1 hn2 HTN
 go_wp2_with fail
 refine HBN.o.mono ?_
 rintro e w10 ⟨l1,hh1,cc1,rfl,hb1,hb⟩
 have HS10:=ja (Kept.keep (S:=λW=>((RuS w X5 xd A n c ld A1 n1 c1 hd A2 n2 c2 W)/\PvQ X13 ((ta,tat),(tb,tbt),0) xR yR W)) _ _ HS.o hb)
 have HB1:=ja hb1
 clear hb hb1 p0 p1 p2 p3 p4 HBN HS
 by_cases hc1:cc1=0
 rotate_left 1
 focus
  have hcb:(cc1 !=0)=true:=by simpa using hc1
  have HBe:=ja HS10.o.1.1.1.1
  have HV:=ja (HRES.o 0 0 cc1 (.inr ⟨rfl,l1,hh1,cc1,HB1.o,.inl ⟨hc1,rfl,rfl,rfl⟩⟩))
  clear HRES
  go_wp2
  go_ret3
  exact⟨_,_,_,rfl,HV.o,HBe.o⟩
 subst hc1
 obtain⟨p0,p1,p2,p3,p4,_,_,_,_,_⟩:=HS10.o.2.1.1.five
 dsimp only at p0 p1 p2 p3 p4
 have HBM:=ja (zr4 tb yR.1 yR.2.1 yR.2.2 tbt den w10.heap.size w10 (TQ.read HS10.o.2.2) (Nat.le_refl _) HN2.o)
 go_wp2_with fail
 refine HBM.o.mono ?_
 rintro e w11 ⟨l2,hh2,cc2,rfl,hb2,hb⟩
 have HBe:=ja (HS10.o.1.1.1.1.trans (hb.mono HS10.o.1.1.1.2))
 have HV:=ja (HRES.o l1 hh2 0 (.inr ⟨rfl,l1,hh1,0,HB1.o,.inr ⟨rfl,l2,cc2,hb2,rfl,rfl⟩⟩))
 clear HRES hb hb2 p0 p1 p2 p3 p4
 go_wp2
 go_ret3
 exact⟨_,_,_,rfl,HV.o,HBe.o⟩
