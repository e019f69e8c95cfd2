import Derived.Test.YtphcodcdfeohhaaGreatDoorCordCToCardB
set_option linter.all false
namespace Go.Proofs.YtphcodcdfeohhaaGreatDoor
set_option maxRecDepth 100000
set_option maxHeartbeats 8000000
open Go.RowKit
def JB:Int×List (Int×Int)->List (Bool×List Int)->Int×List (Int×Int)×Int
 | x,[]=>(x.1,x.2,0)
 | x,p::ps=>
  if(jL x.1 x.2 (zJ 1 p.2) [(1,1)] (if p.1 then -1 else 1)).2.2=0 then JB ((jL x.1 x.2 (zJ 1 p.2) [(1,1)] (if p.1 then -1 else 1)).1,(jL x.1 x.2 (zJ 1 p.2) [(1,1)] (if p.1 then -1 else 1)).2.1) ps
  else(0,[],(jL x.1 x.2 (zJ 1 p.2) [(1,1)] (if p.1 then -1 else 1)).2.2)
theorem jb2 (x:Int×List (Int×Int)) (p:Bool×List Int) (ps:List (Bool×List Int)) (d c:Int) (l:List (Int×Int)) (h:jL x.1 x.2 (zJ 1 p.2) [(1,1)] (if p.1 then -1 else 1)=(d,l,c)) :
  JB x (p::ps)=if c=0 then JB (d,l) ps else(0,[],c):=by
 conv=>lhs;unfold JB
 rw[h]
def Jk(wh:Int)(l:List (Bool×List Int)):Int×List (Int×Int)×Int:=
 if ZO wh l=true then if(l.any λp=>zJ 1 p.2==0)=true then(0,[],10)else JB (jI wh) l else(0,[],2)
theorem jD.grown{w w':World}{B n c:Nat}{A:Option Addr}{l:List PieceV}(h:jD w B A n c l){row:Option Nat}(hg:w.grownBy w' row)(hB:B<=w.heap.size)(hr:∀g,row=some g->B<=g):jD w' B A n c l:=
 ⟨h.1.grown hg hB hr,λp hp=>Rd.grown (h.2 p hp) hg hB hr⟩
theorem jab4 {w wa w6:World} {X5 B n c n6 c6 base:Nat} {d s1:Int} {A A3 A6:Option Addr} {n3 c3:Nat} {l:List PieceV} {xs:List Value} (hb:Below wa.heap.size wa w6) (ho:w6.ownsRow base 59 2 (.slice A6 n6 c6) n6 xs) (hbs:w.heap.size<=base)
  (hk:jh wa X5 24 #[.int .i64 d,.slice A3 n3 c3]) (hr:jh wa (w.heap.size+1) 24 #[.int .i64 0,.slice none 0 0]) (hp:jD wa B A n c l) (hbl:Below w.heap.size w wa) (hX:w.heap.size+1<X5) (hB:B<=w.heap.size) :
  jh ((w6.setCell ⟨X5,0,none⟩ (.int .i64 s1)).setCell ⟨X5,1,none⟩ (.slice A6 n6 c6)) X5 24 #[.int .i64 s1,.slice A6 n6 c6] /\
  ((w6.setCell ⟨X5,0,none⟩ (.int .i64 s1)).setCell ⟨X5,1,none⟩ (.slice A6 n6 c6)).ownsRow w.heap.size 59 2 (.slice A6 n6 c6) n6 xs /\
  jh ((w6.setCell ⟨X5,0,none⟩ (.int .i64 s1)).setCell ⟨X5,1,none⟩ (.slice A6 n6 c6)) (w.heap.size+1) 24 #[.int .i64 0,.slice none 0 0] /\
  jD ((w6.setCell ⟨X5,0,none⟩ (.int .i64 s1)).setCell ⟨X5,1,none⟩ (.slice A6 n6 c6)) B A n c l /\
  Below w.heap.size w ((w6.setCell ⟨X5,0,none⟩ (.int .i64 s1)).setCell ⟨X5,1,none⟩ (.slice A6 n6 c6)):=by
 have hk6:=hk.below hb hk.lt
 have hbz:=hbl.size
 have hg:=zn (zn (World.grownBy.refl w6 (some X5)) 0 (.int .i64 s1)) 1 (.slice A6 n6 c6)
 refine⟨(hk6.set_ 0 _).set_ 1 _,jO (jC (jC ho hk6 (by decide)) (hk6.set_ 0 _) (by decide)) hbs,(hr.below hb hr.lt).grown hg (by simp;omega),(hp.below (hb.mono (by omega))).grown hg (by have:=hb.size;omega) (λ_ e=>by cases e;omega),?_⟩
 exact((hbl.trans (hb.mono hbz)).setCell (p:=⟨X5,0,none⟩) (by show _<=X5;omega) _).setCell (p:=⟨X5,1,none⟩) (by show _<=X5;omega) _
theorem jab3 (wh:Int) (A:Option Addr) (n c B:Nat) (l:List PieceV) (w:World) (hp:jD w B A n c l) (hB:B<=w.heap.size) :
  Calls Tryz.prog 33 #[.agg #[.int .i64 wh,.slice A n c]] w (jV w (Jk wh (l.map PieceV.flat))):=by
 have hl:=hp.len
 subst hl
 have hnm:=hp.1.nmax
 obtain⟨w0,hw0⟩:∃w0,w0=(w.alloc (.cells #[.int .i64 wh,.slice A l.length c] 43)).alloc (.cells #[.int .i64 0,.slice none 0 0] 24):=⟨_,rfl⟩
 have hz0:w0.heap.size=w.heap.size+2:=by rw[hw0];simp
 have h01:Below w.heap.size w w0:=by rw[hw0];exact((Below.refl _ _).alloc (Nat.le_refl _) _).alloc (by simp) _
 have HX0:Hid (jh w0 w.heap.size 43 #[.int .i64 wh,.slice A l.length c]):=ja (by rw[hw0];exact(jh.new w _ _).alloc _)
 have HR0:Hid (jh w0 (w.heap.size+1) 24 #[.int .i64 0,.slice none 0 0]):=ja (by
  rw[hw0]
  have h:=jh.new (w.alloc (.cells #[.int .i64 wh,.slice A l.length c] 43)) 24 #[.int .i64 0,.slice none 0 0]
  rwa [World.size_alloc] at h)
 have HP0:=ja (hp.below (h01.mono hB))
 have HCK:=ja (Zi wh A l.length c B l w0 HP0.o (by omega))
 have HB0:=ja h01
 clear hp h01
 have hpost:∀(W:World) (a:Act) (A:Option Addr) (n c:Nat) (x y:Int) (s:List (Int×Int)),Jk wh (l.map PieceV.flat)=(x,s,y)->W.ownsRow w.heap.size 59 2 (.slice A n c) n (jr s)->Below w.heap.size w W->jh W (w.heap.size+1) 24 #[.int .i64 x,.slice A n c] ->
   a.tmps.getD 2 undef=.pointer (some ⟨w.heap.size+1,0,none⟩)->a.tmps.getD 3 undef=.int .i64 y->a.defers=[] ->
   bodyPost Tryz.prog Tryz.f33 (jV w (Jk wh (l.map PieceV.flat))) .ret a W:=by
  intro W a A n c x y s e1 e2 e3 e4 e5 e6 e7
  refine jq (p:=2) (u:=3) (ty:=24) rfl e5 e4 Tryz.underlying24 rfl Tryz.sizeNumber e7 ?_
  rw[e1,e6]
  exact⟨A,n,c,rfl,e2,e3⟩
 have HPOST:=ja hpost
 clear hpost
 go_enter Tryz.func33,Tryz.ntmps33
 go_wp2_with fail
 rw[<-hw0]
 clear hw0
 refine HCK.o.mono ?_
 rintro e w1 ⟨rfl,hb1⟩
 have hz1:w.heap.size+2<=w1.heap.size:=by have:=hb1.size;omega
 have HX1:=ja (HX0.o.below hb1 (by omega))
 have HR1:=ja (HR0.o.below hb1 (by omega))
 have HP1:=ja (HP0.o.below (hb1.mono (by omega)))
 have HB1:=ja (HB0.o.trans (hb1.mono (by omega)))
 obtain⟨r0,r1,rf0,rf1⟩:=HR1.o.two
 obtain⟨x0,x1,_,_⟩:=HX1.o.two
 clear HX0 HR0 HP0 HB0 HCK hb1 hz0
 cases hok:ZO wh (l.map PieceV.flat)
 ·have HV:Hid (Jk wh (l.map PieceV.flat)=(0,[],2)):=ja (by unfold Jk;rw[if_neg (by rw[hok];decide)])
  simp only[QK]
  clear hok
  go_wp2
  exact HPOST.o _ _ none 0 0 0 2 [] HV.o ⟨rfl,.inl ⟨rfl,rfl⟩⟩ (Below.setCell (Below.setCell HB1.o (p:=⟨w.heap.size+1,0,none⟩) (by simp) _) (p:=⟨w.heap.size+1,1,none⟩) (by simp) _) ((HR1.o.set_ 0 _).set_ 1 _) rfl rfl rfl
 ·have HV0:Hid (Jk wh (l.map PieceV.flat)=if((l.map PieceV.flat).any λp=>zJ 1 p.2==0)=true then(0,[],10)else JB (jI wh) (l.map PieceV.flat)):=ja (by unfold Jk;rw[if_pos hok])
  obtain⟨g1,g2,g3⟩:=qx hok
  have hms:∀p∈l,∀m∈p.ms,0<=m/\m<=1000:=λp hp m hm=>by
   have:=(g3 p.flat (List.mem_map_of_mem hp)).2.2 m hm
   omega
  have HMS:=ja hms
  have HCF:=ja (qR PieceV.enc A l.length c B 75 #[] l (λp=>zJ 1 p.ms==0) w1 HP1.o.1 (by omega) (λargs w=>enters_of Tryz.func75 (by kernel_rfl) rfl args w) (λW x hx hW=>
   jbf3 x B W ((HP1.o.below (hW.mono (by omega))).2 x hx) (by have:=hW.size;omega) (hms x hx)))
  have hany:((l.map PieceV.flat).any λp=>zJ 1 p.2==0)=(l.any λp=>zJ 1 p.ms==0):=by rw[List.any_map];rfl
  rw[hany] at HV0
  simp only[QK]
  clear hok g2 g3 hms
  cases han:(l.any λp=>zJ 1 p.ms==0)
  ·rw[han] at HCF HV0
   have HV:Hid (Jk wh (l.map PieceV.flat)=JB (jI wh) (l.map PieceV.flat)):=ja (HV0.o.trans (if_neg (by decide)))
   clear HV0 hany han
   have HWN:=ja (λW=>jk3 wh W)
   generalize jI wh=wn at *
   obtain⟨d0,xt0⟩:=wn
   go_wp2_with (first
    | (go_at_call 74;refine HCF.o.mono ?_;rintro e w2 ⟨rfl,hb2⟩
       have hz2:=hb2.size
       have HX2:=ja (HX1.o.below hb2 (by omega));have HR2:=ja (HR1.o.below hb2 (by omega));have HB2:=ja (HB1.o.trans (hb2.mono (by omega)));have HP2:=ja (HP1.o.below (hb2.mono (by omega)))
       obtain⟨u0,u1,_,_⟩:=HX2.o.two
       clear hb2)
    | (go_at_call 50;refine(HWN.o _).mono ?_;rintro e w3 ⟨A3,n3,c3,rfl,ho3,hb3⟩
       have hz3:=hb3.size
       have HX3:=ja (HX2.o.below hb3 (by omega));have HR3:=ja (HR2.o.below hb3 (by omega));have HB3:=ja (HB2.o.trans (hb3.mono (by omega)));have HP3:=ja (HP2.o.below (hb3.mono (by omega)))
       have HO3:=ja ho3
       obtain⟨v0,v1,_,_⟩:=HX3.o.two
       have vx:=λo=>((HX3.o.alloc o).two).2.1
       clear hb3 ho3))
   obtain⟨X5,hX5⟩:∃X5,X5=w3.heap.size:=⟨_,rfl⟩
   have HB4:=ja (HB3.o.alloc HB3.o.size (.cells #[.int .i64 d0,.slice A3 n3 c3] 24))
   have HK4:Hid (jh (w3.alloc (.cells #[.int .i64 d0,.slice A3 n3 c3] 24)) X5 24 #[.int .i64 d0,.slice A3 n3 c3]):=ja (by rw[hX5];exact jh.new _ _ _)
   have HR4:=ja (HR3.o.alloc (.cells #[.int .i64 d0,.slice A3 n3 c3] 24))
   have HP4:=ja (HP3.o.alloc (by omega) (.cells #[.int .i64 d0,.slice A3 n3 c3] 24))
   have HO4:=ja (jO (HO3.o.alloc (.cells #[.int .i64 d0,.slice A3 n3 c3] 24)) (show w.heap.size<=w2.heap.size by omega))
   have hX:w.heap.size+1<X5:=by omega
   rw[<-hX5]
   clear hX5 HX1 HX2 HX3 HR1 HR2 HR3 HP1 HP2 HP3 HB1 HB2 HB3 HO3 HCF HWN
   go_loopw [26] (λi W=>∃(k:Nat) (d:Int) (A3:Option Addr) (n3 c3:Nat) (xt:List (Int×Int)),k<=l.length/\i=.int .i64 k/\JB (d0,xt0) (l.map PieceV.flat)=JB (d,xt) ((l.drop k).map PieceV.flat) /\
    jh W X5 24 #[.int .i64 d,.slice A3 n3 c3]/\W.ownsRow w.heap.size 59 2 (.slice A3 n3 c3) n3 (jr xt)/\jh W (w.heap.size+1) 24 #[.int .i64 0,.slice none 0 0]/\jD W B A l.length c l/\Below w.heap.size w W) (λi _=>l.length-(intOf i).toNat)
   case atStart=>exact⟨0,d0,A3,n3,c3,xt0,by omega,rfl,rfl,HK4.o,HO4.o,HR4.o,HP4.o,HB4.o⟩
   case round=>
    obtain⟨k,d,A3,n3,c3,xt,hk,rfl,hvf,hkb,hoo,hrr,hpp,hbb⟩:=hrel
    have hlX:=hkb.lt
    by_cases hlt:k<l.length
    ·obtain⟨ad,had,hc0,hc1⟩:=hpp.at_ hlt
     subst had
     have hpi:=hpp.2 l[k] (List.getElem_mem hlt)
     have hmm:=HMS.o l[k] (List.getElem_mem hlt)
     rw[List.drop_eq_getElem_cons hlt,List.map_cons] at hvf
     generalize l[k]=p at *
     obtain⟨mi,A2,n2,c2,ms⟩:=p
     dsimp only at hc0 hc1 hmm
     have hml:ms.length=n2:=qP.len hpi
     subst hml
     have hflat:PieceV.flat ⟨mi,A2,ms.length,c2,ms⟩=(mi,ms):=rfl
     rw[hflat] at hvf
     generalize hL:(l.drop (k+1)).map PieceV.flat=L at *
     have HL:=ja hL
     have HVFK:=ja hvf
     clear hL hvf hflat
     obtain⟨wa,hwa⟩:∃wa,wa=wr.alloc (.cells #[.bool mi,.slice A2 ms.length c2] 94):=⟨_,rfl⟩
     have hza:wa.heap.size=wr.heap.size+1:=by rw[hwa];simp
     have hab:Below wr.heap.size wr wa:=by rw[hwa];exact(Below.refl _ _).alloc (Nat.le_refl _) _
     obtain⟨U,hU⟩:∃U,U=wr.heap.size:=⟨_,rfl⟩
     have hQ:jh wa U 94 #[.bool mi,.slice A2 ms.length c2]:=by rw[hwa,hU];exact jh.new _ _ _
     have hKa:=hkb.below hab hlX
     have HKa:=ja hKa
     have HOa:=ja (jG hoo hab)
     have HRa:=ja (hrr.below hab hrr.lt)
     have HPa:=ja (hpp.below (hab.mono (by have:=hbb.size;omega)))
     have HBa:=ja (hbb.trans (hab.mono hbb.size))
     have CELLS:=ja (λ(Wc:World) (hb:Below wa.heap.size wa Wc)=>And.intro (hKa.below hb hKa.lt).two (hQ.below hb hQ.lt).two)
     have HPr:=ja (λ(Wc:World) (hb:Below wa.heap.size wa Wc)=>qz A2 ms.length c2 B ms Wc (Rd.below (Rd.below hpi (hab.mono (by have:=hbb.size;omega))) (hb.mono (by have:=hbb.size;omega))) hmm)
     have hUX:X5≠U:=by omega
     have HSET:=ja (λ(Wc:World) (i j:Nat) (u v:Value) (hb:Below wa.heap.size wa Wc)=>(show((Wc.setCell ⟨X5,i,none⟩ u).setCell ⟨X5,j,none⟩ v).cell? ⟨U,1,none⟩=some (.slice A2 ms.length c2)from
      (World.cell?_setCell_other _ _ _ _ (by simp)).trans ((World.cell?_setCell_other _ _ _ _ (by simp)).trans ((hQ.below hb hQ.lt).cell 1))))
     obtain⟨pr,hprm⟩:∃pr,zJ 1 ms=pr:=⟨_,rfl⟩
     rw[hprm] at HPr
     have hmc:∀o,(wr.alloc o).cell? ⟨wr.heap.size+1,0,none⟩=none\/True:=λ_=>.inr trivial
     clear hmc hkb hoo hrr hpp hbb hpi hmm HK4 HO4 HR4 HP4 HB4 hKa hQ hab u0 u1 v0 v1 vx r0 r1 rf0 rf1 x0 x1
     cases hmi:mi
     ·rw[hmi] at hc0 hwa
      have HFC:Hid (∀d' c' l',jL d xt pr [(1,1)] 1=(d',l',c')->JB (d,xt) ((mi,ms)::L)=if c'=0 then JB (d',l') L else(0,[],c')):=ja (λd' c' l' h=>jb2 (d,xt) (mi,ms) L d' c' l' (by rw[hprm,hmi];exact h))
      have HAd:=ja (λ(Wc:World) (A5:Option Addr) (n5 c5:Nat) (hb:Below wa.heap.size wa Wc) (hy:ji Wc Wc.heap.size A5 n5 c5 [(1,1)])=>jbv6 d A3 n3 c3 xt pr A5 n5 c5 [(1,1)] Wc.heap.size Wc (Rd.of_own (jG HOa.o hb)) hy (Nat.le_refl _))
      generalize hsv:jL d xt pr [(1,1)] 1=sv at *
      obtain⟨s1,s2,s3⟩:=sv
      have HVF:=ja (HFC.o s1 s3 s2 rfl)
      clear HFC hsv hprm hmi
      go_wp2
      rw[<-hwa,<-hU]
      clear hwa hU
      have HBc:Hid (Below wa.heap.size wa wa.drew):=ja (Below.drew (Below.refl _ _))
      obtain⟨⟨q1,q2,q3,q4⟩,q5,q6,_,_⟩:=CELLS.o wa (Below.refl _ _)
      have HS1:=ja (show(wa.drew).cell? ⟨U,1,none⟩=some (.slice A2 ms.length c2)from q6)
      have HF1:=ja (show(wa.drew).cell? ⟨X5,0,none⟩=some (.int .i64 d)/\(wa.drew).cell? ⟨X5,1,none⟩=some (.slice A3 n3 c3)from⟨q1,q2⟩)
      refine jk (λw'=>w'.cell? ⟨U,1,none⟩=some (.slice A2 ms.length c2)) 10 (λw'=>w'.cell? ⟨X5,0,none⟩=some (.int .i64 d)/\w'.cell? ⟨X5,1,none⟩=some (.slice A3 n3 c3)) 10 (λw'=>w'.cell? ⟨X5,0,none⟩=some (.int .i64 d)/\w'.cell? ⟨X5,1,none⟩=some (.slice A3 n3 c3)) (by kernel_rfl) ⟨HS1.o,λ_=>HF1.o,λ_=>HF1.o⟩ (λjb=>?_)
      revert jb
      refine jtk 0 ?_ ?_ ?_
      rotate_left 1
      focus(intro w' hSw;obtain⟨hC,hF,hG⟩:=hSw;clear hF;clear hG;go_simp;try with_reducible rfl)
      intro jb
      simp only[Act.put,lA,lB,lC]
      revert jb
      refine jtk 1 ?_ ?_ ?_
      rotate_left 1
      focus(intro w' hSw;obtain⟨hC,hF,hG⟩:=hSw;have hF:=hF (by decide +kernel);clear hG;go_simp;try with_reducible rfl)
      intro jb
      simp only[Act.put,lA,lB,lC]
      revert jb
      refine jtk 2 ?_ ?_ ?_
      rotate_left 1
      focus(intro w' hSw;obtain⟨hC,hF,hG⟩:=hSw;clear hF;clear hG;go_simp;try with_reducible rfl)
      intro jb
      simp only[Act.put,lA,lB,lC]
      revert jb
      refine jtk 3 ?_ ?_ ?_
      rotate_left 1
      focus(intro w' hSw;obtain⟨hC,hF,hG⟩:=hSw;clear hF;clear hG;go_simp;try with_reducible rfl)
      intro jb
      simp only[Act.put,lA,lB,lC]
      refine je 4 rfl (by decide +kernel) (λK hK=>?_)
      go_simp
      go_wp2_with (first
       | (go_at_call 76;refine(HPr.o _ HBc.o).mono ?_;rintro e w5 ⟨rfl,hw5⟩;subst w5))
      refine hK.out _ _ ⟨(CELLS.o _ HBc.o).2.2.1,λ_=>⟨(CELLS.o _ HBc.o).1.1,(CELLS.o _ HBc.o).1.2.1⟩,λ_=>⟨(CELLS.o _ HBc.o).1.1,(CELLS.o _ HBc.o).1.2.1⟩⟩ (λjb=>?_)
      clear hK K
      refine je 5 rfl (by decide +kernel) (λK hK=>?_)
      go_simp
      go_wp2_with (first
       | (go_at_call 55;refine(ZJ 1 pr _).mono ?_;rintro e w5 ⟨A5,n5,c5,rfl,ho5,hb5⟩
          have HBc:=ja (HBc.o.trans (hb5.mono HBc.o.size))
          have hz5:=HBc.o.size
          obtain⟨⟨q1,q2,q3,q4⟩,q5,q6,_,_⟩:=CELLS.o _ HBc.o
          have HT5:Hid (ji w5 w5.heap.size A5 n5 c5 [(1,1)]):=ja (Rd.of_own ho5)
          have HAd5:=ja (HAd.o w5 A5 n5 c5 HBc.o HT5.o)
          clear ho5 hb5))
      refine hK.out _ _ ⟨(CELLS.o _ HBc.o).2.2.1,λ_=>⟨(CELLS.o _ HBc.o).1.1,(CELLS.o _ HBc.o).1.2.1⟩,λ_=>⟨(CELLS.o _ HBc.o).1.1,(CELLS.o _ HBc.o).1.2.1⟩⟩ (λjb=>?_)
      clear hK K
      refine je 6 rfl (by decide +kernel) (λK hK=>?_)
      go_simp
      go_wp2_with (first
       | (go_at_call 77;refine HAd5.o.mono ?_;rintro e w6 ⟨A6,n6,c6,rfl,ho6,hb6⟩
          have HBc:=ja (HBc.o.trans (hb6.mono HBc.o.size))
          obtain⟨⟨q1,q2,q3,q4⟩,q5,q6,_,_⟩:=CELLS.o _ HBc.o
          have HO6:=ja ho6
          clear ho6 hb6))
      refine hK.out _ _ ⟨(CELLS.o _ HBc.o).2.2.1,λ_=>⟨(CELLS.o _ HBc.o).1.1,(CELLS.o _ HBc.o).1.2.1⟩,λ_=>⟨(CELLS.o _ HBc.o).1.1,(CELLS.o _ HBc.o).1.2.1⟩⟩ (λjb=>?_)
      clear hK K
      revert jb
      refine jtk 7 ?_ ?_ ?_
      rotate_left 1
      focus(intro w' hSw;obtain⟨hC,hF,hG⟩:=hSw;clear hF;clear hG;go_simp;try with_reducible rfl)
      intro jb
      simp only[Act.put,lA,lB,lC]
      revert jb
      refine jtk 8 ?_ ?_ ?_
      rotate_left 1
      focus(intro w' hSw;obtain⟨hC,hF,hG⟩:=hSw;clear hF;clear hG;go_simp;try with_reducible rfl)
      intro jb
      simp only[Act.put,lA,lB,lC]
      revert jb
      refine jtk 9 ?_ ?_ ?_
      rotate_left 1
      focus(intro w' hSw;obtain⟨hC,hF,hG⟩:=hSw;clear hF;clear hG;go_simp;try with_reducible rfl)
      intro jb
      simp only[Act.put,lA,lB,lC]
      refine je 10 rfl (by decide +kernel) (λK hK=>?_)
      go_simp
      refine hK.out _ _ ⟨HSET.o _ _ _ _ _ HBc.o,λh=>absurd h (by decide +kernel),λh=>absurd h (by decide +kernel)⟩ (λjb=>?_)
      clear hK K
      revert jb
      refine jtk 11 ?_ ?_ ?_
      rotate_left 1
      focus(intro w' hSw;obtain⟨hC,hF,hG⟩:=hSw;clear hF;clear hG;go_simp;try with_reducible rfl)
      intro jb
      simp only[Act.put,lA,lB,lC]
      refine jl (by decide +kernel) ?_
      clear jb
      all_goals
       have hfin:=jab4 (s1:=s1) HBc.o HO6.o (by have:=HBa.o.size;omega) HKa.o HRa.o HPa.o HBa.o hX hB
       have F1:=ja hfin.1;have F2:=ja hfin.2.1;have F3:=ja hfin.2.2.1;have F4:=ja hfin.2.2.2.1;have F5:=ja hfin.2.2.2.2
       clear hfin HBc CELLS HPr HSET HAd HKa HRa HPa HBa HOa HO6 q1 q2 q3 q4 q5 q6
       generalize (w6.setCell ⟨X5,0,none⟩ (.int .i64 s1)).setCell ⟨X5,1,none⟩ (.slice A6 n6 c6)=wz at *
       by_cases h3:s3=0
       ·subst h3
        have hvf2:=HVF.o
        rw[if_pos rfl] at hvf2
        have HV2:=ja (HVFK.o.trans hvf2)
        clear hvf2 HVF HVFK
        go_wp2
        refine⟨⟨k+1,s1,A6,n6,c6,s2,by omega,by go_num,?_,F1.o,F2.o,F3.o,F4.o,F5.o⟩,by simp[intOf];omega⟩
        rw[HL.o];exact HV2.o
       ·have hn3:(s3 !=0)=true:=by simpa using h3
        have hvf2:=HVF.o
        rw[if_neg h3] at hvf2
        have HV2:=ja (HV.o.trans (HVFK.o.trans hvf2))
        obtain⟨t0,t1,t2,t3⟩:=F3.o.two
        clear hvf2 HVF HVFK h3
        go_wp2
        exact HPOST.o _ _ none 0 0 0 s3 [] HV2.o ⟨rfl,.inl ⟨rfl,rfl⟩⟩ (Below.setCell (Below.setCell F5.o (p:=⟨w.heap.size+1,0,none⟩) (by simp) _) (p:=⟨w.heap.size+1,1,none⟩) (by simp) _) ((F3.o.set_ 0 _).set_ 1 _) rfl rfl rfl
     ·rw[hmi] at hc0 hwa
      have HFC:Hid (∀d' c' l',jL d xt pr [(1,1)] (-1)=(d',l',c')->JB (d,xt) ((mi,ms)::L)=if c'=0 then JB (d',l') L else(0,[],c')):=ja (λd' c' l' h=>jb2 (d,xt) (mi,ms) L d' c' l' (by rw[hprm,hmi];exact h))
      have HAd:=ja (λ(Wc:World) (A5:Option Addr) (n5 c5:Nat) (hb:Below wa.heap.size wa Wc) (hy:ji Wc Wc.heap.size A5 n5 c5 [(1,1)])=>Qb d A3 n3 c3 xt pr A5 n5 c5 [(1,1)] Wc.heap.size Wc (Rd.of_own (jG HOa.o hb)) hy (Nat.le_refl _))
      generalize hsv:jL d xt pr [(1,1)] (-1)=sv at *
      obtain⟨s1,s2,s3⟩:=sv
      have HVF:=ja (HFC.o s1 s3 s2 rfl)
      clear HFC hsv hprm hmi
      go_wp2
      rw[<-hwa,<-hU]
      clear hwa hU
      have HBc:Hid (Below wa.heap.size wa wa.drew):=ja (Below.drew (Below.refl _ _))
      obtain⟨⟨q1,q2,q3,q4⟩,q5,q6,_,_⟩:=CELLS.o wa (Below.refl _ _)
      have HS1:=ja (show(wa.drew).cell? ⟨U,1,none⟩=some (.slice A2 ms.length c2)from q6)
      have HF1:=ja (show(wa.drew).cell? ⟨X5,0,none⟩=some (.int .i64 d)/\(wa.drew).cell? ⟨X5,1,none⟩=some (.slice A3 n3 c3)from⟨q1,q2⟩)
      refine jk (λw'=>w'.cell? ⟨U,1,none⟩=some (.slice A2 ms.length c2)) 10 (λw'=>w'.cell? ⟨X5,0,none⟩=some (.int .i64 d)/\w'.cell? ⟨X5,1,none⟩=some (.slice A3 n3 c3)) 10 (λw'=>w'.cell? ⟨X5,0,none⟩=some (.int .i64 d)/\w'.cell? ⟨X5,1,none⟩=some (.slice A3 n3 c3)) (by kernel_rfl) ⟨HS1.o,λ_=>HF1.o,λ_=>HF1.o⟩ (λjb=>?_)
      revert jb
      refine jtk 0 ?_ ?_ ?_
      rotate_left 1
      focus(intro w' hSw;obtain⟨hC,hF,hG⟩:=hSw;clear hF;clear hG;go_simp;try with_reducible rfl)
      intro jb
      simp only[Act.put,lA,lB,lC]
      revert jb
      refine jtk 1 ?_ ?_ ?_
      rotate_left 1
      focus(intro w' hSw;obtain⟨hC,hF,hG⟩:=hSw;have hF:=hF (by decide +kernel);clear hG;go_simp;try with_reducible rfl)
      intro jb
      simp only[Act.put,lA,lB,lC]
      revert jb
      refine jtk 2 ?_ ?_ ?_
      rotate_left 1
      focus(intro w' hSw;obtain⟨hC,hF,hG⟩:=hSw;clear hF;clear hG;go_simp;try with_reducible rfl)
      intro jb
      simp only[Act.put,lA,lB,lC]
      revert jb
      refine jtk 3 ?_ ?_ ?_
      rotate_left 1
      focus(intro w' hSw;obtain⟨hC,hF,hG⟩:=hSw;clear hF;clear hG;go_simp;try with_reducible rfl)
      intro jb
      simp only[Act.put,lA,lB,lC]
      refine je 4 rfl (by decide +kernel) (λK hK=>?_)
      go_simp
      go_wp2_with (first
       | (go_at_call 76;refine(HPr.o _ HBc.o).mono ?_;rintro e w5 ⟨rfl,hw5⟩;subst w5))
      refine hK.out _ _ ⟨(CELLS.o _ HBc.o).2.2.1,λ_=>⟨(CELLS.o _ HBc.o).1.1,(CELLS.o _ HBc.o).1.2.1⟩,λ_=>⟨(CELLS.o _ HBc.o).1.1,(CELLS.o _ HBc.o).1.2.1⟩⟩ (λjb=>?_)
      clear hK K
      refine je 5 rfl (by decide +kernel) (λK hK=>?_)
      go_simp
      go_wp2_with (first
       | (go_at_call 55;refine(ZJ 1 pr _).mono ?_;rintro e w5 ⟨A5,n5,c5,rfl,ho5,hb5⟩
          have HBc:=ja (HBc.o.trans (hb5.mono HBc.o.size))
          have hz5:=HBc.o.size
          obtain⟨⟨q1,q2,q3,q4⟩,q5,q6,_,_⟩:=CELLS.o _ HBc.o
          have HT5:Hid (ji w5 w5.heap.size A5 n5 c5 [(1,1)]):=ja (Rd.of_own ho5)
          have HAd5:=ja (HAd.o w5 A5 n5 c5 HBc.o HT5.o)
          clear ho5 hb5))
      refine hK.out _ _ ⟨(CELLS.o _ HBc.o).2.2.1,λ_=>⟨(CELLS.o _ HBc.o).1.1,(CELLS.o _ HBc.o).1.2.1⟩,λ_=>⟨(CELLS.o _ HBc.o).1.1,(CELLS.o _ HBc.o).1.2.1⟩⟩ (λjb=>?_)
      clear hK K
      refine je 6 rfl (by decide +kernel) (λK hK=>?_)
      go_simp
      go_wp2_with (first
       | (go_at_call 28;refine HAd5.o.mono ?_;rintro e w6 ⟨A6,n6,c6,rfl,ho6,hb6⟩
          have HBc:=ja (HBc.o.trans (hb6.mono HBc.o.size))
          obtain⟨⟨q1,q2,q3,q4⟩,q5,q6,_,_⟩:=CELLS.o _ HBc.o
          have HO6:=ja ho6
          clear ho6 hb6))
      refine hK.out _ _ ⟨(CELLS.o _ HBc.o).2.2.1,λ_=>⟨(CELLS.o _ HBc.o).1.1,(CELLS.o _ HBc.o).1.2.1⟩,λ_=>⟨(CELLS.o _ HBc.o).1.1,(CELLS.o _ HBc.o).1.2.1⟩⟩ (λjb=>?_)
      clear hK K
      revert jb
      refine jtk 7 ?_ ?_ ?_
      rotate_left 1
      focus(intro w' hSw;obtain⟨hC,hF,hG⟩:=hSw;clear hF;clear hG;go_simp;try with_reducible rfl)
      intro jb
      simp only[Act.put,lA,lB,lC]
      revert jb
      refine jtk 8 ?_ ?_ ?_
      rotate_left 1
      focus(intro w' hSw;obtain⟨hC,hF,hG⟩:=hSw;clear hF;clear hG;go_simp;try with_reducible rfl)
      intro jb
      simp only[Act.put,lA,lB,lC]
      revert jb
      refine jtk 9 ?_ ?_ ?_
      rotate_left 1
      focus(intro w' hSw;obtain⟨hC,hF,hG⟩:=hSw;clear hF;clear hG;go_simp;try with_reducible rfl)
      intro jb
      simp only[Act.put,lA,lB,lC]
      refine je 10 rfl (by decide +kernel) (λK hK=>?_)
      go_simp
      refine hK.out _ _ ⟨HSET.o _ _ _ _ _ HBc.o,λh=>absurd h (by decide +kernel),λh=>absurd h (by decide +kernel)⟩ (λjb=>?_)
      clear hK K
      revert jb
      refine jtk 11 ?_ ?_ ?_
      rotate_left 1
      focus(intro w' hSw;obtain⟨hC,hF,hG⟩:=hSw;clear hF;clear hG;go_simp;try with_reducible rfl)
      intro jb
      simp only[Act.put,lA,lB,lC]
      refine jl (by decide +kernel) ?_
      clear jb
      all_goals
       have hfin:=jab4 (s1:=s1) HBc.o HO6.o (by have:=HBa.o.size;omega) HKa.o HRa.o HPa.o HBa.o hX hB
       have F1:=ja hfin.1;have F2:=ja hfin.2.1;have F3:=ja hfin.2.2.1;have F4:=ja hfin.2.2.2.1;have F5:=ja hfin.2.2.2.2
       clear hfin HBc CELLS HPr HSET HAd HKa HRa HPa HBa HOa HO6 q1 q2 q3 q4 q5 q6
       generalize (w6.setCell ⟨X5,0,none⟩ (.int .i64 s1)).setCell ⟨X5,1,none⟩ (.slice A6 n6 c6)=wz at *
       by_cases h3:s3=0
       ·subst h3
        have hvf2:=HVF.o
        rw[if_pos rfl] at hvf2
        have HV2:=ja (HVFK.o.trans hvf2)
        clear hvf2 HVF HVFK
        go_wp2
        refine⟨⟨k+1,s1,A6,n6,c6,s2,by omega,by go_num,?_,F1.o,F2.o,F3.o,F4.o,F5.o⟩,by simp[intOf];omega⟩
        rw[HL.o];exact HV2.o
       ·have hn3:(s3 !=0)=true:=by simpa using h3
        have hvf2:=HVF.o
        rw[if_neg h3] at hvf2
        have HV2:=ja (HV.o.trans (HVFK.o.trans hvf2))
        obtain⟨t0,t1,t2,t3⟩:=F3.o.two
        clear hvf2 HVF HVFK h3
        go_wp2
        exact HPOST.o _ _ none 0 0 0 s3 [] HV2.o ⟨rfl,.inl ⟨rfl,rfl⟩⟩ (Below.setCell (Below.setCell F5.o (p:=⟨w.heap.size+1,0,none⟩) (by simp) _) (p:=⟨w.heap.size+1,1,none⟩) (by simp) _) ((F3.o.set_ 0 _).set_ 1 _) rfl rfl rfl
    ·obtain rfl:k=l.length:=by omega
     rw[List.drop_length] at hvf
     have HV2:=ja (HV.o.trans hvf)
     have F1:=ja hkb;have F2:=ja hoo;have F3:=ja hrr;have F5:=ja hbb
     obtain⟨t0,t1,t2,t3⟩:=F3.o.two
     obtain⟨t4,t5,_,_⟩:=F1.o.two
     clear hvf hkb hoo hrr hpp hbb HK4 HO4 HR4 HP4 HB4
     go_wp2
     exact HPOST.o _ _ A3 n3 c3 d 0 xt HV2.o (jC (jC F2.o F3.o (by decide)) (F3.o.set_ 0 _) (by decide)) (Below.setCell (Below.setCell F5.o (p:=⟨w.heap.size+1,0,none⟩) (by simp) _) (p:=⟨w.heap.size+1,1,none⟩) (by simp) _) ((F3.o.set_ 0 _).set_ 1 _) rfl rfl rfl
  ·rw[han] at HCF HV0
   have HV:Hid (Jk wh (l.map PieceV.flat)=(0,[],10)):=ja (HV0.o.trans (if_pos rfl))
   clear HV0 hany han
   go_wp2_with (first
    | (go_at_call 74;refine HCF.o.mono ?_;rintro e w2 ⟨rfl,hb2⟩
       have HR2:=ja (HR1.o.below hb2 (by omega));have HB2:=ja (HB1.o.trans (hb2.mono (by omega)))
       obtain⟨u0,u1,uf0,uf1⟩:=HR2.o.two
       clear hb2))
   exact HPOST.o _ _ none 0 0 0 10 [] HV.o ⟨rfl,.inl ⟨rfl,rfl⟩⟩ (Below.setCell (Below.setCell HB2.o (p:=⟨w.heap.size+1,0,none⟩) (by simp) _) (p:=⟨w.heap.size+1,1,none⟩) (by simp) _) ((HR2.o.set_ 0 _).set_ 1 _) rfl rfl rfl
def QW(xd:Int)(xt:List (Int×Int))(n:Int)(res:Int×List (Int×Int)×Int):Prop:=
 (js xd xt=false/\res=(0,[],2))\/(js xd xt=true/\zz n 1 1000=false/\res=(0,[],3)) \/
  (js xd xt=true/\zz n 1 1000=true/\∃r,qI (jI n).1 (jI n).2 r/\res=jL xd xt r.1 r.2.1 (-1))
theorem zj2 (xd:Int) (A:Option Addr) (n c:Nat) (xt:List (Int×Int)) (m:Int) (B:Nat) (w:World) (hx:ji w B A n c xt) (hB:B<=w.heap.size) :
  Calls Tryz.prog 46 #[.agg #[.int .i64 xd,.slice A n c],.int .i64 m] w λe w'=>∃res,QW xd xt m res/\jV w res e w':=by
 obtain⟨w0,hw0⟩:∃w0,w0=(w.alloc (.cells #[.int .i64 xd,.slice A n c] 24)).alloc (.cells #[.int .i64 0,.slice none 0 0] 24):=⟨_,rfl⟩
 have hz0:w0.heap.size=w.heap.size+2:=by rw[hw0];simp
 have h01:Below w.heap.size w w0:=by rw[hw0];exact((Below.refl _ _).alloc (Nat.le_refl _) _).alloc (by simp) _
 have HX0:Hid (jh w0 w.heap.size 24 #[.int .i64 xd,.slice A n c]):=ja (by rw[hw0];exact(jh.new w _ _).alloc _)
 have HR0:Hid (jh w0 (w.heap.size+1) 24 #[.int .i64 0,.slice none 0 0]):=ja (by
  rw[hw0]
  have h:=jh.new (w.alloc (.cells #[.int .i64 xd,.slice A n c] 24)) 24 #[.int .i64 0,.slice none 0 0]
  rwa [World.size_alloc] at h)
 have HT0:=ja (Rd.below hx (h01.mono hB))
 have HCK:=ja (jy3 xd A n c B xt w0 HT0.o (by omega))
 have HB0:=ja h01
 clear hx h01
 have hpost:∀(W:World) (a:Act) (A:Option Addr) (n c:Nat) (x y:Int) (s:List (Int×Int)),QW xd xt m (x,s,y)->W.ownsRow w.heap.size 59 2 (.slice A n c) n (jr s)->Below w.heap.size w W->jh W (w.heap.size+1) 24 #[.int .i64 x,.slice A n c] ->
   a.tmps.getD 4 undef=.pointer (some ⟨w.heap.size+1,0,none⟩)->a.tmps.getD 5 undef=.int .i64 y->a.defers=[] ->
   bodyPost Tryz.prog Tryz.f46 (λe w'=>∃res,QW xd xt m res/\jV w res e w') .ret a W:=by
  intro W a A n c x y s e1 e2 e3 e4 e5 e6 e7
  refine jq (p:=4) (u:=5) (ty:=24) rfl e5 e4 Tryz.underlying24 rfl Tryz.sizeNumber e7 ?_
  rw[e6]
  exact⟨(x,s,y),e1,A,n,c,rfl,e2,e3⟩
 have HPOST:=ja hpost
 clear hpost
 go_enter Tryz.func46,Tryz.ntmps46
 go_wp2_with fail
 rw[<-hw0]
 clear hw0
 obtain⟨x0,x1,_,_⟩:=HX0.o.two
 obtain⟨r0,r1,rf0,rf1⟩:=HR0.o.two
 cases hok:js xd xt
 ·have HV:Hid (QW xd xt m (0,[],2)):=ja (.inl ⟨hok,rfl⟩)
  rw[hok] at HCK
  simp only[QK] at HCK
  clear hok
  go_wp2_with (first
   | (go_at_call 49;refine HCK.o.mono ?_;rintro e w1 ⟨rfl,hb1⟩
      have HR1:=ja (HR0.o.below hb1 (by omega));have HB1:=ja (HB0.o.trans (hb1.mono (by omega)))
      obtain⟨u0,u1,uf0,uf1⟩:=HR1.o.two
      clear hb1))
  exact HPOST.o _ _ none 0 0 0 2 [] HV.o ⟨rfl,.inl ⟨rfl,rfl⟩⟩ (Below.setCell (Below.setCell HB1.o (p:=⟨w.heap.size+1,0,none⟩) (by simp) _) (p:=⟨w.heap.size+1,1,none⟩) (by simp) _) ((HR1.o.set_ 0 _).set_ 1 _) rfl rfl rfl
 ·rw[hok] at HCK
  simp only[QK] at HCK
  cases hin:zz m 1 1000
  ·have HV:Hid (QW xd xt m (0,[],3)):=ja (.inr (.inl ⟨hok,hin,rfl⟩))
   have HW:=ja (λW=>jN m 1 1000 W)
   rw[hin] at HW
   clear hok hin
   go_wp2_with (first
    | (go_at_call 49;refine HCK.o.mono ?_;rintro e w1 ⟨rfl,hb1⟩
       have HR1:=ja (HR0.o.below hb1 (by omega));have HB1:=ja (HB0.o.trans (hb1.mono (by omega)))
       obtain⟨u0,u1,uf0,uf1⟩:=HR1.o.two
       clear hb1)
    | (go_at_call 54;refine(HW.o _).mono ?_;rintro e w2 ⟨rfl,hw⟩;subst w2))
   exact HPOST.o _ _ none 0 0 0 3 [] HV.o ⟨rfl,.inl ⟨rfl,rfl⟩⟩ (Below.setCell (Below.setCell HB1.o (p:=⟨w.heap.size+1,0,none⟩) (by simp) _) (p:=⟨w.heap.size+1,1,none⟩) (by simp) _) ((HR1.o.set_ 0 _).set_ 1 _) rfl rfl rfl
  ·have HV:Hid (∀r,qI (jI m).1 (jI m).2 r->QW xd xt m (jL xd xt r.1 r.2.1 (-1))):=ja (λr h=>.inr (.inr ⟨hok,hin,r,h,rfl⟩))
   have HW:=ja (λW=>jN m 1 1000 W)
   rw[hin] at HW
   have HWN:=ja (λW=>jk3 m W)
   generalize jI m=wn at *
   obtain⟨d0,xt0⟩:=wn
   clear hok hin
   go_wp2_with (first
    | (go_at_call 49;refine HCK.o.mono ?_;rintro e w1 ⟨rfl,hb1⟩
       have hz1:=hb1.size
       have HR1:=ja (HR0.o.below hb1 (by omega));have HX1:=ja (HX0.o.below hb1 (by omega));have HT1:=ja (Rd.below HT0.o (hb1.mono (by omega)));have HB1:=ja (HB0.o.trans (hb1.mono (by omega)))
       clear hb1)
    | (go_at_call 54;refine(HW.o _).mono ?_;rintro e w2 ⟨rfl,hw⟩;subst w2)
    | (go_at_call 50;refine(HWN.o _).mono ?_;rintro e w3 ⟨A3,n3,c3,rfl,ho3,hb3⟩
       have hz3:=hb3.size
       have HR3:=ja (HR1.o.below hb3 (by omega));have HX3:=ja (HX1.o.below hb3 (by omega));have HT3:=ja (Rd.below HT1.o (hb3.mono (by omega)));have HB3:=ja (HB1.o.trans (hb3.mono (by omega)))
       have HRT:=ja (jbr8 d0 A3 n3 c3 xt0 w3.heap.size w3 (Rd.of_own ho3) (Nat.le_refl _))
       clear hb3 ho3)
    | (go_at_call 26;refine HRT.o.mono ?_;rintro e w4 ⟨⟨s1,s2,s3⟩,hres,A4,n4,c4,rfl,ho4,hb4⟩
       have hz4:=hb4.size
       have HR4:=ja ((HR3.o.below hb4 (by omega)).alloc (.cells #[.int .i64 s1,.slice A4 n4 c4] 24));have HX4:=ja ((HX3.o.below hb4 (by omega)).alloc (.cells #[.int .i64 s1,.slice A4 n4 c4] 24))
       have HT4:=ja (Rd.alloc (Rd.below HT3.o (hb4.mono (by omega))) (by omega) (.cells #[.int .i64 s1,.slice A4 n4 c4] 24));have HB4:=ja ((HB3.o.trans (hb4.mono (by omega))).alloc (by omega) (.cells #[.int .i64 s1,.slice A4 n4 c4] 24))
       have HN4:=ja (jh.new w4 24 #[.int .i64 s1,.slice A4 n4 c4])
       have HO4:Hid (ji (w4.alloc (.cells #[.int .i64 s1,.slice A4 n4 c4] 24)) w4.heap.size A4 n4 c4 s2):=ja (Rd.alloc (Rd.of_own ho4) (Nat.le_refl _) _)
       have HSB:=ja (Qb xd A n c xt s1 A4 n4 c4 s2 w4.heap.size (w4.alloc (.cells #[.int .i64 s1,.slice A4 n4 c4] 24)) (Rd.more HT4.o (by omega)) HO4.o (by simp))
       have HV4:=ja (HV.o _ hres)
       obtain⟨x0,x1,_,_⟩:=HX4.o.two
       obtain⟨r0,r1,rf0,rf1⟩:=HR4.o.two
       obtain⟨p0,p1,pf0,pf1⟩:=HN4.o.two
       clear hb4 ho4 hres HRT HR3 HX3 HT3 HB3)
    | (go_at_call 28;refine HSB.o.mono ?_;rintro e w5 ⟨A5,n5,c5,rfl,ho5,hb5⟩
       (try simp only[World.size_alloc] at ho5 hb5)
       have HR5:=ja (HR4.o.below hb5 (by omega));have HB5:=ja (HB4.o.trans (hb5.mono (by omega)))
       obtain⟨y0,y1,yf0,yf1⟩:=HR5.o.two
       have HO5:=ja ho5
       clear hb5 ho5))
   exact HPOST.o _ _ A5 n5 c5 _ _ _ HV4.o (jC (jC (jO HO5.o (by omega)) HR5.o (by decide)) (HR5.o.set_ 0 _) (by decide)) (Below.setCell (Below.setCell HB5.o (p:=⟨w.heap.size+1,0,none⟩) (by simp) _) (p:=⟨w.heap.size+1,1,none⟩) (by simp) _) ((HR5.o.set_ 0 _).set_ 1 _) rfl rfl rfl
def jbv1(xd:Int)(xt:List (Int×Int))(m den low high c:Int):Prop:=
 ∃r,QW xd xt m r/\((r.2.2≠0/\low=0/\high=0/\c=r.2.2)\/(r.2.2=0/\qc r.1 r.2.1 den low high c))
theorem jcj5 (xd:Int) (A:Option Addr) (n c:Nat) (xt:List (Int×Int)) (m den:Int) (B:Nat) (w:World) (hx:ji w B A n c xt) (hB:B<=w.heap.size) :
  Calls Tryz.prog 14 #[.agg #[.int .i64 xd,.slice A n c],.int .i64 m,.int .i64 den] w λe w'=>∃low high c,e=.returned (.tuple #[.int .i64 low,.int .i64 high,.int .i64 c])/\jbv1 xd xt m den low high c/\Below w.heap.size w w':=by
 have HX0:=ja (jh.new w 24 #[.int .i64 xd,.slice A n c])
 have HB0:=ja ((Below.refl w.heap.size w).alloc (Nat.le_refl _) (.cells #[.int .i64 xd,.slice A n c] 24))
 have HD:=ja (zj2 xd A n c xt m B (w.alloc (.cells #[.int .i64 xd,.slice A n c] 24)) (Rd.alloc hx hB _) (by simp;omega))
 clear hx
 go_enter Tryz.func14,Tryz.ntmps14
 obtain⟨x0,x1,_,_⟩:=HX0.o.two
 go_wp2_with (first
  | (go_at_call 46;refine HD.o.mono ?_;rintro e w1 ⟨⟨s1,s2,s3⟩,hres,A1,n1,c1,rfl,ho1,hb1⟩
     (try simp only[World.size_alloc] at ho1 hb1)
     have hz1:=hb1.size
     simp only[World.size_alloc] at hz1
     have HB1:=ja ((HB0.o.trans (hb1.mono (by omega))).alloc (by omega) (.cells #[.int .i64 s1,.slice A1 n1 c1] 24))
     have HN1:=ja (jh.new w1 24 #[.int .i64 s1,.slice A1 n1 c1])
     have HT1:Hid (ji (w1.alloc (.cells #[.int .i64 s1,.slice A1 n1 c1] 24)) w1.heap.size A1 n1 c1 s2):=ja (Rd.alloc (Rd.of_own ho1) (Nat.le_refl _) _)
     obtain⟨p0,p1,_,_⟩:=HN1.o.two
     have HRS:=ja hres
     have HBD:=ja (jd5 s1 A1 n1 c1 s2 den w1.heap.size _ HT1.o (by simp)))
  | (go_at_call 47;refine HBD.o.mono ?_;rintro e w2 ⟨low,high,cc,rfl,hbr,hb2⟩
     (try simp only[World.size_alloc] at hb2)
     have HB2:=ja (HB1.o.trans (hb2.mono (by omega)))
     have HBR:=ja hbr
     clear hbr hb2))
 ·rename_i hs
  have h3:s3≠0:=by simpa using hs
  go_ret3
  exact⟨_,_,_,rfl,⟨_,HRS.o,.inl ⟨h3,rfl,rfl,rfl⟩⟩,HB1.o⟩
 ·rename_i hs
  have h3:s3=0:=by simpa using hs
  go_ret3
  exact⟨_,_,_,rfl,⟨_,HRS.o,.inr ⟨h3,HBR.o⟩⟩,HB2.o⟩
