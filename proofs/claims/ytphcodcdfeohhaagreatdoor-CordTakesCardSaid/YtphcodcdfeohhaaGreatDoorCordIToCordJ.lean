import Derived.Test.YtphcodcdfeohhaaGreatDoorSurdKToSurdL
import Derived.Test.YtphcodcdfeohhaaGreatDoorCordGToWidA
import Derived.Test.YtphcodcdfeohhaaGreatDoorBaseToStage
set_option linter.unusedVariables false
set_option linter.unusedSimpArgs false
namespace Go.Proofs.YtphcodcdfeohhaaGreatDoor
set_option maxRecDepth 100000
set_option maxHeartbeats 8000000
open Go.RowKit
def jn4:Int×List (Int×Int)->List (Bool×List Int)->Int×List (Int×Int)×Int
 | x,[]=>(x.1,x.2,0)
 | x,p::ps=>
  if(jc4 x.1 x.2 (jh4 1 p.2) [(1,1)] (if p.1 then -1 else 1)).2.2=0 then jn4 ((jc4 x.1 x.2 (jh4 1 p.2) [(1,1)] (if p.1 then -1 else 1)).1,(jc4 x.1 x.2 (jh4 1 p.2) [(1,1)] (if p.1 then -1 else 1)).2.1) ps
  else(0,[],(jc4 x.1 x.2 (jh4 1 p.2) [(1,1)] (if p.1 then -1 else 1)).2.2)
theorem zm4 (x:Int×List (Int×Int)) (p:Bool×List Int) (ps:List (Bool×List Int)) (d c:Int) (l:List (Int×Int)) (h:jc4 x.1 x.2 (jh4 1 p.2) [(1,1)] (if p.1 then -1 else 1)=(d,l,c)) :
  jn4 x (p::ps)=if c=0 then jn4 (d,l) ps else(0,[],c):=by
 conv=>lhs;unfold jn4
 rw[h]
def jk8(wh:Int)(l:List (Bool×List Int)):Int×List (Int×Int)×Int:=
 if jv0 wh l=true then if(l.any fun p=>jh4 1 p.2==0)=true then(0,[],10)else jn4 (jc6 wh) l else(0,[],2)
theorem jb6.grown{w w':World}{B n c:Nat}{A:Option Addr}{l:List PieceV}(h:jb6 w B A n c l){row:Option Nat}(hg:w.grownBy w' row)(hB:B<=w.heap.size)(hr:∀g,row=some g->B<=g):jb6 w' B A n c l:=
 ⟨h.1.grown hg hB hr,fun p hp=>Rd.grown (h.2 p hp) hg hB hr⟩
theorem jbj0 {w wa w6:World} {X5 B n c n6 c6 base:Nat} {d s1:Int} {A A3 A6:Option Addr} {n3 c3:Nat} {l:List PieceV} {xs:List Value} (hb:Below wa.heap.size wa w6) (ho:w6.ownsRow base 59 2 (.slice A6 n6 c6) n6 xs) (hbs:w.heap.size<=base)
  (hk:Blk wa X5 24 #[.int .i64 d,.slice A3 n3 c3]) (hr:Blk wa (w.heap.size+1) 24 #[.int .i64 0,.slice none 0 0]) (hp:jb6 wa B A n c l) (hbl:Below w.heap.size w wa) (hX:w.heap.size+1<X5) (hB:B<=w.heap.size) :
  Blk ((w6.setCell ⟨X5,0,none⟩ (.int .i64 s1)).setCell ⟨X5,1,none⟩ (.slice A6 n6 c6)) X5 24 #[.int .i64 s1,.slice A6 n6 c6] /\
  ((w6.setCell ⟨X5,0,none⟩ (.int .i64 s1)).setCell ⟨X5,1,none⟩ (.slice A6 n6 c6)).ownsRow w.heap.size 59 2 (.slice A6 n6 c6) n6 xs /\
  Blk ((w6.setCell ⟨X5,0,none⟩ (.int .i64 s1)).setCell ⟨X5,1,none⟩ (.slice A6 n6 c6)) (w.heap.size+1) 24 #[.int .i64 0,.slice none 0 0] /\
  jb6 ((w6.setCell ⟨X5,0,none⟩ (.int .i64 s1)).setCell ⟨X5,1,none⟩ (.slice A6 n6 c6)) B A n c l /\
  Below w.heap.size w ((w6.setCell ⟨X5,0,none⟩ (.int .i64 s1)).setCell ⟨X5,1,none⟩ (.slice A6 n6 c6)):=by
 have hk6:=hk.below hb hk.lt
 have hbz:=hbl.size
 have hg:=jf6 (jf6 (World.grownBy.refl w6 (some X5)) 0 (.int .i64 s1)) 1 (.slice A6 n6 c6)
 refine⟨(hk6.set_ 0 _).set_ 1 _,jc5 (jd6 (jd6 ho hk6 (by decide)) (hk6.set_ 0 _) (by decide)) hbs,(hr.below hb hr.lt).grown hg (by simp;omega),(hp.below (hb.mono (by omega))).grown hg (by have:=hb.size;omega) (fun _ e=>by cases e;omega),?_⟩
 exact((hbl.trans (hb.mono hbz)).setCell (p:=⟨X5,0,none⟩) (by show _<=X5;omega) _).setCell (p:=⟨X5,1,none⟩) (by show _<=X5;omega) _
theorem jbh9 (wh:Int) (A:Option Addr) (n c B:Nat) (l:List PieceV) (w:World) (hp:jb6 w B A n c l) (hB:B<=w.heap.size) :
  Calls Tryz.prog 33 #[.agg #[.int .i64 wh,.slice A n c]] w (jg0 w (jk8 wh (l.map PieceV.flat))):=by
 have hl:=hp.len
 subst hl
 have hnm:=hp.1.nmax
 obtain⟨w0,hw0⟩:∃w0,w0=(w.alloc (.cells #[.int .i64 wh,.slice A l.length c] 43)).alloc (.cells #[.int .i64 0,.slice none 0 0] 24):=⟨_,rfl⟩
 have hz0:w0.heap.size=w.heap.size+2:=by rw[hw0];simp
 have h01:Below w.heap.size w w0:=by rw[hw0];exact((Below.refl _ _).alloc (Nat.le_refl _) _).alloc (by simp) _
 have HX0:Hid (Blk w0 w.heap.size 43 #[.int .i64 wh,.slice A l.length c]):=ja0 (by rw[hw0];exact(Blk.new w _ _).alloc _)
 have HR0:Hid (Blk w0 (w.heap.size+1) 24 #[.int .i64 0,.slice none 0 0]):=ja0 (by
  rw[hw0]
  have h:=Blk.new (w.alloc (.cells #[.int .i64 wh,.slice A l.length c] 43)) 24 #[.int .i64 0,.slice none 0 0]
  rwa [World.size_alloc] at h)
 have HP0:=ja0 (hp.below (h01.mono hB))
 have HCK:=ja0 (jr6 wh A l.length c B l w0 HP0.out (by omega))
 have HB0:=ja0 h01
 clear hp h01
 have hpost:∀(W:World) (a:Act) (A:Option Addr) (n c:Nat) (x y:Int) (s:List (Int×Int)),jk8 wh (l.map PieceV.flat)=(x,s,y)->W.ownsRow w.heap.size 59 2 (.slice A n c) n (ja9 s)->Below w.heap.size w W->Blk W (w.heap.size+1) 24 #[.int .i64 x,.slice A n c] ->
   a.tmps.getD 2 undef=.pointer (some ⟨w.heap.size+1,0,none⟩)->a.tmps.getD 3 undef=.int .i64 y->a.defers=[] ->
   bodyPost Tryz.prog Tryz.f33 (jg0 w (jk8 wh (l.map PieceV.flat))) .ret a W:=by
  intro W a A n c x y s e1 e2 e3 e4 e5 e6 e7
  refine jb8 (p:=2) (u:=3) (ty:=24) rfl e5 e4 Tryz.underlying24 rfl Tryz.sizeNumber e7 ?_
  rw[e1,e6]
  exact⟨A,n,c,rfl,e2,e3⟩
 have HPOST:=ja0 hpost
 clear hpost
 go_enter Tryz.func33,Tryz.ntmps33
 go_wp2_with fail
 rw[<-hw0]
 clear hw0
 refine HCK.out.mono ?_
 rintro e w1 ⟨rfl,hb1⟩
 have hz1:w.heap.size+2<=w1.heap.size:=by have:=hb1.size;omega
 have HX1:=ja0 (HX0.out.below hb1 (by omega))
 have HR1:=ja0 (HR0.out.below hb1 (by omega))
 have HP1:=ja0 (HP0.out.below (hb1.mono (by omega)))
 have HB1:=ja0 (HB0.out.trans (hb1.mono (by omega)))
 obtain⟨r0,r1,rf0,rf1⟩:=HR1.out.two
 obtain⟨x0,x1,_,_⟩:=HX1.out.two
 clear HX0 HR0 HP0 HB0 HCK hb1 hz0
 cases hok:jv0 wh (l.map PieceV.flat)
 ·have HV:Hid (jk8 wh (l.map PieceV.flat)=(0,[],2)):=ja0 (by unfold jk8;rw[if_neg (by rw[hok];decide)])
  simp only[zh8]
  clear hok
  go_wp2
  exact HPOST.out _ _ none 0 0 0 2 [] HV.out ⟨rfl,.inl ⟨rfl,rfl⟩⟩ (Below.setCell (Below.setCell HB1.out (p:=⟨w.heap.size+1,0,none⟩) (by simp) _) (p:=⟨w.heap.size+1,1,none⟩) (by simp) _) ((HR1.out.set_ 0 _).set_ 1 _) rfl rfl rfl
 ·have HV0:Hid (jk8 wh (l.map PieceV.flat)=if((l.map PieceV.flat).any fun p=>jh4 1 p.2==0)=true then(0,[],10)else jn4 (jc6 wh) (l.map PieceV.flat)):=ja0 (by unfold jk8;rw[if_pos hok])
  obtain⟨g1,g2,g3⟩:=jz9 hok
  have hms:∀p∈l,∀m∈p.ms,0<=m/\m<=1000:=fun p hp m hm=>by
   have:=(g3 p.flat (List.mem_map_of_mem hp)).2.2 m hm
   omega
  have HMS:=ja0 hms
  have HCF:=ja0 (zb9 PieceV.enc A l.length c B 75 #[] l (fun p=>jh4 1 p.ms==0) w1 HP1.out.1 (by omega) (fun args w=>enters_of Tryz.func75 (by kernel_rfl) rfl args w) (fun W x hx hW=>
   jch5 x B W ((HP1.out.below (hW.mono (by omega))).2 x hx) (by have:=hW.size;omega) (hms x hx)))
  have hany:((l.map PieceV.flat).any fun p=>jh4 1 p.2==0)=(l.any fun p=>jh4 1 p.ms==0):=by rw[List.any_map];rfl
  rw[hany] at HV0
  simp only[zh8]
  clear hok g2 g3 hms
  cases han:(l.any fun p=>jh4 1 p.ms==0)
  ·rw[han] at HCF HV0
   have HV:Hid (jk8 wh (l.map PieceV.flat)=jn4 (jc6 wh) (l.map PieceV.flat)):=ja0 (HV0.out.trans (if_neg (by decide)))
   clear HV0 hany han
   have HWN:=ja0 (fun W=>zy4 wh W)
   generalize jc6 wh=wn at *
   obtain⟨d0,xt0⟩:=wn
   go_wp2_with (first
    | (go_at_call 74;refine HCF.out.mono ?_;rintro e w2 ⟨rfl,hb2⟩
       have hz2:=hb2.size
       have HX2:=ja0 (HX1.out.below hb2 (by omega));have HR2:=ja0 (HR1.out.below hb2 (by omega));have HB2:=ja0 (HB1.out.trans (hb2.mono (by omega)));have HP2:=ja0 (HP1.out.below (hb2.mono (by omega)))
       obtain⟨u0,u1,_,_⟩:=HX2.out.two
       clear hb2)
    | (go_at_call 50;refine(HWN.out _).mono ?_;rintro e w3 ⟨A3,n3,c3,rfl,ho3,hb3⟩
       have hz3:=hb3.size
       have HX3:=ja0 (HX2.out.below hb3 (by omega));have HR3:=ja0 (HR2.out.below hb3 (by omega));have HB3:=ja0 (HB2.out.trans (hb3.mono (by omega)));have HP3:=ja0 (HP2.out.below (hb3.mono (by omega)))
       have HO3:=ja0 ho3
       obtain⟨v0,v1,_,_⟩:=HX3.out.two
       have vx:=fun o=>((HX3.out.alloc o).two).2.1
       clear hb3 ho3))
   obtain⟨X5,hX5⟩:∃X5,X5=w3.heap.size:=⟨_,rfl⟩
   have HB4:=ja0 (HB3.out.alloc HB3.out.size (.cells #[.int .i64 d0,.slice A3 n3 c3] 24))
   have HK4:Hid (Blk (w3.alloc (.cells #[.int .i64 d0,.slice A3 n3 c3] 24)) X5 24 #[.int .i64 d0,.slice A3 n3 c3]):=ja0 (by rw[hX5];exact Blk.new _ _ _)
   have HR4:=ja0 (HR3.out.alloc (.cells #[.int .i64 d0,.slice A3 n3 c3] 24))
   have HP4:=ja0 (HP3.out.alloc (by omega) (.cells #[.int .i64 d0,.slice A3 n3 c3] 24))
   have HO4:=ja0 (jc5 (HO3.out.alloc (.cells #[.int .i64 d0,.slice A3 n3 c3] 24)) (show w.heap.size<=w2.heap.size by omega))
   have hX:w.heap.size+1<X5:=by omega
   rw[<-hX5]
   clear hX5 HX1 HX2 HX3 HR1 HR2 HR3 HP1 HP2 HP3 HB1 HB2 HB3 HO3 HCF HWN
   go_loopw [26] (fun i W=>∃(k:Nat) (d:Int) (A3:Option Addr) (n3 c3:Nat) (xt:List (Int×Int)),k<=l.length/\i=.int .i64 k/\jn4 (d0,xt0) (l.map PieceV.flat)=jn4 (d,xt) ((l.drop k).map PieceV.flat) /\
    Blk W X5 24 #[.int .i64 d,.slice A3 n3 c3]/\W.ownsRow w.heap.size 59 2 (.slice A3 n3 c3) n3 (ja9 xt)/\Blk W (w.heap.size+1) 24 #[.int .i64 0,.slice none 0 0]/\jb6 W B A l.length c l/\Below w.heap.size w W) (fun i _=>l.length-(intOf i).toNat)
   case atStart=>exact⟨0,d0,A3,n3,c3,xt0,by omega,rfl,rfl,HK4.out,HO4.out,HR4.out,HP4.out,HB4.out⟩
   case round=>
    obtain⟨k,d,A3,n3,c3,xt,hk,rfl,hvf,hkb,hoo,hrr,hpp,hbb⟩:=hrel
    have hlX:=hkb.lt
    by_cases hlt:k<l.length
    ·obtain⟨ad,had,hc0,hc1⟩:=hpp.at_ hlt
     subst had
     have hpi:=hpp.2 l[k] (List.getElem_mem hlt)
     have hmm:=HMS.out l[k] (List.getElem_mem hlt)
     rw[List.drop_eq_getElem_cons hlt,List.map_cons] at hvf
     generalize l[k]=p at *
     obtain⟨mi,A2,n2,c2,ms⟩:=p
     dsimp only at hc0 hc1 hmm
     have hml:ms.length=n2:=zb0.len hpi
     subst hml
     have hflat:PieceV.flat ⟨mi,A2,ms.length,c2,ms⟩=(mi,ms):=rfl
     rw[hflat] at hvf
     generalize hL:(l.drop (k+1)).map PieceV.flat=L at *
     have HL:=ja0 hL
     have HVFK:=ja0 hvf
     clear hL hvf hflat
     obtain⟨wa,hwa⟩:∃wa,wa=wr.alloc (.cells #[.bool mi,.slice A2 ms.length c2] 94):=⟨_,rfl⟩
     have hza:wa.heap.size=wr.heap.size+1:=by rw[hwa];simp
     have hab:Below wr.heap.size wr wa:=by rw[hwa];exact(Below.refl _ _).alloc (Nat.le_refl _) _
     obtain⟨U,hU⟩:∃U,U=wr.heap.size:=⟨_,rfl⟩
     have hQ:Blk wa U 94 #[.bool mi,.slice A2 ms.length c2]:=by rw[hwa,hU];exact Blk.new _ _ _
     have hKa:=hkb.below hab hlX
     have HKa:=ja0 hKa
     have HOa:=ja0 (jf7 hoo hab)
     have HRa:=ja0 (hrr.below hab hrr.lt)
     have HPa:=ja0 (hpp.below (hab.mono (by have:=hbb.size;omega)))
     have HBa:=ja0 (hbb.trans (hab.mono hbb.size))
     have CELLS:=ja0 (fun(Wc:World) (hb:Below wa.heap.size wa Wc)=>And.intro (hKa.below hb hKa.lt).two (hQ.below hb hQ.lt).two)
     have HPr:=ja0 (fun(Wc:World) (hb:Below wa.heap.size wa Wc)=>za2 A2 ms.length c2 B ms Wc (Rd.below (Rd.below hpi (hab.mono (by have:=hbb.size;omega))) (hb.mono (by have:=hbb.size;omega))) hmm)
     have hUX:X5≠U:=by omega
     have HSET:=ja0 (fun(Wc:World) (i j:Nat) (u v:Value) (hb:Below wa.heap.size wa Wc)=>(show((Wc.setCell ⟨X5,i,none⟩ u).setCell ⟨X5,j,none⟩ v).cell? ⟨U,1,none⟩=some (.slice A2 ms.length c2)from
      (World.cell?_setCell_other _ _ _ _ (by simp)).trans ((World.cell?_setCell_other _ _ _ _ (by simp)).trans ((hQ.below hb hQ.lt).cell 1))))
     obtain⟨pr,hprm⟩:∃pr,jh4 1 ms=pr:=⟨_,rfl⟩
     rw[hprm] at HPr
     have hmc:∀o,(wr.alloc o).cell? ⟨wr.heap.size+1,0,none⟩=none\/True:=fun _=>.inr trivial
     clear hmc hkb hoo hrr hpp hbb hpi hmm HK4 HO4 HR4 HP4 HB4 hKa hQ hab u0 u1 v0 v1 vx r0 r1 rf0 rf1 x0 x1
     cases hmi:mi
     ·rw[hmi] at hc0 hwa
      have HFC:Hid (∀d' c' l',jc4 d xt pr [(1,1)] 1=(d',l',c')->jn4 (d,xt) ((mi,ms)::L)=if c'=0 then jn4 (d',l') L else(0,[],c')):=ja0 (fun d' c' l' h=>zm4 (d,xt) (mi,ms) L d' c' l' (by rw[hprm,hmi];exact h))
      have HAd:=ja0 (fun(Wc:World) (A5:Option Addr) (n5 c5:Nat) (hb:Below wa.heap.size wa Wc) (hy:ja3 Wc Wc.heap.size A5 n5 c5 [(1,1)])=>jda6 d A3 n3 c3 xt pr A5 n5 c5 [(1,1)] Wc.heap.size Wc (Rd.of_own (jf7 HOa.out hb)) hy (Nat.le_refl _))
      generalize hsv:jc4 d xt pr [(1,1)] 1=sv at *
      obtain⟨s1,s2,s3⟩:=sv
      have HVF:=ja0 (HFC.out s1 s3 s2 rfl)
      clear HFC hsv hprm hmi
      go_wp2
      rw[<-hwa,<-hU]
      clear hwa hU
      have HBc:Hid (Below wa.heap.size wa wa.drew):=ja0 (Below.drew (Below.refl _ _))
      obtain⟨⟨q1,q2,q3,q4⟩,q5,q6,_,_⟩:=CELLS.out wa (Below.refl _ _)
      have HS1:=ja0 (show(wa.drew).cell? ⟨U,1,none⟩=some (.slice A2 ms.length c2)from q6)
      have HF1:=ja0 (show(wa.drew).cell? ⟨X5,0,none⟩=some (.int .i64 d)/\(wa.drew).cell? ⟨X5,1,none⟩=some (.slice A3 n3 c3)from⟨q1,q2⟩)
      refine jj7 (fun w'=>w'.cell? ⟨U,1,none⟩=some (.slice A2 ms.length c2)) 10 (fun w'=>w'.cell? ⟨X5,0,none⟩=some (.int .i64 d)/\w'.cell? ⟨X5,1,none⟩=some (.slice A3 n3 c3)) 10 (fun w'=>w'.cell? ⟨X5,0,none⟩=some (.int .i64 d)/\w'.cell? ⟨X5,1,none⟩=some (.slice A3 n3 c3)) (by kernel_rfl) ⟨HS1.out,fun _=>HF1.out,fun _=>HF1.out⟩ (fun ja1=>?_)
      refine ja2 0 rfl (by decide +kernel) (fun _ _ _ h=>h) (by rfl) (v:=?_) ?_ ja1 (fun ja4=>?_)
      rotate_left 1
      focus (intro w' hSw;obtain⟨hC,hF,hG⟩:=hSw;clear hF;clear hG;go_simp;try with_reducible rfl)
      clear ja1
      rename ja8 _ _ _ _ _ _ _=>ja1
      simp only[Act.put,lA,lB,lC]
      refine ja2 1 rfl (by decide +kernel) (fun _ _ _ h=>h) (by rfl) (v:=?_) ?_ ja1 (fun ja4=>?_)
      rotate_left 1
      focus (intro w' hSw;obtain⟨hC,hF,hG⟩:=hSw;have hF:=hF (by decide +kernel);clear hG;go_simp;try with_reducible rfl)
      clear ja1
      rename ja8 _ _ _ _ _ _ _=>ja1
      simp only[Act.put,lA,lB,lC]
      refine ja2 2 rfl (by decide +kernel) (fun _ _ _ h=>h) (by rfl) (v:=?_) ?_ ja1 (fun ja4=>?_)
      rotate_left 1
      focus (intro w' hSw;obtain⟨hC,hF,hG⟩:=hSw;clear hF;clear hG;go_simp;try with_reducible rfl)
      clear ja1
      rename ja8 _ _ _ _ _ _ _=>ja1
      simp only[Act.put,lA,lB,lC]
      refine ja2 3 rfl (by decide +kernel) (fun _ _ _ h=>h) (by rfl) (v:=?_) ?_ ja1 (fun ja4=>?_)
      rotate_left 1
      focus (intro w' hSw;obtain⟨hC,hF,hG⟩:=hSw;clear hF;clear hG;go_simp;try with_reducible rfl)
      clear ja1
      rename ja8 _ _ _ _ _ _ _=>ja1
      simp only[Act.put,lA,lB,lC]
      refine jb5 4 rfl (by decide +kernel) (fun K hK=>?_)
      go_simp
      go_wp2_with (first
       | (go_at_call 76;refine(HPr.out _ HBc.out).mono ?_;rintro e w5 ⟨rfl,hw5⟩;subst w5))
      refine hK.out _ _ ⟨(CELLS.out _ HBc.out).2.2.1,fun _=>⟨(CELLS.out _ HBc.out).1.1,(CELLS.out _ HBc.out).1.2.1⟩,fun _=>⟨(CELLS.out _ HBc.out).1.1,(CELLS.out _ HBc.out).1.2.1⟩⟩ (fun ja1=>?_)
      clear hK K
      refine jb5 5 rfl (by decide +kernel) (fun K hK=>?_)
      go_simp
      go_wp2_with (first
       | (go_at_call 55;refine(zk4 1 pr _).mono ?_;rintro e w5 ⟨A5,n5,c5,rfl,ho5,hb5⟩
          have HBc:=ja0 (HBc.out.trans (hb5.mono HBc.out.size))
          have hz5:=HBc.out.size
          obtain⟨⟨q1,q2,q3,q4⟩,q5,q6,_,_⟩:=CELLS.out _ HBc.out
          have HT5:Hid (ja3 w5 w5.heap.size A5 n5 c5 [(1,1)]):=ja0 (Rd.of_own ho5)
          have HAd5:=ja0 (HAd.out w5 A5 n5 c5 HBc.out HT5.out)
          clear ho5 hb5))
      refine hK.out _ _ ⟨(CELLS.out _ HBc.out).2.2.1,fun _=>⟨(CELLS.out _ HBc.out).1.1,(CELLS.out _ HBc.out).1.2.1⟩,fun _=>⟨(CELLS.out _ HBc.out).1.1,(CELLS.out _ HBc.out).1.2.1⟩⟩ (fun ja1=>?_)
      clear hK K
      refine jb5 6 rfl (by decide +kernel) (fun K hK=>?_)
      go_simp
      go_wp2_with (first
       | (go_at_call 77;refine HAd5.out.mono ?_;rintro e w6 ⟨A6,n6,c6,rfl,ho6,hb6⟩
          have HBc:=ja0 (HBc.out.trans (hb6.mono HBc.out.size))
          obtain⟨⟨q1,q2,q3,q4⟩,q5,q6,_,_⟩:=CELLS.out _ HBc.out
          have HO6:=ja0 ho6
          clear ho6 hb6))
      refine hK.out _ _ ⟨(CELLS.out _ HBc.out).2.2.1,fun _=>⟨(CELLS.out _ HBc.out).1.1,(CELLS.out _ HBc.out).1.2.1⟩,fun _=>⟨(CELLS.out _ HBc.out).1.1,(CELLS.out _ HBc.out).1.2.1⟩⟩ (fun ja1=>?_)
      clear hK K
      refine ja2 7 rfl (by decide +kernel) (fun _ _ _ h=>h) (by rfl) (v:=?_) ?_ ja1 (fun ja4=>?_)
      rotate_left 1
      focus (intro w' hSw;obtain⟨hC,hF,hG⟩:=hSw;clear hF;clear hG;go_simp;try with_reducible rfl)
      clear ja1
      rename ja8 _ _ _ _ _ _ _=>ja1
      simp only[Act.put,lA,lB,lC]
      refine ja2 8 rfl (by decide +kernel) (fun _ _ _ h=>h) (by rfl) (v:=?_) ?_ ja1 (fun ja4=>?_)
      rotate_left 1
      focus (intro w' hSw;obtain⟨hC,hF,hG⟩:=hSw;clear hF;clear hG;go_simp;try with_reducible rfl)
      clear ja1
      rename ja8 _ _ _ _ _ _ _=>ja1
      simp only[Act.put,lA,lB,lC]
      refine ja2 9 rfl (by decide +kernel) (fun _ _ _ h=>h) (by rfl) (v:=?_) ?_ ja1 (fun ja4=>?_)
      rotate_left 1
      focus (intro w' hSw;obtain⟨hC,hF,hG⟩:=hSw;clear hF;clear hG;go_simp;try with_reducible rfl)
      clear ja1
      rename ja8 _ _ _ _ _ _ _=>ja1
      simp only[Act.put,lA,lB,lC]
      refine jb5 10 rfl (by decide +kernel) (fun K hK=>?_)
      go_simp
      refine hK.out _ _ ⟨HSET.out _ _ _ _ _ HBc.out,fun h=>absurd h (by decide +kernel),fun h=>absurd h (by decide +kernel)⟩ (fun ja1=>?_)
      clear hK K
      refine ja2 11 rfl (by decide +kernel) (fun _ _ _ h=>h) (by rfl) (v:=?_) ?_ ja1 (fun ja4=>?_)
      rotate_left 1
      focus (intro w' hSw;obtain⟨hC,hF,hG⟩:=hSw;clear hF;clear hG;go_simp;try with_reducible rfl)
      clear ja1
      rename ja8 _ _ _ _ _ _ _=>ja1
      simp only[Act.put,lA,lB,lC]
      refine jf8 (by decide +kernel) ?_
      clear ja1
      all_goals
       have hfin:=jbj0 (s1:=s1) HBc.out HO6.out (by have:=HBa.out.size;omega) HKa.out HRa.out HPa.out HBa.out hX hB
       have F1:=ja0 hfin.1;have F2:=ja0 hfin.2.1;have F3:=ja0 hfin.2.2.1;have F4:=ja0 hfin.2.2.2.1;have F5:=ja0 hfin.2.2.2.2
       clear hfin HBc CELLS HPr HSET HAd HKa HRa HPa HBa HOa HO6 q1 q2 q3 q4 q5 q6
       generalize (w6.setCell ⟨X5,0,none⟩ (.int .i64 s1)).setCell ⟨X5,1,none⟩ (.slice A6 n6 c6)=wz at *
       by_cases h3:s3=0
       ·subst h3
        have hvf2:=HVF.out
        rw[if_pos rfl] at hvf2
        have HV2:=ja0 (HVFK.out.trans hvf2)
        clear hvf2 HVF HVFK
        go_wp2
        refine⟨⟨k+1,s1,A6,n6,c6,s2,by omega,by go_num,?_,F1.out,F2.out,F3.out,F4.out,F5.out⟩,by simp[intOf];omega⟩
        rw[HL.out];exact HV2.out
       ·have hn3:(s3 !=0)=true:=by simpa using h3
        have hvf2:=HVF.out
        rw[if_neg h3] at hvf2
        have HV2:=ja0 (HV.out.trans (HVFK.out.trans hvf2))
        obtain⟨t0,t1,t2,t3⟩:=F3.out.two
        clear hvf2 HVF HVFK h3
        go_wp2
        exact HPOST.out _ _ none 0 0 0 s3 [] HV2.out ⟨rfl,.inl ⟨rfl,rfl⟩⟩ (Below.setCell (Below.setCell F5.out (p:=⟨w.heap.size+1,0,none⟩) (by simp) _) (p:=⟨w.heap.size+1,1,none⟩) (by simp) _) ((F3.out.set_ 0 _).set_ 1 _) rfl rfl rfl
     ·rw[hmi] at hc0 hwa
      have HFC:Hid (∀d' c' l',jc4 d xt pr [(1,1)] (-1)=(d',l',c')->jn4 (d,xt) ((mi,ms)::L)=if c'=0 then jn4 (d',l') L else(0,[],c')):=ja0 (fun d' c' l' h=>zm4 (d,xt) (mi,ms) L d' c' l' (by rw[hprm,hmi];exact h))
      have HAd:=ja0 (fun(Wc:World) (A5:Option Addr) (n5 c5:Nat) (hb:Below wa.heap.size wa Wc) (hy:ja3 Wc Wc.heap.size A5 n5 c5 [(1,1)])=>zj7 d A3 n3 c3 xt pr A5 n5 c5 [(1,1)] Wc.heap.size Wc (Rd.of_own (jf7 HOa.out hb)) hy (Nat.le_refl _))
      generalize hsv:jc4 d xt pr [(1,1)] (-1)=sv at *
      obtain⟨s1,s2,s3⟩:=sv
      have HVF:=ja0 (HFC.out s1 s3 s2 rfl)
      clear HFC hsv hprm hmi
      go_wp2
      rw[<-hwa,<-hU]
      clear hwa hU
      have HBc:Hid (Below wa.heap.size wa wa.drew):=ja0 (Below.drew (Below.refl _ _))
      obtain⟨⟨q1,q2,q3,q4⟩,q5,q6,_,_⟩:=CELLS.out wa (Below.refl _ _)
      have HS1:=ja0 (show(wa.drew).cell? ⟨U,1,none⟩=some (.slice A2 ms.length c2)from q6)
      have HF1:=ja0 (show(wa.drew).cell? ⟨X5,0,none⟩=some (.int .i64 d)/\(wa.drew).cell? ⟨X5,1,none⟩=some (.slice A3 n3 c3)from⟨q1,q2⟩)
      refine jj7 (fun w'=>w'.cell? ⟨U,1,none⟩=some (.slice A2 ms.length c2)) 10 (fun w'=>w'.cell? ⟨X5,0,none⟩=some (.int .i64 d)/\w'.cell? ⟨X5,1,none⟩=some (.slice A3 n3 c3)) 10 (fun w'=>w'.cell? ⟨X5,0,none⟩=some (.int .i64 d)/\w'.cell? ⟨X5,1,none⟩=some (.slice A3 n3 c3)) (by kernel_rfl) ⟨HS1.out,fun _=>HF1.out,fun _=>HF1.out⟩ (fun ja1=>?_)
      refine ja2 0 rfl (by decide +kernel) (fun _ _ _ h=>h) (by rfl) (v:=?_) ?_ ja1 (fun ja4=>?_)
      rotate_left 1
      focus (intro w' hSw;obtain⟨hC,hF,hG⟩:=hSw;clear hF;clear hG;go_simp;try with_reducible rfl)
      clear ja1
      rename ja8 _ _ _ _ _ _ _=>ja1
      simp only[Act.put,lA,lB,lC]
      refine ja2 1 rfl (by decide +kernel) (fun _ _ _ h=>h) (by rfl) (v:=?_) ?_ ja1 (fun ja4=>?_)
      rotate_left 1
      focus (intro w' hSw;obtain⟨hC,hF,hG⟩:=hSw;have hF:=hF (by decide +kernel);clear hG;go_simp;try with_reducible rfl)
      clear ja1
      rename ja8 _ _ _ _ _ _ _=>ja1
      simp only[Act.put,lA,lB,lC]
      refine ja2 2 rfl (by decide +kernel) (fun _ _ _ h=>h) (by rfl) (v:=?_) ?_ ja1 (fun ja4=>?_)
      rotate_left 1
      focus (intro w' hSw;obtain⟨hC,hF,hG⟩:=hSw;clear hF;clear hG;go_simp;try with_reducible rfl)
      clear ja1
      rename ja8 _ _ _ _ _ _ _=>ja1
      simp only[Act.put,lA,lB,lC]
      refine ja2 3 rfl (by decide +kernel) (fun _ _ _ h=>h) (by rfl) (v:=?_) ?_ ja1 (fun ja4=>?_)
      rotate_left 1
      focus (intro w' hSw;obtain⟨hC,hF,hG⟩:=hSw;clear hF;clear hG;go_simp;try with_reducible rfl)
      clear ja1
      rename ja8 _ _ _ _ _ _ _=>ja1
      simp only[Act.put,lA,lB,lC]
      refine jb5 4 rfl (by decide +kernel) (fun K hK=>?_)
      go_simp
      go_wp2_with (first
       | (go_at_call 76;refine(HPr.out _ HBc.out).mono ?_;rintro e w5 ⟨rfl,hw5⟩;subst w5))
      refine hK.out _ _ ⟨(CELLS.out _ HBc.out).2.2.1,fun _=>⟨(CELLS.out _ HBc.out).1.1,(CELLS.out _ HBc.out).1.2.1⟩,fun _=>⟨(CELLS.out _ HBc.out).1.1,(CELLS.out _ HBc.out).1.2.1⟩⟩ (fun ja1=>?_)
      clear hK K
      refine jb5 5 rfl (by decide +kernel) (fun K hK=>?_)
      go_simp
      go_wp2_with (first
       | (go_at_call 55;refine(zk4 1 pr _).mono ?_;rintro e w5 ⟨A5,n5,c5,rfl,ho5,hb5⟩
          have HBc:=ja0 (HBc.out.trans (hb5.mono HBc.out.size))
          have hz5:=HBc.out.size
          obtain⟨⟨q1,q2,q3,q4⟩,q5,q6,_,_⟩:=CELLS.out _ HBc.out
          have HT5:Hid (ja3 w5 w5.heap.size A5 n5 c5 [(1,1)]):=ja0 (Rd.of_own ho5)
          have HAd5:=ja0 (HAd.out w5 A5 n5 c5 HBc.out HT5.out)
          clear ho5 hb5))
      refine hK.out _ _ ⟨(CELLS.out _ HBc.out).2.2.1,fun _=>⟨(CELLS.out _ HBc.out).1.1,(CELLS.out _ HBc.out).1.2.1⟩,fun _=>⟨(CELLS.out _ HBc.out).1.1,(CELLS.out _ HBc.out).1.2.1⟩⟩ (fun ja1=>?_)
      clear hK K
      refine jb5 6 rfl (by decide +kernel) (fun K hK=>?_)
      go_simp
      go_wp2_with (first
       | (go_at_call 28;refine HAd5.out.mono ?_;rintro e w6 ⟨A6,n6,c6,rfl,ho6,hb6⟩
          have HBc:=ja0 (HBc.out.trans (hb6.mono HBc.out.size))
          obtain⟨⟨q1,q2,q3,q4⟩,q5,q6,_,_⟩:=CELLS.out _ HBc.out
          have HO6:=ja0 ho6
          clear ho6 hb6))
      refine hK.out _ _ ⟨(CELLS.out _ HBc.out).2.2.1,fun _=>⟨(CELLS.out _ HBc.out).1.1,(CELLS.out _ HBc.out).1.2.1⟩,fun _=>⟨(CELLS.out _ HBc.out).1.1,(CELLS.out _ HBc.out).1.2.1⟩⟩ (fun ja1=>?_)
      clear hK K
      refine ja2 7 rfl (by decide +kernel) (fun _ _ _ h=>h) (by rfl) (v:=?_) ?_ ja1 (fun ja4=>?_)
      rotate_left 1
      focus (intro w' hSw;obtain⟨hC,hF,hG⟩:=hSw;clear hF;clear hG;go_simp;try with_reducible rfl)
      clear ja1
      rename ja8 _ _ _ _ _ _ _=>ja1
      simp only[Act.put,lA,lB,lC]
      refine ja2 8 rfl (by decide +kernel) (fun _ _ _ h=>h) (by rfl) (v:=?_) ?_ ja1 (fun ja4=>?_)
      rotate_left 1
      focus (intro w' hSw;obtain⟨hC,hF,hG⟩:=hSw;clear hF;clear hG;go_simp;try with_reducible rfl)
      clear ja1
      rename ja8 _ _ _ _ _ _ _=>ja1
      simp only[Act.put,lA,lB,lC]
      refine ja2 9 rfl (by decide +kernel) (fun _ _ _ h=>h) (by rfl) (v:=?_) ?_ ja1 (fun ja4=>?_)
      rotate_left 1
      focus (intro w' hSw;obtain⟨hC,hF,hG⟩:=hSw;clear hF;clear hG;go_simp;try with_reducible rfl)
      clear ja1
      rename ja8 _ _ _ _ _ _ _=>ja1
      simp only[Act.put,lA,lB,lC]
      refine jb5 10 rfl (by decide +kernel) (fun K hK=>?_)
      go_simp
      refine hK.out _ _ ⟨HSET.out _ _ _ _ _ HBc.out,fun h=>absurd h (by decide +kernel),fun h=>absurd h (by decide +kernel)⟩ (fun ja1=>?_)
      clear hK K
      refine ja2 11 rfl (by decide +kernel) (fun _ _ _ h=>h) (by rfl) (v:=?_) ?_ ja1 (fun ja4=>?_)
      rotate_left 1
      focus (intro w' hSw;obtain⟨hC,hF,hG⟩:=hSw;clear hF;clear hG;go_simp;try with_reducible rfl)
      clear ja1
      rename ja8 _ _ _ _ _ _ _=>ja1
      simp only[Act.put,lA,lB,lC]
      refine jf8 (by decide +kernel) ?_
      clear ja1
      all_goals
       have hfin:=jbj0 (s1:=s1) HBc.out HO6.out (by have:=HBa.out.size;omega) HKa.out HRa.out HPa.out HBa.out hX hB
       have F1:=ja0 hfin.1;have F2:=ja0 hfin.2.1;have F3:=ja0 hfin.2.2.1;have F4:=ja0 hfin.2.2.2.1;have F5:=ja0 hfin.2.2.2.2
       clear hfin HBc CELLS HPr HSET HAd HKa HRa HPa HBa HOa HO6 q1 q2 q3 q4 q5 q6
       generalize (w6.setCell ⟨X5,0,none⟩ (.int .i64 s1)).setCell ⟨X5,1,none⟩ (.slice A6 n6 c6)=wz at *
       by_cases h3:s3=0
       ·subst h3
        have hvf2:=HVF.out
        rw[if_pos rfl] at hvf2
        have HV2:=ja0 (HVFK.out.trans hvf2)
        clear hvf2 HVF HVFK
        go_wp2
        refine⟨⟨k+1,s1,A6,n6,c6,s2,by omega,by go_num,?_,F1.out,F2.out,F3.out,F4.out,F5.out⟩,by simp[intOf];omega⟩
        rw[HL.out];exact HV2.out
       ·have hn3:(s3 !=0)=true:=by simpa using h3
        have hvf2:=HVF.out
        rw[if_neg h3] at hvf2
        have HV2:=ja0 (HV.out.trans (HVFK.out.trans hvf2))
        obtain⟨t0,t1,t2,t3⟩:=F3.out.two
        clear hvf2 HVF HVFK h3
        go_wp2
        exact HPOST.out _ _ none 0 0 0 s3 [] HV2.out ⟨rfl,.inl ⟨rfl,rfl⟩⟩ (Below.setCell (Below.setCell F5.out (p:=⟨w.heap.size+1,0,none⟩) (by simp) _) (p:=⟨w.heap.size+1,1,none⟩) (by simp) _) ((F3.out.set_ 0 _).set_ 1 _) rfl rfl rfl
    ·obtain rfl:k=l.length:=by omega
     rw[List.drop_length] at hvf
     have HV2:=ja0 (HV.out.trans hvf)
     have F1:=ja0 hkb;have F2:=ja0 hoo;have F3:=ja0 hrr;have F5:=ja0 hbb
     obtain⟨t0,t1,t2,t3⟩:=F3.out.two
     obtain⟨t4,t5,_,_⟩:=F1.out.two
     clear hvf hkb hoo hrr hpp hbb HK4 HO4 HR4 HP4 HB4
     go_wp2
     exact HPOST.out _ _ A3 n3 c3 d 0 xt HV2.out (jd6 (jd6 F2.out F3.out (by decide)) (F3.out.set_ 0 _) (by decide)) (Below.setCell (Below.setCell F5.out (p:=⟨w.heap.size+1,0,none⟩) (by simp) _) (p:=⟨w.heap.size+1,1,none⟩) (by simp) _) ((F3.out.set_ 0 _).set_ 1 _) rfl rfl rfl
  ·rw[han] at HCF HV0
   have HV:Hid (jk8 wh (l.map PieceV.flat)=(0,[],10)):=ja0 (HV0.out.trans (if_pos rfl))
   clear HV0 hany han
   go_wp2_with (first
    | (go_at_call 74;refine HCF.out.mono ?_;rintro e w2 ⟨rfl,hb2⟩
       have HR2:=ja0 (HR1.out.below hb2 (by omega));have HB2:=ja0 (HB1.out.trans (hb2.mono (by omega)))
       obtain⟨u0,u1,uf0,uf1⟩:=HR2.out.two
       clear hb2))
   exact HPOST.out _ _ none 0 0 0 10 [] HV.out ⟨rfl,.inl ⟨rfl,rfl⟩⟩ (Below.setCell (Below.setCell HB2.out (p:=⟨w.heap.size+1,0,none⟩) (by simp) _) (p:=⟨w.heap.size+1,1,none⟩) (by simp) _) ((HR2.out.set_ 0 _).set_ 1 _) rfl rfl rfl
def jz3(xd:Int)(xt:List (Int×Int))(n:Int)(res:Int×List (Int×Int)×Int):Prop:=
 (ja7 xd xt=false/\res=(0,[],2))\/(ja7 xd xt=true/\inB n 1 1000=false/\res=(0,[],3)) \/
  (ja7 xd xt=true/\inB n 1 1000=true/\∃r,jt1 (jc6 n).1 (jc6 n).2 r/\res=jc4 xd xt r.1 r.2.1 (-1))
theorem zp8 (xd:Int) (A:Option Addr) (n c:Nat) (xt:List (Int×Int)) (m:Int) (B:Nat) (w:World) (hx:ja3 w B A n c xt) (hB:B<=w.heap.size) :
  Calls Tryz.prog 46 #[.agg #[.int .i64 xd,.slice A n c],.int .i64 m] w fun e w'=>∃res,jz3 xd xt m res/\jg0 w res e w':=by
 obtain⟨w0,hw0⟩:∃w0,w0=(w.alloc (.cells #[.int .i64 xd,.slice A n c] 24)).alloc (.cells #[.int .i64 0,.slice none 0 0] 24):=⟨_,rfl⟩
 have hz0:w0.heap.size=w.heap.size+2:=by rw[hw0];simp
 have h01:Below w.heap.size w w0:=by rw[hw0];exact((Below.refl _ _).alloc (Nat.le_refl _) _).alloc (by simp) _
 have HX0:Hid (Blk w0 w.heap.size 24 #[.int .i64 xd,.slice A n c]):=ja0 (by rw[hw0];exact(Blk.new w _ _).alloc _)
 have HR0:Hid (Blk w0 (w.heap.size+1) 24 #[.int .i64 0,.slice none 0 0]):=ja0 (by
  rw[hw0]
  have h:=Blk.new (w.alloc (.cells #[.int .i64 xd,.slice A n c] 24)) 24 #[.int .i64 0,.slice none 0 0]
  rwa [World.size_alloc] at h)
 have HT0:=ja0 (Rd.below hx (h01.mono hB))
 have HCK:=ja0 (jah2 xd A n c B xt w0 HT0.out (by omega))
 have HB0:=ja0 h01
 clear hx h01
 have hpost:∀(W:World) (a:Act) (A:Option Addr) (n c:Nat) (x y:Int) (s:List (Int×Int)),jz3 xd xt m (x,s,y)->W.ownsRow w.heap.size 59 2 (.slice A n c) n (ja9 s)->Below w.heap.size w W->Blk W (w.heap.size+1) 24 #[.int .i64 x,.slice A n c] ->
   a.tmps.getD 4 undef=.pointer (some ⟨w.heap.size+1,0,none⟩)->a.tmps.getD 5 undef=.int .i64 y->a.defers=[] ->
   bodyPost Tryz.prog Tryz.f46 (fun e w'=>∃res,jz3 xd xt m res/\jg0 w res e w') .ret a W:=by
  intro W a A n c x y s e1 e2 e3 e4 e5 e6 e7
  refine jb8 (p:=4) (u:=5) (ty:=24) rfl e5 e4 Tryz.underlying24 rfl Tryz.sizeNumber e7 ?_
  rw[e6]
  exact⟨(x,s,y),e1,A,n,c,rfl,e2,e3⟩
 have HPOST:=ja0 hpost
 clear hpost
 go_enter Tryz.func46,Tryz.ntmps46
 go_wp2_with fail
 rw[<-hw0]
 clear hw0
 obtain⟨x0,x1,_,_⟩:=HX0.out.two
 obtain⟨r0,r1,rf0,rf1⟩:=HR0.out.two
 cases hok:ja7 xd xt
 ·have HV:Hid (jz3 xd xt m (0,[],2)):=ja0 (.inl ⟨hok,rfl⟩)
  rw[hok] at HCK
  simp only[zh8] at HCK
  clear hok
  go_wp2_with (first
   | (go_at_call 49;refine HCK.out.mono ?_;rintro e w1 ⟨rfl,hb1⟩
      have HR1:=ja0 (HR0.out.below hb1 (by omega));have HB1:=ja0 (HB0.out.trans (hb1.mono (by omega)))
      obtain⟨u0,u1,uf0,uf1⟩:=HR1.out.two
      clear hb1))
  exact HPOST.out _ _ none 0 0 0 2 [] HV.out ⟨rfl,.inl ⟨rfl,rfl⟩⟩ (Below.setCell (Below.setCell HB1.out (p:=⟨w.heap.size+1,0,none⟩) (by simp) _) (p:=⟨w.heap.size+1,1,none⟩) (by simp) _) ((HR1.out.set_ 0 _).set_ 1 _) rfl rfl rfl
 ·rw[hok] at HCK
  simp only[zh8] at HCK
  cases hin:inB m 1 1000
  ·have HV:Hid (jz3 xd xt m (0,[],3)):=ja0 (.inr (.inl ⟨hok,hin,rfl⟩))
   have HW:=ja0 (fun W=>jc9 m 1 1000 W)
   rw[hin] at HW
   clear hok hin
   go_wp2_with (first
    | (go_at_call 49;refine HCK.out.mono ?_;rintro e w1 ⟨rfl,hb1⟩
       have HR1:=ja0 (HR0.out.below hb1 (by omega));have HB1:=ja0 (HB0.out.trans (hb1.mono (by omega)))
       obtain⟨u0,u1,uf0,uf1⟩:=HR1.out.two
       clear hb1)
    | (go_at_call 54;refine(HW.out _).mono ?_;rintro e w2 ⟨rfl,hw⟩;subst w2))
   exact HPOST.out _ _ none 0 0 0 3 [] HV.out ⟨rfl,.inl ⟨rfl,rfl⟩⟩ (Below.setCell (Below.setCell HB1.out (p:=⟨w.heap.size+1,0,none⟩) (by simp) _) (p:=⟨w.heap.size+1,1,none⟩) (by simp) _) ((HR1.out.set_ 0 _).set_ 1 _) rfl rfl rfl
  ·have HV:Hid (∀r,jt1 (jc6 m).1 (jc6 m).2 r->jz3 xd xt m (jc4 xd xt r.1 r.2.1 (-1))):=ja0 (fun r h=>.inr (.inr ⟨hok,hin,r,h,rfl⟩))
   have HW:=ja0 (fun W=>jc9 m 1 1000 W)
   rw[hin] at HW
   have HWN:=ja0 (fun W=>zy4 m W)
   generalize jc6 m=wn at *
   obtain⟨d0,xt0⟩:=wn
   clear hok hin
   go_wp2_with (first
    | (go_at_call 49;refine HCK.out.mono ?_;rintro e w1 ⟨rfl,hb1⟩
       have hz1:=hb1.size
       have HR1:=ja0 (HR0.out.below hb1 (by omega));have HX1:=ja0 (HX0.out.below hb1 (by omega));have HT1:=ja0 (Rd.below HT0.out (hb1.mono (by omega)));have HB1:=ja0 (HB0.out.trans (hb1.mono (by omega)))
       clear hb1)
    | (go_at_call 54;refine(HW.out _).mono ?_;rintro e w2 ⟨rfl,hw⟩;subst w2)
    | (go_at_call 50;refine(HWN.out _).mono ?_;rintro e w3 ⟨A3,n3,c3,rfl,ho3,hb3⟩
       have hz3:=hb3.size
       have HR3:=ja0 (HR1.out.below hb3 (by omega));have HX3:=ja0 (HX1.out.below hb3 (by omega));have HT3:=ja0 (Rd.below HT1.out (hb3.mono (by omega)));have HB3:=ja0 (HB1.out.trans (hb3.mono (by omega)))
       have HRT:=ja0 (jbg9 d0 A3 n3 c3 xt0 w3.heap.size w3 (Rd.of_own ho3) (Nat.le_refl _))
       clear hb3 ho3)
    | (go_at_call 26;refine HRT.out.mono ?_;rintro e w4 ⟨⟨s1,s2,s3⟩,hres,A4,n4,c4,rfl,ho4,hb4⟩
       have hz4:=hb4.size
       have HR4:=ja0 ((HR3.out.below hb4 (by omega)).alloc (.cells #[.int .i64 s1,.slice A4 n4 c4] 24));have HX4:=ja0 ((HX3.out.below hb4 (by omega)).alloc (.cells #[.int .i64 s1,.slice A4 n4 c4] 24))
       have HT4:=ja0 (Rd.alloc (Rd.below HT3.out (hb4.mono (by omega))) (by omega) (.cells #[.int .i64 s1,.slice A4 n4 c4] 24));have HB4:=ja0 ((HB3.out.trans (hb4.mono (by omega))).alloc (by omega) (.cells #[.int .i64 s1,.slice A4 n4 c4] 24))
       have HN4:=ja0 (Blk.new w4 24 #[.int .i64 s1,.slice A4 n4 c4])
       have HO4:Hid (ja3 (w4.alloc (.cells #[.int .i64 s1,.slice A4 n4 c4] 24)) w4.heap.size A4 n4 c4 s2):=ja0 (Rd.alloc (Rd.of_own ho4) (Nat.le_refl _) _)
       have HSB:=ja0 (zj7 xd A n c xt s1 A4 n4 c4 s2 w4.heap.size (w4.alloc (.cells #[.int .i64 s1,.slice A4 n4 c4] 24)) (Rd.more HT4.out (by omega)) HO4.out (by simp))
       have HV4:=ja0 (HV.out _ hres)
       obtain⟨x0,x1,_,_⟩:=HX4.out.two
       obtain⟨r0,r1,rf0,rf1⟩:=HR4.out.two
       obtain⟨p0,p1,pf0,pf1⟩:=HN4.out.two
       clear hb4 ho4 hres HRT HR3 HX3 HT3 HB3)
    | (go_at_call 28;refine HSB.out.mono ?_;rintro e w5 ⟨A5,n5,c5,rfl,ho5,hb5⟩
       (try simp only[World.size_alloc] at ho5 hb5)
       have HR5:=ja0 (HR4.out.below hb5 (by omega));have HB5:=ja0 (HB4.out.trans (hb5.mono (by omega)))
       obtain⟨y0,y1,yf0,yf1⟩:=HR5.out.two
       have HO5:=ja0 ho5
       clear hb5 ho5))
   exact HPOST.out _ _ A5 n5 c5 _ _ _ HV4.out (jd6 (jd6 (jc5 HO5.out (by omega)) HR5.out (by decide)) (HR5.out.set_ 0 _) (by decide)) (Below.setCell (Below.setCell HB5.out (p:=⟨w.heap.size+1,0,none⟩) (by simp) _) (p:=⟨w.heap.size+1,1,none⟩) (by simp) _) ((HR5.out.set_ 0 _).set_ 1 _) rfl rfl rfl
def jda4(xd:Int)(xt:List (Int×Int))(m den low high c:Int):Prop:=
 ∃r,jz3 xd xt m r/\((r.2.2≠0/\low=0/\high=0/\c=r.2.2)\/(r.2.2=0/\jv9 r.1 r.2.1 den low high c))
theorem jdn3 (xd:Int) (A:Option Addr) (n c:Nat) (xt:List (Int×Int)) (m den:Int) (B:Nat) (w:World) (hx:ja3 w B A n c xt) (hB:B<=w.heap.size) :
  Calls Tryz.prog 14 #[.agg #[.int .i64 xd,.slice A n c],.int .i64 m,.int .i64 den] w fun e w'=>∃low high c,e=.returned (.tuple #[.int .i64 low,.int .i64 high,.int .i64 c])/\jda4 xd xt m den low high c/\Below w.heap.size w w':=by
 have HX0:=ja0 (Blk.new w 24 #[.int .i64 xd,.slice A n c])
 have HB0:=ja0 ((Below.refl w.heap.size w).alloc (Nat.le_refl _) (.cells #[.int .i64 xd,.slice A n c] 24))
 have HD:=ja0 (zp8 xd A n c xt m B (w.alloc (.cells #[.int .i64 xd,.slice A n c] 24)) (Rd.alloc hx hB _) (by simp;omega))
 clear hx
 go_enter Tryz.func14,Tryz.ntmps14
 obtain⟨x0,x1,_,_⟩:=HX0.out.two
 go_wp2_with (first
  | (go_at_call 46;refine HD.out.mono ?_;rintro e w1 ⟨⟨s1,s2,s3⟩,hres,A1,n1,c1,rfl,ho1,hb1⟩
     (try simp only[World.size_alloc] at ho1 hb1)
     have hz1:=hb1.size
     simp only[World.size_alloc] at hz1
     have HB1:=ja0 ((HB0.out.trans (hb1.mono (by omega))).alloc (by omega) (.cells #[.int .i64 s1,.slice A1 n1 c1] 24))
     have HN1:=ja0 (Blk.new w1 24 #[.int .i64 s1,.slice A1 n1 c1])
     have HT1:Hid (ja3 (w1.alloc (.cells #[.int .i64 s1,.slice A1 n1 c1] 24)) w1.heap.size A1 n1 c1 s2):=ja0 (Rd.alloc (Rd.of_own ho1) (Nat.le_refl _) _)
     obtain⟨p0,p1,_,_⟩:=HN1.out.two
     have HRS:=ja0 hres
     have HBD:=ja0 (zp6 s1 A1 n1 c1 s2 den w1.heap.size _ HT1.out (by simp)))
  | (go_at_call 47;refine HBD.out.mono ?_;rintro e w2 ⟨low,high,cc,rfl,hbr,hb2⟩
     (try simp only[World.size_alloc] at hb2)
     have HB2:=ja0 (HB1.out.trans (hb2.mono (by omega)))
     have HBR:=ja0 hbr
     clear hbr hb2))
 ·rename_i hs
  have h3:s3≠0:=by simpa using hs
  go_ret3
  exact⟨_,_,_,rfl,⟨_,HRS.out,.inl ⟨h3,rfl,rfl,rfl⟩⟩,HB1.out⟩
 ·rename_i hs
  have h3:s3=0:=by simpa using hs
  go_ret3
  exact⟨_,_,_,rfl,⟨_,HRS.out,.inr ⟨h3,HBR.out⟩⟩,HB2.out⟩
end Go.Proofs.YtphcodcdfeohhaaGreatDoor
