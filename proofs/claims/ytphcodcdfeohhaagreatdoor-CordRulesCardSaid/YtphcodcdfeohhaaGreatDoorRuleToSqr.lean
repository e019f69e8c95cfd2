import Derived.Test.YtphcodcdfeohhaaGreatDoorCordXToCordV
set_option linter.all false
namespace Go.Proofs.YtphcodcdfeohhaaGreatDoor
set_option maxRecDepth 100000
set_option maxHeartbeats 8000000
open Go.RowKit
theorem Tryz.infoStep:(Tryz.prog.info? 76).map (λi=>(i.zero,i.size,i.bytes))=some (some (Value.nilFunc),1,8):=by kernel_rfl
def InS(g:jb6)(a b lo hi:Num)(j:Nat)(a' b':Num):Prop:=
 (j=0/\a'=a/\b'=b)\/(j=1/\(g a lo).2.2=0/\a'=jk9 (g a lo)/\b'=b)\/(j=2/\(g a lo).2.2=0/\(g b hi).2.2=0/\a'=jk9 (g a lo)/\b'=jk9 (g b hi))
def zb2(w w3:World)(own:Option Nat)(R:Nat->Prop)(base Y:Nat)(a b:Num)(Aa:Option Addr)(na ca:Nat)(Ab:Option Addr)(nb cb:Nat)(W:World):Prop:=
 jh W Y 75 #[.int .i64 a.1,.slice Aa na ca,.int .i64 b.1,.slice Ab nb cb]/\W.ownsRow base 59 2 (.slice Aa na ca) na (jr a.2)/\W.ownsRow base 59 2 (.slice Ab nb cb) nb (jr b.2)/\KeepB R w3 W/\w.grownBy W own
def IRel(w w3:World)(own:Option Nat)(R:Nat->Prop)(base Y:Nat)(g:jb6)(a b lo hi:Num)(e i:Value)(W:World):Prop:=
 ∃(j:Nat) (a' b':Num) (Aa':Option Addr) (na' ca':Nat) (Ab':Option Addr) (nb' cb':Nat),j<=2/\e=.int .i64 0/\i=.int .i64 j/\InS g a b lo hi j a' b'/\zb2 w w3 own R base Y a' b' Aa' na' ca' Ab' nb' cb' W
def ORel(w w3:World)(own:Option Nat)(R:Nat->Prop)(base Y K:Nat)(GS:List jb6)(sq lo hi:Num)(e i:Value)(W:World):Prop:=
 ∃(k:Nat) (a b:Num) (Aa:Option Addr) (na ca:Nat) (Ab:Option Addr) (nb cb:Nat),k<=K/\e=.int .i64 0/\i=.int .i64 k/\jp0 (GS.drop k) a b lo hi=jp0 GS sq sq lo hi/\zb2 w w3 own R base Y a b Aa na ca Ab nb cb W
theorem zb2.low {w w3 W V:World} {own:Option Nat} {R:Nat->Prop} {base Y:Nat} {a b:Num} {Aa:Option Addr} {na ca:Nat} {Ab:Option Addr} {nb cb:Nat} (h:zb2 w w3 own R base Y a b Aa na ca Ab nb cb W) (hRY:¬R Y) (hY:w.heap.size<=Y) (hRl:∀b,R b->b<w3.heap.size) (hb:Below W.heap.size W V)
  {A5:Option Addr} {n5 c5:Nat} {d:Int} {t:List (Int×Int)} (ho:V.ownsRow W.heap.size 59 2 (.slice A5 n5 c5) n5 (jr t)) (hbW:base<=W.heap.size) :
  zb2 w w3 own R base Y (d,t) b A5 n5 c5 Ab nb cb ((V.setCell ⟨Y,0,none⟩ (.int .i64 d)).setCell ⟨Y,1,none⟩ (.slice A5 n5 c5)):=by
 obtain⟨h1,h2,h3,h4,h5⟩:=h
 have h1':=h1.below hb h1.lt
 have hs1:=h1'.set_ 0 (.int .i64 d)
 refine⟨hs1.set_ 1 _,jC (jC (jO ho hbW) h1' (by decide)) hs1 (by decide),jC (jC (jG h3 hb) h1' (by decide)) hs1 (by decide),?_,zy (zy (zI h5 hb h5.size) hY _) hY _⟩
 exact((h4.trans (KeepB.of_below hb (λb hb'=>Nat.lt_of_lt_of_le (hRl b hb') h4.size))).setCell hRY _).setCell hRY _
theorem zb2.high {w w3 W V:World} {own:Option Nat} {R:Nat->Prop} {base Y:Nat} {a b:Num} {Aa:Option Addr} {na ca:Nat} {Ab:Option Addr} {nb cb:Nat} (h:zb2 w w3 own R base Y a b Aa na ca Ab nb cb W) (hRY:¬R Y) (hY:w.heap.size<=Y) (hRl:∀b,R b->b<w3.heap.size) (hb:Below W.heap.size W V)
  {A5:Option Addr} {n5 c5:Nat} {d:Int} {t:List (Int×Int)} (ho:V.ownsRow W.heap.size 59 2 (.slice A5 n5 c5) n5 (jr t)) (hbW:base<=W.heap.size) :
  zb2 w w3 own R base Y a (d,t) Aa na ca A5 n5 c5 ((V.setCell ⟨Y,2,none⟩ (.int .i64 d)).setCell ⟨Y,3,none⟩ (.slice A5 n5 c5)):=by
 obtain⟨h1,h2,h3,h4,h5⟩:=h
 have h1':=h1.below hb h1.lt
 have hs1:=h1'.set_ 2 (.int .i64 d)
 refine⟨hs1.set_ 3 _,jC (jC (jG h2 hb) h1' (by decide)) hs1 (by decide),jC (jC (jO ho hbW) h1' (by decide)) hs1 (by decide),?_,zy (zy (zI h5 hb h5.size) hY _) hY _⟩
 exact((h4.trans (KeepB.of_below hb (λb hb'=>Nat.lt_of_lt_of_le (hRl b hb') h4.size))).setCell hRY _).setCell hRY _
theorem jcd6 (xd:Int) (A:Option Addr) (n c:Nat) (xt:List (Int×Int)) (ld:Int) (lA:Option Addr) (ln lc:Nat) (lt:List (Int×Int)) (hd:Int) (hA:Option Addr) (hn hc:Nat) (ht:List (Int×Int)) (den:Int)
  (sv:Value) (vs:List Value) (gs:List jb6) (B base:Nat) (w:World) (hx:ji w B A n c xt) (hlo:ji w B lA ln lc lt) (hhi:ji w B hA hn hc ht) (hB:B<=w.heap.size)
  (hrow:w.ownsRow base 76 1 sv vs.length vs) (hbase:base<=w.heap.size) (hBb:B<=base) (R:Nat->Prop) (hR:∀b,R b->b<w.heap.size/\sv.ownBlock≠some b) (hgl:gs.length=vs.length) (hvl:vs.length<=100) (hone:∀u∈vs,u.oneCell'=true)
  (hfn:∀(i:Nat) (v:Value) (g:jb6),vs[i]?=some v->gs[i]?=some g->Jo w R v g) :
  Calls Tryz.prog 35 #[.agg #[.int .i64 xd,.slice A n c],.agg #[.int .i64 ld,.slice lA ln lc,.int .i64 hd,.slice hA hn hc],.int .i64 den,sv] w λe w'=>
   ∃low high cc,e=.returned (.tuple #[.int .i64 low,.int .i64 high,.int .i64 cc])/\jbf6 (xd,xt) (gs++[λx _=>jL x.1 x.2 (jI 1).1 (jI 1).2 (-1)]) (ld,lt) (hd,ht) den low high cc/\w.grownBy w' sv.ownBlock:=by
 obtain⟨g3,hg3⟩:∃g3:jb6,g3=λx _=>jL x.1 x.2 (jI 1).1 (jI 1).2 (-1):=⟨_,rfl⟩
 obtain⟨GS,hGS⟩:∃GS,gs++[g3]=GS:=⟨_,rfl⟩
 rw[<-hg3,hGS]
 have HG3S:=ja hg3
 have HGS:=ja hGS
 clear hg3 hGS
 obtain⟨w0,hw0⟩:∃w0,w0=(w.alloc (.cells #[.int .i64 xd,.slice A n c] 24)).alloc (.cells #[.int .i64 ld,.slice lA ln lc,.int .i64 hd,.slice hA hn hc] 75):=⟨_,rfl⟩
 have hz0:w0.heap.size=w.heap.size+2:=by rw[hw0];simp
 have h01:Below w.heap.size w w0:=by rw[hw0];exact((Below.refl _ _).alloc (Nat.le_refl _) _).alloc (by simp) _
 have HX0:Hid (jh w0 w.heap.size 24 #[.int .i64 xd,.slice A n c]):=ja (by rw[hw0];exact(jh.new w _ _).alloc _)
 have HE0:Hid (jh w0 (w.heap.size+1) 75 #[.int .i64 ld,.slice lA ln lc,.int .i64 hd,.slice hA hn hc]):=ja (by
  rw[hw0]
  have h:=jh.new (w.alloc (.cells #[.int .i64 xd,.slice A n c] 24)) 75 #[.int .i64 ld,.slice lA ln lc,.int .i64 hd,.slice hA hn hc]
  rwa [World.size_alloc] at h)
 have HTX:=ja (Rd.below hx (h01.mono hB));have HLO:=ja (Rd.below hlo (h01.mono hB));have HHI:=ja (Rd.below hhi (h01.mono hB))
 have HROW0:=ja (jG hrow h01)
 have HB0:=ja h01
 have HFN:=ja hfn
 have HONE:=ja hone
 have HML:=ja (jap3 xd A n c xt xd A n c xt B w0 HTX.o HTX.o (by omega))
 obtain⟨is,his,hs0,hs1,hs2⟩:=info_parts Tryz.infoStep
 clear hx hlo hhi hrow hfn h01 hone
 go_enter Tryz.func35,Tryz.ntmps35
 go_wp2_with fail
 rw[<-hw0]
 clear hw0
 obtain⟨x0,x1,xf0,xf1⟩:=HX0.o.two
 rcases hmul:jc7 xd xt xd xt with⟨s1,s2,s3⟩
 have HMUL:=ja hmul
 rw[hmul] at HML
 by_cases h0:s3=0
 ·subst h0
  go_upto_region 5 with(first
   | (go_at_call 36;refine HML.o.mono ?_;rintro e w1 ⟨A1,n1,c1,rfl,ho1,hb1⟩
      have HO1:=ja ho1
      have HBa:=ja hb1
      have HN1:=ja (jh.new w1 24 #[.int .i64 s1,.slice A1 n1 c1])
      obtain⟨p0,p1,pf0,pf1⟩:=HN1.o.two
      clear ho1 hb1))
  obtain⟨Y,hY⟩:∃Y,Y=w1.heap.size+1:=⟨_,rfl⟩
  obtain⟨wa,hwa⟩:∃wa,wa=(w1.alloc (.cells #[.int .i64 s1,.slice A1 n1 c1] 24)).alloc (.cells #[.int .i64 s1,.slice A1 n1 c1,.int .i64 s1,.slice A1 n1 c1] 75):=⟨_,rfl⟩
  have hab:Below w1.heap.size w1 wa:=by rw[hwa];exact((Below.refl _ _).alloc (Nat.le_refl _) _).alloc (by simp) _
  have HAR:Hid (jh wa Y 75 #[.int .i64 s1,.slice A1 n1 c1,.int .i64 s1,.slice A1 n1 c1]):=ja (by
   rw[hwa,hY]
   have h:=jh.new (w1.alloc (.cells #[.int .i64 s1,.slice A1 n1 c1] 24)) 75 #[.int .i64 s1,.slice A1 n1 c1,.int .i64 s1,.slice A1 n1 c1]
   rwa [World.size_alloc] at h)
  have hza:wa.heap.size=w1.heap.size+2:=by rw[hwa];simp
  have hz1:=HBa.o.size
  have HOa:=ja (jG HO1.o hab)
  have hb0a:=HBa.o.trans (hab.mono HBa.o.size)
  have HB2:=ja hb0a
  have HBw:=ja (HB0.o.trans (hb0a.mono (by omega)))
  rw[<-hwa,<-hY]
  have hYw:w.heap.size+2<=Y:=by omega
  have hYa:Y<wa.heap.size:=by omega
  have hba:base<=wa.heap.size:=by omega
  have HE:=ja (HE0.o.below HB2.o (by omega))
  have HROW:=ja (jG (jG HROW0.o (Below.refl _ _)) (HB2.o))
  have HLOa:=ja (Rd.below HLO.o (hb0a.mono (by omega)));have HHIa:=ja (Rd.below HHI.o (hb0a.mono (by omega)))
  have HBY:=ja (λW=>jby0 28 1 W)
  clear hwa hY hab hza hz1 hb0a HML HN1 HX0 HTX HO1 p0 p1 pf0 pf1 x0 x1 xf0 xf1
  go_wp2_with (first
   | (go_at_call 37;refine(HBY.o _).mono ?_;rintro e w2 ⟨rfl,hw2⟩
      have hb2:Below wa.heap.size wa w2:=by rw[hw2];exact((Below.refl _ _).alloc (Nat.le_refl _) _).alloc (by simp) _
      have hz2:w2.heap.size=wa.heap.size+2:=by rw[hw2];simp
      have HF2:=ja (Jo.of_by jbp1 (w:=w2) (b1:=wa.heap.size) (b2:=wa.heap.size+1) (m:=1) (by
       rw[hw2];exact((jh.new wa 76 #[.func (.func 28) #[] #[]]).alloc _).cell 0) (by
       rw[hw2]
       have h:=(jh.new (wa.alloc (.cells #[.func (.func 28) #[] #[]] 76)) 3 #[.int .i64 1]).cell 0
       rwa [World.size_alloc] at h))
      have HR2:=ja (jG HROW.o hb2)
      have HB2':=ja hb2
      have HZ2:=ja hz2
      have HL2:=ja (World.ownsRow.alloc HR2.o (.cells #[.func (.func 80) #[] #[.pointer (some ⟨wa.heap.size,0,none⟩),.pointer (some ⟨wa.heap.size+1,0,none⟩)]] 76))
      have hz2a:base<=w2.heap.size:=by omega
      clear hb2 hw2 hz2)
   | (at_builtin;refine wpList_append_own _ rfl _ _ 120 rfl base 76 is Value.nilFunc 1 8 Tryz.underlying120 his hs0 hs1 hs2 rfl (by decide) sv vs.length vs rfl HL2.o ⟨w2.heap.size,0,none⟩ 1 1 [.func (.func 80) #[] #[.pointer (some ⟨wa.heap.size,0,none⟩),.pointer (some ⟨wa.heap.size+1,0,none⟩)]] rfl rfl (JG _ _ _) (by simp[Value.oneCell']) (by unfold maxLen;omega) (by omega) (by first|omega|(simp;omega)) ?_;intro v' w3 ho3 hg3 _;obtain⟨A4,c4,rfl⟩:=jx ho3;have HO3:=ja ho3;have HG3:=ja hg3;clear ho3 hg3))
  obtain⟨gr,cr,hA4,hgb,hgl3⟩:=World.ownsRow.form HO3.o (by omega)
  simp only[Value.slice.injEq,true_and] at hA4
  obtain⟨rfl,rfl⟩:=hA4
  have hnY:sv.ownBlock≠some Y:=JQ HROW.o HAR.o (by decide)
  have hnE:sv.ownBlock≠some (w.heap.size+1):=JQ HROW.o HE.o (by decide)
  have hz2:=HZ2.o
  have hb2w:=HB2'.o
  have hga:∀b,b<wa.heap.size+2->sv.ownBlock≠some b->w3.heap[b]?=w2.heap[b]?:=λb hb hne=>
   (HG3.o.block b (by simp;omega) (λe=>hne e.symm)).trans (Below.heap_alloc _ _ _ (by omega))
  have hgz:wa.heap.size+3<=w3.heap.size:=by have:=HG3.o.size;simp at this;omega
  have hgw:∀b,b<wa.heap.size->sv.ownBlock≠some b->w3.heap[b]?=wa.heap[b]?:=λb hb hne=>(hga b (by omega) hne).trans (hb2w.block b hb)
  have hgg:wa.grownBy w3 sv.ownBlock:=JP (JO (jX hb2w sv.ownBlock) _) HG3.o (λj e=>.inl rfl)
  have hww:w.grownBy w3 sv.ownBlock:=JP (jX HBw.o sv.ownBlock) hgg (λj e=>.inl rfl)
  have hAR3:jh w3 Y 75 #[.int .i64 s1,.slice A1 n1 c1,.int .i64 s1,.slice A1 n1 c1]:=HAR.o.of_block (hgw Y hYa hnY)
  have hE3:jh w3 (w.heap.size+1) 75 #[.int .i64 ld,.slice lA ln lc,.int .i64 hd,.slice hA hn hc]:=HE.o.of_block (hgw _ (by omega) hnE)
  have hO13:=zF HOa.o hgg (λg e1=>zS HOa.o HROW.o (by decide) e1)
  have hsb:∀b,sv.ownBlock=some b->base<=b:=λb e=>(HROW.o.lt b e).1
  have hlo3:ji w3 B lA ln lc lt:=Rd.keepB HLOa.o (KeepB.of_grown hgg (R:=λb=>b<base) (λb hb=>by omega) (λb e=>by have:=hsb b e;omega)) (λb hb=>by show b<base;omega)
  have hhi3:ji w3 B hA hn hc ht:=Rd.keepB HHIa.o (KeepB.of_grown hgg (R:=λb=>b<base) (λb hb=>by omega) (λb e=>by have:=hsb b e;omega)) (λb hb=>by show b<base;omega)
  obtain⟨R3,hR3⟩:∃R3:Nat->Prop,R3=λb=>R b\/b=wa.heap.size\/b=wa.heap.size+1\/b=w.heap.size+1\/b=gr\/b<base:=⟨_,rfl⟩
  have hgrY:gr≠Y:=λe=>JQ HO3.o hAR3 (by decide) (by rw[<-e];rfl)
  have hRY:¬R3 Y:=by
   rw[hR3]
   rintro(h|h|h|h|h|h)
   ·have:=(hR Y h).1;omega
   all_goals omega
  obtain⟨v3,hv3⟩:∃v3,v3=Value.func (.func 80) #[] #[.pointer (some ⟨wa.heap.size,0,none⟩),.pointer (some ⟨wa.heap.size+1,0,none⟩)]:=⟨_,rfl⟩
  have hg3:=HG3S.o
  have hf3:Jo w3 R3 v3 g3:=by
   rw[hv3,hg3]
   refine Jo.mono (Jo.keep HF2.o ⟨by omega,?_⟩) (by rw[hR3];rintro b (h|h);exact .inr (.inl h);exact .inr (.inr (.inl h)))
   rintro b (rfl|rfl)
   ·exact hga _ (by omega) (λe=>by have:=(HROW.o.lt _ e).2;omega)
   ·exact hga _ (by omega) (λe=>by have:=(HROW.o.lt _ e).2;omega)
  have hwb:=HBw.o.size
  have hFS:∀(i:Nat) (v:Value) (g:jb6),(vs++[v3])[i]?=some v->(gs++[g3])[i]?=some g->Jo w3 R3 v g:=by
   intro i v g h1 h2
   rcases Nat.lt_or_ge i vs.length with hi|hi
   ·rw[List.getElem?_append_left hi] at h1
    rw[List.getElem?_append_left (by omega)] at h2
    exact Jo.mono (Jo.keep (HFN.o i v g h1 h2) ⟨by omega,λb hb=>(hgw b (by have:=(hR b hb).1;omega) (hR b hb).2).trans (HBw.o.block b (hR b hb).1)⟩) (by rw[hR3];exact λb h=>.inl h)
   ·rw[List.getElem?_append_right hi] at h1
    rw[List.getElem?_append_right (by omega)] at h2
    have hi0:i-vs.length=0:=by
     rcases Nat.eq_zero_or_pos (i-vs.length)with h|h
     ·exact h
     ·rw[List.getElem?_eq_none (by simp;omega)] at h1;cases h1
    rw[hi0] at h1
    rw[hgl,hi0] at h2
    simp only[List.getElem?_cons_zero,Option.some.injEq] at h1 h2
    rw[<-h1,<-h2]
    exact hf3
  have hcells:∀i,i<vs.length+1->w3.cell? ⟨gr,i,none⟩=(vs++[v3])[i]?:=λi hi=>by rw[hv3];exact HO3.o.cellAt i (by omega)
  have hRgr:R3 gr:=by rw[hR3];exact .inr (.inr (.inr (.inr (.inl rfl))))
  have hRE:R3 (w.heap.size+1):=by rw[hR3];exact .inr (.inr (.inr (.inl rfl)))
  have hRl:∀b,R3 b->b<w3.heap.size:=by
   rw[hR3]
   rintro b (h|h|h|h|h|h)
   ·have:=(hR b h).1;omega
   all_goals omega
  have hRB:∀b,b<B->R3 b:=by rw[hR3];exact λb hb=>.inr (.inr (.inr (.inr (.inr (by omega)))))
  have hlen3:(vs++[v3]).length=vs.length+1:=by simp
  have hgl4:(gs++[g3]).length=vs.length+1:=by simp[hgl]
  have HCELLS:=ja hcells;have HAR3:=ja hAR3;have HE3:=ja hE3;rw[hz0] at hO13
  have HO13:=ja hO13;have HLO3:=ja hlo3;have HHI3:=ja hhi3;have HWW:=ja hww
  rw[HGS.o] at hgl4
  have hFS':=hFS
  rw[HGS.o] at hFS'
  have HFS:=ja hFS'
  generalize hVS:vs++[v3]=VS at *
  clear hR3 hf3 hFS hFS' HG3S HGS hcells hAR3 hE3 hO13 hlo3 hhi3 hww hgg hgw hga hb2w hz2 HZ2 HB2' HF2 HR2 HL2 HG3 HO3 HFN HROW HROW0 HBY HE HE0 HAR HOa HLO HHI HLOa HHIa HBa HB0 HBw HB2 hv3 hg3 hVS hmul HONE hR hgl
  generalize hK:vs.length+1=K at *
  go_loopw [10,33] (λe i W=>ORel w w3 sv.ownBlock R3 (w.heap.size+2) Y K GS (s1,s2) (ld,lt) (hd,ht) e i W) (λ_ i _=>K-(intOf i).toNat)
  case atStart=>exact⟨0,(s1,s2),(s1,s2),A1,n1,c1,A1,n1,c1,by omega,rfl,rfl,rfl,HAR3.o,HO13.o,HO13.o,KeepB.refl _ _,HWW.o⟩
  case round=>
   obtain⟨k,a,b,Aa,na,ca,Ab,nb,cb,hk,rfl,rfl,hst,har⟩:=hrel
   have HST:=ja hst;have HAR:=ja har
   clear hst har HAR3 HO13 HWW
   have hwz:=HAR.o.2.2.2.1.size
   obtain⟨y0,y1,y2,y3⟩:=HAR.o.1.four
   by_cases hkK:(k:Int)<(K:Int)
   ·have hkn:k<K:=by omega
    obtain⟨v,hv⟩:∃v,VS[k]?=some v:=⟨_,List.getElem?_eq_getElem (by omega)⟩
    obtain⟨g,hg⟩:∃g,GS[k]?=some g:=⟨_,List.getElem?_eq_getElem (by omega)⟩
    obtain⟨gf,lb,rfl,eg,hcall⟩:=HFS.o k v g hv hg
    have hcv:wr.cell? ⟨gr,k,none⟩=some (.func (.func gf) #[] lb):=(World.cell?_of_block (HAR.o.2.2.2.1.same gr hRgr)).trans ((HCELLS.o k hkn).trans hv)
    have hdrop:GS.drop k=g::GS.drop (k+1):=by
     rw[List.drop_eq_getElem_cons (by omega)]
     congr 1
     exact Option.some.inj ((List.getElem?_eq_getElem (by omega)).symm.trans hg)
    have hst:=HST.o
    rw[hdrop,jp0] at hst
    have HST2:=ja hst
    have HCALL:=ja hcall
    clear hst HST hcall hdrop hv hg
    go_wp2
    go_loopw [10,37] (λe i W=>IRel w w3 sv.ownBlock R3 (w.heap.size+2) Y g a b (ld,lt) (hd,ht) e i W) (λ_ i _=>2-(intOf i).toNat)
    case atStart=>exact⟨0,a,b,Aa,na,ca,Ab,nb,cb,by omega,rfl,rfl,.inl ⟨rfl,rfl,rfl⟩,HAR.o⟩
    case round=>
     obtain⟨j,a',b',Aa',na',ca',Ab',nb',cb',hj,rfl,rfl,hin,har⟩:=hrel
     have HAR2:=ja har
     clear har HAR y0 y1 y2 y3
     have hwz2:=HAR2.o.2.2.2.1.size
     obtain⟨y0,y1,y2,y3⟩:=HAR2.o.1.four
     have hyf0:=HAR2.o.1.free 0
     have hyf1:=HAR2.o.1.free 1
     have hyf2:=HAR2.o.1.free 2
     have hyf3:=HAR2.o.1.free 3
     have hEw:jh wr (w.heap.size+1) 75 #[.int .i64 ld,.slice lA ln lc,.int .i64 hd,.slice hA hn hc]:=HE3.o.of_block (HAR2.o.2.2.2.1.same _ hRE)
     obtain⟨t0,t1,t2,t3⟩:=hEw.four
     clear hEw
     have hbd:Hid (Below wr.heap.size wr wr.drew):=ja (Below.drew (Below.refl _ _))
     have hTa:ji wr.drew wr.heap.size Aa' na' ca' a'.2:=Rd.of_own HAR2.o.2.1
     have hTb:ji wr.drew wr.heap.size Ab' nb' cb' b'.2:=Rd.of_own HAR2.o.2.2.1
     have hTl:ji wr.drew wr.heap.size lA ln lc lt:=Rd.more (Rd.keepB HLO3.o (HAR2.o.2.2.2.1.drewN 1) hRB) (by omega)
     have hTh:ji wr.drew wr.heap.size hA hn hc ht:=Rd.more (Rd.keepB HHI3.o (HAR2.o.2.2.2.1.drewN 1) hRB) (by omega)
     have HCL:=ja (HCALL.o wr.drew (HAR2.o.2.2.2.1.drewN 1) a'.1 Aa' na' ca' a'.2 ld lA ln lc lt wr.heap.size hTa hTl (Nat.le_refl _))
     have HCH:=ja (HCALL.o wr.drew (HAR2.o.2.2.2.1.drewN 1) b'.1 Ab' nb' cb' b'.2 hd hA hn hc ht wr.heap.size hTb hTh (Nat.le_refl _))
     clear hTa hTb hTl hTh
     rcases hin with⟨rfl,rfl,rfl⟩|⟨rfl,hc1,rfl,rfl⟩|⟨rfl,hc1,hc2,rfl,rfl⟩
     ·rcases hr1:g a' (ld,lt)with⟨r1,r2,r3⟩
      have HR1:=ja hr1
      have HCL:Hid (Calls Tryz.prog gf (#[.agg #[.int .i64 a'.1,.slice Aa' na' ca'],.agg #[.int .i64 ld,.slice lA ln lc]]++lb) wr.drew (jV wr.drew (r1,r2,r3))):=ja (hr1▸HCL.o)
      by_cases hz:r3=0
      ·subst hz
       clear hr1
       go_wp2
       go_region_law (first
        | (go_simp;refine HCL.o.mono ?_;rintro e w5 ⟨A5,n5,c5,rfl,ho5,hb5⟩;have HB5:=ja (hbd.o.trans hb5);have HO5:=ja ho5;have HY5:=ja (HAR2.o.1.below HB5.o HAR2.o.1.lt);obtain⟨u0,u1,u2,u3⟩:=HY5.o.four;have uf0:=HY5.o.free 0;have uf1:=HY5.o.free 1;clear ho5 hb5))
       all_goals
        go_wp2
        refine⟨⟨_,_,.int .i64 0,.int .i64 0,.int .i64 1,⟨1,jk9 (g a' (ld,lt)),b',A5,n5,c5,Ab',nb',cb',by omega,rfl,rfl,.inr (.inl ⟨rfl,by rw[HR1.o],rfl,rfl⟩),?_⟩,rfl,rfl,rfl,rfl,rfl⟩,by simp[intOf]⟩
        rw[HR1.o]
        exact HAR2.o.low hRY (by omega) hRl HB5.o HO5.o (by omega)
      ·have hn3:(r3 !=0)=true:=by simpa using hz
       have hst2:=HST2.o
       rw[hr1,if_pos hz] at hst2
       have HST3:=ja hst2
       clear hst2 HST2
       clear hr1
       go_wp2
       go_region_law (first
        | (go_simp;refine HCL.o.mono ?_;rintro e w5 ⟨A5,n5,c5,rfl,ho5,hb5⟩;have HB5:=ja (hbd.o.trans hb5);have HO5:=ja ho5;have HY5:=ja (HAR2.o.1.below HB5.o HAR2.o.1.lt);obtain⟨u0,u1,u2,u3⟩:=HY5.o.four;have uf0:=HY5.o.free 0;have uf1:=HY5.o.free 1;have uf2:=HY5.o.free 2;have uf3:=HY5.o.free 3;clear ho5 hb5))
       all_goals
        go_wp2
        go_ret3
        exact⟨_,_,_,rfl,.inr ⟨by rw[HMUL.o],(a',b',r3),by rw[HMUL.o];exact HST3.o.symm,.inl ⟨hz,rfl,rfl,rfl⟩⟩,(HAR2.o.low hRY (by omega) hRl HB5.o HO5.o (by omega)).2.2.2.2⟩
     ·rcases hr1:g b' (hd,ht)with⟨r1,r2,r3⟩
      have HR1:=ja hr1
      have HCH:Hid (Calls Tryz.prog gf (#[.agg #[.int .i64 b'.1,.slice Ab' nb' cb'],.agg #[.int .i64 hd,.slice hA hn hc]]++lb) wr.drew (jV wr.drew (r1,r2,r3))):=ja (hr1▸HCH.o)
      by_cases hz:r3=0
      ·subst hz
       clear hr1
       go_wp2
       go_region_law (first
        | (go_simp;refine HCH.o.mono ?_;rintro e w5 ⟨A5,n5,c5,rfl,ho5,hb5⟩;have HB5:=ja (hbd.o.trans hb5);have HO5:=ja ho5;have HY5:=ja (HAR2.o.1.below HB5.o HAR2.o.1.lt);obtain⟨u0,u1,u2,u3⟩:=HY5.o.four;have uf0:=HY5.o.free 0;have uf1:=HY5.o.free 1;have uf2:=HY5.o.free 2;have uf3:=HY5.o.free 3;clear ho5 hb5))
       all_goals
        go_wp2
        refine⟨⟨_,_,.int .i64 0,.int .i64 1,.int .i64 2,⟨2,_,jk9 (g b' (hd,ht)),Aa',na',ca',A5,n5,c5,by omega,rfl,rfl,.inr (.inr ⟨rfl,hc1,by rw[HR1.o],rfl,rfl⟩),?_⟩,rfl,rfl,rfl,rfl,rfl⟩,by simp[intOf]⟩
        rw[HR1.o]
        exact HAR2.o.high hRY (by omega) hRl HB5.o HO5.o (by omega)
      ·have hn3:(r3 !=0)=true:=by simpa using hz
       have hst2:=HST2.o
       rw[if_neg (by simp[hc1]),hr1,if_pos hz] at hst2
       have HST3:=ja hst2
       clear hst2 HST2
       clear hr1
       go_wp2
       go_region_law (first
        | (go_simp;refine HCH.o.mono ?_;rintro e w5 ⟨A5,n5,c5,rfl,ho5,hb5⟩;have HB5:=ja (hbd.o.trans hb5);have HO5:=ja ho5;have HY5:=ja (HAR2.o.1.below HB5.o HAR2.o.1.lt);obtain⟨u0,u1,u2,u3⟩:=HY5.o.four;have uf0:=HY5.o.free 0;have uf1:=HY5.o.free 1;have uf2:=HY5.o.free 2;have uf3:=HY5.o.free 3;clear ho5 hb5))
       all_goals
        go_wp2
        go_ret3
        exact⟨_,_,_,rfl,.inr ⟨by rw[HMUL.o],(a,b',r3),by rw[HMUL.o];exact HST3.o.symm,.inl ⟨hz,rfl,rfl,rfl⟩⟩,(HAR2.o.high hRY (by omega) hRl HB5.o HO5.o (by omega)).2.2.2.2⟩
     ·have hst2:=HST2.o
      rw[if_neg (by simp[hc1]),if_neg (by simp[hc2])] at hst2
      have HST3:=ja hst2
      clear hst2 HST2
      go_wp2
      exact⟨⟨k+1,_,_,Aa',na',ca',Ab',nb',cb',by omega,rfl,by go_num,HST3.o,HAR2.o⟩,by simp[intOf];omega⟩
   ·obtain rfl:k=K:=by omega
    have hst:=HST.o
    rw[List.drop_eq_nil_of_le (by omega),jp0] at hst
    have HST2:=ja hst
    have HBA:=ja (jd5 a.1 Aa na ca a.2 den wr.heap.size wr (Rd.of_own HAR.o.2.1) (Nat.le_refl _))
    have HBB:=ja (λW (hb:Below wr.heap.size wr W)=>jd5 b.1 Ab nb cb b.2 den wr.heap.size W (Rd.below (Rd.of_own HAR.o.2.2.1) hb) hb.size)
    clear hst HST
    go_wp2_with (first
     | (go_at_call_of 47 a;refine HBA.o.mono ?_;rintro e w5 ⟨l1,h1,cc1,rfl,hbr1,hb5⟩
        have HB5:=ja hb5
        have HY5:=ja (HAR.o.1.below hb5 HAR.o.1.lt)
        obtain⟨u0,u1,u2,u3⟩:=HY5.o.four
        have HBR1:=ja hbr1
        have HBB5:=ja (HBB.o w5 hb5)
        clear hbr1 hb5)
     | (go_at_call_of 47 b;refine HBB5.o.mono ?_;rintro e w6 ⟨l2,h2,cc2,rfl,hbr2,hb6⟩
        have HB6:=ja (HB5.o.trans (hb6.mono HB5.o.size))
        have HBR2:=ja hbr2
        clear hbr2 hb6))
    ·rename_i hs
     have h3:cc1≠0:=by simpa using hs
     go_ret3
     exact⟨_,_,_,rfl,.inr ⟨by rw[HMUL.o],(a,b,0),by rw[HMUL.o];exact HST2.o.symm,.inr ⟨rfl,l1,h1,cc1,HBR1.o,.inl ⟨h3,rfl,rfl,rfl⟩⟩⟩,zI HAR.o.2.2.2.2 HB5.o HAR.o.2.2.2.2.size⟩
    ·rename_i hs
     have h3:cc1=0:=by simpa using hs
     go_ret3
     exact⟨_,_,_,rfl,.inr ⟨by rw[HMUL.o],(a,b,0),by rw[HMUL.o];exact HST2.o.symm,.inr ⟨rfl,l1,h1,cc1,HBR1.o,.inr ⟨h3,l2,HBR2.o,rfl⟩⟩⟩,zI HAR.o.2.2.2.2 HB6.o HAR.o.2.2.2.2.size⟩
 ·have hn3:(s3 !=0)=true:=by simpa using h0
  go_wp2_with (first
   | (go_at_call 36;refine HML.o.mono ?_;rintro e w1 ⟨A1,n1,c1,rfl,ho1,hb1⟩
      have HB1:=ja (HB0.o.trans (hb1.mono (by omega)))
      have hz1:=HB1.o.size
      have HB2:=ja (HB1.o.alloc hz1 (.cells #[.int .i64 s1,.slice A1 n1 c1] 24))
      clear ho1 hb1))
  go_ret3
  exact⟨_,_,_,rfl,.inl ⟨by rw[hmul];exact h0,rfl,rfl,by rw[hmul]⟩,jX HB2.o _⟩
def zv4(x lo hi:Num)(den low high c:Int):Prop:=
 ∃r,jbv0 x.1 x.2 lo.1 lo.2 hi.1 hi.2 r/\((r≠0/\low=0/\high=0/\c=r) \/
  (r=0/\jbf6 x ([(λx _=>jc7 x.1 x.2 (jI 4).1 (jI 4).2),(λx y=>jn7 x.1 x.2 y.1 y.2)]++[λx _=>jL x.1 x.2 (jI 1).1 (jI 1).2 (-1)]) hi lo den low high c))
theorem jag1 (xd:Int) (A0:Option Addr) (n0 c0:Nat) (xt:List (Int×Int)) (ld:Int) (A:Option Addr) (n c:Nat) (lt:List (Int×Int)) (hd:Int) (A2:Option Addr) (n2 c2:Nat) (ht:List (Int×Int)) (den:Int) (B:Nat) (w:World)
  (hz:ji w B A0 n0 c0 xt) (hx:ji w B A n c lt) (hy:ji w B A2 n2 c2 ht) (hB:B<=w.heap.size) :
  Calls Tryz.prog 13 #[.agg #[.int .i64 xd,.slice A0 n0 c0],.agg #[.int .i64 ld,.slice A n c,.int .i64 hd,.slice A2 n2 c2],.int .i64 den] w λe w'=>
   ∃low high cc,e=.returned (.tuple #[.int .i64 low,.int .i64 high,.int .i64 cc])/\zv4 (xd,xt) (ld,lt) (hd,ht) den low high cc/\Below w.heap.size w w':=by
 obtain⟨w0,hw0⟩:∃w0,w0=(w.alloc (.cells #[.int .i64 xd,.slice A0 n0 c0] 24)).alloc (.cells #[.int .i64 ld,.slice A n c,.int .i64 hd,.slice A2 n2 c2] 26):=⟨_,rfl⟩
 have hz0:w0.heap.size=w.heap.size+2:=by rw[hw0];simp
 have h01:Below w.heap.size w w0:=by rw[hw0];exact((Below.refl _ _).alloc (Nat.le_refl _) _).alloc (by simp) _
 have HX0:Hid (jh w0 w.heap.size 24 #[.int .i64 xd,.slice A0 n0 c0]):=ja (by rw[hw0];exact(jh.new w _ _).alloc _)
 have HP0:Hid (jh w0 (w.heap.size+1) 26 #[.int .i64 ld,.slice A n c,.int .i64 hd,.slice A2 n2 c2]):=ja (by
  rw[hw0]
  have h:=jh.new (w.alloc (.cells #[.int .i64 xd,.slice A0 n0 c0] 24)) 26 #[.int .i64 ld,.slice A n c,.int .i64 hd,.slice A2 n2 c2]
  rwa [World.size_alloc] at h)
 have HZ:=ja (Rd.below hz (h01.mono hB));have HX:=ja (Rd.below hx (h01.mono hB));have HY:=ja (Rd.below hy (h01.mono hB))
 have HB0:=ja h01
 have HCK:=ja (zh9 xd A0 n0 c0 xt ld A n c lt hd A2 n2 c2 ht B w0 HZ.o HX.o HY.o (by omega))
 clear hz hx hy h01
 go_enter Tryz.func13,Tryz.ntmps13
 go_wp2_with fail
 rw[<-hw0]
 clear hw0
 obtain⟨x0,x1,_,_⟩:=HX0.o.two
 obtain⟨y0,y1,y2,y3⟩:=HP0.o.four
 go_wp2_with (first
  | (go_at_call 34;refine HCK.o.mono ?_;rintro e w1 ⟨r,rfl,hcr,hb1⟩
     have HX1:=ja (HX0.o.below hb1 (by omega));have HP1:=ja (HP0.o.below hb1 (by omega));have HB1:=ja (HB0.o.trans (hb1.mono (by omega)))
     have HBW:=ja hb1
     have hz1:=hb1.size
     obtain⟨u0,u1,_,_⟩:=HX1.o.two
     obtain⟨v0,v1,v2,v3⟩:=HP1.o.four
     have HCR:=ja hcr
     clear hb1 hcr HCK x0 x1 y0 y1 y2 y3))
 ·have h3:r≠0:=by simpa using ‹(r !=0)=true›
  go_ret3
  exact⟨_,_,_,rfl,⟨r,HCR.o,.inl ⟨h3,rfl,rfl,rfl⟩⟩,HB1.o⟩
 ·have h3:r=0:=by simpa using ‹(r !=0)=false›
  have hbd:Hid (Below w1.heap.size w1 w1.drew):=ja (Below.drew (Below.refl _ _))
  obtain⟨lb,hlb⟩:∃lb:Array Value,lb=#[.pointer (some ⟨w1.heap.size,0,none⟩),.pointer (some ⟨w1.heap.size+1,0,none⟩)]:=⟨_,rfl⟩
  obtain⟨w2,hw2⟩:∃w2,w2=(w1.drew.alloc (.cells #[.func (.func 36) #[] #[]] 76)).alloc (.cells #[.int .i64 4] 3):=⟨_,rfl⟩
  have hz2:w2.heap.size=w1.heap.size+2:=by rw[hw2];simp
  have hb2:Below w1.heap.size w1 w2:=by rw[hw2];exact((Below.drew (Below.refl _ _)).alloc (by simp) _).alloc (by simp) _
  obtain⟨V,hV⟩:∃V,V=w2.alloc (.cells #[.func (.func 80) #[] lb,.func (.func 38) #[] #[]] 76):=⟨_,rfl⟩
  have hbV:Below w1.heap.size w1 V:=by rw[hV];exact hb2.alloc (by omega) _
  have hrow:V.ownsRow w2.heap.size 76 1 (.slice (some ⟨w2.heap.size,0,none⟩) 2 2) 2 [.func (.func 80) #[] lb,.func (.func 38) #[] #[]]:=by
   rw[hV]
   exact World.ownsRow_lit (base:=w2.heap.size) (e:=76) (size:=1) w2 #[.func (.func 80) #[] lb,.func (.func 38) #[] #[]] 2 (Nat.le_refl _) (by unfold maxLen;omega) rfl
  have hzV:V.heap.size=w2.heap.size+1:=by rw[hV];simp
  have hc1:V.cell? ⟨w1.heap.size,0,none⟩=some (.func (.func 36) #[] #[]):=by
   rw[hV,hw2];exact(((jh.new w1.drew 76 #[.func (.func 36) #[] #[]]).alloc _).alloc _).cell 0
  have hc2:V.cell? ⟨w1.heap.size+1,0,none⟩=some (.int .i64 4):=by
   rw[hV,hw2]
   have h:=((jh.new (w1.drew.alloc (.cells #[.func (.func 36) #[] #[]] 76)) 3 #[.int .i64 4]).alloc (.cells #[.func (.func 80) #[] lb,.func (.func 38) #[] #[]] 76)).cell 0
   simpa using h
  have HRL:=ja (jcd6 xd A0 n0 c0 xt hd A2 n2 c2 ht ld A n c lt den (.slice (some ⟨w2.heap.size,0,none⟩) 2 2) [.func (.func 80) #[] lb,.func (.func 38) #[] #[]] [(λx _=>jc7 x.1 x.2 (jI 4).1 (jI 4).2),(λx y=>jn7 x.1 x.2 y.1 y.2)] B w2.heap.size V
   (Rd.below HZ.o ((HBW.o.trans (hbV.mono hz1)).mono (by omega))) (Rd.below HY.o ((HBW.o.trans (hbV.mono hz1)).mono (by omega))) (Rd.below HX.o ((HBW.o.trans (hbV.mono hz1)).mono (by omega))) (by omega) hrow (by omega) (by omega)
   (λb=>b=w1.heap.size\/b=w1.heap.size+1) (by rintro b (rfl|rfl)<;>exact⟨by omega,λe=>by simp[Value.ownBlock] at e;omega⟩) rfl (by simp) (by simp[Value.oneCell']) (by
    intro i v g h1 h2
    match i,h1,h2 with
    | 0,h1,h2=>
     simp only[List.getElem?_cons_zero,Option.some.injEq] at h1 h2
     subst h1;subst h2;subst hlb
     exact Jo.of_by jbn9 hc1 hc2
    | 1,h1,h2=>
     simp only[List.getElem?_cons_succ,List.getElem?_cons_zero,Option.some.injEq] at h1 h2
     subst h1;subst h2
     exact Jo.of_num jbp0 V _
    | i+2,h1,h2=>simp at h1))
  have HX2:=ja (HX1.o.below hb2 HX1.o.lt);have HP2:=ja (HP1.o.below hb2 HP1.o.lt)
  obtain⟨p0,p1,_,_⟩:=HX2.o.two
  obtain⟨q0,q1,q2,q3⟩:=HP2.o.four
  have pa0:∀o,(w2.alloc o).cell? ⟨w.heap.size,0,none⟩=some (.int .i64 xd):=λo=>(HX2.o.alloc o).cell 0
  have pa1:∀o,(w2.alloc o).cell? ⟨w.heap.size,1,none⟩=some (.slice A0 n0 c0):=λo=>(HX2.o.alloc o).cell 1
  have qa0:∀o,(w2.alloc o).cell? ⟨w.heap.size+1,0,none⟩=some (.int .i64 ld):=λo=>(HP2.o.alloc o).cell 0
  have qa1:∀o,(w2.alloc o).cell? ⟨w.heap.size+1,1,none⟩=some (.slice A n c):=λo=>(HP2.o.alloc o).cell 1
  have qa2:∀o,(w2.alloc o).cell? ⟨w.heap.size+1,2,none⟩=some (.int .i64 hd):=λo=>(HP2.o.alloc o).cell 2
  have qa3:∀o,(w2.alloc o).cell? ⟨w.heap.size+1,3,none⟩=some (.slice A2 n2 c2):=λo=>(HP2.o.alloc o).cell 3
  have HBF:Hid (∀w',V.grownBy w' (some w2.heap.size)->Below w.heap.size w w'):=ja (λw' hg=>(HB1.o.trans (hbV.mono HB1.o.size)).grown hg (by have:=HB1.o.size;omega) (λj e=>by cases e;have:=HB1.o.size;omega))
  have HW2:=ja hw2
  have HBB2:=ja hb2
  have HBV5:Hid (∀w',V.grownBy w' (some w2.heap.size)->Below w1.heap.size w1 w'):=ja (λw' hg=>hbV.grown hg (by omega) (λj e=>by cases e;omega))
  subst hV
  subst hlb
  clear hrow hc1 hc2 hzV hbV hb2 hw2 hz2 HX HY HZ HX0 HP0 HB0
  have HS:Hid (∀W,Below w1.heap.size w1 W->(W.cell? ⟨w.heap.size,0,none⟩=some (.int .i64 xd)/\W.cell? ⟨w.heap.size,1,none⟩=some (.slice A0 n0 c0)/\W.cell? ⟨w.heap.size+1,0,none⟩=some (.int .i64 ld)/\W.cell? ⟨w.heap.size+1,1,none⟩=some (.slice A n c)/\W.cell? ⟨w.heap.size+1,2,none⟩=some (.int .i64 hd)/\W.cell? ⟨w.heap.size+1,3,none⟩=some (.slice A2 n2 c2))):=ja (λW hb=>⟨(HX1.o.below hb HX1.o.lt).cell 0,(HX1.o.below hb HX1.o.lt).cell 1,(HP1.o.below hb HP1.o.lt).cell 0,(HP1.o.below hb HP1.o.lt).cell 1,(HP1.o.below hb HP1.o.lt).cell 2,(HP1.o.below hb HP1.o.lt).cell 3⟩)
  have HS1:=ja (HS.o _ hbd.o)
  have HS2:=ja (HS.o _ HBB2.o)
  have HS3:=ja (λo=>HS.o (w2.alloc o) (HBB2.o.alloc HBB2.o.size o))
  clear p0 p1 q0 q1 q2 q3 pa0 pa1 qa0 qa1 qa2 qa3 u0 u1 v0 v1 v2 v3
  go_region_held3 (λw'=>w'.cell? ⟨w.heap.size,0,none⟩=some (.int .i64 xd)/\w'.cell? ⟨w.heap.size,1,none⟩=some (.slice A0 n0 c0)/\w'.cell? ⟨w.heap.size+1,0,none⟩=some (.int .i64 ld)/\w'.cell? ⟨w.heap.size+1,1,none⟩=some (.slice A n c)/\w'.cell? ⟨w.heap.size+1,2,none⟩=some (.int .i64 hd)/\w'.cell? ⟨w.heap.size+1,3,none⟩=some (.slice A2 n2 c2)) (first|with_reducible exact HS1.o|with_reducible exact HS2.o|with_reducible exact HS3.o _|with_reducible exact HS5.o) (first
   | (go_at_call 37;refine(jby0 36 4 _).mono ?_;rintro e w3 ⟨rfl,hw3⟩;obtain rfl:w3=w2:=hw3.trans HW2.o.symm;clear hw3)
   | (go_at_call 35;refine HRL.o.mono ?_;rintro e w5 ⟨low,high,cc,rfl,hrr,hg5⟩;have HRR:=ja hrr;have HG5:=ja hg5;have HS5:=ja (HS.o w5 (HBV5.o _ hg5));clear hrr hg5))
  all_goals
   go_wp2
   go_ret3
   exact⟨_,_,_,rfl,⟨r,HCR.o,.inr ⟨h3,HRR.o⟩⟩,HBF.o _ HG5.o⟩
