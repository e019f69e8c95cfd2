import Derived.Test.YtphcodcdfeohhaaGreatDoorTkrB
set_option linter.all false
namespace Go.Proofs.YtphcodcdfeohhaaGreatDoor
set_option maxRecDepth 100000
set_option maxHeartbeats 16000000
open Go.RowKit
theorem jf1{l:List PieceV}{k:Nat}(hk:k<l.length):(l.map PieceV.flat).take (k+1)=(l.map PieceV.flat).take k++[l[k].flat]:=by
 have h:k<(l.map PieceV.flat).length:=by simpa using hk
 rw[List.take_succ_eq_append_getElem h,List.getElem_map]
theorem jcc1 (xw:Int) (A:Option Addr) (n c:Nat) (xl:List PieceV) (yw:Int) (A2:Option Addr) (n2 c2:Nat) (yl:List PieceV) (B:Nat) (w:World) (hx:zc w B A n c xl) (hy:zc w B A2 n2 c2 yl) (hB:B<=w.heap.size) :
  Calls Tryz.prog 20 #[.agg #[.int .i64 xw,.slice A n c],.agg #[.int .i64 yw,.slice A2 n2 c2]] w λe w'=>e=.returned (.bool (decide (xw=yw)&&decide (xl.map PieceV.flat=yl.map PieceV.flat)))/\Below w.heap.size w w':=by
 have hlx:=hx.len
 have hly:=hy.len
 subst hlx
 subst hly
 have hnx:=hx.1.nmax
 have hny:=hy.1.nmax
 obtain⟨w0,hw0⟩:∃w0,w0=(w.alloc (.cells #[.int .i64 xw,.slice A xl.length c] 43)).alloc (.cells #[.int .i64 yw,.slice A2 yl.length c2] 43):=⟨_,rfl⟩
 have hz0:w0.heap.size=w.heap.size+2:=by rw[hw0];simp
 have h01:Below w.heap.size w w0:=by rw[hw0];exact((Below.refl _ _).alloc (Nat.le_refl _) _).alloc (by simp) _
 have HX0:Hid (jh w0 w.heap.size 43 #[.int .i64 xw,.slice A xl.length c]):=ja (by rw[hw0];exact(jh.new w _ _).alloc _)
 have HY0:Hid (jh w0 (w.heap.size+1) 43 #[.int .i64 yw,.slice A2 yl.length c2]):=ja (by
  rw[hw0]
  have h:=jh.new (w.alloc (.cells #[.int .i64 xw,.slice A xl.length c] 43)) 43 #[.int .i64 yw,.slice A2 yl.length c2]
  rwa [World.size_alloc] at h)
 have HTX:=ja (zc.below hx (h01.mono hB));have HTY:=ja (zc.below hy (h01.mono hB))
 have HB0:=ja h01
 clear hx hy h01
 go_enter Tryz.func20,Tryz.ntmps20
 go_upto_region 1 with fail
 rw[<-hw0]
 clear hw0
 obtain⟨x0,x1,_,_⟩:=HX0.o.two
 obtain⟨y0,y1,_,_⟩:=HY0.o.two
 by_cases hd:xw=yw
 ·by_cases hl:(xl.length:Int)=(yl.length:Int)
  ·go_wp2
   go_loopw [5] (λi W=>∃(k:Nat),k<=xl.length/\i=.int .i64 k/\(xl.map PieceV.flat).take k=(yl.map PieceV.flat).take k/\∃q,W=w0.drewN q) (λi _=>xl.length-(intOf i).toNat)
   case atStart=>exact⟨0,by omega,rfl,rfl,0,rfl⟩
   case round=>
    obtain⟨k,hk,rfl,hpre,q,rfl⟩:=hrel
    have HPRE:=ja hpre
    have HX:=ja (HX0.o.drewN q);have HY:=ja (HY0.o.drewN q)
    have HTXq:Hid (zc (w0.drewN q) B A xl.length c xl):=ja HTX.o
    have HTYq:Hid (zc (w0.drewN q) B A2 yl.length c2 yl):=ja HTY.o
    have HBq:Hid (Below w.heap.size w (w0.drewN q)):=ja (jp HB0.o q)
    have hzq:(w0.drewN q).heap.size=w.heap.size+2:=hz0
    have HDD:=ja (λp=>dd w0 q p)
    clear hpre x0 x1 y0 y1
    generalize w0.drewN q=W at *
    obtain⟨x0,x1,_,_⟩:=HX.o.two
    obtain⟨y0,y1,_,_⟩:=HY.o.two
    by_cases hkl:(k:Int)<(xl.length:Int)
    ·have hk1:k<xl.length:=by omega
     have hk2:k<yl.length:=by omega
     obtain⟨ad,rfl,-,ha0,ha1⟩:=HTXq.o.at_ hk1
     obtain⟨ad2,rfl,-,hb0,hb1⟩:=HTYq.o.at_ hk2
     have hI1:=HTXq.o.2 xl[k] (List.getElem_mem hk1)
     have hI2:=HTYq.o.2 yl[k] (List.getElem_mem hk2)
     have hky:(k:Int)<(yl.length:Int):=by omega
     have htk1:=jf1 hk1
     have htk2:=jf1 hk2
     have HNE:=ja (show xl[k].flat≠yl[k].flat->¬xl.map PieceV.flat=yl.map PieceV.flat from λh e=>h (by
      have h1:(xl.map PieceV.flat)[k]?=(yl.map PieceV.flat)[k]?:=by rw[e]
      rw[List.getElem?_map,List.getElem?_map,List.getElem?_eq_getElem hk1,List.getElem?_eq_getElem hk2] at h1
      simpa using h1))
     generalize xl[k]=px at *
     generalize yl[k]=py at *
     obtain⟨mx,Ax,nx,cx,xs⟩:=px
     obtain⟨my,Ay,ny,cy,ys⟩:=py
     dsimp only at ha0 ha1 hb0 hb1 hI1 hI2
     have HLI:=ja (λq=>jan2 Ax nx cx xs Ay ny cy ys B (W.drewN q) hI1 hI2 (by show B<=W.heap.size;omega))
     by_cases hmm:mx=my
     ·subst hmm
      by_cases hxy:xs=ys
      ·rw[decide_eq_true hxy] at HLI
       have HTK:Hid ((xl.map PieceV.flat).take (k+1)=(yl.map PieceV.flat).take (k+1)):=ja (by rw[htk1,htk2,HPRE.o,hxy];rfl)
       clear htk1 htk2 hxy hI1 hI2 HNE
       go_wp2
       go_quiet (first|(go_at_call 24;refine Calls.quiet_of (HLI.o _)))
       go_wp2
       obtain⟨q2,hq2⟩:=HDD.o nq
       exact⟨⟨k+1,by omega,by go_num,HTK.o,q2,hq2⟩,by simp[intOf];omega⟩
      ·rw[decide_eq_false hxy] at HLI
       have hne:=HNE.o (λe=>hxy (by simpa [PieceV.flat] using e))
       have HNE2:=ja hne
       clear htk1 htk2 hxy hI1 hI2 HNE hne
       go_wp2
       go_quiet (first|(go_at_call 24;refine Calls.quiet_of (HLI.o _)))
       go_wp2
       go_ret
       exact⟨by simp[HNE2.o],jp HBq.o _⟩
     ·have hne:=HNE.o (λe=>hmm (by simp[PieceV.flat] at e;exact e.1))
      have HNE2:=ja hne
      have hdm:(mx !=my)=true:=by simpa using hmm
      clear htk1 htk2 hI1 hI2 HNE hne HLI
      go_wp2
      go_quiet (fail)
      go_wp2
      go_ret
      exact⟨by simp[HNE2.o],jp HBq.o _⟩
    ·obtain rfl:k=xl.length:=by omega
     go_wp2
     go_ret
     have hpre:=HPRE.o
     rw[List.take_of_length_le (by simp),List.take_of_length_le (by simp;omega)] at hpre
     exact⟨by simp[hd,hpre],HBq.o⟩
  ·go_wp2
   go_ret
   have hne:¬xl.map PieceV.flat=yl.map PieceV.flat:=λe=>hl (by have h5:=congrArg List.length e;simp only[List.length_map] at h5;omega)
   exact⟨by simp[hd,hne],HB0.o⟩
 ·go_wp2
  go_ret
  exact⟨by simp[hd],HB0.o⟩
open Go Go.RowKit
def OdQ(X:Nat)(wh:Int)(A:Option Addr)(n c:Nat)(L:List PieceV)(W:World):Prop:=jh W X 43 #[.int .i64 wh,.slice A n c]/\∃B,B<=W.heap.size/\zc W B A n c L
instance {X:Nat}{wh:Int}{A:Option Addr}{n c:Nat}{L:List PieceV}:Kept (OdQ X wh A n c L):=⟨λ_ _ h hb=>⟨h.1.below hb h.1.lt,h.2.elim λB h2=>⟨B,Nat.le_trans h2.1 hb.size,h2.2.below (hb.mono h2.1)⟩⟩⟩
theorem OdQ.read{X:Nat}{wh:Int}{A:Option Addr}{n c:Nat}{L:List PieceV}{W:World}(h:OdQ X wh A n c L W):zc W W.heap.size A n c L:=by
 obtain⟨_,B,hB,h2⟩:=h
 exact h2.more hB
theorem OdQ.new{W:World}{wh:Int}{A:Option Addr}{n c:Nat}{L:List PieceV}(h:zc W W.heap.size A n c L):OdQ W.heap.size wh A n c L (W.alloc (.cells #[.int .i64 wh,.slice A n c] 43)):=⟨jh.new W _ _,W.heap.size,by simp,h.alloc (Nat.le_refl _) _⟩
theorem jbt0 (xd:Int) (A:Option Addr) (n c:Nat) (xt:List (Int×Int)) (most:Int) (w:World) (hx:jJ w w.heap.size A n c xt)
  (hE : Jm w) (htab : Lib.TabIs Tryz.prog w "internal/strconv.uint64pow10" .u64 Lib.pow10Tab) :
  Calls Tryz.prog 5 #[.agg #[.int .i64 xd,.slice A n c],.int .i64 most] w λe w'=>e=.returned (.bool true)/\Below w.heap.size w w':=by
 obtain⟨gp,hgp⟩:=Option.isSome_iff_exists.1 Tryz.pow10g
 have HK:Hid (∀W,Below w.heap.size w W->Calls Tryz.prog 8 #[] W λe w'=>e=.returned (.bool true)/\Below W.heap.size W w'):=ja (λW hW=>jbn0 W (hE.below hW (Nat.le_refl _)) (JV hgp htab hW))
 have hl:=hx.len
 subst hl
 have HPX:=ja (λW (hb:Below w.heap.size w W)=>Rq.below hx hb)
 clear hx hE htab hgp
 go_enter Tryz.func5,Tryz.ntmps5
 go_upto_region 1 with fail
 obtain⟨X2,hX2⟩:∃X,X=w.heap.size:=⟨_,rfl⟩
 have HS:Hid ((Below w.heap.size w (w.alloc (.cells #[.int .i64 xd,.slice A xt.length c] 24))/\w.heap.size<=(w.alloc (.cells #[.int .i64 xd,.slice A xt.length c] 24)).heap.size)/\jh (w.alloc (.cells #[.int .i64 xd,.slice A xt.length c] 24)) X2 24 #[.int .i64 xd,.slice A xt.length c]):=
  ja ⟨⟨(Below.refl _ _).alloc (Nat.le_refl _) _,by simp⟩,hX2▸jh.new w _ _⟩
 rw[<-hX2] at ⊢
 clear hX2
 generalize w.alloc (.cells #[.int .i64 xd,.slice A xt.length c] 24)=W1 at *
 have hrow:(W1.alloc (.cells #[.int .i64 xd,.slice A xt.length c] 24)).ownsRow W1.heap.size 24 2 (.slice (some ⟨W1.heap.size,0,none⟩) 1 1) 1 (jB ([(xd,(A,xt.length,c))].map jby8)):=
  World.ownsRow_lit (base:=W1.heap.size) (e:=24) (size:=2) W1 #[.int .i64 xd,.slice A xt.length c] 1 (Nat.le_refl _) (by unfold maxLen;omega) rfl
 have HWD:=ja (jan4 (some ⟨W1.heap.size,0,none⟩) 1 1 _ [(xd,(A,xt.length,c))] _ (Rq.of (Rd.of_own hrow)))
 have HS1:=ja (Kept.keep (S:=λW=>((Below w.heap.size w W/\w.heap.size<=W.heap.size)/\jh W X2 24 #[.int .i64 xd,.slice A xt.length c])) _ _ HS.o ((Below.refl _ _).alloc (Nat.le_refl _) (.cells #[.int .i64 xd,.slice A xt.length c] 24)))
 clear hrow
 obtain⟨x0,x1,_,_⟩:=(HS.o.2).two
 cases hw8:jav3 [(xd,(A,xt.length,c))]
 rotate_left 1
 focus
  rw[hw8] at HWD
  have HB1:=ja HS1.o.1
  go_wp2_with (first
   | (go_at_call 8;refine(HK.o _ HB1.o.1).mono ?_;rintro e wz ⟨rfl,hbz⟩
      have HBe:=ja (HB1.o.1.trans (hbz.mono HB1.o.2))
      clear hbz)
   | (go_at_call 7;refine HWD.o.mono ?_;rintro e w1 ⟨rfl,hw⟩;subst w1))
  all_goals
   go_ret
   exact⟨rfl,HBe.o⟩
 rw[hw8] at HWD
 have h8:xt.length<=8:=by
  have h:=hw8
  simp[jav3] at h
  exact h
 go_upto_region 3 with(first
  | (go_at_call 7;refine HWD.o.mono ?_;rintro e w1 ⟨rfl,hw⟩;subst w1))
 clear x0 x1 HWD hw8 HS
 generalize W1.alloc (.cells #[.int .i64 xd,.slice A xt.length c] 24)=W2 at *
 have HS:=ja HS1.o
 clear HS1
 have HOX:=ja (λW (hb:Below w.heap.size w W) (hB:w.heap.size<=W.heap.size)=>jar6 xd A xt.length c w.heap.size xt W (HPX.o W hb) hB (by omega))
 clear h8
 obtain⟨⟨wh,ms,⟨rd,rt⟩,code⟩,hg⟩:∃r,zq xd xt most=r:=⟨_,rfl⟩
 have HG:=ja hg
 clear hg
 obtain⟨x0,x1,_,_⟩:=(HS.o.2).two
 go_upto_region 4 with(first
  | (go_at_call 10;refine(HOX.o W2 HS.o.1.1 HS.o.1.2).mono ?_;rintro e w101 ⟨A9,n9,c9,rfl,ho,hb⟩
     have HS_0:=ja (Kept.keep (S:=λW=>((Below w.heap.size w W/\w.heap.size<=W.heap.size)/\jh W X2 24 #[.int .i64 xd,.slice A xt.length c])) _ _ HS.o hb)
     have HC:=ja (jaz8 xd A9 n9 c9 w101.heap.size xt most w101 (ZF ho) (Nat.le_refl _))
     rw[HG.o] at HC
     clear ho
     clear hb)
  | (go_at_call 18;refine(HC.o).mono ?_;rintro e w102 ⟨A5,c5,L5,B5,m5,k5,rfl,hp,hf,ho,hb⟩
     have HS_1:=ja (Kept.keep (S:=λW=>((Below w.heap.size w W/\w.heap.size<=W.heap.size)/\jh W X2 24 #[.int .i64 xd,.slice A xt.length c])) _ _ HS_0.o hb)
     have HP:=ja (zc.of hp)
     have HT:=ja (Rq.of (ZF ho))
     have HF5:=ja hf
     clear hp ho hf HC
     clear hb))
 clear x0 x1
 try clear HS_0
 have HS3:=ja (And.intro (And.intro (Kept.keep (S:=λW=>((Below w.heap.size w W/\w.heap.size<=W.heap.size)/\jh W X2 24 #[.int .i64 xd,.slice A xt.length c])) _ _ HS_1.o (((Below.refl _ _).alloc (Nat.le_refl _) (.cells #[.int .i64 wh,.slice A5 L5.length c5] 43)).alloc (by simp) (.cells #[.int .i64 rd,.slice B5 m5 k5] 24))) (Kept.keep (S:=λW=>OdQ w102.heap.size wh A5 L5.length c5 L5 W) _ _ (OdQ.new (wh:=wh) HP.o) ((Below.refl _ _).alloc (Nat.le_refl _) (.cells #[.int .i64 rd,.slice B5 m5 k5] 24)))) (VrQ.new (d:=rd) (Rq.more (Rq.alloc HT.o (Nat.le_refl _) (.cells #[.int .i64 wh,.slice A5 L5.length c5] 43)) (by simp))))
 rw[show(w102.alloc (.cells #[.int .i64 wh,.slice A5 L5.length c5] 43)).heap.size=w102.heap.size+1 by rw[World.size_alloc]] at HS3
 obtain⟨X5,hXo⟩:∃X,X=w102.heap.size:=⟨_,rfl⟩
 rw[<-hXo] at HS3 ⊢
 obtain⟨X6,hXn⟩:∃X,X=X5+1:=⟨_,rfl⟩
 rw[<-hXn] at HS3 ⊢
 clear hXo hXn HS HP HT HS_1
 generalize (w102.alloc (.cells #[.int .i64 wh,.slice A5 L5.length c5] 43)).alloc (.cells #[.int .i64 rd,.slice B5 m5 k5] 24)=W3 at *
 have HS:=ja HS3.o
 clear HS3
 obtain⟨x0,x1,_,_⟩:=(HS.o.1.1.2).two
 have HC:=ja (zt0 xd A xt.length c w.heap.size xt most W3 (HPX.o _ HS.o.1.1.1.1) HS.o.1.1.1.2)
 rw[HG.o] at HC
 go_upto_region 5 with(first
  | (go_at_call 19;refine(HC.o).mono ?_;rintro e w103 ⟨A8,c8,L8,B8,m8,k8,rfl,hp,hf,ht,hb⟩
     have HS_0:=ja (Kept.keep (S:=λW=>((((Below w.heap.size w W/\w.heap.size<=W.heap.size)/\jh W X2 24 #[.int .i64 xd,.slice A xt.length c])/\OdQ X5 wh A5 L5.length c5 L5 W)/\VrQ X6 rd B5 m5 k5 rt W)) _ _ HS.o hb)
     have HP:=ja (zc.of hp)
     have HT:=ja ht
     have HF8:=ja (HF5.o.trans hf.symm)
     clear hp ht hf HC
     clear hb))
 clear x0 x1
 have HS3:=ja (And.intro (And.intro (Kept.keep (S:=λW=>((((Below w.heap.size w W/\w.heap.size<=W.heap.size)/\jh W X2 24 #[.int .i64 xd,.slice A xt.length c])/\OdQ X5 wh A5 L5.length c5 L5 W)/\VrQ X6 rd B5 m5 k5 rt W)) _ _ HS_0.o (((Below.refl _ _).alloc (Nat.le_refl _) (.cells #[.int .i64 wh,.slice A8 L8.length c8] 43)).alloc (by simp) (.cells #[.int .i64 rd,.slice B8 m8 k8] 24))) (Kept.keep (S:=λW=>OdQ w103.heap.size wh A8 L8.length c8 L8 W) _ _ (OdQ.new (wh:=wh) HP.o) ((Below.refl _ _).alloc (Nat.le_refl _) (.cells #[.int .i64 rd,.slice B8 m8 k8] 24)))) (VrQ.new (d:=rd) (Rq.more (Rq.alloc HT.o (Nat.le_refl _) (.cells #[.int .i64 wh,.slice A8 L8.length c8] 43)) (by simp))))
 rw[show(w103.alloc (.cells #[.int .i64 wh,.slice A8 L8.length c8] 43)).heap.size=w103.heap.size+1 by rw[World.size_alloc]] at HS3
 obtain⟨X8,hXo⟩:∃X,X=w103.heap.size:=⟨_,rfl⟩
 rw[<-hXo] at HS3 ⊢
 obtain⟨X9,hXn⟩:∃X,X=X8+1:=⟨_,rfl⟩
 rw[<-hXn] at HS3 ⊢
 clear hXo hXn HS HP HT HS_0
 generalize (w103.alloc (.cells #[.int .i64 wh,.slice A8 L8.length c8] 43)).alloc (.cells #[.int .i64 rd,.slice B8 m8 k8] 24)=W4 at *
 have HS:=ja HS3.o
 clear HS3
 obtain⟨o0,o1,_,_⟩:=(HS.o.1.1.1.2.1).two
 obtain⟨p0,p1,_,_⟩:=(HS.o.1.2.1).two
 obtain⟨q0,q1,_,_⟩:=(HS.o.1.1.2.1).two
 obtain⟨r0,r1,_,_⟩:=(HS.o.2.1).two
 have HO:=ja (jcc1 wh A5 L5.length c5 L5 wh A8 L8.length c8 L8 W4.heap.size W4 HS.o.1.1.1.2.read HS.o.1.2.read (Nat.le_refl _))
 rw[decide_eq_true HF8.o,decide_eq_true (rfl:wh=wh)] at HO
 have HBk:=ja HS.o.1.1.1.1.1
 go_wp2_with (first
  | (go_at_call 8;refine(HK.o _ HB12.o).mono ?_;rintro e wz ⟨rfl,hbz⟩
     have HBe:=ja (HB12.o.trans (hbz.mono HB12.o.size))
     clear hbz)
  | (go_at_call 21;refine HSA.o.mono ?_;rintro e w12 ⟨rfl,hb⟩
     have HB12:=ja (HS11.o.1.1.1.1.1.1.trans (hb.mono HS11.o.1.1.1.1.1.2))
     clear hb)
  | (go_at_call 20;refine HO.o.mono ?_;rintro e w11 ⟨rfl,hb⟩
     have HS11:=ja (Kept.keep (S:=λW=>((((((Below w.heap.size w W/\w.heap.size<=W.heap.size)/\jh W X2 24 #[.int .i64 xd,.slice A xt.length c])/\OdQ X5 wh A5 L5.length c5 L5 W)/\VrQ X6 rd B5 m5 k5 rt W)/\OdQ X8 wh A8 L8.length c8 L8 W)/\VrQ X9 rd B8 m8 k8 rt W)) _ _ HS.o hb)
     have HSA:=ja (jad6 rd B5 m5 k5 rt rd B8 m8 k8 rt w11.heap.size w11 (HS11.o.1.1.2.read) (HS11.o.2.read) (Nat.le_refl _))
     rw[decide_eq_true (rfl:rt=rt),decide_eq_true (rfl:rd=rd)] at HSA
     clear q0 q1 r0 r1
     obtain⟨q0,q1,_,_⟩:=(HS11.o.1.1.2.1).two
     obtain⟨r0,r1,_,_⟩:=(HS11.o.2.1).two
     clear hb))
 all_goals
  go_ret
  exact⟨rfl,HBe.o⟩
