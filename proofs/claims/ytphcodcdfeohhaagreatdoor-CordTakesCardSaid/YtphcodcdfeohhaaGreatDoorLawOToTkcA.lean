import Derived.Test.YtphcodcdfeohhaaGreatDoorKnowToCardB
import Derived.Test.YtphcodcdfeohhaaGreatDoorTkrB
import Derived.Test.YtphcodcdfeohhaaGreatDoorCordGToWidA
import Derived.Test.YtphcodcdfeohhaaGreatDoorKnownToFloK
set_option linter.unusedVariables false
set_option linter.unusedSimpArgs false
namespace Go.Proofs.YtphcodcdfeohhaaGreatDoor
set_option maxRecDepth 100000
set_option maxHeartbeats 16000000
open Go.RowKit
theorem jdz8{l:List PieceV}{k:Nat}(hk:k<l.length):(l.map PieceV.flat).take (k+1)=(l.map PieceV.flat).take k++[l[k].flat]:=by
 have h:k<(l.map PieceV.flat).length:=by simpa using hk
 rw[List.take_succ_eq_append_getElem h,List.getElem_map]
theorem jft0 (xw:Int) (A:Option Addr) (n c:Nat) (xl:List PieceV) (yw:Int) (A2:Option Addr) (n2 c2:Nat) (yl:List PieceV) (B:Nat) (w:World) (hx:jn1 w B A n c xl) (hy:jn1 w B A2 n2 c2 yl) (hB:B<=w.heap.size) :
  Calls Tryz.prog 20 #[.agg #[.int .i64 xw,.slice A n c],.agg #[.int .i64 yw,.slice A2 n2 c2]] w fun e w'=>e=.returned (.bool (decide (xw=yw)&&decide (xl.map PieceV.flat=yl.map PieceV.flat)))/\Below w.heap.size w w':=by
 have hlx:=hx.len
 have hly:=hy.len
 subst hlx
 subst hly
 have hnx:=hx.1.nmax
 have hny:=hy.1.nmax
 obtain⟨w0,hw0⟩:∃w0,w0=(w.alloc (.cells #[.int .i64 xw,.slice A xl.length c] 43)).alloc (.cells #[.int .i64 yw,.slice A2 yl.length c2] 43):=⟨_,rfl⟩
 have hz0:w0.heap.size=w.heap.size+2:=by rw[hw0];simp
 have h01:Below w.heap.size w w0:=by rw[hw0];exact((Below.refl _ _).alloc (Nat.le_refl _) _).alloc (by simp) _
 have HX0:Hid (Blk w0 w.heap.size 43 #[.int .i64 xw,.slice A xl.length c]):=ja0 (by rw[hw0];exact(Blk.new w _ _).alloc _)
 have HY0:Hid (Blk w0 (w.heap.size+1) 43 #[.int .i64 yw,.slice A2 yl.length c2]):=ja0 (by
  rw[hw0]
  have h:=Blk.new (w.alloc (.cells #[.int .i64 xw,.slice A xl.length c] 43)) 43 #[.int .i64 yw,.slice A2 yl.length c2]
  rwa [World.size_alloc] at h)
 have HTX:=ja0 (jn1.below hx (h01.mono hB));have HTY:=ja0 (jn1.below hy (h01.mono hB))
 have HB0:=ja0 h01
 clear hx hy h01
 go_enter Tryz.func20,Tryz.ntmps20
 go_upto_region 1 with fail
 rw[<-hw0]
 clear hw0
 obtain⟨x0,x1,_,_⟩:=HX0.out.two
 obtain⟨y0,y1,_,_⟩:=HY0.out.two
 by_cases hd:xw=yw
 ·by_cases hl:(xl.length:Int)=(yl.length:Int)
  ·go_wp2
   go_loopw [5] (fun i W=>∃(k:Nat),k<=xl.length/\i=.int .i64 k/\(xl.map PieceV.flat).take k=(yl.map PieceV.flat).take k/\∃q,W=w0.drewN q) (fun i _=>xl.length-(intOf i).toNat)
   case atStart=>exact⟨0,by omega,rfl,rfl,0,rfl⟩
   case round=>
    obtain⟨k,hk,rfl,hpre,q,rfl⟩:=hrel
    have HPRE:=ja0 hpre
    have HX:=ja0 (HX0.out.drewN q);have HY:=ja0 (HY0.out.drewN q)
    have HTXq:Hid (jn1 (w0.drewN q) B A xl.length c xl):=ja0 HTX.out
    have HTYq:Hid (jn1 (w0.drewN q) B A2 yl.length c2 yl):=ja0 HTY.out
    have HBq:Hid (Below w.heap.size w (w0.drewN q)):=ja0 (jc8 HB0.out q)
    have hzq:(w0.drewN q).heap.size=w.heap.size+2:=hz0
    have HDD:=ja0 (fun p=>dd w0 q p)
    clear hpre x0 x1 y0 y1
    generalize w0.drewN q=W at *
    obtain⟨x0,x1,_,_⟩:=HX.out.two
    obtain⟨y0,y1,_,_⟩:=HY.out.two
    by_cases hkl:(k:Int)<(xl.length:Int)
    ·have hk1:k<xl.length:=by omega
     have hk2:k<yl.length:=by omega
     obtain⟨ad,rfl,-,ha0,ha1⟩:=HTXq.out.at_ hk1
     obtain⟨ad2,rfl,-,hb0,hb1⟩:=HTYq.out.at_ hk2
     have hI1:=HTXq.out.2 xl[k] (List.getElem_mem hk1)
     have hI2:=HTYq.out.2 yl[k] (List.getElem_mem hk2)
     have hky:(k:Int)<(yl.length:Int):=by omega
     have htk1:=jdz8 hk1
     have htk2:=jdz8 hk2
     have HNE:=ja0 (show xl[k].flat≠yl[k].flat->¬xl.map PieceV.flat=yl.map PieceV.flat from fun h e=>h (by
      have h1:(xl.map PieceV.flat)[k]?=(yl.map PieceV.flat)[k]?:=by rw[e]
      rw[List.getElem?_map,List.getElem?_map,List.getElem?_eq_getElem hk1,List.getElem?_eq_getElem hk2] at h1
      simpa using h1))
     generalize xl[k]=px at *
     generalize yl[k]=py at *
     obtain⟨mx,Ax,nx,cx,xs⟩:=px
     obtain⟨my,Ay,ny,cy,ys⟩:=py
     dsimp only at ha0 ha1 hb0 hb1 hI1 hI2
     have HLI:=ja0 (fun q=>jbv2 Ax nx cx xs Ay ny cy ys B (W.drewN q) hI1 hI2 (by show B<=W.heap.size;omega))
     by_cases hmm:mx=my
     ·subst hmm
      by_cases hxy:xs=ys
      ·rw[decide_eq_true hxy] at HLI
       have HTK:Hid ((xl.map PieceV.flat).take (k+1)=(yl.map PieceV.flat).take (k+1)):=ja0 (by rw[htk1,htk2,HPRE.out,hxy];rfl)
       clear htk1 htk2 hxy hI1 hI2 HNE
       go_wp2
       go_quiet (first|(go_at_call 24;refine Calls.quiet_of (HLI.out _)))
       go_wp2
       obtain⟨q2,hq2⟩:=HDD.out nq
       exact⟨⟨k+1,by omega,by go_num,HTK.out,q2,hq2⟩,by simp[intOf];omega⟩
      ·rw[decide_eq_false hxy] at HLI
       have hne:=HNE.out (fun e=>hxy (by simpa [PieceV.flat] using e))
       have HNE2:=ja0 hne
       clear htk1 htk2 hxy hI1 hI2 HNE hne
       go_wp2
       go_quiet (first|(go_at_call 24;refine Calls.quiet_of (HLI.out _)))
       go_wp2
       go_ret
       exact⟨by simp[HNE2.out],jc8 HBq.out _⟩
     ·have hne:=HNE.out (fun e=>hmm (by simp[PieceV.flat] at e;exact e.1))
      have HNE2:=ja0 hne
      have hdm:(mx !=my)=true:=by simpa using hmm
      clear htk1 htk2 hI1 hI2 HNE hne HLI
      go_wp2
      go_quiet (fail)
      go_wp2
      go_ret
      exact⟨by simp[HNE2.out],jc8 HBq.out _⟩
    ·obtain rfl:k=xl.length:=by omega
     go_wp2
     go_ret
     have hpre:=HPRE.out
     rw[List.take_of_length_le (by simp),List.take_of_length_le (by simp;omega)] at hpre
     exact⟨by simp[hd,hpre],HBq.out⟩
  ·go_wp2
   go_ret
   have hne:¬xl.map PieceV.flat=yl.map PieceV.flat:=fun e=>hl (by have h5:=congrArg List.length e;simp only[List.length_map] at h5;omega)
   exact⟨by simp[hd,hne],HB0.out⟩
 ·go_wp2
  go_ret
  exact⟨by simp[hd],HB0.out⟩
open Go Go.RowKit
def OdQ(X:Nat)(wh:Int)(A:Option Addr)(n c:Nat)(L:List PieceV)(W:World):Prop:=Blk W X 43 #[.int .i64 wh,.slice A n c]/\∃B,B<=W.heap.size/\jn1 W B A n c L
instance {X:Nat}{wh:Int}{A:Option Addr}{n c:Nat}{L:List PieceV}:Kept (OdQ X wh A n c L):=⟨fun _ _ h hb=>⟨h.1.below hb h.1.lt,h.2.elim fun B h2=>⟨B,Nat.le_trans h2.1 hb.size,h2.2.below (hb.mono h2.1)⟩⟩⟩
theorem OdQ.read{X:Nat}{wh:Int}{A:Option Addr}{n c:Nat}{L:List PieceV}{W:World}(h:OdQ X wh A n c L W):jn1 W W.heap.size A n c L:=by
 obtain⟨_,B,hB,h2⟩:=h
 exact h2.more hB
theorem OdQ.new{W:World}{wh:Int}{A:Option Addr}{n c:Nat}{L:List PieceV}(h:jn1 W W.heap.size A n c L):OdQ W.heap.size wh A n c L (W.alloc (.cells #[.int .i64 wh,.slice A n c] 43)):=⟨Blk.new W _ _,W.heap.size,by simp,h.alloc (Nat.le_refl _) _⟩
theorem jfr9 (xd:Int) (A:Option Addr) (n c:Nat) (xt:List (Int×Int)) (most:Int) (w:World) (hx:jas0 w w.heap.size A n c xt)
  (hE : jm0 w) (htab : Lib.TabIs Tryz.prog w "internal/strconv.uint64pow10" .u64 Lib.pow10Tab) :
  Calls Tryz.prog 5 #[.agg #[.int .i64 xd,.slice A n c],.int .i64 most] w fun e w'=>e=.returned (.bool true)/\Below w.heap.size w w':=by
 obtain⟨gp,hgp⟩:=Option.isSome_iff_exists.1 Tryz.pow10g
 have HK:Hid (∀W,Below w.heap.size w W->Calls Tryz.prog 8 #[] W fun e w'=>e=.returned (.bool true)/\Below W.heap.size W w'):=ja0 (fun W hW=>jcs4 W (hE.below hW (Nat.le_refl _)) (jp5 hgp htab hW))
 have hl:=hx.len
 subst hl
 have HPX:=ja0 (fun W (hb:Below w.heap.size w W)=>Rq.below hx hb)
 clear hx hE htab hgp
 go_enter Tryz.func5,Tryz.ntmps5
 go_upto_region 1 with fail
 obtain⟨X2,hX2⟩:∃X,X=w.heap.size:=⟨_,rfl⟩
 have HS:Hid ((Below w.heap.size w (w.alloc (.cells #[.int .i64 xd,.slice A xt.length c] 24))/\w.heap.size<=(w.alloc (.cells #[.int .i64 xd,.slice A xt.length c] 24)).heap.size)/\Blk (w.alloc (.cells #[.int .i64 xd,.slice A xt.length c] 24)) X2 24 #[.int .i64 xd,.slice A xt.length c]):=
  ja0 ⟨⟨(Below.refl _ _).alloc (Nat.le_refl _) _,by simp⟩,hX2▸Blk.new w _ _⟩
 rw[<-hX2] at ⊢
 clear hX2
 generalize w.alloc (.cells #[.int .i64 xd,.slice A xt.length c] 24)=W1 at *
 have hrow:(W1.alloc (.cells #[.int .i64 xd,.slice A xt.length c] 24)).ownsRow W1.heap.size 24 2 (.slice (some ⟨W1.heap.size,0,none⟩) 1 1) 1 (jb7 ([(xd,(A,xt.length,c))].map jfs4)):=
  World.ownsRow_lit (base:=W1.heap.size) (e:=24) (size:=2) W1 #[.int .i64 xd,.slice A xt.length c] 1 (Nat.le_refl _) (by unfold maxLen;omega) rfl
 have HWD:=ja0 (jfk7 (some ⟨W1.heap.size,0,none⟩) 1 1 _ [(xd,(A,xt.length,c))] _ (Rq.of (Rd.of_own hrow)))
 have HS1:=ja0 (Kept.keep (S:=fun W=>((Below w.heap.size w W/\w.heap.size<=W.heap.size)/\Blk W X2 24 #[.int .i64 xd,.slice A xt.length c])) _ _ HS.out ((Below.refl _ _).alloc (Nat.le_refl _) (.cells #[.int .i64 xd,.slice A xt.length c] 24)))
 clear hrow
 obtain⟨x0,x1,_,_⟩:=(HS.out.2).two
 cases hw8:jfm9 [(xd,(A,xt.length,c))]
 rotate_left 1
 focus
  rw[hw8] at HWD
  have HB1:=ja0 HS1.out.1
  go_wp2_with (first
   | (go_at_call 8;refine(HK.out _ HB1.out.1).mono ?_;rintro e wz ⟨rfl,hbz⟩
      have HBe:=ja0 (HB1.out.1.trans (hbz.mono HB1.out.2))
      clear hbz)
   | (go_at_call 7;refine HWD.out.mono ?_;rintro e w1 ⟨rfl,hw⟩;subst w1))
  all_goals
   go_ret
   exact⟨rfl,HBe.out⟩
 rw[hw8] at HWD
 have h8:xt.length<=8:=by
  have h:=hw8
  simp[jfm9] at h
  exact h
 go_upto_region 3 with(first
  | (go_at_call 7;refine HWD.out.mono ?_;rintro e w1 ⟨rfl,hw⟩;subst w1))
 clear x0 x1 HWD hw8 HS
 generalize W1.alloc (.cells #[.int .i64 xd,.slice A xt.length c] 24)=W2 at *
 have HS:=ja0 HS1.out
 clear HS1
 have HOX:=ja0 (fun W (hb:Below w.heap.size w W) (hB:w.heap.size<=W.heap.size)=>js8 xd A xt.length c w.heap.size xt W (HPX.out W hb) hB (by omega))
 clear h8
 obtain⟨⟨wh,ms,⟨rd,rt⟩,code⟩,hg⟩:∃r,jba9 xd xt most=r:=⟨_,rfl⟩
 have HG:=ja0 hg
 clear hg
 obtain⟨x0,x1,_,_⟩:=(HS.out.2).two
 go_upto_region 4 with(first
  | (go_at_call 10;refine(HOX.out W2 HS.out.1.1 HS.out.1.2).mono ?_;rintro e w101 ⟨A9,n9,c9,rfl,ho,hb⟩
     have HS_0:=ja0 (Kept.keep (S:=fun W=>((Below w.heap.size w W/\w.heap.size<=W.heap.size)/\Blk W X2 24 #[.int .i64 xd,.slice A xt.length c])) _ _ HS.out hb)
     have HC:=ja0 (greedy_any xd A9 n9 c9 w101.heap.size xt most w101 (jc2 ho) (Nat.le_refl _))
     rw[HG.out] at HC
     clear ho
     clear hb)
  | (go_at_call 18;refine(HC.out).mono ?_;rintro e w102 ⟨A5,c5,L5,B5,m5,k5,rfl,hp,hf,ho,hb⟩
     have HS_1:=ja0 (Kept.keep (S:=fun W=>((Below w.heap.size w W/\w.heap.size<=W.heap.size)/\Blk W X2 24 #[.int .i64 xd,.slice A xt.length c])) _ _ HS_0.out hb)
     have HP:=ja0 (jn1.of hp)
     have HT:=ja0 (Rq.of (jc2 ho))
     have HF5:=ja0 hf
     clear hp ho hf HC
     clear hb))
 clear x0 x1
 try clear HS_0
 have HS3:=ja0 (And.intro (And.intro (Kept.keep (S:=fun W=>((Below w.heap.size w W/\w.heap.size<=W.heap.size)/\Blk W X2 24 #[.int .i64 xd,.slice A xt.length c])) _ _ HS_1.out (((Below.refl _ _).alloc (Nat.le_refl _) (.cells #[.int .i64 wh,.slice A5 L5.length c5] 43)).alloc (by simp) (.cells #[.int .i64 rd,.slice B5 m5 k5] 24))) (Kept.keep (S:=fun W=>OdQ w102.heap.size wh A5 L5.length c5 L5 W) _ _ (OdQ.new (wh:=wh) HP.out) ((Below.refl _ _).alloc (Nat.le_refl _) (.cells #[.int .i64 rd,.slice B5 m5 k5] 24)))) (VrQ.new (d:=rd) (Rq.more (Rq.alloc HT.out (Nat.le_refl _) (.cells #[.int .i64 wh,.slice A5 L5.length c5] 43)) (by simp))))
 rw[show(w102.alloc (.cells #[.int .i64 wh,.slice A5 L5.length c5] 43)).heap.size=w102.heap.size+1 by rw[World.size_alloc]] at HS3
 obtain⟨X5,hXo⟩:∃X,X=w102.heap.size:=⟨_,rfl⟩
 rw[<-hXo] at HS3 ⊢
 obtain⟨X6,hXn⟩:∃X,X=X5+1:=⟨_,rfl⟩
 rw[<-hXn] at HS3 ⊢
 clear hXo hXn HS HP HT HS_1
 generalize (w102.alloc (.cells #[.int .i64 wh,.slice A5 L5.length c5] 43)).alloc (.cells #[.int .i64 rd,.slice B5 m5 k5] 24)=W3 at *
 have HS:=ja0 HS3.out
 clear HS3
 obtain⟨x0,x1,_,_⟩:=(HS.out.1.1.2).two
 have HC:=ja0 (jff9 xd A xt.length c w.heap.size xt most W3 (HPX.out _ HS.out.1.1.1.1) HS.out.1.1.1.2)
 rw[HG.out] at HC
 go_upto_region 5 with(first
  | (go_at_call 19;refine(HC.out).mono ?_;rintro e w103 ⟨A8,c8,L8,B8,m8,k8,rfl,hp,hf,ht,hb⟩
     have HS_0:=ja0 (Kept.keep (S:=fun W=>((((Below w.heap.size w W/\w.heap.size<=W.heap.size)/\Blk W X2 24 #[.int .i64 xd,.slice A xt.length c])/\OdQ X5 wh A5 L5.length c5 L5 W)/\VrQ X6 rd B5 m5 k5 rt W)) _ _ HS.out hb)
     have HP:=ja0 (jn1.of hp)
     have HT:=ja0 ht
     have HF8:=ja0 (HF5.out.trans hf.symm)
     clear hp ht hf HC
     clear hb))
 clear x0 x1
 have HS3:=ja0 (And.intro (And.intro (Kept.keep (S:=fun W=>((((Below w.heap.size w W/\w.heap.size<=W.heap.size)/\Blk W X2 24 #[.int .i64 xd,.slice A xt.length c])/\OdQ X5 wh A5 L5.length c5 L5 W)/\VrQ X6 rd B5 m5 k5 rt W)) _ _ HS_0.out (((Below.refl _ _).alloc (Nat.le_refl _) (.cells #[.int .i64 wh,.slice A8 L8.length c8] 43)).alloc (by simp) (.cells #[.int .i64 rd,.slice B8 m8 k8] 24))) (Kept.keep (S:=fun W=>OdQ w103.heap.size wh A8 L8.length c8 L8 W) _ _ (OdQ.new (wh:=wh) HP.out) ((Below.refl _ _).alloc (Nat.le_refl _) (.cells #[.int .i64 rd,.slice B8 m8 k8] 24)))) (VrQ.new (d:=rd) (Rq.more (Rq.alloc HT.out (Nat.le_refl _) (.cells #[.int .i64 wh,.slice A8 L8.length c8] 43)) (by simp))))
 rw[show(w103.alloc (.cells #[.int .i64 wh,.slice A8 L8.length c8] 43)).heap.size=w103.heap.size+1 by rw[World.size_alloc]] at HS3
 obtain⟨X8,hXo⟩:∃X,X=w103.heap.size:=⟨_,rfl⟩
 rw[<-hXo] at HS3 ⊢
 obtain⟨X9,hXn⟩:∃X,X=X8+1:=⟨_,rfl⟩
 rw[<-hXn] at HS3 ⊢
 clear hXo hXn HS HP HT HS_0
 generalize (w103.alloc (.cells #[.int .i64 wh,.slice A8 L8.length c8] 43)).alloc (.cells #[.int .i64 rd,.slice B8 m8 k8] 24)=W4 at *
 have HS:=ja0 HS3.out
 clear HS3
 obtain⟨o0,o1,_,_⟩:=(HS.out.1.1.1.2.1).two
 obtain⟨p0,p1,_,_⟩:=(HS.out.1.2.1).two
 obtain⟨q0,q1,_,_⟩:=(HS.out.1.1.2.1).two
 obtain⟨r0,r1,_,_⟩:=(HS.out.2.1).two
 have HO:=ja0 (jft0 wh A5 L5.length c5 L5 wh A8 L8.length c8 L8 W4.heap.size W4 HS.out.1.1.1.2.read HS.out.1.2.read (Nat.le_refl _))
 rw[decide_eq_true HF8.out,decide_eq_true (rfl:wh=wh)] at HO
 have HBk:=ja0 HS.out.1.1.1.1.1
 go_wp2_with (first
  | (go_at_call 8;refine(HK.out _ HB12.out).mono ?_;rintro e wz ⟨rfl,hbz⟩
     have HBe:=ja0 (HB12.out.trans (hbz.mono HB12.out.size))
     clear hbz)
  | (go_at_call 21;refine HSA.out.mono ?_;rintro e w12 ⟨rfl,hb⟩
     have HB12:=ja0 (HS11.out.1.1.1.1.1.1.trans (hb.mono HS11.out.1.1.1.1.1.2))
     clear hb)
  | (go_at_call 20;refine HO.out.mono ?_;rintro e w11 ⟨rfl,hb⟩
     have HS11:=ja0 (Kept.keep (S:=fun W=>((((((Below w.heap.size w W/\w.heap.size<=W.heap.size)/\Blk W X2 24 #[.int .i64 xd,.slice A xt.length c])/\OdQ X5 wh A5 L5.length c5 L5 W)/\VrQ X6 rd B5 m5 k5 rt W)/\OdQ X8 wh A8 L8.length c8 L8 W)/\VrQ X9 rd B8 m8 k8 rt W)) _ _ HS.out hb)
     have HSA:=ja0 (jfh9 rd B5 m5 k5 rt rd B8 m8 k8 rt w11.heap.size w11 (HS11.out.1.1.2.read) (HS11.out.2.read) (Nat.le_refl _))
     rw[decide_eq_true (rfl:rt=rt),decide_eq_true (rfl:rd=rd)] at HSA
     clear q0 q1 r0 r1
     obtain⟨q0,q1,_,_⟩:=(HS11.out.1.1.2.1).two
     obtain⟨r0,r1,_,_⟩:=(HS11.out.2.1).two
     clear hb))
 all_goals
  go_ret
  exact⟨rfl,HBe.out⟩
end Go.Proofs.YtphcodcdfeohhaaGreatDoor
