import Derived.Test.YtphcodcdfeohhaaGreatDoorKnowToCardB
import Derived.Test.YtphcodcdfeohhaaGreatDoorCordW
set_option linter.all false
namespace Go.Proofs.YtphcodcdfeohhaaGreatDoor
set_option maxRecDepth 100000
set_option maxHeartbeats 8000000
open Go.RowKit
theorem jbn0 (w : World) (hE : Jm w) (htab : Lib.TabIs Tryz.prog w "internal/strconv.uint64pow10" .u64 Lib.pow10Tab) :
  Calls Tryz.prog 8 #[] w λe w'=>e=.returned (.bool true)/\Below w.heap.size w w':=by
 have HPA:=ja (jbr0 ⟨#[49,43,49,47,51]⟩ w hE htab)
 rw[jam9] at HPA
 obtain⟨gp,hgp⟩:=Option.isSome_iff_exists.1 Tryz.pow10g
 have HTAB:=ja (λW (hb:Below w.heap.size w W)=>JV hgp htab hb)
 have HOFF:=ja (λ(A:Option Addr) (n c B:Nat) (W:World) hx hB=>jcj5 408 A n c [(577,1)] 2 1000000 B W hx hB)
 have HNEAR:=ja (λW=>jap4 2 100 W)
 rw[jba4] at HNEAR
 have HNUM1:=ja (λW=>qr 577 408 W)
 have HNUM2:=ja (λW=>qr 13 15 W)
 have HNUM3:=ja (λW=>qr 223 71 W)
 have HNUM4:=ja (λW=>qr 22 7 W)
 clear hE htab
 go_enter Tryz.func8,Tryz.ntmps8
 go_wp2_with (first
  | (go_at_call 30;refine HPA.o.mono ?_;rintro e w1 ⟨A1,n1,c1,l1,rfl,hp1,hl1,ho1,hb1⟩
     have HN1:=ja (jh.new w1 43 #[.int .i64 1,.slice A1 n1 c1])
     have HP1:=ja (hp1.alloc (Nat.le_refl _) (.cells #[.int .i64 1,.slice A1 n1 c1] 43))
     have HB1:=ja (hb1.alloc hb1.size (.cells #[.int .i64 1,.slice A1 n1 c1] 43))
     have HL1:=ja hl1
     have HZ1:=ja hb1.size
     obtain⟨x0,x1,xf0,xf1⟩:=HN1.o.two
     have HCH:=ja (jbk9 1 A1 n1 c1 w1.heap.size l1 2 2 (w1.alloc (.cells #[.int .i64 1,.slice A1 n1 c1] 43)) HP1.o (by simp))
     rw[hl1,jam8] at HCH
     have HOFP:=ja (hp1.off_of (Nat.le_refl _))
     clear hp1 hl1 ho1 hb1 HPA)
  | (go_at_call 31;refine HCH.o.mono ?_;rintro e w2 ⟨A2,n2,c2,l2,rfl,hp2,hl2,ho2,hb2⟩
     (try simp only[World.size_alloc] at hb2 ho2)
     have HN2:=ja (HN1.o.below hb2 (by simp))
     have HB2:=ja (HB1.o.trans (hb2.mono (by have:=HB1.o.size;simpa using this)))
     have hof2:=ho2 w1.heap.size (by simp) HOFP.o
     have HP2:=ja ((hp2.off_set (i:=0) hof2 (.int .i64 1)).off_set (i:=1) hof2 (.slice A2 n2 c2))
     have HL2:=ja hl2
     obtain⟨y0,y1,yf0,yf1⟩:=HN2.o.two
     dsimp only at hl2
     have HL2:=ja hl2
     have hz2:w.heap.size<=w2.heap.size:=HB2.o.size
     obtain⟨V,hV⟩:∃V,V=(w2.setCell ⟨w1.heap.size,0,none⟩ (.int .i64 1)).setCell ⟨w1.heap.size,1,none⟩ (.slice A2 n2 c2):=⟨_,rfl⟩
     have hBV:Below w.heap.size w V:=by rw[hV];exact(HB2.o.setCell (by show w.heap.size<=w1.heap.size;exact HZ1.o) _).setCell (by show w.heap.size<=w1.heap.size;exact HZ1.o) _
     have hNV:jh V w1.heap.size 43 #[.int .i64 1,.slice A2 n2 c2]:=by rw[hV];exact(HN2.o.set_ 0 _).set_ 1 _
     have hPV:jD V w2.heap.size A2 n2 c2 l2:=by rw[hV];exact HP2.o
     have hVz:V.heap.size=w2.heap.size:=by rw[hV];simp
     have HFM:=ja (jaz5 1 A2 n2 c2 w2.heap.size l2 V hPV (by omega) (HTAB.o V hBV))
     rw[HL2.o,jca2,jba6] at HFM
     have HFM:=ja HFM.o
     simp only[if_true] at HFM
     rw[show QK true=0 from rfl] at HFM
     have HBV:=ja hBV;have HNV:=ja hNV;have HPV:=ja hPV
     have HVZ:=ja hVz
     clear hp2 hl2 ho2 hb2 hof2 HCH hBV hNV hPV hVz
     subst hV)
  | (go_at_call 32;refine HFM.o.mono ?_;rintro e w3 ⟨rfl,hb3⟩
     have hz3:=HBV.o.size
     have HN3:=ja (HNV.o.below hb3 HNV.o.lt)
     have HP3:=ja (HPV.o.below (hb3.mono (by rw[HVZ.o];exact Nat.le_refl _)))
     have HB3:=ja (HBV.o.trans (hb3.mono hz3))
     have HVL:=ja (jab3 1 A2 n2 c2 w2.heap.size l2 w3 HP3.o (by have:=hb3.size;rw[HVZ.o] at this;exact this))
     rw[HL2.o,jan1] at HVL
     obtain⟨z0,z1,zf0,zf1⟩:=HN3.o.two
     clear hb3 HFM)
  | (go_at_call 33;refine HVL.o.mono ?_;rintro e w4 ⟨A4,n4,c4,rfl,ho4,hb4⟩
     dsimp only at ho4
     have HB4:=ja ((HB3.o.trans (hb4.mono HB3.o.size)).alloc (by have:=HB3.o.size;have:=hb4.size;omega) (.cells #[.int .i64 408,.slice A4 n4 c4] 24))
     have HM4:=ja (jh.new w4 24 #[.int .i64 408,.slice A4 n4 c4])
     have HT4:Hid (ji (w4.alloc (.cells #[.int .i64 408,.slice A4 n4 c4] 24)) w4.heap.size A4 n4 c4 [(577,1)]):=ja (Rd.alloc (Rd.of_own ho4) (Nat.le_refl _) _)
     obtain⟨m0,m1,mf0,mf1⟩:=HM4.o.two
     clear ho4 hb4 HVL)
  | (go_at_call_of 27 (577:Int);refine(HNUM1.o _).mono ?_;rintro e w5 ⟨A5,n5,c5,rfl,ho5,hb5⟩
     dsimp only at ho5
     have HM5:=ja (HM4.o.below hb5 (by simp))
     have HT5:=ja (Rd.below HT4.o (hb5.mono (by simp)))
     have HB5:=ja (HB4.o.trans (hb5.mono HB4.o.size))
     have HF5:=ja (HOFF.o A5 n5 c5 w5.heap.size w5 (Rd.of_own ho5) (Nat.le_refl _))
     have hz5:w4.heap.size<w5.heap.size:=HM5.o.lt
     clear ho5 hb5)
  | (go_at_call 14;refine HF5.o.mono ?_;rintro e w6 ⟨low6,high6,c6,rfl,hr6,hb6⟩
     obtain⟨rfl,rfl,rfl⟩:=jbn1 hr6
     have HM6:=ja (HM5.o.below hb6 hz5)
     have HT6:=ja (Rd.below HT5.o (hb6.mono (by omega)))
     have HB6:=ja (HB5.o.trans (hb6.mono HB5.o.size))
     have hz6:w5.heap.size<=w6.heap.size:=hb6.size
     clear hr6 hb6 HF5)
  | (go_at_call 22;refine(HNEAR.o _).mono ?_;rintro e w7 ⟨rfl,hb7⟩
     have HM7:=ja (HM6.o.below hb7 (by omega))
     have HT7:=ja (Rd.below HT6.o (hb7.mono (by omega)))
     have HB7:=ja (HB6.o.trans (hb7.mono HB6.o.size))
     have hz7:w6.heap.size<=w7.heap.size:=hb7.size
     clear hb7)
  | (go_at_call_of 27 (13:Int);refine(HNUM2.o _).mono ?_;rintro e w8 ⟨A8,n8,c8,rfl,ho8,hb8⟩
     dsimp only at ho8
     have HQ8:Hid (ji w8 w8.heap.size A8 n8 c8 [(13,1)]):=ja (Rd.of_own ho8)
     have HM8:=ja (HM7.o.below hb8 (by omega))
     have HT8:=ja (Rd.below HT7.o (hb8.mono (by omega)))
     have HB8:=ja (HB7.o.trans (hb8.mono HB7.o.size))
     have hz8:w7.heap.size<=w8.heap.size:=hb8.size
     clear ho8 hb8)
  | (go_at_call_of 27 (223:Int);refine(HNUM3.o _).mono ?_;rintro e w9 ⟨A9,n9,c9,rfl,ho9,hb9⟩
     dsimp only at ho9
     have HQ9:Hid (ji w9 w9.heap.size A9 n9 c9 [(223,1)]):=ja (Rd.of_own ho9)
     have HR9:=ja (Rd.below HQ8.o hb9)
     have HM9:=ja (HM8.o.below hb9 (by omega))
     have HT9:=ja (Rd.below HT8.o (hb9.mono (by omega)))
     have HB9:=ja (HB8.o.trans (hb9.mono HB8.o.size))
     have hz9:w8.heap.size<=w9.heap.size:=hb9.size
     clear ho9 hb9)
  | (go_at_call_of 27 (22:Int);refine(HNUM4.o _).mono ?_;rintro e w10 ⟨A10,n10,c10,rfl,ho10,hb10⟩
     dsimp only at ho10
     have HQ10:Hid (ji w10 w10.heap.size A10 n10 c10 [(22,1)]):=ja (Rd.of_own ho10)
     have hz10:w9.heap.size<=w10.heap.size:=hb10.size
     have HSQ:=ja (jag1 15 A8 n8 c8 [(13,1)] 71 A9 n9 c9 [(223,1)] 7 A10 n10 c10 [(22,1)] 10000 w10.heap.size w10 (Rd.more (Rd.below HR9.o (hb10.mono (by omega))) (by omega)) (Rd.more (Rd.below HQ9.o hb10) hz10) HQ10.o (Nat.le_refl _))
     have HM10:=ja (HM9.o.below hb10 (by omega))
     have HT10:=ja (Rd.below HT9.o (hb10.mono (by omega)))
     have HB10:=ja (HB9.o.trans (hb10.mono HB9.o.size))
     clear ho10 hb10)
  | (go_at_call 13;refine HSQ.o.mono ?_;rintro e w11 ⟨low11,high11,c11,rfl,hr11,hb11⟩
     obtain⟨rfl,rfl,rfl⟩:=jad3 hr11
     have HM11:=ja (HM10.o.below hb11 (by omega))
     have HT11:=ja (Rd.below HT10.o (hb11.mono (by omega)))
     have HB11:=ja (HB10.o.trans (hb11.mono HB10.o.size))
     have hz11:w10.heap.size<=w11.heap.size:=hb11.size
     clear hr11 hb11))
 have hbd:Hid (Below w11.heap.size w11 w11.drew):=ja (Below.drew (Below.refl _ _))
 have HS:Hid (∀W,Below w11.heap.size w11 W->(W.cell? ⟨w4.heap.size,0,none⟩=some (.int .i64 408)/\W.cell? ⟨w4.heap.size,1,none⟩=some (.slice A4 n4 c4))):=ja (λW hb=>⟨(HM11.o.below hb HM11.o.lt).cell 0,(HM11.o.below hb HM11.o.lt).cell 1⟩)
 have HS1:=ja (HS.o _ hbd.o)
 have hz12:w4.heap.size<w11.heap.size:=HM11.o.lt
 clear HNUM2 HNUM3 HNUM4 HOFF HNEAR HTAB HL1 HL2 HSQ HM4 HM5 HM6 HM7 HM8 HM9 HM10 HT4 HT5 HT6 HT7 HT8 HT9 HT10 HQ8 HQ9 HQ10 HR9 HP3 HN3 HN1 HN2 HNV HPV HVZ HP1 HP2 HOFP
 first|go_region_held3 (λw'=>w'.cell? ⟨w4.heap.size,0,none⟩=some (.int .i64 408)/\w'.cell? ⟨w4.heap.size,1,none⟩=some (.slice A4 n4 c4)) (first|with_reducible exact HS1.o|with_reducible exact HS2.o|with_reducible exact HS3.o) (first
  | (go_at_call 27;refine(HNUM1.o _).mono ?_;rintro e w12 ⟨A12,n12,c12,rfl,ho12,hb12⟩
     have hb12:Below w11.heap.size w11 w12:=hbd.o.trans hb12
     have HS2:=ja (HS.o _ hb12)
     have HB12:=ja hb12
     have hz13:w11.heap.size<=w12.heap.size:=hb12.size
     have HSM:=ja (jan3 408 A4 n4 c4 [(577,1)] 408 A12 n12 c12 [(577,1)] w12.heap.size w12 (Rd.more (Rd.below HT11.o (hb12.mono (by omega))) (by omega)) (Rd.of_own ho12) (Nat.le_refl _))
     clear ho12 hb12)
  | (go_at_call 21;refine HSM.o.mono ?_;rintro e w13 ⟨rfl,hb13⟩
     have HS3:=ja (HS.o _ (HB12.o.trans (hb13.mono HB12.o.size)))
     have HB13:=ja (HB12.o.trans (hb13.mono HB12.o.size))
     clear hb13))|done
 all_goals
  go_wp2
  go_ret
  exact⟨by simp,HB11.o.trans (HB13.o.mono HB11.o.size)⟩
theorem jad6 (xd:Int) (A:Option Addr) (n c:Nat) (xt:List (Int×Int)) (yd:Int) (A2:Option Addr) (n2 c2:Nat) (yt:List (Int×Int)) (B:Nat) (w:World) (hx:jJ w B A n c xt) (hy:jJ w B A2 n2 c2 yt) (hB:B<=w.heap.size) :
  Calls Tryz.prog 21 #[.agg #[.int .i64 xd,.slice A n c],.agg #[.int .i64 yd,.slice A2 n2 c2]] w λe w'=>e=.returned (.bool (decide (xd=yd)&&decide (xt=yt)))/\Below w.heap.size w w':=by
 have hlx:=hx.len
 have hly:=hy.len
 subst hlx
 subst hly
 have hnx:=Rq.nmax hx
 have hny:=Rq.nmax hy
 obtain⟨w0,hw0⟩:∃w0,w0=(w.alloc (.cells #[.int .i64 xd,.slice A xt.length c] 24)).alloc (.cells #[.int .i64 yd,.slice A2 yt.length c2] 24):=⟨_,rfl⟩
 have hz0:w0.heap.size=w.heap.size+2:=by rw[hw0];simp
 have h01:Below w.heap.size w w0:=by rw[hw0];exact((Below.refl _ _).alloc (Nat.le_refl _) _).alloc (by simp) _
 have HX0:Hid (jh w0 w.heap.size 24 #[.int .i64 xd,.slice A xt.length c]):=ja (by rw[hw0];exact(jh.new w _ _).alloc _)
 have HY0:Hid (jh w0 (w.heap.size+1) 24 #[.int .i64 yd,.slice A2 yt.length c2]):=ja (by
  rw[hw0]
  have h:=jh.new (w.alloc (.cells #[.int .i64 xd,.slice A xt.length c] 24)) 24 #[.int .i64 yd,.slice A2 yt.length c2]
  rwa [World.size_alloc] at h)
 have HTX:=ja (Rq.below hx (h01.mono hB));have HTY:=ja (Rq.below hy (h01.mono hB))
 have HB0:=ja h01
 clear hx hy h01
 go_enter Tryz.func21,Tryz.ntmps21
 go_upto_region 1 with fail
 rw[<-hw0]
 clear hw0
 obtain⟨x0,x1,_,_⟩:=HX0.o.two
 obtain⟨y0,y1,_,_⟩:=HY0.o.two
 by_cases hd:xd=yd
 ·by_cases hl:(xt.length:Int)=(yt.length:Int)
  ·go_wp2
   go_loopw [5] (λi W=>∃(k:Nat),k<=xt.length/\i=.int .i64 k/\xt.take k=yt.take k/\∃q,W=w0.drewN q) (λi _=>xt.length-(intOf i).toNat)
   case atStart=>exact⟨0,by omega,rfl,rfl,0,rfl⟩
   case round=>
    obtain⟨k,hk,rfl,hpre,q,rfl⟩:=hrel
    have HPRE:=ja hpre
    have HX:=ja (HX0.o.drewN q);have HY:=ja (HY0.o.drewN q)
    have HTXq:Hid (jJ (w0.drewN q) B A xt.length c xt):=ja HTX.o
    have HTYq:Hid (jJ (w0.drewN q) B A2 yt.length c2 yt):=ja HTY.o
    have HBq:Hid (Below w.heap.size w (w0.drewN q)):=ja ⟨HB0.o.os,HB0.o.tape,HB0.o.output,HB0.o.size,HB0.o.block⟩
    have HDD:=ja (λp=>dd w0 q p)
    clear hpre x0 x1 y0 y1
    generalize w0.drewN q=W at *
    obtain⟨x0,x1,_,_⟩:=HX.o.two
    obtain⟨y0,y1,_,_⟩:=HY.o.two
    by_cases hkl:(k:Int)<(xt.length:Int)
    ·have hk1:k<xt.length:=by omega
     have hk2:k<yt.length:=by omega
     obtain⟨ad,rfl,-,ha0,ha1⟩:=HTXq.o.at_ hk1
     obtain⟨ad2,rfl,-,hb0,hb1⟩:=HTYq.o.at_ hk2
     have hky:(k:Int)<(yt.length:Int):=by omega
     go_wp2
     have hnq:=λW=>jap5 xt[k].1 xt[k].2 yt[k].1 yt[k].2 W
     have hgt:=Tryz.guardTerm
     have htk1:=List.take_succ_eq_append_getElem hk1
     have htk2:=List.take_succ_eq_append_getElem hk2
     by_cases heq:xt[k]=yt[k]
     ·have h1:xt[k].1=yt[k].1:=by rw[heq]
      have h2:xt[k].2=yt[k].2:=by rw[heq]
      have HTK:Hid (xt.take (k+1)=yt.take (k+1)):=ja (by rw[htk1,htk2,HPRE.o,heq])
      rw[h1] at ha0
      rw[h2] at ha1
      simp only[h1,h2] at hnq
      clear htk1 htk2 heq h1 h2
      go_quiet (fail)
      go_wp2
      obtain⟨q2,hq2⟩:=HDD.o nq
      exact⟨⟨k+1,by omega,by go_num,HTK.o,q2,hq2⟩,by simp[intOf];omega⟩
     ·have hne:¬xt=yt:=λe=>heq (by simp only[e])
      have hd2:(decide ((xt[k].1,xt[k].2)=(yt[k].1,yt[k].2)))=false:=decide_eq_false heq
      simp only[hd2] at hnq
      have HNE:=ja hne
      clear htk1 htk2 heq hne hd2
      go_quiet (fail)
      go_wp2
      go_ret
      exact⟨by simp[HNE.o],⟨HBq.o.os,HBq.o.tape,HBq.o.output,HBq.o.size,HBq.o.block⟩⟩
    ·obtain rfl:k=xt.length:=by omega
     go_wp2
     go_ret
     have hpre:=HPRE.o
     rw[List.take_of_length_le (Nat.le_refl _),List.take_of_length_le (by omega)] at hpre
     exact⟨by simp[hd,hpre],HBq.o⟩
  ·go_wp2
   go_ret
   have hne:¬xt=yt:=λe=>hl (by rw[e])
   exact⟨by simp[hd,hne],HB0.o⟩
 ·go_wp2
  go_ret
  exact⟨by simp[hd],HB0.o⟩
open Go
section
variable {P : Program} {ops : Array Oper} {Q : Exit → Act → World → Prop} {md : Region.Mode}
variable {s : Nat} {F : World → Prop} {Made : Nat → Value → World → Prop} {fl : List Nat}
theorem jg.skip {l rest:List Oper} (k:Nat) {ok:Oper} {Γ:World->Prop} {f:Nat} {Lc:Array Bool} {a:Act} (hops:ops=l.toArray) (hk:l.drop k=ok::rest) (H:Floats P md ops Q F Made fl)
  (hB:(Lc.size==ops.size&&!fl.contains k&&(Region.ready md ops Lc).contains k&&Region.free md ops Lc k&&(s !=k)&&(fl.all λi=>!Lc.getD i false)&&fl.all λi=>match ops[i]?,ops[k]? with|some oi,some ok=>oi.apart ops ok|_,_=>true)=true)
  (hF:∀W,Γ W->F W) (hw:Region.wanted ok (yielded ops a.tmps)=false)
  (h:jg P md ops Q s F Made fl Γ f (Lc.setIfInBounds k true) (a.put ok.dst undef)):jg P md ops Q s F Made fl Γ (f+1) Lc a:=by
 have hk':ops[k]?=some ok:=by subst hops;exact JL hk
 simp only[Bool.and_eq_true,beq_iff_eq,bne_iff_ne,ne_eq,Bool.not_eq_true'] at hB
 obtain⟨⟨⟨⟨⟨⟨hsc,hkf⟩,hkr⟩,hfree⟩,hsk⟩,hlow⟩,hap⟩:=hB
 have hkf':k∉fl:=λhm=>by rw[List.contains_iff_mem.2 hm] at hkf;cases hkf
 have hkr':k∈Region.ready md ops Lc:=by simpa using hkr
 have hks:k<ops.size:=(Array.getElem?_eq_some_iff.1 hk').1
 have hkc:Lc.getD k true=false:=(mem_ready.1 hkr').1
 have hap0:=List.all_eq_true.1 hap
 have hlow0:=List.all_eq_true.1 hlow
 have hap':∀i∈fl,∀e,Ju ops i=some e->e∉ok.looksAt ops/\ok.dst≠some e:=λi hi e he=>by
  obtain⟨oi,hoi⟩:=H.there i hi
  have h1:=hap0 i hi
  rw[hoi,hk'] at h1
  have hdi:Ju ops i=oi.dst:=by unfold Ju;rw[hoi];rfl
  obtain⟨g1,g2,g3⟩:=Oper.apart_spec h1
  exact⟨g1 e (hdi▸he),g2 e (hdi▸he)⟩
 intro L X W hs hL hG hX up
 have hkL:L.getD k true=false:=by rw[Zs (by rw[hs];exact hks) true false,hL k hkf',<-Zs (by rw[hsc];exact hks) true false];exact hkc
 have hle:∀i,Lc.getD i false=true->L.getD i false=true:=λi hi=>by
  by_cases him:i∈fl
  ·have:=hlow0 i him;rw[hi] at this;cases this
  ·rw[hL i him];exact hi
 have hkin:k∈Region.ready md ops L:=jj4 hkr' hle hkL
 obtain⟨e1,e2⟩:=Qm (L:=L) (X:=X) (ops:=ops) (λcs b=>Region.noSelect_spec H.sel k ok cs b hk') fl a (λi hi _ e he=>(hap' i hi e he).1)
 rw[show f+1+JM L fl=(f+JM L fl)+1 by omega]
 have hSi:∀L w,jf (λ_=>True) s F s (λ_=>True) (L.setIfInBounds k true) w↔jf (λ_=>True) s F s (λ_=>True) L w:=λL w=>by
  unfold jf
  rw[getD_set_ne false (Ne.symm hsk)]
 refine jb3 (v:=undef) hk' (Region.noSelect_spec H.sel) (λc a w h=>(H.panic c a ok.dst undef w).2 h) hSi _ L _ W up (λj oj hj hne hun hno=>?_) hkin
  (.inr ⟨by rw[e2];exact hw,rfl⟩) ⟨trivial,λ_=>hF W hG,λ_=>trivial⟩ ?_
 ·refine Region.free_spec hk' hfree j oj hj hne ?_ hno
  have hjs:j<ops.size:=(Array.getElem?_eq_some_iff.1 hj).1
  cases hc:Lc.getD j true with
  | false=>rfl
  | true=>
   rw[Zs (by rw[hsc];exact hjs) true false] at hc
   have:=hle j hc
   rw[Zs (by rw[hs];exact hjs) false true,hun] at this
   cases this
 ·have:=h (L.setIfInBounds k true) X W (by simpa using hs) (λj hj=>by
   by_cases hjk:k=j
   ·subst hjk;simp[hs,hsc,hks]
   ·rw[getD_set_ne false hjk,getD_set_ne false hjk];exact hL j hj) hG (hX.set hkf' (λ_ _ h=>h)) (up.set hkin)
  rw[Ql (L:=L.setIfInBounds k true) (L':=L) fl (λj hj=>getD_set_ne false (λe=>hkf' (e▸hj))),qV (L:=L.setIfInBounds k true) (L':=L) (X:=X) (X':=X) fl _ (λj hj=>⟨getD_set_ne false (λe=>hkf' (e▸hj)),rfl⟩)] at this
  rw[jg4 fl a (λi hi _ e he=>(hap' i hi e he).2)]
  exact this
end
section
variable {P : Program} {ops : Array Oper} {Q : Exit → Act → World → Prop} {md : Region.Mode} {C F1 F2 : World → Prop} {s1 s2 : Nat}
end
