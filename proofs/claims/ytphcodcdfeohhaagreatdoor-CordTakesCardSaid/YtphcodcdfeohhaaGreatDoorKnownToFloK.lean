import Derived.Test.YtphcodcdfeohhaaGreatDoorKnowToCardB
import Derived.Test.YtphcodcdfeohhaaGreatDoorCordW
import Derived.Test.YtphcodcdfeohhaaGreatDoorWeakRToCardN
import Derived.Test.YtphcodcdfeohhaaGreatDoorFlowToNumK
set_option linter.unusedVariables false
set_option linter.unusedSimpArgs false
namespace Go.Proofs.YtphcodcdfeohhaaGreatDoor
set_option maxRecDepth 100000
set_option maxHeartbeats 8000000
open Go.RowKit
theorem jcs4 (w : World) (hE : jm0 w) (htab : Lib.TabIs Tryz.prog w "internal/strconv.uint64pow10" .u64 Lib.pow10Tab) :
  Calls Tryz.prog 8 #[] w fun e w'=>e=.returned (.bool true)/\Below w.heap.size w w':=by
 have HPA:=ja0 (jcv6 ⟨#[49,43,49,47,51]⟩ w hE htab)
 rw[jbt9] at HPA
 obtain⟨gp,hgp⟩:=Option.isSome_iff_exists.1 Tryz.pow10g
 have HTAB:=ja0 (fun W (hb:Below w.heap.size w W)=>jp5 hgp htab hb)
 have HOFF:=ja0 (fun(A:Option Addr) (n c B:Nat) (W:World) hx hB=>jdn3 408 A n c [(577,1)] 2 1000000 B W hx hB)
 have HNEAR:=ja0 (fun W=>jam8 2 100 W)
 rw[jcd2] at HNEAR
 have HNUM1:=ja0 (fun W=>jr7 577 408 W)
 have HNUM2:=ja0 (fun W=>jr7 13 15 W)
 have HNUM3:=ja0 (fun W=>jr7 223 71 W)
 have HNUM4:=ja0 (fun W=>jr7 22 7 W)
 clear hE htab
 go_enter Tryz.func8,Tryz.ntmps8
 go_wp2_with (first
  | (go_at_call 30;refine HPA.out.mono ?_;rintro e w1 ⟨A1,n1,c1,l1,rfl,hp1,hl1,ho1,hb1⟩
     have HN1:=ja0 (Blk.new w1 43 #[.int .i64 1,.slice A1 n1 c1])
     have HP1:=ja0 (hp1.alloc (Nat.le_refl _) (.cells #[.int .i64 1,.slice A1 n1 c1] 43))
     have HB1:=ja0 (hb1.alloc hb1.size (.cells #[.int .i64 1,.slice A1 n1 c1] 43))
     have HL1:=ja0 hl1
     have HZ1:=ja0 hb1.size
     obtain⟨x0,x1,xf0,xf1⟩:=HN1.out.two
     have HCH:=ja0 (jcp6 1 A1 n1 c1 w1.heap.size l1 2 2 (w1.alloc (.cells #[.int .i64 1,.slice A1 n1 c1] 43)) HP1.out (by simp))
     rw[hl1,jbt8] at HCH
     have HOFP:=ja0 (hp1.off_of (Nat.le_refl _))
     clear hp1 hl1 ho1 hb1 HPA)
  | (go_at_call 31;refine HCH.out.mono ?_;rintro e w2 ⟨A2,n2,c2,l2,rfl,hp2,hl2,ho2,hb2⟩
     (try simp only[World.size_alloc] at hb2 ho2)
     have HN2:=ja0 (HN1.out.below hb2 (by simp))
     have HB2:=ja0 (HB1.out.trans (hb2.mono (by have:=HB1.out.size;simpa using this)))
     have hof2:=ho2 w1.heap.size (by simp) HOFP.out
     have HP2:=ja0 ((hp2.off_set (i:=0) hof2 (.int .i64 1)).off_set (i:=1) hof2 (.slice A2 n2 c2))
     have HL2:=ja0 hl2
     obtain⟨y0,y1,yf0,yf1⟩:=HN2.out.two
     dsimp only at hl2
     have HL2:=ja0 hl2
     have hz2:w.heap.size<=w2.heap.size:=HB2.out.size
     obtain⟨V,hV⟩:∃V,V=(w2.setCell ⟨w1.heap.size,0,none⟩ (.int .i64 1)).setCell ⟨w1.heap.size,1,none⟩ (.slice A2 n2 c2):=⟨_,rfl⟩
     have hBV:Below w.heap.size w V:=by rw[hV];exact(HB2.out.setCell (by show w.heap.size<=w1.heap.size;exact HZ1.out) _).setCell (by show w.heap.size<=w1.heap.size;exact HZ1.out) _
     have hNV:Blk V w1.heap.size 43 #[.int .i64 1,.slice A2 n2 c2]:=by rw[hV];exact(HN2.out.set_ 0 _).set_ 1 _
     have hPV:jb6 V w2.heap.size A2 n2 c2 l2:=by rw[hV];exact HP2.out
     have hVz:V.heap.size=w2.heap.size:=by rw[hV];simp
     have HFM:=ja0 (jcc6 1 A2 n2 c2 w2.heap.size l2 V hPV (by omega) (HTAB.out V hBV))
     rw[HL2.out,jdd1,jcd4] at HFM
     have HFM:=ja0 HFM.out
     simp only[if_true] at HFM
     rw[show zh8 true=0 from rfl] at HFM
     have HBV:=ja0 hBV;have HNV:=ja0 hNV;have HPV:=ja0 hPV
     have HVZ:=ja0 hVz
     clear hp2 hl2 ho2 hb2 hof2 HCH hBV hNV hPV hVz
     subst hV)
  | (go_at_call 32;refine HFM.out.mono ?_;rintro e w3 ⟨rfl,hb3⟩
     have hz3:=HBV.out.size
     have HN3:=ja0 (HNV.out.below hb3 HNV.out.lt)
     have HP3:=ja0 (HPV.out.below (hb3.mono (by rw[HVZ.out];exact Nat.le_refl _)))
     have HB3:=ja0 (HBV.out.trans (hb3.mono hz3))
     have HVL:=ja0 (jbh9 1 A2 n2 c2 w2.heap.size l2 w3 HP3.out (by have:=hb3.size;rw[HVZ.out] at this;exact this))
     rw[HL2.out,jbv1] at HVL
     obtain⟨z0,z1,zf0,zf1⟩:=HN3.out.two
     clear hb3 HFM)
  | (go_at_call 33;refine HVL.out.mono ?_;rintro e w4 ⟨A4,n4,c4,rfl,ho4,hb4⟩
     dsimp only at ho4
     have HB4:=ja0 ((HB3.out.trans (hb4.mono HB3.out.size)).alloc (by have:=HB3.out.size;have:=hb4.size;omega) (.cells #[.int .i64 408,.slice A4 n4 c4] 24))
     have HM4:=ja0 (Blk.new w4 24 #[.int .i64 408,.slice A4 n4 c4])
     have HT4:Hid (ja3 (w4.alloc (.cells #[.int .i64 408,.slice A4 n4 c4] 24)) w4.heap.size A4 n4 c4 [(577,1)]):=ja0 (Rd.alloc (Rd.of_own ho4) (Nat.le_refl _) _)
     obtain⟨m0,m1,mf0,mf1⟩:=HM4.out.two
     clear ho4 hb4 HVL)
  | (go_at_call_of 27 (577:Int);refine(HNUM1.out _).mono ?_;rintro e w5 ⟨A5,n5,c5,rfl,ho5,hb5⟩
     dsimp only at ho5
     have HM5:=ja0 (HM4.out.below hb5 (by simp))
     have HT5:=ja0 (Rd.below HT4.out (hb5.mono (by simp)))
     have HB5:=ja0 (HB4.out.trans (hb5.mono HB4.out.size))
     have HF5:=ja0 (HOFF.out A5 n5 c5 w5.heap.size w5 (Rd.of_own ho5) (Nat.le_refl _))
     have hz5:w4.heap.size<w5.heap.size:=HM5.out.lt
     clear ho5 hb5)
  | (go_at_call 14;refine HF5.out.mono ?_;rintro e w6 ⟨low6,high6,c6,rfl,hr6,hb6⟩
     obtain⟨rfl,rfl,rfl⟩:=jcs5 hr6
     have HM6:=ja0 (HM5.out.below hb6 hz5)
     have HT6:=ja0 (Rd.below HT5.out (hb6.mono (by omega)))
     have HB6:=ja0 (HB5.out.trans (hb6.mono HB5.out.size))
     have hz6:w5.heap.size<=w6.heap.size:=hb6.size
     clear hr6 hb6 HF5)
  | (go_at_call 22;refine(HNEAR.out _).mono ?_;rintro e w7 ⟨rfl,hb7⟩
     have HM7:=ja0 (HM6.out.below hb7 (by omega))
     have HT7:=ja0 (Rd.below HT6.out (hb7.mono (by omega)))
     have HB7:=ja0 (HB6.out.trans (hb7.mono HB6.out.size))
     have hz7:w6.heap.size<=w7.heap.size:=hb7.size
     clear hb7)
  | (go_at_call_of 27 (13:Int);refine(HNUM2.out _).mono ?_;rintro e w8 ⟨A8,n8,c8,rfl,ho8,hb8⟩
     dsimp only at ho8
     have HQ8:Hid (ja3 w8 w8.heap.size A8 n8 c8 [(13,1)]):=ja0 (Rd.of_own ho8)
     have HM8:=ja0 (HM7.out.below hb8 (by omega))
     have HT8:=ja0 (Rd.below HT7.out (hb8.mono (by omega)))
     have HB8:=ja0 (HB7.out.trans (hb8.mono HB7.out.size))
     have hz8:w7.heap.size<=w8.heap.size:=hb8.size
     clear ho8 hb8)
  | (go_at_call_of 27 (223:Int);refine(HNUM3.out _).mono ?_;rintro e w9 ⟨A9,n9,c9,rfl,ho9,hb9⟩
     dsimp only at ho9
     have HQ9:Hid (ja3 w9 w9.heap.size A9 n9 c9 [(223,1)]):=ja0 (Rd.of_own ho9)
     have HR9:=ja0 (Rd.below HQ8.out hb9)
     have HM9:=ja0 (HM8.out.below hb9 (by omega))
     have HT9:=ja0 (Rd.below HT8.out (hb9.mono (by omega)))
     have HB9:=ja0 (HB8.out.trans (hb9.mono HB8.out.size))
     have hz9:w8.heap.size<=w9.heap.size:=hb9.size
     clear ho9 hb9)
  | (go_at_call_of 27 (22:Int);refine(HNUM4.out _).mono ?_;rintro e w10 ⟨A10,n10,c10,rfl,ho10,hb10⟩
     dsimp only at ho10
     have HQ10:Hid (ja3 w10 w10.heap.size A10 n10 c10 [(22,1)]):=ja0 (Rd.of_own ho10)
     have hz10:w9.heap.size<=w10.heap.size:=hb10.size
     have HSQ:=ja0 (jbn3 15 A8 n8 c8 [(13,1)] 71 A9 n9 c9 [(223,1)] 7 A10 n10 c10 [(22,1)] 10000 w10.heap.size w10 (Rd.more (Rd.below HR9.out (hb10.mono (by omega))) (by omega)) (Rd.more (Rd.below HQ9.out hb10) hz10) HQ10.out (Nat.le_refl _))
     have HM10:=ja0 (HM9.out.below hb10 (by omega))
     have HT10:=ja0 (Rd.below HT9.out (hb10.mono (by omega)))
     have HB10:=ja0 (HB9.out.trans (hb10.mono HB9.out.size))
     clear ho10 hb10)
  | (go_at_call 13;refine HSQ.out.mono ?_;rintro e w11 ⟨low11,high11,c11,rfl,hr11,hb11⟩
     obtain⟨rfl,rfl,rfl⟩:=jbk7 hr11
     have HM11:=ja0 (HM10.out.below hb11 (by omega))
     have HT11:=ja0 (Rd.below HT10.out (hb11.mono (by omega)))
     have HB11:=ja0 (HB10.out.trans (hb11.mono HB10.out.size))
     have hz11:w10.heap.size<=w11.heap.size:=hb11.size
     clear hr11 hb11))
 have hbd:Hid (Below w11.heap.size w11 w11.drew):=ja0 (Below.drew (Below.refl _ _))
 have HS:Hid (∀W,Below w11.heap.size w11 W->(W.cell? ⟨w4.heap.size,0,none⟩=some (.int .i64 408)/\W.cell? ⟨w4.heap.size,1,none⟩=some (.slice A4 n4 c4))):=ja0 (fun W hb=>⟨(HM11.out.below hb HM11.out.lt).cell 0,(HM11.out.below hb HM11.out.lt).cell 1⟩)
 have HS1:=ja0 (HS.out _ hbd.out)
 have hz12:w4.heap.size<w11.heap.size:=HM11.out.lt
 clear HNUM2 HNUM3 HNUM4 HOFF HNEAR HTAB HL1 HL2 HSQ HM4 HM5 HM6 HM7 HM8 HM9 HM10 HT4 HT5 HT6 HT7 HT8 HT9 HT10 HQ8 HQ9 HQ10 HR9 HP3 HN3 HN1 HN2 HNV HPV HVZ HP1 HP2 HOFP
 first|go_region_held3 (fun w'=>w'.cell? ⟨w4.heap.size,0,none⟩=some (.int .i64 408)/\w'.cell? ⟨w4.heap.size,1,none⟩=some (.slice A4 n4 c4)) (first|with_reducible exact HS1.out|with_reducible exact HS2.out|with_reducible exact HS3.out) (first
  | (go_at_call 27;refine(HNUM1.out _).mono ?_;rintro e w12 ⟨A12,n12,c12,rfl,ho12,hb12⟩
     have hb12:Below w11.heap.size w11 w12:=hbd.out.trans hb12
     have HS2:=ja0 (HS.out _ hb12)
     have HB12:=ja0 hb12
     have hz13:w11.heap.size<=w12.heap.size:=hb12.size
     have HSM:=ja0 (jam7 408 A4 n4 c4 [(577,1)] 408 A12 n12 c12 [(577,1)] w12.heap.size w12 (Rd.more (Rd.below HT11.out (hb12.mono (by omega))) (by omega)) (Rd.of_own ho12) (Nat.le_refl _))
     clear ho12 hb12)
  | (go_at_call 21;refine HSM.out.mono ?_;rintro e w13 ⟨rfl,hb13⟩
     have HS3:=ja0 (HS.out _ (HB12.out.trans (hb13.mono HB12.out.size)))
     have HB13:=ja0 (HB12.out.trans (hb13.mono HB12.out.size))
     clear hb13))|done
 all_goals
  go_wp2
  go_ret
  exact⟨by simp,HB11.out.trans (HB13.out.mono HB11.out.size)⟩
theorem jfh9 (xd:Int) (A:Option Addr) (n c:Nat) (xt:List (Int×Int)) (yd:Int) (A2:Option Addr) (n2 c2:Nat) (yt:List (Int×Int)) (B:Nat) (w:World) (hx:jas0 w B A n c xt) (hy:jas0 w B A2 n2 c2 yt) (hB:B<=w.heap.size) :
  Calls Tryz.prog 21 #[.agg #[.int .i64 xd,.slice A n c],.agg #[.int .i64 yd,.slice A2 n2 c2]] w fun e w'=>e=.returned (.bool (decide (xd=yd)&&decide (xt=yt)))/\Below w.heap.size w w':=by
 have hlx:=hx.len
 have hly:=hy.len
 subst hlx
 subst hly
 have hnx:=Rq.nmax hx
 have hny:=Rq.nmax hy
 obtain⟨w0,hw0⟩:∃w0,w0=(w.alloc (.cells #[.int .i64 xd,.slice A xt.length c] 24)).alloc (.cells #[.int .i64 yd,.slice A2 yt.length c2] 24):=⟨_,rfl⟩
 have hz0:w0.heap.size=w.heap.size+2:=by rw[hw0];simp
 have h01:Below w.heap.size w w0:=by rw[hw0];exact((Below.refl _ _).alloc (Nat.le_refl _) _).alloc (by simp) _
 have HX0:Hid (Blk w0 w.heap.size 24 #[.int .i64 xd,.slice A xt.length c]):=ja0 (by rw[hw0];exact(Blk.new w _ _).alloc _)
 have HY0:Hid (Blk w0 (w.heap.size+1) 24 #[.int .i64 yd,.slice A2 yt.length c2]):=ja0 (by
  rw[hw0]
  have h:=Blk.new (w.alloc (.cells #[.int .i64 xd,.slice A xt.length c] 24)) 24 #[.int .i64 yd,.slice A2 yt.length c2]
  rwa [World.size_alloc] at h)
 have HTX:=ja0 (Rq.below hx (h01.mono hB));have HTY:=ja0 (Rq.below hy (h01.mono hB))
 have HB0:=ja0 h01
 clear hx hy h01
 go_enter Tryz.func21,Tryz.ntmps21
 go_upto_region 1 with fail
 rw[<-hw0]
 clear hw0
 obtain⟨x0,x1,_,_⟩:=HX0.out.two
 obtain⟨y0,y1,_,_⟩:=HY0.out.two
 by_cases hd:xd=yd
 ·by_cases hl:(xt.length:Int)=(yt.length:Int)
  ·go_wp2
   go_loopw [5] (fun i W=>∃(k:Nat),k<=xt.length/\i=.int .i64 k/\xt.take k=yt.take k/\∃q,W=w0.drewN q) (fun i _=>xt.length-(intOf i).toNat)
   case atStart=>exact⟨0,by omega,rfl,rfl,0,rfl⟩
   case round=>
    obtain⟨k,hk,rfl,hpre,q,rfl⟩:=hrel
    have HPRE:=ja0 hpre
    have HX:=ja0 (HX0.out.drewN q);have HY:=ja0 (HY0.out.drewN q)
    have HTXq:Hid (jas0 (w0.drewN q) B A xt.length c xt):=ja0 HTX.out
    have HTYq:Hid (jas0 (w0.drewN q) B A2 yt.length c2 yt):=ja0 HTY.out
    have HBq:Hid (Below w.heap.size w (w0.drewN q)):=ja0 ⟨HB0.out.os,HB0.out.tape,HB0.out.output,HB0.out.size,HB0.out.block⟩
    have HDD:=ja0 (fun p=>dd w0 q p)
    clear hpre x0 x1 y0 y1
    generalize w0.drewN q=W at *
    obtain⟨x0,x1,_,_⟩:=HX.out.two
    obtain⟨y0,y1,_,_⟩:=HY.out.two
    by_cases hkl:(k:Int)<(xt.length:Int)
    ·have hk1:k<xt.length:=by omega
     have hk2:k<yt.length:=by omega
     obtain⟨ad,rfl,-,ha0,ha1⟩:=HTXq.out.at_ hk1
     obtain⟨ad2,rfl,-,hb0,hb1⟩:=HTYq.out.at_ hk2
     have hky:(k:Int)<(yt.length:Int):=by omega
     go_wp2
     have hnq:=fun W=>jdf6 xt[k].1 xt[k].2 yt[k].1 yt[k].2 W
     have hgt:=Tryz.guardTerm
     have htk1:=List.take_succ_eq_append_getElem hk1
     have htk2:=List.take_succ_eq_append_getElem hk2
     by_cases heq:xt[k]=yt[k]
     ·have h1:xt[k].1=yt[k].1:=by rw[heq]
      have h2:xt[k].2=yt[k].2:=by rw[heq]
      have HTK:Hid (xt.take (k+1)=yt.take (k+1)):=ja0 (by rw[htk1,htk2,HPRE.out,heq])
      rw[h1] at ha0
      rw[h2] at ha1
      simp only[h1,h2] at hnq
      clear htk1 htk2 heq h1 h2
      go_quiet (fail)
      go_wp2
      obtain⟨q2,hq2⟩:=HDD.out nq
      exact⟨⟨k+1,by omega,by go_num,HTK.out,q2,hq2⟩,by simp[intOf];omega⟩
     ·have hne:¬xt=yt:=fun e=>heq (by simp only[e])
      have hd2:(decide ((xt[k].1,xt[k].2)=(yt[k].1,yt[k].2)))=false:=decide_eq_false heq
      simp only[hd2] at hnq
      have HNE:=ja0 hne
      clear htk1 htk2 heq hne hd2
      go_quiet (fail)
      go_wp2
      go_ret
      exact⟨by simp[HNE.out],⟨HBq.out.os,HBq.out.tape,HBq.out.output,HBq.out.size,HBq.out.block⟩⟩
    ·obtain rfl:k=xt.length:=by omega
     go_wp2
     go_ret
     have hpre:=HPRE.out
     rw[List.take_of_length_le (Nat.le_refl _),List.take_of_length_le (by omega)] at hpre
     exact⟨by simp[hd,hpre],HBq.out⟩
  ·go_wp2
   go_ret
   have hne:¬xt=yt:=fun e=>hl (by rw[e])
   exact⟨by simp[hd,hne],HB0.out⟩
 ·go_wp2
  go_ret
  exact⟨by simp[hd],HB0.out⟩
open Go
section
variable {P : Program} {ops : Array Oper} {Q : Exit → Act → World → Prop} {md : Region.Mode}
variable {s : Nat} {F : World → Prop} {Made : Nat → Value → World → Prop} {fl : List Nat}
theorem jd9.skip {l rest:List Oper} (k:Nat) {ok:Oper} {Γ:World->Prop} {f:Nat} {Lc:Array Bool} {a:Act} (hops:ops=l.toArray) (hk:l.drop k=ok::rest) (H:Floats P md ops Q F Made fl)
  (hB:(Lc.size==ops.size&&!fl.contains k&&(Region.ready md ops Lc).contains k&&Region.free md ops Lc k&&(s !=k)&&(fl.all fun i=>!Lc.getD i false)&&fl.all fun i=>match ops[i]?,ops[k]? with|some oi,some ok=>oi.apart ops ok|_,_=>true)=true)
  (hF:∀W,Γ W->F W) (hw:Region.wanted ok (yielded ops a.tmps)=false)
  (h:jd9 P md ops Q s F Made fl Γ f (Lc.setIfInBounds k true) (a.put ok.dst undef)):jd9 P md ops Q s F Made fl Γ (f+1) Lc a:=by
 have hk':ops[k]?=some ok:=by subst hops;exact zb7 hk
 simp only[Bool.and_eq_true,beq_iff_eq,bne_iff_ne,ne_eq,Bool.not_eq_true'] at hB
 obtain⟨⟨⟨⟨⟨⟨hsc,hkf⟩,hkr⟩,hfree⟩,hsk⟩,hlow⟩,hap⟩:=hB
 have hkf':k∉fl:=fun hm=>by rw[List.contains_iff_mem.2 hm] at hkf;cases hkf
 have hkr':k∈Region.ready md ops Lc:=by simpa using hkr
 have hks:k<ops.size:=(Array.getElem?_eq_some_iff.1 hk').1
 have hkc:Lc.getD k true=false:=(mem_ready.1 hkr').1
 have hap0:=List.all_eq_true.1 hap
 have hlow0:=List.all_eq_true.1 hlow
 have hap':∀i∈fl,∀e,jk0 ops i=some e->e∉ok.looksAt ops/\ok.dst≠some e:=fun i hi e he=>by
  obtain⟨oi,hoi⟩:=H.there i hi
  have h1:=hap0 i hi
  rw[hoi,hk'] at h1
  have hdi:jk0 ops i=oi.dst:=by unfold jk0;rw[hoi];rfl
  obtain⟨g1,g2,g3⟩:=Oper.apart_spec h1
  exact⟨g1 e (hdi▸he),g2 e (hdi▸he)⟩
 intro L X W hs hL hG hX up
 have hkL:L.getD k true=false:=by rw[zf8 (by rw[hs];exact hks) true false,hL k hkf',<-zf8 (by rw[hsc];exact hks) true false];exact hkc
 have hle:∀i,Lc.getD i false=true->L.getD i false=true:=fun i hi=>by
  by_cases him:i∈fl
  ·have:=hlow0 i him;rw[hi] at this;cases this
  ·rw[hL i him];exact hi
 have hkin:k∈Region.ready md ops L:=jak0 hkr' hle hkL
 obtain⟨e1,e2⟩:=zr1 (L:=L) (X:=X) (ops:=ops) (fun cs b=>Region.noSelect_spec H.sel k ok cs b hk') fl a (fun i hi _ e he=>(hap' i hi e he).1)
 rw[show f+1+jk4 L fl=(f+jk4 L fl)+1 by omega]
 have hSi:∀L w,ja8 (fun _=>True) s F s (fun _=>True) (L.setIfInBounds k true) w↔ja8 (fun _=>True) s F s (fun _=>True) L w:=fun L w=>by
  unfold ja8
  rw[getD_set_ne false (Ne.symm hsk)]
 refine jag2 (v:=undef) hk' (Region.noSelect_spec H.sel) (fun c a w h=>(H.panic c a ok.dst undef w).2 h) hSi _ L _ W up (fun j oj hj hne hun hno=>?_) hkin
  (.inr ⟨by rw[e2];exact hw,rfl⟩) ⟨trivial,fun _=>hF W hG,fun _=>trivial⟩ ?_
 ·refine Region.free_spec hk' hfree j oj hj hne ?_ hno
  have hjs:j<ops.size:=(Array.getElem?_eq_some_iff.1 hj).1
  cases hc:Lc.getD j true with
  | false=>rfl
  | true=>
   rw[zf8 (by rw[hsc];exact hjs) true false] at hc
   have:=hle j hc
   rw[zf8 (by rw[hs];exact hjs) false true,hun] at this
   cases this
 ·have:=h (L.setIfInBounds k true) X W (by simpa using hs) (fun j hj=>by
   by_cases hjk:k=j
   ·subst hjk;simp[hs,hsc,hks]
   ·rw[getD_set_ne false hjk,getD_set_ne false hjk];exact hL j hj) hG (hX.set hkf' (fun _ _ h=>h)) (up.set hkin)
  rw[zf7 (L:=L.setIfInBounds k true) (L':=L) fl (fun j hj=>getD_set_ne false (fun e=>hkf' (e▸hj))),zc7 (L:=L.setIfInBounds k true) (L':=L) (X:=X) (X':=X) fl _ (fun j hj=>⟨getD_set_ne false (fun e=>hkf' (e▸hj)),rfl⟩)] at this
  rw[jaf3 fl a (fun i hi _ e he=>(hap' i hi e he).2)]
  exact this
end
section
variable {P : Program} {ops : Array Oper} {Q : Exit → Act → World → Prop} {md : Region.Mode} {C F1 F2 : World → Prop} {s1 s2 : Nat}
end
end Go.Proofs.YtphcodcdfeohhaaGreatDoor
