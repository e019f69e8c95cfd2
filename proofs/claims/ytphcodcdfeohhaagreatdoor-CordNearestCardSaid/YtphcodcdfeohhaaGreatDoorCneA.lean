import Derived.Test.YtphcodcdfeohhaaGreatDoorNearCToCneP
import Derived.Test.YtphcodcdfeohhaaGreatDoorQuoAToRnd
import Derived.Test.YtphcodcdfeohhaaGreatDoorSurdKToSurdL
import Derived.Test.YtphcodcdfeohhaaGreatDoorCordGToMakeB
import Derived.Test.YtphcodcdfeohhaaGreatDoorVarNToLayN
import Derived.Test.YtphcodcdfeohhaaGreatDoorWeakToOrdP
import Derived.Test.YtphcodcdfeohhaaGreatDoorKnowToLawA
import Derived.Test.YtphcodcdfeohhaaGreatDoorWithA
import Derived.Test.YtphcodcdfeohhaaGreatDoorKnown
set_option linter.unusedVariables false
set_option linter.unusedSimpArgs false
namespace Go.Proofs.YtphcodcdfeohhaaGreatDoor
set_option maxRecDepth 100000
set_option maxHeartbeats 16000000
open Go Go.RowKit
theorem jbh0{W:World}{X Y:Nat}{d d2:Int}{A A2:Option Addr}{n c n2 c2:Nat}{ts t2:List (Int×Int)}(h:Vr X d A n c ts W)(h2:Vr Y d2 A2 n2 c2 t2 W)(hq:d=d2/\ts=t2):Calls Tryz.prog 21 #[.agg #[.int .i64 d,.slice A n c],.agg #[.int .i64 d2,.slice A2 n2 c2]] W fun e w'=>e=.returned (.bool true)/\Below W.heap.size W w':=
 (jam7 d A n c ts d2 A2 n2 c2 t2 W.heap.size W (jc2 h.2) (jc2 h2.2) (Nat.le_refl _)).mono fun e w' ⟨h1,h2⟩=>⟨by rw[h1,hq.1,hq.2];simp,h2⟩
theorem jcs1{w:World}{B n c:Nat}{A:Option Addr}{l:List Int}(h:zh7 w B A n c l){k:Nat}(hk:k<=n):zh7 w B A k c (l.take k):=by
 obtain⟨h1,h2,h3,h4⟩:=h
 refine⟨by simp at h1 ⊢;omega,by omega,h3,?_⟩
 rcases h4 with h4|⟨ad,e,hb,hc⟩
 ·exact .inl (by omega)
 ·refine .inr ⟨ad,e,hb,fun j u hu=>hc j u ?_⟩
  rw[List.map_take,List.getElem?_take] at hu
  split at hu
  ·exact hu
  ·cases hu
theorem Vr.store{W:World}{X Y n c:Nat}{d:Int}{A:Option Addr}{ts:List (Int×Int)}{cs:Array Value}(h:Vr X d A n c ts W)(hY:Blk W Y 24 cs)(hne:X≠Y)(u v:Value):Vr X d A n c ts ((W.setCell ⟨Y,0,none⟩ u).setCell ⟨Y,1,none⟩ v):=
 ⟨(h.1.far (p:=⟨Y,0,none⟩) hne u).far (p:=⟨Y,1,none⟩) hne v,jd6 (jd6 h.2 hY (i:=0) (u:=u) (by decide)) (hY.set_ 0 u) (i:=1) (u:=v) (by decide)⟩
theorem Vr.write{W:World}{X n c n' c':Nat}{d d':Int}{A A':Option Addr}{ts ts':List (Int×Int)}(h:Vr X d A n c ts W)(ho:zj9 0 (A',n',c') ts' W):Vr X d' A' n' c' ts' ((W.setCell ⟨X,0,none⟩ (.int .i64 d')).setCell ⟨X,1,none⟩ (.slice A' n' c')):=
 ⟨(h.1.set_ 0 _).set_ 1 _,jd6 (jd6 ho h.1 (i:=0) (u:=.int .i64 d') (by decide)) (h.1.set_ 0 _) (i:=1) (u:=.slice A' n' c') (by decide)⟩
theorem zg6 (xd:Int) (A:Option Addr) (n c:Nat) (xt:List (Int×Int)) (bd:Int) (bA:Option Addr) (bn bc:Nat) (bt:List (Int×Int)) (m:Int) (B:Nat) (w:World) (hx:ja3 w B A n c xt) (hy:ja3 w B bA bn bc bt) (hB:B<=w.heap.size) :
  Calls Tryz.prog 16 #[.agg #[.int .i64 xd,.slice A n c],.int .i64 m,.agg #[.int .i64 bd,.slice bA bn bc]] w (jas1 w xd xt m bd bt):=jch7 xd A n c xt m bd bA bn bc bt B w hx hy hB
theorem jay3 (a0 a1 a2 a3:Int) (w:World) (h0:0<=a0/\a0<=65535) (h1:0<=a1/\a1<=65535) (h2:0<=a2/\a2<=65535) (h3:0<=a3/\a3<=65535)
  (hE : jm0 w) (htab : Lib.TabIs Tryz.prog w "internal/strconv.uint64pow10" .u64 Lib.pow10Tab) :
  Calls Tryz.prog 6 #[.agg #[.int .u16 a0,.int .u16 a1,.int .u16 a2,.int .u16 a3]] w fun e w'=>e=.returned (.bool true)/\Below w.heap.size w w':=by
 obtain⟨gp,hgp⟩:=Option.isSome_iff_exists.1 Tryz.pow10g
 have HK:Hid (∀W,Below w.heap.size w W->Calls Tryz.prog 8 #[] W fun e w'=>e=.returned (.bool true)/\Below W.heap.size W w'):=ja0 (fun W hW=>jcs4 W (hE.below hW (Nat.le_refl _)) (jp5 hgp htab hW))
 clear hE htab hgp
 obtain⟨n,hn⟩:∃n:Nat,1+a0 % 1000=(n:Int):=⟨(1+a0 % 1000).toNat,by omega⟩
 obtain⟨m,hm⟩:∃m:Int,1+a1 % 3000=m:=⟨_,rfl⟩
 have hmb:1<=m/\m<=3000:=by omega
 obtain⟨p,hp⟩:∃p:Int,1+a3 % m=p:=⟨_,rfl⟩
 have hpm0:=Int.emod_nonneg a3 (show m≠0 by omega)
 have hpm1:=Int.emod_lt_of_pos a3 (show 0<m by omega)
 have hpb:1<=p/\p<=m:=by omega
 obtain⟨c,hc⟩:∃c:Int,a2 % (32*p+1)=c:=⟨_,rfl⟩
 have hcm0:=Int.emod_nonneg a2 (show 32*p+1≠0 by omega)
 have hcm1:=Int.emod_lt_of_pos a2 (show 0<32*p+1 by omega)
 have hcb:0<=c/\c<=96000:=by omega
 have hnb:1<=n/\n<=1000:=by omega
 obtain⟨L,F,a,b,bd,ac,td,tc,e1,e2,e3,hlen,hL0,hL1,hLF,hbb,hab,mk1,hB,mk2,hW⟩:=jbc1 hnb hmb hpb hcb
 have HMK1:=ja0 mk1;have HMK2:=ja0 mk2;have HBF:=ja0 hB;have HWF:=ja0 hW;have HLF:=ja0 hLF;have HL0:=ja0 hL0;have HL1:=ja0 hL1
 have HE1:=ja0 (fun W=>jam8 n m W);have HE2:=ja0 (fun W=>zm7 n m W);have HE3:=ja0 (fun W=>zm7 n p W)
 rw[e1] at HE1
 rw[e2] at HE2
 rw[e3] at HE3
 have hw0:IntKind.i64.wrap a0=a0:=by rw[IntKind.wrap_i64];omega
 have hw1:IntKind.i64.wrap a1=a1:=by rw[IntKind.wrap_i64];omega
 have hw2:IntKind.i64.wrap a2=a2:=by rw[IntKind.wrap_i64];omega
 have hw3:IntKind.i64.wrap a3=a3:=by rw[IntKind.wrap_i64];omega
 have hw4:IntKind.i64.wrap (a0.tmod 1000)=a0 % 1000:=by rw[Int.tmod_eq_emod_of_nonneg (by omega),IntKind.wrap_i64];omega
 have hw5:IntKind.i64.wrap (1+a0.tmod 1000)=n:=by rw[Int.tmod_eq_emod_of_nonneg (by omega),IntKind.wrap_i64];omega
 have hw6:IntKind.i64.wrap (1+a0 % 1000)=n:=by rw[IntKind.wrap_i64];omega
 have hw7:IntKind.i64.wrap (a1.tmod 3000)=a1 % 3000:=by rw[Int.tmod_eq_emod_of_nonneg (by omega),IntKind.wrap_i64];omega
 have hw8:IntKind.i64.wrap (1+a1.tmod 3000)=m:=by rw[Int.tmod_eq_emod_of_nonneg (by omega),IntKind.wrap_i64];omega
 have hw9:IntKind.i64.wrap (1+a1 % 3000)=m:=by rw[IntKind.wrap_i64];omega
 have hwa:IntKind.i64.wrap (a3.tmod m)=a3 % m:=by rw[Int.tmod_eq_emod_of_nonneg (by omega),IntKind.wrap_i64];omega
 have hwb:IntKind.i64.wrap (1+a3.tmod m)=p:=by rw[Int.tmod_eq_emod_of_nonneg (by omega),IntKind.wrap_i64];omega
 have hwc:IntKind.i64.wrap (1+a3 % m)=p:=by rw[IntKind.wrap_i64];omega
 have hwd:IntKind.i64.wrap (32*p)=32*p:=by rw[IntKind.wrap_i64];omega
 have hwe:IntKind.i64.wrap (32*p+1)=32*p+1:=by rw[IntKind.wrap_i64];omega
 have hwf:IntKind.i64.wrap (a2.tmod (32*p+1))=c:=by rw[Int.tmod_eq_emod_of_nonneg (by omega),IntKind.wrap_i64];omega
 have hwg:¬m=0:=by omega
 have hwh:¬32*p+1=0:=by omega
 have hwi:a0.tmod 1000=a0 % 1000:=Int.tmod_eq_emod_of_nonneg (by omega)
 clear e1 e2 e3 mk1 mk2 hB hW hLF hL0 hL1
 go_enter Tryz.func6,Tryz.ntmps6
 go_upto_region 1 with fail
 have HB0:=ja0 (((Below.refl w.heap.size w).alloc (Nat.le_refl _) (.cells #[.int .u16 a0,.int .u16 a1,.int .u16 a2,.int .u16 a3] 50)).drew)
 have HP0:=ja0 ((Blk.new w 50 #[.int .u16 a0,.int .u16 a1,.int .u16 a2,.int .u16 a3]).drew)
 obtain⟨W,hW⟩:∃W,W=w.alloc (.cells #[.int .u16 a0,.int .u16 a1,.int .u16 a2,.int .u16 a3] 50):=⟨_,rfl⟩
 rw[<-hW] at HB0 HP0 ⊢
 have p0:W.drew.cell? ⟨w.heap.size,0,none⟩=some (.int .u16 a0):=HP0.out.cell 0
 have p1:W.drew.cell? ⟨w.heap.size,1,none⟩=some (.int .u16 a1):=HP0.out.cell 1
 have p2:W.drew.cell? ⟨w.heap.size,2,none⟩=some (.int .u16 a2):=HP0.out.cell 2
 have p3:W.drew.cell? ⟨w.heap.size,3,none⟩=some (.int .u16 a3):=HP0.out.cell 3
 clear hW
 refine jj7 (fun w'=>w'=W.drew) 50 (fun _=>True) 50 (fun _=>True) (by kernel_rfl) ⟨rfl,fun _=>trivial,fun _=>trivial⟩ (fun ja1=>?_)
 refine ja2 0 rfl (by decide +kernel) (fun c a w h=>by first|exact h|(cases h;done)) (by rfl) (v:=?_) ?_ ja1 (fun ja4=>?_)
 rotate_left 1
 focus (intro w' hSw;obtain⟨hC,hF,hG⟩:=hSw;clear hG;clear hC;clear hF;go_simp;try with_reducible rfl)
 clear ja1
 rename ja8 _ _ _ _ _ _ _=>ja1
 (try simp only[Act.put,lA,lB,lC])
 refine ja2 1 rfl (by decide +kernel) (fun c a w h=>by first|exact h|(cases h;done)) (by rfl) (v:=?_) ?_ ja1 (fun ja4=>?_)
 rotate_left 1
 focus (intro w' hSw;obtain⟨hC,hF,hG⟩:=hSw;clear hG;subst hC;clear hF;go_simp;try with_reducible rfl)
 clear ja1
 rename ja8 _ _ _ _ _ _ _=>ja1
 (try simp only[Act.put,lA,lB,lC])
 refine ja2 2 rfl (by decide +kernel) (fun c a w h=>by first|exact h|(cases h;done)) (by rfl) (v:=?_) ?_ ja1 (fun ja4=>?_)
 rotate_left 1
 focus (intro w' hSw;obtain⟨hC,hF,hG⟩:=hSw;clear hG;clear hC;clear hF;go_simp;try with_reducible rfl)
 clear ja1
 rename ja8 _ _ _ _ _ _ _=>ja1
 (try simp only[Act.put,lA,lB,lC])
 refine ja2 3 rfl (by decide +kernel) (fun c a w h=>by first|exact h|(cases h;done)) (by rfl) (v:=?_) ?_ ja1 (fun ja4=>?_)
 rotate_left 1
 focus (intro w' hSw;obtain⟨hC,hF,hG⟩:=hSw;clear hG;subst hC;clear hF;go_simp;try with_reducible rfl)
 clear ja1
 rename ja8 _ _ _ _ _ _ _=>ja1
 (try simp only[Act.put,lA,lB,lC])
 refine ja2 4 rfl (by decide +kernel) (fun c a w h=>by first|exact h|(cases h;done)) (by rfl) (v:=?_) ?_ ja1 (fun ja4=>?_)
 rotate_left 1
 focus (intro w' hSw;obtain⟨hC,hF,hG⟩:=hSw;clear hG;clear hC;clear hF;go_simp;try with_reducible rfl)
 clear ja1
 rename ja8 _ _ _ _ _ _ _=>ja1
 (try simp only[Act.put,lA,lB,lC])
 refine ja2 5 rfl (by decide +kernel) (fun c a w h=>by first|exact h|(cases h;done)) (by rfl) (v:=?_) ?_ ja1 (fun ja4=>?_)
 rotate_left 1
 focus (intro w' hSw;obtain⟨hC,hF,hG⟩:=hSw;clear hG;subst hC;clear hF;go_simp;try with_reducible rfl)
 clear ja1
 rename ja8 _ _ _ _ _ _ _=>ja1
 (try simp only[Act.put,lA,lB,lC])
 refine ja2 6 rfl (by decide +kernel) (fun c a w h=>by first|exact h|(cases h;done)) (by rfl) (v:=?_) ?_ ja1 (fun ja4=>?_)
 rotate_left 1
 focus (intro w' hSw;obtain⟨hC,hF,hG⟩:=hSw;clear hG;clear hC;clear hF;go_simp;try with_reducible rfl)
 clear ja1
 rename ja8 _ _ _ _ _ _ _=>ja1
 (try simp only[Act.put,lA,lB,lC])
 refine ja2 7 rfl (by decide +kernel) (fun c a w h=>by first|exact h|(cases h;done)) (by rfl) (v:=?_) ?_ ja1 (fun ja4=>?_)
 rotate_left 1
 focus (intro w' hSw;obtain⟨hC,hF,hG⟩:=hSw;clear hG;subst hC;clear hF;go_simp;try with_reducible rfl)
 clear ja1
 rename ja8 _ _ _ _ _ _ _=>ja1
 (try simp only[Act.put,lA,lB,lC])
 refine ja2 8 rfl (by decide +kernel) (fun c a w h=>by first|exact h|(cases h;done)) (by rfl) (v:=?_) ?_ ja1 (fun ja4=>?_)
 rotate_left 1
 focus (intro w' hSw;obtain⟨hC,hF,hG⟩:=hSw;clear hG;clear hC;clear hF;go_simp;try with_reducible rfl)
 clear ja1
 rename ja8 _ _ _ _ _ _ _=>ja1
 (try simp only[Act.put,lA,lB,lC])
 refine ja2 9 rfl (by decide +kernel) (fun c a w h=>by first|exact h|(cases h;done)) (by rfl) (v:=?_) ?_ ja1 (fun ja4=>?_)
 rotate_left 1
 focus (intro w' hSw;obtain⟨hC,hF,hG⟩:=hSw;clear hG;clear hC;clear hF;go_simp;try with_reducible rfl)
 clear ja1
 rename ja8 _ _ _ _ _ _ _=>ja1
 (try simp only[Act.put,lA,lB,lC])
 refine ja2 10 rfl (by decide +kernel) (fun c a w h=>by first|exact h|(cases h;done)) (by rfl) (v:=?_) ?_ ja1 (fun ja4=>?_)
 rotate_left 1
 focus (intro w' hSw;obtain⟨hC,hF,hG⟩:=hSw;clear hG;clear hC;clear hF;go_simp;try with_reducible rfl)
 clear ja1
 rename ja8 _ _ _ _ _ _ _=>ja1
 (try simp only[Act.put,lA,lB,lC])
 refine ja2 11 rfl (by decide +kernel) (fun c a w h=>by first|exact h|(cases h;done)) (by rfl) (v:=?_) ?_ ja1 (fun ja4=>?_)
 rotate_left 1
 focus (intro w' hSw;obtain⟨hC,hF,hG⟩:=hSw;clear hG;clear hC;clear hF;go_simp;try with_reducible rfl)
 clear ja1
 rename ja8 _ _ _ _ _ _ _=>ja1
 (try simp only[Act.put,lA,lB,lC])
 refine jf8 (by decide +kernel) ?_
 clear ja1
 clear p0 p1 p2 p3
 have HB1:=ja0 HB0.out
 clear HB0 HP0
 have hzw:w.heap.size<=W.drew.heap.size:=HB1.out.size
 have HS:Hid (Below w.heap.size w W.drew/\w.heap.size<=W.drew.heap.size):=ja0 ⟨HB1.out,hzw⟩
 clear HB1 hzw
 generalize W.drew=W1 at *
 go_upto_region 3 with fail
 go_upto_region 5 with(first
  | (go_at_call 22;refine(HE1.out W1).mono ?_;rintro e w101 ⟨rfl,hb⟩
     have HS_0:=ja0 (Kept.keep (S:=fun W=>(Below w.heap.size w W/\w.heap.size<=W.heap.size)) _ _ HS.out hb)
     clear hb)
  | (go_at_call 23;refine(HE2.out w101).mono ?_;rintro e w102 ⟨A4,c4,rfl,hI,hb⟩
     have HS_1:=ja0 (Kept.keep (S:=fun W=>(Below w.heap.size w W/\w.heap.size<=W.heap.size)) _ _ HS_0.out hb)
     have HI4:=ja0 (Rq.of hI)
     clear hI
     clear hb))
 have HS0:=ja0 HS_1.out
 clear HS
 have HS:=ja0 HS0.out
 clear HS0
 clear HS_0
 go_upto_region 6 with(first
  | (go_at_call 23;refine(HE3.out w102).mono ?_;rintro e w103 ⟨A5,c5,rfl,hI,hb⟩
     have HS_0:=ja0 (Kept.keep (S:=fun W=>(Below w.heap.size w W/\w.heap.size<=W.heap.size)) _ _ HS.out hb)
     have HI6:=ja0 (Rq.more (Rq.below HI4.out hb) hb.size)
     have HI5:=ja0 (Rq.of hI)
     clear hI
     clear hb))
 have HS0:=ja0 HS_0.out
 clear HS
 have HS:=ja0 HS0.out
 clear HS0
 clear HI4 HE1 HE2 HE3 hw0 hw1 hw4 hw5 hw6 hw7 hw8 hw9 hwi
 have hcap:=HI6.out.2.1
 obtain⟨ad,rfl,-,hc0⟩:=zh7.at_ HI6.out (i:=0) (by omega)
 obtain⟨ad',had,-,hc1⟩:=zh7.at_ HI6.out (i:=L.length-1) (by omega)
 obtain rfl:ad=ad':=by injection had
 have hx0:L[0]'(by omega)=1:=by
  have h5:=HL0.out
  rw[List.getElem?_eq_getElem (by omega)] at h5
  injection h5
 have hx1:L[L.length-1]'(by omega)=b:=by
  have h5:=HL1.out
  rw[List.getElem?_eq_getElem (by omega)] at h5
  injection h5
 rw[hx0] at hc0
 replace hc0:w103.cell? ad=some (.int .i64 1):=by simpa [Addr.add] using hc0
 rw[hx1] at hc1
 clear had hx0 hx1
 have HIS:=ja0 (jcs1 HI6.out (k:=F.length) (by omega))
 rw[HLF.out] at HIS
 have HINT:=ja0 (jbv2 A5 F.length c5 F (some ad) F.length c4 F w103.heap.size w103 HI5.out HIS.out (Nat.le_refl _))
 rw[decide_eq_true (rfl:F=F)] at HINT
 clear HL0 HL1 HLF HI5 HI6
 have hlc1:F.length<=c4:=Nat.le_trans hlen.2.1 hcap
 have hl1:¬(L.length:Int)=0:=by omega
 have hl2:¬(F.length:Int)=0:=by omega
 have hl9:((L.length:Int)==0)=false:=by rw[beq_eq_false_iff_ne];omega
 have hl0:((F.length:Int)==0)=false:=by rw[beq_eq_false_iff_ne];omega
 have hl3:¬(L.length:Int)<(F.length:Int):=by omega
 have hl4:(F.length:Int)<=(c4:Int):=by omega
 have hl5:¬m<b:=by omega
 have hl6:¬b<1:=by omega
 have hl7:¬a<1:=by omega
 have hl8:¬100000<a:=by omega
 generalize L.length=LN at *
 generalize F.length=FN at *
 go_upto_region 8 with(first
  | (go_at_call 24;refine HINT.out.mono ?_;rintro e w9 ⟨rfl,mm,rfl⟩
     have HS_0:=ja0 (Kept.keep (S:=fun W=>(Below w.heap.size w W/\w.heap.size<=W.heap.size)) _ _ HS.out (jc8 (Below.refl _ _) mm))))
 clear hc0 hc1 HINT hl9 hl0 hl1 hl2 hl3 hl4 hl5 hl6 hl7 hl8 hlc1 HIS hcap
 generalize w103.drewN mm=W9 at *
 have HS9:=ja0 HS_0.out
 clear HS HS_0
 have HS:=ja0 HS9.out
 clear HS9
 go_upto_region 10 with fail
 clear hw2 hw3 hwa hwb hwc hwd hwe hwf hwg hwh
 have HM:=ja0 (jby0 W9 (a) (b))
 rw[HMK1.out] at HM
 clear HMK1
 go_upto_region 13 with(first
  | (go_at_call 25;refine HM.out.mono ?_;rintro e w104 ⟨A18,n18,c18,rfl,ho,hb⟩
     have HS2:=ja0 (Kept.keep (S:=fun W=>(Below w.heap.size w W/\w.heap.size<=W.heap.size)) _ _ HS.out (((Below.refl _ _).alloc (Nat.le_refl _) _).trans (hb.mono (by simp))))
     have HO2:=ja0 (jc5 ho (Nat.zero_le _))
     clear ho hb HM))
 have HS3:=ja0 (And.intro (Kept.keep (S:=fun W=>(Below w.heap.size w W/\w.heap.size<=W.heap.size)) _ _ HS2.out ((Below.refl _ _).alloc (Nat.le_refl _) (.cells #[.int .i64 (bd),.slice A18 n18 c18] 24))) (Vr.new (d:=bd) HO2.out))
 obtain⟨X18,hX⟩:∃X,X=w104.heap.size:=⟨_,rfl⟩
 rw[<-hX] at HS3  ⊢
 clear hX HS2 HO2 HS
 generalize w104.alloc (.cells #[.int .i64 (bd),.slice A18 n18 c18] 24)=W105 at *
 have HS:=ja0 HS3.out
 clear HS3
 have HM:=ja0 (jby0 W105 (c) (p))
 rw[HMK2.out] at HM
 clear HMK2
 go_upto_region 16 with(first
  | (go_at_call 25;refine HM.out.mono ?_;rintro e w106 ⟨A19,n19,c19,rfl,ho,hb⟩
     have HS2:=ja0 (Kept.keep (S:=fun W=>((Below w.heap.size w W/\w.heap.size<=W.heap.size)/\Vr X18 (bd) A18 n18 c18 (jb2 ac) W)) _ _ HS.out (((Below.refl _ _).alloc (Nat.le_refl _) _).trans (hb.mono (by simp))))
     have HO2:=ja0 (jc5 ho (Nat.zero_le _))
     clear ho hb HM))
 have HS3:=ja0 (And.intro (Kept.keep (S:=fun W=>((Below w.heap.size w W/\w.heap.size<=W.heap.size)/\Vr X18 (bd) A18 n18 c18 (jb2 ac) W)) _ _ HS2.out ((Below.refl _ _).alloc (Nat.le_refl _) (.cells #[.int .i64 (td),.slice A19 n19 c19] 24))) (Vr.new (d:=td) HO2.out))
 obtain⟨X19,hX⟩:∃X,X=w106.heap.size:=⟨_,rfl⟩
 rw[<-hX] at HS3  ⊢
 clear hX HS2 HO2 HS
 generalize w106.alloc (.cells #[.int .i64 (td),.slice A19 n19 c19] 24)=W107 at *
 have HS:=ja0 HS3.out
 clear HS3
 go_upto_region 17 with(first
  | (go_at_call 27;refine(jr7 n 1 _).mono ?_;rintro e w108 ⟨A9,n9,c9,rfl,ho,hb⟩
     have HS_0:=ja0 (Kept.keep (S:=fun W=>(((Below w.heap.size w W/\w.heap.size<=W.heap.size)/\Vr X18 (bd) A18 n18 c18 (jb2 ac) W)/\Vr X19 (td) A19 n19 c19 (jb2 tc) W)) _ _ HS.out hb)
     have HC:=ja0 (jbg9 1 A9 n9 c9 [((n:Int),1)] w108.heap.size w108 (jc2 ho) (Nat.le_refl _))
     clear ho
     clear hb)
  | (go_at_call 26;refine(HC.out).mono ?_;rintro e w109 ⟨res,hres,A20,n20,c20,rfl,ho,hb⟩
     have HS_1:=ja0 (Kept.keep (S:=fun W=>(((Below w.heap.size w W/\w.heap.size<=W.heap.size)/\Vr X18 (bd) A18 n18 c18 (jb2 ac) W)/\Vr X19 (td) A19 n19 c19 (jb2 tc) W)) _ _ HS_0.out hb)
     obtain⟨s,q,rfl,_,_,_,_⟩:=jcm8 (n:=(n:Int)) (by omega) (by rw[show jc6 (n:Int)=(1,[((n:Int),1)]) by unfold jc6;rw[if_neg (by omega)]];exact hres)
     have HO:=ja0 (jc5 ho (Nat.zero_le _))
     have HRT:=ja0 hres
     clear ho HC hres
     clear hb))
 have HS3:=ja0 (And.intro (Kept.keep (S:=fun W=>(((Below w.heap.size w W/\w.heap.size<=W.heap.size)/\Vr X18 (bd) A18 n18 c18 (jb2 ac) W)/\Vr X19 (td) A19 n19 c19 (jb2 tc) W)) _ _ HS_1.out ((Below.refl _ _).alloc (Nat.le_refl _) (.cells #[.int .i64 (1),.slice A20 n20 c20] 24))) (Vr.new (d:=1) HO.out))
 obtain⟨X20,hX⟩:∃X,X=w109.heap.size:=⟨_,rfl⟩
 rw[<-hX] at HS3  ⊢
 clear hX HS_1 HO HS
 generalize w109.alloc (.cells #[.int .i64 (1),.slice A20 n20 c20] 24)=W110 at *
 have HS:=ja0 HS3.out
 clear HS3
 clear HS_0
 obtain⟨xd,xt,xc,hx⟩:∃a b c,jc4 bd (jb2 ac) 1 [(s,q)] (-1)=(a,b,c):=⟨_,_,_,rfl⟩
 have hxl:=jcm7 hx
 obtain⟨rfl,hsg⟩:=jcp2 hnb HBF.out HRT.out hx
 have HX:=ja0 hx
 have HSGN:=ja0 hsg
 clear hx hsg HRT
 have h18:X18<W110.heap.size:=(HS.out.1.1.2.1).lt
 have h19:X19<W110.heap.size:=(HS.out.1.2.1).lt
 have hwW:w.heap.size<=W110.heap.size:=HS.out.1.1.1.2
 obtain⟨u18,v18,_,_⟩:=(HS.out.1.1.2.1).two
 have h18:X18<W110.heap.size:=(HS.out.1.1.2.1).lt
 have HN18:Hid (n18<=1000):=ja0 (Vr.le (HS.out.1.1.2) (by unfold jb2;split<;>simp))
 obtain⟨u20,v20,_,_⟩:=(HS.out.2.1).two
 have h20:X20<W110.heap.size:=(HS.out.2.1).lt
 have HN20:Hid (n20<=1000):=ja0 (Vr.le (HS.out.2) (by simp))
 have HGd:Hid (((((Below w.heap.size w W110.drew/\w.heap.size<=W110.drew.heap.size)/\Vr X18 (bd) A18 n18 c18 (jb2 ac) W110.drew)/\Vr X19 (td) A19 n19 c19 (jb2 tc) W110.drew)/\Vr X20 (1) A20 n20 c20 ([(s,q)]) W110.drew)/\(Below W110.heap.size W110 W110.drew/\W110.heap.size<=W110.drew.heap.size)):=ja0 ⟨Kept.keep (S:=fun W=>((((Below w.heap.size w W/\w.heap.size<=W.heap.size)/\Vr X18 (bd) A18 n18 c18 (jb2 ac) W)/\Vr X19 (td) A19 n19 c19 (jb2 tc) W)/\Vr X20 (1) A20 n20 c20 ([(s,q)]) W)) _ _ HS.out (Below.drew (Below.refl _ _)),Below.drew (Below.refl _ _),Nat.le_refl _⟩
 refine jm8 8 (fun W'=>Below W110.heap.size W110 W') (fun _ v W'=>jdp9 W110.heap.size v W') [7] (fun W'=>((((Below w.heap.size w W'/\w.heap.size<=W'.heap.size)/\Vr X18 (bd) A18 n18 c18 (jb2 ac) W')/\Vr X19 (td) A19 n19 c19 (jb2 tc) W')/\Vr X20 (1) A20 n20 c20 ([(s,q)]) W')/\(Below W110.heap.size W110 W'/\W110.heap.size<=W'.heap.size)) (by kernel_rfl)
  (Floats.of (by decide +kernel) (fun c a d v w=>by cases d<;>exact Iff.rfl) (by
   intro i hi a W' hF
   obtain rfl:i=7:=by simpa using hi
   refine wpOp_step rfl (fun K' hK0=>?_)
   have hK:=ja0 hK0
   clear hK0
   go_simp
   exact hK.out _ _ ⟨_,rfl,⟨_,rfl,hF.size,Blk.new _ _ _⟩,(Below.refl _ _).alloc (Nat.le_refl _) _⟩) (fun i v W W' ⟨X,h1,h2,h3⟩ hb=>⟨X,h1,h2,h3.below hb h3.lt⟩))
  (fun _ _ _ h=>h) (by decide) HGd.out (fun W h=>h.2.1) (fun HFL=>?_)
 refine jd9.take 0 (v:=?_) rfl rfl HFL (by decide +kernel) (fun W h=>h.2.1) (by rfl) (fun W hF=>?_) ?_
 rotate_left 1
 focus (have hF:=hF (by decide +kernel);have e1:=(hF.cell (p:=⟨X18,0,none⟩) h18).trans u18;have e2:=(hF.cell (p:=⟨X18,1,none⟩) h18).trans v18;clear hF;go_simp;try with_reducible rfl)
 (try simp only[Act.put,lA,lB,lC])
 refine jd9.take 2 (v:=?_) rfl rfl HFL (by decide +kernel) (fun W h=>h.2.1) (by rfl) (fun W hF=>?_) ?_
 rotate_left 1
 focus (have hF:=hF (by decide +kernel);have e1:=(hF.cell (p:=⟨X20,0,none⟩) h20).trans u20;have e2:=(hF.cell (p:=⟨X20,1,none⟩) h20).trans v20;clear hF;go_simp;try with_reducible rfl)
 (try simp only[Act.put,lA,lB,lC])
 refine jd9.on 1 (fun x:Sl=>.agg #[.int .i64 (bd),.slice x.1 x.2.1 x.2.2]) (fun x W=>zj9 0 x (jb2 ac) W) rfl rfl HFL (by decide +kernel) (fun W h=>h.2.1) (fun W hG K' hK=>?_) (fun x1 hF1=>?_)
 focus
  have HC:=ja0 (js8 (bd) A18 n18 c18 W.heap.size (jb2 ac) W (Rq.of (jc2 (hG.1.1.1.2.2))) (Nat.le_refl _) HN18.out)
  clear hG
  go_simp
  go_wp2_with (first
   | (go_at_call 10;refine HC.out.mono ?_;rintro e w6 ⟨A,n,c,rfl,ho,hb⟩
      have HO:=ja0 (jc5 ho (Nat.zero_le _));have HBB:=ja0 hb;clear ho hb))
  exact hK.out (A,n,c) _ HO.out HBB.out
 (try simp only[Act.put,lA,lB,lC])
 refine jd9.on 3 (fun x:Sl=>.tuple #[.agg #[.int .i64 (xd),.slice x.1 x.2.1 x.2.2],.int .i64 (0)]) (fun x W=>zj9 0 x (xt) W) rfl rfl HFL (by decide +kernel) hF1 (fun W hG K' hK=>?_) (fun x3 hF3=>?_)
 focus
  have HC:=ja0 (zj7 (bd) x1.1 x1.2.1 x1.2.2 (jb2 ac) (1) A20 n20 c20 ([(s,q)])  W.heap.size W ((jc2 (hG.2))) ((jc2 (hG.1.1.2.2))) (Nat.le_refl _) )
  rw[HX.out] at HC
  clear hG
  go_simp
  go_wp2_with (first
   | (go_at_call 28;refine HC.out.mono ?_;rintro e w6 ⟨A,n,c,rfl,ho,hb⟩
      have HO:=ja0 (jc5 ho (Nat.zero_le _));clear ho
      have HBB:=ja0 hb;clear hb))
  exact hK.out (A,n,c) _ HO.out HBB.out
 (try simp only[Act.put,lA,lB,lC])
 refine jd9.take 4 (v:=?_) rfl rfl HFL (by decide +kernel) hF3 (by rfl) (fun W hF=>?_) ?_
 rotate_left 1
 focus (clear hF;go_simp;try with_reducible rfl)
 (try simp only[Act.put,lA,lB,lC])
 refine jd9.take 5 (v:=?_) rfl rfl HFL (by decide +kernel) hF3 (by rfl) (fun W hF=>?_) ?_
 rotate_left 1
 focus (clear hF;go_simp;try with_reducible rfl)
 (try simp only[Act.put,lA,lB,lC])
 refine jd9.take 6 (v:=?_) rfl rfl HFL (by decide +kernel) hF3 (by rfl) (fun W hF=>?_) ?_
 rotate_left 1
 focus (clear hF;go_simp;try with_reducible rfl)
 (try simp only[Act.put,lA,lB,lC])
 refine jd9.force (some 21) HFL (by decide +kernel) rfl hF3 (fun vf=>?_)
 (try simp only[Act.put,lA,lB,lC])
 refine jd9.fin rfl (fun W h=>hF3 W h.1) (fun W111 hG ja1=>?_)
 obtain⟨hG,X21,rfl,hX,hN⟩:=hG
 have HS1:=ja0 (Vr.made (S:=fun W=>((((Below w.heap.size w W/\w.heap.size<=W.heap.size)/\Vr X18 (bd) A18 n18 c18 (jb2 ac) W)/\Vr X19 (td) A19 n19 c19 (jb2 tc) W)/\Vr X20 (1) A20 n20 c20 ([(s,q)]) W)) (d:=xd) HS.out hG.1.1.2.1 hX hN hG.2)
 obtain⟨q0,q1,qf0,qf1⟩:=hN.two
 have hGE21:=hX
 clear hG HFL hF1 hF3 hX hN HGd HS u18 v18 h18 HN18 u20 v20 h20 HN20
 refine jb5 8 rfl (by decide +kernel) (fun K hK=>?_)
 go_simp
 refine hK.out _ _ ⟨trivial,fun h=>absurd h (by decide +kernel),fun _=>trivial⟩ (fun ja1=>?_)
 clear hK K
 (try simp only[Act.put,lA,lB,lC])
 refine ja2 9 rfl (by decide +kernel) (fun c a w h=>by first|exact h|(cases h;done)) (by rfl) (v:=?_) ?_ ja1 (fun ja4=>?_)
 rotate_left 1
 focus (intro w' hSw;clear hSw;go_simp;try with_reducible rfl)
 clear ja1
 rename ja8 _ _ _ _ _ _ _=>ja1
 (try simp only[Act.put,lA,lB,lC])
 refine jf8 (by decide +kernel) ?_
 clear ja1
 clear q0 q1 qf0 qf1
 generalize (W111.setCell ⟨X21,0,none⟩ (.int .i64 (xd))).setCell ⟨X21,1,none⟩ (.slice x3.1 x3.2.1 x3.2.2)=W112 at *
 obtain⟨A21,n21,c21⟩:=x3
 dsimp only at HS1
 have HS:=ja0 HS1.out
 clear HS1
 have hX21:w.heap.size<=X21:=Nat.le_trans hwW hGE21
 have hne18:X18≠X21:=by omega
 have hne19:X19≠X21:=by omega
 clear h18 h19 hwW hGE21
 go_upto_region 20 with fail
 obtain⟨u21,v21,_,_⟩:=(HS.out.2.1).two
 go_upto_region 21 with(first
  | (go_at_call 10;refine(js8 (xd) A21 n21 c21 W112.heap.size (xt) W112 (Rq.of (jc2 (HS.out.2.2))) (Nat.le_refl _) (Vr.le (HS.out.2) hxl)).mono ?_;rintro e w113 ⟨Ak,nk,ck,rfl,ho,hb⟩
     have HS_0:=ja0 (Kept.keep (S:=fun W=>(((((Below w.heap.size w W/\w.heap.size<=W.heap.size)/\Vr X18 (bd) A18 n18 c18 (jb2 ac) W)/\Vr X19 (td) A19 n19 c19 (jb2 tc) W)/\Vr X20 (1) A20 n20 c20 ([(s,q)]) W)/\Vr X21 (xd) A21 n21 c21 (xt) W)) _ _ HS.out hb)
     have HC:=ja0 (zy0 (xd) Ak nk ck (xt) w113.heap.size w113 (jc2 ho) (Nat.le_refl _))
     clear ho
     clear hb)
  | (go_at_call 29;refine(HC.out).mono ?_;rintro e w114 ⟨sg,sc,rfl,hr,hb⟩
     have HS_1:=ja0 (Kept.keep (S:=fun W=>(((((Below w.heap.size w W/\w.heap.size<=W.heap.size)/\Vr X18 (bd) A18 n18 c18 (jb2 ac) W)/\Vr X19 (td) A19 n19 c19 (jb2 tc) W)/\Vr X20 (1) A20 n20 c20 ([(s,q)]) W)/\Vr X21 (xd) A21 n21 c21 (xt) W)) _ _ HS_0.out hb)
     obtain⟨rfl,hneg,hpos⟩:=HSGN.out _ _ hr
     have HNEG:=ja0 hneg;have HPOS:=ja0 hpos
     clear hr hneg hpos HC
     clear hb))
 clear u21 v21
 have HS0:=ja0 HS_1.out
 clear HS
 have HS:=ja0 HS0.out
 clear HS0
 clear HS_0 HS_1
 go_upto_region 23 with fail
 by_cases hng:sg<0
 rotate_left 1
 ·have HIS:=ja0 (HPOS.out (by omega))
  clear HNEG HPOS HSGN
  go_upto_region 28 with fail
  obtain⟨hf1,hf2⟩:=HWF.out _ _ HIS.out
  have HF1:=ja0 hf1;have HF2:=ja0 hf2
  clear hf1 hf2
  obtain⟨u18,v18,_,_⟩:=(HS.out.1.1.1.2.1).two
  have h18:X18<w114.heap.size:=(HS.out.1.1.1.2.1).lt
  have HN18:Hid (n18<=1000):=ja0 (Vr.le (HS.out.1.1.1.2) (by unfold jb2;split<;>simp))
  obtain⟨u21,v21,_,_⟩:=(HS.out.2.1).two
  have h21:X21<w114.heap.size:=(HS.out.2.1).lt
  have HN21:Hid (n21<=1000):=ja0 (Vr.le (HS.out.2) hxl)
  have HGd:Hid ((((((Below w.heap.size w w114.drew/\w.heap.size<=w114.drew.heap.size)/\Vr X18 (bd) A18 n18 c18 (jb2 ac) w114.drew)/\Vr X19 (td) A19 n19 c19 (jb2 tc) w114.drew)/\Vr X20 (1) A20 n20 c20 ([(s,q)]) w114.drew)/\Vr X21 (xd) A21 n21 c21 (xt) w114.drew)/\(Below w114.heap.size w114 w114.drew/\w114.heap.size<=w114.drew.heap.size)):=ja0 ⟨Kept.keep (S:=fun W=>(((((Below w.heap.size w W/\w.heap.size<=W.heap.size)/\Vr X18 (bd) A18 n18 c18 (jb2 ac) W)/\Vr X19 (td) A19 n19 c19 (jb2 tc) W)/\Vr X20 (1) A20 n20 c20 ([(s,q)]) W)/\Vr X21 (xd) A21 n21 c21 (xt) W)) _ _ HS.out (Below.drew (Below.refl _ _)),Below.drew (Below.refl _ _),Nat.le_refl _⟩
  refine jm8 8 (fun W'=>Below w114.heap.size w114 W') (fun _ _ _=>True) [] (fun W'=>(((((Below w.heap.size w W'/\w.heap.size<=W'.heap.size)/\Vr X18 (bd) A18 n18 c18 (jb2 ac) W')/\Vr X19 (td) A19 n19 c19 (jb2 tc) W')/\Vr X20 (1) A20 n20 c20 ([(s,q)]) W')/\Vr X21 (xd) A21 n21 c21 (xt) W')/\(Below w114.heap.size w114 W'/\w114.heap.size<=W'.heap.size)) (by kernel_rfl)
   (Floats.of (by decide +kernel) (fun c a d v w=>by cases d<;>exact Iff.rfl) (by intro i hi;cases hi) (fun _ _ _ _ _ _=>trivial))
   (fun _ _ _ h=>h) (by decide) HGd.out (fun W h=>h.2.1) (fun HFL=>?_)
  refine jd9.take 0 (v:=?_) rfl rfl HFL (by decide +kernel) (fun W h=>h.2.1) (by rfl) (fun W hF=>?_) ?_
  rotate_left 1
  focus (have hF:=hF (by decide +kernel);have e1:=(hF.cell (p:=⟨X18,0,none⟩) h18).trans u18;have e2:=(hF.cell (p:=⟨X18,1,none⟩) h18).trans v18;clear hF;go_simp;try with_reducible rfl)
  (try simp only[Act.put,lA,lB,lC])
  refine jd9.take 1 (v:=?_) rfl rfl HFL (by decide +kernel) (fun W h=>h.2.1) (by rfl) (fun W hF=>?_) ?_
  rotate_left 1
  focus (clear hF;go_simp;try with_reducible rfl)
  (try simp only[Act.put,lA,lB,lC])
  refine jd9.take 2 (v:=?_) rfl rfl HFL (by decide +kernel) (fun W h=>h.2.1) (by rfl) (fun W hF=>?_) ?_
  rotate_left 1
  focus (have hF:=hF (by decide +kernel);have e1:=(hF.cell (p:=⟨X21,0,none⟩) h21).trans u21;have e2:=(hF.cell (p:=⟨X21,1,none⟩) h21).trans v21;clear hF;go_simp;try with_reducible rfl)
  (try simp only[Act.put,lA,lB,lC])
  refine jd9.on 3 (fun x:Sl=>.agg #[.int .i64 (xd),.slice x.1 x.2.1 x.2.2]) (fun x W=>zj9 0 x (xt) W) rfl rfl HFL (by decide +kernel) (fun W h=>h.2.1) (fun W hG K' hK=>?_) (fun x3 hF3=>?_)
  focus
   have HC:=ja0 (js8 (xd) A21 n21 c21 W.heap.size (xt) W (Rq.of (jc2 (hG.1.2.2))) (Nat.le_refl _) HN21.out)
   clear hG
   go_simp
   go_wp2_with (first
    | (go_at_call 10;refine HC.out.mono ?_;rintro e w6 ⟨A,n,c,rfl,ho,hb⟩
       have HO:=ja0 (jc5 ho (Nat.zero_le _));have HBB:=ja0 hb;clear ho hb))
   exact hK.out (A,n,c) _ HO.out HBB.out
  (try simp only[Act.put,lA,lB,lC])
  refine jd9.on 4 (fun x:Bool×Int=>.tuple #[.bool x.1,.int .i64 x.2]) (fun x W=>jm3 bd (jb2 ac) (n:Int) (xd) (xt) x.1 x.2) rfl rfl HFL (by decide +kernel) hF3 (fun W hG K' hK=>?_) (fun x4 hF4=>?_)
  focus
   have HC:=ja0 (zg6 (bd) A18 n18 c18 (jb2 ac) (xd) x3.1 x3.2.1 x3.2.2 (xt) (n:Int) W.heap.size W ((jc2 (hG.1.1.1.1.1.2.2))) ((jc2 (hG.2))) (Nat.le_refl _) )
   clear hG
   go_simp
   go_wp2_with (first
    | (go_at_call 16;refine HC.out.mono ?_;rintro e w6 ⟨b1,d1,rfl,hr,hb⟩
       have HQ:=ja0 hr;clear hr
       have HBB:=ja0 hb;clear hb))
   exact hK.out (b1,d1) _ HQ.out HBB.out
  (try simp only[Act.put,lA,lB,lC])
  refine jd9.fin rfl hF4 (fun W115 hG ja1=>?_)
  have HS0:=ja0 (hG.1.1.1)
  have HR:=ja0 hG.2
  clear hG HGd HFL hF3 hF4 HS u18 v18 h18 HN18 u21 v21 h21 HN21
  have HS:=ja0 HS0.out
  clear HS0
  refine ja2 5 rfl (by decide +kernel) (fun c a w h=>by first|exact h|(cases h;done)) (by rfl) (v:=?_) ?_ ja1 (fun ja4=>?_)
  rotate_left 1
  focus (intro w' hSw;clear hSw;go_simp;try with_reducible rfl)
  clear ja1
  rename ja8 _ _ _ _ _ _ _=>ja1
  (try simp only[Act.put,lA,lB,lC])
  refine ja2 6 rfl (by decide +kernel) (fun c a w h=>by first|exact h|(cases h;done)) (by rfl) (v:=?_) ?_ ja1 (fun ja4=>?_)
  rotate_left 1
  focus (intro w' hSw;clear hSw;go_simp;try with_reducible rfl)
  clear ja1
  rename ja8 _ _ _ _ _ _ _=>ja1
  (try simp only[Act.put,lA,lB,lC])
  refine ja2 7 rfl (by decide +kernel) (fun c a w h=>by first|exact h|(cases h;done)) (by rfl) (v:=?_) ?_ ja1 (fun ja4=>?_)
  rotate_left 1
  focus (intro w' hSw;clear hSw;go_simp;try with_reducible rfl)
  clear ja1
  rename ja8 _ _ _ _ _ _ _=>ja1
  (try simp only[Act.put,lA,lB,lC])
  refine jb5 8 rfl (by decide +kernel) (fun K hK=>?_)
  go_simp
  refine hK.out _ _ ⟨trivial,fun h=>absurd h (by decide +kernel),fun _=>trivial⟩ (fun ja1=>?_)
  clear hK K
  (try simp only[Act.put,lA,lB,lC])
  refine ja2 9 rfl (by decide +kernel) (fun c a w h=>by first|exact h|(cases h;done)) (by rfl) (v:=?_) ?_ ja1 (fun ja4=>?_)
  rotate_left 1
  focus (intro w' hSw;clear hSw;go_simp;try with_reducible rfl)
  clear ja1
  rename ja8 _ _ _ _ _ _ _=>ja1
  (try simp only[Act.put,lA,lB,lC])
  refine jf8 (by decide +kernel) ?_
  clear ja1
  try clear ja1
  obtain⟨b1,d1⟩:=x4
  dsimp only at HR
  obtain⟨rfl,rfl⟩:=HF1.out _ _ HR.out
  clear HR HF1
  go_upto_region 29 with fail
  obtain⟨u19,v19,_,_⟩:=(HS.out.1.1.2.1).two
  have h19:X19<W115.heap.size:=(HS.out.1.1.2.1).lt
  have HN19:Hid (n19<=1000):=ja0 (Vr.le (HS.out.1.1.2) (by unfold jb2;split<;>simp))
  obtain⟨u21,v21,_,_⟩:=(HS.out.2.1).two
  have h21:X21<W115.heap.size:=(HS.out.2.1).lt
  have HN21:Hid (n21<=1000):=ja0 (Vr.le (HS.out.2) hxl)
  have HGd:Hid ((((((Below w.heap.size w W115.drew/\w.heap.size<=W115.drew.heap.size)/\Vr X18 (bd) A18 n18 c18 (jb2 ac) W115.drew)/\Vr X19 (td) A19 n19 c19 (jb2 tc) W115.drew)/\Vr X20 (1) A20 n20 c20 ([(s,q)]) W115.drew)/\Vr X21 (xd) A21 n21 c21 (xt) W115.drew)/\(Below W115.heap.size W115 W115.drew/\W115.heap.size<=W115.drew.heap.size)):=ja0 ⟨Kept.keep (S:=fun W=>(((((Below w.heap.size w W/\w.heap.size<=W.heap.size)/\Vr X18 (bd) A18 n18 c18 (jb2 ac) W)/\Vr X19 (td) A19 n19 c19 (jb2 tc) W)/\Vr X20 (1) A20 n20 c20 ([(s,q)]) W)/\Vr X21 (xd) A21 n21 c21 (xt) W)) _ _ HS.out (Below.drew (Below.refl _ _)),Below.drew (Below.refl _ _),Nat.le_refl _⟩
  refine jm8 8 (fun W'=>Below W115.heap.size W115 W') (fun _ _ _=>True) [] (fun W'=>(((((Below w.heap.size w W'/\w.heap.size<=W'.heap.size)/\Vr X18 (bd) A18 n18 c18 (jb2 ac) W')/\Vr X19 (td) A19 n19 c19 (jb2 tc) W')/\Vr X20 (1) A20 n20 c20 ([(s,q)]) W')/\Vr X21 (xd) A21 n21 c21 (xt) W')/\(Below W115.heap.size W115 W'/\W115.heap.size<=W'.heap.size)) (by kernel_rfl)
   (Floats.of (by decide +kernel) (fun c a d v w=>by cases d<;>exact Iff.rfl) (by intro i hi;cases hi) (fun _ _ _ _ _ _=>trivial))
   (fun _ _ _ h=>h) (by decide) HGd.out (fun W h=>h.2.1) (fun HFL=>?_)
  refine jd9.take 0 (v:=?_) rfl rfl HFL (by decide +kernel) (fun W h=>h.2.1) (by rfl) (fun W hF=>?_) ?_
  rotate_left 1
  focus (have hF:=hF (by decide +kernel);have e1:=(hF.cell (p:=⟨X19,0,none⟩) h19).trans u19;have e2:=(hF.cell (p:=⟨X19,1,none⟩) h19).trans v19;clear hF;go_simp;try with_reducible rfl)
  (try simp only[Act.put,lA,lB,lC])
  refine jd9.take 2 (v:=?_) rfl rfl HFL (by decide +kernel) (fun W h=>h.2.1) (by rfl) (fun W hF=>?_) ?_
  rotate_left 1
  focus (clear hF;go_simp;try with_reducible rfl)
  (try simp only[Act.put,lA,lB,lC])
  refine jd9.take 3 (v:=?_) rfl rfl HFL (by decide +kernel) (fun W h=>h.2.1) (by rfl) (fun W hF=>?_) ?_
  rotate_left 1
  focus (have hF:=hF (by decide +kernel);have e1:=(hF.cell (p:=⟨X21,0,none⟩) h21).trans u21;have e2:=(hF.cell (p:=⟨X21,1,none⟩) h21).trans v21;clear hF;go_simp;try with_reducible rfl)
  (try simp only[Act.put,lA,lB,lC])
  refine jd9.on 1 (fun x:Sl=>.agg #[.int .i64 (td),.slice x.1 x.2.1 x.2.2]) (fun x W=>zj9 0 x (jb2 tc) W) rfl rfl HFL (by decide +kernel) (fun W h=>h.2.1) (fun W hG K' hK=>?_) (fun x1 hF1=>?_)
  focus
   have HC:=ja0 (js8 (td) A19 n19 c19 W.heap.size (jb2 tc) W (Rq.of (jc2 (hG.1.1.1.2.2))) (Nat.le_refl _) HN19.out)
   clear hG
   go_simp
   go_wp2_with (first
    | (go_at_call 10;refine HC.out.mono ?_;rintro e w6 ⟨A,n,c,rfl,ho,hb⟩
       have HO:=ja0 (jc5 ho (Nat.zero_le _));have HBB:=ja0 hb;clear ho hb))
   exact hK.out (A,n,c) _ HO.out HBB.out
  (try simp only[Act.put,lA,lB,lC])
  refine jd9.on 4 (fun x:Bool×Int=>.tuple #[.bool x.1,.int .i64 x.2]) (fun x W=>jm3 td (jb2 tc) (n:Int) (xd) (xt) x.1 x.2) rfl rfl HFL (by decide +kernel) hF1 (fun W hG K' hK=>?_) (fun x4 hF4=>?_)
  focus
   have HC:=ja0 (zg6 (td) x1.1 x1.2.1 x1.2.2 (jb2 tc) (xd) A21 n21 c21 (xt) (n:Int) W.heap.size W ((jc2 (hG.2))) ((jc2 (hG.1.1.2.2))) (Nat.le_refl _) )
   clear hG
   go_simp
   go_wp2_with (first
    | (go_at_call 16;refine HC.out.mono ?_;rintro e w6 ⟨b1,d1,rfl,hr,hb⟩
       have HQ:=ja0 hr;clear hr
       have HBB:=ja0 hb;clear hb))
   exact hK.out (b1,d1) _ HQ.out HBB.out
  (try simp only[Act.put,lA,lB,lC])
  refine jd9.fin rfl hF4 (fun W116 hG ja1=>?_)
  have HS0:=ja0 (hG.1.1.1)
  have HR:=ja0 hG.2
  clear hG HGd HFL hF1 hF4 HS u19 v19 h19 HN19 u21 v21 h21 HN21
  have HS:=ja0 HS0.out
  clear HS0
  refine ja2 5 rfl (by decide +kernel) (fun c a w h=>by first|exact h|(cases h;done)) (by rfl) (v:=?_) ?_ ja1 (fun ja4=>?_)
  rotate_left 1
  focus (intro w' hSw;clear hSw;go_simp;try with_reducible rfl)
  clear ja1
  rename ja8 _ _ _ _ _ _ _=>ja1
  (try simp only[Act.put,lA,lB,lC])
  refine ja2 6 rfl (by decide +kernel) (fun c a w h=>by first|exact h|(cases h;done)) (by rfl) (v:=?_) ?_ ja1 (fun ja4=>?_)
  rotate_left 1
  focus (intro w' hSw;clear hSw;go_simp;try with_reducible rfl)
  clear ja1
  rename ja8 _ _ _ _ _ _ _=>ja1
  (try simp only[Act.put,lA,lB,lC])
  refine ja2 7 rfl (by decide +kernel) (fun c a w h=>by first|exact h|(cases h;done)) (by rfl) (v:=?_) ?_ ja1 (fun ja4=>?_)
  rotate_left 1
  focus (intro w' hSw;clear hSw;go_simp;try with_reducible rfl)
  clear ja1
  rename ja8 _ _ _ _ _ _ _=>ja1
  (try simp only[Act.put,lA,lB,lC])
  refine jb5 8 rfl (by decide +kernel) (fun K hK=>?_)
  go_simp
  refine hK.out _ _ ⟨trivial,fun h=>absurd h (by decide +kernel),fun _=>trivial⟩ (fun ja1=>?_)
  clear hK K
  (try simp only[Act.put,lA,lB,lC])
  refine ja2 9 rfl (by decide +kernel) (fun c a w h=>by first|exact h|(cases h;done)) (by rfl) (v:=?_) ?_ ja1 (fun ja4=>?_)
  rotate_left 1
  focus (intro w' hSw;clear hSw;go_simp;try with_reducible rfl)
  clear ja1
  rename ja8 _ _ _ _ _ _ _=>ja1
  (try simp only[Act.put,lA,lB,lC])
  refine jf8 (by decide +kernel) ?_
  clear ja1
  try clear ja1
  obtain⟨b2,d2⟩:=x4
  dsimp only at HR
  obtain⟨rfl,hsm⟩:=HF2.out _ _ HR.out
  have HSM:=ja0 hsm
  clear HR HF2 hsm
  go_upto_region 32 with fail
  cases b2
  ·skip
   have HBk:=ja0 HS.out.1.1.1.1
   go_wp2_with (first
    | (go_at_call 8;refine(HK.out _ HBk.out.1).mono ?_;rintro e wz ⟨rfl,hbz⟩
       have HBe:=ja0 (HBk.out.1.trans (hbz.mono HBk.out.2))
       clear hbz))
   all_goals
    go_ret
    exact⟨rfl,HBe.out⟩
  ·skip
   have HSA:=ja0 (jbh0 (HS.out.1.1.2) (HS.out.1.1.1.2) (HSM.out rfl))
   have HBk:=ja0 HS.out.1.1.1.1
   obtain⟨u18,v18,_,_⟩:=(HS.out.1.1.1.2.1).two
   obtain⟨u19,v19,_,_⟩:=(HS.out.1.1.2.1).two
   go_wp2_with (first
    | (go_at_call 8;refine(HK.out _ HB12.out).mono ?_;rintro e wz ⟨rfl,hbz⟩
       have HBe:=ja0 (HB12.out.trans (hbz.mono HB12.out.size))
       clear hbz)
    | (go_at_call 21;refine HSA.out.mono ?_;rintro e w12 ⟨rfl,hb⟩
       have HB12:=ja0 (HBk.out.1.trans (hb.mono HBk.out.2))
       clear hb))
   all_goals
    go_ret
    exact⟨rfl,HBe.out⟩
 ·obtain⟨hy0,hyN⟩:=HNEG.out hng
  obtain⟨yd,yt,yc,hy⟩:∃a b c,jc4 1 [] xd xt (-1)=(a,b,c):=⟨_,_,_,rfl⟩
  rw[hy] at hy0 hyN
  dsimp only at hy0 hyN
  subst hy0
  have hyl:=jcm7 hy
  have HIS:=ja0 hyN
  have HY:=ja0 hy
  clear HNEG HPOS HSGN hyN hy
  go_upto_region 24 with fail
  obtain⟨u21,v21,_,_⟩:=(HS.out.2.1).two
  have hcs:=zj7 1 none 0 0 [] xd A21 n21 c21 xt w114.heap.size w114 (Rd.nil_ _ _ _) (jc2 (HS.out.2.2)) (Nat.le_refl _)
  rw[HY.out] at hcs
  have HCS:=ja0 hcs
  clear hcs
  go_upto_region 25 with(first
   | (go_at_call 28;refine(HCS.out).mono ?_;rintro e w115 ⟨A24,n24,c24,rfl,ho,hb⟩
      have HS_0:=ja0 (Kept.keep (S:=fun W=>(((((Below w.heap.size w W/\w.heap.size<=W.heap.size)/\Vr X18 (bd) A18 n18 c18 (jb2 ac) W)/\Vr X19 (td) A19 n19 c19 (jb2 tc) W)/\Vr X20 (1) A20 n20 c20 ([(s,q)]) W)/\Vr X21 (xd) A21 n21 c21 (xt) W)) _ _ HS.out hb)
      have HO:=ja0 (jc5 ho (Nat.zero_le _))
      clear ho
      clear hb))
  clear u21 v21
  have HS3:=ja0 (And.intro (Kept.keep (S:=fun W=>(((((Below w.heap.size w W/\w.heap.size<=W.heap.size)/\Vr X18 (bd) A18 n18 c18 (jb2 ac) W)/\Vr X19 (td) A19 n19 c19 (jb2 tc) W)/\Vr X20 (1) A20 n20 c20 ([(s,q)]) W)/\Vr X21 (xd) A21 n21 c21 (xt) W)) _ _ HS_0.out ((Below.refl _ _).alloc (Nat.le_refl _) (.cells #[.int .i64 (yd),.slice A24 n24 c24] 24))) (Vr.new (d:=yd) HO.out))
  obtain⟨X24,hX⟩:∃X,X=w115.heap.size:=⟨_,rfl⟩
  rw[<-hX] at HS3  ⊢
  clear hX HS_0 HO HS
  generalize w115.alloc (.cells #[.int .i64 (yd),.slice A24 n24 c24] 24)=W116 at *
  have HS:=ja0 HS3.out
  clear HS3
  try clear HS_0
  clear HCS
  go_upto_region 27 with fail
  obtain⟨u24,v24,_,_⟩:=(HS.out.2.1).two
  obtain⟨u21,v21,uf21,vf21⟩:=(HS.out.1.2.1).two
  go_upto_region 28 with fail
  have HS3:Hid (((((Below w.heap.size w ((W116.setCell ⟨X21,0,none⟩ (.int .i64 yd)).setCell ⟨X21,1,none⟩ (.slice A24 n24 c24))/\w.heap.size<=((W116.setCell ⟨X21,0,none⟩ (.int .i64 yd)).setCell ⟨X21,1,none⟩ (.slice A24 n24 c24)).heap.size)/\Vr X18 bd A18 n18 c18 (jb2 ac) ((W116.setCell ⟨X21,0,none⟩ (.int .i64 yd)).setCell ⟨X21,1,none⟩ (.slice A24 n24 c24)))/\Vr X19 td A19 n19 c19 (jb2 tc) ((W116.setCell ⟨X21,0,none⟩ (.int .i64 yd)).setCell ⟨X21,1,none⟩ (.slice A24 n24 c24)))/\Vr X21 yd A24 n24 c24 yt ((W116.setCell ⟨X21,0,none⟩ (.int .i64 yd)).setCell ⟨X21,1,none⟩ (.slice A24 n24 c24)))):=ja0 (by
   have h:=HS.out
   have h21:=(h.1.2).1
   have hz:w.heap.size<=((W116.setCell ⟨X21,0,none⟩ (.int .i64 yd)).setCell ⟨X21,1,none⟩ (.slice A24 n24 c24)).heap.size:=by simp;exact h.1.1.1.1.1.2
   exact⟨⟨⟨⟨((h.1.1.1.1.1.1).setCell (p:=⟨X21,0,none⟩) hX21 _).setCell (p:=⟨X21,1,none⟩) hX21 _,hz⟩,(h.1.1.1.1.2).store h21 hne18 _ _⟩,(h.1.1.1.2).store h21 hne19 _ _⟩,(h.1.2).write (h.2).2⟩)
  clear HS u24 v24 u21 v21 uf21 vf21
  generalize ((W116.setCell ⟨X21,0,none⟩ (.int .i64 yd)).setCell ⟨X21,1,none⟩ (.slice A24 n24 c24))=W200 at *
  have HS:=ja0 HS3.out
  clear HS3
  obtain⟨hf1,hf2⟩:=HWF.out _ _ HIS.out
  have HF1:=ja0 hf1;have HF2:=ja0 hf2
  clear hf1 hf2
  obtain⟨u18,v18,_,_⟩:=(HS.out.1.1.2.1).two
  have h18:X18<W200.heap.size:=(HS.out.1.1.2.1).lt
  have HN18:Hid (n18<=1000):=ja0 (Vr.le (HS.out.1.1.2) (by unfold jb2;split<;>simp))
  obtain⟨u21,v21,_,_⟩:=(HS.out.2.1).two
  have h21:X21<W200.heap.size:=(HS.out.2.1).lt
  have HN21:Hid (n24<=1000):=ja0 (Vr.le (HS.out.2) hyl)
  have HGd:Hid (((((Below w.heap.size w W200.drew/\w.heap.size<=W200.drew.heap.size)/\Vr X18 (bd) A18 n18 c18 (jb2 ac) W200.drew)/\Vr X19 (td) A19 n19 c19 (jb2 tc) W200.drew)/\Vr X21 (yd) A24 n24 c24 (yt) W200.drew)/\(Below W200.heap.size W200 W200.drew/\W200.heap.size<=W200.drew.heap.size)):=ja0 ⟨Kept.keep (S:=fun W=>((((Below w.heap.size w W/\w.heap.size<=W.heap.size)/\Vr X18 (bd) A18 n18 c18 (jb2 ac) W)/\Vr X19 (td) A19 n19 c19 (jb2 tc) W)/\Vr X21 (yd) A24 n24 c24 (yt) W)) _ _ HS.out (Below.drew (Below.refl _ _)),Below.drew (Below.refl _ _),Nat.le_refl _⟩
  refine jm8 8 (fun W'=>Below W200.heap.size W200 W') (fun _ _ _=>True) [] (fun W'=>((((Below w.heap.size w W'/\w.heap.size<=W'.heap.size)/\Vr X18 (bd) A18 n18 c18 (jb2 ac) W')/\Vr X19 (td) A19 n19 c19 (jb2 tc) W')/\Vr X21 (yd) A24 n24 c24 (yt) W')/\(Below W200.heap.size W200 W'/\W200.heap.size<=W'.heap.size)) (by kernel_rfl)
   (Floats.of (by decide +kernel) (fun c a d v w=>by cases d<;>exact Iff.rfl) (by intro i hi;cases hi) (fun _ _ _ _ _ _=>trivial))
   (fun _ _ _ h=>h) (by decide) HGd.out (fun W h=>h.2.1) (fun HFL=>?_)
  refine jd9.take 0 (v:=?_) rfl rfl HFL (by decide +kernel) (fun W h=>h.2.1) (by rfl) (fun W hF=>?_) ?_
  rotate_left 1
  focus (have hF:=hF (by decide +kernel);have e1:=(hF.cell (p:=⟨X18,0,none⟩) h18).trans u18;have e2:=(hF.cell (p:=⟨X18,1,none⟩) h18).trans v18;clear hF;go_simp;try with_reducible rfl)
  (try simp only[Act.put,lA,lB,lC])
  refine jd9.take 1 (v:=?_) rfl rfl HFL (by decide +kernel) (fun W h=>h.2.1) (by rfl) (fun W hF=>?_) ?_
  rotate_left 1
  focus (clear hF;go_simp;try with_reducible rfl)
  (try simp only[Act.put,lA,lB,lC])
  refine jd9.take 2 (v:=?_) rfl rfl HFL (by decide +kernel) (fun W h=>h.2.1) (by rfl) (fun W hF=>?_) ?_
  rotate_left 1
  focus (have hF:=hF (by decide +kernel);have e1:=(hF.cell (p:=⟨X21,0,none⟩) h21).trans u21;have e2:=(hF.cell (p:=⟨X21,1,none⟩) h21).trans v21;clear hF;go_simp;try with_reducible rfl)
  (try simp only[Act.put,lA,lB,lC])
  refine jd9.on 3 (fun x:Sl=>.agg #[.int .i64 (yd),.slice x.1 x.2.1 x.2.2]) (fun x W=>zj9 0 x (yt) W) rfl rfl HFL (by decide +kernel) (fun W h=>h.2.1) (fun W hG K' hK=>?_) (fun x3 hF3=>?_)
  focus
   have HC:=ja0 (js8 (yd) A24 n24 c24 W.heap.size (yt) W (Rq.of (jc2 (hG.1.2.2))) (Nat.le_refl _) HN21.out)
   clear hG
   go_simp
   go_wp2_with (first
    | (go_at_call 10;refine HC.out.mono ?_;rintro e w6 ⟨A,n,c,rfl,ho,hb⟩
       have HO:=ja0 (jc5 ho (Nat.zero_le _));have HBB:=ja0 hb;clear ho hb))
   exact hK.out (A,n,c) _ HO.out HBB.out
  (try simp only[Act.put,lA,lB,lC])
  refine jd9.on 4 (fun x:Bool×Int=>.tuple #[.bool x.1,.int .i64 x.2]) (fun x W=>jm3 bd (jb2 ac) (n:Int) (yd) (yt) x.1 x.2) rfl rfl HFL (by decide +kernel) hF3 (fun W hG K' hK=>?_) (fun x4 hF4=>?_)
  focus
   have HC:=ja0 (zg6 (bd) A18 n18 c18 (jb2 ac) (yd) x3.1 x3.2.1 x3.2.2 (yt) (n:Int) W.heap.size W ((jc2 (hG.1.1.1.1.2.2))) ((jc2 (hG.2))) (Nat.le_refl _) )
   clear hG
   go_simp
   go_wp2_with (first
    | (go_at_call 16;refine HC.out.mono ?_;rintro e w6 ⟨b1,d1,rfl,hr,hb⟩
       have HQ:=ja0 hr;clear hr
       have HBB:=ja0 hb;clear hb))
   exact hK.out (b1,d1) _ HQ.out HBB.out
  (try simp only[Act.put,lA,lB,lC])
  refine jd9.fin rfl hF4 (fun W117 hG ja1=>?_)
  have HS0:=ja0 (hG.1.1.1)
  have HR:=ja0 hG.2
  clear hG HGd HFL hF3 hF4 HS u18 v18 h18 HN18 u21 v21 h21 HN21
  have HS:=ja0 HS0.out
  clear HS0
  refine ja2 5 rfl (by decide +kernel) (fun c a w h=>by first|exact h|(cases h;done)) (by rfl) (v:=?_) ?_ ja1 (fun ja4=>?_)
  rotate_left 1
  focus (intro w' hSw;clear hSw;go_simp;try with_reducible rfl)
  clear ja1
  rename ja8 _ _ _ _ _ _ _=>ja1
  (try simp only[Act.put,lA,lB,lC])
  refine ja2 6 rfl (by decide +kernel) (fun c a w h=>by first|exact h|(cases h;done)) (by rfl) (v:=?_) ?_ ja1 (fun ja4=>?_)
  rotate_left 1
  focus (intro w' hSw;clear hSw;go_simp;try with_reducible rfl)
  clear ja1
  rename ja8 _ _ _ _ _ _ _=>ja1
  (try simp only[Act.put,lA,lB,lC])
  refine ja2 7 rfl (by decide +kernel) (fun c a w h=>by first|exact h|(cases h;done)) (by rfl) (v:=?_) ?_ ja1 (fun ja4=>?_)
  rotate_left 1
  focus (intro w' hSw;clear hSw;go_simp;try with_reducible rfl)
  clear ja1
  rename ja8 _ _ _ _ _ _ _=>ja1
  (try simp only[Act.put,lA,lB,lC])
  refine jb5 8 rfl (by decide +kernel) (fun K hK=>?_)
  go_simp
  refine hK.out _ _ ⟨trivial,fun h=>absurd h (by decide +kernel),fun _=>trivial⟩ (fun ja1=>?_)
  clear hK K
  (try simp only[Act.put,lA,lB,lC])
  refine ja2 9 rfl (by decide +kernel) (fun c a w h=>by first|exact h|(cases h;done)) (by rfl) (v:=?_) ?_ ja1 (fun ja4=>?_)
  rotate_left 1
  focus (intro w' hSw;clear hSw;go_simp;try with_reducible rfl)
  clear ja1
  rename ja8 _ _ _ _ _ _ _=>ja1
  (try simp only[Act.put,lA,lB,lC])
  refine jf8 (by decide +kernel) ?_
  clear ja1
  try clear ja1
  obtain⟨b1,d1⟩:=x4
  dsimp only at HR
  obtain⟨rfl,rfl⟩:=HF1.out _ _ HR.out
  clear HR HF1
  go_upto_region 29 with fail
  obtain⟨u19,v19,_,_⟩:=(HS.out.1.2.1).two
  have h19:X19<W117.heap.size:=(HS.out.1.2.1).lt
  have HN19:Hid (n19<=1000):=ja0 (Vr.le (HS.out.1.2) (by unfold jb2;split<;>simp))
  obtain⟨u21,v21,_,_⟩:=(HS.out.2.1).two
  have h21:X21<W117.heap.size:=(HS.out.2.1).lt
  have HN21:Hid (n24<=1000):=ja0 (Vr.le (HS.out.2) hyl)
  have HGd:Hid (((((Below w.heap.size w W117.drew/\w.heap.size<=W117.drew.heap.size)/\Vr X18 (bd) A18 n18 c18 (jb2 ac) W117.drew)/\Vr X19 (td) A19 n19 c19 (jb2 tc) W117.drew)/\Vr X21 (yd) A24 n24 c24 (yt) W117.drew)/\(Below W117.heap.size W117 W117.drew/\W117.heap.size<=W117.drew.heap.size)):=ja0 ⟨Kept.keep (S:=fun W=>((((Below w.heap.size w W/\w.heap.size<=W.heap.size)/\Vr X18 (bd) A18 n18 c18 (jb2 ac) W)/\Vr X19 (td) A19 n19 c19 (jb2 tc) W)/\Vr X21 (yd) A24 n24 c24 (yt) W)) _ _ HS.out (Below.drew (Below.refl _ _)),Below.drew (Below.refl _ _),Nat.le_refl _⟩
  refine jm8 8 (fun W'=>Below W117.heap.size W117 W') (fun _ _ _=>True) [] (fun W'=>((((Below w.heap.size w W'/\w.heap.size<=W'.heap.size)/\Vr X18 (bd) A18 n18 c18 (jb2 ac) W')/\Vr X19 (td) A19 n19 c19 (jb2 tc) W')/\Vr X21 (yd) A24 n24 c24 (yt) W')/\(Below W117.heap.size W117 W'/\W117.heap.size<=W'.heap.size)) (by kernel_rfl)
   (Floats.of (by decide +kernel) (fun c a d v w=>by cases d<;>exact Iff.rfl) (by intro i hi;cases hi) (fun _ _ _ _ _ _=>trivial))
   (fun _ _ _ h=>h) (by decide) HGd.out (fun W h=>h.2.1) (fun HFL=>?_)
  refine jd9.take 0 (v:=?_) rfl rfl HFL (by decide +kernel) (fun W h=>h.2.1) (by rfl) (fun W hF=>?_) ?_
  rotate_left 1
  focus (have hF:=hF (by decide +kernel);have e1:=(hF.cell (p:=⟨X19,0,none⟩) h19).trans u19;have e2:=(hF.cell (p:=⟨X19,1,none⟩) h19).trans v19;clear hF;go_simp;try with_reducible rfl)
  (try simp only[Act.put,lA,lB,lC])
  refine jd9.take 2 (v:=?_) rfl rfl HFL (by decide +kernel) (fun W h=>h.2.1) (by rfl) (fun W hF=>?_) ?_
  rotate_left 1
  focus (clear hF;go_simp;try with_reducible rfl)
  (try simp only[Act.put,lA,lB,lC])
  refine jd9.take 3 (v:=?_) rfl rfl HFL (by decide +kernel) (fun W h=>h.2.1) (by rfl) (fun W hF=>?_) ?_
  rotate_left 1
  focus (have hF:=hF (by decide +kernel);have e1:=(hF.cell (p:=⟨X21,0,none⟩) h21).trans u21;have e2:=(hF.cell (p:=⟨X21,1,none⟩) h21).trans v21;clear hF;go_simp;try with_reducible rfl)
  (try simp only[Act.put,lA,lB,lC])
  refine jd9.on 1 (fun x:Sl=>.agg #[.int .i64 (td),.slice x.1 x.2.1 x.2.2]) (fun x W=>zj9 0 x (jb2 tc) W) rfl rfl HFL (by decide +kernel) (fun W h=>h.2.1) (fun W hG K' hK=>?_) (fun x1 hF1=>?_)
  focus
   have HC:=ja0 (js8 (td) A19 n19 c19 W.heap.size (jb2 tc) W (Rq.of (jc2 (hG.1.1.2.2))) (Nat.le_refl _) HN19.out)
   clear hG
   go_simp
   go_wp2_with (first
    | (go_at_call 10;refine HC.out.mono ?_;rintro e w6 ⟨A,n,c,rfl,ho,hb⟩
       have HO:=ja0 (jc5 ho (Nat.zero_le _));have HBB:=ja0 hb;clear ho hb))
   exact hK.out (A,n,c) _ HO.out HBB.out
  (try simp only[Act.put,lA,lB,lC])
  refine jd9.on 4 (fun x:Bool×Int=>.tuple #[.bool x.1,.int .i64 x.2]) (fun x W=>jm3 td (jb2 tc) (n:Int) (yd) (yt) x.1 x.2) rfl rfl HFL (by decide +kernel) hF1 (fun W hG K' hK=>?_) (fun x4 hF4=>?_)
  focus
   have HC:=ja0 (zg6 (td) x1.1 x1.2.1 x1.2.2 (jb2 tc) (yd) A24 n24 c24 (yt) (n:Int) W.heap.size W ((jc2 (hG.2))) ((jc2 (hG.1.1.2.2))) (Nat.le_refl _) )
   clear hG
   go_simp
   go_wp2_with (first
    | (go_at_call 16;refine HC.out.mono ?_;rintro e w6 ⟨b1,d1,rfl,hr,hb⟩
       have HQ:=ja0 hr;clear hr
       have HBB:=ja0 hb;clear hb))
   exact hK.out (b1,d1) _ HQ.out HBB.out
  (try simp only[Act.put,lA,lB,lC])
  refine jd9.fin rfl hF4 (fun W118 hG ja1=>?_)
  have HS0:=ja0 (hG.1.1.1)
  have HR:=ja0 hG.2
  clear hG HGd HFL hF1 hF4 HS u19 v19 h19 HN19 u21 v21 h21 HN21
  have HS:=ja0 HS0.out
  clear HS0
  refine ja2 5 rfl (by decide +kernel) (fun c a w h=>by first|exact h|(cases h;done)) (by rfl) (v:=?_) ?_ ja1 (fun ja4=>?_)
  rotate_left 1
  focus (intro w' hSw;clear hSw;go_simp;try with_reducible rfl)
  clear ja1
  rename ja8 _ _ _ _ _ _ _=>ja1
  (try simp only[Act.put,lA,lB,lC])
  refine ja2 6 rfl (by decide +kernel) (fun c a w h=>by first|exact h|(cases h;done)) (by rfl) (v:=?_) ?_ ja1 (fun ja4=>?_)
  rotate_left 1
  focus (intro w' hSw;clear hSw;go_simp;try with_reducible rfl)
  clear ja1
  rename ja8 _ _ _ _ _ _ _=>ja1
  (try simp only[Act.put,lA,lB,lC])
  refine ja2 7 rfl (by decide +kernel) (fun c a w h=>by first|exact h|(cases h;done)) (by rfl) (v:=?_) ?_ ja1 (fun ja4=>?_)
  rotate_left 1
  focus (intro w' hSw;clear hSw;go_simp;try with_reducible rfl)
  clear ja1
  rename ja8 _ _ _ _ _ _ _=>ja1
  (try simp only[Act.put,lA,lB,lC])
  refine jb5 8 rfl (by decide +kernel) (fun K hK=>?_)
  go_simp
  refine hK.out _ _ ⟨trivial,fun h=>absurd h (by decide +kernel),fun _=>trivial⟩ (fun ja1=>?_)
  clear hK K
  (try simp only[Act.put,lA,lB,lC])
  refine ja2 9 rfl (by decide +kernel) (fun c a w h=>by first|exact h|(cases h;done)) (by rfl) (v:=?_) ?_ ja1 (fun ja4=>?_)
  rotate_left 1
  focus (intro w' hSw;clear hSw;go_simp;try with_reducible rfl)
  clear ja1
  rename ja8 _ _ _ _ _ _ _=>ja1
  (try simp only[Act.put,lA,lB,lC])
  refine jf8 (by decide +kernel) ?_
  clear ja1
  try clear ja1
  obtain⟨b2,d2⟩:=x4
  dsimp only at HR
  obtain⟨rfl,hsm⟩:=HF2.out _ _ HR.out
  have HSM:=ja0 hsm
  clear HR HF2 hsm
  go_upto_region 32 with fail
  cases b2
  ·skip
   have HBk:=ja0 HS.out.1.1.1
   go_wp2_with (first
    | (go_at_call 8;refine(HK.out _ HBk.out.1).mono ?_;rintro e wz ⟨rfl,hbz⟩
       have HBe:=ja0 (HBk.out.1.trans (hbz.mono HBk.out.2))
       clear hbz))
   all_goals
    go_ret
    exact⟨rfl,HBe.out⟩
  ·skip
   have HSA:=ja0 (jbh0 (HS.out.1.2) (HS.out.1.1.2) (HSM.out rfl))
   have HBk:=ja0 HS.out.1.1.1
   obtain⟨u18,v18,_,_⟩:=(HS.out.1.1.2.1).two
   obtain⟨u19,v19,_,_⟩:=(HS.out.1.2.1).two
   go_wp2_with (first
    | (go_at_call 8;refine(HK.out _ HB12.out).mono ?_;rintro e wz ⟨rfl,hbz⟩
       have HBe:=ja0 (HB12.out.trans (hbz.mono HB12.out.size))
       clear hbz)
    | (go_at_call 21;refine HSA.out.mono ?_;rintro e w12 ⟨rfl,hb⟩
       have HB12:=ja0 (HBk.out.1.trans (hb.mono HBk.out.2))
       clear hb))
   all_goals
    go_ret
    exact⟨rfl,HBe.out⟩
end Go.Proofs.YtphcodcdfeohhaaGreatDoor
