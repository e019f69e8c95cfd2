import Derived.Test.YtphcodcdfeohhaaGreatDoorCordIToCordJ
import Derived.Test.YtphcodcdfeohhaaGreatDoorCom
import Derived.Stop.LaidErr
import Derived.Lib.LaidTab
import Derived.LaidMore
import Derived.ProofKit
import Derived.OpenShut
import Derived.WideKeyPair
import Derived.Stop.Joined
import Derived.Deep.DeepHandedRow
import Derived.Test.YtphcodcdfeohhaaGreatDoorBaseToStage
import Derived.Deep.SlicePairs
import Derived.Lib.SmallJoins
import Derived.Test.YtphcodcdfeohhaaGreatDoorCards
import Derived.Test.YtphcodcdfeohhaaGreatDoorTie
import Derived.Carry
set_option linter.unusedVariables false
set_option linter.unusedSimpArgs false
namespace Go.Proofs.YtphcodcdfeohhaaGreatDoor
set_option maxRecDepth 100000
set_option maxHeartbeats 2000000
open Go.RowKit
def jdr0(ld:Int)(lt:List (Int×Int))(hd:Int)(ht:List (Int×Int))(r:Bool):Prop:=
 ∃o e s f,zz6 ld lt hd ht o e/\zt7 ld lt s f/\r=(decide (e=0)&&decide (f=0)&&decide (o<=0)&&decide (0<s))
def jdr7(w:World)(ld:Int)(lt:List (Int×Int))(hd:Int)(ht:List (Int×Int))(e:Ending)(w':World):Prop:=∃r,e=.returned (.bool r)/\jdr0 ld lt hd ht r/\Below w.heap.size w w'
theorem Blk.four{w:World}{b:Nat}{t:TypeId}{u v x y:Value}(h:Blk w b t #[u,v,x,y]):w.cell? ⟨b,0,none⟩=some u/\w.cell? ⟨b,1,none⟩=some v/\w.cell? ⟨b,2,none⟩=some x/\w.cell? ⟨b,3,none⟩=some y:=
 ⟨h.cell 0,h.cell 1,h.cell 2,h.cell 3⟩
theorem jdc8 (ld:Int) (A:Option Addr) (n c:Nat) (lt:List (Int×Int)) (hd:Int) (A2:Option Addr) (n2 c2:Nat) (ht:List (Int×Int)) (B:Nat) (w:World) (hx:ja3 w B A n c lt) (hy:ja3 w B A2 n2 c2 ht) (hB:B<=w.heap.size) :
  Calls Tryz.prog 78 #[.agg #[.int .i64 ld,.slice A n c,.int .i64 hd,.slice A2 n2 c2]] w (jdr7 w ld lt hd ht):=by
 have HX0:=ja0 (Blk.new w 26 #[.int .i64 ld,.slice A n c,.int .i64 hd,.slice A2 n2 c2])
 have HB0:=ja0 ((Below.refl w.heap.size w).alloc (Nat.le_refl _) (.cells #[.int .i64 ld,.slice A n c,.int .i64 hd,.slice A2 n2 c2] 26))
 have hxa:=Rd.alloc hx hB (.cells #[.int .i64 ld,.slice A n c,.int .i64 hd,.slice A2 n2 c2] 26)
 have hya:=Rd.alloc hy hB (.cells #[.int .i64 ld,.slice A n c,.int .i64 hd,.slice A2 n2 c2] 26)
 obtain⟨x0,x1,x2,x3⟩:=HX0.out.four
 have HXA:=ja0 (hxa.more (show B<=w.heap.size from hB))
 have HYA:=ja0 (hya.more (show B<=w.heap.size from hB))
 have HCM:=ja0 (zk3 ld A n c lt hd A2 n2 c2 ht w.heap.size _ HXA.out HYA.out (by simp))
 clear hx hy hxa hya
 go_enter Tryz.func78,Tryz.ntmps78
 go_wp2_with (first
  | (go_at_call 51;refine HCM.out.mono ?_;rintro e w1 ⟨o,oe,rfl,hcr,hb1⟩
     have HB1:=ja0 (HB0.out.trans (hb1.mono (by simp)))
     have HX1:=ja0 (HX0.out.below hb1 (by simp))
     have HSG:=ja0 (zy0 ld A n c lt w.heap.size w1 (Rd.below HXA.out (hb1.mono (by simp))) HB1.out.size)
     obtain⟨y0,y1,y2,y3⟩:=HX1.out.four
     have HCR:=ja0 hcr
     clear hb1 hcr)
  | (go_at_call 29;refine HSG.out.mono ?_;rintro e w2 ⟨s,f,rfl,hsr,hb2⟩
     have HB2:=ja0 (HB1.out.trans (hb2.mono HB1.out.size))
     have HSR:=ja0 hsr
     clear hb2 hsr))
 all_goals go_ret
 all_goals first
  | exact⟨_,rfl,⟨o,oe,s,f,HCR.out,HSR.out,by first|(simp[*];done)|(simp[*];omega)⟩,HB2.out⟩
  | (trace_state;fail)
def jda3(xd:Int)(xt:List (Int×Int))(ld:Int)(lt:List (Int×Int))(hd:Int)(ht:List (Int×Int))(r:Int):Prop:=
 ∃s e,zt7 xd xt s e/\((e≠0/\r=2)\/(e=0/\∃p,jdr0 ld lt hd ht p/\r=if p=true then(if s<=0 then 3 else 0)else 2))
theorem jat2 (xd:Int) (A0:Option Addr) (n0 c0:Nat) (xt:List (Int×Int)) (ld:Int) (A:Option Addr) (n c:Nat) (lt:List (Int×Int)) (hd:Int) (A2:Option Addr) (n2 c2:Nat) (ht:List (Int×Int)) (B:Nat) (w:World)
  (hz:ja3 w B A0 n0 c0 xt) (hx:ja3 w B A n c lt) (hy:ja3 w B A2 n2 c2 ht) (hB:B<=w.heap.size) :
  Calls Tryz.prog 34 #[.agg #[.int .i64 xd,.slice A0 n0 c0],.agg #[.int .i64 ld,.slice A n c,.int .i64 hd,.slice A2 n2 c2]] w fun e w'=>∃r,e=.returned (.int .i64 r)/\jda3 xd xt ld lt hd ht r/\Below w.heap.size w w':=by
 obtain⟨w0,hw0⟩:∃w0,w0=(w.alloc (.cells #[.int .i64 xd,.slice A0 n0 c0] 24)).alloc (.cells #[.int .i64 ld,.slice A n c,.int .i64 hd,.slice A2 n2 c2] 26):=⟨_,rfl⟩
 have hz0:w0.heap.size=w.heap.size+2:=by rw[hw0];simp
 have h01:Below w.heap.size w w0:=by rw[hw0];exact((Below.refl _ _).alloc (Nat.le_refl _) _).alloc (by simp) _
 have HX0:Hid (Blk w0 w.heap.size 24 #[.int .i64 xd,.slice A0 n0 c0]):=ja0 (by rw[hw0];exact(Blk.new w _ _).alloc _)
 have HP0:Hid (Blk w0 (w.heap.size+1) 26 #[.int .i64 ld,.slice A n c,.int .i64 hd,.slice A2 n2 c2]):=ja0 (by
  rw[hw0]
  have h:=Blk.new (w.alloc (.cells #[.int .i64 xd,.slice A0 n0 c0] 24)) 26 #[.int .i64 ld,.slice A n c,.int .i64 hd,.slice A2 n2 c2]
  rwa [World.size_alloc] at h)
 have HZ:=ja0 (Rd.below hz (h01.mono hB));have HX:=ja0 (Rd.below hx (h01.mono hB));have HY:=ja0 (Rd.below hy (h01.mono hB))
 have HB0:=ja0 h01
 have HSG:=ja0 (zy0 xd A0 n0 c0 xt B w0 HZ.out (by omega))
 clear hz hx hy h01
 go_enter Tryz.func34,Tryz.ntmps34
 go_wp2_with fail
 rw[<-hw0]
 clear hw0
 obtain⟨x0,x1,_,_⟩:=HX0.out.two
 obtain⟨y0,y1,y2,y3⟩:=HP0.out.four
 go_wp2_with (first
  | (go_at_call 29;refine HSG.out.mono ?_;rintro e w1 ⟨s,f,rfl,hsr,hb1⟩
     have HB1:=ja0 (HB0.out.trans (hb1.mono (by omega)))
     have HP1:=ja0 (HP0.out.below hb1 (by omega))
     have HIP:=ja0 (jdc8 ld A n c lt hd A2 n2 c2 ht B w1 (Rd.below HX.out (hb1.mono (by omega))) (Rd.below HY.out (hb1.mono (by omega))) (by have:=HB1.out.size;omega))
     obtain⟨z0,z1,z2,z3⟩:=HP1.out.four
     have HSR:=ja0 hsr
     clear hb1 hsr)
  | (go_at_call 78;refine HIP.out.mono ?_;rintro e w2 ⟨p,rfl,hpr,hb2⟩
     have HB2:=ja0 (HB1.out.trans (hb2.mono HB1.out.size))
     have HPR:=ja0 hpr
     clear hb2 hpr))
 all_goals go_ret
 all_goals first
  | exact⟨_,rfl,⟨s,f,HSR.out,.inr ⟨by simp_all,p,HPR.out,by simp_all⟩⟩,HB2.out⟩
  | exact⟨_,rfl,⟨s,f,HSR.out,.inl ⟨by simp_all,rfl⟩⟩,HB1.out⟩
  | (trace_state;fail)
open Go.ChangeShapes Go.WideShapes Go.ChangeAt Go.RowKit
def errL (n : String) (l : List UInt8) : String × DataW Unit := (n, .iface "*errors.errorString" (.ptr (.agg [.lit (.string l)])))
def jcy1:List UInt8:=[118,97,108,117,101,32,111,117,116,32,111,102,32,114,97,110,103,101]
def jcg9:List UInt8:=[105,110,118,97,108,105,100,32,115,121,110,116,97,120]
theorem Tryz.star : "*" ++ "errors.errorString" = "*errors.errorString" := by decide
theorem Tryz.rowErr (u : TypeId) (h : Tryz.prog.typeName? 3 u = some "*errors.errorString") : u = 239 :=
 typeName_ptr_named (nm := "errors.errorString") (by rw [Tryz.star]; kernel_rfl) (by kernel_rfl) (by decide) u (by rw [Tryz.star]; exact h)
theorem Tryz.gRange : Tryz.prog.globalNamed "strconv.ErrRange" = some 1 := by kernel_rfl
theorem Tryz.gRangeT:(Tryz.prog.globals[1]?).map (·.type)=some 161:=by kernel_rfl
theorem Tryz.gSyntax : Tryz.prog.globalNamed "strconv.ErrSyntax" = some 0 := by kernel_rfl
theorem Tryz.gSyntaxT:(Tryz.prog.globals[0]?).map (·.type)=some 161:=by kernel_rfl
theorem Tryz.gPow : Tryz.prog.globalNamed "internal/strconv.uint64pow10" = some 2 := by kernel_rfl
theorem Tryz.gPowT:(Tryz.prog.globals[2]?).map (·.type)=some 243:=by kernel_rfl
theorem Tryz.errField:∃f:Field,Tryz.prog.underlying 241=some (.struct #[f])/\f.type=9/\f.offset=0:=⟨_,Tryz.underlying241,rfl,rfl⟩
theorem Tryz.cellsErr:Tryz.prog.cellsOf 241=1:=by kernel_rfl
theorem Tryz.cellsStr:Tryz.prog.cellsOf 9=1:=by kernel_rfl
theorem Tryz.cellsPow:Tryz.prog.cellsOf 243=20:=by kernel_rfl
theorem Tryz.cellsU64:Tryz.prog.cellsOf 181=1:=by kernel_rfl
theorem jdt6 {W : World} {r : List (String × DataW Unit)} (h : laidMet Tryz.prog (("internal/strconv.uint64pow10", Lib.tabData .u64 Lib.pow10Tab) :: errL "strconv.ErrRange" jcy1 :: errL "strconv.ErrSyntax" jcg9 :: r) W) :
  jm0 W ∧ Lib.TabIs Tryz.prog W "internal/strconv.uint64pow10" .u64 Lib.pow10Tab := by
 obtain⟨f,hf,hft,hfo⟩:=Tryz.errField
 obtain⟨a1,s1,hv1,-,-,-⟩:=laid_sentinel h.tail Tryz.gRange Tryz.gRangeT Tryz.underlying161 Tryz.rowErr Tryz.underlying239 hf hft hfo Tryz.underlying9 Tryz.cellsErr Tryz.cellsStr
 obtain⟨a2,s2,hv2,-,-,-⟩:=laid_sentinel h.tail.tail Tryz.gSyntax Tryz.gSyntaxT Tryz.underlying161 Tryz.rowErr Tryz.underlying239 hf hft hfo Tryz.underlying9 Tryz.cellsErr Tryz.cellsStr
 exact⟨⟨_,_,_,_,hv2,hv1⟩,Lib.tabIs_of_head Tryz.gPow Tryz.gPowT Tryz.underlying243 Tryz.underlying181 Tryz.cellsU64 Tryz.cellsPow h⟩
open Go.ChangeShapes Go.WideShapes Go.ChangeAt Go.RowKit Go.Joins Go.Deep
theorem wf16{n:Int}(h:(Lit.int .u16 n).wf=true):0<=n/\n<=65535:=by
 simp[Lit.wf,IntKind.min,IntKind.max,IntKind.signed,IntKind.bits] at h
 omega
open Go.Proofs.YtphcodcdfeohhaaGreatDoor
theorem both{a b:Bool}(ha:a=true)(hb:b=true):(a&&b)=true:=by rw[ha,hb];rfl
theorem jdt8:laidOutB Tryz.pinned.checked.prog=true:=by kernel_rfl
theorem jdm6:mapsRowed Tryz.pinned.checked.prog=true:=by kernel_rfl
theorem jds6:((OpenClaim.plainKeys Rows.cordNearestRow)==Tryz.pinned.checked.prog.plainKeys)=true:=by kernel_rfl
theorem jdm5:Tryz.pinned.checked.prog.stopsHeard=true:=by kernel_rfl
theorem jdt9:Tryz.pinned.checked.prog.mayEnter=true:=by kernel_rfl
theorem jds7:(Rows.cordNearestRow.lifted==Tryz.pinned.checked.prog.liftsFinal)=true:=by kernel_rfl
theorem jds9:(Tryz.pinned.checked.prog.make==some Rows.cordNearestRow.make)=true:=by kernel_rfl
theorem jds8:Tryz.pinned.checked.prog.mainIs=some (Rows.cordNearestCard.stood.harness.1,Rows.cordNearestCard.stood.harness.2.toList):=by kernel_rfl
end Go.Proofs.YtphcodcdfeohhaaGreatDoor
