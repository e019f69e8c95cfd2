import Derived.Test.YtphcodcdfeohhaaGreatDoorCordCToCordF
import Derived.Test.YtphcodcdfeohhaaGreatDoorRootB
import Derived.Test.YtphcodcdfeohhaaGreatDoorRFToKVOps
import Derived.OrdersIn
import Derived.Test.YtphcodcdfeohhaaGreatDoorQuoAToAppQ
import Derived.Test.YtphcodcdfeohhaaGreatDoorMakeAToCom
import Derived.Stop.LaidErr
import Derived.Lib.LaidTab
import Derived.LaidMore
import Derived.ProofKit
import Derived.OpenShut
import Derived.WideKeyPair
import Derived.Stop.Joined
import Derived.Deep.DeepHandedRow
import Derived.Test.YtphcodcdfeohhaaGreatDoorBaseToStage
import Derived.Deep.SlicePairs
import Derived.Lib.SmallJoins
import Derived.Test.YtphcodcdfeohhaaGreatDoorCards
import Derived.Test.YtphcodcdfeohhaaGreatDoorTie
import Derived.Carry
import Derived.Test.YtphcodcdfeohhaaGreatDoorIdxPToCordB
import Derived.Test.YtphcodcdfeohhaaGreatDoorRefAToRefE
set_option linter.unusedVariables false
set_option linter.unusedSimpArgs false
namespace Go.Proofs.YtphcodcdfeohhaaGreatDoor
set_option maxRecDepth 100000
set_option maxHeartbeats 2000000
open Go.RowKit
theorem zs7(num den:Int)(w:World):Calls Tryz.prog 55 #[.int .i64 num,.int .i64 den] w (zs2 w (den,[(num,1)])):=by
 have HO1:=ja0 (fun x:Array Value=>(show((w.alloc (.cells x 24)).alloc (.cells #[.int .i64 num,.int .i64 1] 59)).ownsRow (w.heap.size+1) 59 2 (.slice (some ⟨w.heap.size+1,0,none⟩) 1 1) 1 (jb4 [(num,1)]) by
  have h:=World.ownsRow_lit (base:=w.heap.size+1) (e:=59) (size:=2) (w.alloc (.cells x 24)) #[.int .i64 num,.int .i64 1] 1 (by simp) (by unfold maxLen;omega) rfl
  rw[World.size_alloc] at h
  exact h))
 go_enter Tryz.func55,Tryz.ntmps55
 go_wp2
 refine jk7 (p:=4) (ty:=24) rfl rfl ((Blk.new w _ _).alloc _) (d:=_) rfl Tryz.underlying24 Tryz.sizeNumber rfl ?_
 exact⟨_,_,_,rfl,jd3 (HO1.out _) (by omega),((Below.refl w.heap.size w).alloc (Nat.le_refl _) _).alloc (by simp) _⟩
theorem jaf6(n:Int)(w:World):Calls Tryz.prog 50 #[.int .i64 n] w (zs2 w (jf6 n)):=by
 have HR0:=ja0 (Blk.new w 24 #[.int .i64 0,.slice none 0 0])
 have HB0:=ja0 ((Below.refl w.heap.size w).alloc (Nat.le_refl _) (.cells #[.int .i64 0,.slice none 0 0] 24))
 obtain⟨q1,q2,q3,q4⟩:=HR0.out.two
 by_cases h0:n=0
 ·subst h0
  have HW:Hid (jf6 0=(1,[])):=ja0 rfl
  go_enter Tryz.func50,Tryz.ntmps50
  go_wp2
  refine jk7 (p:=2) (ty:=24) rfl rfl (Blk.new w _ _) (d:=_) rfl Tryz.underlying24 Tryz.sizeNumber rfl ?_
  rw[HW.out]
  exact⟨none,0,0,rfl,⟨rfl,.inl ⟨rfl,rfl⟩⟩,(Below.refl w.heap.size w).alloc (Nat.le_refl _) _⟩
 ·have HW:=ja0 (show jf6 n=(1,[(n,1)])from if_neg h0)
  have hne:(n==0)=false:=beq_eq_false_iff_ne.2 h0
  have HF:=ja0 (zs7 n 1 (w.alloc (.cells #[.int .i64 0,.slice none 0 0] 24)))
  go_enter Tryz.func50,Tryz.ntmps50
  go_wp2_with (first
   | (go_at_call 55;refine HF.out.mono ?_;rintro e w1 ⟨A,n1,c1,rfl,ho,hb⟩
      (try simp only[World.size_alloc] at hb ho)
      have HR1:=ja0 (HR0.out.below hb (by omega))
      have HB1:=ja0 (HB0.out.trans (hb.mono (by omega)))
      obtain⟨u1,u2,u3,u4⟩:=HR1.out.two
      have HO:=ja0 ho
      clear hb ho))
  refine jk7 (p:=2) (ty:=24) rfl rfl ((HR1.out.set_ 0 _).set_ 1 _) (d:=_) rfl Tryz.underlying24 Tryz.sizeNumber rfl ?_
  rw[HW.out]
  exact⟨A,n1,c1,rfl,jd3 (ownsRow_setCell_below (ownsRow_setCell_below HO.out (by show w.heap.size<_;omega) _) (by show w.heap.size<_;omega) _) (by omega),(HB1.out.setCell (by show _<=w.heap.size;omega) _).setCell (by show _<=w.heap.size;omega) _⟩
theorem jdc0 (p:PieceV) (B:Nat) (w:World) (hp:p.At w B) (hB:B<=w.heap.size) (hm:∀m∈p.ms,0<=m/\m<=1000) :
  Calls Tryz.prog 75 #[.agg #[.bool p.minus,.slice p.A p.n p.c]] w fun e w'=>e=.returned (.bool (jk2 1 p.ms==0))/\Below w.heap.size w w':=by
 obtain⟨mi,A,n,c,ms⟩:=p
 have HP:=ja0 (zg4 A n c B ms (w.alloc (.cells #[.bool mi,.slice A n c] 94)) (Rd.alloc hp hB _) hm)
 have HB0:=ja0 ((Below.refl w.heap.size w).alloc (Nat.le_refl _) (.cells #[.bool mi,.slice A n c] 94))
 clear hp hm
 dsimp only
 generalize jk2 1 ms=r at *
 go_enter Tryz.func75,Tryz.ntmps75
 go_wp2_with (first
  | (go_at_call 76;refine HP.out.mono ?_;rintro e w1 ⟨rfl,hw⟩;subst w1))
 all_goals go_ret
 all_goals exact⟨by simp[*],HB0.out⟩
theorem jdp4 (xd:Int) (A:Option Addr) (n c B:Nat) (xt:List (Int×Int)) (w:World) (hx:ja6 w B A n c xt) (hB:B<=w.heap.size) :
  Calls Tryz.prog 53 #[.agg #[.int .i64 xd,.slice A n c]] w fun e w'=>e=.returned (.tuple #[.int .i64 (jn0 xd xt).1,.int .i64 (jn0 xd xt).2.1,.bool (jn0 xd xt).2.2])/\Below w.heap.size w w':=by
 have hl:=hx.len
 have hcm:=hx.nmax
 have HXa:=ja0 (Blk.new w 24 #[.int .i64 xd,.slice A n c])
 have HTa:Hid (ja6 (w.alloc (.cells #[.int .i64 xd,.slice A n c] 24)) B A n c xt):=ja0 (Rd.alloc hx hB _)
 have HBa:=ja0 ((Below.refl w.heap.size w).alloc (Nat.le_refl _) (.cells #[.int .i64 xd,.slice A n c] 24))
 clear hx
 rcases xt with _|⟨⟨co,ro⟩,_|⟨u,ts⟩⟩
 ·have HP:Hid (jn0 xd []=(0,1,true)):=ja0 rfl
  obtain rfl:n=0:=by simpa using hl.symm
  obtain⟨q1,q2,_,_⟩:=HXa.out.two
  clear hl HTa HXa
  go_enter Tryz.func53,Tryz.ntmps53
  go_wp2
  go_ret3
  rw[HP.out]
  exact⟨rfl,HBa.out⟩
 ·obtain⟨ad,had,hc0,hc1⟩:=HTa.out.at_ (i:=0) (by simp)
  obtain rfl:n=1:=by simpa using hl.symm
  subst had
  obtain⟨q1,q2,_,_⟩:=HXa.out.two
  simp only[Nat.zero_mul,List.getElem_cons_zero,jbr6] at hc0 hc1
  by_cases hr:ro=1
  ·subst hr
   have HP:Hid (jn0 xd [(co,1)]=(co,xd,true)):=ja0 (by unfold jn0;simp)
   have HBd:=ja0 (fun q=>jb5 HBa.out q)
   clear hl HTa HXa
   go_enter Tryz.func53,Tryz.ntmps53
   go_wp2
   generalize w.alloc (.cells #[.int .i64 xd,.slice (some ad) 1 c] 24)=wa at *
   go_region_held3 (fun w'=>w'.cell? ⟨w.heap.size,0,none⟩=some (.int .i64 xd)/\w'.cell? ⟨w.heap.size,1,none⟩=some (.slice (some ad) 1 c)/\w'.cell? ad=some (.int .i64 co)) (exact⟨q1,q2,hc0⟩) (fail)
   all_goals
    go_wp2
    go_ret3
    rw[HP.out]
    exact⟨rfl,HBd.out 1⟩
  ·have HP:Hid (jn0 xd [(co,ro)]=(0,0,false)):=ja0 (by unfold jn0;exact if_neg hr)
   have hrn:(ro !=1)=true:=by simpa using hr
   clear hl HTa HXa
   go_enter Tryz.func53,Tryz.ntmps53
   go_wp2
   go_ret3
   rw[HP.out]
   exact⟨rfl,HBa.out⟩
 ·have HP:Hid (jn0 xd ((co,ro)::u::ts)=(0,0,false)):=ja0 rfl
  have hl2:(1:Int)<(n:Int):=by simp at hl;omega
  have hl0:((n:Int)==0)=false:=beq_eq_false_iff_ne.2 (by omega)
  obtain⟨q1,q2,_,_⟩:=HXa.out.two
  clear HTa hl HXa
  go_enter Tryz.func53,Tryz.ntmps53
  go_wp2
  go_ret3
  rw[HP.out]
  exact⟨rfl,HBa.out⟩
open Go
theorem jcd3{n:Nat}{P:Program}{o:Oper}{a:Act}{K:Act->World->Prop}{Q:Exit->Act->World->Prop}{l:Nat}{r:Result Next}(h:o.uponIn Fence.wide n P a K Q r):o.uponIn (Fence.wide.inRound l) n P a K Q r:=by
 cases r with
 | ok x w'=>cases x<;>exact h
 | halt x w'=>cases x<;>exact h
def jan8(ops:Array Oper):Bool:=ops.all fun o=>match o.op with|.defer _=>false|_=>true
theorem jcb7{ops:Array Oper}(h:jan8 ops=true){j:Nat}{o:Oper}(hj:ops[j]?=some o)(c:Call):o.op≠.defer c:=by
 intro e
 unfold jan8 at h
 rw[Array.all_eq_true] at h
 obtain⟨hlt,rfl⟩:=Array.getElem?_eq_some_iff.1 hj
 have:=h j hlt
 rw[e] at this
 simp at this
theorem jcd7 {n:Nat} {P:Program} {ops:Array Oper} {K:Act->World->Prop} {Q:Exit->Act->World->Prop} {i:Nat} {a:Act} {w:World} {l:Nat} (hnd:jan8 ops=true)
  (h:wpOpIn Fence.wide n P ops Q i K a w):wpOpIn (Fence.wide.inRound l) n P ops Q i K a w:=by
 unfold wpOpIn at *
 split
 ·rename_i hn;simp only[hn] at h;exact h
 ·rename_i o ho
  simp only[ho] at h
  split
  ·rename_i hw
   simp only[hw,if_true] at h
   unfold Oper.wpIn at *
   refine⟨h.1,?_⟩
   have h2:=h.2
   rw[Oper.semAt_plain _ _ _ (jcb7 hnd ho)] at h2 ⊢
   exact jcd3 h2
  ·rename_i hw
   simp only[hw] at h
   exact h
theorem jah0{n:Nat}{P:Program}{ops:Array Oper}{Q:Exit->Act->World->Prop}{md:Region.Mode}{l:Nat}(hnd:jan8 ops=true):∀(fuel:Nat) (listed:Array Bool) (a:Act) (w:World),
  wpAnyIn Fence.wide n P md ops Q fuel listed a w->wpAnyIn (Fence.wide.inRound l) n P md ops Q fuel listed a w
 | 0,_,_,_,h=>h
 | fuel+1,listed,a,w,h=>⟨h.1,fun i hi=>jcd7 hnd (wpOpIn_mono (fun a w h=>jah0 hnd fuel _ a w h) (h.2 i hi))⟩
theorem jar7 {n id:Nat} {P:Program} {ops:Array Oper} {Q:Exit->Act->World->Prop} {l:Nat} {a:Act} {w:World} (hm:P.follows .mixedOrders=true) (hnd:jan8 ops=true)
  (h:wpAnyIn Fence.wide n P .any ops Q ops.size (Array.replicate ops.size false) a w.drew):(Code.region id ops true).wpIn (Fence.wide.inRound l) n P Q a w:=
 wpIn_region_any hm (jah0 hnd _ _ _ _ h)
theorem jaz3 (d:Int) (A:Option Addr) (n c B:Nat) (ts:List (Int×Int)) (w:World) (hq:jd1 w B A n c ts) (hB:B<=w.heap.size) (hn:n<=1000) :
  Calls Tryz.prog 10 #[.agg #[.int .i64 d,.slice A n c]] w (zs2 w (d,ts)):=by
 obtain rfl:=hq.len
 obtain⟨i1,hi1,hy0,hy1,hy2⟩:=info_parts Tryz.infoTerm
 obtain⟨w0,hw0⟩:∃w0,w0=(w.alloc (.cells #[.int .i64 d,.slice A ts.length c] 24)).alloc (.cells #[.int .i64 0,.slice none 0 0] 24):=⟨_,rfl⟩
 have hz0:w0.heap.size=w.heap.size+2:=by rw[hw0];simp
 have HX0:Hid (Blk w0 w.heap.size 24 #[.int .i64 d,.slice A ts.length c]):=ja0 (by rw[hw0];exact(Blk.new w _ _).alloc _)
 have HR0:Hid (Blk w0 (w.heap.size+1) 24 #[.int .i64 0,.slice none 0 0]):=ja0 (by
  rw[hw0]
  have h:=Blk.new (w.alloc (.cells #[.int .i64 d,.slice A ts.length c] 24)) 24 #[.int .i64 0,.slice none 0 0]
  rwa [World.size_alloc] at h)
 have HB0:Hid (Below w.heap.size w w0):=ja0 (by rw[hw0];exact((Below.refl _ _).alloc (Nat.le_refl _) _).alloc (by simp) _)
 have HL0:Hid ((w0.alloc (.cells #[] 59)).ownsRow (w.heap.size+2) 59 2 (.slice (some ⟨w.heap.size+2,0,none⟩) 0 0) 0 []):=ja0 (by
  have h:=World.ownsRow_lit (base:=w.heap.size+2) (e:=59) (size:=2) w0 #[] 0 (by omega) (by unfold maxLen;omega) rfl
  rwa [hz0] at h)
 have HX1:=ja0 (HX0.out.alloc (.cells #[] 59));have HR1:=ja0 (HR0.out.alloc (.cells #[] 59));have HB1:=ja0 (HB0.out.alloc (by omega) (.cells #[] 59))
 have HQ1:=ja0 (Rq.alloc (Rq.below hq (HB0.out.mono hB)) (show B<=w0.heap.size by omega) (.cells #[] 59))
 clear hq
 go_enter Tryz.func10,Tryz.ntmps10
 go_upto_region 1 with fail
 rw[<-hw0]
 clear hw0
 obtain⟨x0,x1,xf0,xf1⟩:=HX1.out.two
 go_wp2_with (first
  | (at_builtin;refine jz4 rfl _ _ 22 rfl (w.heap.size+2) 59 i1 (.agg #[.int .i64 0,.int .i64 0]) 2 16 Tryz.underlying22 hi1 hy0 hy1 hy2 rfl (by decide) (.slice (some ⟨w.heap.size+2,0,none⟩) 0 0) 0 [] rfl HL0.out A ts.length c B (jb4 ts) rfl HQ1.out (jct5 ts) (by unfold maxLen;omega) (by omega) (by simp;omega) ?_
     intro A3 c3 w3 ho3 hg3
     have hne:∀j,(Value.slice (some ⟨w.heap.size+2,0,none⟩) 0 0).ownBlock=some j->w.heap.size+2<=j:=fun j e=>(HL0.out.lt j e).1
     have HO3:Hid (w3.ownsRow (w.heap.size+2) 59 2 (.slice A3 ts.length c3) ts.length (jb4 ts)):=ja0 (by simpa using ho3)
     have HX3:=ja0 (HX1.out.grown hg3 (fun e=>by have:=hne _ e;omega));have HR3:=ja0 (HR1.out.grown hg3 (fun e=>by have:=hne _ e;omega));have HB3:=ja0 (HB1.out.grown hg3 (by simp;omega) (fun j e=>by have:=hne j e;omega))
     obtain⟨x0,x1,xf0,xf1⟩:=HX3.out.two
     obtain⟨r0,r1,rf0,rf1⟩:=HR3.out.two
     rw[Nat.zero_add]
     clear ho3 hg3 hne))
 refine jk7 (p:=2) (ty:=24) rfl rfl (((HR3.out.far (p:=⟨w.heap.size,1,none⟩) (by simp) _).set_ 0 _).set_ 1 _) (d:=_) rfl Tryz.underlying24 Tryz.sizeNumber rfl ?_
 exact⟨A3,ts.length,c3,rfl,jd3 (ownsRow_setCell_below (ownsRow_setCell_below (ownsRow_setCell_below HO3.out (by show w.heap.size<_;omega) _) (by show w.heap.size+1<_;omega) _) (by show w.heap.size+1<_;omega) _) (by omega),
  Below.setCell (Below.setCell (Below.setCell HB3.out (p:=⟨w.heap.size,1,none⟩) (Nat.le_refl _) _) (p:=⟨w.heap.size+1,0,none⟩) (by show w.heap.size<=w.heap.size+1;omega) _) (p:=⟨w.heap.size+1,1,none⟩) (by show w.heap.size<=w.heap.size+1;omega) _⟩
open Go.ChangeShapes Go.WideShapes Go.ChangeAt Go.RowKit
def errL (n : String) (l : List UInt8) : String × DataW Unit := (n, .iface "*errors.errorString" (.ptr (.agg [.lit (.string l)])))
def jdp9:List UInt8:=[118,97,108,117,101,32,111,117,116,32,111,102,32,114,97,110,103,101]
def jdb4:List UInt8:=[105,110,118,97,108,105,100,32,115,121,110,116,97,120]
theorem Tryz.star : "*" ++ "errors.errorString" = "*errors.errorString" := by decide
theorem Tryz.rowErr (u : TypeId) (h : Tryz.prog.typeName? 3 u = some "*errors.errorString") : u = 239 :=
 typeName_ptr_named (nm := "errors.errorString") (by rw [Tryz.star]; kernel_rfl) (by kernel_rfl) (by decide) u (by rw [Tryz.star]; exact h)
theorem Tryz.gRange : Tryz.prog.globalNamed "strconv.ErrRange" = some 1 := by kernel_rfl
theorem Tryz.gRangeT:(Tryz.prog.globals[1]?).map (·.type)=some 161:=by kernel_rfl
theorem Tryz.gSyntax : Tryz.prog.globalNamed "strconv.ErrSyntax" = some 0 := by kernel_rfl
theorem Tryz.gSyntaxT:(Tryz.prog.globals[0]?).map (·.type)=some 161:=by kernel_rfl
theorem Tryz.gPow : Tryz.prog.globalNamed "internal/strconv.uint64pow10" = some 2 := by kernel_rfl
theorem Tryz.gPowT:(Tryz.prog.globals[2]?).map (·.type)=some 243:=by kernel_rfl
theorem Tryz.errField:∃f:Field,Tryz.prog.underlying 241=some (.struct #[f])/\f.type=9/\f.offset=0:=⟨_,Tryz.underlying241,rfl,rfl⟩
theorem Tryz.cellsErr:Tryz.prog.cellsOf 241=1:=by kernel_rfl
theorem Tryz.cellsStr:Tryz.prog.cellsOf 9=1:=by kernel_rfl
theorem Tryz.cellsPow:Tryz.prog.cellsOf 243=20:=by kernel_rfl
theorem Tryz.cellsU64:Tryz.prog.cellsOf 181=1:=by kernel_rfl
theorem jfs1 {W : World} {r : List (String × DataW Unit)} (h : laidMet Tryz.prog (("internal/strconv.uint64pow10", Lib.tabData .u64 Lib.pow10Tab) :: errL "strconv.ErrRange" jdp9 :: errL "strconv.ErrSyntax" jdb4 :: r) W) :
  jp2 W ∧ Lib.TabIs Tryz.prog W "internal/strconv.uint64pow10" .u64 Lib.pow10Tab := by
 obtain⟨f,hf,hft,hfo⟩:=Tryz.errField
 obtain⟨a1,s1,hv1,-,-,-⟩:=laid_sentinel h.tail Tryz.gRange Tryz.gRangeT Tryz.underlying161 Tryz.rowErr Tryz.underlying239 hf hft hfo Tryz.underlying9 Tryz.cellsErr Tryz.cellsStr
 obtain⟨a2,s2,hv2,-,-,-⟩:=laid_sentinel h.tail.tail Tryz.gSyntax Tryz.gSyntaxT Tryz.underlying161 Tryz.rowErr Tryz.underlying239 hf hft hfo Tryz.underlying9 Tryz.cellsErr Tryz.cellsStr
 exact⟨⟨_,_,_,_,hv2,hv1⟩,Lib.tabIs_of_head Tryz.gPow Tryz.gPowT Tryz.underlying243 Tryz.underlying181 Tryz.cellsU64 Tryz.cellsPow h⟩
open Go.ChangeShapes Go.WideShapes Go.ChangeAt Go.RowKit Go.Joins Go.Deep
theorem jfh7{α:Type}[Inhabited α]{n:Nat}{p:Nat->α->Prop}(h:∀i,i<n->∃x,p i x):∃l:List α,l.length=n/\∀i (hi:i<l.length),p i l[i]:=by
 obtain⟨f,hf⟩:=choose_lt h
 refine⟨(List.range n).map f,by simp,fun i hi=>?_⟩
 have:i<n:=by simpa using hi
 simpa using hf i this
open Go.Proofs.YtphcodcdfeohhaaGreatDoor
theorem both{a b:Bool}(ha:a=true)(hb:b=true):(a&&b)=true:=by rw[ha,hb];rfl
theorem jfn0:laidOutB Tryz.pinned.checked.prog=true:=by kernel_rfl
theorem jfh4:mapsRowed Tryz.pinned.checked.prog=true:=by kernel_rfl
theorem jfp6:((OpenClaim.plainKeys Rows.cordNearestRow)==Tryz.pinned.checked.prog.plainKeys)=true:=by kernel_rfl
theorem jfh3:Tryz.pinned.checked.prog.stopsHeard=true:=by kernel_rfl
theorem jfs5:Tryz.pinned.checked.prog.mayEnter=true:=by kernel_rfl
theorem jfp7:(Rows.cordNearestRow.lifted==Tryz.pinned.checked.prog.liftsFinal)=true:=by kernel_rfl
theorem jfp9:(Tryz.pinned.checked.prog.make==some Rows.cordNearestRow.make)=true:=by kernel_rfl
theorem jfp8:Tryz.pinned.checked.prog.mainIs=some (Rows.cordNearestCard.stood.harness.1,Rows.cordNearestCard.stood.harness.2.toList):=by kernel_rfl
section
variable {H : Type} {enc : TypeId × Value → H} {W : World} {spare : Nat → Bool} {held : Bool} {fuel : Nat}
theorem jcn4 {cs:List Value} {x:DataW H×List MemPlace} (h:DataW.trod enc Tryz.prog W 0 spare held fuel 22 cs=some x) :
  ∃(A:Option Addr) (n c:Nat) (l:List (Int×Int)),cs=[.slice A n c]/\jd1 W W.heap.size A n c l/\∀t∈l,(Lit.int .i64 t.1).wf=true/\(Lit.int .i64 t.2).wf=true:=by
 rcases open_slice_pairs Tryz.underlying22 Tryz.underlying59 (by kernel_rfl) rfl rfl (by kernel_rfl) (by kernel_rfl) h with⟨rfl,-⟩|⟨a,len,cap,m,n,V0,V1,D0,D1,P0,P1,rfl,-,hl,hm,hmm,-,hx⟩
 ·exact⟨none,0,0,[],rfl,Rq.empty _ _ _ _,fun _ h=>by cases h⟩
 ·have hlm:len<=m:=by rw[hmm];split<;>omega
  obtain⟨l,hlen,hq⟩:=jfh7 (α:=Int×Int) (n:=len) (p:=fun i p=>W.cell? (a.add (i*2))=some (.int .i64 p.1)/\W.cell? (a.add (i*2+1))=some (.int .i64 p.2)/\(Lit.int .i64 p.1).wf=true/\(Lit.int .i64 p.2).wf=true) (fun i hi=>by
   obtain⟨h0,h1,t0,t1⟩:=hx i (by omega)
   obtain⟨b,e0,-,w0⟩:=DataW.trod_int Tryz.underlying3 t0
   obtain⟨d,e1,-,w1⟩:=DataW.trod_int Tryz.underlying3 t1
   injection e0 with e0
   injection e1 with e1
   exact⟨(b,d),by rw[h0,e0],by rw[h1,e1],w0,w1⟩)
  refine⟨some a,len,cap,l,rfl,⟨by rw[jb4,jn7,List.length_map,hlen],hl,hm,?_⟩,fun p hp=>?_⟩
  ·rcases Nat.eq_zero_or_pos len with h0|h0
   ·exact .inl h0
   ·have hb:=World.block_lt_of_cell? _ _ (hq 0 (by omega)).1
    rw[jc4] at hb
    refine .inr ⟨a,rfl,hb,fun j u hu=>?_⟩
    rw[jb4] at hu
    have hj:j<len*2:=by
     rcases Nat.lt_or_ge j (len*2)with h1|h1
     ·exact h1
     ·rw[List.getElem?_eq_none (by rw[jn7,List.length_map];omega)] at hu;cases hu
    have hi:j/2<(l.map encT).length:=by simp;omega
    obtain⟨g0,g1⟩:=jah2 (l.map encT) (j/2) hi
    obtain⟨c0,c1,-⟩:=hq (j/2) (by omega)
    rw[List.getElem_map] at g0 g1
    rcases Nat.mod_two_eq_zero_or_one j with h2|h2
    ·rw[show j/2*2=j by omega] at g0 c0
     rw[g0] at hu
     injection hu with hu
     rw[c0,<-hu]
     rfl
    ·rw[show j/2*2+1=j by omega] at g1 c1
     rw[g1] at hu
     injection hu with hu
     rw[c1,<-hu]
     rfl
  ·obtain⟨i,hi,rfl⟩:=List.mem_iff_getElem.1 hp
   exact(hq i (by omega)).2.2
theorem jcn3 {r:Reach} {b0:Nat} {v:Value} {d:DataW H} {p:List MemPlace} (hv:Value.okWide Tryz.prog W r b0 24 v) (h:DataW.Trod enc Tryz.prog W 0 spare held 24 v d p) :
  ∃(den:Int) (A:Option Addr) (n c:Nat) (l:List (Int×Int)),v=.agg #[.int .i64 den,.slice A n c]/\jd1 W W.heap.size A n c l/\(Lit.int .i64 den).wf=true/\∀t∈l,(Lit.int .i64 t.1).wf=true/\(Lit.int .i64 t.2).wf=true:=by
 obtain⟨v0,v1,y0,y1,m,rfl,-,-,h0,h1⟩:=open_agg2 Tryz.underlying24 (by kernel_rfl) (by kernel_rfl) hv h
 obtain⟨den,e0,-,w0⟩:=DataW.trod_int Tryz.underlying3 h0
 obtain⟨A,n,c,l,e1,hP,hw⟩:=jcn4 h1
 injection e0 with e0
 injection e1 with e1
 exact⟨den,A,n,c,l,by rw[e0,e1],hP,w0,hw⟩
end
def jr4(w:World)(B:Nat)(A:Option Addr)(n c:Nat)(l:List PieceV):Prop:=Rq w B 2 A n c (jc7 (l.map PieceV.enc))/\∀p∈l,jf1 w B p.A p.n p.c p.ms
section
variable {w w' : World} {B B' n c : Nat} {A : Option Addr} {l : List PieceV}
theorem jr4.of(h:jc8 w B A n c l):jr4 w B A n c l:=⟨Rq.of h.1,fun p hp=>Rq.of (h.2 p hp)⟩
theorem jr4.len(h:jr4 w B A n c l):l.length=n:=by
 have h1:=h.1.1
 rw[jn7,List.length_map] at h1
 omega
theorem jr4.below(h:jr4 w B A n c l)(hb:Below B w w'):jr4 w' B A n c l:=⟨h.1.below hb,fun p hp=>Rq.below (h.2 p hp) hb⟩
theorem jr4.more(h:jr4 w B A n c l)(hB:B<=B'):jr4 w B' A n c l:=⟨h.1.more hB,fun p hp=>Rq.more (h.2 p hp) hB⟩
theorem jr4.alloc(h:jr4 w B A n c l)(hB:B<=w.heap.size)(o:Obj):jr4 (w.alloc o) B A n c l:=⟨h.1.alloc hB o,fun p hp=>Rq.alloc (h.2 p hp) hB o⟩
theorem jr4.at_(h:jr4 w B A n c l){i:Nat}(hi:i<l.length):∃ad:Addr,A=some ad/\ad.block<B/\w.cell? (ad.add (i*2))=some (.bool l[i].minus)/\w.cell? ⟨(ad.add (i*2)).block,(ad.add (i*2)).off+1,none⟩=some (.slice l[i].A l[i].n l[i].c):=by
 obtain⟨ad,e,hb,h1,h2⟩:=jda5 h.1 (i:=i) (by simpa using hi)
 simp only[List.getElem_map] at h1 h2
 exact⟨ad,e,hb,h1,h2⟩
end
theorem jaj1(n a b:Int)(w:World):Calls Tryz.prog 56 #[.int .i64 n,.int .i64 a,.int .i64 b] w fun e w'=>e=.returned (.bool (inB n a b))/\w'=w:=by
 unfold inB
 by_cases h1:a<=n
 all_goals
  go_enter Tryz.func56,Tryz.ntmps56
  go_wp2
  go_ret
  exact⟨by first|(simp[h1];done)|(simp[h1];omega),rfl⟩
theorem jcc6(n:Int)(w:World):Calls Tryz.prog 44 #[.int .i64 n] w (zs2 w (jf6 n)):=by
 unfold jf6
 by_cases h0:n=0
 ·rw[if_pos h0]
  have hb0:(n==0)=true:=by simpa using h0
  go_enter Tryz.func44,Tryz.ntmps44
  go_wp2
  refine jk7 (p:=2) (ty:=24) rfl rfl (Blk.new w _ _) (d:=_) rfl Tryz.underlying24 Tryz.sizeNumber rfl ?_
  exact⟨none,0,0,rfl,⟨rfl,.inl ⟨rfl,rfl⟩⟩,(Below.refl w.heap.size w).alloc (Nat.le_refl _) _⟩
 ·rw[if_neg h0]
  have hb0:(n==0)=false:=by simpa using h0
  have HO1:=ja0 (fun x:Array Value=>(show((w.alloc (.cells x 24)).alloc (.cells #[.int .i64 n,.int .i64 1] 59)).ownsRow (w.heap.size+1) 59 2 (.slice (some ⟨w.heap.size+1,0,none⟩) 1 1) 1 (jb4 [(n,1)]) by
   have h:=World.ownsRow_lit (base:=w.heap.size+1) (e:=59) (size:=2) (w.alloc (.cells x 24)) #[.int .i64 n,.int .i64 1] 1 (by simp) (by unfold maxLen;omega) rfl
   rw[World.size_alloc] at h
   exact h))
  have HN:=ja0 (Blk.new w 24 #[.int .i64 0,.slice none 0 0])
  have HN2:=ja0 (HN.out.alloc (.cells #[.int .i64 n,.int .i64 1] 59))
  obtain⟨n0,n1,nf0,nf1⟩:=HN2.out.two
  go_enter Tryz.func44,Tryz.ntmps44
  go_wp2
  refine jk7 (p:=2) (ty:=24) rfl rfl ((Blk.new w _ _).alloc _) (d:=_) rfl Tryz.underlying24 Tryz.sizeNumber rfl ?_
  exact⟨_,_,_,rfl,jd3 (HO1.out _) (by omega),((Below.refl w.heap.size w).alloc (Nat.le_refl _) _).alloc (by simp) _⟩
instance:Inhabited PieceV:=⟨⟨false,none,0,0,[]⟩⟩
section
variable {H : Type} {enc : TypeId × Value → H} {W : World} {spare : Nat → Bool} {held : Bool} {fuel : Nat}
end
end Go.Proofs.YtphcodcdfeohhaaGreatDoor
