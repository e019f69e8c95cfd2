import Derived.Test.YtphcodcdfeohhaaGreatDoorOfsB
import Derived.Test.YtphcodcdfeohhaaGreatDoorIdxPToCordB
import Derived.Test.YtphcodcdfeohhaaGreatDoorCordGToCardB
import Derived.Test.YtphcodcdfeohhaaGreatDoorVarNToKnown
import Derived.Test.YtphcodcdfeohhaaGreatDoorWithAToCordX
set_option linter.unusedVariables false
set_option linter.unusedSimpArgs false
namespace Go.Proofs.YtphcodcdfeohhaaGreatDoor
set_option maxRecDepth 100000
set_option maxHeartbeats 16000000
open Go Go.RowKit
theorem jcs6 (xd:Int) (A:Option Addr) (n c:Nat) (xt:List (Int×Int)) (bd:Int) (bA:Option Addr) (bn bc:Nat) (bt:List (Int×Int)) (m:Int) (B:Nat) (w:World) (hx:ja6 w B A n c xt) (hy:ja6 w B bA bn bc bt) (hB:B<=w.heap.size) :
  Calls Tryz.prog 16 #[.agg #[.int .i64 xd,.slice A n c],.int .i64 m,.agg #[.int .i64 bd,.slice bA bn bc]] w (jbc2 w xd xt m bd bt):=jdc1 xd A n c xt m bd bA bn bc bt B w hx hy hB
theorem jfb8 (xd:Int) (A:Option Addr) (n c:Nat) (xt:List (Int×Int)) (yd:Int) (A':Option Addr) (n' c':Nat) (yt:List (Int×Int)) (p q:Int) (w:World) (hx:jd1 w w.heap.size A n c xt) (hy:jd1 w w.heap.size A' n' c' yt)
  (hE : jp2 w) (htab : Lib.TabIs Tryz.prog w "internal/strconv.uint64pow10" .u64 Lib.pow10Tab) :
  Calls Tryz.prog 4 #[.agg #[.int .i64 xd,.slice A n c],.agg #[.int .i64 yd,.slice A' n' c'],.agg #[.int .i64 p,.int .i64 q]] w fun e w'=>e=.returned (.bool true)/\Below w.heap.size w w':=by
 obtain⟨gp,hgp⟩:=Option.isSome_iff_exists.1 Tryz.pow10g
 have HK:Hid (∀W,Below w.heap.size w W->Calls Tryz.prog 8 #[] W fun e w'=>e=.returned (.bool true)/\Below W.heap.size W w'):=ja0 (fun W hW=>jdk7 W (hE.below hW (Nat.le_refl _)) (jt8 hgp htab hW))
 have hl:=hx.len
 subst hl
 have hl:=hy.len
 subst hl
 have HPX:=ja0 (fun W (hb:Below w.heap.size w W)=>Rq.below hx hb)
 have HPY:=ja0 (fun W (hb:Below w.heap.size w W)=>Rq.below hy hb)
 clear hx hy hE htab hgp
 go_enter Tryz.func4,Tryz.ntmps4
 go_upto_region 1 with fail
 obtain⟨X3,hX3⟩:∃X,X=w.heap.size:=⟨_,rfl⟩
 obtain⟨X4,hX4⟩:∃X,X=w.heap.size+1:=⟨_,rfl⟩
 obtain⟨X5,hX5⟩:∃X,X=w.heap.size+2:=⟨_,rfl⟩
 obtain⟨W1,hW1⟩:∃W,W=((w.alloc (.cells #[.int .i64 xd,.slice A xt.length c] 24)).alloc (.cells #[.int .i64 yd,.slice A' yt.length c'] 24)).alloc (.cells #[.int .i64 p,.int .i64 q] 36):=⟨_,rfl⟩
 have HS:Hid ((((Below w.heap.size w W1/\w.heap.size<=W1.heap.size)/\Blk W1 X3 24 #[.int .i64 xd,.slice A xt.length c])/\Blk W1 X4 24 #[.int .i64 yd,.slice A' yt.length c'])/\Blk W1 X5 36 #[.int .i64 p,.int .i64 q]):=ja0 (by
  rw[hW1]
  refine⟨⟨⟨⟨(((Below.refl _ _).alloc (Nat.le_refl _) _).alloc (by simp) _).alloc (by simp;omega) _,by simp;omega⟩,hX3▸((Blk.new w _ _).alloc _).alloc _⟩,?_⟩,?_⟩
  ·have h:=(Blk.new (w.alloc (.cells #[.int .i64 xd,.slice A xt.length c] 24)) 24 #[.int .i64 yd,.slice A' yt.length c']).alloc (.cells #[.int .i64 p,.int .i64 q] 36)
   rw[World.size_alloc] at h
   rw[hX4];exact h
  ·have h:=Blk.new ((w.alloc (.cells #[.int .i64 xd,.slice A xt.length c] 24)).alloc (.cells #[.int .i64 yd,.slice A' yt.length c'] 24)) 36 #[.int .i64 p,.int .i64 q]
   rw[World.size_alloc,World.size_alloc] at h
   rw[hX5];exact h)
 rw[<-hX5,<-hX4,<-hX3,<-hW1] at ⊢
 clear hX3 hX4 hX5 hW1
 have hrow:(W1.alloc (.cells #[.int .i64 xd,.slice A xt.length c,.int .i64 yd,.slice A' yt.length c'] 24)).ownsRow W1.heap.size 24 2 (.slice (some ⟨W1.heap.size,0,none⟩) 2 2) 2 (jc7 ([(xd,(A,xt.length,c)),(yd,(A',yt.length,c'))].map jdy4)):=
  World.ownsRow_lit (base:=W1.heap.size) (e:=24) (size:=2) W1 #[.int .i64 xd,.slice A xt.length c,.int .i64 yd,.slice A' yt.length c'] 2 (Nat.le_refl _) (by unfold maxLen;omega) rfl
 have HWD:=ja0 (jck7 (some ⟨W1.heap.size,0,none⟩) 2 2 _ [(xd,(A,xt.length,c)),(yd,(A',yt.length,c'))] _ (Rq.of (Rd.of_own hrow)))
 have HS1:=ja0 (Kept.keep (S:=fun W=>((((Below w.heap.size w W/\w.heap.size<=W.heap.size)/\Blk W X3 24 #[.int .i64 xd,.slice A xt.length c])/\Blk W X4 24 #[.int .i64 yd,.slice A' yt.length c'])/\Blk W X5 36 #[.int .i64 p,.int .i64 q])) _ _ HS.out ((Below.refl _ _).alloc (Nat.le_refl _) (.cells #[.int .i64 xd,.slice A xt.length c,.int .i64 yd,.slice A' yt.length c'] 24)))
 clear hrow
 obtain⟨x0,x1,_,_⟩:=(HS.out.1.1.2).two
 obtain⟨y0,y1,_,_⟩:=(HS.out.1.2).two
 cases hw8:jcs5 [(xd,(A,xt.length,c)),(yd,(A',yt.length,c'))]
 rotate_left 1
 focus
  rw[hw8] at HWD
  have HB1:=ja0 HS1.out.1.1.1
  go_wp2_with (first
   | (go_at_call 8;refine(HK.out _ HB1.out.1).mono ?_;rintro e wz ⟨rfl,hbz⟩
      have HBe:=ja0 (HB1.out.1.trans (hbz.mono HB1.out.2))
      clear hbz)
   | (go_at_call 7;refine HWD.out.mono ?_;rintro e w1 ⟨rfl,hw⟩;subst w1))
  all_goals
   go_ret
   exact⟨rfl,HBe.out⟩
 rw[hw8] at HWD
 have h8:xt.length<=8/\yt.length<=8:=by
  have h:=hw8
  simp[jcs5] at h
  exact h
 go_upto_region 3 with(first
  | (go_at_call 7;refine HWD.out.mono ?_;rintro e w1 ⟨rfl,hw⟩;subst w1))
 clear x0 x1 y0 y1 HWD hw8 HS
 generalize W1.alloc (.cells #[.int .i64 xd,.slice A xt.length c,.int .i64 yd,.slice A' yt.length c'] 24)=W2 at *
 have HS:=ja0 HS1.out
 clear HS1
 have HOX:=ja0 (fun W (hb:Below w.heap.size w W) (hB:w.heap.size<=W.heap.size)=>jaz3 xd A xt.length c w.heap.size xt W (HPX.out W hb) hB (by omega))
 have HOY:=ja0 (fun W (hb:Below w.heap.size w W) (hB:w.heap.size<=W.heap.size)=>jaz3 yd A' yt.length c' w.heap.size yt W (HPY.out W hb) hB (by omega))
 clear h8
 obtain⟨u5,v5,_,_⟩:=(HS.out.2).two
 have h5:X5<W2.heap.size:=(HS.out.2).lt
 obtain⟨u3,v3,_,_⟩:=(HS.out.1.1.2).two
 have h3:X3<W2.heap.size:=(HS.out.1.1.2).lt
 have HN3:=ja0 trivial
 have HGd:Hid (((((Below w.heap.size w W2.drew/\w.heap.size<=W2.drew.heap.size)/\Blk W2.drew X3 24 #[.int .i64 xd,.slice A xt.length c])/\Blk W2.drew X4 24 #[.int .i64 yd,.slice A' yt.length c'])/\Blk W2.drew X5 36 #[.int .i64 p,.int .i64 q])/\(Below W2.heap.size W2 W2.drew/\W2.heap.size<=W2.drew.heap.size)):=ja0 ⟨Kept.keep (S:=fun W=>((((Below w.heap.size w W/\w.heap.size<=W.heap.size)/\Blk W X3 24 #[.int .i64 xd,.slice A xt.length c])/\Blk W X4 24 #[.int .i64 yd,.slice A' yt.length c'])/\Blk W X5 36 #[.int .i64 p,.int .i64 q])) _ _ HS.out (Below.drew (Below.refl _ _)),Below.drew (Below.refl _ _),Nat.le_refl _⟩
 refine jt7 11 (fun W'=>Below W2.heap.size W2 W') (fun _ _ _=>True) [] (fun W'=>((((Below w.heap.size w W'/\w.heap.size<=W'.heap.size)/\Blk W' X3 24 #[.int .i64 xd,.slice A xt.length c])/\Blk W' X4 24 #[.int .i64 yd,.slice A' yt.length c'])/\Blk W' X5 36 #[.int .i64 p,.int .i64 q])/\(Below W2.heap.size W2 W'/\W2.heap.size<=W'.heap.size)) (by kernel_rfl)
  (Floats.of (by decide +kernel) (fun c a d v w=>by cases d<;>exact Iff.rfl) (by intro i hi;cases hi) (fun _ _ _ _ _ _=>trivial))
  (fun _ _ _ h=>h) (by decide) HGd.out (fun W h=>h.2.1) (fun HFL=>?_)
 refine jg2.take 0 (v:=?_) rfl rfl HFL (by decide +kernel) (fun W h=>h.2.1) (by rfl) (fun W hF=>?_) ?_
 rotate_left 1
 focus (have hF:=hF (by decide +kernel);have e1:=(hF.cell (p:=⟨X3,0,none⟩) h3).trans u3;have e2:=(hF.cell (p:=⟨X3,1,none⟩) h3).trans v3;clear hF;go_simp;try with_reducible rfl)
 (try simp only[Act.put,lA,lB,lC])
 refine jg2.take 2 (v:=?_) rfl rfl HFL (by decide +kernel) (fun W h=>h.2.1) (by rfl) (fun W hF=>?_) ?_
 rotate_left 1
 focus (clear hF;go_simp;try with_reducible rfl)
 (try simp only[Act.put,lA,lB,lC])
 refine jg2.take 3 (v:=?_) rfl rfl HFL (by decide +kernel) (fun W h=>h.2.1) (by rfl) (fun W hF=>?_) ?_
 rotate_left 1
 focus (have hF:=hF (by decide +kernel);have e1:=(hF.cell (p:=⟨X5,0,none⟩) h5).trans u5;clear hF;go_simp;try with_reducible rfl)
 (try simp only[Act.put,lA,lB,lC])
 refine jg2.take 4 (v:=?_) rfl rfl HFL (by decide +kernel) (fun W h=>h.2.1) (by rfl) (fun W hF=>?_) ?_
 rotate_left 1
 focus (clear hF;go_simp;try with_reducible rfl)
 (try simp only[Act.put,lA,lB,lC])
 refine jg2.take 5 (v:=?_) rfl rfl HFL (by decide +kernel) (fun W h=>h.2.1) (by rfl) (fun W hF=>?_) ?_
 rotate_left 1
 focus (have hF:=hF (by decide +kernel);have e1:=(hF.cell (p:=⟨X5,1,none⟩) h5).trans v5;clear hF;go_simp;try with_reducible rfl)
 (try simp only[Act.put,lA,lB,lC])
 refine jg2.on 1 (fun x:Sl=>.agg #[.int .i64 (xd),.slice x.1 x.2.1 x.2.2]) (fun x W=>zs0 0 x (xt) W) rfl rfl HFL (by decide +kernel) (fun W h=>h.2.1) (fun W hG K' hK=>?_) (fun x1 hF1=>?_)
 focus
  have HC:=ja0 (HOX.out W (hG.1.1.1.1.1) (hG.1.1.1.1.2))
  clear hG
  go_simp
  go_wp2_with (first
   | (go_at_call 10;refine HC.out.mono ?_;rintro e w6 ⟨A,n,c,rfl,ho,hb⟩
      have HO:=ja0 (jd3 ho (Nat.zero_le _));have HBB:=ja0 hb;clear ho hb))
  exact hK.out (A,n,c) _ HO.out HBB.out
 (try simp only[Act.put,lA,lB,lC])
 refine jg2.on 6 (fun x:Int×Int×Int=>.tuple #[.int .i64 x.1,.int .i64 x.2.1,.int .i64 x.2.2]) (fun x W=>jby8 xd xt p q x.1 x.2.1 x.2.2) rfl rfl HFL (by decide +kernel) hF1 (fun W hG K' hK=>?_) (fun x6 hF6=>?_)
 focus
  have HC:=ja0 (jdg1 (xd) x1.1 x1.2.1 x1.2.2 (xt) p q W.heap.size W ((jk3 (hG.2))) (Nat.le_refl _) )
  clear hG
  go_simp
  go_wp2_with (first
   | (go_at_call 14;refine HC.out.mono ?_;rintro e w6 ⟨l1,h1,c1,rfl,hr,hb⟩
      have HQ:=ja0 hr;clear hr
      have HBB:=ja0 hb;clear hb))
  exact hK.out (l1,h1,c1) _ HQ.out HBB.out
 (try simp only[Act.put,lA,lB,lC])
 refine jg2.fin rfl hF6 (fun W101 hG ja1=>?_)
 have HS0:=ja0 (hG.1.1.1)
 have HR:=ja0 hG.2
 clear hG HGd HFL hF1 hF6 HS u3 v3 h3 HN3 u5 v5 h5
 have HS:=ja0 HS0.out
 clear HS0
 refine ja2 7 rfl (by decide +kernel) (fun c a w h=>by first|exact h|(cases h;done)) (by rfl) (v:=?_) ?_ ja1 (fun ja3=>?_)
 rotate_left 1
 focus (intro w' hSw;clear hSw;go_simp;try with_reducible rfl)
 clear ja1
 rename ja4 _ _ _ _ _ _ _=>ja1
 (try simp only[Act.put,lA,lB,lC])
 refine ja2 8 rfl (by decide +kernel) (fun c a w h=>by first|exact h|(cases h;done)) (by rfl) (v:=?_) ?_ ja1 (fun ja3=>?_)
 rotate_left 1
 focus (intro w' hSw;clear hSw;go_simp;try with_reducible rfl)
 clear ja1
 rename ja4 _ _ _ _ _ _ _=>ja1
 (try simp only[Act.put,lA,lB,lC])
 refine ja2 9 rfl (by decide +kernel) (fun c a w h=>by first|exact h|(cases h;done)) (by rfl) (v:=?_) ?_ ja1 (fun ja3=>?_)
 rotate_left 1
 focus (intro w' hSw;clear hSw;go_simp;try with_reducible rfl)
 clear ja1
 rename ja4 _ _ _ _ _ _ _=>ja1
 (try simp only[Act.put,lA,lB,lC])
 refine ja2 10 rfl (by decide +kernel) (fun c a w h=>by first|exact h|(cases h;done)) (by rfl) (v:=?_) ?_ ja1 (fun ja3=>?_)
 rotate_left 1
 focus (intro w' hSw;clear hSw;go_simp;try with_reducible rfl)
 clear ja1
 rename ja4 _ _ _ _ _ _ _=>ja1
 (try simp only[Act.put,lA,lB,lC])
 refine ja5 11 rfl (by decide +kernel) (fun K hK=>?_)
 go_simp
 refine hK.out _ _ ⟨trivial,fun h=>absurd h (by decide +kernel),fun _=>trivial⟩ (fun ja1=>?_)
 clear hK K
 (try simp only[Act.put,lA,lB,lC])
 refine ja2 12 rfl (by decide +kernel) (fun c a w h=>by first|exact h|(cases h;done)) (by rfl) (v:=?_) ?_ ja1 (fun ja3=>?_)
 rotate_left 1
 focus (intro w' hSw;clear hSw;go_simp;try with_reducible rfl)
 clear ja1
 rename ja4 _ _ _ _ _ _ _=>ja1
 (try simp only[Act.put,lA,lB,lC])
 refine ja2 13 rfl (by decide +kernel) (fun c a w h=>by first|exact h|(cases h;done)) (by rfl) (v:=?_) ?_ ja1 (fun ja3=>?_)
 rotate_left 1
 focus (intro w' hSw;clear hSw;go_simp;try with_reducible rfl)
 clear ja1
 rename ja4 _ _ _ _ _ _ _=>ja1
 (try simp only[Act.put,lA,lB,lC])
 refine jc0 (by decide +kernel) ?_
 clear ja1
 try clear ja1
 obtain⟨l1,h1,c1⟩:=x6
 dsimp only at HR
 have HR1:=ja0 HR.out
 clear HR
 go_upto_region 4 with fail
 obtain⟨x0,x1,_,_⟩:=(HS.out.1.1.2).two
 obtain⟨z0,z1,_,_⟩:=(HS.out.2).two
 go_upto_region 5 with(first
  | (go_at_call 15;refine(jda4 xd A xt.length c xt p q w.heap.size W101 (HPX.out _ HS.out.1.1.1.1) HS.out.1.1.1.2).mono ?_;rintro e w102 ⟨l2,h2,c2,rfl,hr,hb⟩
     have HS_0:=ja0 (Kept.keep (S:=fun W=>((((Below w.heap.size w W/\w.heap.size<=W.heap.size)/\Blk W X3 24 #[.int .i64 xd,.slice A xt.length c])/\Blk W X4 24 #[.int .i64 yd,.slice A' yt.length c'])/\Blk W X5 36 #[.int .i64 p,.int .i64 q])) _ _ HS.out hb)
     obtain⟨rfl,rfl,rfl⟩:=jfr3 HR1.out hr
     clear hr
     clear hb))
 clear x0 x1 z0 z1 HR1
 have HS0:=ja0 HS_0.out
 clear HS
 have HS:=ja0 HS0.out
 clear HS0
 try clear HS_0
 obtain⟨u5,v5,_,_⟩:=(HS.out.2).two
 have h5:X5<w102.heap.size:=(HS.out.2).lt
 obtain⟨u3,v3,_,_⟩:=(HS.out.1.1.2).two
 have h3:X3<w102.heap.size:=(HS.out.1.1.2).lt
 have HN3:=ja0 trivial
 obtain⟨u4,v4,_,_⟩:=(HS.out.1.2).two
 have h4:X4<w102.heap.size:=(HS.out.1.2).lt
 have HN4:=ja0 trivial
 have HGd:Hid (((((Below w.heap.size w w102.drew/\w.heap.size<=w102.drew.heap.size)/\Blk w102.drew X3 24 #[.int .i64 xd,.slice A xt.length c])/\Blk w102.drew X4 24 #[.int .i64 yd,.slice A' yt.length c'])/\Blk w102.drew X5 36 #[.int .i64 p,.int .i64 q])/\(Below w102.heap.size w102 w102.drew/\w102.heap.size<=w102.drew.heap.size)):=ja0 ⟨Kept.keep (S:=fun W=>((((Below w.heap.size w W/\w.heap.size<=W.heap.size)/\Blk W X3 24 #[.int .i64 xd,.slice A xt.length c])/\Blk W X4 24 #[.int .i64 yd,.slice A' yt.length c'])/\Blk W X5 36 #[.int .i64 p,.int .i64 q])) _ _ HS.out (Below.drew (Below.refl _ _)),Below.drew (Below.refl _ _),Nat.le_refl _⟩
 refine jt7 10 (fun W'=>Below w102.heap.size w102 W') (fun _ _ _=>True) [] (fun W'=>((((Below w.heap.size w W'/\w.heap.size<=W'.heap.size)/\Blk W' X3 24 #[.int .i64 xd,.slice A xt.length c])/\Blk W' X4 24 #[.int .i64 yd,.slice A' yt.length c'])/\Blk W' X5 36 #[.int .i64 p,.int .i64 q])/\(Below w102.heap.size w102 W'/\w102.heap.size<=W'.heap.size)) (by kernel_rfl)
  (Floats.of (by decide +kernel) (fun c a d v w=>by cases d<;>exact Iff.rfl) (by intro i hi;cases hi) (fun _ _ _ _ _ _=>trivial))
  (fun _ _ _ h=>h) (by decide) HGd.out (fun W h=>h.2.1) (fun HFL=>?_)
 refine jg2.take 0 (v:=?_) rfl rfl HFL (by decide +kernel) (fun W h=>h.2.1) (by rfl) (fun W hF=>?_) ?_
 rotate_left 1
 focus (have hF:=hF (by decide +kernel);have e1:=(hF.cell (p:=⟨X3,0,none⟩) h3).trans u3;have e2:=(hF.cell (p:=⟨X3,1,none⟩) h3).trans v3;clear hF;go_simp;try with_reducible rfl)
 (try simp only[Act.put,lA,lB,lC])
 refine jg2.take 2 (v:=?_) rfl rfl HFL (by decide +kernel) (fun W h=>h.2.1) (by rfl) (fun W hF=>?_) ?_
 rotate_left 1
 focus (clear hF;go_simp;try with_reducible rfl)
 (try simp only[Act.put,lA,lB,lC])
 refine jg2.take 3 (v:=?_) rfl rfl HFL (by decide +kernel) (fun W h=>h.2.1) (by rfl) (fun W hF=>?_) ?_
 rotate_left 1
 focus (have hF:=hF (by decide +kernel);have e1:=(hF.cell (p:=⟨X5,0,none⟩) h5).trans u5;clear hF;go_simp;try with_reducible rfl)
 (try simp only[Act.put,lA,lB,lC])
 refine jg2.take 4 (v:=?_) rfl rfl HFL (by decide +kernel) (fun W h=>h.2.1) (by rfl) (fun W hF=>?_) ?_
 rotate_left 1
 focus (have hF:=hF (by decide +kernel);have e1:=(hF.cell (p:=⟨X4,0,none⟩) h4).trans u4;have e2:=(hF.cell (p:=⟨X4,1,none⟩) h4).trans v4;clear hF;go_simp;try with_reducible rfl)
 (try simp only[Act.put,lA,lB,lC])
 refine jg2.on 1 (fun x:Sl=>.agg #[.int .i64 (xd),.slice x.1 x.2.1 x.2.2]) (fun x W=>zs0 0 x (xt) W) rfl rfl HFL (by decide +kernel) (fun W h=>h.2.1) (fun W hG K' hK=>?_) (fun x1 hF1=>?_)
 focus
  have HC:=ja0 (HOX.out W (hG.1.1.1.1.1) (hG.1.1.1.1.2))
  clear hG
  go_simp
  go_wp2_with (first
   | (go_at_call 10;refine HC.out.mono ?_;rintro e w6 ⟨A,n,c,rfl,ho,hb⟩
      have HO:=ja0 (jd3 ho (Nat.zero_le _));have HBB:=ja0 hb;clear ho hb))
  exact hK.out (A,n,c) _ HO.out HBB.out
 (try simp only[Act.put,lA,lB,lC])
 refine jg2.on 5 (fun x:Sl=>.agg #[.int .i64 (yd),.slice x.1 x.2.1 x.2.2]) (fun x W=>zs0 0 x (yt) W) rfl rfl HFL (by decide +kernel) hF1 (fun W hG K' hK=>?_) (fun x5 hF5=>?_)
 focus
  have HC:=ja0 (HOY.out W (hG.1.1.1.1.1.1) (hG.1.1.1.1.1.2))
  clear hG
  go_simp
  go_wp2_with (first
   | (go_at_call 10;refine HC.out.mono ?_;rintro e w6 ⟨A,n,c,rfl,ho,hb⟩
      have HO:=ja0 (jd3 ho (Nat.zero_le _));have HBB:=ja0 hb;clear ho hb))
  exact hK.out (A,n,c) _ HO.out HBB.out
 (try simp only[Act.put,lA,lB,lC])
 refine jg2.on 6 (fun x:Bool×Int=>.tuple #[.bool x.1,.int .i64 x.2]) (fun x W=>jac0 xd xt p yd yt x.1 x.2) rfl rfl HFL (by decide +kernel) hF5 (fun W hG K' hK=>?_) (fun x6 hF6=>?_)
 focus
  have HC:=ja0 (jcs6 (xd) x1.1 x1.2.1 x1.2.2 (xt) (yd) x5.1 x5.2.1 x5.2.2 (yt) p W.heap.size W ((jk3 (hG.1.2))) ((jk3 (hG.2))) (Nat.le_refl _) )
  clear hG
  go_simp
  go_wp2_with (first
   | (go_at_call 16;refine HC.out.mono ?_;rintro e w6 ⟨b1,d1,rfl,hr,hb⟩
      have HQ:=ja0 hr;clear hr
      have HBB:=ja0 hb;clear hb))
  exact hK.out (b1,d1) _ HQ.out HBB.out
 (try simp only[Act.put,lA,lB,lC])
 refine jg2.fin rfl hF6 (fun W103 hG ja1=>?_)
 have HS0:=ja0 (hG.1.1.1.1)
 have HR:=ja0 hG.2
 clear hG HGd HFL hF1 hF5 hF6 HS u3 v3 h3 HN3 u4 v4 h4 HN4 u5 v5 h5
 have HS:=ja0 HS0.out
 clear HS0
 refine ja2 7 rfl (by decide +kernel) (fun c a w h=>by first|exact h|(cases h;done)) (by rfl) (v:=?_) ?_ ja1 (fun ja3=>?_)
 rotate_left 1
 focus (intro w' hSw;clear hSw;go_simp;try with_reducible rfl)
 clear ja1
 rename ja4 _ _ _ _ _ _ _=>ja1
 (try simp only[Act.put,lA,lB,lC])
 refine ja2 8 rfl (by decide +kernel) (fun c a w h=>by first|exact h|(cases h;done)) (by rfl) (v:=?_) ?_ ja1 (fun ja3=>?_)
 rotate_left 1
 focus (intro w' hSw;clear hSw;go_simp;try with_reducible rfl)
 clear ja1
 rename ja4 _ _ _ _ _ _ _=>ja1
 (try simp only[Act.put,lA,lB,lC])
 refine ja2 9 rfl (by decide +kernel) (fun c a w h=>by first|exact h|(cases h;done)) (by rfl) (v:=?_) ?_ ja1 (fun ja3=>?_)
 rotate_left 1
 focus (intro w' hSw;clear hSw;go_simp;try with_reducible rfl)
 clear ja1
 rename ja4 _ _ _ _ _ _ _=>ja1
 (try simp only[Act.put,lA,lB,lC])
 refine ja5 10 rfl (by decide +kernel) (fun K hK=>?_)
 go_simp
 refine hK.out _ _ ⟨trivial,fun h=>absurd h (by decide +kernel),fun _=>trivial⟩ (fun ja1=>?_)
 clear hK K
 (try simp only[Act.put,lA,lB,lC])
 refine ja2 11 rfl (by decide +kernel) (fun c a w h=>by first|exact h|(cases h;done)) (by rfl) (v:=?_) ?_ ja1 (fun ja3=>?_)
 rotate_left 1
 focus (intro w' hSw;clear hSw;go_simp;try with_reducible rfl)
 clear ja1
 rename ja4 _ _ _ _ _ _ _=>ja1
 (try simp only[Act.put,lA,lB,lC])
 refine jc0 (by decide +kernel) ?_
 clear ja1
 try clear ja1
 obtain⟨b1,d1⟩:=x6
 dsimp only at HR
 have HR1:=ja0 HR.out
 clear HR
 go_upto_region 6 with fail
 obtain⟨x0,x1,_,_⟩:=(HS.out.1.1.2).two
 obtain⟨y0,y1,_,_⟩:=(HS.out.1.2).two
 obtain⟨z0,z1,_,_⟩:=(HS.out.2).two
 go_upto_region 7 with(first
  | (go_at_call 17;refine(jbp5 xd A xt.length c xt p yd A' yt.length c' yt w.heap.size W103 (HPX.out _ HS.out.1.1.1.1) (HPY.out _ HS.out.1.1.1.1) HS.out.1.1.1.2).mono ?_;rintro e w104 ⟨b2,d2,rfl,hr,hb⟩
     have HS_0:=ja0 (Kept.keep (S:=fun W=>((((Below w.heap.size w W/\w.heap.size<=W.heap.size)/\Blk W X3 24 #[.int .i64 xd,.slice A xt.length c])/\Blk W X4 24 #[.int .i64 yd,.slice A' yt.length c'])/\Blk W X5 36 #[.int .i64 p,.int .i64 q])) _ _ HS.out hb)
     obtain⟨rfl,rfl⟩:=jdt5 HR1.out hr
     clear hr
     clear hb))
 clear x0 x1 y0 y1 z0 z1 HR1
 have HS0:=ja0 HS_0.out
 clear HS
 have HS:=ja0 HS0.out
 clear HS0
 try clear HS_0
 have HBk:=ja0 HS.out.1.1.1
 go_wp2_with (first
  | (go_at_call 8;refine(HK.out _ HBk.out.1).mono ?_;rintro e wz ⟨rfl,hbz⟩
     have HBe:=ja0 (HBk.out.1.trans (hbz.mono HBk.out.2))
     clear hbz))
 all_goals
  go_ret
  exact⟨rfl,HBe.out⟩
end Go.Proofs.YtphcodcdfeohhaaGreatDoor
