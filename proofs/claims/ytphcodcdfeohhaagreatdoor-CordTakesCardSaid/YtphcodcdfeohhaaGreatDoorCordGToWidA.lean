import Derived.Test.YtphcodcdfeohhaaGreatDoorCordCToCordF
import Derived.Test.YtphcodcdfeohhaaGreatDoorRootB
import Derived.Test.YtphcodcdfeohhaaGreatDoorWeakRToCardN
import Derived.Test.YtphcodcdfeohhaaGreatDoorRatAToMovB
import Derived.Test.YtphcodcdfeohhaaGreatDoorFlowToNumK
import Derived.Test.YtphcodcdfeohhaaGreatDoorMakeAToCom
import Derived.Test.YtphcodcdfeohhaaGreatDoorRFToKVOps
import Derived.OrdersIn
set_option linter.unusedVariables false
set_option linter.unusedSimpArgs false
namespace Go.Proofs.YtphcodcdfeohhaaGreatDoor
set_option maxRecDepth 100000
set_option maxHeartbeats 2000000
open Go.RowKit
theorem zk4(num den:Int)(w:World):Calls Tryz.prog 55 #[.int .i64 num,.int .i64 den] w (jar0 w (den,[(num,1)])):=by
 have HO1:=ja0 (fun x:Array Value=>(show((w.alloc (.cells x 24)).alloc (.cells #[.int .i64 num,.int .i64 1] 59)).ownsRow (w.heap.size+1) 59 2 (.slice (some ⟨w.heap.size+1,0,none⟩) 1 1) 1 (ja9 [(num,1)]) by
  have h:=World.ownsRow_lit (base:=w.heap.size+1) (e:=59) (size:=2) (w.alloc (.cells x 24)) #[.int .i64 num,.int .i64 1] 1 (by simp) (by unfold maxLen;omega) rfl
  rw[World.size_alloc] at h
  exact h))
 go_enter Tryz.func55,Tryz.ntmps55
 go_wp2
 refine jr5 (p:=4) (ty:=24) rfl rfl ((Blk.new w _ _).alloc _) (d:=_) rfl Tryz.underlying24 Tryz.sizeNumber rfl ?_
 exact⟨_,_,_,rfl,jc5 (HO1.out _) (by omega),((Below.refl w.heap.size w).alloc (Nat.le_refl _) _).alloc (by simp) _⟩
theorem zy4(n:Int)(w:World):Calls Tryz.prog 50 #[.int .i64 n] w (jar0 w (jc6 n)):=by
 have HR0:=ja0 (Blk.new w 24 #[.int .i64 0,.slice none 0 0])
 have HB0:=ja0 ((Below.refl w.heap.size w).alloc (Nat.le_refl _) (.cells #[.int .i64 0,.slice none 0 0] 24))
 obtain⟨q1,q2,q3,q4⟩:=HR0.out.two
 by_cases h0:n=0
 ·subst h0
  have HW:Hid (jc6 0=(1,[])):=ja0 rfl
  go_enter Tryz.func50,Tryz.ntmps50
  go_wp2
  refine jr5 (p:=2) (ty:=24) rfl rfl (Blk.new w _ _) (d:=_) rfl Tryz.underlying24 Tryz.sizeNumber rfl ?_
  rw[HW.out]
  exact⟨none,0,0,rfl,⟨rfl,.inl ⟨rfl,rfl⟩⟩,(Below.refl w.heap.size w).alloc (Nat.le_refl _) _⟩
 ·have HW:=ja0 (show jc6 n=(1,[(n,1)])from if_neg h0)
  have hne:(n==0)=false:=beq_eq_false_iff_ne.2 h0
  have HF:=ja0 (zk4 n 1 (w.alloc (.cells #[.int .i64 0,.slice none 0 0] 24)))
  go_enter Tryz.func50,Tryz.ntmps50
  go_wp2_with (first
   | (go_at_call 55;refine HF.out.mono ?_;rintro e w1 ⟨A,n1,c1,rfl,ho,hb⟩
      (try simp only[World.size_alloc] at hb ho)
      have HR1:=ja0 (HR0.out.below hb (by omega))
      have HB1:=ja0 (HB0.out.trans (hb.mono (by omega)))
      obtain⟨u1,u2,u3,u4⟩:=HR1.out.two
      have HO:=ja0 ho
      clear hb ho))
  refine jr5 (p:=2) (ty:=24) rfl rfl ((HR1.out.set_ 0 _).set_ 1 _) (d:=_) rfl Tryz.underlying24 Tryz.sizeNumber rfl ?_
  rw[HW.out]
  exact⟨A,n1,c1,rfl,jc5 (ownsRow_setCell_below (ownsRow_setCell_below HO.out (by show w.heap.size<_;omega) _) (by show w.heap.size<_;omega) _) (by omega),(HB1.out.setCell (by show _<=w.heap.size;omega) _).setCell (by show _<=w.heap.size;omega) _⟩
theorem jch5 (p:PieceV) (B:Nat) (w:World) (hp:p.At w B) (hB:B<=w.heap.size) (hm:∀m∈p.ms,0<=m/\m<=1000) :
  Calls Tryz.prog 75 #[.agg #[.bool p.minus,.slice p.A p.n p.c]] w fun e w'=>e=.returned (.bool (jh4 1 p.ms==0))/\Below w.heap.size w w':=by
 obtain⟨mi,A,n,c,ms⟩:=p
 have HP:=ja0 (za2 A n c B ms (w.alloc (.cells #[.bool mi,.slice A n c] 94)) (Rd.alloc hp hB _) hm)
 have HB0:=ja0 ((Below.refl w.heap.size w).alloc (Nat.le_refl _) (.cells #[.bool mi,.slice A n c] 94))
 clear hp hm
 dsimp only
 generalize jh4 1 ms=r at *
 go_enter Tryz.func75,Tryz.ntmps75
 go_wp2_with (first
  | (go_at_call 76;refine HP.out.mono ?_;rintro e w1 ⟨rfl,hw⟩;subst w1))
 all_goals go_ret
 all_goals exact⟨by simp[*],HB0.out⟩
theorem jcv7 (xd:Int) (A:Option Addr) (n c B:Nat) (xt:List (Int×Int)) (w:World) (hx:ja3 w B A n c xt) (hB:B<=w.heap.size) :
  Calls Tryz.prog 53 #[.agg #[.int .i64 xd,.slice A n c]] w fun e w'=>e=.returned (.tuple #[.int .i64 (jk2 xd xt).1,.int .i64 (jk2 xd xt).2.1,.bool (jk2 xd xt).2.2])/\Below w.heap.size w w':=by
 have hl:=hx.len
 have hcm:=hx.nmax
 have HXa:=ja0 (Blk.new w 24 #[.int .i64 xd,.slice A n c])
 have HTa:Hid (ja3 (w.alloc (.cells #[.int .i64 xd,.slice A n c] 24)) B A n c xt):=ja0 (Rd.alloc hx hB _)
 have HBa:=ja0 ((Below.refl w.heap.size w).alloc (Nat.le_refl _) (.cells #[.int .i64 xd,.slice A n c] 24))
 clear hx
 rcases xt with _|⟨⟨co,ro⟩,_|⟨u,ts⟩⟩
 ·have HP:Hid (jk2 xd []=(0,1,true)):=ja0 rfl
  obtain rfl:n=0:=by simpa using hl.symm
  obtain⟨q1,q2,_,_⟩:=HXa.out.two
  clear hl HTa HXa
  go_enter Tryz.func53,Tryz.ntmps53
  go_wp2
  go_ret3
  rw[HP.out]
  exact⟨rfl,HBa.out⟩
 ·obtain⟨ad,had,hc0,hc1⟩:=HTa.out.at_ (i:=0) (by simp)
  obtain rfl:n=1:=by simpa using hl.symm
  subst had
  obtain⟨q1,q2,_,_⟩:=HXa.out.two
  simp only[Nat.zero_mul,List.getElem_cons_zero,jbd4] at hc0 hc1
  by_cases hr:ro=1
  ·subst hr
   have HP:Hid (jk2 xd [(co,1)]=(co,xd,true)):=ja0 (by unfold jk2;simp)
   have HBd:=ja0 (fun q=>jc8 HBa.out q)
   clear hl HTa HXa
   go_enter Tryz.func53,Tryz.ntmps53
   go_wp2
   generalize w.alloc (.cells #[.int .i64 xd,.slice (some ad) 1 c] 24)=wa at *
   go_region_held3 (fun w'=>w'.cell? ⟨w.heap.size,0,none⟩=some (.int .i64 xd)/\w'.cell? ⟨w.heap.size,1,none⟩=some (.slice (some ad) 1 c)/\w'.cell? ad=some (.int .i64 co)) (exact⟨q1,q2,hc0⟩) (fail)
   all_goals
    go_wp2
    go_ret3
    rw[HP.out]
    exact⟨rfl,HBd.out 1⟩
  ·have HP:Hid (jk2 xd [(co,ro)]=(0,0,false)):=ja0 (by unfold jk2;exact if_neg hr)
   have hrn:(ro !=1)=true:=by simpa using hr
   clear hl HTa HXa
   go_enter Tryz.func53,Tryz.ntmps53
   go_wp2
   go_ret3
   rw[HP.out]
   exact⟨rfl,HBa.out⟩
 ·have HP:Hid (jk2 xd ((co,ro)::u::ts)=(0,0,false)):=ja0 rfl
  have hl2:(1:Int)<(n:Int):=by simp at hl;omega
  have hl0:((n:Int)==0)=false:=beq_eq_false_iff_ne.2 (by omega)
  obtain⟨q1,q2,_,_⟩:=HXa.out.two
  clear HTa hl HXa
  go_enter Tryz.func53,Tryz.ntmps53
  go_wp2
  go_ret3
  rw[HP.out]
  exact⟨rfl,HBa.out⟩
theorem js8 (d:Int) (A:Option Addr) (n c B:Nat) (ts:List (Int×Int)) (w:World) (hq:jas0 w B A n c ts) (hB:B<=w.heap.size) (hn:n<=1000) :
  Calls Tryz.prog 10 #[.agg #[.int .i64 d,.slice A n c]] w (jar0 w (d,ts)):=by
 obtain rfl:=hq.len
 obtain⟨i1,hi1,hy0,hy1,hy2⟩:=info_parts Tryz.infoTerm
 obtain⟨w0,hw0⟩:∃w0,w0=(w.alloc (.cells #[.int .i64 d,.slice A ts.length c] 24)).alloc (.cells #[.int .i64 0,.slice none 0 0] 24):=⟨_,rfl⟩
 have hz0:w0.heap.size=w.heap.size+2:=by rw[hw0];simp
 have HX0:Hid (Blk w0 w.heap.size 24 #[.int .i64 d,.slice A ts.length c]):=ja0 (by rw[hw0];exact(Blk.new w _ _).alloc _)
 have HR0:Hid (Blk w0 (w.heap.size+1) 24 #[.int .i64 0,.slice none 0 0]):=ja0 (by
  rw[hw0]
  have h:=Blk.new (w.alloc (.cells #[.int .i64 d,.slice A ts.length c] 24)) 24 #[.int .i64 0,.slice none 0 0]
  rwa [World.size_alloc] at h)
 have HB0:Hid (Below w.heap.size w w0):=ja0 (by rw[hw0];exact((Below.refl _ _).alloc (Nat.le_refl _) _).alloc (by simp) _)
 have HL0:Hid ((w0.alloc (.cells #[] 59)).ownsRow (w.heap.size+2) 59 2 (.slice (some ⟨w.heap.size+2,0,none⟩) 0 0) 0 []):=ja0 (by
  have h:=World.ownsRow_lit (base:=w.heap.size+2) (e:=59) (size:=2) w0 #[] 0 (by omega) (by unfold maxLen;omega) rfl
  rwa [hz0] at h)
 have HX1:=ja0 (HX0.out.alloc (.cells #[] 59));have HR1:=ja0 (HR0.out.alloc (.cells #[] 59));have HB1:=ja0 (HB0.out.alloc (by omega) (.cells #[] 59))
 have HQ1:=ja0 (Rq.alloc (Rq.below hq (HB0.out.mono hB)) (show B<=w0.heap.size by omega) (.cells #[] 59))
 clear hq
 go_enter Tryz.func10,Tryz.ntmps10
 go_upto_region 1 with fail
 rw[<-hw0]
 clear hw0
 obtain⟨x0,x1,xf0,xf1⟩:=HX1.out.two
 go_wp2_with (first
  | (at_builtin;refine jap9 rfl _ _ 22 rfl (w.heap.size+2) 59 i1 (.agg #[.int .i64 0,.int .i64 0]) 2 16 Tryz.underlying22 hi1 hy0 hy1 hy2 rfl (by decide) (.slice (some ⟨w.heap.size+2,0,none⟩) 0 0) 0 [] rfl HL0.out A ts.length c B (ja9 ts) rfl HQ1.out (jcb4 ts) (by unfold maxLen;omega) (by omega) (by simp;omega) ?_
     intro A3 c3 w3 ho3 hg3
     have hne:∀j,(Value.slice (some ⟨w.heap.size+2,0,none⟩) 0 0).ownBlock=some j->w.heap.size+2<=j:=fun j e=>(HL0.out.lt j e).1
     have HO3:Hid (w3.ownsRow (w.heap.size+2) 59 2 (.slice A3 ts.length c3) ts.length (ja9 ts)):=ja0 (by simpa using ho3)
     have HX3:=ja0 (HX1.out.grown hg3 (fun e=>by have:=hne _ e;omega));have HR3:=ja0 (HR1.out.grown hg3 (fun e=>by have:=hne _ e;omega));have HB3:=ja0 (HB1.out.grown hg3 (by simp;omega) (fun j e=>by have:=hne j e;omega))
     obtain⟨x0,x1,xf0,xf1⟩:=HX3.out.two
     obtain⟨r0,r1,rf0,rf1⟩:=HR3.out.two
     rw[Nat.zero_add]
     clear ho3 hg3 hne))
 refine jr5 (p:=2) (ty:=24) rfl rfl (((HR3.out.far (p:=⟨w.heap.size,1,none⟩) (by simp) _).set_ 0 _).set_ 1 _) (d:=_) rfl Tryz.underlying24 Tryz.sizeNumber rfl ?_
 exact⟨A3,ts.length,c3,rfl,jc5 (ownsRow_setCell_below (ownsRow_setCell_below (ownsRow_setCell_below HO3.out (by show w.heap.size<_;omega) _) (by show w.heap.size+1<_;omega) _) (by show w.heap.size+1<_;omega) _) (by omega),
  Below.setCell (Below.setCell (Below.setCell HB3.out (p:=⟨w.heap.size,1,none⟩) (Nat.le_refl _) _) (p:=⟨w.heap.size+1,0,none⟩) (by show w.heap.size<=w.heap.size+1;omega) _) (p:=⟨w.heap.size+1,1,none⟩) (by show w.heap.size<=w.heap.size+1;omega) _⟩
def Vr(X:Nat)(d:Int)(A:Option Addr)(n c:Nat)(ts:List (Int×Int))(W:World):Prop:=Blk W X 24 #[.int .i64 d,.slice A n c]/\zj9 0 (A,n,c) ts W
instance {X:Nat}{d:Int}{A:Option Addr}{n c:Nat}{ts:List (Int×Int)}:Kept (Vr X d A n c ts):=⟨fun _ _ h hb=>⟨h.1.below hb h.1.lt,jf7 h.2 hb⟩⟩
theorem Vr.new{W:World}{d:Int}{A:Option Addr}{n c:Nat}{ts:List (Int×Int)}(h:zj9 0 (A,n,c) ts W):Vr W.heap.size d A n c ts (W.alloc (.cells #[.int .i64 d,.slice A n c] 24)):=⟨Blk.new W _ _,World.ownsRow.alloc h _⟩
theorem Vr.small{W:World}{X:Nat}{d:Int}{A:Option Addr}{n c:Nat}{v:Int}(h:Vr X d A n c (jb2 v) W):n<=1000:=by
 have h1:=(jc2 (A:=A) (n:=n) (c:=c) h.2).len
 have h2:(jb2 v).length<=1:=by unfold jb2;split<;>simp
 omega
theorem Vr.le{W:World}{X:Nat}{d:Int}{A:Option Addr}{n c:Nat}{ts:List (Int×Int)}(h:Vr X d A n c ts W)(hl:ts.length<=1000):n<=1000:=by
 have h1:=(jc2 (A:=A) (n:=n) (c:=c) h.2).len
 omega
theorem Vr.made {S:World->Prop} [Kept S] {W0 W:World} {X:Nat} {d:Int} {x:Sl} {ts:List (Int×Int)} (hS:S W0) (hb:Below W0.heap.size W0 W) (hX:W0.heap.size<=X) (hN:Blk W X 24 #[.int .i64 0,.slice none 0 0]) (ho:zj9 0 x ts W) :
  S ((W.setCell ⟨X,0,none⟩ (.int .i64 d)).setCell ⟨X,1,none⟩ (.slice x.1 x.2.1 x.2.2))/\Vr X d x.1 x.2.1 x.2.2 ts ((W.setCell ⟨X,0,none⟩ (.int .i64 d)).setCell ⟨X,1,none⟩ (.slice x.1 x.2.1 x.2.2)):=
 ⟨Kept.keep _ _ hS ((hb.setCell (p:=⟨X,0,none⟩) hX (.int .i64 d)).setCell (p:=⟨X,1,none⟩) hX (.slice x.1 x.2.1 x.2.2)),(hN.set_ 0 (.int .i64 d)).set_ 1 (.slice x.1 x.2.1 x.2.2),
  jd6 (jd6 ho hN (i:=0) (u:=.int .i64 d) (by decide)) (hN.set_ 0 (.int .i64 d)) (i:=1) (u:=.slice x.1 x.2.1 x.2.2) (by decide)⟩
open Go Go.RowKit
abbrev jbj1:Array Value:=#[.int .i64 0,.slice none 0 0]
def Lay(W0 W:World)(V:Nat->Nat)(C:Nat->Option (Array Value))(R:List (Sl×List (Int×Int))):Prop:=
 Below W0.heap.size W0 W/\(∀i cs,C i=some cs->W0.heap.size<=V i/\Blk W (V i) 24 cs)/\(∀i j,i≠j->(C i).isSome=true->(C j).isSome=true->V i≠V j)/\∀q∈R,zj9 0 q.1 q.2 W
section
variable {W0 W : World} {V : Nat → Nat} {C : Nat → Option (Array Value)} {R : List (Sl × List (Int × Int))}
theorem Lay.start(h:Below W0.heap.size W0 W)(hR:∀q∈R,zj9 0 q.1 q.2 W):Lay W0 W (fun _=>0) (fun _=>none) R:=⟨h,fun _ _ h=>(by cases h),fun _ _ _ h=>(by cases h),hR⟩
theorem Lay.add(h:Lay W0 W V C R)(i X:Nat){cs:Array Value}(hX:W0.heap.size<=X)(hB:Blk W X 24 cs)(hn:∀j cs,C j=some cs->V j≠X):Lay W0 W (fun j=>if j=i then X else V j) (fun j=>if j=i then some cs else C j) R:=by
 refine⟨h.1,fun j l hj=>?_,fun j k hne hj hk=>?_,h.2.2.2⟩
 ·by_cases e:j=i
  ·simp only[if_pos e] at hj ⊢;injection hj with hj;subst hj;exact⟨hX,hB⟩
  ·simp only[if_neg e] at hj ⊢;exact h.2.1 j l hj
 ·by_cases e:j=i
  ·subst e
   simp only[if_pos rfl,if_neg (Ne.symm hne)] at hk ⊢
   obtain⟨l,hl⟩:=Option.isSome_iff_exists.1 hk
   exact(hn k l hl).symm
  ·by_cases e':k=i
   ·subst e'
    simp only[if_pos rfl,if_neg e] at hj ⊢
    obtain⟨l,hl⟩:=Option.isSome_iff_exists.1 hj
    exact hn j l hl
   ·simp only[if_neg e,if_neg e'] at hj hk ⊢
    exact h.2.2.1 j k hne hj hk
theorem Lay.alloc(h:Lay W0 W V C R)(i:Nat)(cs:Array Value):Lay W0 (W.alloc (.cells cs 24)) (fun j=>if j=i then W.heap.size else V j) (fun j=>if j=i then some cs else C j) R:=
 Lay.add (W:=W.alloc (.cells cs 24)) ⟨h.1.alloc h.1.size _,fun j l hj=>⟨(h.2.1 j l hj).1,(h.2.1 j l hj).2.alloc _⟩,h.2.2.1,fun q hq=>World.ownsRow.alloc (h.2.2.2 q hq) _⟩ i W.heap.size h.1.size (Blk.new W _ _)
  (fun j l hj=>Nat.ne_of_lt (h.2.1 j l hj).2.lt)
theorem Lay.put (h:Lay W0 W V C R) (i X:Nat) {a b:Value} (hV:V i=X) (hi:C i=some #[a,b]) (u v:Value) :
  Lay W0 ((W.setCell ⟨X,0,none⟩ u).setCell ⟨X,1,none⟩ v) V (fun j=>if j=i then some #[u,v] else C j) R:=by
 subst hV
 obtain⟨hX,hB⟩:=h.2.1 i _ hi
 have hB1:=hB.set_ 0 u
 refine⟨(h.1.setCell (p:=⟨V i,0,none⟩) hX u).setCell (p:=⟨V i,1,none⟩) hX v,fun j l hj=>?_,fun j k hne hj hk=>?_,fun q hq=>jd6 (jd6 (h.2.2.2 q hq) hB (i:=0) (u:=u) (by decide)) hB1 (i:=1) (u:=v) (by decide)⟩
 ·by_cases e:j=i
  ·simp only[if_pos e] at hj;injection hj with hj;subst hj;subst e;exact⟨hX,hB1.set_ 1 v⟩
  ·simp only[if_neg e] at hj
   obtain⟨g1,g2⟩:=h.2.1 j l hj
   have hne:V j≠V i:=h.2.2.1 j i e (by rw[hj];rfl) (by rw[hi];rfl)
   exact⟨g1,(g2.far (p:=⟨V i,0,none⟩) hne u).far (p:=⟨V i,1,none⟩) hne v⟩
 ·have hs:∀m,(if m=i then some #[u,v] else C m).isSome=true->(C m).isSome=true:=fun m hm=>by
   by_cases e:m=i
   ·rw[e,hi];rfl
   ·rwa [if_neg e] at hm
  exact h.2.2.1 j k hne (hs j hj) (hs k hk)
theorem Lay.blk(h:Lay W0 W V C R)(i:Nat){X:Nat}{cs:Array Value}(hV:V i=X)(hC:C i=some cs):Blk W X 24 cs:=hV▸(h.2.1 i _ hC).2
theorem Lay.keep{S:World->Prop}[Kept S](h:Lay W0 W V C R)(hS:S W0):S W:=Kept.keep _ _ hS h.1
end
theorem Lay.one {W0 W:World} {R:List (Sl×List (Int×Int))} (h:Below W0.heap.size W0 W) (hR:∀q∈R,zj9 0 q.1 q.2 W) (i:Nat) {X:Nat} (hX:W0.heap.size<=X) (hB:Blk W X 24 jbj1) :
  Lay W0 W (fun k=>if k=i then X else 0) (fun k=>if k=i then some jbj1 else none) R:=(Lay.start h hR).add i X hX hB (fun _ _ h=>by cases h)
theorem Lay.two {W0 W:World} {R:List (Sl×List (Int×Int))} (h:Below W0.heap.size W0 W) (hR:∀q∈R,zj9 0 q.1 q.2 W) (i j:Nat) {X Y:Nat} (hX:W0.heap.size<=X) (hB:Blk W X 24 jbj1) (hY:W0.heap.size<=Y) (hB':Blk W Y 24 jbj1)
  (hne:(Value.pointer (some ⟨Y,0,none⟩))≠.pointer (some ⟨X,0,none⟩)):Lay W0 W (fun k=>if k=j then Y else if k=i then X else 0) (fun k=>if k=j then some jbj1 else if k=i then some jbj1 else none) R:=
 (Lay.one h hR i hX hB).add j Y hY hB' (fun k cs hk=>by
  by_cases e:k=i
  ·simp only[if_pos e];intro h;exact hne (by rw[h])
  ·simp only[if_neg e] at hk;cases hk)
section
variable {P : Program} {Q : Exit → Act → World → Prop}
end
open Go
theorem jbn4{n:Nat}{P:Program}{o:Oper}{a:Act}{K:Act->World->Prop}{Q:Exit->Act->World->Prop}{l:Nat}{r:Result Next}(h:o.uponIn Fence.wide n P a K Q r):o.uponIn (Fence.wide.inRound l) n P a K Q r:=by
 cases r with
 | ok x w'=>cases x<;>exact h
 | halt x w'=>cases x<;>exact h
def jad6(ops:Array Oper):Bool:=ops.all fun o=>match o.op with|.defer _=>false|_=>true
theorem jbm6{ops:Array Oper}(h:jad6 ops=true){j:Nat}{o:Oper}(hj:ops[j]?=some o)(c:Call):o.op≠.defer c:=by
 intro e
 unfold jad6 at h
 rw[Array.all_eq_true] at h
 obtain⟨hlt,rfl⟩:=Array.getElem?_eq_some_iff.1 hj
 have:=h j hlt
 rw[e] at this
 simp at this
theorem jbn7 {n:Nat} {P:Program} {ops:Array Oper} {K:Act->World->Prop} {Q:Exit->Act->World->Prop} {i:Nat} {a:Act} {w:World} {l:Nat} (hnd:jad6 ops=true)
  (h:wpOpIn Fence.wide n P ops Q i K a w):wpOpIn (Fence.wide.inRound l) n P ops Q i K a w:=by
 unfold wpOpIn at *
 split
 ·rename_i hn;simp only[hn] at h;exact h
 ·rename_i o ho
  simp only[ho] at h
  split
  ·rename_i hw
   simp only[hw,if_true] at h
   unfold Oper.wpIn at *
   refine⟨h.1,?_⟩
   have h2:=h.2
   rw[Oper.semAt_plain _ _ _ (jbm6 hnd ho)] at h2 ⊢
   exact jbn4 h2
  ·rename_i hw
   simp only[hw] at h
   exact h
theorem zz5{n:Nat}{P:Program}{ops:Array Oper}{Q:Exit->Act->World->Prop}{md:Region.Mode}{l:Nat}(hnd:jad6 ops=true):∀(fuel:Nat) (listed:Array Bool) (a:Act) (w:World),
  wpAnyIn Fence.wide n P md ops Q fuel listed a w->wpAnyIn (Fence.wide.inRound l) n P md ops Q fuel listed a w
 | 0,_,_,_,h=>h
 | fuel+1,listed,a,w,h=>⟨h.1,fun i hi=>jbn7 hnd (wpOpIn_mono (fun a w h=>zz5 hnd fuel _ a w h) (h.2 i hi))⟩
theorem jag3 {n id:Nat} {P:Program} {ops:Array Oper} {Q:Exit->Act->World->Prop} {l:Nat} {a:Act} {w:World} (hm:P.follows .mixedOrders=true) (hnd:jad6 ops=true)
  (h:wpAnyIn Fence.wide n P .any ops Q ops.size (Array.replicate ops.size false) a w.drew):(Code.region id ops true).wpIn (Fence.wide.inRound l) n P Q a w:=
 wpIn_region_any hm (zz5 hnd _ _ _ _ h)
def VrQ(X:Nat)(d:Int)(A:Option Addr)(n c:Nat)(ts:List (Int×Int))(W:World):Prop:=Blk W X 24 #[.int .i64 d,.slice A n c]/\∃B,B<=W.heap.size/\jas0 W B A n c ts
instance {X:Nat}{d:Int}{A:Option Addr}{n c:Nat}{ts:List (Int×Int)}:Kept (VrQ X d A n c ts):=⟨fun _ _ h hb=>⟨h.1.below hb h.1.lt,h.2.elim fun B h2=>⟨B,Nat.le_trans h2.1 hb.size,Rq.below h2.2 (hb.mono h2.1)⟩⟩⟩
theorem VrQ.read{X:Nat}{d:Int}{A:Option Addr}{n c:Nat}{ts:List (Int×Int)}{W:World}(h:VrQ X d A n c ts W):jas0 W W.heap.size A n c ts:=by
 obtain⟨_,B,hB,h2⟩:=h
 exact Rq.more h2 hB
theorem VrQ.new{W:World}{d:Int}{A:Option Addr}{n c:Nat}{ts:List (Int×Int)}(h:jas0 W W.heap.size A n c ts):VrQ W.heap.size d A n c ts (W.alloc (.cells #[.int .i64 d,.slice A n c] 24)):=⟨Blk.new W _ _,W.heap.size,by simp,Rq.alloc h (Nat.le_refl _) _⟩
def jfs4(x:Int×Sl):Value×Value:=(.int .i64 x.1,.slice x.2.1 x.2.2.1 x.2.2.2)
def jfm9(l:List (Int×Sl)):Bool:=l.any fun x=>decide (8<x.2.2.1)
theorem jfk7 (A:Option Addr) (n c B:Nat) (l:List (Int×Sl)) (w:World) (hR:Rq w B 2 A n c (jb7 (l.map jfs4))) :
  Calls Tryz.prog 7 #[.slice A n c] w fun e w'=>e=.returned (.bool (jfm9 l))/\w'=w:=by
 have hl:l.length=n:=by
  have h1:=hR.1
  rw[jz4,List.length_map] at h1
  omega
 subst hl
 have hn:=hR.nmax
 have HR:=ja0 hR
 clear hR
 go_enter Tryz.func7,Tryz.ntmps7
 go_wp2
 go_loopw [3] (fun i W=>∃(k:Nat),k<=l.length/\i=.int .i64 k/\(∀j (hj:j<l.length),j<k->¬8<l[j].2.2.1)/\W=w) (fun i _=>l.length-(intOf i).toNat)
 case atStart=>exact⟨0,by omega,rfl,fun j _ hj=>by omega,rfl⟩
 case round=>
  obtain⟨k,hk,rfl,hpre,rfl⟩:=hrel
  have HPRE:=ja0 hpre
  clear hpre
  by_cases hkl:(k:Int)<(l.length:Int)
  ·have hk1:k<l.length:=by omega
   obtain⟨ad,rfl,-,ha0,ha1⟩:=jdh3 HR.out (i:=k) (by simpa using hk1)
   simp only[List.getElem_map,jfs4] at ha1
   clear ha0
   by_cases h10:8<(l[k].2.2.1:Int)
   ·have HL:Hid (jfm9 l=true):=ja0 (List.any_eq_true.2 ⟨l[k],List.getElem_mem hk1,decide_eq_true (show 8<l[k].2.2.1 by omega)⟩)
    go_wp2
    go_ret
    exact⟨by rw[HL.out];rfl,rfl⟩
   ·have HN:=ja0 (show ∀j (hj:j<l.length),j<k+1->¬8<l[j].2.2.1 from fun j hj h=>by
     rcases Nat.lt_or_ge j k with h5|h5
     ·exact HPRE.out j hj h5
     ·obtain rfl:j=k:=by omega
      omega)
    go_wp2
    exact⟨⟨k+1,by omega,by go_num,HN.out,by trivial⟩,by simp[intOf];omega⟩
  ·obtain rfl:k=l.length:=by omega
   have HL:Hid (jfm9 l=false):=ja0 (List.any_eq_false.2 fun p hp=>by
    obtain⟨j,hj,rfl⟩:=List.mem_iff_getElem.1 hp
    have h5:=HPRE.out j hj hj
    simpa using h5)
   go_wp2
   go_ret
   exact⟨by rw[HL.out];rfl,rfl⟩
end Go.Proofs.YtphcodcdfeohhaaGreatDoor
