import Derived.Test.YtphcodcdfeohhaaGreatDoorTimAToAsyY
import Derived.Test.YtphcodcdfeohhaaGreatDoorFlowToNumK
import Derived.Test.YtphcodcdfeohhaaGreatDoorCom
set_option linter.unusedVariables false
set_option linter.unusedSimpArgs false
namespace Go.Proofs.YtphcodcdfeohhaaGreatDoor
open Go.RowKit
def Vr(X:Nat)(d:Int)(A:Option Addr)(n c:Nat)(ts:List (Int×Int))(W:World):Prop:=Blk W X 24 #[.int .i64 d,.slice A n c]/\zj9 0 (A,n,c) ts W
instance {X:Nat}{d:Int}{A:Option Addr}{n c:Nat}{ts:List (Int×Int)}:Kept (Vr X d A n c ts):=⟨fun _ _ h hb=>⟨h.1.below hb h.1.lt,jf7 h.2 hb⟩⟩
theorem Vr.new{W:World}{d:Int}{A:Option Addr}{n c:Nat}{ts:List (Int×Int)}(h:zj9 0 (A,n,c) ts W):Vr W.heap.size d A n c ts (W.alloc (.cells #[.int .i64 d,.slice A n c] 24)):=⟨Blk.new W _ _,World.ownsRow.alloc h _⟩
theorem Vr.le{W:World}{X:Nat}{d:Int}{A:Option Addr}{n c:Nat}{ts:List (Int×Int)}(h:Vr X d A n c ts W)(hl:ts.length<=1000):n<=1000:=by
 have h1:=(jc2 (A:=A) (n:=n) (c:=c) h.2).len
 omega
theorem Vr.made {S:World->Prop} [Kept S] {W0 W:World} {X:Nat} {d:Int} {x:Sl} {ts:List (Int×Int)} (hS:S W0) (hb:Below W0.heap.size W0 W) (hX:W0.heap.size<=X) (hN:Blk W X 24 #[.int .i64 0,.slice none 0 0]) (ho:zj9 0 x ts W) :
  S ((W.setCell ⟨X,0,none⟩ (.int .i64 d)).setCell ⟨X,1,none⟩ (.slice x.1 x.2.1 x.2.2))/\Vr X d x.1 x.2.1 x.2.2 ts ((W.setCell ⟨X,0,none⟩ (.int .i64 d)).setCell ⟨X,1,none⟩ (.slice x.1 x.2.1 x.2.2)):=
 ⟨Kept.keep _ _ hS ((hb.setCell (p:=⟨X,0,none⟩) hX (.int .i64 d)).setCell (p:=⟨X,1,none⟩) hX (.slice x.1 x.2.1 x.2.2)),(hN.set_ 0 (.int .i64 d)).set_ 1 (.slice x.1 x.2.1 x.2.2),
  jd6 (jd6 ho hN (i:=0) (u:=.int .i64 d) (by decide)) (hN.set_ 0 (.int .i64 d)) (i:=1) (u:=.slice x.1 x.2.1 x.2.2) (by decide)⟩
open Go Go.RowKit
abbrev jbj1:Array Value:=#[.int .i64 0,.slice none 0 0]
def Lay(W0 W:World)(V:Nat->Nat)(C:Nat->Option (Array Value))(R:List (Sl×List (Int×Int))):Prop:=
 Below W0.heap.size W0 W/\(∀i cs,C i=some cs->W0.heap.size<=V i/\Blk W (V i) 24 cs)/\(∀i j,i≠j->(C i).isSome=true->(C j).isSome=true->V i≠V j)/\∀q∈R,zj9 0 q.1 q.2 W
section
variable {W0 W : World} {V : Nat → Nat} {C : Nat → Option (Array Value)} {R : List (Sl × List (Int × Int))}
theorem Lay.start(h:Below W0.heap.size W0 W)(hR:∀q∈R,zj9 0 q.1 q.2 W):Lay W0 W (fun _=>0) (fun _=>none) R:=⟨h,fun _ _ h=>(by cases h),fun _ _ _ h=>(by cases h),hR⟩
theorem Lay.add(h:Lay W0 W V C R)(i X:Nat){cs:Array Value}(hX:W0.heap.size<=X)(hB:Blk W X 24 cs)(hn:∀j cs,C j=some cs->V j≠X):Lay W0 W (fun j=>if j=i then X else V j) (fun j=>if j=i then some cs else C j) R:=by
 refine⟨h.1,fun j l hj=>?_,fun j k hne hj hk=>?_,h.2.2.2⟩
 ·by_cases e:j=i
  ·simp only[if_pos e] at hj ⊢;injection hj with hj;subst hj;exact⟨hX,hB⟩
  ·simp only[if_neg e] at hj ⊢;exact h.2.1 j l hj
 ·by_cases e:j=i
  ·subst e
   simp only[if_pos rfl,if_neg (Ne.symm hne)] at hk ⊢
   obtain⟨l,hl⟩:=Option.isSome_iff_exists.1 hk
   exact(hn k l hl).symm
  ·by_cases e':k=i
   ·subst e'
    simp only[if_pos rfl,if_neg e] at hj ⊢
    obtain⟨l,hl⟩:=Option.isSome_iff_exists.1 hj
    exact hn j l hl
   ·simp only[if_neg e,if_neg e'] at hj hk ⊢
    exact h.2.2.1 j k hne hj hk
theorem Lay.alloc(h:Lay W0 W V C R)(i:Nat)(cs:Array Value):Lay W0 (W.alloc (.cells cs 24)) (fun j=>if j=i then W.heap.size else V j) (fun j=>if j=i then some cs else C j) R:=
 Lay.add (W:=W.alloc (.cells cs 24)) ⟨h.1.alloc h.1.size _,fun j l hj=>⟨(h.2.1 j l hj).1,(h.2.1 j l hj).2.alloc _⟩,h.2.2.1,fun q hq=>World.ownsRow.alloc (h.2.2.2 q hq) _⟩ i W.heap.size h.1.size (Blk.new W _ _)
  (fun j l hj=>Nat.ne_of_lt (h.2.1 j l hj).2.lt)
theorem Lay.put (h:Lay W0 W V C R) (i X:Nat) {a b:Value} (hV:V i=X) (hi:C i=some #[a,b]) (u v:Value) :
  Lay W0 ((W.setCell ⟨X,0,none⟩ u).setCell ⟨X,1,none⟩ v) V (fun j=>if j=i then some #[u,v] else C j) R:=by
 subst hV
 obtain⟨hX,hB⟩:=h.2.1 i _ hi
 have hB1:=hB.set_ 0 u
 refine⟨(h.1.setCell (p:=⟨V i,0,none⟩) hX u).setCell (p:=⟨V i,1,none⟩) hX v,fun j l hj=>?_,fun j k hne hj hk=>?_,fun q hq=>jd6 (jd6 (h.2.2.2 q hq) hB (i:=0) (u:=u) (by decide)) hB1 (i:=1) (u:=v) (by decide)⟩
 ·by_cases e:j=i
  ·simp only[if_pos e] at hj;injection hj with hj;subst hj;subst e;exact⟨hX,hB1.set_ 1 v⟩
  ·simp only[if_neg e] at hj
   obtain⟨g1,g2⟩:=h.2.1 j l hj
   have hne:V j≠V i:=h.2.2.1 j i e (by rw[hj];rfl) (by rw[hi];rfl)
   exact⟨g1,(g2.far (p:=⟨V i,0,none⟩) hne u).far (p:=⟨V i,1,none⟩) hne v⟩
 ·have hs:∀m,(if m=i then some #[u,v] else C m).isSome=true->(C m).isSome=true:=fun m hm=>by
   by_cases e:m=i
   ·rw[e,hi];rfl
   ·rwa [if_neg e] at hm
  exact h.2.2.1 j k hne (hs j hj) (hs k hk)
theorem Lay.blk(h:Lay W0 W V C R)(i:Nat){X:Nat}{cs:Array Value}(hV:V i=X)(hC:C i=some cs):Blk W X 24 cs:=hV▸(h.2.1 i _ hC).2
theorem Lay.keep{S:World->Prop}[Kept S](h:Lay W0 W V C R)(hS:S W0):S W:=Kept.keep _ _ hS h.1
end
theorem Lay.one {W0 W:World} {R:List (Sl×List (Int×Int))} (h:Below W0.heap.size W0 W) (hR:∀q∈R,zj9 0 q.1 q.2 W) (i:Nat) {X:Nat} (hX:W0.heap.size<=X) (hB:Blk W X 24 jbj1) :
  Lay W0 W (fun k=>if k=i then X else 0) (fun k=>if k=i then some jbj1 else none) R:=(Lay.start h hR).add i X hX hB (fun _ _ h=>by cases h)
theorem Lay.two {W0 W:World} {R:List (Sl×List (Int×Int))} (h:Below W0.heap.size W0 W) (hR:∀q∈R,zj9 0 q.1 q.2 W) (i j:Nat) {X Y:Nat} (hX:W0.heap.size<=X) (hB:Blk W X 24 jbj1) (hY:W0.heap.size<=Y) (hB':Blk W Y 24 jbj1)
  (hne:(Value.pointer (some ⟨Y,0,none⟩))≠.pointer (some ⟨X,0,none⟩)):Lay W0 W (fun k=>if k=j then Y else if k=i then X else 0) (fun k=>if k=j then some jbj1 else if k=i then some jbj1 else none) R:=
 (Lay.one h hR i hX hB).add j Y hY hB' (fun k cs hk=>by
  by_cases e:k=i
  ·simp only[if_pos e];intro h;exact hne (by rw[h])
  ·simp only[if_neg e] at hk;cases hk)
section
variable {P : Program} {Q : Exit → Act → World → Prop}
end
end Go.Proofs.YtphcodcdfeohhaaGreatDoor
