import Derived.Test.YtfmnnceacdpbdaaGreatDoorMovAToMovB
import Derived.Test.YtfmnnceacdpbdaaGreatDoorFlowToNumK
import Derived.Test.YtfmnnceacdpbdaaGreatDoorComToAppQ
set_option linter.unusedVariables false
set_option linter.unusedSimpArgs false
namespace Go.Proofs.YtfmnnceacdpbdaaGreatDoor
open Go.RowKit
def Vr (X : Nat) (d : Int) (A : Option Addr) (n c : Nat) (ts : List (Int × Int)) (W : World) : Prop := Blk W X 24 #[.int .i64 d, .slice A n c] ∧ OwnN 0 (A, n, c) ts W
instance {X : Nat} {d : Int} {A : Option Addr} {n c : Nat} {ts : List (Int × Int)} : Kept (Vr X d A n c ts) := ⟨fun _ _ h hb => ⟨h.1.below hb h.1.lt, own_below h.2 hb⟩⟩
theorem Vr.new {W : World} {d : Int} {A : Option Addr} {n c : Nat} {ts : List (Int × Int)} (h : OwnN 0 (A, n, c) ts W) : Vr W.heap.size d A n c ts (W.alloc (.cells #[.int .i64 d, .slice A n c] 24)) := ⟨Blk.new W _ _, World.ownsRow.alloc h _⟩
theorem Vr.small {W : World} {X : Nat} {d : Int} {A : Option Addr} {n c : Nat} {v : Int} (h : Vr X d A n c (ratT v) W) : n ≤ 1000 := by
 have h1 := (terms_own (A := A) (n := n) (c := c) h.2).len
 have h2 : (ratT v).length ≤ 1 := by unfold ratT; split <;> simp
 omega
theorem Vr.le {W : World} {X : Nat} {d : Int} {A : Option Addr} {n c : Nat} {ts : List (Int × Int)} (h : Vr X d A n c ts W) (hl : ts.length ≤ 1000) : n ≤ 1000 := by
 have h1 := (terms_own (A := A) (n := n) (c := c) h.2).len
 omega
theorem Vr.made {S : World → Prop} [Kept S] {W0 W : World} {X : Nat} {d : Int} {x : Sl} {ts : List (Int × Int)} (hS : S W0) (hb : Below W0.heap.size W0 W) (hX : W0.heap.size ≤ X) (hN : Blk W X 24 #[.int .i64 0, .slice none 0 0]) (ho : OwnN 0 x ts W) :
  S ((W.setCell ⟨X, 0, none⟩ (.int .i64 d)).setCell ⟨X, 1, none⟩ (.slice x.1 x.2.1 x.2.2)) ∧ Vr X d x.1 x.2.1 x.2.2 ts ((W.setCell ⟨X, 0, none⟩ (.int .i64 d)).setCell ⟨X, 1, none⟩ (.slice x.1 x.2.1 x.2.2)) :=
 ⟨Kept.keep _ _ hS ((hb.setCell (p := ⟨X, 0, none⟩) hX (.int .i64 d)).setCell (p := ⟨X, 1, none⟩) hX (.slice x.1 x.2.1 x.2.2)), (hN.set_ 0 (.int .i64 d)).set_ 1 (.slice x.1 x.2.1 x.2.2),
  own_set (own_set ho hN (i := 0) (u := .int .i64 d) (by decide)) (hN.set_ 0 (.int .i64 d)) (i := 1) (u := .slice x.1 x.2.1 x.2.2) (by decide)⟩
end Go.Proofs.YtfmnnceacdpbdaaGreatDoor
