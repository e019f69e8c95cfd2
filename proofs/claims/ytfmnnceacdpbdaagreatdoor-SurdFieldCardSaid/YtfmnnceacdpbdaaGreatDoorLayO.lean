import Derived.Test.YtfmnnceacdpbdaaGreatDoorLayN
set_option linter.unusedVariables false
set_option linter.unusedSimpArgs false
namespace Go.Proofs.YtfmnnceacdpbdaaGreatDoor
open Go Go.RowKit
theorem Blk.over {W : World} {Y X : Nat} {t : TypeId} {cs : Array Value} (h : Blk W Y t cs) (hne : Y ≠ X) (u v : Value) : Blk ((W.setCell ⟨X, 0, none⟩ u).setCell ⟨X, 1, none⟩ v) Y t cs :=
 (h.far (p := ⟨X, 0, none⟩) hne u).far (p := ⟨X, 1, none⟩) hne v
theorem own_over {W : World} {X : Nat} {a b : Value} {x : Sl} {ts : List (Int × Int)} (h : OwnN 0 x ts W) (hB : Blk W X 24 #[a, b]) (u v : Value) : OwnN 0 x ts ((W.setCell ⟨X, 0, none⟩ u).setCell ⟨X, 1, none⟩ v) :=
 own_set (own_set h hB (i := 0) (u := u) (by decide)) (hB.set_ 0 u) (i := 1) (u := v) (by decide)
theorem Vr.over {W : World} {Y X : Nat} {d : Int} {A : Option Addr} {n c : Nat} {ts : List (Int × Int)} {a b : Value} (h : Vr Y d A n c ts W) (hB : Blk W X 24 #[a, b]) (hne : Y ≠ X) (u v : Value) : Vr Y d A n c ts ((W.setCell ⟨X, 0, none⟩ u).setCell ⟨X, 1, none⟩ v) :=
 ⟨Blk.over h.1 hne u v, own_over h.2 hB u v⟩
theorem Vr.put {W : World} {X : Nat} {d : Int} {A : Option Addr} {n c : Nat} {ts : List (Int × Int)} {a b : Value} (hB : Blk W X 24 #[a, b]) (ho : OwnN 0 (A, n, c) ts W) : Vr X d A n c ts ((W.setCell ⟨X, 0, none⟩ (.int .i64 d)).setCell ⟨X, 1, none⟩ (.slice A n c)) :=
 ⟨(hB.set_ 0 _).set_ 1 _, own_over ho hB _ _⟩
theorem frame_over {w W : World} {B X : Nat} (h : Below B w W ∧ B ≤ W.heap.size) (hX : B ≤ X) (u v : Value) : Below B w ((W.setCell ⟨X, 0, none⟩ u).setCell ⟨X, 1, none⟩ v) ∧ B ≤ ((W.setCell ⟨X, 0, none⟩ u).setCell ⟨X, 1, none⟩ v).heap.size :=
 ⟨(h.1.setCell (p := ⟨X, 0, none⟩) hX u).setCell (p := ⟨X, 1, none⟩) hX v, by simpa using h.2⟩
end Go.Proofs.YtfmnnceacdpbdaaGreatDoor
