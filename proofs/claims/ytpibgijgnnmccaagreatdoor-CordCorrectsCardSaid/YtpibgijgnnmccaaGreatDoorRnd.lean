import Derived.Test.YtpibgijgnnmccaaGreatDoorRFToKVOps
import Derived.OrdersIn
set_option linter.unusedVariables false
set_option linter.unusedSimpArgs false
namespace Go.Proofs.YtpibgijgnnmccaaGreatDoor
open Go
theorem uponIn_round {n : Nat} {P : Program} {o : Oper} {a : Act} {K : Act → World → Prop} {Q : Exit → Act → World → Prop} {l : Nat} {r : Result Next} (h : o.uponIn Fence.wide n P a K Q r) : o.uponIn (Fence.wide.inRound l) n P a K Q r := by
 cases r with
 | ok x w' => cases x <;> exact h
 | halt x w' => cases x <;> exact h
def noDefer (ops : Array Oper) : Bool := ops.all fun o => match o.op with | .defer _ => false | _ => true
theorem noDefer_spec {ops : Array Oper} (h : noDefer ops = true) {j : Nat} {o : Oper} (hj : ops[j]? = some o) (c : Call) : o.op ≠ .defer c := by
 intro e
 unfold noDefer at h
 rw [Array.all_eq_true] at h
 obtain ⟨hlt, rfl⟩ := Array.getElem?_eq_some_iff.1 hj
 have := h j hlt
 rw [e] at this
 simp at this
theorem wpOpIn_round {n : Nat} {P : Program} {ops : Array Oper} {K : Act → World → Prop} {Q : Exit → Act → World → Prop} {i : Nat} {a : Act} {w : World} {l : Nat} (hnd : noDefer ops = true)
  (h : wpOpIn Fence.wide n P ops Q i K a w) : wpOpIn (Fence.wide.inRound l) n P ops Q i K a w := by
 unfold wpOpIn at *
 split
 ·rename_i hn; simp only [hn] at h; exact h
 ·rename_i o ho
  simp only [ho] at h
  split
  ·rename_i hw
   simp only [hw, if_true] at h
   unfold Oper.wpIn at *
   refine ⟨h.1, ?_⟩
   have h2 := h.2
   rw [Oper.semAt_plain _ _ _ (noDefer_spec hnd ho)] at h2 ⊢
   exact uponIn_round h2
  ·rename_i hw
   simp only [hw] at h
   exact h
theorem wpAnyIn_round {n : Nat} {P : Program} {ops : Array Oper} {Q : Exit → Act → World → Prop} {md : Region.Mode} {l : Nat} (hnd : noDefer ops = true) : ∀ (fuel : Nat) (listed : Array Bool) (a : Act) (w : World),
  wpAnyIn Fence.wide n P md ops Q fuel listed a w → wpAnyIn (Fence.wide.inRound l) n P md ops Q fuel listed a w
 | 0, _, _, _, h => h
 | fuel + 1, listed, a, w, h => ⟨h.1, fun i hi => wpOpIn_round hnd (wpOpIn_mono (fun a w h => wpAnyIn_round hnd fuel _ a w h) (h.2 i hi))⟩
theorem wpIn_region_round {n id : Nat} {P : Program} {ops : Array Oper} {Q : Exit → Act → World → Prop} {l : Nat} {a : Act} {w : World} (hm : P.follows .mixedOrders = true) (hnd : noDefer ops = true)
  (h : wpAnyIn Fence.wide n P .any ops Q ops.size (Array.replicate ops.size false) a w.drew) : (Code.region id ops true).wpIn (Fence.wide.inRound l) n P Q a w :=
 wpIn_region_any hm (wpAnyIn_round hnd _ _ _ _ h)
end Go.Proofs.YtpibgijgnnmccaaGreatDoor
