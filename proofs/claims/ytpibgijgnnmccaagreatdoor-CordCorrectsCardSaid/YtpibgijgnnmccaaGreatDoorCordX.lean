import Derived.Test.YtpibgijgnnmccaaGreatDoorCordIToCordJ
set_option linter.unusedVariables false
set_option linter.unusedSimpArgs false
namespace Go.Proofs.YtpibgijgnnmccaaGreatDoor
open Go.RowKit
def PiRes (ld : Int) (lt : List (Int × Int)) (hd : Int) (ht : List (Int × Int)) (r : Bool) : Prop :=
 ∃ o e s f, CmpRes ld lt hd ht o e ∧ SignRes ld lt s f ∧ r = (decide (e = 0) && decide (f = 0) && decide (o ≤ 0) && decide (0 < s))
def PiPost (w : World) (ld : Int) (lt : List (Int × Int)) (hd : Int) (ht : List (Int × Int)) (e : Ending) (w' : World) : Prop := ∃ r, e = .returned (.bool r) ∧ PiRes ld lt hd ht r ∧ Below w.heap.size w w'
theorem Blk.four {w : World} {b : Nat} {t : TypeId} {u v x y : Value} (h : Blk w b t #[u, v, x, y]) : w.cell? ⟨b, 0, none⟩ = some u ∧ w.cell? ⟨b, 1, none⟩ = some v ∧ w.cell? ⟨b, 2, none⟩ = some x ∧ w.cell? ⟨b, 3, none⟩ = some y :=
 ⟨h.cell 0, h.cell 1, h.cell 2, h.cell 3⟩
set_option maxHeartbeats 2000000 in
set_option maxRecDepth 100000 in
theorem isPi_any (ld : Int) (A : Option Addr) (n c : Nat) (lt : List (Int × Int)) (hd : Int) (A2 : Option Addr) (n2 c2 : Nat) (ht : List (Int × Int)) (B : Nat) (w : World) (hx : Terms w B A n c lt) (hy : Terms w B A2 n2 c2 ht) (hB : B ≤ w.heap.size) :
  Calls Tryz.prog 159 #[.agg #[.int .i64 ld, .slice A n c, .int .i64 hd, .slice A2 n2 c2]] w (PiPost w ld lt hd ht) := by
 have HX0 := hide (Blk.new w 46 #[.int .i64 ld, .slice A n c, .int .i64 hd, .slice A2 n2 c2])
 have HB0 := hide ((Below.refl w.heap.size w).alloc (Nat.le_refl _) (.cells #[.int .i64 ld, .slice A n c, .int .i64 hd, .slice A2 n2 c2] 46))
 have hxa := Rd.alloc hx hB (.cells #[.int .i64 ld, .slice A n c, .int .i64 hd, .slice A2 n2 c2] 46)
 have hya := Rd.alloc hy hB (.cells #[.int .i64 ld, .slice A n c, .int .i64 hd, .slice A2 n2 c2] 46)
 obtain ⟨x0, x1, x2, x3⟩ := HX0.out.four
 have HXA := hide (hxa.more (show B ≤ w.heap.size from hB))
 have HYA := hide (hya.more (show B ≤ w.heap.size from hB))
 have HCM := hide (compare_flat ld A n c lt hd A2 n2 c2 ht w.heap.size _ HXA.out HYA.out (by simp))
 clear hx hy hxa hya
 go_enter Tryz.func159, Tryz.ntmps159
 go_wp2_with (first
  | (go_at_call 33; refine HCM.out.mono ?_; rintro e w1 ⟨o, oe, rfl, hcr, hb1⟩
     have HB1 := hide (HB0.out.trans (hb1.mono (by simp)))
     have HX1 := hide (HX0.out.below hb1 (by simp))
     have HSG := hide (sign_flat ld A n c lt w.heap.size w1 (Rd.below HXA.out (hb1.mono (by simp))) HB1.out.size)
     obtain ⟨y0, y1, y2, y3⟩ := HX1.out.four
     have HCR := hide hcr
     clear hb1 hcr)
  | (go_at_call 29; refine HSG.out.mono ?_; rintro e w2 ⟨s, f, rfl, hsr, hb2⟩
     have HB2 := hide (HB1.out.trans (hb2.mono HB1.out.size))
     have HSR := hide hsr
     clear hb2 hsr))
 all_goals go_ret
 all_goals first
  | exact ⟨_, rfl, ⟨o, oe, s, f, HCR.out, HSR.out, by first | (simp [*]; done) | (simp [*]; omega)⟩, HB2.out⟩
  | (trace_state; fail)
def ChkRes (xd : Int) (xt : List (Int × Int)) (ld : Int) (lt : List (Int × Int)) (hd : Int) (ht : List (Int × Int)) (r : Int) : Prop :=
 ∃ s e, SignRes xd xt s e ∧ ((e ≠ 0 ∧ r = 2) ∨ (e = 0 ∧ ∃ p, PiRes ld lt hd ht p ∧ r = if p = true then (if s ≤ 0 then 3 else 0) else 2))
set_option maxHeartbeats 2000000 in
set_option maxRecDepth 100000 in
theorem cordCheckR_any (xd : Int) (A0 : Option Addr) (n0 c0 : Nat) (xt : List (Int × Int)) (ld : Int) (A : Option Addr) (n c : Nat) (lt : List (Int × Int)) (hd : Int) (A2 : Option Addr) (n2 c2 : Nat) (ht : List (Int × Int)) (B : Nat) (w : World)
  (hz : Terms w B A0 n0 c0 xt) (hx : Terms w B A n c lt) (hy : Terms w B A2 n2 c2 ht) (hB : B ≤ w.heap.size) :
  Calls Tryz.prog 98 #[.agg #[.int .i64 xd, .slice A0 n0 c0], .agg #[.int .i64 ld, .slice A n c, .int .i64 hd, .slice A2 n2 c2]] w fun e w' => ∃ r, e = .returned (.int .i64 r) ∧ ChkRes xd xt ld lt hd ht r ∧ Below w.heap.size w w' := by
 obtain ⟨w0, hw0⟩ : ∃ w0, w0 = (w.alloc (.cells #[.int .i64 xd, .slice A0 n0 c0] 33)).alloc (.cells #[.int .i64 ld, .slice A n c, .int .i64 hd, .slice A2 n2 c2] 46) := ⟨_, rfl⟩
 have hz0 : w0.heap.size = w.heap.size + 2 := by rw [hw0]; simp
 have h01 : Below w.heap.size w w0 := by rw [hw0]; exact ((Below.refl _ _).alloc (Nat.le_refl _) _).alloc (by simp) _
 have HX0 : Hid (Blk w0 w.heap.size 33 #[.int .i64 xd, .slice A0 n0 c0]) := hide (by rw [hw0]; exact (Blk.new w _ _).alloc _)
 have HP0 : Hid (Blk w0 (w.heap.size + 1) 46 #[.int .i64 ld, .slice A n c, .int .i64 hd, .slice A2 n2 c2]) := hide (by
  rw [hw0]
  have h := Blk.new (w.alloc (.cells #[.int .i64 xd, .slice A0 n0 c0] 33)) 46 #[.int .i64 ld, .slice A n c, .int .i64 hd, .slice A2 n2 c2]
  rwa [World.size_alloc] at h)
 have HZ := hide (Rd.below hz (h01.mono hB)); have HX := hide (Rd.below hx (h01.mono hB)); have HY := hide (Rd.below hy (h01.mono hB))
 have HB0 := hide h01
 have HSG := hide (sign_flat xd A0 n0 c0 xt B w0 HZ.out (by omega))
 clear hz hx hy h01
 go_enter Tryz.func98, Tryz.ntmps98
 go_wp2_with fail
 rw [← hw0]
 clear hw0
 obtain ⟨x0, x1, _, _⟩ := HX0.out.two
 obtain ⟨y0, y1, y2, y3⟩ := HP0.out.four
 go_wp2_with (first
  | (go_at_call 29; refine HSG.out.mono ?_; rintro e w1 ⟨s, f, rfl, hsr, hb1⟩
     have HB1 := hide (HB0.out.trans (hb1.mono (by omega)))
     have HP1 := hide (HP0.out.below hb1 (by omega))
     have HIP := hide (isPi_any ld A n c lt hd A2 n2 c2 ht B w1 (Rd.below HX.out (hb1.mono (by omega))) (Rd.below HY.out (hb1.mono (by omega))) (by have := HB1.out.size; omega))
     obtain ⟨z0, z1, z2, z3⟩ := HP1.out.four
     have HSR := hide hsr
     clear hb1 hsr)
  | (go_at_call 159; refine HIP.out.mono ?_; rintro e w2 ⟨p, rfl, hpr, hb2⟩
     have HB2 := hide (HB1.out.trans (hb2.mono HB1.out.size))
     have HPR := hide hpr
     clear hb2 hpr))
 all_goals go_ret
 all_goals first
  | exact ⟨_, rfl, ⟨s, f, HSR.out, .inr ⟨by simp_all, p, HPR.out, by simp_all⟩⟩, HB2.out⟩
  | exact ⟨_, rfl, ⟨s, f, HSR.out, .inl ⟨by simp_all, rfl⟩⟩, HB1.out⟩
  | (trace_state; fail)
end Go.Proofs.YtpibgijgnnmccaaGreatDoor
