import Derived.Test.YtaacnbnmlfhnaaaGreatDoorRefKToRefM
import Derived.Test.YtaacnbnmlfhnaaaGreatDoorLawFToTiny
import Derived.Test.YtaacnbnmlfhnaaaGreatDoorKnown
set_option linter.unusedVariables false
set_option linter.unusedSimpArgs false
namespace Go.Proofs.YtaacnbnmlfhnaaaGreatDoor
open Go.RowKit
theorem olds_true (xw : Int) (A : Option Addr) (n c : Nat) (xl : List PieceV) (A2 : Option Addr) (n2 c2 : Nat) (yl : List PieceV) (B B2 : Nat) (w : World) (hx : PiecesQ w B A n c xl) (hy : PiecesQ w B2 A2 n2 c2 yl) (hB : B ≤ w.heap.size) (hB2 : B2 ≤ w.heap.size) (hf : xl.map PieceV.flat = yl.map PieceV.flat) :
  Calls Tryz.prog 22 #[.agg #[.int .i64 xw, .slice A n c], .agg #[.int .i64 xw, .slice A2 n2 c2]] w fun e w' => e = .returned (.bool true) ∧ Below w.heap.size w w' :=
 (olds_any xw A n c xl xw A2 n2 c2 yl w.heap.size w (hx.more hB) (hy.more hB2) (Nat.le_refl _)).mono fun e w' ⟨h1, h2⟩ => ⟨by rw [h1, hf]; simp, h2⟩
theorem PiecesQ.nil (w : World) (B : Nat) : PiecesQ w B none 0 0 [] := ⟨Rq.empty _ _ _ _, fun _ h => by cases h⟩
structure ExtS (w W : World) (wh : Int) (A : Option Addr) (l : List PieceV) (c : Nat) (Y2 : Nat) (A2 : Option Addr) (c2 : Nat) (L2 : List PieceV) (Y3 : Nat) (x3 : Int) (A3 : Option Addr) (c3 : Nat) (L3 : List PieceV) (Y4 : Nat) (x4 : Int) (A4 : Option Addr) (c4 : Nat) (L4 : List PieceV) : Prop where
 o : Blk W w.heap.size 24 #[.int .i64 wh, .slice A l.length c]
 i : Blk W Y2 24 #[.int .i64 wh, .slice A2 l.length c2]
 x : Blk W Y3 24 #[.int .i64 x3, .slice A3 L3.length c3]
 y : Blk W Y4 24 #[.int .i64 x4, .slice A4 L4.length c4]
 po : PiecesQ W W.heap.size A l.length c l
 pi : PiecesQ W W.heap.size A2 l.length c2 L2
 px : PiecesQ W W.heap.size A3 L3.length c3 L3
 py : PiecesQ W W.heap.size A4 L4.length c4 L4
 below : Below w.heap.size w W
section
variable {w W W' : World} {wh : Int} {A : Option Addr} {l : List PieceV} {c Y2 : Nat} {A2 : Option Addr} {c2 : Nat} {L2 : List PieceV} {Y3 : Nat} {x3 : Int} {A3 : Option Addr} {c3 : Nat} {L3 : List PieceV} {Y4 : Nat} {x4 : Int} {A4 : Option Addr} {c4 : Nat} {L4 : List PieceV}
theorem ExtS.under (h : ExtS w W wh A l c Y2 A2 c2 L2 Y3 x3 A3 c3 L3 Y4 x4 A4 c4 L4) (hb : Below W.heap.size W W') : ExtS w W' wh A l c Y2 A2 c2 L2 Y3 x3 A3 c3 L3 Y4 x4 A4 c4 L4 :=
 ⟨h.o.below hb h.o.lt, h.i.below hb h.i.lt, h.x.below hb h.x.lt, h.y.below hb h.y.lt, (h.po.below hb).more hb.size, (h.pi.below hb).more hb.size, (h.px.below hb).more hb.size, (h.py.below hb).more hb.size, h.below.trans (hb.mono h.below.size)⟩
theorem ExtS.alloc (h : ExtS w W wh A l c Y2 A2 c2 L2 Y3 x3 A3 c3 L3 Y4 x4 A4 c4 L4) (ob : Obj) : ExtS w (W.alloc ob) wh A l c Y2 A2 c2 L2 Y3 x3 A3 c3 L3 Y4 x4 A4 c4 L4 := h.under ((Below.refl _ _).alloc (Nat.le_refl _) ob)
theorem ExtS.drew (h : ExtS w W wh A l c Y2 A2 c2 L2 Y3 x3 A3 c3 L3 Y4 x4 A4 c4 L4) : ExtS w W.drew wh A l c Y2 A2 c2 L2 Y3 x3 A3 c3 L3 Y4 x4 A4 c4 L4 := h.under (Below.drew (Below.refl _ _))
end
set_option maxHeartbeats 8000000 in
set_option maxRecDepth 100000 in
theorem extends_any (wh : Int) (A : Option Addr) (n c : Nat) (l : List PieceV) (m most : Int) (w : World) (hp : PiecesQ w w.heap.size A n c l) (hwh : -9223372036854775808 ≤ wh ∧ wh ≤ 9223372036854775807)
  (hms : ∀ p ∈ l, ∀ m ∈ p.ms, -9223372036854775808 ≤ m ∧ m ≤ 9223372036854775807) (hm : -9223372036854775808 ≤ m ∧ m ≤ 9223372036854775807) (hmo : -9223372036854775808 ≤ most ∧ most ≤ 9223372036854775807)
  (hE : ErrVars w) (htab : Lib.TabIs Tryz.prog w "internal/strconv.uint64pow10" .u64 Lib.pow10Tab) :
  Calls Tryz.prog 4 #[.agg #[.int .i64 wh, .slice A n c], .int .i64 m, .int .i64 most] w fun e w' => e = .returned (.bool true) ∧ Below w.heap.size w w' := by
 obtain ⟨gp, hgp⟩ := Option.isSome_iff_exists.1 Tryz.pow10g
 have HK : Hid (∀ W, Below w.heap.size w W → Calls Tryz.prog 17 #[] W fun e w' => e = .returned (.bool true) ∧ Below W.heap.size W w') := hide (fun W hW => known_any W (hE.below hW (Nat.le_refl _)) (TabIs_below_ hgp htab hW))
 have hl := hp.len
 subst hl
 obtain ⟨w0, hw0⟩ : ∃ w0, w0 = w.alloc (.cells #[.int .i64 wh, .slice A l.length c] 24) := ⟨_, rfl⟩
 have hz0 : w0.heap.size = w.heap.size + 1 := by rw [hw0]; simp
 have HX0 : Hid (Blk w0 w.heap.size 24 #[.int .i64 wh, .slice A l.length c]) := hide (by rw [hw0]; exact Blk.new w _ _)
 have HB0 : Hid (Below w.heap.size w w0) := hide (by rw [hw0]; exact (Below.refl _ _).alloc (Nat.le_refl _) _)
 have HP := hide (fun W (hb : Below w.heap.size w W) => hp.below hb)
 clear hp hE htab hgp hms hwh hm hmo
 have HLG := hide (fun W hb hB => large_any wh A l.length c w.heap.size l W (HP.out W hb) hB)
 cases hlg : largeS (l.map PieceV.flat)
 case' true =>
  rw [hlg] at HLG
  clear hlg
  go_enter Tryz.func4, Tryz.ntmps4
  go_upto_region 1 with fail
  rw [← hw0]
  clear hw0
  obtain ⟨x0, x1, _, _⟩ := HX0.out.two
  go_wp2_with (first
   | (go_at_call 16; refine (HLG.out _ HB0.out (by omega)).mono ?_; rintro e w1 ⟨rfl, hb1⟩
      have HB1 := hide (HB0.out.trans (hb1.mono (by omega))); have hz1 := HB1.out.size
      clear hb1)
   | (go_at_call 17; refine (HK.out _ HB1.out).mono ?_; rintro e wz ⟨rfl, hbz⟩
      have HBe := hide (HB1.out.trans (hbz.mono hz1))
      clear hbz))
  all_goals
   go_ret
   exact ⟨rfl, HBe.out⟩
 rw [hlg] at HLG
 obtain ⟨hl8, hm8⟩ := large_small hlg
 have HOLD := hide (fun W hb hB => old_any wh A l.length c w.heap.size l W (HP.out W hb) hB hl8 hm8)
 clear hlg hl8 hm8
 go_enter Tryz.func4, Tryz.ntmps4
 go_upto_region 1 with fail
 rw [← hw0]
 clear hw0
 obtain ⟨x0, x1, _, _⟩ := HX0.out.two
 go_upto_region 4 with (first
  | (go_at_call 16; refine (HLG.out _ HB0.out (by omega)).mono ?_; rintro e w1 ⟨rfl, hb1⟩
     have HB1 := hide (HB0.out.trans (hb1.mono (by omega))); have HX1 := hide (HX0.out.below hb1 (by omega)); have hz1 := hb1.size
     obtain ⟨x0, x1, _, _⟩ := HX1.out.two
     clear hb1)
  | (go_at_call 18; refine (HOLD.out _ HB1.out (by omega)).mono ?_; rintro e w2 ⟨A2, c2, L2, rfl, hP2, hf2, hb2⟩
     have hz2 := hb2.size
     have HX2 := hide ((HX1.out.below hb2 (by omega)).alloc (.cells #[.int .i64 wh, .slice A2 l.length c2] 24))
     have HN2 := hide (Blk.new w2 24 #[.int .i64 wh, .slice A2 l.length c2])
     have HP2 := hide ((hP2.alloc (Nat.le_refl _) (.cells #[.int .i64 wh, .slice A2 l.length c2] 24)).more (show w2.heap.size ≤ (w2.alloc (.cells #[.int .i64 wh, .slice A2 l.length c2] 24)).heap.size by simp))
     have HF2 := hide hf2
     have HB2 := hide ((HB1.out.trans (hb2.mono (by omega))).alloc (by omega) (.cells #[.int .i64 wh, .slice A2 l.length c2] 24))
     clear hb2 hP2 hf2))
 obtain ⟨Y2, hY2⟩ : ∃ Y2, Y2 = w2.heap.size := ⟨_, rfl⟩
 rw [← hY2] at HN2 ⊢
 clear hY2 x0 x1 HLG HOLD HX0 HX1 HB0 HB1 hz0 hz1 hz2
 generalize w2.alloc (.cells #[.int .i64 wh, .slice A2 l.length c2] 24) = W2 at *
 obtain ⟨x0, x1, _, _⟩ := HX2.out.two
 obtain ⟨i0, i1, _, _⟩ := HN2.out.two
 obtain ⟨ex1, ex2, ex3, hex⟩ : ∃ a b c, extendS wh (l.map PieceV.flat) m = (a, b, c) := ⟨_, _, _, rfl⟩
 obtain ⟨ch1, ch2, ch3, hch⟩ : ∃ a b c, chainS wh (l.map PieceV.flat) m most = (a, b, c) := ⟨_, _, _, rfl⟩
 have hc3 := extend_any wh A2 l.length c2 W2.heap.size L2 m W2 HP2.out (Nat.le_refl _)
 rw [HF2.out, hex] at hc3
 have HC3 := hide hc3
 clear hc3
 go_upto_region 5 with (first
  | (go_at_call 29; refine HC3.out.mono ?_; rintro e w3 ⟨A3, n3, c3, L3, rfl, hP3, hf3, -, hb3⟩
     obtain rfl := hP3.len
     have hz3 := hb3.size
     have HX3 := hide ((HX2.out.below hb3 HX2.out.lt).alloc (.cells #[.int .i64 ex1, .slice A3 L3.length c3] 24))
     have HI3 := hide ((HN2.out.below hb3 HN2.out.lt).alloc (.cells #[.int .i64 ex1, .slice A3 L3.length c3] 24))
     have HN3 := hide (Blk.new w3 24 #[.int .i64 ex1, .slice A3 L3.length c3])
     have HP3 := hide (((HP2.out.below hb3).alloc hb3.size (.cells #[.int .i64 ex1, .slice A3 L3.length c3] 24)).more (show W2.heap.size ≤ (w3.alloc (.cells #[.int .i64 ex1, .slice A3 L3.length c3] 24)).heap.size by simp; omega))
     have HQ3 := hide ((PiecesQ.alloc (PiecesQ.of hP3) (Nat.le_refl _) (.cells #[.int .i64 ex1, .slice A3 L3.length c3] 24)).more (show w3.heap.size ≤ (w3.alloc (.cells #[.int .i64 ex1, .slice A3 L3.length c3] 24)).heap.size by simp))
     have HF3 : Hid (L3.map PieceV.flat = ex2) := hide hf3
     have HB3 := hide ((HB2.out.trans (hb3.mono HB2.out.size)).alloc (Nat.le_trans HB2.out.size hb3.size) (.cells #[.int .i64 ex1, .slice A3 L3.length c3] 24))
     clear hb3 hP3 hf3))
 obtain ⟨Y3, hY3⟩ : ∃ Y3, Y3 = w3.heap.size := ⟨_, rfl⟩
 rw [← hY3] at HN3 ⊢
 clear hY3 x0 x1 i0 i1 HC3 HX2 HN2 HP2 HB2 hz3
 generalize w3.alloc (.cells #[.int .i64 ex1, .slice A3 L3.length c3] 24) = W3 at *
 obtain ⟨x0, x1, _, _⟩ := HX3.out.two
 obtain ⟨i0, i1, _, _⟩ := HI3.out.two
 have hc4 := chain_any wh A2 l.length c2 W3.heap.size L2 m most W3 HP3.out (Nat.le_refl _)
 rw [HF2.out, hch] at hc4
 have HC4 := hide hc4
 clear hc4
 go_upto_region 6 with (first
  | (go_at_call 30; refine HC4.out.mono ?_; rintro e w4 ⟨A4, n4, c4, L4, rfl, hP4, hf4, -, hb4⟩
     obtain rfl := hP4.len
     have hz4 := hb4.size
     have hg4 : w4.heap.size ≤ (w4.alloc (.cells #[.int .i64 ch1, .slice A4 L4.length c4] 24)).heap.size := by simp
     have HS4 := hide ((⟨(HX3.out.below hb4 HX3.out.lt).alloc _, (HI3.out.below hb4 HI3.out.lt).alloc _, (HN3.out.below hb4 HN3.out.lt).alloc _, Blk.new w4 _ _,
      (((HP.out _ HB3.out).below (hb4.mono HB3.out.size)).alloc (Nat.le_trans HB3.out.size hb4.size) _).more (Nat.le_trans (Nat.le_trans HB3.out.size hb4.size) hg4),
      ((PiecesQ.of (HP3.out.below hb4)).alloc hb4.size _).more (Nat.le_trans hb4.size hg4), ((HQ3.out.below hb4).alloc hb4.size _).more (Nat.le_trans hb4.size hg4), ((PiecesQ.of hP4).alloc (Nat.le_refl _) _).more hg4,
      (HB3.out.trans (hb4.mono HB3.out.size)).alloc (Nat.le_trans HB3.out.size hb4.size) _⟩ : ExtS w (w4.alloc (.cells #[.int .i64 ch1, .slice A4 L4.length c4] 24)) wh A l c Y2 A2 c2 L2 Y3 ex1 A3 c3 L3 w4.heap.size ch1 A4 c4 L4))
     have HF4 : Hid (L4.map PieceV.flat = ch2) := hide hf4
     clear hb4 hP4 hf4 hg4))
 obtain ⟨Y4, hY4⟩ : ∃ Y4, Y4 = w4.heap.size := ⟨_, rfl⟩
 rw [← hY4] at HS4 ⊢
 clear hY4 x0 x1 i0 i1 HC4 HX3 HI3 HN3 HP3 HQ3 HB3 hz4
 generalize w4.alloc (.cells #[.int .i64 ch1, .slice A4 L4.length c4] 24) = W4 at *
 obtain ⟨x0, x1, _, _⟩ := HS4.out.o.two
 obtain ⟨i0, i1, _, _⟩ := HS4.out.i.two
 have HO5 := hide (olds_true wh A2 l.length c2 L2 A l.length c l W4.heap.size W4.heap.size W4 HS4.out.pi HS4.out.po (Nat.le_refl _) (Nat.le_refl _) HF2.out)
 go_upto_region 8 with (first
  | (go_at_call 22; refine HO5.out.mono ?_; rintro e w5 ⟨rfl, hb5⟩
     have HS5 := hide (HS4.out.under hb5)
     clear hb5))
 clear x0 x1 i0 i1 HO5 HS4
 obtain ⟨x0, x1, _, _⟩ := HS5.out.o.two
 have HO6 := hide (refOld_any wh A l.length c w5.heap.size l w5 HS5.out.po (Nat.le_refl _))
 cases hok : oldOK wh (l.map PieceV.flat)
 ·rw [hok] at HO6
  have he : ex1 = 0 ∧ ex2 = [] ∧ ex3 = 2 := by
   unfold extendS at hex
   rw [if_pos hok] at hex
   injection hex with h1 h2
   injection h2 with h2 h3
   exact ⟨h1.symm, h2.symm, h3.symm⟩
  have hc : ch1 = 0 ∧ ch2 = [] ∧ ch3 = 2 := by
   unfold chainS at hch
   rw [if_pos hok] at hch
   injection hch with h1 h2
   injection h2 with h2 h3
   exact ⟨h1.symm, h2.symm, h3.symm⟩
  obtain ⟨rfl, rfl, rfl⟩ := he
  obtain ⟨rfl, rfl, rfl⟩ := hc
  clear hex hch hok
  go_upto_region 9 with (first
   | (go_at_call 23; refine HO6.out.mono ?_; rintro e w6 ⟨rfl, hb6⟩
      have HS6 := hide (HS5.out.under hb6)
      clear hb6))
  clear x0 x1 HO6 HS5
  obtain ⟨x0, x1, _, _⟩ := HS6.out.x.two
  have HO7 := hide (olds_true 0 A3 L3.length c3 L3 none 0 0 [] w6.heap.size w6.heap.size w6 HS6.out.px (PiecesQ.nil _ _) (Nat.le_refl _) (Nat.le_refl _) HF3.out)
  go_wp2_with (first
   | (go_at_call 22; refine HO7.out.mono ?_; rintro e w7 ⟨rfl, hb7⟩
      have HS7 := hide (HS6.out.under hb7)
      obtain ⟨x0, x1, _, _⟩ := HS7.out.x.two
      obtain ⟨y0, y1, _, _⟩ := HS7.out.y.two
      have HO8 := hide (olds_true 0 A4 L4.length c4 L4 A3 L3.length c3 L3 w7.heap.size w7.heap.size w7 HS7.out.py HS7.out.px (Nat.le_refl _) (Nat.le_refl _) (HF4.out.trans HF3.out.symm))
      clear hb7 HO7)
   | (go_at_call 22; refine HO8.out.mono ?_; rintro e w8 ⟨rfl, hb8⟩
      have HS8 := hide (HS7.out.under hb8)
      clear hb8)
   | (go_at_call 17; refine (HK.out _ HS8.out.below).mono ?_; rintro e wz ⟨rfl, hbz⟩
      have HBe := hide (HS8.out.below.trans (hbz.mono HS8.out.below.size))
      clear hbz))
  all_goals
   go_ret
   exact ⟨rfl, HBe.out⟩
 rw [hok] at HO6
 have HX := hide (fun W hQ => refExtend_any wh A l.length c W.heap.size l m W hQ (Nat.le_refl _) hok)
 rw [hex] at HX
 go_upto_region 10 with (first
  | (go_at_call 23; refine HO6.out.mono ?_; rintro e w6 ⟨rfl, hb6⟩
     have HS6 := hide (HS5.out.under hb6)
     clear hb6))
 clear x0 x1 HO6 HS5
 obtain ⟨x0, x1, _, _⟩ := HS6.out.o.two
 go_upto_region 11 with (first
  | (go_at_call 31; refine (HX.out _ HS6.out.po).mono ?_; rintro e w7 ⟨A7, n7, c7, L7, rfl, hP7, hf7, -, hb7⟩
     obtain rfl := hP7.len
     have HS7 := hide ((HS6.out.under hb7).alloc (.cells #[.int .i64 ex1, .slice A7 L7.length c7] 24))
     have HN7 := hide (Blk.new w7 24 #[.int .i64 ex1, .slice A7 L7.length c7])
     have HQ7 := hide ((hP7.alloc (Nat.le_refl _) (.cells #[.int .i64 ex1, .slice A7 L7.length c7] 24)).more (show w7.heap.size ≤ (w7.alloc (.cells #[.int .i64 ex1, .slice A7 L7.length c7] 24)).heap.size by simp))
     have HF7 : Hid (L7.map PieceV.flat = ex2) := hide hf7
     clear hb7 hP7 hf7))
 obtain ⟨Y7, hY7⟩ : ∃ Y7, Y7 = w7.heap.size := ⟨_, rfl⟩
 rw [← hY7] at HN7 ⊢
 clear hY7 x0 x1 HX HS6
 generalize w7.alloc (.cells #[.int .i64 ex1, .slice A7 L7.length c7] 24) = W7 at *
 obtain ⟨x0, x1, _, _⟩ := HS7.out.x.two
 obtain ⟨n0, n1, _, _⟩ := HN7.out.two
 have HO8 := hide (olds_true ex1 A3 L3.length c3 L3 A7 L7.length c7 L7 W7.heap.size W7.heap.size W7 HS7.out.px HQ7.out (Nat.le_refl _) (Nat.le_refl _) (HF3.out.trans HF7.out.symm))
 have hself : (ex3 != ex3) = false := by simp
 go_upto_region 13 with (first
  | (go_at_call 22; refine HO8.out.mono ?_; rintro e w8 ⟨rfl, hb8⟩
     have HS8 := hide (HS7.out.under hb8)
     clear hb8))
 clear x0 x1 n0 n1 HO8 HS7 hself HN7 HQ7 HF7
 by_cases hin : inB m 1 1000 = false ∨ inB most 0 8 = false
 ·have hc : ch1 = 0 ∧ ch2 = [] ∧ ch3 = 3 := by
   unfold chainS at hch
   rw [if_neg (by rw [hok]; simp), if_pos hin] at hch
   injection hch with h1 h2
   injection h2 with h2 h3
   exact ⟨h1.symm, h2.symm, h3.symm⟩
  obtain ⟨rfl, rfl, rfl⟩ := hc
  clear hch hex hok
  obtain ⟨y0, y1, _, _⟩ := HS8.out.y.two
  have HO9 := hide (olds_true 0 A4 L4.length c4 L4 none 0 0 [] w8.heap.size w8.heap.size w8 HS8.out.py (PiecesQ.nil _ _) (Nat.le_refl _) (Nat.le_refl _) HF4.out)
  have h4 : m < 1 ∨ (¬ m < 1 ∧ 1000 < m) ∨ (¬ m < 1 ∧ ¬ 1000 < m ∧ most < 0) ∨ (¬ m < 1 ∧ ¬ 1000 < m ∧ ¬ most < 0 ∧ 8 < most) := by
   rcases hin with h | h
   ·simp only [inB, Bool.and_eq_false_iff, decide_eq_false_iff_not] at h
    omega
   ·simp only [inB, Bool.and_eq_false_iff, decide_eq_false_iff_not] at h
    omega
  clear hin
  rcases h4 with h4 | ⟨h4, h5⟩ | ⟨h4, h5, h6⟩ | ⟨h4, h5, h6, h7⟩
  all_goals
   go_wp2_with (first
    | (go_at_call 22; refine HO9.out.mono ?_; rintro e w9 ⟨rfl, hb9⟩
       have HS9 := hide (HS8.out.under hb9)
       clear hb9)
    | (go_at_call 17; refine (HK.out _ HS9.out.below).mono ?_; rintro e wz ⟨rfl, hbz⟩
       have HBe := hide (HS9.out.below.trans (hbz.mono HS9.out.below.size))
       clear hbz))
   all_goals
    go_ret
    exact ⟨rfl, HBe.out⟩
 ·have hm1 : inB m 1 1000 = true := by
   cases h : inB m 1 1000
   ·exact absurd (.inl h) hin
   ·rfl
  have hm2 : inB most 0 8 = true := by
   cases h : inB most 0 8
   ·exact absurd (.inr h) hin
   ·rfl
  have hb1 : 1 ≤ m ∧ m ≤ 1000 := by simpa [inB] using hm1
  have hb2 : 0 ≤ most ∧ most ≤ 8 := by simpa [inB] using hm2
  obtain ⟨M, rfl⟩ : ∃ M : Nat, most = M := ⟨most.toNat, by omega⟩
  have hc : ch1 = wh ∧ ch2 = chainF m M wh (l.map PieceV.flat) ∧ ch3 = 0 := by
   unfold chainS at hch
   rw [if_neg (by rw [hok]; simp), if_neg hin, Int.toNat_natCast] at hch
   injection hch with h1 h2
   injection h2 with h2 h3
   exact ⟨h1.symm, h2.symm, h3.symm⟩
  obtain ⟨hc1, hc2, rfl⟩ := hc
  subst hc1
  subst hc2
  clear hch hex hin hm1 hm2
  have HCH := hide (fun W hQ => refChain_any ch1 A l.length c W.heap.size l m M W hQ (Nat.le_refl _) hok (by omega))
  clear hok
  have hn1 : ¬ m < 1 := by omega
  have hn2 : ¬ 1000 < m := by omega
  have hn3 : ¬ (M : Int) < 0 := by omega
  have hn4 : ¬ 8 < (M : Int) := by omega
  go_upto_region 15 with fail
  clear hn1 hn2 hn3 hn4
  have HSd := hide HS8.out.drew
  obtain ⟨x0, x1, _, _⟩ := HS8.out.o.two
  obtain ⟨y0, y1, _, _⟩ := HS8.out.y.two
  have hUl := HS8.out.o.lt
  have hY4l := HS8.out.y.lt
  have HC8 := hide (Below.drew (Below.refl w8.heap.size w8))
  clear HS8
  refine wp_region_till (fun w' => Below w8.heap.size w8 w') 11 (fun _ => True) 11 (fun _ => True) (by kernel_rfl) ⟨HC8.out, fun _ => trivial, fun _ => trivial⟩ (fun hHeld => ?_)
  refine wpTill_take 0 rfl (by decide +kernel) (fun _ _ _ h => h) (by rfl) (v := ?_) ?_ hHeld (fun hHeld' => ?_)
  rotate_left 1
  focus (intro w' hSw; clear hSw; go_simp; first | done | with_reducible rfl)
  clear hHeld
  rename Till _ _ _ _ _ _ _ => hHeld
  (try simp only [Act.put, List.setIfInBounds_toArray, List.set_cons_zero, List.set_cons_succ])
  refine wpTill_take 1 rfl (by decide +kernel) (fun _ _ _ h => h) (by rfl) (v := ?_) ?_ hHeld (fun hHeld' => ?_)
  rotate_left 1
  focus (intro w' hSw; clear hSw; go_simp; first | done | with_reducible rfl)
  clear hHeld
  rename Till _ _ _ _ _ _ _ => hHeld
  (try simp only [Act.put, List.setIfInBounds_toArray, List.set_cons_zero, List.set_cons_succ])
  refine wpTill_take 2 rfl (by decide +kernel) (fun _ _ _ h => h) (by rfl) (v := ?_) ?_ hHeld (fun hHeld' => ?_)
  rotate_left 1
  focus (intro w' hSw; clear hSw; go_simp; first | done | with_reducible rfl)
  clear hHeld
  rename Till _ _ _ _ _ _ _ => hHeld
  (try simp only [Act.put, List.setIfInBounds_toArray, List.set_cons_zero, List.set_cons_succ])
  refine wpTill_take 3 rfl (by decide +kernel) (fun _ _ _ h => h) (by rfl) (v := ?_) ?_ hHeld (fun hHeld' => ?_)
  rotate_left 1
  focus (intro w' hSw; obtain ⟨hC, hF, hG⟩ := hSw; clear hF; clear hG; have c1 := (hC.cell (p := ⟨Y4, 0, none⟩) hY4l).trans y0; have c2 := (hC.cell (p := ⟨Y4, 1, none⟩) hY4l).trans y1; clear hC; go_simp; first | done | with_reducible rfl)
  clear hHeld
  rename Till _ _ _ _ _ _ _ => hHeld
  (try simp only [Act.put, List.setIfInBounds_toArray, List.set_cons_zero, List.set_cons_succ])
  refine wpTill_take 4 rfl (by decide +kernel) (fun _ _ _ h => h) (by rfl) (v := ?_) ?_ hHeld (fun hHeld' => ?_)
  rotate_left 1
  focus (intro w' hSw; obtain ⟨hC, hF, hG⟩ := hSw; clear hF; clear hG; have c1 := (hC.cell (p := ⟨w.heap.size, 0, none⟩) hUl).trans x0; have c2 := (hC.cell (p := ⟨w.heap.size, 1, none⟩) hUl).trans x1; clear hC; go_simp; first | done | with_reducible rfl)
  clear hHeld
  rename Till _ _ _ _ _ _ _ => hHeld
  (try simp only [Act.put, List.setIfInBounds_toArray, List.set_cons_zero, List.set_cons_succ])
  refine wpTill_take 5 rfl (by decide +kernel) (fun _ _ _ h => h) (by rfl) (v := ?_) ?_ hHeld (fun hHeld' => ?_)
  rotate_left 1
  focus (intro w' hSw; clear hSw; go_simp; first | done | with_reducible rfl)
  clear hHeld
  rename Till _ _ _ _ _ _ _ => hHeld
  (try simp only [Act.put, List.setIfInBounds_toArray, List.set_cons_zero, List.set_cons_succ])
  refine wpTill_take 6 rfl (by decide +kernel) (fun _ _ _ h => h) (by rfl) (v := ?_) ?_ hHeld (fun hHeld' => ?_)
  rotate_left 1
  focus (intro w' hSw; clear hSw; go_simp; first | done | with_reducible rfl)
  clear hHeld
  rename Till _ _ _ _ _ _ _ => hHeld
  (try simp only [Act.put, List.setIfInBounds_toArray, List.set_cons_zero, List.set_cons_succ])
  clear x0 x1 y0 y1
  refine wpTill_one 7 rfl (by decide +kernel) (fun K hK => ?_)
  go_simp
  go_wp2_with (first
   | (go_at_call 32; refine (HCH.out _ HSd.out.po).mono ?_; rintro e w9 ⟨A9, c9, L9, rfl, hP9, hf9, hb9⟩
      have HS9 := hide (HSd.out.under hb9); have HQ9 := hide hP9; have HF9 := hide hf9
      have HC9 := hide (HC8.out.trans (hb9.mono HC8.out.size))
      clear hb9 hP9 hf9))
  refine hK.out _ _ ⟨HC9.out, fun _ => trivial, fun _ => trivial⟩ (fun hHeld => ?_)
  clear hK K
  (try simp only [Act.put, List.setIfInBounds_toArray, List.set_cons_zero, List.set_cons_succ])
  have HO9 := hide (olds_true ch1 A4 L4.length c4 L4 A9 L9.length c9 L9 w9.heap.size w9.heap.size w9 HS9.out.py HQ9.out (Nat.le_refl _) (Nat.le_refl _) (HF4.out.trans HF9.out.symm))
  refine wpTill_one 8 rfl (by decide +kernel) (fun K hK => ?_)
  go_simp
  go_wp2_with (first
   | (go_at_call 22; refine HO9.out.mono ?_; rintro e w10 ⟨rfl, hb10⟩
      have HS10 := hide (HS9.out.under hb10)
      have HC10 := hide (HC9.out.trans (hb10.mono HC9.out.size))
      clear hb10))
  refine hK.out _ _ ⟨HC10.out, fun _ => trivial, fun _ => trivial⟩ (fun hHeld => ?_)
  clear hK K
  (try simp only [Act.put, List.setIfInBounds_toArray, List.set_cons_zero, List.set_cons_succ])
  refine wpTill_take 9 rfl (by decide +kernel) (fun _ _ _ h => h) (by rfl) (v := ?_) ?_ hHeld (fun hHeld' => ?_)
  rotate_left 1
  focus (intro w' hSw; clear hSw; go_simp; first | done | with_reducible rfl)
  clear hHeld
  rename Till _ _ _ _ _ _ _ => hHeld
  (try simp only [Act.put, List.setIfInBounds_toArray, List.set_cons_zero, List.set_cons_succ])
  refine wpTill_take 10 rfl (by decide +kernel) (fun _ _ _ h => h) (by rfl) (v := ?_) ?_ hHeld (fun hHeld' => ?_)
  rotate_left 1
  focus (intro w' hSw; clear hSw; go_simp; first | done | with_reducible rfl)
  clear hHeld
  rename Till _ _ _ _ _ _ _ => hHeld
  (try simp only [Act.put, List.setIfInBounds_toArray, List.set_cons_zero, List.set_cons_succ])
  refine wpTill_one 11 rfl (by decide +kernel) (fun K hK => ?_)
  go_simp
  go_wp2_with (first
   | (go_at_call 17; refine (HK.out _ HS10.out.below).mono ?_; rintro e wz ⟨rfl, hbz⟩
      have HBe := hide (HS10.out.below.trans (hbz.mono HS10.out.below.size))
      have HCz := hide (HC10.out.trans (hbz.mono HC10.out.size))
      clear hbz))
  refine hK.out _ _ ⟨HCz.out, fun _ => trivial, fun _ => trivial⟩ (fun hHeld => ?_)
  clear hK K
  (try simp only [Act.put, List.setIfInBounds_toArray, List.set_cons_zero, List.set_cons_succ])
  refine wpTill_take 12 rfl (by decide +kernel) (fun _ _ _ h => h) (by rfl) (v := ?_) ?_ hHeld (fun hHeld' => ?_)
  rotate_left 1
  focus (intro w' hSw; clear hSw; go_simp; first | done | with_reducible rfl)
  clear hHeld
  rename Till _ _ _ _ _ _ _ => hHeld
  (try simp only [Act.put, List.setIfInBounds_toArray, List.set_cons_zero, List.set_cons_succ])
  refine wpTill_take 13 rfl (by decide +kernel) (fun _ _ _ h => h) (by rfl) (v := ?_) ?_ hHeld (fun hHeld' => ?_)
  rotate_left 1
  focus (intro w' hSw; clear hSw; go_simp; first | done | with_reducible rfl)
  clear hHeld
  rename Till _ _ _ _ _ _ _ => hHeld
  (try simp only [Act.put, List.setIfInBounds_toArray, List.set_cons_zero, List.set_cons_succ])
  refine wpTill_done (by decide +kernel) ?_
  clear hHeld
  go_wp2
  go_ret
  exact ⟨rfl, HBe.out⟩
end Go.Proofs.YtaacnbnmlfhnaaaGreatDoor
