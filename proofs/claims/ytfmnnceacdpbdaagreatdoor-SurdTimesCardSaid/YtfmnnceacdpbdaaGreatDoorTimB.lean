import Derived.Test.YtfmnnceacdpbdaaGreatDoorRefGToRefH
import Derived.Test.YtfmnnceacdpbdaaGreatDoorTimAToTimC
set_option linter.unusedVariables false
set_option linter.unusedSimpArgs false
namespace Go.Proofs.YtfmnnceacdpbdaaGreatDoor
open Go.RowKit
structure TimesI (w W : World) (xd : Int) (xA : Option Addr) (xn xc : Nat) (yd : Int) (yA : Option Addr) (yn yc : Nat) (o : Value) (L : List (Int × Int)) : Prop where
 x : Blk W w.heap.size 24 #[.int .i64 xd, .slice xA xn xc]
 y : Blk W (w.heap.size + 1) 24 #[.int .i64 yd, .slice yA yn yc]
 r : Blk W (w.heap.size + 2) 24 #[.int .i64 0, .slice none 0 0]
 row : W.ownsRow (w.heap.size + 3) 34 2 o L.length (cellsT L)
 below : Below w.heap.size w W
 size : w.heap.size + 3 ≤ W.heap.size
 len : L.length ≤ 16
theorem TimesI.next {w W w1 w3 : World} {xd yd : Int} {xA yA : Option Addr} {xn xc yn yc : Nat} {o v : Value} {L : List (Int × Int)} {c r : Int} (h : TimesI w W xd xA xn xc yd yA yn yc o L) (hb : Below W.heap.size W w1)
  (hrow : w3.ownsRow (w.heap.size + 3) 34 2 v (L.length + 1) (cellsT L ++ [.int .i64 c, .int .i64 r])) (hg : w1.grownBy w3 o.ownBlock) (h8 : L.length < 16) : TimesI w w3 xd xA xn xc yd yA yn yc v (L ++ [(c, r)]) := by
 have hb3 : Below (w.heap.size + 3) W w3 := (hb.mono h.size).grown hg (by have := hb.size; have := h.size; omega) (fun j e => (h.row.lt j e).1)
 refine ⟨h.x.below hb3 (by omega), h.y.below hb3 (by omega), h.r.below hb3 (by omega), ?_, h.below.trans (hb3.mono (by omega)), by have := hb3.size; have := h.size; omega, by simp; omega⟩
 rw [cellsT_snoc, List.length_append, List.length_singleton]
 exact hrow
theorem timesL_snoc (l yt : List (Int × Int)) (t : Int × Int) : timesL (l ++ [t]) yt = timesL l yt ++ yt.map fun u => (t.1 * u.1, t.2 * u.2) := by
 unfold timesL; simp
theorem timesL_length (yt : List (Int × Int)) : ∀ l : List (Int × Int), (timesL l yt).length = l.length * yt.length
 | [] => by simp [timesL]
 | t :: l => by
  have h := timesL_length yt l
  have e : timesL (t :: l) yt = (yt.map fun u => (t.1 * u.1, t.2 * u.2)) ++ timesL l yt := rfl
  rw [e, List.length_append, List.length_map, h, List.length_cons, Nat.succ_mul]; omega
theorem times_bounds {xd yd : Int} {xt yt : List (Int × Int)} (hx : numOK xd xt = true) (hy : numOK yd yt = true) : ∀ t ∈ timesL xt yt, (0 ≤ t.2 ∧ t.2 ≤ 100000000000) ∧ -10000000000000 ≤ t.1 * ((splitN t.2.toNat).1 : Int) ∧ t.1 * ((splitN t.2.toNat).1 : Int) ≤ 10000000000000 := by
 intro t ht
 unfold timesL at ht
 obtain ⟨u, hu, ht⟩ := List.mem_flatMap.1 ht
 obtain ⟨v, hv, rfl⟩ := List.mem_map.1 ht
 obtain ⟨⟨a1, a2, a3, a4⟩, a5⟩ := (numOK_parts hx).2.2.2 u hu
 obtain ⟨⟨b1, b2, b3, b4⟩, b5⟩ := (numOK_parts hy).2.2.2 v hv
 have fa := ((numOK_roots hx).1 u hu).2.2
 have fb := ((numOK_roots hy).1 v hv).2.2
 obtain ⟨cu, ru⟩ := u
 obtain ⟨cv, rv⟩ := v
 dsimp only at *
 obtain ⟨a, rfl⟩ := Int.eq_ofNat_of_zero_le (show 0 ≤ ru by omega)
 obtain ⟨b, rfl⟩ := Int.eq_ofNat_of_zero_le (show 0 ≤ rv by omega)
 rw [Int.toNat_natCast] at fa fb
 rw [← Int.natCast_mul, Int.toNat_natCast, split_mul (by omega) (by omega) fa fb]
 have hg : Nat.gcd a b ≤ a := Nat.gcd_le_left b (by omega)
 have h1 := mul_bd a4 b4
 have h2 := mul_bd h1 (b := (Nat.gcd a b : Int)) (B := 1000) (by omega)
 have h3 : a * b ≤ 1000 * 1000 := Nat.mul_le_mul (by omega) (by omega)
 dsimp only
 generalize cu * cv * (Nat.gcd a b : Int) = z at *
 generalize a * b = y at *
 omega
set_option maxHeartbeats 16000000 in
set_option maxRecDepth 100000 in
theorem refTimes_any (xd : Int) (xA : Option Addr) (xn xc : Nat) (xt : List (Int × Int)) (yd : Int) (yA : Option Addr) (yn yc : Nat) (yt : List (Int × Int)) (B : Nat) (w : World) (hx : TermsQ w B xA xn xc xt) (hy : TermsQ w B yA yn yc yt) (hB : B ≤ w.heap.size) :
  Calls Tryz.prog 21 #[.agg #[.int .i64 xd, .slice xA xn xc], .agg #[.int .i64 yd, .slice yA yn yc]] w (NumPost w (mulS xd xt yd yt)) := by
 have hlx := hx.len
 have hly := hy.len
 subst hlx
 subst hly
 have hnx := Rq.nmax hx
 have hny := Rq.nmax hy
 obtain ⟨i1, hi1, hy0, hy1, hy2⟩ := info_parts Tryz.infoTerm
 obtain ⟨w0, hw0⟩ : ∃ w0, w0 = ((w.alloc (.cells #[.int .i64 xd, .slice xA xt.length xc] 24)).alloc (.cells #[.int .i64 yd, .slice yA yt.length yc] 24)).alloc (.cells #[.int .i64 0, .slice none 0 0] 24) := ⟨_, rfl⟩
 have hz0 : w0.heap.size = w.heap.size + 3 := by rw [hw0]; simp
 have HX0 : Hid (Blk w0 w.heap.size 24 #[.int .i64 xd, .slice xA xt.length xc]) := hide (by rw [hw0]; exact ((Blk.new w _ _).alloc _).alloc _)
 have HY0 : Hid (Blk w0 (w.heap.size + 1) 24 #[.int .i64 yd, .slice yA yt.length yc]) := hide (by
  rw [hw0]
  have h := (Blk.new (w.alloc (.cells #[.int .i64 xd, .slice xA xt.length xc] 24)) 24 #[.int .i64 yd, .slice yA yt.length yc]).alloc (.cells #[.int .i64 0, .slice none 0 0] 24)
  rwa [World.size_alloc] at h)
 have HR0 : Hid (Blk w0 (w.heap.size + 2) 24 #[.int .i64 0, .slice none 0 0]) := hide (by
  rw [hw0]
  have h := Blk.new ((w.alloc (.cells #[.int .i64 xd, .slice xA xt.length xc] 24)).alloc (.cells #[.int .i64 yd, .slice yA yt.length yc] 24)) 24 #[.int .i64 0, .slice none 0 0]
  rwa [World.size_alloc, World.size_alloc] at h)
 have HB0 : Hid (Below w.heap.size w w0) := hide (by rw [hw0]; exact (((Below.refl _ _).alloc (Nat.le_refl _) _).alloc (by simp) _).alloc (by simp; omega) _)
 have HTX := hide (fun W (hb : Below w.heap.size w W) => Rq.below hx (hb.mono hB))
 have HTY := hide (fun W (hb : Below w.heap.size w W) => Rq.below hy (hb.mono hB))
 have HNX := hide (fun W (hb : Below w.heap.size w W) => refNumber_any xd xA xt.length xc B xt W (HTX.out W hb) (by have := hb.size; omega))
 have HNY := hide (fun W (hb : Below w.heap.size w W) => refNumber_any yd yA yt.length yc B yt W (HTY.out W hb) (by have := hb.size; omega))
 have HPS := hide (show mulS xd xt yd yt = if (numOK xd xt && numOK yd yt) = true then overS (prodS [] xt yt) (xd * yd) else (0, [], 2) from rfl)
 clear hx hy
 cases hox : numOK xd xt
 ·rw [hox] at HNX
  have HV := hide (HPS.out.trans (if_neg (by rw [hox]; simp)))
  go_enter Tryz.func21, Tryz.ntmps21
  go_upto_region 1 with fail
  rw [← hw0]
  clear hw0
  obtain ⟨x0, x1, _, _⟩ := HX0.out.two
  obtain ⟨y0, y1, _, _⟩ := HY0.out.two
  go_wp2_with (first
   | (go_at_call 17; refine (HNX.out _ HB0.out).mono ?_; rintro e w1 ⟨rfl, hb1⟩
      have HR1 := hide (HR0.out.below hb1 (by omega)); have HB1 := hide (HB0.out.trans (hb1.mono (by omega)))
      obtain ⟨r0, r1, rf0, rf1⟩ := HR1.out.two
      clear hb1))
  refine bodyPost_cell_tmp (p := 4) (u := 5) (ty := 24) rfl rfl ((HR1.out.set_ 0 _).set_ 1 _) Tryz.underlying24 rfl Tryz.sizeNumber rfl ?_
  unfold NumPost
  exact ⟨none, 0, 0, by rw [HV.out]; rfl, by rw [HV.out]; exact World.ownsRow_nil _ _ _ _, Below.setCell (Below.setCell HB1.out (p := ⟨w.heap.size + 2, 0, none⟩) (by show _ ≤ w.heap.size + 2; omega) _) (p := ⟨w.heap.size + 2, 1, none⟩) (by show _ ≤ w.heap.size + 2; omega) _⟩
 rw [hox] at HNX
 cases hoy : numOK yd yt
 ·rw [hoy] at HNY
  have HV := hide (HPS.out.trans (if_neg (by rw [hoy]; simp)))
  go_enter Tryz.func21, Tryz.ntmps21
  go_upto_region 1 with fail
  rw [← hw0]
  clear hw0
  obtain ⟨x0, x1, _, _⟩ := HX0.out.two
  obtain ⟨y0, y1, _, _⟩ := HY0.out.two
  go_wp2_with (first
   | (go_at_call 17; refine (HNX.out _ HB0.out).mono ?_; rintro e w1 ⟨rfl, hb1⟩
      have HY1 := hide (HY0.out.below hb1 (by omega)); have HR1 := hide (HR0.out.below hb1 (by omega)); have HB1 := hide (HB0.out.trans (hb1.mono (by omega))); have hz1 := hb1.size
      obtain ⟨y0, y1, _, _⟩ := HY1.out.two
      clear hb1 HNX)
   | (go_at_call 17; refine (HNY.out _ HB1.out).mono ?_; rintro e w2 ⟨rfl, hb2⟩
      have HR2 := hide (HR1.out.below hb2 (by omega)); have HB2 := hide (HB1.out.trans (hb2.mono (by omega)))
      obtain ⟨r0, r1, rf0, rf1⟩ := HR2.out.two
      clear hb2))
  refine bodyPost_cell_tmp (p := 4) (u := 5) (ty := 24) rfl rfl ((HR2.out.set_ 0 _).set_ 1 _) Tryz.underlying24 rfl Tryz.sizeNumber rfl ?_
  unfold NumPost
  exact ⟨none, 0, 0, by rw [HV.out]; rfl, by rw [HV.out]; exact World.ownsRow_nil _ _ _ _, Below.setCell (Below.setCell HB2.out (p := ⟨w.heap.size + 2, 0, none⟩) (by show _ ≤ w.heap.size + 2; omega) _) (p := ⟨w.heap.size + 2, 1, none⟩) (by show _ ≤ w.heap.size + 2; omega) _⟩
 rw [hoy] at HNY
 obtain ⟨hx1, hx2, hx3, hx4⟩ := numOK_parts hox
 obtain ⟨hy1', hy2', hy3, hy4⟩ := numOK_parts hoy
 have HTXB := hide hx4
 have HTYB := hide hy4
 have HBD := hide (times_bounds hox hoy)
 have HEQ := hide (times_eq hox hoy)
 clear hx4 hy4 hox hoy HPS
 go_enter Tryz.func21, Tryz.ntmps21
 go_upto_region 1 with fail
 rw [← hw0]
 clear hw0
 obtain ⟨x0, x1, _, _⟩ := HX0.out.two
 obtain ⟨y0, y1, _, _⟩ := HY0.out.two
 go_wp2_with (first
  | (go_at_call 17; refine (HNX.out _ HB0.out).mono ?_; rintro e w1 ⟨rfl, hb1⟩
     have HX1 := hide (HX0.out.below hb1 (by omega)); have HY1 := hide (HY0.out.below hb1 (by omega)); have HR1 := hide (HR0.out.below hb1 (by omega)); have HB1 := hide (HB0.out.trans (hb1.mono (by omega))); have hz1 := hb1.size
     obtain ⟨y0, y1, _, _⟩ := HY1.out.two
     clear hb1 HNX)
  | (go_at_call 17; refine (HNY.out _ HB1.out).mono ?_; rintro e w2 ⟨rfl, hb2⟩
     have HX2 := hide (HX1.out.below hb2 (by omega)); have HY2 := hide (HY1.out.below hb2 (by omega)); have HR2 := hide (HR1.out.below hb2 (by omega)); have HB2 := hide (HB1.out.trans (hb2.mono (by omega))); have hz2 := hb2.size
     clear hb2 HNY))
 have HI : Hid (TimesI w (w2.alloc (.cells #[] 34)) xd xA xt.length xc yd yA yt.length yc (.slice (some ⟨w2.heap.size, 0, none⟩) 0 0) []) := hide
  ⟨HX2.out.alloc _, HY2.out.alloc _, HR2.out.alloc _, World.ownsRow_lit (base := w.heap.size + 3) (e := 34) (size := 2) w2 #[] 0 (by omega) (by unfold maxLen; omega) rfl, HB2.out.alloc (by omega) _, by simp; omega, by simp⟩
 clear HX2 HY2 HR2 HB2 HX1 HY1 HR1 HB1 HX0 HY0 HR0 HB0 x0 x1 y0 y1
 go_loopw [6, 7] (fun o i W => ∃ k : Nat, k ≤ xt.length ∧ i = .int .i64 k ∧ TimesI w W xd xA xt.length xc yd yA yt.length yc o (timesL (xt.take k) yt)) (fun _ i _ => xt.length - (intOf i).toNat)
 case atStart => exact ⟨0, by omega, rfl, by simpa [timesL] using HI.out⟩
 case round =>
  obtain ⟨k, hk, rfl, hI⟩ := hrel
  have HI1 := hide hI
  clear hI HI
  obtain ⟨x0, x1, _, _⟩ := HI1.out.x.two
  obtain ⟨y0, y1, _, _⟩ := HI1.out.y.two
  by_cases hkl : (k : Int) < (xt.length : Int)
  ·have hk1 : k < xt.length := by omega
   have htb := HTXB.out xt[k] (List.getElem_mem hk1)
   have HTS := hide (take_snoc xt k hk1)
   obtain ⟨t, ht⟩ : ∃ t, t = xt[k] := ⟨_, rfl⟩
   rw [← ht] at htb HTS
   obtain ⟨cx, rx⟩ := t
   have HXK := hide ht
   clear ht
   dsimp only at htb
   have hcx : -100000 ≤ cx ∧ cx ≤ 100000 := htb.1.2.2.2
   have hrx : 1 ≤ rx ∧ rx ≤ 1000 := ⟨htb.1.1, htb.1.2.1⟩
   clear htb
   obtain ⟨L1, hL1⟩ : ∃ L1, L1 = timesL (xt.take k) yt := ⟨_, rfl⟩
   have hL1l : L1.length ≤ 3 * yt.length := by
    rw [hL1, timesL_length, List.length_take]
    exact Nat.mul_le_mul_right _ (by omega)
   have HSN := hide (show timesL (xt.take (k + 1)) yt = L1 ++ yt.map (fun u => (cx * u.1, rx * u.2)) by rw [HTS.out, timesL_snoc, ← hL1])
   rw [← hL1] at HI1
   clear hL1 HTS
   have HI := hide HI1.out
   clear HI1
   go_wp2
   clear x0 x1 y0 y1
   go_loopw [6, 8] (fun o i W => ∃ j : Nat, j ≤ yt.length ∧ i = .int .i64 j ∧ TimesI w W xd xA xt.length xc yd yA yt.length yc o (L1 ++ (yt.take j).map (fun u => (cx * u.1, rx * u.2)))) (fun _ i _ => yt.length - (intOf i).toNat)
   case atStart => exact ⟨0, by omega, rfl, by simpa using HI.out⟩
   case round =>
    obtain ⟨j, hj, rfl, hI⟩ := hrel
    have HI1 := hide hI
    clear hI HI
    obtain ⟨x0, x1, _, _⟩ := HI1.out.x.two
    obtain ⟨y0, y1, _, _⟩ := HI1.out.y.two
    have hWz := HI1.out.size
    by_cases hjl : (j : Int) < (yt.length : Int)
    ·have hj1 : j < yt.length := by omega
     obtain ⟨ad, rfl, had, ha0, ha1⟩ := TermsQ.at_ (HTX.out _ HI1.out.below) hk1
     obtain ⟨ae, rfl, hae, hb0, hb1⟩ := TermsQ.at_ (HTY.out _ HI1.out.below) hj1
     rw [← HXK.out] at ha0 ha1
     have htb := HTYB.out yt[j] (List.getElem_mem hj1)
     have HTS := hide (take_snoc yt j hj1)
     obtain ⟨t, ht⟩ : ∃ t, t = yt[j] := ⟨_, rfl⟩
     rw [← ht] at htb HTS hb0 hb1
     clear ht
     obtain ⟨cy, ry⟩ := t
     dsimp only at ha0 ha1 hb0 hb1 htb
     have hcy : -100000 ≤ cy ∧ cy ≤ 100000 := htb.1.2.2.2
     have hry : 1 ≤ ry ∧ ry ≤ 1000 := ⟨htb.1.1, htb.1.2.1⟩
     clear htb
     have hmb := mul_bd hcx hcy
     have hmb2 := mul_bd (a := rx) (b := ry) (A := 1000) (B := 1000) (by omega) (by omega)
     have hmw : IntKind.i64.wrap (cx * cy) = cx * cy := by rw [IntKind.wrap_i64]; omega
     have hmw2 : IntKind.i64.wrap (rx * ry) = rx * ry := by rw [IntKind.wrap_i64]; omega
     obtain ⟨L, hL⟩ : ∃ L, L = (L1 ++ (yt.take j).map (fun u => (cx * u.1, rx * u.2))) := ⟨_, rfl⟩
     have hlL : L.length < 16 := by rw [hL]; simp; omega
     rw [← hL] at HI1
     have HL := hide hL
     clear hL
     have HROW := hide (World.ownsRow.drew (HI1.out.row.alloc (.cells #[.int .i64 (cx * cy), .int .i64 (rx * ry)] 34)))
     obtain ⟨Ao, co2, rfl⟩ := own_shape HI1.out.row
     obtain ⟨W, hW⟩ : ∃ W, W = wr := ⟨_, rfl⟩
     subst hW
     have hadB : ad.block < w.heap.size + 3 := by omega
     have haeB : ae.block < w.heap.size + 3 := by omega
     have HBW := hide ((Below.drew (Below.refl (w.heap.size + 3) W)).alloc (by show _ ≤ W.heap.size; omega) (.cells #[.int .i64 (cx * cy), .int .i64 (rx * ry)] 34))
     have HBU := hide (Below.drew ((Below.refl W.heap.size W).alloc (Nat.le_refl _) (.cells #[.int .i64 (cx * cy), .int .i64 (rx * ry)] 34)))
     go_wp2
     refine wp_region_till (fun w' => Below (w.heap.size + 3) W w') 29 (fun _ => True) 29 (fun _ => True) (by kernel_rfl) ⟨Below.drew (Below.refl _ _), fun _ => trivial, fun _ => trivial⟩ (fun hHeld => ?_)
     refine wpTill_take 0 rfl (by decide +kernel) (fun _ _ _ h => h) (by rfl) (v := ?_) ?_ hHeld (fun hHeld' => ?_)
     rotate_left 1
     focus (intro w' hSw; clear hSw; go_simp; first | done | with_reducible rfl)
     clear hHeld
     rename Till _ _ _ _ _ _ _ => hHeld
     (try simp only [Act.put, List.setIfInBounds_toArray, List.set_cons_zero, List.set_cons_succ])
     refine wpTill_take 1 rfl (by decide +kernel) (fun _ _ _ h => h) (by rfl) (v := ?_) ?_ hHeld (fun hHeld' => ?_)
     rotate_left 1
     focus (intro w' hSw; clear hSw; go_simp; first | done | with_reducible rfl)
     clear hHeld
     rename Till _ _ _ _ _ _ _ => hHeld
     (try simp only [Act.put, List.setIfInBounds_toArray, List.set_cons_zero, List.set_cons_succ])
     refine wpTill_take 2 rfl (by decide +kernel) (fun _ _ _ h => h) (by rfl) (v := ?_) ?_ hHeld (fun hHeld' => ?_)
     rotate_left 1
     focus (intro w' hSw; obtain ⟨hC, hF, hG⟩ := hSw; clear hF; clear hG; have c1 := (hC.cell (p := ⟨w.heap.size, 1, none⟩) (by show w.heap.size < _; omega)).trans x1; clear hC; go_simp; first | done | with_reducible rfl)
     clear hHeld
     rename Till _ _ _ _ _ _ _ => hHeld
     (try simp only [Act.put, List.setIfInBounds_toArray, List.set_cons_zero, List.set_cons_succ])
     refine wpTill_take 3 rfl (by decide +kernel) (fun _ _ _ h => h) (by rfl) (v := ?_) ?_ hHeld (fun hHeld' => ?_)
     rotate_left 1
     focus (intro w' hSw; clear hSw; go_simp; first | done | with_reducible rfl)
     clear hHeld
     rename Till _ _ _ _ _ _ _ => hHeld
     (try simp only [Act.put, List.setIfInBounds_toArray, List.set_cons_zero, List.set_cons_succ])
     refine wpTill_take 4 rfl (by decide +kernel) (fun _ _ _ h => h) (by rfl) (v := ?_) ?_ hHeld (fun hHeld' => ?_)
     rotate_left 1
     focus (intro w' hSw; clear hSw; go_simp; first | done | with_reducible rfl)
     clear hHeld
     rename Till _ _ _ _ _ _ _ => hHeld
     (try simp only [Act.put, List.setIfInBounds_toArray, List.set_cons_zero, List.set_cons_succ])
     refine wpTill_take 5 rfl (by decide +kernel) (fun _ _ _ h => h) (by rfl) (v := ?_) ?_ hHeld (fun hHeld' => ?_)
     rotate_left 1
     focus (intro w' hSw; clear hSw; go_simp; first | done | with_reducible rfl)
     clear hHeld
     rename Till _ _ _ _ _ _ _ => hHeld
     (try simp only [Act.put, List.setIfInBounds_toArray, List.set_cons_zero, List.set_cons_succ])
     refine wpTill_take 6 rfl (by decide +kernel) (fun _ _ _ h => h) (by rfl) (v := ?_) ?_ hHeld (fun hHeld' => ?_)
     rotate_left 1
     focus (intro w' hSw; obtain ⟨hC, hF, hG⟩ := hSw; clear hF; clear hG; have c1 := (hC.cell (p := ad.add (k * 2)) (by rw [addr_block]; omega)).trans ha0; clear hC; go_simp; first | done | with_reducible rfl)
     clear hHeld
     rename Till _ _ _ _ _ _ _ => hHeld
     (try simp only [Act.put, List.setIfInBounds_toArray, List.set_cons_zero, List.set_cons_succ])
     refine wpTill_take 7 rfl (by decide +kernel) (fun _ _ _ h => h) (by rfl) (v := ?_) ?_ hHeld (fun hHeld' => ?_)
     rotate_left 1
     focus (intro w' hSw; clear hSw; go_simp; first | done | with_reducible rfl)
     clear hHeld
     rename Till _ _ _ _ _ _ _ => hHeld
     (try simp only [Act.put, List.setIfInBounds_toArray, List.set_cons_zero, List.set_cons_succ])
     refine wpTill_take 8 rfl (by decide +kernel) (fun _ _ _ h => h) (by rfl) (v := ?_) ?_ hHeld (fun hHeld' => ?_)
     rotate_left 1
     focus (intro w' hSw; obtain ⟨hC, hF, hG⟩ := hSw; clear hF; clear hG; have c1 := (hC.cell (p := ⟨w.heap.size + 1, 1, none⟩) (by show w.heap.size + 1 < _; omega)).trans y1; clear hC; go_simp; first | done | with_reducible rfl)
     clear hHeld
     rename Till _ _ _ _ _ _ _ => hHeld
     (try simp only [Act.put, List.setIfInBounds_toArray, List.set_cons_zero, List.set_cons_succ])
     refine wpTill_take 9 rfl (by decide +kernel) (fun _ _ _ h => h) (by rfl) (v := ?_) ?_ hHeld (fun hHeld' => ?_)
     rotate_left 1
     focus (intro w' hSw; clear hSw; go_simp; first | done | with_reducible rfl)
     clear hHeld
     rename Till _ _ _ _ _ _ _ => hHeld
     (try simp only [Act.put, List.setIfInBounds_toArray, List.set_cons_zero, List.set_cons_succ])
     refine wpTill_take 10 rfl (by decide +kernel) (fun _ _ _ h => h) (by rfl) (v := ?_) ?_ hHeld (fun hHeld' => ?_)
     rotate_left 1
     focus (intro w' hSw; clear hSw; go_simp; first | done | with_reducible rfl)
     clear hHeld
     rename Till _ _ _ _ _ _ _ => hHeld
     (try simp only [Act.put, List.setIfInBounds_toArray, List.set_cons_zero, List.set_cons_succ])
     refine wpTill_take 11 rfl (by decide +kernel) (fun _ _ _ h => h) (by rfl) (v := ?_) ?_ hHeld (fun hHeld' => ?_)
     rotate_left 1
     focus (intro w' hSw; clear hSw; go_simp; first | done | with_reducible rfl)
     clear hHeld
     rename Till _ _ _ _ _ _ _ => hHeld
     (try simp only [Act.put, List.setIfInBounds_toArray, List.set_cons_zero, List.set_cons_succ])
     refine wpTill_take 12 rfl (by decide +kernel) (fun _ _ _ h => h) (by rfl) (v := ?_) ?_ hHeld (fun hHeld' => ?_)
     rotate_left 1
     focus (intro w' hSw; obtain ⟨hC, hF, hG⟩ := hSw; clear hF; clear hG; have c1 := (hC.cell (p := ae.add (j * 2)) (by rw [addr_block]; omega)).trans hb0; clear hC; go_simp; first | done | with_reducible rfl)
     clear hHeld
     rename Till _ _ _ _ _ _ _ => hHeld
     (try simp only [Act.put, List.setIfInBounds_toArray, List.set_cons_zero, List.set_cons_succ])
     refine wpTill_take 13 rfl (by decide +kernel) (fun _ _ _ h => h) (by rfl) (v := ?_) ?_ hHeld (fun hHeld' => ?_)
     rotate_left 1
     focus (intro w' hSw; clear hSw; go_simp; first | done | with_reducible rfl)
     clear hHeld
     rename Till _ _ _ _ _ _ _ => hHeld
     (try simp only [Act.put, List.setIfInBounds_toArray, List.set_cons_zero, List.set_cons_succ])
     refine wpTill_take 14 rfl (by decide +kernel) (fun _ _ _ h => h) (by rfl) (v := ?_) ?_ hHeld (fun hHeld' => ?_)
     rotate_left 1
     focus (intro w' hSw; clear hSw; go_simp; first | done | with_reducible rfl)
     clear hHeld
     rename Till _ _ _ _ _ _ _ => hHeld
     (try simp only [Act.put, List.setIfInBounds_toArray, List.set_cons_zero, List.set_cons_succ])
     refine wpTill_take 15 rfl (by decide +kernel) (fun _ _ _ h => h) (by rfl) (v := ?_) ?_ hHeld (fun hHeld' => ?_)
     rotate_left 1
     focus (intro w' hSw; obtain ⟨hC, hF, hG⟩ := hSw; clear hF; clear hG; have c1 := (hC.cell (p := ⟨w.heap.size, 1, none⟩) (by show w.heap.size < _; omega)).trans x1; clear hC; go_simp; first | done | with_reducible rfl)
     clear hHeld
     rename Till _ _ _ _ _ _ _ => hHeld
     (try simp only [Act.put, List.setIfInBounds_toArray, List.set_cons_zero, List.set_cons_succ])
     refine wpTill_take 16 rfl (by decide +kernel) (fun _ _ _ h => h) (by rfl) (v := ?_) ?_ hHeld (fun hHeld' => ?_)
     rotate_left 1
     focus (intro w' hSw; clear hSw; go_simp; first | done | with_reducible rfl)
     clear hHeld
     rename Till _ _ _ _ _ _ _ => hHeld
     (try simp only [Act.put, List.setIfInBounds_toArray, List.set_cons_zero, List.set_cons_succ])
     refine wpTill_take 17 rfl (by decide +kernel) (fun _ _ _ h => h) (by rfl) (v := ?_) ?_ hHeld (fun hHeld' => ?_)
     rotate_left 1
     focus (intro w' hSw; clear hSw; go_simp; first | done | with_reducible rfl)
     clear hHeld
     rename Till _ _ _ _ _ _ _ => hHeld
     (try simp only [Act.put, List.setIfInBounds_toArray, List.set_cons_zero, List.set_cons_succ])
     refine wpTill_take 18 rfl (by decide +kernel) (fun _ _ _ h => h) (by rfl) (v := ?_) ?_ hHeld (fun hHeld' => ?_)
     rotate_left 1
     focus (intro w' hSw; clear hSw; go_simp; first | done | with_reducible rfl)
     clear hHeld
     rename Till _ _ _ _ _ _ _ => hHeld
     (try simp only [Act.put, List.setIfInBounds_toArray, List.set_cons_zero, List.set_cons_succ])
     refine wpTill_take 19 rfl (by decide +kernel) (fun _ _ _ h => h) (by rfl) (v := ?_) ?_ hHeld (fun hHeld' => ?_)
     rotate_left 1
     focus (intro w' hSw; obtain ⟨hC, hF, hG⟩ := hSw; clear hF; clear hG; have c1 := (hC.cell (p := ⟨(ad.add (k * 2)).block, (ad.add (k * 2)).off + 1, none⟩) (by show (ad.add (k * 2)).block < _; rw [addr_block]; omega)).trans ha1; clear hC; go_simp; first | done | with_reducible rfl)
     clear hHeld
     rename Till _ _ _ _ _ _ _ => hHeld
     (try simp only [Act.put, List.setIfInBounds_toArray, List.set_cons_zero, List.set_cons_succ])
     refine wpTill_take 20 rfl (by decide +kernel) (fun _ _ _ h => h) (by rfl) (v := ?_) ?_ hHeld (fun hHeld' => ?_)
     rotate_left 1
     focus (intro w' hSw; clear hSw; go_simp; first | done | with_reducible rfl)
     clear hHeld
     rename Till _ _ _ _ _ _ _ => hHeld
     (try simp only [Act.put, List.setIfInBounds_toArray, List.set_cons_zero, List.set_cons_succ])
     refine wpTill_take 21 rfl (by decide +kernel) (fun _ _ _ h => h) (by rfl) (v := ?_) ?_ hHeld (fun hHeld' => ?_)
     rotate_left 1
     focus (intro w' hSw; obtain ⟨hC, hF, hG⟩ := hSw; clear hF; clear hG; have c1 := (hC.cell (p := ⟨w.heap.size + 1, 1, none⟩) (by show w.heap.size + 1 < _; omega)).trans y1; clear hC; go_simp; first | done | with_reducible rfl)
     clear hHeld
     rename Till _ _ _ _ _ _ _ => hHeld
     (try simp only [Act.put, List.setIfInBounds_toArray, List.set_cons_zero, List.set_cons_succ])
     refine wpTill_take 22 rfl (by decide +kernel) (fun _ _ _ h => h) (by rfl) (v := ?_) ?_ hHeld (fun hHeld' => ?_)
     rotate_left 1
     focus (intro w' hSw; clear hSw; go_simp; first | done | with_reducible rfl)
     clear hHeld
     rename Till _ _ _ _ _ _ _ => hHeld
     (try simp only [Act.put, List.setIfInBounds_toArray, List.set_cons_zero, List.set_cons_succ])
     refine wpTill_take 23 rfl (by decide +kernel) (fun _ _ _ h => h) (by rfl) (v := ?_) ?_ hHeld (fun hHeld' => ?_)
     rotate_left 1
     focus (intro w' hSw; clear hSw; go_simp; first | done | with_reducible rfl)
     clear hHeld
     rename Till _ _ _ _ _ _ _ => hHeld
     (try simp only [Act.put, List.setIfInBounds_toArray, List.set_cons_zero, List.set_cons_succ])
     refine wpTill_take 24 rfl (by decide +kernel) (fun _ _ _ h => h) (by rfl) (v := ?_) ?_ hHeld (fun hHeld' => ?_)
     rotate_left 1
     focus (intro w' hSw; clear hSw; go_simp; first | done | with_reducible rfl)
     clear hHeld
     rename Till _ _ _ _ _ _ _ => hHeld
     (try simp only [Act.put, List.setIfInBounds_toArray, List.set_cons_zero, List.set_cons_succ])
     refine wpTill_take 25 rfl (by decide +kernel) (fun _ _ _ h => h) (by rfl) (v := ?_) ?_ hHeld (fun hHeld' => ?_)
     rotate_left 1
     focus (intro w' hSw; obtain ⟨hC, hF, hG⟩ := hSw; clear hF; clear hG; have c1 := (hC.cell (p := ⟨(ae.add (j * 2)).block, (ae.add (j * 2)).off + 1, none⟩) (by show (ae.add (j * 2)).block < _; rw [addr_block]; omega)).trans hb1; clear hC; go_simp; first | done | with_reducible rfl)
     clear hHeld
     rename Till _ _ _ _ _ _ _ => hHeld
     (try simp only [Act.put, List.setIfInBounds_toArray, List.set_cons_zero, List.set_cons_succ])
     refine wpTill_take 26 rfl (by decide +kernel) (fun _ _ _ h => h) (by rfl) (v := ?_) ?_ hHeld (fun hHeld' => ?_)
     rotate_left 1
     focus (intro w' hSw; clear hSw; go_simp; first | done | with_reducible rfl)
     clear hHeld
     rename Till _ _ _ _ _ _ _ => hHeld
     (try simp only [Act.put, List.setIfInBounds_toArray, List.set_cons_zero, List.set_cons_succ])
     refine wpTill_take 27 rfl (by decide +kernel) (fun _ _ _ h => h) (by rfl) (v := ?_) ?_ hHeld (fun hHeld' => ?_)
     rotate_left 1
     focus (intro w' hSw; clear hSw; go_simp; first | done | with_reducible rfl)
     clear hHeld
     rename Till _ _ _ _ _ _ _ => hHeld
     (try simp only [Act.put, List.setIfInBounds_toArray, List.set_cons_zero, List.set_cons_succ])
     refine wpTill_one 28 rfl (by decide +kernel) (fun K hK => ?_)
     go_simp
     refine hK.out _ _ ⟨HBW.out, fun _ => trivial, fun _ => trivial⟩ (fun hHeld => ?_)
     clear hK K
     (try simp only [Act.put, List.setIfInBounds_toArray, List.set_cons_zero, List.set_cons_succ])
     refine wpTill_one 29 rfl (by decide +kernel) (fun K hK => ?_)
     refine step_append_lies _ rfl _ _ 22 rfl (w.heap.size + 3) 34 i1 (.agg #[.int .i64 0, .int .i64 0]) 2 16 Tryz.underlying22 hi1 hy0 hy1 hy2 rfl (by decide) (.slice Ao L.length co2) L.length _ rfl HROW.out ⟨W.heap.size, 0, none⟩ 1 1 [.int .i64 (cx * cy), .int .i64 (rx * ry)] rfl rfl (cell_new2 W _ _ _) (by simp [Value.oneCell']) (by decide) (by unfold maxLen; omega) (by omega) (by show _ ≤ (W.alloc _).heap.size; rw [World.size_alloc]; omega) (W.heap.size + 1) (by show (W.alloc _).heap.size = _; rw [World.size_alloc]) ?_
     intro g3 cap3 w3 ho3 hg3 hat3 hlt3
     have HN := hide (HI1.out.next HBU.out ho3 hg3 hlL)
     have HB3 := hide (HBW.out.grown hg3 (by show _ ≤ (W.alloc _).heap.size; rw [World.size_alloc]; omega) (fun j e => (HI1.out.row.lt j e).1))
     refine hK.out _ _ ⟨HB3.out, fun h => absurd h (by decide +kernel), fun h => absurd h (by decide +kernel)⟩ (fun hHeld => ?_)
     clear hK K ho3 hg3 hat3 hlt3
     (try simp only [Act.put, List.setIfInBounds_toArray, List.set_cons_zero, List.set_cons_succ])
     refine wpTill_take 30 rfl (by decide +kernel) (fun _ _ _ h => h) (by rfl) (v := ?_) ?_ hHeld (fun hHeld' => ?_)
     rotate_left 1
     focus (intro w' hSw; clear hSw; go_simp; first | done | with_reducible rfl)
     clear hHeld
     rename Till _ _ _ _ _ _ _ => hHeld
     (try simp only [Act.put, List.setIfInBounds_toArray, List.set_cons_zero, List.set_cons_succ])
     refine wpTill_done (by decide +kernel) ?_
     clear hHeld
     go_wp2
     exact ⟨⟨j + 1, by omega, by go_num, by rw [HTS.out, List.map_append, ← List.append_assoc, ← HL.out]; exact HN.out⟩, by simp [intOf]; omega⟩
    ·obtain rfl : j = yt.length := by omega
     rw [List.take_length, ← HSN.out] at HI1
     go_wp2
     exact ⟨⟨k + 1, by omega, by go_num, HI1.out⟩, by simp [intOf]; omega⟩
  ·obtain rfl : k = xt.length := by omega
   rw [List.take_length] at HI1
   have hxy := mul_bd (a := xd) (b := yd) (A := 100000) (B := 100000) (by omega) (by omega)
   have hpos : 0 < xd * yd := Int.mul_pos (by omega) (by omega)
   obtain ⟨L2, hL2⟩ : ∃ L2, L2 = timesL xt yt := ⟨_, rfl⟩
   rw [← hL2] at HI1 HBD HEQ
   clear hL2
   have hl2 := HI1.out.len
   obtain ⟨Ao, co2, rfl⟩ := own_shape HI1.out.row
   have HPP := hide (refParts_any (xd * yd) 10000000000000 Ao L2.length co2 wr.heap.size L2 wr (Rq.of (Rd.of_own HI1.out.row)) (Nat.le_refl _) (by omega) (by omega) (by omega) (fun t ht => (HBD.out t ht).1) (by decide) (fun t ht => (HBD.out t ht).2) (by omega))
   rw [HEQ.out] at HPP
   clear HEQ HBD
   generalize mulS xd xt yd yt = sv at *
   obtain ⟨s1, s2, s3⟩ := sv
   have hmw : IntKind.i64.wrap (xd * yd) = xd * yd := by rw [IntKind.wrap_i64]; omega
   go_wp2_with (first
    | (go_at_call 43; refine HPP.out.mono ?_; rintro e w5 ⟨A5, n5, c5, rfl, ho5, hb5⟩
       have hz5 := hb5.size
       have hsz := HI1.out.size
       have HR5 := hide (HI1.out.r.below hb5 (by omega)); have HB5 := hide (HI1.out.below.trans (hb5.mono (by omega))); have HO5 := hide ho5
       obtain ⟨r0, r1, rf0, rf1⟩ := HR5.out.two
       clear hb5 ho5))
   refine bodyPost_cell_tmp (p := 4) (u := 5) (ty := 24) rfl rfl ((HR5.out.set_ 0 _).set_ 1 _) Tryz.underlying24 rfl Tryz.sizeNumber rfl ?_
   unfold NumPost
   exact ⟨A5, n5, c5, rfl, own_le (ownsRow_setCell_below (ownsRow_setCell_below HO5.out (by show w.heap.size + 2 < _; omega) _) (by show w.heap.size + 2 < _; omega) _) (by omega), Below.setCell (Below.setCell HB5.out (p := ⟨w.heap.size + 2, 0, none⟩) (by show _ ≤ w.heap.size + 2; omega) _) (p := ⟨w.heap.size + 2, 1, none⟩) (by show _ ≤ w.heap.size + 2; omega) _⟩
end Go.Proofs.YtfmnnceacdpbdaaGreatDoor
