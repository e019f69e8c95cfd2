import Derived.Test.YthkblgglmohciaaGreatDoorSqrAToSqrC
import Derived.Test.YthkblgglmohciaaGreatDoorRefAToRefE
import Derived.Test.YthkblgglmohciaaGreatDoorRootA
import Derived.Test.YthkblgglmohciaaGreatDoorDgtJ
import Derived.Test.YthkblgglmohciaaGreatDoorRefGToRefF
import Derived.Test.YthkblgglmohciaaGreatDoorVarNToLayN
import Derived.Test.YthkblgglmohciaaGreatDoorLawU
import Derived.Test.YthkblgglmohciaaGreatDoorKnwAToKnwB
set_option linter.unusedVariables false
set_option linter.unusedSimpArgs false
namespace Go.Proofs.YthkblgglmohciaaGreatDoor
theorem partsR_one {n xd : Int} (hn : 0 < n) (hd : 0 < xd) : partsR xd [(1, n * xd)] = overS (intoS [] n xd 1) xd := by
 have hp := Int.mul_pos hn hd
 unfold partsR intoS addAll
 rw [if_pos hn]
 simp only [List.foldl_cons, List.foldl_nil]
 unfold addRoot
 rw [if_pos hp]
 simp
theorem partsR_two {p q xd sg : Int} (hp : 0 < p) (hq : 0 < q) (hd : 0 < xd) : partsR (2 * xd) [(1, p * 2 * xd), (sg, q * 2 * xd)] = overS (intoS (intoS [] p (2 * xd) 1) q (2 * xd) sg) (2 * xd) := by
 have h2 : 0 < 2 * xd := by omega
 have hpp := Int.mul_pos hp h2
 have hqq := Int.mul_pos hq h2
 have e1 : p * 2 * xd = p * (2 * xd) := Int.mul_assoc p 2 xd
 have e2 : q * 2 * xd = q * (2 * xd) := Int.mul_assoc q 2 xd
 rw [e1, e2]
 unfold partsR intoS addAll
 rw [if_pos hp, if_pos hq]
 simp only [List.foldl_cons, List.foldl_nil]
 unfold addRoot
 rw [if_pos hpp, if_pos hqq]
 simp
theorem whole_pos {a b r d s : Int} (hx : numOK d [(a, 1), (b, r)] = true) (hs : SignOf [(a, 1), (b, r)] s) (h0 : 0 < s) (hw : 0 ≤ a * a - b * b * r) : 0 < a := by
 have hu := term_nz hx (show (b, r) ∈ [(a, 1), (b, r)] by simp)
 have hlin : ∀ k, linT [(a, 1), (b, r)] k = a * bits k + b * rtA r k := fun k => by rw [linT_cons, linT_cons, linT_nil, rtA_one]; (try dsimp only); omega
 have hnd := (numOK_roots hx).2
 obtain ⟨s', hs'⟩ := sign_ex (ts := [(a, 1), (-b, r)]) (fun v hv => by
  have hf := numOK_free hx
  rcases List.mem_cons.1 hv with rfl | hv
  ·exact hf (a, 1) (by simp)
  ·rw [List.mem_singleton] at hv; rw [hv]; exact hf (b, r) (by simp)) (by
  have := two_roots hx
  simp at this ⊢; omega)
 have g1 : Sg (fun k => a * bits k + b * rtA r k) s := hs.sg.congr hlin
 have g2 : Sg (fun k => a * bits k - b * rtA r k) s' := hs'.sg.congr fun k => by rw [linT_cons, linT_cons, linT_nil, rtA_one]; (try dsimp only); rw [Int.neg_mul]; omega
 have hR := rt_self (r := r) hu.2
 have m1 : MulN (rtA r) (fun k => a * bits k - b * rtA r k) (fun k => a * rtA r k - b * (r * bits k)) := ((MulN.cst a (rtA r)).add (hR.smul (-b))).congr (fun _ => rfl) (fun k => by (try dsimp only); grind) (fun k => by (try dsimp only); grind)
 have m2 : MulN (fun k => a * bits k - b * rtA r k) (fun k => a * bits k + b * rtA r k) (fun k => (a * a - b * b * r) * bits k) := ((MulN.cst a (fun k => a * bits k - b * rtA r k)).add (m1.comm.smul b)).congr (fun _ => rfl) (fun _ => rfl) (fun k => by (try dsimp only); grind)
 have o1 : OB (fun k => a * bits k + b * rtA r k) := (OB.smul a bits_ob).add (OB.smul b (rtA_OB r))
 have o2 : OB (fun k => a * bits k - b * rtA r k) := by
  obtain ⟨C, h⟩ := (OB.smul a bits_ob).add (OB.smul (-b) (rtA_OB r))
  exact ⟨C, fun k => by have := h k; dsimp only at this ⊢; rw [Int.neg_mul] at this; exact this⟩
 have hs1 : s = 1 := by rcases g1.range with h | h | h <;> omega
 have g3 := m2.sg g2 g1 o2 o1
 have g4 := not_neg_sg g3 (fun k => Int.mul_nonneg hw (Int.le_of_lt (bitsI_pos k)))
 rw [hs1, Int.mul_one] at g4
 subst hs1
 have g5 := (g1.add g2 (by omega) g4).congr (g := fun k => 2 * a * bits k) fun k => by (try dsimp only); grind
 have g6 : 0 < max 1 s' := by omega
 rcases Int.lt_or_le 0 a with h | h
 ·exact h
 ·exact ((g5.one g6).not_nonpos (fun k => by
   have := Int.mul_nonneg (show 0 ≤ -(2 * a) by omega) (Int.le_of_lt (bitsI_pos k))
   rw [Int.neg_mul] at this; (try dsimp only); omega)).elim
def exactS (n : Int) : Int := if ((isq n.toNat * isq n.toNat : Nat) : Int) = n then (isq n.toNat : Int) else -1
theorem exactS_neg {n : Int} (h : n < 0) : exactS n = -1 := by
 unfold exactS
 rw [if_neg (by omega)]
theorem root_two_ref {xd a b r s : Int} (hx : numOK xd [(a, 1), (b, r)] = true) (hs : SignOf [(a, 1), (b, r)] s) (h0 : 0 < s) :
  (exactS (a * a - b * b * r) < 0 ∧ rootP xd [(a, 1), (b, r)] = (0, [], 11)) ∨
  (0 ≤ exactS (a * a - b * b * r) ∧ 0 < a - exactS (a * a - b * b * r) ∧ 0 < a + exactS (a * a - b * b * r) ∧ a ≤ 100000 ∧
   rootP xd [(a, 1), (b, r)] = partsR (2 * xd) [(1, (a + exactS (a * a - b * b * r)) * 2 * xd), ((if b < 0 then -1 else 1), (a - exactS (a * a - b * b * r)) * 2 * xd)]) := by
 have hd := numOK_d hx
 have hu := term_nz hx (show (b, r) ∈ [(a, 1), (b, r)] by simp)
 have ha5 := ((numOK_parts hx).2.2.2 (a, 1) (by simp)).1.2.2.2
 unfold exactS
 by_cases hw : ((isq (a * a - b * b * r).toNat * isq (a * a - b * b * r).toNat : Nat) : Int) = a * a - b * b * r
 ·rw [if_pos hw]
  right
  have hw' := hw
  obtain ⟨w, hwe⟩ : ∃ w : Int, (isq (a * a - b * b * r).toNat : Int) = w := ⟨_, rfl⟩
  rw [Int.natCast_mul, hwe] at hw
  have hw0 : 0 ≤ w := by omega
  have ha := whole_pos hx hs h0 (by rw [← hw]; exact Int.mul_nonneg hw0 hw0)
  have hbb : 0 < b * b * r := Int.mul_pos (by
   rcases Int.lt_or_gt_of_ne hu.1 with h | h
   ·exact Int.mul_pos_of_neg_of_neg h h
   ·exact Int.mul_pos h h) (by have := hu.2; dsimp only at this; omega)
  have hwa := pos_of_sq hw0 hbb hw ha
  have hr : rootP xd [(a, 1), (b, r)] = root2 xd a b r := by unfold rootP; dsimp only; rw [if_pos rfl]
  rw [hr]
  unfold root2
  rw [if_pos hw', hwe]
  exact ⟨hw0, by omega, by omega, ha5.2, (partsR_two (by omega) (by omega) hd).symm⟩
 ·rw [if_neg hw]
  left
  refine ⟨by decide, ?_⟩
  have hr : rootP xd [(a, 1), (b, r)] = root2 xd a b r := by unfold rootP; dsimp only; rw [if_pos rfl]
  rw [hr]
  unfold root2
  rw [if_neg hw]
end Go.Proofs.YthkblgglmohciaaGreatDoor
namespace Go.Proofs.YthkblgglmohciaaGreatDoor
open Go Go.RowKit
set_option maxHeartbeats 4000000 in
set_option maxRecDepth 100000 in
theorem exact10_any (n : Nat) (w : World) (hn : n ≤ 1000000000000) : Calls Tryz.prog 36 #[.int .i64 n] w fun e w' => e = .returned (.int .i64 (exactS n)) ∧ Below w.heap.size w w' := by
 go_enter Tryz.func36, Tryz.ntmps36
 go_wp2
 go_loopw [3, 4] (fun a b W => ∃ lo hi : Int, a = .int .i64 lo ∧ b = .int .i64 hi ∧ -1 ≤ lo ∧ lo < hi ∧ hi ≤ 3000000000 ∧ (0 ≤ lo → lo * lo ≤ n) ∧ (n : Int) < hi * hi ∧ Below w.heap.size w W) (fun a b _ => (intOf b - intOf a).toNat)
 case atStart => exact ⟨-1, 3000000000, rfl, rfl, by omega, by omega, by omega, by omega, by omega, Below.refl _ _⟩
 case round =>
  obtain ⟨lo, hi, rfl, rfl, h1, h2, h3, h4, h5, hb⟩ := hrel
  have HB := hide hb
  clear hb
  by_cases hgt : 1 < hi - lo
  ·obtain ⟨mid, hmid⟩ : ∃ m, (lo + hi).tdiv 2 = m := ⟨_, rfl⟩
   have hm2 : 2 * mid ≤ lo + hi ∧ lo + hi ≤ 2 * mid + 1 := by rw [← hmid, Int.tdiv_eq_ediv_of_nonneg (by omega)]; omega
   have hmr : lo < mid ∧ mid < hi ∧ 0 ≤ mid := by omega
   have hsq := mul_bd (a := mid) (b := mid) (A := 3000000000) (B := 3000000000) (by omega) (by omega)
   obtain ⟨sq, hsqe⟩ : ∃ s, mid * mid = s := ⟨_, rfl⟩
   rw [hsqe] at hsq
   have HSQ := hide hsqe
   have H4 := hide h4
   have H5 := hide h5
   clear h4 h5
   by_cases hle : sq ≤ (n : Int)
   ·go_wp2
    exact ⟨⟨mid, hi, rfl, rfl, by omega, by omega, h3, fun _ => by rw [HSQ.out]; exact hle, H5.out, HB.out⟩, by simp only [intOf]; omega⟩
   ·go_wp2
    exact ⟨⟨lo, mid, rfl, rfl, h1, by omega, by omega, H4.out, by rw [HSQ.out]; omega, HB.out⟩, by simp only [intOf]; omega⟩
  ·obtain rfl : hi = lo + 1 := by omega
   have hlo : 0 ≤ lo := by
    rcases Int.lt_or_le lo 0 with h | h
    ·obtain rfl : lo = -1 := by omega
     simp at h5; omega
    ·exact h
   obtain ⟨r, rfl⟩ := Int.eq_ofNat_of_zero_le hlo
   have g1 : r * r ≤ n := by have := h4 hlo; exact_mod_cast this
   have g2 : n < (r + 1) * (r + 1) := by exact_mod_cast h5
   have hr := isq_eq g1 g2
   have HE : Hid (exactS n = if ((r * r : Nat) : Int) = (n : Int) then (r : Int) else -1) := hide (by unfold exactS; rw [Int.toNat_natCast, ← hr])
   obtain ⟨sq, hsq⟩ : ∃ s : Nat, r * r = s := ⟨_, rfl⟩
   have hsqi : (r : Int) * (r : Int) = (sq : Int) := by rw [← hsq, Int.natCast_mul]
   rw [hsq] at HE g1
   clear h4 h5 g2 hr hsq
   by_cases he : (sq : Int) = (n : Int)
   ·have HF := hide (HE.out.trans (if_pos he))
    have heb : ((sq : Int) == (n : Int)) = true := by simpa using he
    clear HE he
    go_wp2
    go_ret
    exact ⟨by rw [HF.out]; rfl, HB.out⟩
   ·have HF := hide (HE.out.trans (if_neg he))
    have heb : ((sq : Int) == (n : Int)) = false := by simpa using he
    clear HE he
    go_wp2
    go_ret
    exact ⟨by rw [HF.out]; rfl, HB.out⟩
end Go.Proofs.YthkblgglmohciaaGreatDoor
namespace Go.Proofs.YthkblgglmohciaaGreatDoor
open Go Go.RowKit
def NumPostQ (w : World) (s : Int × List (Int × Int) × Int) (e : Ending) (w' : World) : Prop :=
 ∃ (A : Option Addr) (n c : Nat), e = .returned (.tuple #[.agg #[.int .i64 s.1, .slice A n c], .int .i64 s.2.2]) ∧ TermsQ w' w'.heap.size A n c s.2.1 ∧ Below w.heap.size w w'
def RefRootPost (w : World) (xd : Int) (xt : List (Int × Int)) (e : Ending) (w' : World) : Prop := ∃ res, RootRes xd xt res ∧ NumPostQ w res e w'
theorem numOK_nil {xd : Int} (h : numOK xd [] = true) : xd = 1 := by
 have h0 := numOK_d h
 unfold numOK at h
 simp only [Bool.and_eq_true, decide_eq_true_eq] at h
 have h1 := h.2
 have h2 : (gcdL [xd] : Nat) = xd.natAbs := by unfold gcdL; simp
 rw [List.map_nil, h2] at h1
 omega
theorem parts_bd {c n : Int} (hc : -1 ≤ c ∧ c ≤ 1) (hn : 1 ≤ n ∧ n ≤ 100000000000) : -100000000000 ≤ c * ((splitN n.toNat).1 : Int) ∧ c * ((splitN n.toNat).1 : Int) ≤ 100000000000 := by
 have h := (splitN_le n.toNat (by omega)).1
 have := mul_bd (a := c) (b := ((splitN n.toNat).1 : Int)) (A := 1) (B := 100000000000) (by omega) ⟨by omega, by omega⟩
 omega
theorem exactS_bd {n : Int} (h : n ≤ 10000000000) : -1 ≤ exactS n ∧ exactS n ≤ 100000 := by
 unfold exactS
 split
 ·have h1 := isq_le n.toNat
  refine ⟨by omega, ?_⟩
  rcases Nat.lt_or_ge 100000 (isq n.toNat) with h2 | h2
  ·have := Nat.mul_le_mul h2 h2; omega
  ·omega
 ·omega
theorem lit_one (W : World) (a b : Int) : TermsQ (W.alloc (.cells #[.int .i64 a, .int .i64 b] 52)) (W.heap.size + 1) (some ⟨W.heap.size, 0, none⟩) 1 1 [(a, b)] := by
 have h := Rd.of_own (World.ownsRow_lit (base := 0) (e := 52) (size := 2) W #[.int .i64 a, .int .i64 b] 1 (Nat.zero_le _) (by unfold maxLen; omega) rfl)
 rw [World.size_alloc] at h
 exact Rq.of h
theorem lit_two (W : World) (a b c d : Int) : TermsQ (W.alloc (.cells #[.int .i64 a, .int .i64 b, .int .i64 c, .int .i64 d] 52)) (W.heap.size + 1) (some ⟨W.heap.size, 0, none⟩) 2 2 [(a, b), (c, d)] := by
 have h := Rd.of_own (World.ownsRow_lit (base := 0) (e := 52) (size := 2) W #[.int .i64 a, .int .i64 b, .int .i64 c, .int .i64 d] 2 (Nat.zero_le _) (by unfold maxLen; omega) rfl)
 rw [World.size_alloc] at h
 exact Rq.of h
set_option maxHeartbeats 16000000 in
set_option maxRecDepth 100000 in
theorem refRoot_any (xd : Int) (xA : Option Addr) (xn xc : Nat) (xt : List (Int × Int)) (B : Nat) (w : World) (hx : TermsQ w B xA xn xc xt) (hB : B ≤ w.heap.size) :
  Calls Tryz.prog 12 #[.agg #[.int .i64 xd, .slice xA xn xc]] w (RefRootPost w xd xt) := by
 obtain ⟨w0, hw0⟩ : ∃ w0, w0 = (w.alloc (.cells #[.int .i64 xd, .slice xA xn xc] 24)).alloc (.cells #[.int .i64 0, .slice none 0 0] 24) := ⟨_, rfl⟩
 have hz0 : w0.heap.size = w.heap.size + 2 := by rw [hw0]; simp
 have h01 : Below w.heap.size w w0 := by rw [hw0]; exact ((Below.refl _ _).alloc (Nat.le_refl _) _).alloc (by simp) _
 have HX0 : Hid (Blk w0 w.heap.size 24 #[.int .i64 xd, .slice xA xn xc]) := hide (by rw [hw0]; exact (Blk.new w _ _).alloc _)
 have HR0 : Hid (Blk w0 (w.heap.size + 1) 24 #[.int .i64 0, .slice none 0 0]) := hide (by
  rw [hw0]
  have h := Blk.new (w.alloc (.cells #[.int .i64 xd, .slice xA xn xc] 24)) 24 #[.int .i64 0, .slice none 0 0]
  rwa [World.size_alloc] at h)
 have HT := hide (fun W (hb : Below w.heap.size w W) => Rq.below hx (hb.mono hB))
 have hxl := hx.len
 subst hxl
 have HNM := hide (refNumber_any xd xA xt.length xc B xt w0 (HT.out _ h01) (by omega))
 have HB0 := hide h01
 clear hx h01
 obtain ⟨x0, x1, _, _⟩ := HX0.out.two
 have hpost : ∀ (W : World) (a : Act) (A : Option Addr) (n c : Nat) (x y : Int) (l : List (Int × Int)), RootRes xd xt (x, l, y) → TermsQ W W.heap.size A n c l → Below w.heap.size w W → Blk W (w.heap.size + 1) 24 #[.int .i64 x, .slice A n c] →
   a.tmps.getD 2 undef = .pointer (some ⟨w.heap.size + 1, 0, none⟩) → a.tmps.getD 3 undef = .int .i64 y → a.defers = [] →
   bodyPost Tryz.prog Tryz.f12 (RefRootPost w xd xt) .ret a W := by
  intro W a A n c x y l e1 e2 e3 e4 e5 e6 e7
  refine bodyPost_cell_tmp (p := 2) (u := 3) (ty := 24) rfl e5 e4 Tryz.underlying24 rfl Tryz.sizeNumber e7 ?_
  rw [e6]
  exact ⟨(x, l, y), e1, A, n, c, rfl, e2, e3⟩
 have HPOST := hide hpost
 clear hpost
 cases hok : numOK xd xt
 ·rw [hok] at HNM
  have HP : Hid (RootRes xd xt (0, [], 2)) := hide (.inl ⟨hok, rfl⟩)
  clear hok
  go_enter Tryz.func12, Tryz.ntmps12
  go_upto_region 1 with fail
  rw [← hw0]
  clear hw0
  go_wp2_with (first
   | (go_at_call 15; refine HNM.out.mono ?_; rintro e w1 ⟨rfl, hb1⟩
      have HR1 := hide (HR0.out.below hb1 (by omega)); have HB1 := hide (HB0.out.trans (hb1.mono (by omega)))
      obtain ⟨r0, r1, rf0, rf1⟩ := HR1.out.two
      clear hb1))
  exact HPOST.out _ _ none 0 0 0 2 [] HP.out (Rq.empty _ _ _ _) (Below.setCell (Below.setCell HB1.out (p := ⟨w.heap.size + 1, 0, none⟩) (by simp) _) (p := ⟨w.heap.size + 1, 1, none⟩) (by simp) _) ((HR1.out.set_ 0 _).set_ 1 _) rfl rfl rfl
 ·rw [hok] at HNM
  obtain ⟨px1, px2, px3, px4⟩ := numOK_parts hok
  have HPX := hide px4
  have HOK := hide hok
  clear hok px4
  go_enter Tryz.func12, Tryz.ntmps12
  go_upto_region 1 with fail
  rw [← hw0]
  clear hw0
  go_upto_region 3 with (first
   | (go_at_call 15; refine HNM.out.mono ?_; rintro e w1 ⟨rfl, hb1⟩
      have HR1 := hide (HR0.out.below hb1 (by omega)); have HX1 := hide (HX0.out.below hb1 (by omega)); have HB1 := hide (HB0.out.trans (hb1.mono (by omega))); have hz1 := hb1.size
      clear hb1))
  clear x0 x1 HR0 HX0 HB0 HNM
  obtain ⟨x0, x1, _, _⟩ := HX1.out.two
  have HSG := hide (sign10_any xA xt.length xc B xt w1 (HT.out _ HB1.out) (by have := HB1.out.size; omega) (fun t ht => by have := (HPX.out t ht).1.2.2.2; omega) (numOK_roots HOK.out).1 (numOK_roots HOK.out).2 (by omega))
  go_wp2_with fail
  refine HSG.out.mono ?_
  rintro e w2 ⟨s, rfl, hs, hb2⟩
  have HS := hide hs
  have HR2 := hide (HR1.out.below hb2 (by omega))
  have HX2 := hide (HX1.out.below hb2 (by omega))
  have HB2 := hide (HB1.out.trans (hb2.mono (by omega)))
  have hz2 : w.heap.size + 2 ≤ w2.heap.size := by have := hb2.size; omega
  clear x0 x1 HR1 HX1 HB1 HSG hs hb2
  obtain ⟨x0, x1, _, _⟩ := HX2.out.two
  obtain ⟨r0, r1, rf0, rf1⟩ := HR2.out.two
  have HBS := hide (fun x y => Below.setCell (Below.setCell HB2.out (p := ⟨w.heap.size + 1, 0, none⟩) (by simp) x) (p := ⟨w.heap.size + 1, 1, none⟩) (by simp) y)
  rcases Int.lt_trichotomy s 0 with hs0 | hs0 | hs0
  ·have HP : Hid (RootRes xd xt (0, [], 3)) := hide (.inr ⟨HOK.out, s, HS.out, .inl ⟨hs0, rfl⟩⟩)
   go_wp2
   exact HPOST.out _ _ none 0 0 0 3 [] HP.out (Rq.empty _ _ _ _) (HBS.out _ _) ((HR2.out.set_ 0 _).set_ 1 _) rfl rfl rfl
  ·subst hs0
   have HP : Hid (RootRes xd xt (1, [], 0)) := hide (.inr ⟨HOK.out, 0, HS.out, .inr (.inl ⟨rfl, rfl⟩)⟩)
   have hnil := (sq_sign HOK.out (.inl ⟨HOK.out, HS.out, rfl⟩)).2.2.2.1 rfl
   subst hnil
   obtain rfl := numOK_nil HOK.out
   have HT2 := hide (HT.out _ (HBS.out (.int .i64 1) (.slice xA 0 xc)))
   simp only [List.length_nil] at *
   go_wp2
   exact HPOST.out _ _ xA 0 xc 1 0 [] HP.out (Rq.more HT2.out (by simp; omega)) (HBS.out _ _) ((HR2.out.set_ 0 _).set_ 1 _) rfl rfl rfl
  ·have HP := hide (fun (res : Int × List (Int × Int) × Int) (h : rootP xd xt = res) => (show RootRes xd xt res from .inr ⟨HOK.out, s, HS.out, .inr (.inr ⟨hs0, h.symm⟩)⟩))
   have hne := HS.out.pos_ne hs0
   obtain ⟨t, ts, rfl⟩ := List.exists_cons_of_ne_nil hne
   clear hne
   obtain ⟨ad, rfl, hadb, hc0, hc1⟩ := TermsQ.at_ (HT.out _ HB2.out) (i := 0) (by simp)
   obtain ⟨co, ro⟩ := t
   simp only [Nat.zero_mul, List.getElem_cons_zero, add_zero_] at hc0 hc1
   have hlen1 : ((co, ro) :: ts).length = ts.length + 1 := rfl
   have hcb : -100000 ≤ co ∧ co ≤ 100000 := (HPX.out (co, ro) (by simp)).1.2.2.2
   have hs1 : ¬ s < 0 := by omega
   by_cases hr1 : ro = 1
   ·subst hr1
    rcases ts with _ | ⟨u, _ | ⟨v, vs⟩⟩
    ·have hP1 : rootP xd [(co, 1)] = overS (intoS [] co xd 1) xd := by unfold rootP; simp
     have hco : 0 < co := by
      rcases sign_one HS.out with ⟨_, h⟩ | ⟨h, _⟩ | ⟨_, h⟩
      ·omega
      ·exact h
      ·omega
     rw [← partsR_one hco (by omega)] at hP1
     have hm1 := mul_bd (a := co) (b := xd) (A := 100000) (B := 100000) hcb ⟨by omega, by omega⟩
     have hm0 : 1 ≤ co * xd := by have := Int.mul_pos hco (show 0 < xd by omega); omega
     have hpl := parts_bd (c := 1) (n := co * xd) (by omega) (by omega)
     obtain ⟨p, hp⟩ : ∃ p, co * xd = p := ⟨_, rfl⟩
     rw [hp] at hP1 hm1 hm0 hpl
     have HPR := hide (HP.out _ hP1)
     have HPP := hide (refParts_any xd 100000000000 (some ⟨w2.heap.size, 0, none⟩) 1 1 (w2.heap.size + 1) [(1, p)] (w2.alloc (.cells #[.int .i64 1, .int .i64 p] 52)) (lit_one w2 1 p) (by simp) (by omega) (by omega) (by simp) (fun t ht => by rw [List.mem_singleton.1 ht]; dsimp only; omega) (by decide) (fun t ht => by rw [List.mem_singleton.1 ht]; exact hpl) (by simp))
     have HXA := hide ((HX2.out.alloc (.cells #[.int .i64 1, .int .i64 p] 52)).two)
     have HRA := hide (HR2.out.alloc (.cells #[.int .i64 1, .int .i64 p] 52))
     have HBA := hide (HB2.out.alloc HB2.out.size (.cells #[.int .i64 1, .int .i64 p] 52))
     generalize partsR xd [(1, p)] = res at *
     obtain ⟨s1, s2, s3⟩ := res
     have hp9 : p ≤ 10000000000 := by omega
     clear hP1 HP hpl hm1
     go_wp2_with (first
      | (go_at_call 35; refine HPP.out.mono ?_; rintro e w4 ⟨A4, n4, c4, rfl, ho4, hb4⟩
         have hz4 := hb4.size
         rw [World.size_alloc] at hb4 ho4 hz4
         have HR4 := hide (HRA.out.below hb4 (by omega)); have HB4 := hide (HBA.out.trans (hb4.mono (by omega))); have HO4 := hide ho4
         obtain ⟨q0, q1, qf0, qf1⟩ := HR4.out.two
         clear ho4 hb4))
     have ho2 := own_far (own_far HO4.out (p := ⟨w.heap.size + 1, 0, none⟩) (by show w.heap.size + 1 < _; omega) (.int .i64 s1)) (p := ⟨w.heap.size + 1, 1, none⟩) (by show w.heap.size + 1 < _; omega) (.slice A4 n4 c4)
     exact HPOST.out _ _ A4 n4 c4 s1 s3 s2 HPR.out (Rq.of (Rd.of_own ho2)) (Below.setCell (Below.setCell HB4.out (p := ⟨w.heap.size + 1, 0, none⟩) (by simp) _) (p := ⟨w.heap.size + 1, 1, none⟩) (by simp) _) ((HR4.out.set_ 0 _).set_ 1 _) rfl rfl rfl
    ·obtain ⟨cb, rb⟩ := u
     have hub := (HPX.out (cb, rb) (by simp)).1
     have hbb : -100000 ≤ cb ∧ cb ≤ 100000 := hub.2.2.2
     have hrb : 1 ≤ rb ∧ rb ≤ 1000 := ⟨hub.1, hub.2.1⟩
     have hl2 : ([(co, (1 : Int)), (cb, rb)] : List (Int × Int)).length = 2 := rfl
     have hl2i : (([(co, (1 : Int)), (cb, rb)] : List (Int × Int)).length : Int) = 2 := rfl
     have HREF := hide (root_two_ref HOK.out HS.out hs0)
     obtain ⟨ad2, had2, _, hd0, hd1⟩ := TermsQ.at_ (HT.out _ HB2.out) (i := 1) (by simp)
     injection had2 with had2
     subst had2
     simp only [List.getElem_cons_succ, List.getElem_cons_zero, Nat.one_mul] at hd0 hd1
     rw [show ad.add 2 = ⟨ad.block, ad.off + 2, none⟩ by unfold Addr.add; simp] at hd0 hd1
     dsimp only at hd0 hd1
     have m1 := mul_bd hcb hcb
     have m2 := mul_bd hbb hbb
     have m3 := mul_bd m2 (b := rb) (B := 1000) ⟨by omega, by omega⟩
     have m4 : 0 ≤ cb * cb * rb := Int.mul_nonneg (by rcases Int.le_total 0 cb with h | h; exact Int.mul_nonneg h h; exact Int.mul_nonneg_of_nonpos_of_nonpos h h) (by omega)
     obtain ⟨sq, hsq⟩ : ∃ sq, co * co - cb * cb * rb = sq := ⟨_, rfl⟩
     have hsb : -20000000000000 ≤ sq ∧ sq ≤ 10000000000 := by omega
     rw [hsq] at HREF
     have hp1 : -9000000000000000000 ≤ co * co ∧ co * co ≤ 9000000000000000000 := by omega
     have hp2 : -9000000000000000000 ≤ cb * cb ∧ cb * cb ≤ 9000000000000000000 := by omega
     have hp3 : -9000000000000000000 ≤ cb * cb * rb ∧ cb * cb * rb ≤ 9000000000000000000 := by omega
     have heb := exactS_bd hsb.2
     have HEN := hide (@exactS_neg sq)
     have HEX := hide (fun W (h : 0 ≤ sq) => (show Calls Tryz.prog 36 #[.int .i64 sq] W fun e w' => e = .returned (.int .i64 (exactS sq)) ∧ Below W.heap.size W w' by
      have h1 := exact10_any sq.toNat W (by omega)
      rw [Int.toNat_of_nonneg h] at h1
      exact h1))
     obtain ⟨ex, hex⟩ : ∃ ex, exactS sq = ex := ⟨_, rfl⟩
     rw [hex] at HREF heb HEN HEX
     have HUA := hide (Blk.new w2 52 #[.int .i64 cb, .int .i64 rb])
     have HXA := hide (HX2.out.alloc (.cells #[.int .i64 cb, .int .i64 rb] 52))
     have HRA := hide (HR2.out.alloc (.cells #[.int .i64 cb, .int .i64 rb] 52))
     have HBA := hide (HB2.out.alloc HB2.out.size (.cells #[.int .i64 cb, .int .i64 rb] 52))
     clear hex m1 m2 m3 m4
     go_upto_region 13 with fail
     obtain ⟨X5, hX5⟩ : ∃ X, X = w2.heap.size := ⟨_, rfl⟩
     have hX5w : w.heap.size + 2 ≤ X5 := by omega
     have hza : (w2.alloc (.cells #[.int .i64 cb, .int .i64 rb] 52)).heap.size = X5 + 1 := by rw [World.size_alloc, hX5]
     rw [← hX5] at HUA ⊢
     clear hX5 x0 x1 r0 r1 rf0 rf1 hc0 hc1 hd0 hd1 HX2 HR2 HB2 HBS
     generalize w2.alloc (.cells #[.int .i64 cb, .int .i64 rb] 52) = wa at *
     obtain ⟨u0, u1, _, _⟩ := HUA.out.two
     have HFAIL := hide (fun (h : ex < 0) => HP.out _ ((HREF.out.resolve_right (fun h' => absurd h'.1 (by omega))).2))
     by_cases hsq0 : 0 ≤ sq
     ·
      go_upto_region 17 with (first
       | (go_at_call 36; refine (HEX.out _ hsq0).mono ?_; rintro e w3 ⟨rfl, hb3⟩; have hz3 := hb3.size; have HU3 := hide (HUA.out.below hb3 (by omega)); have HX3 := hide (HXA.out.below hb3 (by omega)); have HR3 := hide (HRA.out.below hb3 (by omega)); have HB3 := hide (HBA.out.trans (hb3.mono (by omega))); clear hb3))
      clear u0 u1 HUA HXA HRA HBA
      rw [hza] at hz3
      by_cases hex0 : ex < 0
      ·have HPF := hide (HFAIL.out hex0)
       obtain ⟨r0, r1, rf0, rf1⟩ := HR3.out.two
       clear HREF HFAIL
       go_wp2
       exact HPOST.out _ _ none 0 0 0 11 [] HPF.out (Rq.empty _ _ _ _) (Below.setCell (Below.setCell HB3.out (p := ⟨w.heap.size + 1, 0, none⟩) (by simp) _) (p := ⟨w.heap.size + 1, 1, none⟩) (by simp) _) ((HR3.out.set_ 0 _).set_ 1 _) rfl rfl rfl
      ·obtain ⟨g1, g2, g3, g4, g5⟩ := HREF.out.resolve_left (fun h' => hex0 h'.1)
       obtain ⟨u0, u1, _, _⟩ := HU3.out.two
       have HPR := hide (HP.out _ g5)
       obtain ⟨sg, hsg⟩ : ∃ sg : Int, (if cb < 0 then (-1 : Int) else 1) = sg := ⟨_, rfl⟩
       rw [hsg] at HPR
       have hsgb : -1 ≤ sg ∧ sg ≤ 1 := by rw [← hsg]; split <;> omega
       have HSGE := hide hsg
       clear hsg g5 HREF HFAIL HP HEX HEN
       have n1 := mul_bd (a := (co + ex) * 2) (b := xd) (A := 400000) (B := 100000) (by omega) ⟨by omega, by omega⟩
       have n2 := mul_bd (a := (co - ex) * 2) (b := xd) (A := 400000) (B := 100000) (by omega) ⟨by omega, by omega⟩
       have n3 := Int.mul_pos (show 0 < (co + ex) * 2 by omega) (show 0 < xd by omega)
       have n4 := Int.mul_pos (show 0 < (co - ex) * 2 by omega) (show 0 < xd by omega)
       obtain ⟨p, hp⟩ : ∃ p, (co + ex) * 2 * xd = p := ⟨_, rfl⟩
       obtain ⟨q, hq⟩ : ∃ q, (co - ex) * 2 * xd = q := ⟨_, rfl⟩
       rw [hp] at HPR n1 n3
       rw [hq] at HPR n2 n4
       have hpl := parts_bd (c := 1) (n := p) (by omega) (by omega)
       have hql := parts_bd (c := sg) (n := q) hsgb (by omega)
       have HPP := hide (fun W => refParts_any (2 * xd) 100000000000 (some ⟨W.heap.size, 0, none⟩) 2 2 (W.heap.size + 1) [(1, p), (sg, q)] (W.alloc (.cells #[.int .i64 1, .int .i64 p, .int .i64 sg, .int .i64 q] 52)) (lit_two W 1 p sg q) (by simp) (by omega) (by omega) (by simp) (fun t ht => by
        rcases List.mem_cons.1 ht with rfl | ht
        ·dsimp only; omega
        ·rw [List.mem_singleton.1 ht]; dsimp only; omega) (by decide) (fun t ht => by
        rcases List.mem_cons.1 ht with rfl | ht
        ·exact hpl
        ·rw [List.mem_singleton.1 ht]; exact hql) (by simp))
       clear hpl hql
       generalize partsR (2 * xd) [(1, p), (sg, q)] = res at *
       obtain ⟨s1, s2, s3⟩ := res
       have hw1 : (2 : Int) * xd ≤ 200000 := by omega
       obtain ⟨x0, x1, _, _⟩ := HX3.out.two
       have HXL := hide (fun o => (HX3.out.alloc o).two)
       have HRL := hide (HR3.out.alloc (.cells #[.int .i64 1, .int .i64 p, .int .i64 sg, .int .i64 q] 52))
       have HBL := hide (HB3.out.alloc HB3.out.size (.cells #[.int .i64 1, .int .i64 p, .int .i64 sg, .int .i64 q] 52))
       have HPQ := hide (HPP.out w3)
       by_cases hcb0 : cb < 0
       ·have hsg2 : sg = -1 := by have h := HSGE.out; rw [if_pos hcb0] at h; exact h.symm
        subst hsg2
        clear HPP
        go_wp2_with (first
         | (go_at_call 35; refine HPQ.out.mono ?_; rintro e w4 ⟨A4, n4_, c4, rfl, ho4, hb4⟩
            have hz4 := hb4.size
            rw [World.size_alloc] at hb4 ho4 hz4
            have HR4 := hide (HRL.out.below hb4 (by omega)); have HB4 := hide (HBL.out.trans (hb4.mono (by omega))); have HO4 := hide ho4
            obtain ⟨q0, q1, qf0, qf1⟩ := HR4.out.two
            clear ho4 hb4))
        have ho2 := own_far (own_far HO4.out (p := ⟨w.heap.size + 1, 0, none⟩) (by show w.heap.size + 1 < _; omega) (.int .i64 s1)) (p := ⟨w.heap.size + 1, 1, none⟩) (by show w.heap.size + 1 < _; omega) (.slice A4 n4_ c4)
        exact HPOST.out _ _ A4 n4_ c4 s1 s3 s2 HPR.out (Rq.of (Rd.of_own ho2)) (Below.setCell (Below.setCell HB4.out (p := ⟨w.heap.size + 1, 0, none⟩) (by simp) _) (p := ⟨w.heap.size + 1, 1, none⟩) (by simp) _) ((HR4.out.set_ 0 _).set_ 1 _) rfl rfl rfl
       ·have hsg2 : sg = 1 := by have h := HSGE.out; rw [if_neg hcb0] at h; exact h.symm
        subst hsg2
        clear HPP
        go_wp2_with (first
         | (go_at_call 35; refine HPQ.out.mono ?_; rintro e w4 ⟨A4, n4_, c4, rfl, ho4, hb4⟩
            have hz4 := hb4.size
            rw [World.size_alloc] at hb4 ho4 hz4
            have HR4 := hide (HRL.out.below hb4 (by omega)); have HB4 := hide (HBL.out.trans (hb4.mono (by omega))); have HO4 := hide ho4
            obtain ⟨q0, q1, qf0, qf1⟩ := HR4.out.two
            clear ho4 hb4))
        have ho2 := own_far (own_far HO4.out (p := ⟨w.heap.size + 1, 0, none⟩) (by show w.heap.size + 1 < _; omega) (.int .i64 s1)) (p := ⟨w.heap.size + 1, 1, none⟩) (by show w.heap.size + 1 < _; omega) (.slice A4 n4_ c4)
        exact HPOST.out _ _ A4 n4_ c4 s1 s3 s2 HPR.out (Rq.of (Rd.of_own ho2)) (Below.setCell (Below.setCell HB4.out (p := ⟨w.heap.size + 1, 0, none⟩) (by simp) _) (p := ⟨w.heap.size + 1, 1, none⟩) (by simp) _) ((HR4.out.set_ 0 _).set_ 1 _) rfl rfl rfl
     ·have hex0 := HEN.out (by omega)
      obtain ⟨r0, r1, rf0, rf1⟩ := HRA.out.two
      have HPF := hide (HFAIL.out (by omega))
      clear HREF HFAIL HEX HEN hex0
      go_wp2
      exact HPOST.out _ _ none 0 0 0 11 [] HPF.out (Rq.empty _ _ _ _) (Below.setCell (Below.setCell HBA.out (p := ⟨w.heap.size + 1, 0, none⟩) (by simp) _) (p := ⟨w.heap.size + 1, 1, none⟩) (by simp) _) ((HRA.out.set_ 0 _).set_ 1 _) rfl rfl rfl
    ·have HPF := hide (HP.out (0, [], 11) (by unfold rootP; rfl))
     have hl3 : (((co, (1 : Int)) :: u :: v :: vs).length : Int) = (vs.length : Int) + 3 := by simp; omega
     have hl3n : ((co, (1 : Int)) :: u :: v :: vs).length = vs.length + 3 := by simp
     clear HP
     go_wp2
     exact HPOST.out _ _ none 0 0 0 11 [] HPF.out (Rq.empty _ _ _ _) (HBS.out _ _) ((HR2.out.set_ 0 _).set_ 1 _) rfl rfl rfl
   ·have HPF := hide (HP.out (0, [], 11) (by
     unfold rootP
     rcases ts with _ | ⟨u, _ | ⟨v, vs⟩⟩
     ·dsimp only; rw [if_neg hr1]
     ·dsimp only; rw [if_neg hr1]
     ·rfl))
    have hrb : (ro != 1) = true := by simpa using hr1
    clear HP
    go_wp2
    exact HPOST.out _ _ none 0 0 0 11 [] HPF.out (Rq.empty _ _ _ _) (HBS.out _ _) ((HR2.out.set_ 0 _).set_ 1 _) rfl rfl rfl
end Go.Proofs.YthkblgglmohciaaGreatDoor
namespace Go.Proofs.YthkblgglmohciaaGreatDoor
open Go Go.RowKit
def VrQ (X : Nat) (d : Int) (A : Option Addr) (n c : Nat) (ts : List (Int × Int)) (W : World) : Prop := Blk W X 24 #[.int .i64 d, .slice A n c] ∧ ∃ B, B ≤ W.heap.size ∧ TermsQ W B A n c ts
instance {X : Nat} {d : Int} {A : Option Addr} {n c : Nat} {ts : List (Int × Int)} : Kept (VrQ X d A n c ts) := ⟨fun _ _ h hb => ⟨h.1.below hb h.1.lt, h.2.elim fun B h2 => ⟨B, Nat.le_trans h2.1 hb.size, Rq.below h2.2 (hb.mono h2.1)⟩⟩⟩
theorem VrQ.read {X : Nat} {d : Int} {A : Option Addr} {n c : Nat} {ts : List (Int × Int)} {W : World} (h : VrQ X d A n c ts W) : TermsQ W W.heap.size A n c ts := by
 obtain ⟨_, B, hB, h2⟩ := h
 exact Rq.more h2 hB
theorem VrQ.new {W : World} {d : Int} {A : Option Addr} {n c : Nat} {ts : List (Int × Int)} (h : TermsQ W W.heap.size A n c ts) : VrQ W.heap.size d A n c ts (W.alloc (.cells #[.int .i64 d, .slice A n c] 24)) := ⟨Blk.new W _ _, W.heap.size, by simp, Rq.alloc h (Nat.le_refl _) _⟩
theorem RootRes.unique {xd : Int} {xt : List (Int × Int)} {r r' : Int × List (Int × Int) × Int} (h : RootRes xd xt r) (h' : RootRes xd xt r') : r = r' := by
 rcases h with ⟨h1, h2⟩ | ⟨h1, s, hs, h2⟩
 ·rcases h' with ⟨_, h4⟩ | ⟨h3, _⟩
  ·rw [h2, h4]
  ·rw [h1] at h3; cases h3
 ·rcases h' with ⟨h3, _⟩ | ⟨_, s', hs', h4⟩
  ·rw [h1] at h3; cases h3
  ·obtain rfl := hs.unique hs'
   rcases h2 with ⟨g, rfl⟩ | ⟨g, rfl⟩ | ⟨g, rfl⟩ <;> rcases h4 with ⟨k, rfl⟩ | ⟨k, rfl⟩ | ⟨k, rfl⟩ <;> first | rfl | omega
set_option maxHeartbeats 16000000 in
set_option maxRecDepth 100000 in
theorem roots_any (xd : Int) (A : Option Addr) (n c : Nat) (xt : List (Int × Int)) (w : World) (hx : TermsQ w w.heap.size A n c xt)
  (hE : ErrVars w) (hM : MaxV w) (htab : Lib.TabIs Tryz.prog w "internal/strconv.uint64pow10" .u64 Lib.pow10Tab) :
  Calls Tryz.prog 3 #[.agg #[.int .i64 xd, .slice A n c]] w fun e w' => e = .returned (.bool true) ∧ Below w.heap.size w w' := by
 obtain ⟨gp, hgp⟩ := Option.isSome_iff_exists.1 Tryz.pow10g
 have HK : Hid (∀ W, Below w.heap.size w W → Calls Tryz.prog 9 #[] W fun e w' => e = .returned (.bool true) ∧ Below W.heap.size W w') := hide (fun W hW => known1_any W (hE.below hW (Nat.le_refl _)) (hM.below hW (Nat.le_refl _)) (TabIs_below_ hgp htab hW))
 have hl := hx.len
 subst hl
 have hmx := Rq.nmax hx
 have HP := hide (fun W (hb : Below w.heap.size w W) => Rq.below hx hb)
 have HLG := hide (fun W => long1_any xd A xt.length c W (by omega))
 clear hx hE hM htab hgp
 go_enter Tryz.func3, Tryz.ntmps3
 go_upto_region 1 with fail
 have HS : Hid ((Below w.heap.size w (w.alloc (.cells #[.int .i64 xd, .slice A xt.length c] 24)) ∧ w.heap.size ≤ (w.alloc (.cells #[.int .i64 xd, .slice A xt.length c] 24)).heap.size) ∧ Blk (w.alloc (.cells #[.int .i64 xd, .slice A xt.length c] 24)) w.heap.size 24 #[.int .i64 xd, .slice A xt.length c]) := hide ⟨⟨(Below.refl _ _).alloc (Nat.le_refl _) _, by simp⟩, Blk.new w _ _⟩
 obtain ⟨X1, hX1⟩ : ∃ X, X = w.heap.size := ⟨_, rfl⟩
 rw [show Blk (w.alloc (.cells #[.int .i64 xd, .slice A xt.length c] 24)) w.heap.size 24 #[.int .i64 xd, .slice A xt.length c] ↔ Blk (w.alloc (.cells #[.int .i64 xd, .slice A xt.length c] 24)) X1 24 #[.int .i64 xd, .slice A xt.length c] by rw [hX1]] at HS
 rw [← hX1] at ⊢
 clear hX1
 generalize w.alloc (.cells #[.int .i64 xd, .slice A xt.length c] 24) = W1 at *
 obtain ⟨x0, x1, _, _⟩ := HS.out.2.two
 have HLG1 := hide (HLG.out W1)
 by_cases h8 : 8 < xt.length
 case' pos =>
  rw [decide_eq_true h8] at HLG1
  go_wp2_with (first
   | (go_at_call 8; refine HLG1.out.mono ?_; rintro e w1 ⟨rfl, hb1⟩
      have HB1 := hide (HS.out.1.1.trans (hb1.mono HS.out.1.2)); have hz1 := HB1.out.size
      clear hb1)
   | (go_at_call 9; refine (HK.out _ HB1.out).mono ?_; rintro e wz ⟨rfl, hbz⟩
      have HBe := hide (HB1.out.trans (hbz.mono hz1))
      clear hbz))
  all_goals
   go_ret
   exact ⟨rfl, HBe.out⟩
 rw [decide_eq_false h8] at HLG1
 have HOWN := hide (fun W (hb : Below w.heap.size w W) (hB : w.heap.size ≤ W.heap.size) => own1_any xd A xt.length c w.heap.size xt W (HP.out W hb) hB (by omega))
 clear HLG h8
 go_upto_region 3 with (first
  | (go_at_call 8; refine (HLG1.out).mono ?_; rintro e w101 ⟨rfl, hb⟩
     have HS_0 := hide (Kept.keep (S := fun W => ((Below w.heap.size w W ∧ w.heap.size ≤ W.heap.size) ∧ Blk W X1 24 #[.int .i64 xd, .slice A xt.length c])) _ _ HS.out hb)
     clear hb))
 clear x0 x1 HLG1
 have HS0 := hide HS_0.out
 clear HS
 have HS := hide HS0.out
 clear HS0
 obtain ⟨x0, x1, _, _⟩ := (HS.out.2).two
 go_upto_region 4 with (first
  | (go_at_call 11; refine (HOWN.out w101 HS.out.1.1 HS.out.1.2).mono ?_; rintro e w102 ⟨A9, n9, c9, rfl, ho, hb⟩
     have HS_0 := hide (Kept.keep (S := fun W => ((Below w.heap.size w W ∧ w.heap.size ≤ W.heap.size) ∧ Blk W X1 24 #[.int .i64 xd, .slice A xt.length c])) _ _ HS.out hb)
     have HC := hide (root_flat xd A9 n9 c9 xt w102.heap.size w102 (Rd.of_own ho) (Nat.le_refl _))
     clear ho
     clear hb)
  | (go_at_call 10; refine (HC.out).mono ?_; rintro e w103 ⟨res, hres, A3, n3, c3, rfl, ho, hb⟩
     have HS_1 := hide (Kept.keep (S := fun W => ((Below w.heap.size w W ∧ w.heap.size ≤ W.heap.size) ∧ Blk W X1 24 #[.int .i64 xd, .slice A xt.length c])) _ _ HS_0.out hb)
     have HO := hide (own_le ho (Nat.zero_le _))
     have HRT := hide hres
     clear ho hres
     clear HC
     clear hb))
 clear x0 x1
 have HS3 := hide (And.intro (Kept.keep (S := fun W => ((Below w.heap.size w W ∧ w.heap.size ≤ W.heap.size) ∧ Blk W X1 24 #[.int .i64 xd, .slice A xt.length c])) _ _ HS_1.out ((Below.refl _ _).alloc (Nat.le_refl _) (.cells #[.int .i64 (res.1), .slice A3 n3 c3] 24))) (Vr.new (d := res.1) HO.out))
 obtain ⟨X3, hX⟩ : ∃ X, X = w103.heap.size := ⟨_, rfl⟩
 rw [← hX] at HS3  ⊢
 clear hX HS_1 HO HS
 generalize w103.alloc (.cells #[.int .i64 (res.1), .slice A3 n3 c3] 24) = W104 at *
 have HS := hide HS3.out
 clear HS3
 try clear HS_0
 obtain ⟨x0, x1, _, _⟩ := (HS.out.1.2).two
 go_upto_region 5 with (first
  | (go_at_call 12; refine (refRoot_any xd A xt.length c xt w.heap.size W104 (HP.out _ HS.out.1.1.1) HS.out.1.1.2).mono ?_; rintro e w105 ⟨res2, hres2, A5, n5, c5, rfl, ht, hb⟩
     have HS_0 := hide (Kept.keep (S := fun W => (((Below w.heap.size w W ∧ w.heap.size ≤ W.heap.size) ∧ Blk W X1 24 #[.int .i64 xd, .slice A xt.length c]) ∧ Vr X3 (res.1) A3 n3 c3 (res.2.1) W)) _ _ HS.out hb)
     obtain rfl := HRT.out.unique hres2
     have HO := hide ht
     clear ht hres2
     clear hb))
 clear x0 x1
 have HS3 := hide (And.intro (Kept.keep (S := fun W => (((Below w.heap.size w W ∧ w.heap.size ≤ W.heap.size) ∧ Blk W X1 24 #[.int .i64 xd, .slice A xt.length c]) ∧ Vr X3 (res.1) A3 n3 c3 (res.2.1) W)) _ _ HS_0.out ((Below.refl _ _).alloc (Nat.le_refl _) (.cells #[.int .i64 res.1, .slice A5 n5 c5] 24))) (VrQ.new (d := res.1) HO.out))
 obtain ⟨X5, hX⟩ : ∃ X, X = w105.heap.size := ⟨_, rfl⟩
 rw [← hX] at HS3 ⊢
 clear hX HS_0 HO HS
 generalize w105.alloc (.cells #[.int .i64 res.1, .slice A5 n5 c5] 24) = W5 at *
 have HS := hide HS3.out
 clear HS3
 obtain ⟨u3, v3, _, _⟩ := (HS.out.1.2.1).two
 obtain ⟨y0, y1, _, _⟩ := (HS.out.2.1).two
 have hce : (res.2.2 == res.2.2) = true := by simp
 go_wp2_with (first
  | (go_at_call 9; refine (HK.out _ HS_0.out.1.1.1.1).mono ?_; rintro e wz ⟨rfl, hbz⟩
     have HBe := hide (HS_0.out.1.1.1.1.trans (hbz.mono HS_0.out.1.1.1.2))
     clear hbz)
  | (go_at_call 13; refine (lawSelf_any res.1 A3 n3 c3 A5 n5 c5 res.2.1 W5.heap.size W5 (Rq.of (terms_own (HS.out.1.2.2))) (VrQ.read HS.out.2) (Nat.le_refl _)).mono ?_; rintro e w106 ⟨rfl, hb⟩
     have HS_0 := hide (Kept.keep (S := fun W => ((((Below w.heap.size w W ∧ w.heap.size ≤ W.heap.size) ∧ Blk W X1 24 #[.int .i64 xd, .slice A xt.length c]) ∧ Vr X3 (res.1) A3 n3 c3 (res.2.1) W) ∧ VrQ X5 res.1 A5 n5 c5 res.2.1 W)) _ _ HS.out hb)
     clear hb))
 all_goals
  go_ret
  exact ⟨rfl, HBe.out⟩
end Go.Proofs.YthkblgglmohciaaGreatDoor
