import Derived.Test.YtloegjlknpioeaaGreatDoorRatAToRatB
import Derived.Test.YtloegjlknpioeaaGreatDoorGreAToGreB
import Derived.Test.YtloegjlknpioeaaGreatDoorMakeAToMakeB
import Derived.Test.YtloegjlknpioeaaGreatDoorSgnToLawA
import Derived.Test.YtloegjlknpioeaaGreatDoorKnown
import Derived.Test.YtloegjlknpioeaaGreatDoorWeakToAppQ
import Derived.Test.YtloegjlknpioeaaGreatDoorFlow
set_option linter.unusedVariables false
set_option linter.unusedSimpArgs false
namespace Go.Proofs.YtloegjlknpioeaaGreatDoor
open Go.RowKit
theorem region_cut {P : Program} {c : Code} {Q : Exit → Act → World → Prop} {a : Act} {w : World} {α : Type} (f : Act → α → Act) (R : α → World → Prop)
  (h1 : c.wp P (fun e a' w' => e = .normal ∧ ∃ x, a' = f a x ∧ R x w') a w) (h2 : ∀ x w', R x w' → Q .normal (f a x) w') : c.wp P Q a w :=
 wp_mono h1 (fun e a' w' h => by
  obtain ⟨he, x, ha, hr⟩ := h
  subst he
  subst ha
  exact h2 x w' hr)
theorem same_rat (xd : Int) (A : Option Addr) (n c : Nat) (xt : List (Int × Int)) (A2 : Option Addr) (n2 c2 : Nat) (B B2 : Nat) (w : World) (hx : Terms w B A n c xt) (hy : Terms w B2 A2 n2 c2 xt) (hB : B ≤ w.heap.size) (hB2 : B2 ≤ w.heap.size) :
  Calls Tryz.prog 25 #[.agg #[.int .i64 xd, .slice A n c], .agg #[.int .i64 xd, .slice A2 n2 c2]] w fun e w' => e = .returned (.bool true) ∧ Below w.heap.size w w' :=
 (lawSame_any xd A n c xt xd A2 n2 c2 xt w.heap.size w (Rd.more hx hB) (Rd.more hy hB2) (Nat.le_refl _)).mono fun e w' ⟨h1, h2⟩ => ⟨by rw [h1]; simp, h2⟩
theorem termsQ_of {w : World} {B n c : Nat} {A : Option Addr} {ts : List (Int × Int)} (h : Terms w B A n c ts) : TermsQ w B A n c ts := Rq.of h
structure RestS (w : World) (B0 : Nat) (W : World) (X7 : Nat) (xd : Int) (A1 : Option Addr) (n1 c1 : Nat) (xt : List (Int × Int)) (X9 : Nat) (wh : Int) (Ao : Option Addr) (co : Nat) (L : List PieceV) (X10 : Nat) (ld : Int) (Al : Option Addr) (nl cl : Nat) (lt : List (Int × Int)) : Prop where
 x : Blk W X7 33 #[.int .i64 xd, .slice A1 n1 c1]
 o : Blk W X9 24 #[.int .i64 wh, .slice Ao L.length co]
 l : Blk W X10 33 #[.int .i64 ld, .slice Al nl cl]
 tx : Terms W B0 A1 n1 c1 xt
 po : PiecesQ W B0 Ao L.length co L
 tl : Terms W B0 Al nl cl lt
 below : Below w.heap.size w W
 base : w.heap.size ≤ B0
 size : B0 ≤ W.heap.size
 l7 : X7 < B0
 l9 : X9 < B0
 l10 : X10 < B0
theorem RestS.under {w : World} {B0 : Nat} {W W' : World} {X7 : Nat} {xd : Int} {A1 : Option Addr} {n1 c1 : Nat} {xt : List (Int × Int)} {X9 : Nat} {wh : Int} {Ao : Option Addr} {co : Nat} {L : List PieceV} {X10 : Nat} {ld : Int} {Al : Option Addr} {nl cl : Nat} {lt : List (Int × Int)}
  (h : RestS w B0 W X7 xd A1 n1 c1 xt X9 wh Ao co L X10 ld Al nl cl lt) (hb : Below B0 W W') : RestS w B0 W' X7 xd A1 n1 c1 xt X9 wh Ao co L X10 ld Al nl cl lt :=
 ⟨h.x.below hb h.l7, h.o.below hb h.l9, h.l.below hb h.l10, Rd.below h.tx hb, h.po.below hb, Rd.below h.tl hb, h.below.trans (hb.mono h.base), h.base, Nat.le_trans h.size hb.size, h.l7, h.l9, h.l10⟩
instance {w : World} {B0 : Nat} {X7 : Nat} {xd : Int} {A1 : Option Addr} {n1 c1 : Nat} {xt : List (Int × Int)} {X9 : Nat} {wh : Int} {Ao : Option Addr} {co : Nat} {L : List PieceV} {X10 : Nat} {ld : Int} {Al : Option Addr} {nl cl : Nat} {lt : List (Int × Int)} : Kept fun W => RestS w B0 W X7 xd A1 n1 c1 xt X9 wh Ao co L X10 ld Al nl cl lt :=
 ⟨fun W W' h hb => h.under (hb.mono h.size)⟩
structure RoundS (w : World) (B0 : Nat) (X7 : Nat) (xd : Int) (A1 : Option Addr) (n1 c1 : Nat) (xt : List (Int × Int)) (X9 : Nat) (wh : Int) (Ao : Option Addr) (co : Nat) (L : List PieceV) (X10 : Nat) (ld : Int) (Al : Option Addr) (nl cl : Nat) (lt : List (Int × Int))
  (X11 : Nat) (sd : Int) (As : Option Addr) (ns cs : Nat) (st : List (Int × Int)) (X14 : Nat) (am : Addr) (cp : Nat) (d : Int) (W : World) : Prop where
 s : RestS w B0 W X7 xd A1 n1 c1 xt X9 wh Ao co L X10 ld Al nl cl lt
 sum : Blk W X11 33 #[.int .i64 sd, .slice As ns cs]
 row : W.ownsRow B0 66 2 (.slice As ns cs) ns (cellsT st)
 p : Blk W X14 80 #[.bool false, .slice (some am) 1 cp]
 m : W.cell? am = some (.int .i64 d)
instance {w : World} {B0 : Nat} {X7 : Nat} {xd : Int} {A1 : Option Addr} {n1 c1 : Nat} {xt : List (Int × Int)} {X9 : Nat} {wh : Int} {Ao : Option Addr} {co : Nat} {L : List PieceV} {X10 : Nat} {ld : Int} {Al : Option Addr} {nl cl : Nat} {lt : List (Int × Int)}
  {X11 : Nat} {sd : Int} {As : Option Addr} {ns cs : Nat} {st : List (Int × Int)} {X14 : Nat} {am : Addr} {cp : Nat} {d : Int} : Kept (RoundS w B0 X7 xd A1 n1 c1 xt X9 wh Ao co L X10 ld Al nl cl lt X11 sd As ns cs st X14 am cp d) :=
 ⟨fun W W' h hb => ⟨h.s.under (hb.mono h.s.size), h.sum.below hb h.sum.lt, own_below h.row hb, h.p.below hb h.p.lt, (hb.cell (World.block_lt_of_cell? W am h.m)).trans h.m⟩⟩
abbrev Sl := Option Addr × Nat × Nat
abbrev OwnN (B : Nat) (x : Sl) (ts : List (Int × Int)) (W : World) : Prop := W.ownsRow B 66 2 (.slice x.1 x.2.1 x.2.2) x.2.1 (cellsT ts)
theorem terms_own {W : World} {B : Nat} {A : Option Addr} {n c : Nat} {ts : List (Int × Int)} (h : W.ownsRow B 66 2 (.slice A n c) n (cellsT ts)) : Terms W W.heap.size A n c ts := Rd.of_own h
abbrev MadeN (B : Nat) (v : Value) (W : World) : Prop := ∃ X, v = .pointer (some ⟨X, 0, none⟩) ∧ B ≤ X ∧ Blk W X 33 #[.int .i64 0, .slice none 0 0]
theorem RoundS.put {w : World} {B0 : Nat} {X7 : Nat} {xd : Int} {A1 : Option Addr} {n1 c1 : Nat} {xt : List (Int × Int)} {X9 : Nat} {wh : Int} {Ao : Option Addr} {co : Nat} {L : List PieceV} {X10 : Nat} {ld : Int} {Al : Option Addr} {nl cl : Nat} {lt : List (Int × Int)}
  {X11 : Nat} {sd : Int} {As : Option Addr} {ns cs : Nat} {st : List (Int × Int)} {X14 : Nat} {am : Addr} {cp : Nat} {d : Int} {W : World} (h : RoundS w B0 X7 xd A1 n1 c1 xt X9 wh Ao co L X10 ld Al nl cl lt X11 sd As ns cs st X14 am cp d W) {X n : Nat} {u0 v0 u v : Value} (hX : Blk W X 33 #[u0, v0]) (hn : n ≤ X) (h0 : B0 ≤ n) (h11 : X11 < n) (h14 : X14 < n) (ham : am.block < n) :
  RoundS w B0 X7 xd A1 n1 c1 xt X9 wh Ao co L X10 ld Al nl cl lt X11 sd As ns cs st X14 am cp d ((W.setCell ⟨X, 0, none⟩ u).setCell ⟨X, 1, none⟩ v) := by
 have hb : Below n W ((W.setCell ⟨X, 0, none⟩ u).setCell ⟨X, 1, none⟩ v) := ((Below.refl n W).setCell (p := ⟨X, 0, none⟩) hn u).setCell (p := ⟨X, 1, none⟩) hn v
 exact ⟨h.s.under (hb.mono h0), h.sum.below hb h11, own_set (own_set h.row hX (by decide)) (hX.set_ 0 u) (by decide), h.p.below hb h14, (hb.cell ham).trans h.m⟩
theorem greedy_end {kk : Nat} {rd rc ld : Int} {lt : List (Int × Int)} {Q1 : List Int} {k : Nat} (h : greedyF kk (rd, ratT rc) = (Q1.drop k, (ld, lt))) (hk : Q1.length ≤ k) : ld = rd ∧ lt = ratT rc := by
 rw [List.drop_eq_nil_of_le hk] at h
 have h1 := greedyF_nil kk (rd, ratT rc) (by rw [h])
 rw [h] at h1
 injection h1 with h2 h3
 exact ⟨h2, h3⟩
end Go.Proofs.YtloegjlknpioeaaGreatDoor
namespace Go.Proofs.YtloegjlknpioeaaGreatDoor
open Go.RowKit
set_option maxHeartbeats 16000000 in
set_option maxRecDepth 100000 in
theorem rest_any (a b m : Int) (w : World) (ha : 0 ≤ a ∧ a ≤ 65535) (hb : 0 ≤ b ∧ b ≤ 65535) (hm : 0 ≤ m ∧ m ≤ 255) (hE : ErrVars w) (htab : Lib.TabIs Tryz.prog w "internal/strconv.uint64pow10" .u64 Lib.pow10Tab) :
  Calls Tryz.prog 10 #[.int .u16 a, .int .u16 b, .int .u8 m] w fun e w' => e = .returned (.bool true) ∧ Below w.heap.size w w' := by
 obtain ⟨gp, hgp⟩ := Option.isSome_iff_exists.1 Tryz.pow10g
 have HK : Hid (∀ W, Below w.heap.size w W → Calls Tryz.prog 12 #[] W fun e w' => e = .returned (.bool true) ∧ Below W.heap.size W w') := hide (fun W hW => known_any W (hE.below hW (Nat.le_refl _)) (TabIs_below_ hgp htab hW))
 clear hE htab hgp
 obtain ⟨D, hD⟩ : ∃ D : Int, D = 1 + b := ⟨_, rfl⟩
 have hDb : 1 ≤ D ∧ D ≤ 65536 := by omega
 obtain ⟨mk1, mk2⟩ := make_ratS (num := a) (D := D) (by omega) (by omega)
 obtain ⟨xd, xt, xe, hnq⟩ : ∃ p q r, normQ a D = (p, q, r) := ⟨_, _, _, rfl⟩
 rw [hnq] at mk1 mk2
 dsimp only at mk2
 subst mk2
 obtain ⟨xc, rfl, hxv, hxn⟩ := normQ_ok (by omega) hnq
 have hxd := numOK_pos hxn
 have hx0 : 0 ≤ xc := by
  rcases Int.lt_or_le xc 0 with h | h
  ·have k1 := Int.mul_neg_of_neg_of_pos h (show 0 < D by omega)
   have k2 : 0 ≤ a * xd := Int.mul_nonneg ha.1 (Int.le_of_lt hxd)
   omega
  ·exact h
 have hdv := div_same hxd (show 0 < D by omega) hxv
 have hxb := (numOK_rat.1 hxn).1
 have hxcb := (numOK_rat.1 hxn).2.1
 have hmo : 0 ≤ m % 9 ∧ m % 9 ≤ 8 := by omega
 have hgr := greedyS_rat (mo := m % 9) hxn hx0 hmo
 have hA0 : (w.alloc (.cells #[.int .i64 a, .int .i64 1] 66)).ownsRow w.heap.size 66 2 (.slice (some ⟨w.heap.size, 0, none⟩) 1 1) 1 (cellsT [(a, 1)]) := by
  have h := World.ownsRow_lit (base := w.heap.size) (e := 66) (size := 2) w #[.int .i64 a, .int .i64 1] 1 (Nat.le_refl _) (by unfold maxLen; omega) rfl
  exact h
 have HMK := hide (make_any D (some ⟨w.heap.size, 0, none⟩) 1 1 (w.alloc (.cells #[.int .i64 a, .int .i64 1] 66)).heap.size [(a, 1)] (w.alloc (.cells #[.int .i64 a, .int .i64 1] 66)) (Rd.of_own hA0) (Nat.le_refl _))
 rw [mk1] at HMK
 have HB0 := hide ((Below.refl w.heap.size w).alloc (Nat.le_refl _) (.cells #[.int .i64 a, .int .i64 1] 66))
 have hDw : (1 + b : Int) = D := hD.symm
 have hlx : (ratT xc).length ≤ 1 := by unfold ratT; split <;> simp
 have HDV := hide hdv
 have HGR := hide hgr
 have HXN := hide hxn
 clear mk1 hnq hA0 hD hdv hgr hxn hxv
 go_enter Tryz.func10, Tryz.ntmps10
 go_upto_region 2 with (first
  | (go_at_call 38; refine HMK.out.mono ?_; rintro e w1 ⟨A1, n1, c1, rfl, ho1, hb1⟩
     have HB1 := hide (HB0.out.trans (hb1.mono HB0.out.size))
     have HX1 := hide (Blk.new w1 33 #[.int .i64 xd, .slice A1 n1 c1])
     have HB1a := hide (HB1.out.alloc HB1.out.size (.cells #[.int .i64 xd, .slice A1 n1 c1] 33))
     have HO1 := hide (ho1.alloc (.cells #[.int .i64 xd, .slice A1 n1 c1] 33))
     clear ho1 hb1))
 obtain ⟨X7, hX7⟩ : ∃ X, X = w1.heap.size := ⟨_, rfl⟩
 have hX7b : X7 < (w1.alloc (.cells #[.int .i64 xd, .slice A1 n1 c1] 33)).heap.size := by rw [hX7]; simp
 rw [← hX7] at HX1 ⊢
 clear hX7 HMK HB0 HB1
 generalize w1.alloc (.cells #[.int .i64 xd, .slice A1 n1 c1] 33) = W1 at *
 obtain ⟨x0, x1, _, _⟩ := HX1.out.two
 have hTx : Terms W1 W1.heap.size A1 n1 c1 (ratT xc) := Rd.of_own HO1.out
 have hn1 := hTx.len
 have HTX := hide hTx
 have HOW := hide (own_num_any xd A1 n1 c1 W1.heap.size (ratT xc) W1 (termsQ_of hTx) (Nat.le_refl _) (by omega))
 clear hTx
 have hqD0 : 0 ≤ a / D := Int.ediv_nonneg ha.1 (by omega)
 have hqD1 : a / D ≤ a := Int.ediv_le_self D ha.1
 have hDz : ¬ D = 0 := by omega
 have hqDw : IntKind.i64.wrap (a / D) = a / D := by rw [IntKind.wrap_i64]; omega
 by_cases hbig : 1000 < xc / xd
 ·have HGD : Hid (∀ W A2 n2 c2, Terms W W.heap.size A2 n2 c2 (ratT xc) → Calls Tryz.prog 35 #[.agg #[.int .i64 xd, .slice A2 n2 c2], .int .i64 (m % 9)] W (GreedyPost W 0 [] 0 [] 3)) := hide (fun W A2 n2 c2 hT => by
   have h := greedy_any xd A2 n2 c2 W.heap.size (ratT xc) (m % 9) W hT (Nat.le_refl _)
   rw [HGR.out, if_pos hbig] at h
   exact h)
  have hbig2 : 1000 < a / D := by rw [← HDV.out]; exact hbig
  clear HGR HDV hbig
  go_upto_region 5 with (first
   | (go_at_call 19; refine HOW.out.mono ?_; rintro e w2 ⟨A2, n2, c2, rfl, ho2, hb2⟩
      have HB2 := hide (HB1a.out.trans (hb2.mono HB1a.out.size))
      have HG2 := hide (HGD.out w2 A2 n2 c2 (Rd.of_own ho2))
      clear hb2 ho2)
   | (go_at_call 35; refine HG2.out.mono ?_; rintro e w3 ⟨Ao, co, L, Al, nl, cl, rfl, hP3, hL3, ho3, hb3⟩
      obtain rfl : L = [] := List.map_eq_nil_iff.1 hL3
      have HB3 := hide (HB2.out.trans (hb3.mono HB2.out.size))
      have HB4 := hide ((HB3.out.alloc HB3.out.size (.cells #[.int .i64 0, .slice Ao 0 co] 24)).alloc (Nat.le_trans HB3.out.size (by simp)) (.cells #[.int .i64 0, .slice Al nl cl] 33))
      have HO4 := hide ((Blk.new w3 24 #[.int .i64 0, .slice Ao 0 co]).alloc (.cells #[.int .i64 0, .slice Al nl cl] 33))
      clear hb3 hP3 hL3 ho3))
  obtain ⟨o0, o1, _, _⟩ := HO4.out.two
  go_wp2_with (first
   | (go_at_call 12; refine (HK.out _ HB4.out).mono ?_; rintro e wz ⟨rfl, hbz⟩
      have HBe := hide (HB4.out.trans (hbz.mono HB4.out.size))
      clear hbz))
  all_goals
   go_ret
   exact ⟨rfl, HBe.out⟩
 ·have hwl : xc / xd ≤ 1000 := by omega
  have hst := ChainQ.start HXN.out hx0 hwl
  obtain ⟨Q1, ld, lt, hQ⟩ : ∃ p q r, greedyF (m % 9).toNat (xd, ratT (xc % xd)) = (p, (q, r)) := ⟨_, _, _, rfl⟩
  have hQl := greedyF_len (m % 9).toNat (xd, ratT (xc % xd))
  rw [hQ] at hQl
  dsimp only at hQl
  obtain ⟨wh, hwh⟩ : ∃ wh, wh = xc / xd := ⟨_, rfl⟩
  have HGD : Hid (∀ W A2 n2 c2, Terms W W.heap.size A2 n2 c2 (ratT xc) → Calls Tryz.prog 35 #[.agg #[.int .i64 xd, .slice A2 n2 c2], .int .i64 (m % 9)] W (GreedyPost W wh Q1 ld lt 0)) := hide (fun W A2 n2 c2 hT => by
   have h := greedy_any xd A2 n2 c2 W.heap.size (ratT xc) (m % 9) W hT (Nat.le_refl _)
   rw [HGR.out, if_neg hbig, hQ, ← hwh] at h
   exact h)
  have hwb : (wh != a / D) = false := by rw [hwh, HDV.out]; simp
  rw [← hwh] at hst hwl
  have hw0 : 0 ≤ wh := by rw [hwh]; exact Int.ediv_nonneg hx0 (by omega)
  have HST := hide hst.1
  have HQ := hide hQ
  clear HGR HDV hbig hst hwh hQ
  go_upto_region 5 with (first
   | (go_at_call 19; refine HOW.out.mono ?_; rintro e w2 ⟨A2, n2, c2, rfl, ho2, hb2⟩
      have HB2 := hide (HB1a.out.trans (hb2.mono HB1a.out.size))
      have HX2 := hide (HX1.out.below hb2 hX7b); have HT2 := hide (Rd.below HTX.out hb2); have hz2 := hb2.size
      have HG2 := hide (HGD.out w2 A2 n2 c2 (Rd.of_own ho2))
      clear hb2 ho2)
   | (go_at_call 35; refine HG2.out.mono ?_; rintro e w3 ⟨Ao, co, L, Al, nl, cl, rfl, hP3, hL3, ho3, hb3⟩
      have HL := hide hL3
      have HLL := hide (show L.length = Q1.length by have := congrArg List.length hL3; simpa using this)
      have hz3 := hb3.size
      have hg3 : w3.heap.size ≤ ((w3.alloc (.cells #[.int .i64 wh, .slice Ao L.length co] 24)).alloc (.cells #[.int .i64 ld, .slice Al nl cl] 33)).heap.size := by simp; omega
      have HS4 := hide ((⟨((HX2.out.below hb3 HX2.out.lt).alloc _).alloc _, (Blk.new w3 _ _).alloc _, (by have h := Blk.new (w3.alloc (.cells #[.int .i64 wh, .slice Ao L.length co] 24)) 33 #[.int .i64 ld, .slice Al nl cl]; rwa [World.size_alloc] at h),
       Rd.more (Rd.alloc (Rd.alloc (Rd.below HT2.out (hb3.mono hz2)) (Nat.le_trans hz2 hz3) _) (by simp; omega) _) (Nat.le_trans (Nat.le_trans hz2 hz3) hg3),
       ((PiecesQ.of hP3).alloc (Nat.le_refl _) _ |>.alloc (by simp) _).more hg3, Rd.of_own ((ho3.alloc _).alloc _),
       ((HB2.out.trans (hb3.mono HB2.out.size)).alloc (Nat.le_trans HB2.out.size hz3) _).alloc (Nat.le_trans (Nat.le_trans HB2.out.size hz3) (by simp)) _, Nat.le_trans (Nat.le_trans HB2.out.size hz3) hg3, Nat.le_refl _, by have := HX2.out.lt; simp; omega, by simp; omega, by simp⟩ :
       RestS w ((w3.alloc (.cells #[.int .i64 wh, .slice Ao L.length co] 24)).alloc (.cells #[.int .i64 ld, .slice Al nl cl] 33)).heap.size ((w3.alloc (.cells #[.int .i64 wh, .slice Ao L.length co] 24)).alloc (.cells #[.int .i64 ld, .slice Al nl cl] 33)) X7 xd A1 n1 c1 (ratT xc) w3.heap.size wh Ao co L (w3.heap.size + 1) ld Al nl cl lt))
      clear hb3 hP3 hL3 ho3 hg3))
  obtain ⟨X9, hX9⟩ : ∃ X, X = w3.heap.size := ⟨_, rfl⟩
  obtain ⟨X10, hX10⟩ : ∃ X, X = w3.heap.size + 1 := ⟨_, rfl⟩
  rw [← hX10, ← hX9] at HS4
  rw [← hX10, ← hX9]
  clear hX9 hX10 HX1 HX2 HT2 HTX HO1 HB1a HB2 HOW HGD HG2 x0 x1 hz2 hz3 hX7b
  generalize (w3.alloc (.cells #[.int .i64 wh, .slice Ao L.length co] 24)).alloc (.cells #[.int .i64 ld, .slice Al nl cl] 33) = W4 at *
  obtain ⟨B0, hB0⟩ : ∃ B, B = W4.heap.size := ⟨_, rfl⟩
  rw [← hB0] at HS4
  clear hB0
  obtain ⟨o0, o1, _, _⟩ := HS4.out.o.two
  have hlm : ¬ m % 9 < (L.length : Int) := by have := HLL.out; omega
  have HN1 : Hid (n1 ≤ 1000) := hide (by omega)
  have hmw : IntKind.i64.wrap (m.tmod 9) = m % 9 := by rw [Int.tmod_eq_emod_of_nonneg (by omega), IntKind.wrap_i64]; omega
  have hwa : IntKind.i64.wrap a = a := by rw [IntKind.wrap_i64]; omega
  have hwbb : IntKind.i64.wrap b = b := by rw [IntKind.wrap_i64]; omega
  have hDw2 : IntKind.i64.wrap D = D := by rw [IntKind.wrap_i64]; omega
  have hDw3 : IntKind.i64.wrap (1 + b) = D := by rw [hDw]; exact hDw2
  have hqDw2 : IntKind.i64.wrap (a.tdiv D) = a / D := by rw [Int.tdiv_eq_ediv_of_nonneg ha.1]; exact hqDw
  go_upto_region 7 with fail
  refine wp_region_till (fun w' => w' = W4.drew) 50 (fun _ => True) 50 (fun _ => True) (by kernel_rfl) ⟨rfl, fun _ => trivial, fun _ => trivial⟩ (fun hHeld => ?_)
  refine wpTill_take 0 rfl (by decide +kernel) (fun _ _ _ h => h) (by rfl) (v := ?_) ?_ hHeld (fun hHeld' => ?_)
  rotate_left 1
  focus (intro w' hSw; clear hSw; go_simp; first | done | with_reducible rfl)
  clear hHeld
  rename Till _ _ _ _ _ _ _ => hHeld
  (try simp only [Act.put, List.setIfInBounds_toArray, List.set_cons_zero, List.set_cons_succ])
  refine wpTill_take 1 rfl (by decide +kernel) (fun _ _ _ h => h) (by rfl) (v := ?_) ?_ hHeld (fun hHeld' => ?_)
  rotate_left 1
  focus (intro w' hSw; obtain ⟨hC, hF, hG⟩ := hSw; clear hF; clear hG; subst hC; go_simp; first | done | with_reducible rfl)
  clear hHeld
  rename Till _ _ _ _ _ _ _ => hHeld
  (try simp only [Act.put, List.setIfInBounds_toArray, List.set_cons_zero, List.set_cons_succ])
  refine wpTill_take 2 rfl (by decide +kernel) (fun _ _ _ h => h) (by rfl) (v := ?_) ?_ hHeld (fun hHeld' => ?_)
  rotate_left 1
  focus (intro w' hSw; clear hSw; go_simp; first | done | with_reducible rfl)
  clear hHeld
  rename Till _ _ _ _ _ _ _ => hHeld
  (try simp only [Act.put, List.setIfInBounds_toArray, List.set_cons_zero, List.set_cons_succ])
  refine wpTill_take 3 rfl (by decide +kernel) (fun _ _ _ h => h) (by rfl) (v := ?_) ?_ hHeld (fun hHeld' => ?_)
  rotate_left 1
  focus (intro w' hSw; clear hSw; go_simp; first | done | with_reducible rfl)
  clear hHeld
  rename Till _ _ _ _ _ _ _ => hHeld
  (try simp only [Act.put, List.setIfInBounds_toArray, List.set_cons_zero, List.set_cons_succ])
  refine wpTill_take 4 rfl (by decide +kernel) (fun _ _ _ h => h) (by rfl) (v := ?_) ?_ hHeld (fun hHeld' => ?_)
  rotate_left 1
  focus (intro w' hSw; clear hSw; go_simp; first | done | with_reducible rfl)
  clear hHeld
  rename Till _ _ _ _ _ _ _ => hHeld
  (try simp only [Act.put, List.setIfInBounds_toArray, List.set_cons_zero, List.set_cons_succ])
  refine wpTill_take 5 rfl (by decide +kernel) (fun _ _ _ h => h) (by rfl) (v := ?_) ?_ hHeld (fun hHeld' => ?_)
  rotate_left 1
  focus (intro w' hSw; clear hSw; go_simp; first | done | with_reducible rfl)
  clear hHeld
  rename Till _ _ _ _ _ _ _ => hHeld
  (try simp only [Act.put, List.setIfInBounds_toArray, List.set_cons_zero, List.set_cons_succ])
  refine wpTill_take 6 rfl (by decide +kernel) (fun _ _ _ h => h) (by rfl) (v := ?_) ?_ hHeld (fun hHeld' => ?_)
  rotate_left 1
  focus (intro w' hSw; clear hSw; go_simp; first | done | with_reducible rfl)
  clear hHeld
  rename Till _ _ _ _ _ _ _ => hHeld
  (try simp only [Act.put, List.setIfInBounds_toArray, List.set_cons_zero, List.set_cons_succ])
  refine wpTill_take 7 rfl (by decide +kernel) (fun _ _ _ h => h) (by rfl) (v := ?_) ?_ hHeld (fun hHeld' => ?_)
  rotate_left 1
  focus (intro w' hSw; clear hSw; go_simp; first | done | with_reducible rfl)
  clear hHeld
  rename Till _ _ _ _ _ _ _ => hHeld
  (try simp only [Act.put, List.setIfInBounds_toArray, List.set_cons_zero, List.set_cons_succ])
  refine wpTill_take 8 rfl (by decide +kernel) (fun _ _ _ h => h) (by rfl) (v := ?_) ?_ hHeld (fun hHeld' => ?_)
  rotate_left 1
  focus (intro w' hSw; clear hSw; go_simp; first | done | with_reducible rfl)
  clear hHeld
  rename Till _ _ _ _ _ _ _ => hHeld
  (try simp only [Act.put, List.setIfInBounds_toArray, List.set_cons_zero, List.set_cons_succ])
  refine wpTill_take 9 rfl (by decide +kernel) (fun _ _ _ h => h) (by rfl) (v := ?_) ?_ hHeld (fun hHeld' => ?_)
  rotate_left 1
  focus (intro w' hSw; obtain ⟨hC, hF, hG⟩ := hSw; clear hF; clear hG; subst hC; go_simp; first | done | with_reducible rfl)
  clear hHeld
  rename Till _ _ _ _ _ _ _ => hHeld
  (try simp only [Act.put, List.setIfInBounds_toArray, List.set_cons_zero, List.set_cons_succ])
  refine wpTill_take 10 rfl (by decide +kernel) (fun _ _ _ h => h) (by rfl) (v := ?_) ?_ hHeld (fun hHeld' => ?_)
  rotate_left 1
  focus (intro w' hSw; clear hSw; go_simp; first | done | with_reducible rfl)
  clear hHeld
  rename Till _ _ _ _ _ _ _ => hHeld
  (try simp only [Act.put, List.setIfInBounds_toArray, List.set_cons_zero, List.set_cons_succ])
  refine wpTill_take 11 rfl (by decide +kernel) (fun _ _ _ h => h) (by rfl) (v := ?_) ?_ hHeld (fun hHeld' => ?_)
  rotate_left 1
  focus (intro w' hSw; clear hSw; go_simp; first | done | with_reducible rfl)
  clear hHeld
  rename Till _ _ _ _ _ _ _ => hHeld
  (try simp only [Act.put, List.setIfInBounds_toArray, List.set_cons_zero, List.set_cons_succ])
  refine wpTill_take 12 rfl (by decide +kernel) (fun _ _ _ h => h) (by rfl) (v := ?_) ?_ hHeld (fun hHeld' => ?_)
  rotate_left 1
  focus (intro w' hSw; clear hSw; go_simp; first | done | with_reducible rfl)
  clear hHeld
  rename Till _ _ _ _ _ _ _ => hHeld
  (try simp only [Act.put, List.setIfInBounds_toArray, List.set_cons_zero, List.set_cons_succ])
  refine wpTill_take 13 rfl (by decide +kernel) (fun _ _ _ h => h) (by rfl) (v := ?_) ?_ hHeld (fun hHeld' => ?_)
  rotate_left 1
  focus (intro w' hSw; clear hSw; go_simp; first | done | with_reducible rfl)
  clear hHeld
  rename Till _ _ _ _ _ _ _ => hHeld
  (try simp only [Act.put, List.setIfInBounds_toArray, List.set_cons_zero, List.set_cons_succ])
  refine wpTill_take 14 rfl (by decide +kernel) (fun _ _ _ h => h) (by rfl) (v := ?_) ?_ hHeld (fun hHeld' => ?_)
  rotate_left 1
  focus (intro w' hSw; clear hSw; go_simp; first | done | with_reducible rfl)
  clear hHeld
  rename Till _ _ _ _ _ _ _ => hHeld
  (try simp only [Act.put, List.setIfInBounds_toArray, List.set_cons_zero, List.set_cons_succ])
  refine wpTill_take 15 rfl (by decide +kernel) (fun _ _ _ h => h) (by rfl) (v := ?_) ?_ hHeld (fun hHeld' => ?_)
  rotate_left 1
  focus (intro w' hSw; clear hSw; go_simp; first | done | with_reducible rfl)
  clear hHeld
  rename Till _ _ _ _ _ _ _ => hHeld
  (try simp only [Act.put, List.setIfInBounds_toArray, List.set_cons_zero, List.set_cons_succ])
  refine wpTill_take 16 rfl (by decide +kernel) (fun _ _ _ h => h) (by rfl) (v := ?_) ?_ hHeld (fun hHeld' => ?_)
  rotate_left 1
  focus (intro w' hSw; clear hSw; go_simp; first | done | with_reducible rfl)
  clear hHeld
  rename Till _ _ _ _ _ _ _ => hHeld
  (try simp only [Act.put, List.setIfInBounds_toArray, List.set_cons_zero, List.set_cons_succ])
  refine wpTill_take 17 rfl (by decide +kernel) (fun _ _ _ h => h) (by rfl) (v := ?_) ?_ hHeld (fun hHeld' => ?_)
  rotate_left 1
  focus (intro w' hSw; clear hSw; go_simp; first | done | with_reducible rfl)
  clear hHeld
  rename Till _ _ _ _ _ _ _ => hHeld
  (try simp only [Act.put, List.setIfInBounds_toArray, List.set_cons_zero, List.set_cons_succ])
  refine wpTill_done (by decide +kernel) ?_
  clear hHeld
  clear hmw hDw2 hDw3 hqDw2 hwa hwbb
  have HS5 := hide (HS4.out.under (Below.drew (Below.refl _ _)))
  clear HS4 o0 o1 hwb hqDw hqD0 hqD1
  generalize W4.drew = W5 at *
  obtain ⟨o0, o1, _, _⟩ := HS5.out.o.two
  go_upto_region 10 with (first
   | (go_at_call 17; refine (lawNumber_any wh 1 _).mono ?_; rintro e w6 ⟨As, ns, cs, rfl, ho6, hb6⟩
      have HS6 := hide ((HS5.out.under (hb6.mono HS5.out.size)).under ((Below.refl _ _).alloc (Nat.le_trans HS5.out.size hb6.size) (.cells #[.int .i64 1, .slice As ns cs] 33)))
      have HSUM6 := hide (Blk.new w6 33 #[.int .i64 1, .slice As ns cs])
      have HROW6 := hide (own_le (ho6.alloc (.cells #[.int .i64 1, .slice As ns cs] 33)) HS5.out.size)
      have hX11 : B0 ≤ w6.heap.size := Nat.le_trans HS5.out.size hb6.size
      clear hb6 ho6))
  obtain ⟨X11, hX⟩ : ∃ X, X = w6.heap.size := ⟨_, rfl⟩
  rw [← hX] at HSUM6 hX11
  rw [← hX]
  clear hX HS5 o0 o1
  generalize w6.alloc (.cells #[.int .i64 1, .slice As ns cs] 33) = W6 at *
  obtain ⟨o0, o1, _, _⟩ := HS6.out.o.two
  obtain ⟨y0, y1, yf0, yf1⟩ := HSUM6.out.two
  go_upto_region 10 with fail
  rename (∀ (a : Act) (w : World), Code.wp _ _ _ a w → (_ : Act → World → Prop) a w) => hK0
  have HK0 := And.intro trivial hK0
  clear hK0
  rename (∀ (a : Act) (w : World), Code.wp _ _ _ a w → (_ : Act → World → Prop) a w) => hK1
  refine join_at [92, 93, 94, 95] (fun W => RestS w B0 W X7 xd A1 n1 c1 (ratT xc) X9 wh Ao co L X10 ld Al nl cl lt ∧ ∃ (A : Option Addr) (n c : Nat), Blk W X11 33 #[.int .i64 1, .slice A n c] ∧ W.ownsRow B0 66 2 (.slice A n c) n (cellsT (ratT wh))) hK1 (fun v W7 hR => ?_) (fun HJ => ?_)
  rotate_left 1
  focus
   have hK0 := HK0.2
   clear HK0 hK1
   by_cases hwz : wh = 0
   ·have hzb : (wh == 0) = true := by simpa using hwz
    have HE := hide ((HSUM6.out.set_ 0 (.int .i64 1)).set_ 1 (.slice none 0 0))
    have HS7 := hide (HS6.out.under (((Below.refl B0 W6).setCell (p := ⟨X11, 0, none⟩) hX11 (.int .i64 1)).setCell (p := ⟨X11, 1, none⟩) hX11 (.slice none 0 0)))
    go_wp2
    exact HJ.out _ _ ⟨HS7.out, none, 0, 0, HE.out, by rw [hwz, ratT_zero]; exact World.ownsRow_nil _ _ _ _⟩ (by kernel_rfl)
   ·have hzb : (wh == 0) = false := by simpa using hwz
    go_wp2
    exact HJ.out _ _ ⟨HS6.out, As, ns, cs, HSUM6.out, by have h := HROW6.out; rw [ratT_some hwz]; exact h⟩ (by kernel_rfl)
  clear HK0 hK1 HS6 HSUM6 HROW6 o0 o1 y0 y1 yf0 yf1
  obtain ⟨hS7, At, nt, ct, hE1, hE2⟩ := hR
  have HS7 := hide hS7
  have HSUM8 := hide hE1
  have HROW8 := hide hE2
  clear hS7 hE1 hE2
  simp only [List.foldl_cons, List.foldl_nil, Act.put, List.setIfInBounds_toArray, List.set_cons_zero, List.set_cons_succ]
  go_wp2
  go_loopw [12, 13] (fun bv i W => ∃ (k : Nat) (bf sd sc rd rc : Int) (As : Option Addr) (ns cs kk : Nat), k ≤ Q1.length ∧ i = .int .i64 (k : Int) ∧ bv = .int .i64 bf ∧ bf ≤ 1000 ∧ RestS w B0 W X7 xd A1 n1 c1 (ratT xc) X9 wh Ao co L X10 ld Al nl cl lt ∧
   Blk W X11 33 #[.int .i64 sd, .slice As ns cs] ∧ W.ownsRow B0 66 2 (.slice As ns cs) ns (cellsT (ratT sc)) ∧ ChainQ xd xc sd sc rd rc bf ∧ greedyF kk (rd, ratT rc) = (Q1.drop k, (ld, lt))) (fun _ i _ => Q1.length - (intOf i).toNat)
  case atStart => exact ⟨0, 1, 1, wh, xd, xc % xd, At, nt, ct, (m % 9).toNat, by omega, rfl, rfl, by omega, HS7.out, HSUM8.out, HROW8.out, HST.out, HQ.out⟩
  case round =>
   obtain ⟨k, bf, sd, sc, rd, rc, As, ns, cs, kk, hk, rfl, rfl, hbf, hS, hsum, hrow, hch, hgf⟩ := hrel
   have HS := hide hS; have HSUM := hide hsum; have HROW := hide hrow; have HCH := hide hch; have HGF := hide hgf
   clear hS hsum hrow hch hgf HS7 HSUM8 HROW8 HST HQ
   obtain ⟨o0, o1, _, _⟩ := HS.out.o.two
   by_cases hkl : (k : Int) < (L.length : Int)
   ·have hk1 : k < L.length := by omega
    have hkq : k < Q1.length := by have := HLL.out; omega
    have hgf := HGF.out
    rw [List.drop_eq_getElem_cons hkq] at hgf
    obtain ⟨j, s1, s2, hkk, hrc0, hde, hd1000, hpl, hgn⟩ := greedyF_cons hgf
    have hfl : L[k].flat = (false, [Q1[k]]) := by
     have h := congrArg (fun l => l[k]?) HL.out
     simpa [hk1, hkq, pieceD] using h
    have hrd := numOK_pos HCH.out.r
    have hrc : 0 < rc := by have := HCH.out.pos; omega
    obtain ⟨m1, m2, m3⟩ := mark_next hrc hrd HCH.out.small HCH.out.one
    rw [← hde] at m1 m2 m3
    have hbf1 := HCH.out.one
    obtain ⟨ad, rfl, -, ha0, ha1⟩ := HS.out.po.at_ hk1
    have hpi := HS.out.po.2 L[k] (List.getElem_mem hk1)
    obtain ⟨p, hpe⟩ : ∃ p, p = L[k] := ⟨_, rfl⟩
    rw [← hpe] at ha0 ha1 hpi hfl
    clear hpe
    obtain ⟨mi, Ap, np, cp, ps⟩ := p
    dsimp only [PieceV.flat] at ha0 ha1 hpi hfl
    injection hfl with e1 e2
    subst e1
    subst e2
    have hnp := hpi.len
    rw [List.length_singleton] at hnp
    subst hnp
    generalize Q1[k] = d at *
    obtain ⟨am, rfl, hamB, hm0⟩ := hpi.at_ (i := 0) (by simp)
    rw [List.getElem_cons_zero, show am.add 0 = am from rfl] at hm0
    have hdn := numOK_one (d := d) (by omega)
    rw [plus_ratS HCH.out.r hdn] at hpl
    obtain ⟨rc2, rfl, hcv, hcn⟩ := normQ_ok (Int.mul_pos hrd (show 0 < d by omega)) hpl
    have HDF := hide (HCH.out.diff HXN.out)
    have HPI := hide hpi
    have HNX := hide (fun e1 ec (hs : ec * (sd * d) = (sc * d + 1 * (1 * sd)) * e1) (hm : numOK e1 (ratT ec) = true) => HCH.out.next HXN.out hrc m2 m3 m1 hcv hcn hs hm)
    have HGN := hide hgn
    have HDN := hide hdn
    have HRN := hide HCH.out.r
    have HSN := hide HCH.out.s
    have hTt : Terms wr wr.heap.size As ns cs (ratT sc) := Rd.of_own HROW.out
    have hn1s := Terms.len hTt
    have hl1 : (ratT sc).length ≤ 1 := by unfold ratT; split <;> simp
    have HNS : Hid (ns ≤ 1000) := hide (by omega)
    have hd1 : ¬ d ≤ bf := by omega
    have hd2 : ¬ 1000 < d := by omega
    clear hgf hgn hpl hpi hcv hcn hdn hde hkk hrc0 hl1 hn1s hTt HGF
    obtain ⟨V, hV⟩ : ∃ V, V = wr := ⟨_, rfl⟩
    subst hV
    have h11V : X11 < V.heap.size := HSUM.out.lt
    go_upto_region 16 with fail
    have HAM := hide ((World.cell?_alloc_lt V (.cells #[.bool false, .slice (some am) 1 cp] 80) am (Nat.lt_of_lt_of_le hamB HS.out.size)).trans hm0)
    have HS := hide (HS.out.under ((Below.refl _ _).alloc HS.out.size (.cells #[.bool false, .slice (some am) 1 cp] 80)))
    have HSUM := hide (HSUM.out.alloc (.cells #[.bool false, .slice (some am) 1 cp] 80))
    have HROW := hide (HROW.out.alloc (.cells #[.bool false, .slice (some am) 1 cp] 80))
    have HP14 := hide (Blk.new V 80 #[.bool false, .slice (some am) 1 cp])
    obtain ⟨X14, hX⟩ : ∃ X, X = V.heap.size := ⟨_, rfl⟩
    rw [← hX] at HP14 h11V ⊢
    clear hX hm0 HPI ha0 ha1 o0 o1
    generalize V.alloc (.cells #[.bool false, .slice (some am) 1 cp] 80) = W5 at *
    have hm0 := HAM.out
    obtain ⟨p0, p1, _, _⟩ := HP14.out.two
    go_upto_region 18 with fail
    clear hm0 p0 p1 hd1
    obtain ⟨x0, x1, _, _⟩ := HS.out.x.two
    obtain ⟨y0, y1, _, _⟩ := HSUM.out.two
    have h7 : X7 < W5.heap.size := HS.out.x.lt
    have h11 : X11 < W5.heap.size := HSUM.out.lt
    have HR5 : Hid (RoundS w B0 X7 xd A1 n1 c1 (ratT xc) X9 wh (some ad) co L X10 ld Al nl cl lt X11 sd As ns cs (ratT sc) X14 am cp d W5) := hide ⟨HS.out, HSUM.out, HROW.out, HP14.out, HAM.out⟩
    have HRd : Hid (RoundS w B0 X7 xd A1 n1 c1 (ratT xc) X9 wh (some ad) co L X10 ld Al nl cl lt X11 sd As ns cs (ratT sc) X14 am cp d W5.drew ∧ (Below W5.heap.size W5 W5.drew ∧ W5.heap.size ≤ W5.drew.heap.size)) := hide ⟨Kept.keep _ _ HR5.out (Below.drew (Below.refl _ _)), Below.drew (Below.refl _ _), Nat.le_refl _⟩
    have hX11 : B0 ≤ X11 := hX11
    have h9 : X14 < W5.heap.size := HP14.out.lt
    have hB05 : B0 ≤ W5.heap.size := HS.out.size
    have HM2 := hide m2; have HM3 := hide m3; have HM1 := hide m1
    clear HS HSUM HROW HP14 HAM m1 m2 m3
    refine wp_region_flow 9 (fun W => Below W5.heap.size W5 W) (fun _ v W => MadeN W5.heap.size v W) [8] (fun W => RoundS w B0 X7 xd A1 n1 c1 (ratT xc) X9 wh (some ad) co L X10 ld Al nl cl lt X11 sd As ns cs (ratT sc) X14 am cp d W ∧ (Below W5.heap.size W5 W ∧ W5.heap.size ≤ W.heap.size)) (by kernel_rfl)
     (Floats.of (by decide +kernel) (fun c a d v w => by cases d <;> exact Iff.rfl) (by
      intro i hi a W hF
      obtain rfl : i = 8 := by simpa using hi
      refine wpOp_step rfl (fun K' hK0 => ?_)
      have hK := hide hK0
      clear hK0
      go_simp
      exact hK.out _ _ ⟨_, rfl, ⟨_, rfl, hF.size, Blk.new _ _ _⟩, (Below.refl _ _).alloc (Nat.le_refl _) _⟩) (fun i v W W' ⟨X, h1, h2, h3⟩ hb => ⟨X, h1, h2, h3.below hb h3.lt⟩))
     (fun _ _ _ h => h) (by decide) HRd.out (fun W h => h.2.1) (fun HFL => ?_)
    refine Safe.take 0 (v := ?_) rfl rfl HFL (by decide +kernel) (fun W h => h.2.1) (by rfl) (fun W hF => ?_) ?_
    rotate_left 1
    focus (have hF := hF (by decide +kernel); have e1 := (hF.cell (p := ⟨X7, 0, none⟩) h7).trans x0; have e2 := (hF.cell (p := ⟨X7, 1, none⟩) h7).trans x1; clear hF; go_simp; first | done | with_reducible rfl)
    (try simp only [Act.put, List.setIfInBounds_toArray, List.set_cons_zero, List.set_cons_succ])
    refine Safe.take 2 (v := ?_) rfl rfl HFL (by decide +kernel) (fun W h => h.2.1) (by rfl) (fun W hF => ?_) ?_
    rotate_left 1
    focus (have hF := hF (by decide +kernel); have e1 := (hF.cell (p := ⟨X11, 0, none⟩) h11).trans y0; have e2 := (hF.cell (p := ⟨X11, 1, none⟩) h11).trans y1; clear hF; go_simp; first | done | with_reducible rfl)
    (try simp only [Act.put, List.setIfInBounds_toArray, List.set_cons_zero, List.set_cons_succ])
    refine Safe.on 1 (fun x : Sl => .agg #[.int .i64 xd, .slice x.1 x.2.1 x.2.2]) (fun x W => OwnN B0 x (ratT xc) W) rfl rfl HFL (by decide +kernel) (fun W h => h.2.1) (fun W hG K' hK => ?_) (fun x1 hF1 => ?_)
    focus
     have HC := hide (own_num_any xd A1 n1 c1 _ (ratT xc) W (termsQ_of hG.1.s.tx) hG.1.s.size HN1.out)
     have hz := hG.1.s.size
     clear hG
     go_simp
     go_wp2_with (first
      | (go_at_call 19; refine HC.out.mono ?_; rintro e w6 ⟨A, n, c, rfl, ho, hb⟩
         have HO := hide (own_le ho hz); have HBB := hide hb; clear ho hb))
     exact hK.out (A, n, c) _ HO.out HBB.out
    (try simp only [Act.put, List.setIfInBounds_toArray, List.set_cons_zero, List.set_cons_succ])
    refine Safe.on 3 (fun x : Sl => .agg #[.int .i64 sd, .slice x.1 x.2.1 x.2.2]) (fun x W => OwnN B0 x (ratT sc) W) rfl rfl HFL (by decide +kernel) hF1 (fun W hG K' hK => ?_) (fun x3 hF3 => ?_)
    focus
     have HC := hide (own_num_any sd As ns cs _ (ratT sc) W (termsQ_of (terms_own hG.1.1.row)) (Nat.le_refl _) HNS.out)
     have hz := hG.1.1.s.size
     clear hG
     go_simp
     go_wp2_with (first
      | (go_at_call 19; refine HC.out.mono ?_; rintro e w6 ⟨A, n, c, rfl, ho, hb⟩
         have HO := hide (own_le ho hz); have HBB := hide hb; clear ho hb))
     exact hK.out (A, n, c) _ HO.out HBB.out
    (try simp only [Act.put, List.setIfInBounds_toArray, List.set_cons_zero, List.set_cons_succ])
    refine Safe.on 4 (fun x : Sl => .tuple #[.agg #[.int .i64 rd, .slice x.1 x.2.1 x.2.2], .int .i64 0]) (fun x W => OwnN W5.heap.size x (ratT rc) W) rfl rfl HFL (by decide +kernel) hF3 (fun W hG K' hK => ?_) (fun x4 hF4 => ?_)
    focus
     have HC := hide (sub_flat xd x1.1 x1.2.1 x1.2.2 (ratT xc) sd x3.1 x3.2.1 x3.2.2 (ratT sc) W.heap.size W (terms_own hG.1.2) (terms_own hG.2) (Nat.le_refl _))
     rw [HDF.out] at HC
     have hz := hG.1.1.2.2
     clear hG
     go_simp
     go_wp2_with (first
      | (go_at_call 18; refine HC.out.mono ?_; rintro e w6 ⟨A, n, c, rfl, ho, hb⟩
         have HO := hide (own_le ho hz); have HBB := hide hb; clear ho hb))
     exact hK.out (A, n, c) _ HO.out HBB.out
    (try simp only [Act.put, List.setIfInBounds_toArray, List.set_cons_zero, List.set_cons_succ])
    refine Safe.take 5 (v := ?_) rfl rfl HFL (by decide +kernel) hF4 (by rfl) (fun W hF => ?_) ?_
    rotate_left 1
    focus (clear hF; go_simp; first | done | with_reducible rfl)
    (try simp only [Act.put, List.setIfInBounds_toArray, List.set_cons_zero, List.set_cons_succ])
    refine Safe.take 6 (v := ?_) rfl rfl HFL (by decide +kernel) hF4 (by rfl) (fun W hF => ?_) ?_
    rotate_left 1
    focus (clear hF; go_simp; first | done | with_reducible rfl)
    (try simp only [Act.put, List.setIfInBounds_toArray, List.set_cons_zero, List.set_cons_succ])
    refine Safe.take 7 (v := ?_) rfl rfl HFL (by decide +kernel) hF4 (by rfl) (fun W hF => ?_) ?_
    rotate_left 1
    focus (clear hF; go_simp; first | done | with_reducible rfl)
    (try simp only [Act.put, List.setIfInBounds_toArray, List.set_cons_zero, List.set_cons_succ])
    refine Safe.force (some 15) HFL (by decide +kernel) rfl hF4 (fun v8 => ?_)
    (try simp only [Act.put, List.setIfInBounds_toArray, List.set_cons_zero, List.set_cons_succ])
    refine Safe.fin rfl (fun W h => hF4 W h.1) (fun W6 hG hHeld => ?_)
    obtain ⟨⟨⟨⟨⟨hR6, -, -⟩, -⟩, -⟩, hQ6⟩, X15, rfl, hX15, hN6⟩ := hG
    have HR7 := hide (hR6.put (u := .int .i64 rd) (v := .slice x4.1 x4.2.1 x4.2.2) hN6 hX15 hB05 h11 h9 (Nat.lt_of_lt_of_le hamB hB05))
    have HQ7 := hide (own_set (own_set hQ6 hN6 (i := 0) (u := .int .i64 rd) (by decide)) (hN6.set_ 0 (.int .i64 rd)) (i := 1) (u := .slice x4.1 x4.2.1 x4.2.2) (by decide))
    have HZ7 := hide ((hN6.set_ 0 (.int .i64 rd)).set_ 1 (.slice x4.1 x4.2.1 x4.2.2))
    obtain ⟨q0, q1, qf0, qf1⟩ := hN6.two
    clear hR6 hQ6 HFL hF1 hF3 hF4 hN6 HRd HR5
    refine wpTill_one 9 rfl (by decide +kernel) (fun K hK => ?_)
    go_simp
    refine hK.out _ _ ⟨trivial, fun h => absurd h (by decide +kernel), fun _ => trivial⟩ (fun hHeld => ?_)
    clear hK K
    (try simp only [Act.put, List.setIfInBounds_toArray, List.set_cons_zero, List.set_cons_succ])
    refine wpTill_take 10 rfl (by decide +kernel) (fun c a w h => by first | exact h | (cases h; done)) (by rfl) (v := ?_) ?_ hHeld (fun hHeld' => ?_)
    rotate_left 1
    focus (intro w' hSw; obtain ⟨hC, hF, hG⟩ := hSw; clear hG; clear hF; go_simp; first | done | with_reducible rfl)
    clear hHeld
    rename Till _ _ _ _ _ _ _ => hHeld
    (try simp only [Act.put, List.setIfInBounds_toArray, List.set_cons_zero, List.set_cons_succ])
    refine wpTill_done (by decide +kernel) ?_
    clear hHeld
    clear q0 q1 qf0 qf1
    generalize (W6.setCell ⟨X15, 0, none⟩ (.int .i64 rd)).setCell ⟨X15, 1, none⟩ (.slice x4.1 x4.2.1 x4.2.2) = W7 at *
    obtain ⟨A7, n7, c7⟩ := x4
    dsimp only at HQ7 HZ7
    go_upto_region 19 with fail
    have hz15 : X15 < W7.heap.size := HZ7.out.lt
    have h14 : X14 < W7.heap.size := HR7.out.p.lt
    have ham : am.block < W7.heap.size := World.block_lt_of_cell? W7 am HR7.out.m
    obtain ⟨z0, z1, _, _⟩ := HZ7.out.two
    obtain ⟨p0, p1, _, _⟩ := HR7.out.p.two
    have m0 := HR7.out.m
    have HGd : Hid ((RoundS w B0 X7 xd A1 n1 c1 (ratT xc) X9 wh (some ad) co L X10 ld Al nl cl lt X11 sd As ns cs (ratT sc) X14 am cp d W7.drew ∧ Blk W7.drew X15 33 #[.int .i64 rd, .slice A7 n7 c7] ∧ OwnN W5.heap.size (A7, n7, c7) (ratT rc) W7.drew) ∧ (Below W7.heap.size W7 W7.drew ∧ W7.heap.size ≤ W7.drew.heap.size)) := hide ⟨Kept.keep (S := fun W => (RoundS w B0 X7 xd A1 n1 c1 (ratT xc) X9 wh (some ad) co L X10 ld Al nl cl lt X11 sd As ns cs (ratT sc) X14 am cp d W ∧ Blk W X15 33 #[.int .i64 rd, .slice A7 n7 c7] ∧ OwnN W5.heap.size (A7, n7, c7) (ratT rc) W)) _ _ ⟨HR7.out, HZ7.out, HQ7.out⟩ (Below.drew (Below.refl _ _)), Below.drew (Below.refl _ _), Nat.le_refl _⟩
    refine wp_region_flow 10 (fun W => Below W7.heap.size W7 W) (fun _ _ _ => True) [] (fun W => (RoundS w B0 X7 xd A1 n1 c1 (ratT xc) X9 wh (some ad) co L X10 ld Al nl cl lt X11 sd As ns cs (ratT sc) X14 am cp d W ∧ Blk W X15 33 #[.int .i64 rd, .slice A7 n7 c7] ∧ OwnN W5.heap.size (A7, n7, c7) (ratT rc) W) ∧ (Below W7.heap.size W7 W ∧ W7.heap.size ≤ W.heap.size)) (by kernel_rfl)
     (Floats.of (by decide +kernel) (fun c a d v w => by cases d <;> exact Iff.rfl) (by intro i hi; cases hi) (fun _ _ _ _ _ _ => trivial))
     (fun _ _ _ h => h) (by decide) HGd.out (fun W h => h.2.1) (fun HFL => ?_)
    refine Safe.take 0 (v := ?_) rfl rfl HFL (by decide +kernel) (fun W h => h.2.1) (by rfl) (fun W hF => ?_) ?_
    rotate_left 1
    focus (have hF := hF (by decide +kernel); have e1 := (hF.cell (p := ⟨X15, 0, none⟩) hz15).trans z0; have e2 := (hF.cell (p := ⟨X15, 1, none⟩) hz15).trans z1; clear hF; go_simp; first | done | with_reducible rfl)
    (try simp only [Act.put, List.setIfInBounds_toArray, List.set_cons_zero, List.set_cons_succ])
    refine Safe.take 1 (v := ?_) rfl rfl HFL (by decide +kernel) (fun W h => h.2.1) (by rfl) (fun W hF => ?_) ?_
    rotate_left 1
    focus (clear hF; go_simp; first | done | with_reducible rfl)
    (try simp only [Act.put, List.setIfInBounds_toArray, List.set_cons_zero, List.set_cons_succ])
    refine Safe.take 2 (v := ?_) rfl rfl HFL (by decide +kernel) (fun W h => h.2.1) (by rfl) (fun W hF => ?_) ?_
    rotate_left 1
    focus (have hF := hF (by decide +kernel); have e1 := (hF.cell (p := ⟨X14, 1, none⟩) h14).trans p1; clear hF; go_simp; first | done | with_reducible rfl)
    (try simp only [Act.put, List.setIfInBounds_toArray, List.set_cons_zero, List.set_cons_succ])
    refine Safe.take 3 (v := ?_) rfl rfl HFL (by decide +kernel) (fun W h => h.2.1) (by rfl) (fun W hF => ?_) ?_
    rotate_left 1
    focus (clear hF; go_simp; first | done | with_reducible rfl)
    (try simp only [Act.put, List.setIfInBounds_toArray, List.set_cons_zero, List.set_cons_succ])
    refine Safe.take 4 (v := ?_) rfl rfl HFL (by decide +kernel) (fun W h => h.2.1) (by rfl) (fun W hF => ?_) ?_
    rotate_left 1
    focus (have hF := hF (by decide +kernel); have e1 := (hF.cell (p := am) ham).trans m0; clear hF; go_simp; first | done | with_reducible rfl)
    (try simp only [Act.put, List.setIfInBounds_toArray, List.set_cons_zero, List.set_cons_succ])
    refine Safe.on 5 (fun x : Sl => .agg #[.int .i64 d, .slice x.1 x.2.1 x.2.2]) (fun x W => OwnN W7.heap.size x [(1, 1)] W) rfl rfl HFL (by decide +kernel) (fun W h => h.2.1) (fun W hG K' hK => ?_) (fun x5 hF5 => ?_)
    focus
     have HC := hide (lawNumber_any 1 d W)
     have hz : W7.heap.size ≤ W.heap.size := hG.2.2
     clear hG
     go_simp
     go_wp2_with (first
      | (go_at_call 17; refine HC.out.mono ?_; rintro e w6 ⟨A, n, c, rfl, ho, hb⟩
         have HO := hide (own_le ho hz); have HBB := hide hb; clear ho hb))
     exact hK.out (A, n, c) _ HO.out HBB.out
    (try simp only [Act.put, List.setIfInBounds_toArray, List.set_cons_zero, List.set_cons_succ])
    refine Safe.on 6 (fun x : Int => .tuple #[.int .i64 x, .int .i64 0]) (fun x W => 0 ≤ x) rfl rfl HFL (by decide +kernel) hF5 (fun W hG K' hK => ?_) (fun x6 hF6 => ?_)
    focus
     have HC := hide (compare_flat rd A7 n7 c7 (ratT rc) d x5.1 x5.2.1 x5.2.2 [(1, 1)] W.heap.size W (terms_own hG.1.1.2.2) (terms_own hG.2) (Nat.le_refl _))
     clear hG
     go_simp
     go_wp2_with (first
      | (go_at_call 24; refine HC.out.mono ?_; rintro e w6 ⟨s, c, rfl, hcr, hb⟩
         obtain ⟨hc0, hcs⟩ := cmp_rat (b := 1) HRN.out HDN.out hcr
         subst hc0
         have HBB := hide hb
         have HSS := hide ((by have := HM2.out; omega : 0 ≤ s))
         clear hb hcr hcs))
     exact hK.out s _ HSS.out HBB.out
    (try simp only [Act.put, List.setIfInBounds_toArray, List.set_cons_zero, List.set_cons_succ])
    refine Safe.fin rfl hF6 (fun W8 hG hHeld => ?_)
    obtain ⟨⟨⟨⟨hR8, hZ8, hQ8⟩, -⟩, -⟩, hs8⟩ := hG
    have HR8 := hide hR8; have HZ8 := hide hZ8; have HQ8 := hide hQ8
    clear hR8 hZ8 hQ8 HGd HFL hF5 hF6 HR7 HZ7 HQ7 z0 z1 p0 p1 m0 hz15 h14 ham
    refine wpTill_take 7 rfl (by decide +kernel) (fun c a w h => by first | exact h | (cases h; done)) (by rfl) (v := ?_) ?_ hHeld (fun hHeld' => ?_)
    rotate_left 1
    focus (intro w' hSw; obtain ⟨hC, hF, hG⟩ := hSw; clear hG; clear hF; go_simp; first | done | with_reducible rfl)
    clear hHeld
    rename Till _ _ _ _ _ _ _ => hHeld
    (try simp only [Act.put, List.setIfInBounds_toArray, List.set_cons_zero, List.set_cons_succ])
    refine wpTill_take 8 rfl (by decide +kernel) (fun c a w h => by first | exact h | (cases h; done)) (by rfl) (v := ?_) ?_ hHeld (fun hHeld' => ?_)
    rotate_left 1
    focus (intro w' hSw; obtain ⟨hC, hF, hG⟩ := hSw; clear hG; clear hF; go_simp; first | done | with_reducible rfl)
    clear hHeld
    rename Till _ _ _ _ _ _ _ => hHeld
    (try simp only [Act.put, List.setIfInBounds_toArray, List.set_cons_zero, List.set_cons_succ])
    refine wpTill_take 9 rfl (by decide +kernel) (fun c a w h => by first | exact h | (cases h; done)) (by rfl) (v := ?_) ?_ hHeld (fun hHeld' => ?_)
    rotate_left 1
    focus (intro w' hSw; obtain ⟨hC, hF, hG⟩ := hSw; clear hG; clear hF; go_simp; first | done | with_reducible rfl)
    clear hHeld
    rename Till _ _ _ _ _ _ _ => hHeld
    (try simp only [Act.put, List.setIfInBounds_toArray, List.set_cons_zero, List.set_cons_succ])
    refine wpTill_one 10 rfl (by decide +kernel) (fun K hK => ?_)
    go_simp
    refine hK.out _ _ ⟨trivial, fun h => absurd h (by decide +kernel), fun _ => trivial⟩ (fun hHeld => ?_)
    clear hK K
    (try simp only [Act.put, List.setIfInBounds_toArray, List.set_cons_zero, List.set_cons_succ])
    refine wpTill_take 11 rfl (by decide +kernel) (fun c a w h => by first | exact h | (cases h; done)) (by rfl) (v := ?_) ?_ hHeld (fun hHeld' => ?_)
    rotate_left 1
    focus (intro w' hSw; obtain ⟨hC, hF, hG⟩ := hSw; clear hG; clear hF; go_simp; first | done | with_reducible rfl)
    clear hHeld
    rename Till _ _ _ _ _ _ _ => hHeld
    (try simp only [Act.put, List.setIfInBounds_toArray, List.set_cons_zero, List.set_cons_succ])
    refine wpTill_done (by decide +kernel) ?_
    clear hHeld
    have hs8' : ¬ x6 < 0 := by omega
    have hz15 : X15 < W8.heap.size := HZ8.out.lt
    have h14 : X14 < W8.heap.size := HR8.out.p.lt
    have ham : am.block < W8.heap.size := World.block_lt_of_cell? W8 am HR8.out.m
    obtain ⟨p0, p1, _, _⟩ := HR8.out.p.two
    have m0 := HR8.out.m
    have hdb : 1 ≤ d ∧ d ≤ 1000 := by have := HM1.out; omega
    have hdw : IntKind.i64.wrap (d - 1) = d - 1 := by rw [IntKind.wrap_i64]; omega
    go_upto_region 23 with fail
    rename (∀ (a : Act) (w : World), Code.wp _ _ _ a w → (_ : Act → World → Prop) a w) => hK0
    have HK0 := And.intro trivial hK0
    clear hK0
    rename (∀ (a : Act) (w : World), Code.wp _ _ _ a w → (_ : Act → World → Prop) a w) => hK1
    refine join_at [164, 165, 166, 167, 168, 169, 170, 171, 172, 20, 21, 173, 174, 175, 176, 177, 178] (fun W => (RoundS w B0 X7 xd A1 n1 c1 (ratT xc) X9 wh (some ad) co L X10 ld Al nl cl lt X11 sd As ns cs (ratT sc) X14 am cp d W ∧ Blk W X15 33 #[.int .i64 rd, .slice A7 n7 c7] ∧ OwnN W5.heap.size (A7, n7, c7) (ratT rc) W)) hK1 (fun v W8 hR => ?_) (fun HJ => ?_)
    rotate_left 1
    focus
     have hK0 := HK0.2
     clear HK0 hK1
     by_cases hd3 : 1 < d - 1
     rotate_left 1
     focus
      go_wp2
      exact HJ.out _ _ ⟨HR8.out, HZ8.out, HQ8.out⟩ (by kernel_rfl)
     go_upto_region 24 with fail
     obtain ⟨z0, z1, _, _⟩ := HZ8.out.two
     have HDN1 := hide (numOK_one (d := d - 1) (by omega))
     have HGd : Hid ((RoundS w B0 X7 xd A1 n1 c1 (ratT xc) X9 wh (some ad) co L X10 ld Al nl cl lt X11 sd As ns cs (ratT sc) X14 am cp d W8.drew ∧ Blk W8.drew X15 33 #[.int .i64 rd, .slice A7 n7 c7] ∧ OwnN W5.heap.size (A7, n7, c7) (ratT rc) W8.drew) ∧ (Below W8.heap.size W8 W8.drew ∧ W8.heap.size ≤ W8.drew.heap.size)) := hide ⟨Kept.keep (S := fun W => (RoundS w B0 X7 xd A1 n1 c1 (ratT xc) X9 wh (some ad) co L X10 ld Al nl cl lt X11 sd As ns cs (ratT sc) X14 am cp d W ∧ Blk W X15 33 #[.int .i64 rd, .slice A7 n7 c7] ∧ OwnN W5.heap.size (A7, n7, c7) (ratT rc) W)) _ _ ⟨HR8.out, HZ8.out, HQ8.out⟩ (Below.drew (Below.refl _ _)), Below.drew (Below.refl _ _), Nat.le_refl _⟩
     refine wp_region_flow 7 (fun W => Below W8.heap.size W8 W) (fun _ _ _ => True) [] (fun W => (RoundS w B0 X7 xd A1 n1 c1 (ratT xc) X9 wh (some ad) co L X10 ld Al nl cl lt X11 sd As ns cs (ratT sc) X14 am cp d W ∧ Blk W X15 33 #[.int .i64 rd, .slice A7 n7 c7] ∧ OwnN W5.heap.size (A7, n7, c7) (ratT rc) W) ∧ (Below W8.heap.size W8 W ∧ W8.heap.size ≤ W.heap.size)) (by kernel_rfl)
      (Floats.of (by decide +kernel) (fun c a d v w => by cases d <;> exact Iff.rfl) (by intro i hi; cases hi) (fun _ _ _ _ _ _ => trivial))
      (fun _ _ _ h => h) (by decide) HGd.out (fun W h => h.2.1) (fun HFL => ?_)
     refine Safe.take 0 (v := ?_) rfl rfl HFL (by decide +kernel) (fun W h => h.2.1) (by rfl) (fun W hF => ?_) ?_
     rotate_left 1
     focus (have hF := hF (by decide +kernel); have e1 := (hF.cell (p := ⟨X15, 0, none⟩) hz15).trans z0; have e2 := (hF.cell (p := ⟨X15, 1, none⟩) hz15).trans z1; clear hF; go_simp; first | done | with_reducible rfl)
     (try simp only [Act.put, List.setIfInBounds_toArray, List.set_cons_zero, List.set_cons_succ])
     refine Safe.take 1 (v := ?_) rfl rfl HFL (by decide +kernel) (fun W h => h.2.1) (by rfl) (fun W hF => ?_) ?_
     rotate_left 1
     focus (clear hF; go_simp; first | done | with_reducible rfl)
     (try simp only [Act.put, List.setIfInBounds_toArray, List.set_cons_zero, List.set_cons_succ])
     refine Safe.on 2 (fun x : Sl => .agg #[.int .i64 (d - 1), .slice x.1 x.2.1 x.2.2]) (fun x W => OwnN W8.heap.size x [(1, 1)] W) rfl rfl HFL (by decide +kernel) (fun W h => h.2.1) (fun W hG K' hK => ?_) (fun x2 hF2 => ?_)
     focus
      have HC := hide (lawNumber_any 1 (d - 1) W)
      have hz : W8.heap.size ≤ W.heap.size := hG.2.2
      clear hG
      go_simp
      go_wp2_with (first
       | (go_at_call 17; refine HC.out.mono ?_; rintro e w6 ⟨A, n, c, rfl, ho, hb⟩
          have HO := hide (own_le ho hz); have HBB := hide hb; clear ho hb))
      exact hK.out (A, n, c) _ HO.out HBB.out
     (try simp only [Act.put, List.setIfInBounds_toArray, List.set_cons_zero, List.set_cons_succ])
     refine Safe.on 3 (fun x : Int => .tuple #[.int .i64 x, .int .i64 0]) (fun x W => x < 0) rfl rfl HFL (by decide +kernel) hF2 (fun W hG K' hK => ?_) (fun x3 hF3 => ?_)
     focus
      have HC := hide (compare_flat rd A7 n7 c7 (ratT rc) (d - 1) x2.1 x2.2.1 x2.2.2 [(1, 1)] W.heap.size W (terms_own hG.1.1.2.2) (terms_own hG.2) (Nat.le_refl _))
      clear hG
      go_simp
      go_wp2_with (first
       | (go_at_call 24; refine HC.out.mono ?_; rintro e w6 ⟨s, c, rfl, hcr, hb⟩
          obtain ⟨hc0, hcs⟩ := cmp_rat (b := 1) HRN.out HDN1.out hcr
          subst hc0
          have HBB := hide hb
          have HSS := hide ((by have := HM3.out; omega : s < 0))
          clear hb hcr hcs))
      exact hK.out s _ HSS.out HBB.out
     (try simp only [Act.put, List.setIfInBounds_toArray, List.set_cons_zero, List.set_cons_succ])
     refine Safe.fin rfl hF3 (fun W8 hG hHeld => ?_)
     obtain ⟨⟨⟨⟨hR8, hZ8, hQ8⟩, -⟩, -⟩, hs9⟩ := hG
     clear HGd HFL hF2 hF3 z0 z1 p0 p1 m0 hz15 h14 ham
     refine wpTill_take 4 rfl (by decide +kernel) (fun c a w h => by first | exact h | (cases h; done)) (by rfl) (v := ?_) ?_ hHeld (fun hHeld' => ?_)
     rotate_left 1
     focus (intro w' hSw; obtain ⟨hC, hF, hG⟩ := hSw; clear hG; clear hF; go_simp; first | done | with_reducible rfl)
     clear hHeld
     rename Till _ _ _ _ _ _ _ => hHeld
     (try simp only [Act.put, List.setIfInBounds_toArray, List.set_cons_zero, List.set_cons_succ])
     refine wpTill_take 5 rfl (by decide +kernel) (fun c a w h => by first | exact h | (cases h; done)) (by rfl) (v := ?_) ?_ hHeld (fun hHeld' => ?_)
     rotate_left 1
     focus (intro w' hSw; obtain ⟨hC, hF, hG⟩ := hSw; clear hG; clear hF; go_simp; first | done | with_reducible rfl)
     clear hHeld
     rename Till _ _ _ _ _ _ _ => hHeld
     (try simp only [Act.put, List.setIfInBounds_toArray, List.set_cons_zero, List.set_cons_succ])
     refine wpTill_take 6 rfl (by decide +kernel) (fun c a w h => by first | exact h | (cases h; done)) (by rfl) (v := ?_) ?_ hHeld (fun hHeld' => ?_)
     rotate_left 1
     focus (intro w' hSw; obtain ⟨hC, hF, hG⟩ := hSw; clear hG; clear hF; go_simp; first | done | with_reducible rfl)
     clear hHeld
     rename Till _ _ _ _ _ _ _ => hHeld
     (try simp only [Act.put, List.setIfInBounds_toArray, List.set_cons_zero, List.set_cons_succ])
     refine wpTill_one 7 rfl (by decide +kernel) (fun K hK => ?_)
     go_simp
     refine hK.out _ _ ⟨trivial, fun h => absurd h (by decide +kernel), fun _ => trivial⟩ (fun hHeld => ?_)
     clear hK K
     (try simp only [Act.put, List.setIfInBounds_toArray, List.set_cons_zero, List.set_cons_succ])
     refine wpTill_take 8 rfl (by decide +kernel) (fun c a w h => by first | exact h | (cases h; done)) (by rfl) (v := ?_) ?_ hHeld (fun hHeld' => ?_)
     rotate_left 1
     focus (intro w' hSw; obtain ⟨hC, hF, hG⟩ := hSw; clear hG; clear hF; go_simp; first | done | with_reducible rfl)
     clear hHeld
     rename Till _ _ _ _ _ _ _ => hHeld
     (try simp only [Act.put, List.setIfInBounds_toArray, List.set_cons_zero, List.set_cons_succ])
     refine wpTill_done (by decide +kernel) ?_
     clear hHeld
     have hs9' : ¬ 0 ≤ x3 := by omega
     go_wp2
     exact HJ.out _ _ ⟨hR8, hZ8, hQ8⟩ (by kernel_rfl)
    clear HK0 hK1 HR8 HZ8 HQ8 p0 p1 m0 hz15 h14 ham hs8 hs8'
    simp only [List.foldl_cons, List.foldl_nil, Act.put, List.setIfInBounds_toArray, List.set_cons_zero, List.set_cons_succ]
    obtain ⟨hR8, hZ8, hQ8⟩ := hR
    have HR8 := hide hR8; have HZ8 := hide hZ8; have HQ8 := hide hQ8
    clear hR8 hZ8 hQ8
    have hz15 : X15 < W8.heap.size := HZ8.out.lt
    have h14 : X14 < W8.heap.size := HR8.out.p.lt
    have ham : am.block < W8.heap.size := World.block_lt_of_cell? W8 am HR8.out.m
    obtain ⟨p0, p1, _, _⟩ := HR8.out.p.two
    have m0 := HR8.out.m
    go_upto_region 27 with fail
    obtain ⟨e1, et, ec, hadd⟩ : ∃ a b c, plusS sd (ratT sc) d (ratT 1) 1 = (a, b, c) := ⟨_, _, _, rfl⟩
    have HADD := hide hadd
    clear hadd
    have h11 : X11 < W8.heap.size := HR8.out.sum.lt
    have hB08 : B0 ≤ W8.heap.size := HR8.out.s.size
    obtain ⟨y0, y1, _, _⟩ := HR8.out.sum.two
    have HGd : Hid ((RoundS w B0 X7 xd A1 n1 c1 (ratT xc) X9 wh (some ad) co L X10 ld Al nl cl lt X11 sd As ns cs (ratT sc) X14 am cp d W8.drew ∧ Blk W8.drew X15 33 #[.int .i64 rd, .slice A7 n7 c7] ∧ OwnN W5.heap.size (A7, n7, c7) (ratT rc) W8.drew) ∧ (Below W8.heap.size W8 W8.drew ∧ W8.heap.size ≤ W8.drew.heap.size)) := hide ⟨Kept.keep (S := fun W => (RoundS w B0 X7 xd A1 n1 c1 (ratT xc) X9 wh (some ad) co L X10 ld Al nl cl lt X11 sd As ns cs (ratT sc) X14 am cp d W ∧ Blk W X15 33 #[.int .i64 rd, .slice A7 n7 c7] ∧ OwnN W5.heap.size (A7, n7, c7) (ratT rc) W)) _ _ ⟨HR8.out, HZ8.out, HQ8.out⟩ (Below.drew (Below.refl _ _)), Below.drew (Below.refl _ _), Nat.le_refl _⟩
    refine wp_region_flow 12 (fun W => Below W8.heap.size W8 W) (fun _ v W => MadeN W8.heap.size v W) [11] (fun W => (RoundS w B0 X7 xd A1 n1 c1 (ratT xc) X9 wh (some ad) co L X10 ld Al nl cl lt X11 sd As ns cs (ratT sc) X14 am cp d W ∧ Blk W X15 33 #[.int .i64 rd, .slice A7 n7 c7] ∧ OwnN W5.heap.size (A7, n7, c7) (ratT rc) W) ∧ (Below W8.heap.size W8 W ∧ W8.heap.size ≤ W.heap.size)) (by kernel_rfl)
     (Floats.of (by decide +kernel) (fun c a d v w => by cases d <;> exact Iff.rfl) (by
      intro i hi a W hF
      obtain rfl : i = 11 := by simpa using hi
      refine wpOp_step rfl (fun K' hK0 => ?_)
      have hK := hide hK0
      clear hK0
      go_simp
      exact hK.out _ _ ⟨_, rfl, ⟨_, rfl, hF.size, Blk.new _ _ _⟩, (Below.refl _ _).alloc (Nat.le_refl _) _⟩) (fun i v W W' ⟨X, h1, h2, h3⟩ hb => ⟨X, h1, h2, h3.below hb h3.lt⟩))
     (fun _ _ _ h => h) (by decide) HGd.out (fun W h => h.2.1) (fun HFL => ?_)
    refine Safe.take 0 (v := ?_) rfl rfl HFL (by decide +kernel) (fun W h => h.2.1) (by rfl) (fun W hF => ?_) ?_
    rotate_left 1
    focus (have hF := hF (by decide +kernel); have e1 := (hF.cell (p := ⟨X11, 0, none⟩) h11).trans y0; have e2 := (hF.cell (p := ⟨X11, 1, none⟩) h11).trans y1; clear hF; go_simp; first | done | with_reducible rfl)
    (try simp only [Act.put, List.setIfInBounds_toArray, List.set_cons_zero, List.set_cons_succ])
    refine Safe.take 2 (v := ?_) rfl rfl HFL (by decide +kernel) (fun W h => h.2.1) (by rfl) (fun W hF => ?_) ?_
    rotate_left 1
    focus (clear hF; go_simp; first | done | with_reducible rfl)
    (try simp only [Act.put, List.setIfInBounds_toArray, List.set_cons_zero, List.set_cons_succ])
    refine Safe.take 3 (v := ?_) rfl rfl HFL (by decide +kernel) (fun W h => h.2.1) (by rfl) (fun W hF => ?_) ?_
    rotate_left 1
    focus (have hF := hF (by decide +kernel); have e1 := (hF.cell (p := ⟨X14, 1, none⟩) h14).trans p1; clear hF; go_simp; first | done | with_reducible rfl)
    (try simp only [Act.put, List.setIfInBounds_toArray, List.set_cons_zero, List.set_cons_succ])
    refine Safe.take 4 (v := ?_) rfl rfl HFL (by decide +kernel) (fun W h => h.2.1) (by rfl) (fun W hF => ?_) ?_
    rotate_left 1
    focus (clear hF; go_simp; first | done | with_reducible rfl)
    (try simp only [Act.put, List.setIfInBounds_toArray, List.set_cons_zero, List.set_cons_succ])
    refine Safe.take 5 (v := ?_) rfl rfl HFL (by decide +kernel) (fun W h => h.2.1) (by rfl) (fun W hF => ?_) ?_
    rotate_left 1
    focus (have hF := hF (by decide +kernel); have e1 := (hF.cell (p := am) ham).trans m0; clear hF; go_simp; first | done | with_reducible rfl)
    (try simp only [Act.put, List.setIfInBounds_toArray, List.set_cons_zero, List.set_cons_succ])
    refine Safe.on 1 (fun x : Sl => .agg #[.int .i64 sd, .slice x.1 x.2.1 x.2.2]) (fun x W => OwnN B0 x (ratT sc) W) rfl rfl HFL (by decide +kernel) (fun W h => h.2.1) (fun W hG K' hK => ?_) (fun x1 hF1 => ?_)
    focus
     have HC := hide (own_num_any sd As ns cs _ (ratT sc) W (termsQ_of (terms_own hG.1.1.row)) (Nat.le_refl _) HNS.out)
     have hz := hG.1.1.s.size
     clear hG
     go_simp
     go_wp2_with (first
      | (go_at_call 19; refine HC.out.mono ?_; rintro e w6 ⟨A, n, c, rfl, ho, hb⟩
         have HO := hide (own_le ho hz); have HBB := hide hb; clear ho hb))
     exact hK.out (A, n, c) _ HO.out HBB.out
    (try simp only [Act.put, List.setIfInBounds_toArray, List.set_cons_zero, List.set_cons_succ])
    refine Safe.on 6 (fun x : Sl => .agg #[.int .i64 d, .slice x.1 x.2.1 x.2.2]) (fun x W => OwnN W8.heap.size x [(1, 1)] W) rfl rfl HFL (by decide +kernel) hF1 (fun W hG K' hK => ?_) (fun x6 hF6 => ?_)
    focus
     have HC := hide (lawNumber_any 1 d W)
     have hz : W8.heap.size ≤ W.heap.size := hG.1.2.2
     clear hG
     go_simp
     go_wp2_with (first
      | (go_at_call 17; refine HC.out.mono ?_; rintro e w6 ⟨A, n, c, rfl, ho, hb⟩
         have HO := hide (own_le ho hz); have HBB := hide hb; clear ho hb))
     exact hK.out (A, n, c) _ HO.out HBB.out
    (try simp only [Act.put, List.setIfInBounds_toArray, List.set_cons_zero, List.set_cons_succ])
    refine Safe.on 7 (fun x : Sl => .tuple #[.agg #[.int .i64 e1, .slice x.1 x.2.1 x.2.2], .int .i64 ec]) (fun x W => OwnN W8.heap.size x et W) rfl rfl HFL (by decide +kernel) hF6 (fun W hG K' hK => ?_) (fun x7 hF7 => ?_)
    focus
     have HC := hide (add_flat sd x1.1 x1.2.1 x1.2.2 (ratT sc) d x6.1 x6.2.1 x6.2.2 (ratT 1) W.heap.size W (terms_own hG.1.2) (terms_own hG.2) (Nat.le_refl _))
     rw [HADD.out] at HC
     have hz := hG.1.1.2.2
     clear hG
     go_simp
     go_wp2_with (first
      | (go_at_call 22; refine HC.out.mono ?_; rintro e w6 ⟨A, n, c, rfl, ho, hb⟩
         have HO := hide (own_le ho hz); have HBB := hide hb; clear ho hb))
     exact hK.out (A, n, c) _ HO.out HBB.out
    (try simp only [Act.put, List.setIfInBounds_toArray, List.set_cons_zero, List.set_cons_succ])
    refine Safe.take 8 (v := ?_) rfl rfl HFL (by decide +kernel) hF7 (by rfl) (fun W hF => ?_) ?_
    rotate_left 1
    focus (clear hF; go_simp; first | done | with_reducible rfl)
    (try simp only [Act.put, List.setIfInBounds_toArray, List.set_cons_zero, List.set_cons_succ])
    refine Safe.take 9 (v := ?_) rfl rfl HFL (by decide +kernel) hF7 (by rfl) (fun W hF => ?_) ?_
    rotate_left 1
    focus (clear hF; go_simp; first | done | with_reducible rfl)
    (try simp only [Act.put, List.setIfInBounds_toArray, List.set_cons_zero, List.set_cons_succ])
    refine Safe.take 10 (v := ?_) rfl rfl HFL (by decide +kernel) hF7 (by rfl) (fun W hF => ?_) ?_
    rotate_left 1
    focus (clear hF; go_simp; first | done | with_reducible rfl)
    (try simp only [Act.put, List.setIfInBounds_toArray, List.set_cons_zero, List.set_cons_succ])
    refine Safe.force (some 22) HFL (by decide +kernel) rfl hF7 (fun v11 => ?_)
    (try simp only [Act.put, List.setIfInBounds_toArray, List.set_cons_zero, List.set_cons_succ])
    refine Safe.fin rfl (fun W h => hF7 W h.1) (fun W9 hG hHeld => ?_)
    obtain ⟨⟨⟨⟨⟨⟨hR9, -, hQ9⟩, -⟩, -⟩, -⟩, hE9⟩, X22, rfl, hX22, hN9⟩ := hG
    have HR10 := hide (hR9.put (u := .int .i64 e1) (v := .slice x7.1 x7.2.1 x7.2.2) hN9 hX22 hB08 h11 h14 ham)
    have HE10 := hide (own_set (own_set hE9 hN9 (i := 0) (u := .int .i64 e1) (by decide)) (hN9.set_ 0 (.int .i64 e1)) (i := 1) (u := .slice x7.1 x7.2.1 x7.2.2) (by decide))
    have HZ10 := hide ((hN9.set_ 0 (.int .i64 e1)).set_ 1 (.slice x7.1 x7.2.1 x7.2.2))
    obtain ⟨q0, q1, qf0, qf1⟩ := hN9.two
    clear hR9 hQ9 hE9 HFL hF1 hF6 hF7 hN9 HGd HR8 HZ8 HQ8 y0 y1 p0 p1 m0 h11 hz15
    refine wpTill_one 12 rfl (by decide +kernel) (fun K hK => ?_)
    go_simp
    refine hK.out _ _ ⟨trivial, fun h => absurd h (by decide +kernel), fun _ => trivial⟩ (fun hHeld => ?_)
    clear hK K
    (try simp only [Act.put, List.setIfInBounds_toArray, List.set_cons_zero, List.set_cons_succ])
    refine wpTill_take 13 rfl (by decide +kernel) (fun c a w h => by first | exact h | (cases h; done)) (by rfl) (v := ?_) ?_ hHeld (fun hHeld' => ?_)
    rotate_left 1
    focus (intro w' hSw; obtain ⟨hC, hF, hG⟩ := hSw; clear hG; clear hF; go_simp; first | done | with_reducible rfl)
    clear hHeld
    rename Till _ _ _ _ _ _ _ => hHeld
    (try simp only [Act.put, List.setIfInBounds_toArray, List.set_cons_zero, List.set_cons_succ])
    refine wpTill_done (by decide +kernel) ?_
    clear hHeld
    clear q0 q1 qf0 qf1
    generalize (W9.setCell ⟨X22, 0, none⟩ (.int .i64 e1)).setCell ⟨X22, 1, none⟩ (.slice x7.1 x7.2.1 x7.2.2) = W10 at *
    obtain ⟨A9, n9, c9⟩ := x7
    dsimp only at HE10 HZ10
    have hadd := HADD.out
    rw [plus_ratS HSN.out HDN.out] at hadd
    by_cases hec : ec = 0
    rotate_left 1
    focus
     have hec10 : ec = 10 := by
      rcases normQ_code (sc * d + 1 * (1 * sd)) (sd * d) with h | h
      ·rw [hadd] at h; exact absurd h hec
      ·rw [hadd] at h; injection h with _ h; injection h with _ h
     subst hec10
     clear hadd hec
     have HBk := hide HR10.out.s.below
     go_wp2_with (first
      | (go_at_call 12; refine (HK.out _ HBk.out).mono ?_; rintro e wz ⟨rfl, hbz⟩
         have HBe := hide (HBk.out.trans (hbz.mono HBk.out.size))
         clear hbz))
     all_goals
      go_ret
      exact ⟨rfl, HBe.out⟩
    subst hec
    obtain ⟨ecf, rfl, hev, hen⟩ := normQ_ok (Int.mul_pos (numOK_pos HSN.out) (numOK_pos HDN.out)) hadd
    have HCN := hide (HNX.out e1 ecf hev hen)
    clear hadd hev hen HADD
    go_upto_region 30 with fail
    obtain ⟨p0, p1, _, _⟩ := HR10.out.p.two
    have m0 := HR10.out.m
    obtain ⟨y0, y1, yf0, yf1⟩ := HR10.out.sum.two
    obtain ⟨z0, z1, _, _⟩ := HZ10.out.two
    have hamX : am.block < X11 := Nat.lt_of_lt_of_le hamB hX11
    have HCe : Hid (((W10.drew.setCell ⟨X11, 0, none⟩ (.int .i64 e1)).setCell ⟨X11, 1, none⟩ (.slice A9 n9 c9)).cell? ⟨X14, 1, none⟩ = some (.slice (some am) 1 cp) ∧ ((W10.drew.setCell ⟨X11, 0, none⟩ (.int .i64 e1)).setCell ⟨X11, 1, none⟩ (.slice A9 n9 c9)).cell? am = some (.int .i64 d)) := hide
     ⟨by rw [World.cell?_setCell_far _ _ _ _ (by show X11 ≠ X14; omega), World.cell?_setCell_far _ _ _ _ (by show X11 ≠ X14; omega)]; exact p1,
       by rw [World.cell?_setCell_far _ _ _ _ (by show X11 ≠ am.block; omega), World.cell?_setCell_far _ _ _ _ (by show X11 ≠ am.block; omega)]; exact m0⟩
    refine wp_region_till (fun w' => w'.cell? ⟨X14, 1, none⟩ = some (.slice (some am) 1 cp) ∧ w'.cell? am = some (.int .i64 d)) 5 (fun w' => w' = W10.drew) 5 (fun _ => True) (by kernel_rfl) ⟨⟨p1, m0⟩, fun _ => rfl, fun _ => trivial⟩ (fun hHeld => ?_)
    refine wpTill_take 0 rfl (by decide +kernel) (fun c a w h => by first | exact h | (cases h; done)) (by rfl) (v := ?_) ?_ hHeld (fun hHeld' => ?_)
    rotate_left 1
    focus (intro w' hSw; obtain ⟨hC, hF, hG⟩ := hSw; clear hG; have hF := hF (by decide +kernel); subst hF; clear hC; go_simp; first | done | with_reducible rfl)
    clear hHeld
    rename Till _ _ _ _ _ _ _ => hHeld
    (try simp only [Act.put, List.setIfInBounds_toArray, List.set_cons_zero, List.set_cons_succ])
    refine wpTill_take 1 rfl (by decide +kernel) (fun c a w h => by first | exact h | (cases h; done)) (by rfl) (v := ?_) ?_ hHeld (fun hHeld' => ?_)
    rotate_left 1
    focus (intro w' hSw; obtain ⟨hC, hF, hG⟩ := hSw; clear hG; clear hF; clear hC; go_simp; first | done | with_reducible rfl)
    clear hHeld
    rename Till _ _ _ _ _ _ _ => hHeld
    (try simp only [Act.put, List.setIfInBounds_toArray, List.set_cons_zero, List.set_cons_succ])
    refine wpTill_take 2 rfl (by decide +kernel) (fun c a w h => by first | exact h | (cases h; done)) (by rfl) (v := ?_) ?_ hHeld (fun hHeld' => ?_)
    rotate_left 1
    focus (intro w' hSw; obtain ⟨hC, hF, hG⟩ := hSw; clear hG; clear hF; obtain ⟨hC, -⟩ := hC; go_simp; first | done | with_reducible rfl)
    clear hHeld
    rename Till _ _ _ _ _ _ _ => hHeld
    (try simp only [Act.put, List.setIfInBounds_toArray, List.set_cons_zero, List.set_cons_succ])
    refine wpTill_take 3 rfl (by decide +kernel) (fun c a w h => by first | exact h | (cases h; done)) (by rfl) (v := ?_) ?_ hHeld (fun hHeld' => ?_)
    rotate_left 1
    focus (intro w' hSw; obtain ⟨hC, hF, hG⟩ := hSw; clear hG; clear hF; clear hC; go_simp; first | done | with_reducible rfl)
    clear hHeld
    rename Till _ _ _ _ _ _ _ => hHeld
    (try simp only [Act.put, List.setIfInBounds_toArray, List.set_cons_zero, List.set_cons_succ])
    refine wpTill_take 4 rfl (by decide +kernel) (fun c a w h => by first | exact h | (cases h; done)) (by rfl) (v := ?_) ?_ hHeld (fun hHeld' => ?_)
    rotate_left 1
    focus (intro w' hSw; obtain ⟨hC, hF, hG⟩ := hSw; clear hG; clear hF; obtain ⟨-, hC⟩ := hC; go_simp; first | done | with_reducible rfl)
    clear hHeld
    rename Till _ _ _ _ _ _ _ => hHeld
    (try simp only [Act.put, List.setIfInBounds_toArray, List.set_cons_zero, List.set_cons_succ])
    refine wpTill_one 5 rfl (by decide +kernel) (fun K hK => ?_)
    go_simp
    refine hK.out _ _ ⟨HCe.out, fun h => absurd h (by decide +kernel), fun _ => trivial⟩ (fun hHeld => ?_)
    clear hK K
    (try simp only [Act.put, List.setIfInBounds_toArray, List.set_cons_zero, List.set_cons_succ])
    refine wpTill_take 6 rfl (by decide +kernel) (fun c a w h => by first | exact h | (cases h; done)) (by rfl) (v := ?_) ?_ hHeld (fun hHeld' => ?_)
    rotate_left 1
    focus (intro w' hSw; obtain ⟨hC, hF, hG⟩ := hSw; clear hG; clear hF; clear hC; go_simp; first | done | with_reducible rfl)
    clear hHeld
    rename Till _ _ _ _ _ _ _ => hHeld
    (try simp only [Act.put, List.setIfInBounds_toArray, List.set_cons_zero, List.set_cons_succ])
    refine wpTill_done (by decide +kernel) ?_
    clear hHeld
    have HSd := hide (Kept.keep _ _ HR10.out (Below.drew (Below.refl _ _)))
    have HSm := hide ((HSd.out.sum.set_ 0 (.int .i64 e1)).set_ 1 (.slice A9 n9 c9))
    have HRw := hide (own_set (own_set (HE10.out.drew) HSd.out.sum (i := 0) (u := .int .i64 e1) (by decide)) (HSd.out.sum.set_ 0 (.int .i64 e1)) (i := 1) (u := .slice A9 n9 c9) (by decide))
    have HSn := hide (HSd.out.s.under (((Below.refl B0 W10.drew).setCell (p := ⟨X11, 0, none⟩) hX11 (.int .i64 e1)).setCell (p := ⟨X11, 1, none⟩) hX11 (.slice A9 n9 c9)))
    clear p0 p1 m0 y0 y1 yf0 yf1 z0 z1 HCe HSd HR10 HE10 HZ10
    have hkb : k < 100 := by have := HLL.out; have := hQl; omega
    have hkw : IntKind.i64.wrap ((k : Int) + 1) = (k : Int) + 1 := by rw [IntKind.wrap_i64]; have := HLL.out; have := hkb; omega
    go_wp2
    go_roundw
    case measure => simp [intOf]; omega
    case rel =>
     rw [show ((W10.setCell ⟨X11, 0, none⟩ (.int .i64 e1)).setCell ⟨X11, 1, none⟩ (.slice A9 n9 c9)).drew = (W10.drew.setCell ⟨X11, 0, none⟩ (.int .i64 e1)).setCell ⟨X11, 1, none⟩ (.slice A9 n9 c9) from rfl]
     exact ⟨k + 1, d, e1, ecf, s1, rc2, A9, n9, c9, j, by omega, by simp, rfl, by omega, HSn.out, HSm.out, own_le HRw.out hB08, HCN.out, HGN.out⟩
   ·have hgf := HGF.out
    obtain ⟨rfl, rfl⟩ := greedy_end hgf (by have := HLL.out; omega)
    clear hgf HGF
    go_upto_region 31 with fail
    obtain ⟨y0, y1, _, _⟩ := HSUM.out.two
    obtain ⟨l0, l1, _, _⟩ := HS.out.l.two
    have h11 : X11 < wr.heap.size := HSUM.out.lt
    have h10 : X10 < wr.heap.size := HS.out.l.lt
    have hrl : (ratT rc).length ≤ 1 := by unfold ratT; split <;> simp
    have hsl : (ratT sc).length ≤ 1 := by unfold ratT; split <;> simp
    have HNL : Hid (nl ≤ 1000) := hide (by have h := HS.out.tl.len; omega)
    have HNS : Hid (ns ≤ 1000) := hide (by have h := (terms_own HROW.out).len; omega)
    have HLS := hide (HCH.out.last HXN.out)
    have HLR := hide HCH.out.r
    have HLP := hide HCH.out.pos
    have hB0r : B0 ≤ wr.heap.size := HS.out.size
    have HGd : Hid ((RestS w B0 wr.drew X7 xd A1 n1 c1 (ratT xc) X9 wh Ao co L X10 ld Al nl cl (ratT rc) ∧ Blk wr.drew X11 33 #[.int .i64 sd, .slice As ns cs] ∧ OwnN B0 (As, ns, cs) (ratT sc) wr.drew) ∧ (Below wr.heap.size wr wr.drew ∧ wr.heap.size ≤ wr.drew.heap.size)) := hide ⟨Kept.keep (S := fun W => (RestS w B0 W X7 xd A1 n1 c1 (ratT xc) X9 wh Ao co L X10 ld Al nl cl (ratT rc) ∧ Blk W X11 33 #[.int .i64 sd, .slice As ns cs] ∧ OwnN B0 (As, ns, cs) (ratT sc) W)) _ _ ⟨HS.out, HSUM.out, HROW.out⟩ (Below.drew (Below.refl _ _)), Below.drew (Below.refl _ _), Nat.le_refl _⟩
    refine wp_region_flow 9 (fun W => Below wr.heap.size wr W) (fun _ v W => MadeN wr.heap.size v W) [8] (fun W => (RestS w B0 W X7 xd A1 n1 c1 (ratT xc) X9 wh Ao co L X10 ld Al nl cl (ratT rc) ∧ Blk W X11 33 #[.int .i64 sd, .slice As ns cs] ∧ OwnN B0 (As, ns, cs) (ratT sc) W) ∧ (Below wr.heap.size wr W ∧ wr.heap.size ≤ W.heap.size)) (by kernel_rfl)
     (Floats.of (by decide +kernel) (fun c a d v w => by cases d <;> exact Iff.rfl) (by
      intro i hi a W hF
      obtain rfl : i = 8 := by simpa using hi
      refine wpOp_step rfl (fun K' hK0 => ?_)
      have hK := hide hK0
      clear hK0
      go_simp
      exact hK.out _ _ ⟨_, rfl, ⟨_, rfl, hF.size, Blk.new _ _ _⟩, (Below.refl _ _).alloc (Nat.le_refl _) _⟩) (fun i v W W' ⟨X, h1, h2, h3⟩ hb => ⟨X, h1, h2, h3.below hb h3.lt⟩))
     (fun _ _ _ h => h) (by decide) HGd.out (fun W h => h.2.1) (fun HFL => ?_)
    refine Safe.take 0 (v := ?_) rfl rfl HFL (by decide +kernel) (fun W h => h.2.1) (by rfl) (fun W hF => ?_) ?_
    rotate_left 1
    focus (have hF := hF (by decide +kernel); have e1 := (hF.cell (p := ⟨X11, 0, none⟩) h11).trans y0; have e2 := (hF.cell (p := ⟨X11, 1, none⟩) h11).trans y1; clear hF; go_simp; first | done | with_reducible rfl)
    (try simp only [Act.put, List.setIfInBounds_toArray, List.set_cons_zero, List.set_cons_succ])
    refine Safe.take 2 (v := ?_) rfl rfl HFL (by decide +kernel) (fun W h => h.2.1) (by rfl) (fun W hF => ?_) ?_
    rotate_left 1
    focus (have hF := hF (by decide +kernel); have e1 := (hF.cell (p := ⟨X10, 0, none⟩) h10).trans l0; have e2 := (hF.cell (p := ⟨X10, 1, none⟩) h10).trans l1; clear hF; go_simp; first | done | with_reducible rfl)
    (try simp only [Act.put, List.setIfInBounds_toArray, List.set_cons_zero, List.set_cons_succ])
    refine Safe.on 1 (fun x : Sl => .agg #[.int .i64 sd, .slice x.1 x.2.1 x.2.2]) (fun x W => OwnN B0 x (ratT sc) W) rfl rfl HFL (by decide +kernel) (fun W h => h.2.1) (fun W hG K' hK => ?_) (fun x1 hF1 => ?_)
    focus
     have HC := hide (own_num_any sd As ns cs _ (ratT sc) W (termsQ_of (terms_own hG.1.2.2)) (Nat.le_refl _) HNS.out)
     have hz := hG.1.1.size
     clear hG
     go_simp
     go_wp2_with (first
      | (go_at_call 19; refine HC.out.mono ?_; rintro e w6 ⟨A, n, c, rfl, ho, hb⟩
         have HO := hide (own_le ho hz); have HBB := hide hb; clear ho hb))
     exact hK.out (A, n, c) _ HO.out HBB.out
    (try simp only [Act.put, List.setIfInBounds_toArray, List.set_cons_zero, List.set_cons_succ])
    refine Safe.on 3 (fun x : Sl => .agg #[.int .i64 ld, .slice x.1 x.2.1 x.2.2]) (fun x W => OwnN B0 x (ratT rc) W) rfl rfl HFL (by decide +kernel) hF1 (fun W hG K' hK => ?_) (fun x3 hF3 => ?_)
    focus
     have HC := hide (own_num_any ld Al nl cl _ (ratT rc) W (termsQ_of hG.1.1.1.tl) hG.1.1.1.size HNL.out)
     have hz := hG.1.1.1.size
     clear hG
     go_simp
     go_wp2_with (first
      | (go_at_call 19; refine HC.out.mono ?_; rintro e w6 ⟨A, n, c, rfl, ho, hb⟩
         have HO := hide (own_le ho hz); have HBB := hide hb; clear ho hb))
     exact hK.out (A, n, c) _ HO.out HBB.out
    (try simp only [Act.put, List.setIfInBounds_toArray, List.set_cons_zero, List.set_cons_succ])
    refine Safe.on 4 (fun x : Sl => .tuple #[.agg #[.int .i64 xd, .slice x.1 x.2.1 x.2.2], .int .i64 0]) (fun x W => OwnN wr.heap.size x (ratT xc) W) rfl rfl HFL (by decide +kernel) hF3 (fun W hG K' hK => ?_) (fun x4 hF4 => ?_)
    focus
     have HC := hide (add_flat sd x1.1 x1.2.1 x1.2.2 (ratT sc) ld x3.1 x3.2.1 x3.2.2 (ratT rc) W.heap.size W (terms_own hG.1.2) (terms_own hG.2) (Nat.le_refl _))
     rw [HLS.out] at HC
     have hz := hG.1.1.2.2
     clear hG
     go_simp
     go_wp2_with (first
      | (go_at_call 22; refine HC.out.mono ?_; rintro e w6 ⟨A, n, c, rfl, ho, hb⟩
         have HO := hide (own_le ho hz); have HBB := hide hb; clear ho hb))
     exact hK.out (A, n, c) _ HO.out HBB.out
    (try simp only [Act.put, List.setIfInBounds_toArray, List.set_cons_zero, List.set_cons_succ])
    refine Safe.take 5 (v := ?_) rfl rfl HFL (by decide +kernel) hF4 (by rfl) (fun W hF => ?_) ?_
    rotate_left 1
    focus (clear hF; go_simp; first | done | with_reducible rfl)
    (try simp only [Act.put, List.setIfInBounds_toArray, List.set_cons_zero, List.set_cons_succ])
    refine Safe.take 6 (v := ?_) rfl rfl HFL (by decide +kernel) hF4 (by rfl) (fun W hF => ?_) ?_
    rotate_left 1
    focus (clear hF; go_simp; first | done | with_reducible rfl)
    (try simp only [Act.put, List.setIfInBounds_toArray, List.set_cons_zero, List.set_cons_succ])
    refine Safe.take 7 (v := ?_) rfl rfl HFL (by decide +kernel) hF4 (by rfl) (fun W hF => ?_) ?_
    rotate_left 1
    focus (clear hF; go_simp; first | done | with_reducible rfl)
    (try simp only [Act.put, List.setIfInBounds_toArray, List.set_cons_zero, List.set_cons_succ])
    refine Safe.force (some 23) HFL (by decide +kernel) rfl hF4 (fun v8 => ?_)
    (try simp only [Act.put, List.setIfInBounds_toArray, List.set_cons_zero, List.set_cons_succ])
    refine Safe.fin rfl (fun W h => hF4 W h.1) (fun W9 hG hHeld => ?_)
    obtain ⟨⟨⟨⟨⟨⟨hS9, -, -⟩, -⟩, -⟩, -⟩, hE9⟩, X23, rfl, hX23, hN9⟩ := hG
    have hX23b : B0 ≤ X23 := Nat.le_trans hB0r hX23
    have HS10 := hide (hS9.under (((Below.refl B0 W9).setCell (p := ⟨X23, 0, none⟩) hX23b (.int .i64 xd)).setCell (p := ⟨X23, 1, none⟩) hX23b (.slice x4.1 x4.2.1 x4.2.2)))
    have HE10 := hide (own_set (own_set hE9 hN9 (i := 0) (u := .int .i64 xd) (by decide)) (hN9.set_ 0 (.int .i64 xd)) (i := 1) (u := .slice x4.1 x4.2.1 x4.2.2) (by decide))
    have HZ10 := hide ((hN9.set_ 0 (.int .i64 xd)).set_ 1 (.slice x4.1 x4.2.1 x4.2.2))
    obtain ⟨q0, q1, qf0, qf1⟩ := hN9.two
    clear hS9 hE9 HFL hF1 hF3 hF4 hN9 HGd HS HSUM HROW y0 y1 l0 l1 h11 h10 o0 o1 HCH
    refine wpTill_one 9 rfl (by decide +kernel) (fun K hK => ?_)
    go_simp
    refine hK.out _ _ ⟨trivial, fun h => absurd h (by decide +kernel), fun _ => trivial⟩ (fun hHeld => ?_)
    clear hK K
    (try simp only [Act.put, List.setIfInBounds_toArray, List.set_cons_zero, List.set_cons_succ])
    refine wpTill_take 10 rfl (by decide +kernel) (fun c a w h => by first | exact h | (cases h; done)) (by rfl) (v := ?_) ?_ hHeld (fun hHeld' => ?_)
    rotate_left 1
    focus (intro w' hSw; obtain ⟨hC, hF, hG⟩ := hSw; clear hG; clear hF; go_simp; first | done | with_reducible rfl)
    clear hHeld
    rename Till _ _ _ _ _ _ _ => hHeld
    (try simp only [Act.put, List.setIfInBounds_toArray, List.set_cons_zero, List.set_cons_succ])
    refine wpTill_done (by decide +kernel) ?_
    clear hHeld
    clear q0 q1 qf0 qf1
    generalize (W9.setCell ⟨X23, 0, none⟩ (.int .i64 xd)).setCell ⟨X23, 1, none⟩ (.slice x4.1 x4.2.1 x4.2.2) = W10 at *
    obtain ⟨A9, n9, c9⟩ := x4
    dsimp only at HE10 HZ10
    obtain ⟨l0, l1, _, _⟩ := HS10.out.l.two
    have HSG := hide (sign_flat ld Al nl cl (ratT rc) B0 W10 HS10.out.tl HS10.out.size)
    go_upto_region 33 with (first
     | (go_at_call 20; refine HSG.out.mono ?_; rintro e w11 ⟨s, c, rfl, hsr, hb⟩
        obtain ⟨hc0, hss⟩ := sign_rat HLR.out hsr
        subst hc0
        have hs0 : 0 ≤ s := by have := HLP.out; omega
        have HS11 := hide (HS10.out.under (hb.mono HS10.out.size))
        have HZ11 := hide (HZ10.out.below hb HZ10.out.lt)
        have HE11 := hide (own_below HE10.out hb)
        clear hb hsr hss))
    obtain ⟨x0, x1, _, _⟩ := HS11.out.x.two
    obtain ⟨z0, z1, _, _⟩ := HZ11.out.two
    have HSA := hide (same_rat xd A9 n9 c9 A1 n1 c1 (xt := ratT xc) w11.heap.size B0 w11 (terms_own HE11.out) HS11.out.tx (Nat.le_refl _) HS11.out.size)
    have HB11 := hide HS11.out.below
    go_wp2_with (first
     | (go_at_call 25; refine HSA.out.mono ?_; rintro e w12 ⟨rfl, hb⟩
        have HB12 := hide (HB11.out.trans (hb.mono HB11.out.size))
        clear hb)
     | (go_at_call 12; refine (HK.out _ HB12.out).mono ?_; rintro e wz ⟨rfl, hbz⟩
        have HBe := hide (HB12.out.trans (hbz.mono HB12.out.size))
        clear hbz))
    all_goals
     go_ret
     exact ⟨rfl, HBe.out⟩
end Go.Proofs.YtloegjlknpioeaaGreatDoor
