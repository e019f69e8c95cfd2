import Derived.Test.YthkblgglmohciaaGreatDoorTimAToAsyY
set_option linter.unusedVariables false
set_option linter.unusedSimpArgs false
namespace Go.Proofs.YthkblgglmohciaaGreatDoor
theorem field_add {xd yd zd a p b q : Int} {xt yt zt as_ pt bt qt : List (Int × Int)} (hx : numOK xd xt = true) (hy : numOK yd yt = true) (hz : numOK zd zt = true)
  (h1 : plusS xd xt yd yt 1 = (a, as_, 0)) (h2 : plusS a as_ zd zt 1 = (p, pt, 0)) (h3 : plusS yd yt zd zt 1 = (b, bt, 0)) (h4 : plusS b bt xd xt 1 = (q, qt, 0)) : p = q ∧ pt = qt :=
 IsN.same (plus_is (plus_is (IsN.self hx) (IsN.self hy) h1) (IsN.self hz) h2) (plus_is (plus_is (IsN.self hy) (IsN.self hz) h3) (IsN.self hx) h4) (Near.of_eq fun k => by (try dsimp only); grind)
theorem field_mul {xd yd zd a p b q : Int} {xt yt zt as_ pt bt qt : List (Int × Int)} (hx : numOK xd xt = true) (hy : numOK yd yt = true) (hz : numOK zd zt = true)
  (h1 : mulS xd xt yd yt = (a, as_, 0)) (h2 : mulS a as_ zd zt = (p, pt, 0)) (h3 : mulS yd yt zd zt = (b, bt, 0)) (h4 : mulS b bt xd xt = (q, qt, 0)) : p = q ∧ pt = qt := by
 have m1 := prod_mul (numOK_free hx) (numOK_free hy)
 have m3 := prod_mul (numOK_free hy) (numOK_free hz)
 have i1 := mul_is (IsN.self hx) (IsN.self hy) m1 h1
 have i3 := mul_is (IsN.self hy) (IsN.self hz) m3 h3
 obtain ⟨_, _, G, hG, hE, hN⟩ := mulS_lin h4
 obtain ⟨_, G3, hG3, hE3, hN3⟩ := i3
 have m4 : MulN (linK (prodS [] yt zt)) (linT xt) (fun k => G3 * (G * linT qt k)) := (hN.smul_l G3).near_l (linT_OB xt) hN3
 have m2 := MulN.assoc m1 m3 m4.comm (linT_OB xt) (linT_OB zt)
 have j2 := mul_is i1 (IsN.self hz) m2 h2
 have j4 := mul_is ⟨by have := mulS_lin h4; exact this.1, G3, hG3, hE3, hN3⟩ (IsN.self hx) m4 h4
 exact IsN.same j2 j4 (Near.of_eq fun k => by (try dsimp only); grind)
theorem field_dist {xd yd zd a p u v : Int} {xt yt zt as_ pt ut vt : List (Int × Int)} (hx : numOK xd xt = true) (hy : numOK yd yt = true) (hz : numOK zd zt = true)
  (h1 : plusS xd xt yd yt 1 = (a, as_, 0)) (h2 : mulS a as_ zd zt = (p, pt, 0)) (h3 : mulS xd xt zd zt = (u, ut, 0)) (h4 : mulS yd yt zd zt = (v, vt, 0)) : plusS u ut v vt 1 = (p, pt, 0) := by
 have mx := prod_mul (numOK_free hx) (numOK_free hz)
 have my := prod_mul (numOK_free hy) (numOK_free hz)
 have i1 := plus_is (IsN.self hx) (IsN.self hy) h1
 have m1 : MulN (fun k => yd * linT xt k + 1 * xd * linT yt k) (linT zt) (fun k => yd * linK (prodS [] xt zt) k + 1 * xd * linK (prodS [] yt zt) k) := ((mx.smul_l yd).comm.add (my.smul_l (1 * xd)).comm).comm
 have ip := mul_is i1 (IsN.self hz) m1 h2
 have iu := mul_is (IsN.self hx) (IsN.self hz) mx h3
 have iv := mul_is (IsN.self hy) (IsN.self hz) my h4
 refine plus_near iu.1 iv.1 ip.1 (Near.unsmul (c := xd * yd * zd) (by have := ip.pos; omega) ?_)
 have e1 := iu.val; have e2 := iv.val; have e3 := ip.val
 refine Near.trans (Near.of_eq fun k => ?_) (((e1.smul (p * v * yd)).add (e2.smul (p * u * xd))).trans (Near.trans (Near.of_eq fun k => ?_) ((e3.symm.smul (u * v)).trans (Near.of_eq fun k => ?_)))) <;> (try dsimp only) <;> grind
theorem field_sub {xd yd a p : Int} {xt yt as_ pt : List (Int × Int)} (hx : numOK xd xt = true) (hy : numOK yd yt = true)
  (h1 : plusS xd xt yd yt 1 = (a, as_, 0)) (h2 : plusS a as_ yd yt (-1) = (p, pt, 0)) : p = xd ∧ pt = xt :=
 IsN.same (plus_is (plus_is (IsN.self hx) (IsN.self hy) h1) (IsN.self hy) h2) (IsN.self hx) (Near.of_eq fun k => by (try dsimp only); grind)
theorem field_quo {xd yd r : Int} {xt yt rt : List (Int × Int)} (h : quoS xd xt yd yt = (r, rt, 0)) : mulS r rt yd yt = (xd, xt, 0) := by
 obtain ⟨hx, hy, hr, _, _, P, hp, hn⟩ := quoS_lin h
 exact mul_near hr hy hx hp hn
theorem field_none {xd yd : Int} {xt yt : List (Int × Int)} (hx : numOK xd xt = true) (hy : numOK yd yt = true) : ((quoS xd xt yd yt).2.2 = 7 ↔ yt.length = 0) := by
 unfold quoS
 rw [hx, hy, if_pos (by rfl)]
 split
 ·rename_i h; exact ⟨fun _ => h, fun _ => rfl⟩
 ·rename_i h
  refine ⟨fun h7 => ?_, fun h0 => absurd h0 h⟩
  exfalso
  split at h7
  ·cases h7
  ·rcases overS_code (prodS [] xt (turnL yd yt)) (xd * normL yt) with h8 | h8 | ⟨h8, _⟩
   ·rw [h8] at h7; cases h7
   ·rw [h8] at h7; cases h7
   ·rw [h8] at h7; cases h7
theorem field_some {xd yd r : Int} {xt yt rt : List (Int × Int)} (h : quoS xd xt yd yt = (r, rt, 0)) : yt.length ≠ 0 := (quoS_lin h).2.2.2.1
end Go.Proofs.YthkblgglmohciaaGreatDoor
namespace Go.Proofs.YthkblgglmohciaaGreatDoor
theorem Sg.add_same {f g : Nat → Int} {s : Int} (hf : Sg f s) (hg : Sg g s) : Sg (fun k => f k + g k) s := by
 rcases hf with ⟨rfl, hf⟩ | ⟨rfl, hf⟩ | ⟨rfl, hf⟩
 ·rcases hg with ⟨_, hg⟩ | ⟨h, _⟩ | ⟨h, _⟩
  ·exact .inl ⟨rfl, hf.add hg⟩
  ·omega
  ·omega
 ·rcases hg with ⟨h, _⟩ | ⟨_, hg⟩ | ⟨h, _⟩
  ·omega
  ·exact .inr (.inl ⟨rfl, (hf.add hg).congr fun k => by (try dsimp only); omega⟩)
  ·omega
 ·rcases hg with ⟨h, _⟩ | ⟨h, _⟩ | ⟨_, hg⟩
  ·omega
  ·omega
  ·exact .inr (.inr ⟨rfl, Bdd.add hf hg⟩)
theorem Sg.congr {f g : Nat → Int} {s : Int} (h : Sg f s) (e : ∀ k, f k = g k) : Sg g s := h.near (Near.of_eq e)
theorem Sg.range {f : Nat → Int} {s : Int} (h : Sg f s) : s = 1 ∨ s = -1 ∨ s = 0 := by
 rcases h with ⟨h, _⟩ | ⟨h, _⟩ | ⟨h, _⟩ <;> omega
theorem Sg.bdd {f : Nat → Int} (h : Sg f 0) : Bdd f := by
 rcases h with ⟨h, _⟩ | ⟨h, _⟩ | ⟨_, h⟩
 ·omega
 ·omega
 ·exact h
theorem cmp_ok {xd yd s c : Int} {xt yt : List (Int × Int)} (hx : numOK xd xt = true) (hy : numOK yd yt = true) (h : CmpRes xd xt yd yt s c) : c = 0 ∧ SignOf (lessT xt yd yt xd) s := by
 rcases h with ⟨_, h, h0⟩ | ⟨h, _⟩
 ·exact ⟨h0, h⟩
 ·rw [hx, hy] at h; cases h
theorem sign_ok_ {d s c : Int} {ts : List (Int × Int)} (hx : numOK d ts = true) (h : SignRes d ts s c) : c = 0 ∧ SignOf ts s := by
 rcases h with ⟨_, h, h0⟩ | ⟨h, _⟩
 ·exact ⟨h0, h⟩
 ·rw [hx] at h; cases h
theorem cmp_sg {xd yd s c : Int} {xt yt : List (Int × Int)} (hx : numOK xd xt = true) (hy : numOK yd yt = true) (h : CmpRes xd xt yd yt s c) : c = 0 ∧ Sg (fun k => yd * linT xt k - xd * linT yt k) s := by
 obtain ⟨h0, h1⟩ := cmp_ok hx hy h
 exact ⟨h0, h1.sg.congr fun k => linT_lessT _ _ _ _ _⟩
theorem cmp_is {D1 D2 a b s c : Int} {X Y : Nat → Int} {at_ bt : List (Int × Int)} (hx : IsN D1 X a at_) (hy : IsN D2 Y b bt) (h : CmpRes a at_ b bt s c) : c = 0 ∧ Sg (fun k => D2 * X k - D1 * Y k) s := by
 obtain ⟨h0, h1⟩ := cmp_sg hx.1 hy.1 h
 refine ⟨h0, ?_⟩
 obtain ⟨_, G1, hG1, rfl, n1⟩ := hx
 obtain ⟨_, G2, hG2, rfl, n2⟩ := hy
 refine (h1.smul (Int.mul_pos hG1 hG2)).near (Near.trans (Near.of_eq fun k => ?_) ((n1.smul (b * G2)).sub (n2.smul (a * G1))))
 (try dsimp only); grind
theorem order_anti {xd yd n m c c' : Int} {xt yt : List (Int × Int)} (hx : numOK xd xt = true) (hy : numOK yd yt = true) (h1 : CmpRes xd xt yd yt n c) (h2 : CmpRes yd yt xd xt m c') : c = 0 ∧ c' = 0 ∧ n = -m ∧ (n = 1 ∨ n = -1 ∨ n = 0) ∧ (n = 0 ↔ xd = yd ∧ xt = yt) := by
 obtain ⟨e1, s1⟩ := cmp_sg hx hy h1
 obtain ⟨e2, s2⟩ := cmp_sg hy hx h2
 refine ⟨e1, e2, s1.unique (s2.neg.congr fun k => by omega), s1.range, fun h => ?_, fun h => ?_⟩
 ·rw [h] at s1
  exact same_near hx hy s1.bdd
 ·refine s1.unique (.inr (.inr ⟨rfl, Bdd.zero.congr fun k => ?_⟩))
  rw [h.1, h.2]; omega
theorem order_trans {xd yd zd n k j c c' c'' : Int} {xt yt zt : List (Int × Int)} (hx : numOK xd xt = true) (hy : numOK yd yt = true) (hz : numOK zd zt = true) (h1 : CmpRes xd xt yd yt n c) (h2 : CmpRes yd yt zd zt k c') (h3 : CmpRes xd xt zd zt j c'') : n = k → j = n := by
 rintro rfl
 obtain ⟨_, s1⟩ := cmp_sg hx hy h1
 obtain ⟨_, s2⟩ := cmp_sg hy hz h2
 obtain ⟨_, s3⟩ := cmp_sg hx hz h3
 refine s3.unique (Sg.unsmul (numOK_d hy) (((s1.smul (numOK_d hz)).add_same (s2.smul (numOK_d hx))).congr fun k => ?_))
 (try dsimp only); grind
theorem order_add {xd yd zd n c a b i e : Int} {xt yt zt at_ bt : List (Int × Int)} (hx : numOK xd xt = true) (hy : numOK yd yt = true) (hz : numOK zd zt = true) (h1 : CmpRes xd xt yd yt n c)
  (ha : plusS xd xt zd zt 1 = (a, at_, 0)) (hb : plusS yd yt zd zt 1 = (b, bt, 0)) (h : CmpRes a at_ b bt i e) : e = 0 ∧ i = n := by
 obtain ⟨_, s1⟩ := cmp_sg hx hy h1
 obtain ⟨e0, s2⟩ := cmp_is (plus_is (IsN.self hx) (IsN.self hz) ha) (plus_is (IsN.self hy) (IsN.self hz) hb) h
 refine ⟨e0, s2.unique ((s1.smul (Int.mul_pos (numOK_d hz) (numOK_d hz))).congr fun k => ?_)⟩
 (try dsimp only); grind
theorem order_mul {xd yd zd n c s c' a b i e : Int} {xt yt zt at_ bt : List (Int × Int)} (hx : numOK xd xt = true) (hy : numOK yd yt = true) (hz : numOK zd zt = true) (h1 : CmpRes xd xt yd yt n c) (hs : SignRes zd zt s c')
  (ha : mulS xd xt zd zt = (a, at_, 0)) (hb : mulS yd yt zd zt = (b, bt, 0)) (h : CmpRes a at_ b bt i e) : e = 0 ∧ i = n * s := by
 obtain ⟨_, s1⟩ := cmp_sg hx hy h1
 obtain ⟨_, s0⟩ := sign_ok_ hz hs
 have mx := prod_mul (numOK_free hx) (numOK_free hz)
 have my := prod_mul (numOK_free hy) (numOK_free hz)
 obtain ⟨e0, s2⟩ := cmp_is (mul_is (IsN.self hx) (IsN.self hz) mx ha) (mul_is (IsN.self hy) (IsN.self hz) my hb) h
 have m1 : MulN (fun k => yd * linT xt k - xd * linT yt k) (linT zt) (fun k => yd * linK (prodS [] xt zt) k - xd * linK (prodS [] yt zt) k) :=
  (((mx.smul_l yd).comm.add (my.smul_l (-xd)).comm).comm).congr (fun k => by (try dsimp only); rw [Int.neg_mul]; omega) (fun _ => rfl) (fun k => by (try dsimp only); rw [Int.neg_mul]; omega)
 have o1 : OB (fun k => yd * linT xt k - xd * linT yt k) := by
  obtain ⟨C, h⟩ := OB.add (OB.smul yd (linT_OB xt)) (OB.smul (-xd) (linT_OB yt))
  exact ⟨C, fun k => by have := h k; dsimp only at this ⊢; rw [Int.neg_mul] at this; exact this⟩
 refine ⟨e0, s2.unique (((m1.sg s1 s0.sg o1 (linT_OB zt)).smul (numOK_d hz)).congr fun k => ?_)⟩
 (try dsimp only); grind
end Go.Proofs.YthkblgglmohciaaGreatDoor
namespace Go.Proofs.YthkblgglmohciaaGreatDoor
theorem make_intS {num D : Int} (hn : -100000 ≤ num ∧ num ≤ 100000) (hD : 1 ≤ D ∧ D ≤ 100000) : ∃ d q, makeS D [(num, 1)] = (d, ratT q, 0) ∧ numOK d (ratT q) = true ∧ q * D = num * d := by
 have e : addAll [] [(num, 1)] 1 = [(1, num)] := by
  show addRoot [] (num * 1) 1 = _
  unfold addRoot
  rw [if_pos (by decide), show (1 : Int).toNat = 1 from rfl, split1Q]
  simp [addS]
 have e1 : makeS D [(num, 1)] = normQ num D := by
  unfold makeS
  rw [if_neg (by simp), if_neg, e]
  ·exact over_one (by omega)
  ·rintro (h | h)
   ·rw [show inB D 1 100000 = true by simpa [inB] using hD] at h; cases h
   ·rw [List.any_cons, List.any_nil, Bool.or_false] at h
    have : badT (num, 1) = false := by
     unfold badT
     rw [show inB num (-100000) 100000 = true by simp [inB]; omega]
     show (!true || !inB 1 0 1000) = false
     decide
    rw [this] at h; cases h
 obtain ⟨h1, _, _, _, h5, h6⟩ := norm_parts (v := num) (den := D) (by omega)
 have h0 : (normQ num D).2.2 = 0 := by
  unfold normQ
  rw [if_neg]
  rintro (h | h)
  ·omega
  ·rw [show inB (num.tdiv (gcdQ num D)) (-100000) 100000 = true by simp [inB]; omega] at h; cases h
 obtain ⟨d, ts, c, he⟩ : ∃ d ts c, normQ num D = (d, ts, c) := ⟨_, _, _, rfl⟩
 rw [he] at h0
 dsimp only at h0
 subst h0
 obtain ⟨q, rfl, g1, g2⟩ := normQ_ok (by omega) he
 exact ⟨d, q, e1.trans he, g2, g1⟩
structure BetP (xd : Int) (X : Nat → Int) (f low high : Int) : Prop where
 lo : LowOf X xd f low
 hi : (Grows (fun k => f * X k - xd * low * bits k) ∧ high = low + 1) ∨ (Bdd (fun k => f * X k - xd * low * bits k) ∧ high = low)
theorem bounds_is {xd f low high c : Int} {xt : List (Int × Int)} (hx : numOK xd xt = true) (hf : 1 ≤ f ∧ f ≤ 1000000000) (h : BoundsRes xd xt f low high c) : c = 0 ∧ BetP xd (linT xt) f low high := by
 have hin : inB f 1 1000000000 = true := by simp [inB]; omega
 have hN := IsN.self hx
 rcases h with ⟨h, _⟩ | ⟨_, h, _⟩ | ⟨_, _, hc0, hbl, hh⟩
 ·rw [hx] at h; cases h
 ·rw [hin] at h; cases h
 ·refine ⟨hc0, hN.low hbl, ?_⟩
  rcases hh with ⟨⟨s, h1, h2⟩, h3⟩ | ⟨h2, h3⟩
  ·exact .inl ⟨(hN.sg h2).one h1, h3⟩
  ·exact .inr ⟨(hN.sg h2).bdd, h3⟩
theorem BetP.step {xd f low high : Int} {X : Nat → Int} (h : BetP xd X f low high) : high = low + 1 ∨ high = low := by
 rcases h.hi with ⟨_, h⟩ | ⟨_, h⟩
 ·exact .inl h
 ·exact .inr h
theorem BetP.up {xd f low high : Int} {X : Nat → Int} (h : BetP xd X f low high) : Ge (fun k => xd * high * bits k - f * X k) := by
 rcases h.hi with ⟨_, rfl⟩ | ⟨h1, rfl⟩
 ·exact .inl (Grows.congr (fun k => by (try dsimp only); omega) h.lo.2)
 ·exact .inr (h1.neg.congr fun k => by (try dsimp only); omega)
theorem BetP.fine {xd f k low high less more : Int} {X : Nat → Int} (hd : 0 < xd) (hk : 1 ≤ k) (h : BetP xd X f low high) (h' : BetP xd X (f * k) less more) : low * k ≤ less ∧ more ≤ high * k ∧ less ≤ more := by
 have h1 : low * k ≤ less := h'.lo.le hd ((h.lo.1.smul (show 0 < k by omega)).near (Near.of_eq fun j => by (try dsimp only); grind))
 refine ⟨h1, ?_, by rcases h'.step with h | h <;> omega⟩
 rcases Int.lt_or_le (high * k) more with hm | hm
 ·exfalso
  have g1 := h.up.smul (show 0 < k by omega)
  have g2 : Grows (fun j => f * k * X j - xd * (more - 1) * bits j) ∨ (Bdd (fun j => f * k * X j - xd * more * bits j)) := by
   rcases h'.hi with ⟨g, rfl⟩ | ⟨g, rfl⟩
   ·exact .inl (g.congr fun j => by rw [Int.add_sub_cancel])
   ·exact .inr g
  rcases g2 with g2 | g2
  ·have g3 := (g2.add_ge g1).add_ge (ge_bits (c := xd * (more - 1 - high * k)) (Int.mul_nonneg (Int.le_of_lt hd) (by omega)))
   exact g3.not_bdd (Bdd.zero.congr fun j => by (try dsimp only); grind)
  ·have g3 := (grows_bits (c := xd * (more - high * k)) (Int.mul_pos hd (by omega))).add_ge (Ge.add g1 (.inr g2))
   exact g3.not_bdd (Bdd.zero.congr fun j => by (try dsimp only); grind)
 ·exact hm
theorem linT_le : ∀ (ts : List (Int × Int)) (k : Nat), (∀ t ∈ ts, -100000 ≤ t.1 ∧ t.1 ≤ 100000 ∧ t.2 ≤ 1000) → -(ts.length * 3200000 * bits k) ≤ linT ts k ∧ linT ts k ≤ ts.length * 3200000 * bits k
 | [], k, _ => by simp [linT]
 | t :: ts, k, h => by
  have h1 := linT_le ts k (fun u hu => h u (List.mem_cons_of_mem _ hu))
  obtain ⟨a1, a2, a3⟩ := h t (by simp)
  have h2 := mul_abs (a := t.1) (A := 100000) ⟨by omega, a2⟩ (b := rtA t.2 k) (B := 32 * bits k) ⟨by have := rtA_nonneg t.2 k; have := bitsI_pos k; omega, rtA_le32 a3 k⟩
  rw [linT_cons, List.length_cons]
  have e : (((ts.length + 1 : Nat) : Int)) * 3200000 * bits k = ts.length * 3200000 * bits k + 100000 * (32 * bits k) := by simp only [Int.natCast_add]; grind
  rw [e]
  omega
theorem BetP.bound {xd f low high : Int} {xt : List (Int × Int)} (hx : numOK xd xt = true) (hf : 1 ≤ f ∧ f ≤ 40000) (h : BetP xd (linT xt) f low high) : -1000000000000 ≤ low ∧ low ≤ 1000000000000 := by
 have hp := numOK_parts hx
 have hb : ∀ k, -(12800000 * bits k) ≤ linT xt k ∧ linT xt k ≤ 12800000 * bits k := fun k => by
  have h1 := linT_le xt k (fun t ht => by have := (hp.2.2.2 t ht).1; unfold TermB at this; omega)
  have h2 : (xt.length : Int) * 3200000 * bits k ≤ 12800000 * bits k := Int.mul_le_mul_of_nonneg_right (by omega) (Int.le_of_lt (bitsI_pos k))
  omega
 have hfb : ∀ k, -(512000000000 * bits k) ≤ f * linT xt k ∧ f * linT xt k ≤ 512000000000 * bits k := fun k => by
  have h1 := mul_abs (a := f) (A := 40000) (by omega) (hb k)
  have e : 40000 * (12800000 * (bits k : Int)) = 512000000000 * bits k := by omega
  omega
 have hd := numOK_d hx
 constructor
 ·rcases Int.lt_or_le low (-1000000000000) with h1 | h1
  ·exfalso
   refine Grows.not_nonpos h.lo.2 (fun k => ?_)
   have h2 := hfb k
   have h3 : xd * (low + 1) * bits k ≤ -1000000000000 * bits k := by
    refine Int.mul_le_mul_of_nonneg_right ?_ (Int.le_of_lt (bitsI_pos k))
    have := Int.mul_le_mul_of_nonneg_right (show 1 ≤ xd by omega) (show 0 ≤ -(low + 1) by omega)
    simp only [Int.mul_neg, Int.one_mul] at this
    omega
   have := bitsI_pos k
   dsimp only
   omega
  ·exact h1
 ·rcases Int.lt_or_le 1000000000000 low with h1 | h1
  ·exfalso
   refine Ge.not_lt h.lo.1 (Grows.le (grows_bits (c := 1) (by decide)) (fun k => ?_))
   have h2 := hfb k
   have h3 : 1000000000000 * bits k ≤ xd * low * bits k := by
    refine Int.mul_le_mul_of_nonneg_right ?_ (Int.le_of_lt (bitsI_pos k))
    have := Int.mul_le_mul_of_nonneg_right (show 1 ≤ xd by omega) (show 0 ≤ low by omega)
    rw [Int.one_mul] at this
    omega
   have := bitsI_pos k
   dsimp only
   omega
  ·exact h1
theorem BetP.sides {xd f low high a la b hb_ p q cp cq : Int} {xt : List (Int × Int)} (hx : numOK xd xt = true) (hf : 1 ≤ f) (h : BetP xd (linT xt) f low high) (ha : numOK a (ratT la) = true) (ea : la * f = low * a) (hb : numOK b (ratT hb_) = true) (eb : hb_ * f = high * b)
  (hp : CmpRes a (ratT la) xd xt p cp) (hq : CmpRes xd xt b (ratT hb_) q cq) : cp = 0 ∧ cq = 0 ∧ p ≤ 0 ∧ q ≤ 0 ∧ (low = high ↔ p = 0 ∨ q = 0) := by
 obtain ⟨e1, s1⟩ := cmp_sg ha hx hp
 obtain ⟨e2, s2⟩ := cmp_sg hx hb hq
 have hd := numOK_d hx; have had := numOK_d ha; have hbd := numOK_d hb
 have t1 : Sg (fun k => xd * low * bits k - f * linT xt k) p := by
  refine Sg.unsmul had ((s1.smul (show 0 < f by omega)).congr fun k => ?_)
  (try dsimp only)
  rw [linT_rat]
  have e : f * (xd * (la * bits k) - a * linT xt k) = xd * (la * f) * bits k - f * a * linT xt k := by grind
  rw [e, ea]; grind
 have t2 : Sg (fun k => f * linT xt k - xd * high * bits k) q := by
  refine Sg.unsmul hbd ((s2.smul (show 0 < f by omega)).congr fun k => ?_)
  (try dsimp only)
  rw [linT_rat]
  have e : f * (b * linT xt k - xd * (hb_ * bits k)) = f * b * linT xt k - xd * (hb_ * f) * bits k := by grind
  rw [e, eb]; grind
 refine ⟨e1, e2, ?_⟩
 rcases h.hi with ⟨g, rfl⟩ | ⟨g, rfl⟩
 ·have hp1 : p = -1 := t1.unique (.inr (.inl ⟨rfl, g.congr fun k => by (try dsimp only); omega⟩))
  have hq1 : q = -1 := t2.unique (.inr (.inl ⟨rfl, h.lo.2⟩))
  omega
 ·have hp0 : p = 0 := t1.unique (.inr (.inr ⟨rfl, g.neg.congr fun k => by (try dsimp only); omega⟩))
  have hq0 : q = 0 := t2.unique (.inr (.inr ⟨rfl, g⟩))
  omega
end Go.Proofs.YthkblgglmohciaaGreatDoor
