import Derived.Test.YthkblgglmohciaaGreatDoorFieAToBetA
import Derived.Test.YthkblgglmohciaaGreatDoorRootB
set_option linter.unusedVariables false
set_option linter.unusedSimpArgs false
namespace Go.Proofs.YthkblgglmohciaaGreatDoor
theorem bits_ob : OB (fun k => (bits k : Int)) := ⟨1, fun k => by have := bitsI_pos k; dsimp only; omega⟩
theorem rt_pair {m n : Int} (hm : 1 ≤ m) (hn : 1 ≤ n) : MulN (rtA m) (rtA n) (rtA (m * n)) := by
 obtain ⟨a, rfl⟩ := Int.eq_ofNat_of_zero_le (show 0 ≤ m by omega)
 obtain ⟨b, rfl⟩ := Int.eq_ofNat_of_zero_le (show 0 ≤ n by omega)
 exact (rt_mul (r := a) (q := b) (by omega) 1 a b (Nat.mul_one a).symm (Nat.mul_one b).symm (by omega)).congr (fun _ => rfl) (fun _ => rfl) (fun k => by
  rw [Int.natCast_mul]
  show (1 : Int) * _ = _
  rw [Int.one_mul])
theorem rt_sqbits {s : Int} (hs : 0 ≤ s) (k : Nat) : rtA (s * s) k = s * bits k := by
 obtain ⟨a, rfl⟩ := Int.eq_ofNat_of_zero_le hs
 unfold rtA
 rw [← Int.natCast_mul, Int.toNat_natCast, show a * a * (bits k * bits k) = (a * bits k) * (a * bits k) by simp only [Nat.mul_comm, Nat.mul_left_comm, Nat.mul_assoc], isq_sq, Int.natCast_mul]
theorem rt_zero {n : Int} (h : n ≤ 0) (k : Nat) : rtA n k = 0 := by
 unfold rtA
 have : n.toNat = 0 := by omega
 rw [this, Nat.zero_mul]
 have e : isq 0 = 0 := isq_sq 0
 rw [e]; rfl
theorem rt_scale {s r : Int} (hs : 0 ≤ s) (hr : 1 ≤ r) : Near (rtA (s * s * r)) (fun k => s * rtA r k) := by
 rcases Int.lt_or_le 0 s with h | h
 ·have m1 := rt_pair (m := s * s) (n := r) (by have := Int.mul_pos h h; omega) hr
  have m2 : MulN (rtA (s * s)) (rtA r) (fun k => s * rtA r k) := (MulN.cst s (rtA r)).comm.congr (fun k => (rt_sqbits hs k).symm) (fun _ => rfl) (fun _ => rfl)
  exact m1.unique m2
 ·obtain rfl : s = 0 := by omega
  exact Near.of_eq fun k => by rw [rt_zero (by omega), Int.zero_mul]
theorem into_lin (kv : List (Int × Int)) (num den sign : Int) (hd : 0 < den) : Near (linK (intoS kv num den sign)) (fun k => linK kv k + sign * rtA (num * den) k) := by
 unfold intoS
 split
 ·rename_i h
  have hp := Int.mul_pos h hd
  obtain ⟨n, hn⟩ := Int.eq_ofNat_of_zero_le (Int.le_of_lt hp)
  rw [hn, Int.toNat_natCast]
  refine (Near.of_eq (g := fun k => linK kv k + sign * (((splitN n).1 : Int) * rtA ((splitN n).2 : Int) k)) fun k => ?_).trans ((Near.refl (linK kv)).add ((rtA_split (show 1 ≤ n by omega)).symm.smul sign))
  rw [linK_addS]; grind
 ·rename_i h
  refine Near.of_eq fun k => ?_
  rw [rt_zero (by
   have := Int.mul_nonneg (show 0 ≤ -num by omega) (Int.le_of_lt hd)
   rw [Int.neg_mul] at this; omega)]
  omega
theorem into_keys {kv : List (Int × Int)} {num den sign : Int} (hd : 0 < den) (h1 : (kv.map (·.1)).Nodup) (h2 : ∀ r ∈ kv.map (·.1), RootF r) : ((intoS kv num den sign).map (·.1)).Nodup ∧ ∀ r ∈ (intoS kv num den sign).map (·.1), RootF r := by
 unfold intoS
 split
 ·rename_i h
  have hp := Int.mul_pos h hd
  refine ⟨addS_nodup' _ _ _ h1, fun r hr => ?_⟩
  rcases addS_mem hr with h3 | h3
  ·exact h2 r h3
  ·rw [h3]
   obtain ⟨_, g1, _, g2⟩ := splitN_spec (num * den).toNat (by omega)
   exact ⟨by omega, by rw [Int.toNat_natCast]; exact g1⟩
 ·exact ⟨h1, h2⟩
theorem sign_ex {ts : List (Int × Int)} (hr : ∀ t ∈ ts, RootF t.2) (hk : (ts.map (·.2)).Nodup) : ∃ s, SignOf ts s := by
 obtain ⟨K, hK⟩ := SignOf.exists_any ts hr hk
 by_cases h0 : ts.filter nzT = []
 ·exact ⟨0, .inl ⟨h0, rfl⟩⟩
 ·rcases hK with h1 | h1
  ·exact absurd h1 h0
  ·exact ⟨_, .inr ⟨h0, h1, K, rfl⟩⟩
theorem sq_is {D d xd : Int} {X P : Nat → Int} {ts xt : List (Int × Int)} (h : IsN D X d ts) (ho : numOK xd xt = true) (hp : MulN X X P) (hn : Near (fun k => xd * P k) (fun k => D * D * linT xt k)) : mulS d ts d ts = (xd, xt, 0) := by
 have oX := h.ob
 obtain ⟨h1, G, hG, rfl, h3⟩ := h
 have mp := prod_mul (numOK_free h1) (numOK_free h1)
 refine mul_near h1 h1 ho mp ?_
 have m1 := ((mp.smul G).near (linT_OB ts) h3).smul_l G
 have m2 := m1.near_l oX h3
 have m3 := m2.unique hp
 refine Near.unsmul (c := G * G) (Int.mul_ne_zero (by omega) (by omega)) (Near.trans (Near.of_eq fun k => ?_) ((m3.smul xd).trans (hn.trans (Near.of_eq fun k => ?_)))) <;> (try dsimp only) <;> grind
theorem pos_of_sq {a b w : Int} (hw : 0 ≤ w) (hb : 0 < b) (h : w * w = a * a - b) (ha : 0 < a) : w < a := by
 rcases Int.lt_or_le w a with h1 | h1
 ·exact h1
 ·have := Int.mul_le_mul h1 h1 (Int.le_of_lt ha) hw
  omega
theorem root2_lin (kv : List (Int × Int)) (p q sg D : Int) (hD : 0 < D) : Near (linK (intoS (intoS [] p D 1) q D sg)) (fun k => rtA (p * D) k + sg * rtA (q * D) k) :=
 (into_lin _ q D sg hD).trans (((into_lin [] p D 1 hD).add (Near.refl fun k => sg * rtA (q * D) k)).trans (Near.of_eq fun k => by (try dsimp only); rw [linK_nil]; omega))
theorem root2_mul {p q sg D a b r : Int} (hD : 0 < D) (hp : 1 ≤ p) (hq : 1 ≤ q) (hr : 1 ≤ r) (hs : sg * sg = 1) (e1 : p + q = 2 * a) (e2 : p * q = b * b * r) (e3 : 0 ≤ sg * b) :
  MulN (fun k => rtA (p * D) k + sg * rtA (q * D) k) (fun k => rtA (p * D) k + sg * rtA (q * D) k) (fun k => 2 * D * (a * bits k + b * rtA r k)) := by
 have hpD : 1 ≤ p * D := by have := Int.mul_pos (show 0 < p by omega) hD; omega
 have hqD : 1 ≤ q * D := by have := Int.mul_pos (show 0 < q by omega) hD; omega
 have m1 := rt_self hpD
 have m2 := rt_self hqD
 have m3 := rt_pair hpD hqD
 have e4 : p * D * (q * D) = (sg * b * D) * (sg * b * D) * r := by
  have : (sg * b * D) * (sg * b * D) * r = sg * sg * (b * b * r) * (D * D) := by grind
  rw [this, hs, ← e2]; grind
 have m4 : MulN (rtA (p * D)) (rtA (q * D)) (fun k => sg * b * D * rtA r k) := by
  rw [e4] at m3
  exact m3.near_r (rt_scale (Int.mul_nonneg e3 (Int.le_of_lt hD)) hr)
 have n1 : MulN (rtA (p * D)) (fun k => rtA (p * D) k + sg * rtA (q * D) k) (fun k => p * D * bits k + sg * (sg * b * D * rtA r k)) := m1.add (m4.smul sg)
 have n2 : MulN (rtA (q * D)) (fun k => rtA (p * D) k + sg * rtA (q * D) k) (fun k => sg * b * D * rtA r k + sg * (q * D * bits k)) := m4.comm.add (m2.smul sg)
 refine (n1.comm.add (n2.comm.smul sg)).congr (fun _ => rfl) (fun _ => rfl) (fun k => ?_)
 (try dsimp only)
 have e5 : p * D * bits k + sg * (sg * b * D * rtA r k) + sg * (sg * b * D * rtA r k + sg * (q * D * bits k)) = (p + sg * sg * q) * D * bits k + 2 * (sg * sg) * b * D * rtA r k := by grind
 rw [e5, hs, Int.one_mul, e1]; grind
theorem rtA_mono {m n : Int} (h : m ≤ n) (k : Nat) : rtA m k ≤ rtA n k := by
 unfold rtA
 have := isq_mono (Nat.mul_le_mul_right (bits k * bits k) (show m.toNat ≤ n.toNat by omega))
 omega
theorem not_neg_sg {X : Nat → Int} {m : Int} (h : Sg X m) (h0 : ∀ k, 0 ≤ X k) : 0 ≤ m := by
 rcases h with ⟨h, _⟩ | ⟨_, h⟩ | ⟨h, _⟩
 ·omega
 ·exact (h.not_nonpos (fun k => by have := h0 k; omega)).elim
 ·omega
theorem term_nz {d : Int} {ts : List (Int × Int)} (h : numOK d ts = true) {t : Int × Int} (ht : t ∈ ts) : t.1 ≠ 0 ∧ 1 ≤ t.2 := by
 obtain ⟨a1, a2, a3, a4⟩ := ((numOK_parts h).2.2.2 t ht).1
 exact ⟨a3, a1⟩
theorem two_roots {d : Int} {t u : Int × Int} (h : numOK d [t, u] = true) : t.2 < u.2 := by
 have h1 := (numOK_chk h).1
 have := (chkT_gt [u] t.2 (chkT_tail h1) u (by simp)).1
 exact this
theorem rootP_codes (xd : Int) (xt : List (Int × Int)) : (rootP xd xt).2.2 ≠ 3 ∧ (rootP xd xt).2.2 ≠ 2 := by
 have key : ∀ kv den, (overS kv den).2.2 ≠ 3 ∧ (overS kv den).2.2 ≠ 2 := fun kv den => by
  rcases overS_code kv den with h | h | ⟨h, _⟩ <;> rw [h] <;> simp
 unfold rootP root2
 split
 ·split
  ·exact key _ _
  ·simp
 ·split
  ·split
   ·exact key _ _
   ·simp
  ·simp
 ·simp
theorem root_sq {xd rd s : Int} {xt rt : List (Int × Int)} (hx : numOK xd xt = true) (hs : SignOf xt s) (h0 : 0 < s) (h : rootP xd xt = (rd, rt, 0)) : mulS rd rt rd rt = (xd, xt, 0) ∧ ∀ m c, SignRes rd rt m c → c = 0 ∧ 0 ≤ m := by
 have hd := numOK_d hx
 have key : ∀ X P : Nat → Int, (∃ D, IsN D X rd rt ∧ Near (fun k => xd * P k) (fun k => D * D * linT xt k)) → MulN X X P → (∀ k, 0 ≤ X k) → mulS rd rt rd rt = (xd, xt, 0) ∧ ∀ m c, SignRes rd rt m c → c = 0 ∧ 0 ≤ m := fun X P ⟨D, hi, hn⟩ hp hX => by
  refine ⟨sq_is hi hx hp hn, fun m c hm => ?_⟩
  obtain ⟨hc, hm⟩ := sign_ok_ hi.1 hm
  obtain ⟨_, G, hG, _, hne⟩ := hi
  exact ⟨hc, not_neg_sg ((Sg.smul hG hm.sg).near hne) hX⟩
 have isn : ∀ kv den, ((kv.map (·.1)).Nodup ∧ ∀ r ∈ kv.map (·.1), RootF r) → 0 < den → overS kv den = (rd, rt, 0) → ∀ X, Near (linK kv) X → IsN den X rd rt := fun kv den hk hden ho X hX => by
  have hv := overS_valid hk.1 hk.2 (by omega) ho
  obtain ⟨G, _, hG, hE, hL⟩ := overS_ok hk.1 (by omega) ho
  exact ⟨hv, G, hG hden, hE, (Near.of_eq hL).trans hX⟩
 unfold rootP at h
 split at h
 ·rename_i t
  split at h
  ·rename_i ht
   have ha : 0 < t.1 := by
    have e : t = (t.1, 1) := Prod.ext rfl ht
    rw [e] at hs
    rcases sign_one hs with ⟨_, h⟩ | ⟨h, _⟩ | ⟨_, h⟩
    ·omega
    ·exact h
    ·omega
   have hk := into_keys (kv := []) (num := t.1) (sign := 1) hd (by simp) (by simp)
   have hP : 1 ≤ t.1 * xd := by have := Int.mul_pos ha hd; omega
   refine key (rtA (t.1 * xd)) _ ⟨xd, isn _ _ hk hd h _ ((into_lin [] t.1 xd 1 hd).trans (Near.of_eq fun k => by (try dsimp only); rw [linK_nil]; omega)), Near.of_eq fun k => ?_⟩ (rt_self hP) (rtA_nonneg _)
   (try dsimp only)
   rw [linT_cons, linT_nil, ht, rtA_one]; grind
  ·injection h with _ h; injection h with _ h; cases h
 ·rename_i t u
  split at h
  ·rename_i ht
   unfold root2 at h
   split at h
   ·rename_i hw
    obtain ⟨w, hwe⟩ : ∃ w : Int, (isq (t.1 * t.1 - u.1 * u.1 * u.2).toNat : Int) = w := ⟨_, rfl⟩
    rw [Int.natCast_mul, hwe] at hw
    rw [hwe] at h
    have hw0 : 0 ≤ w := by omega
    have hu := term_nz hx (show u ∈ [t, u] by simp)
    have hbb : 0 < u.1 * u.1 * u.2 := Int.mul_pos (by
     rcases Int.lt_or_gt_of_ne hu.1 with h | h
     ·exact Int.mul_pos_of_neg_of_neg h h
     ·exact Int.mul_pos h h) (by omega)
    have hlin : ∀ k, linT [t, u] k = t.1 * bits k + u.1 * rtA u.2 k := fun k => by rw [linT_cons, linT_cons, linT_nil, ht, rtA_one]; omega
    have ha : 0 < t.1 := by
     have hnd := (numOK_roots hx).2
     obtain ⟨s', hs'⟩ := sign_ex (ts := [(t.1, 1), (-u.1, u.2)]) (fun v hv => by
      have hf := numOK_free hx
      rcases List.mem_cons.1 hv with rfl | hv
      ·have := hf t (by simp); rw [ht] at this; exact this
      ·rw [List.mem_singleton] at hv; rw [hv]; exact hf u (by simp)) (by
      have := two_roots hx
      simp; omega)
     have g1 : Sg (fun k => t.1 * bits k + u.1 * rtA u.2 k) s := hs.sg.congr hlin
     have g2 : Sg (fun k => t.1 * bits k - u.1 * rtA u.2 k) s' := hs'.sg.congr fun k => by rw [linT_cons, linT_cons, linT_nil, rtA_one]; (try dsimp only); rw [Int.neg_mul]; omega
     have hR := rt_self (r := u.2) hu.2
     have m1 : MulN (rtA u.2) (fun k => t.1 * bits k - u.1 * rtA u.2 k) (fun k => t.1 * rtA u.2 k - u.1 * (u.2 * bits k)) := ((MulN.cst t.1 (rtA u.2)).add (hR.smul (-u.1))).congr (fun _ => rfl) (fun k => by (try dsimp only); grind) (fun k => by (try dsimp only); grind)
     have m2 : MulN (fun k => t.1 * bits k - u.1 * rtA u.2 k) (fun k => t.1 * bits k + u.1 * rtA u.2 k) (fun k => w * w * bits k) := ((MulN.cst t.1 (fun k => t.1 * bits k - u.1 * rtA u.2 k)).add (m1.comm.smul u.1)).congr (fun _ => rfl) (fun _ => rfl) (fun k => by (try dsimp only); rw [hw]; grind)
     have o1 : OB (fun k => t.1 * bits k + u.1 * rtA u.2 k) := (OB.smul t.1 bits_ob).add (OB.smul u.1 (rtA_OB u.2))
     have o2 : OB (fun k => t.1 * bits k - u.1 * rtA u.2 k) := by
      obtain ⟨C, h⟩ := (OB.smul t.1 bits_ob).add (OB.smul (-u.1) (rtA_OB u.2))
      exact ⟨C, fun k => by have := h k; dsimp only at this ⊢; rw [Int.neg_mul] at this; exact this⟩
     have hs1 : s = 1 := by rcases g1.range with h | h | h <;> omega
     have g3 := m2.sg g2 g1 o2 o1
     have g4 := not_neg_sg g3 (fun k => Int.mul_nonneg (Int.mul_nonneg hw0 hw0) (Int.le_of_lt (bitsI_pos k)))
     rw [hs1, Int.mul_one] at g4
     subst hs1
     have g5 := (g1.add g2 (by omega) g4).congr (g := fun k => 2 * t.1 * bits k) fun k => by (try dsimp only); grind
     have g6 : 0 < max 1 s' := by omega
     rcases Int.lt_or_le 0 t.1 with h | h
     ·exact h
     ·exact ((g5.one g6).not_nonpos (fun k => by
       have := Int.mul_nonneg (show 0 ≤ -(2 * t.1) by omega) (Int.le_of_lt (bitsI_pos k))
       rw [Int.neg_mul] at this; (try dsimp only); omega)).elim
    have hwa := pos_of_sq hw0 hbb hw ha
    have hD : 0 < 2 * xd := by omega
    have k1 := into_keys (kv := []) (num := t.1 + w) (sign := 1) hD (by simp) (by simp)
    have k2 := into_keys (num := t.1 - w) (sign := if u.1 < 0 then -1 else 1) hD k1.1 k1.2
    obtain ⟨sg, hsg⟩ : ∃ sg : Int, (if u.1 < 0 then (-1 : Int) else 1) = sg := ⟨_, rfl⟩
    rw [hsg] at h k2
    have hsg2 : sg = 1 ∨ sg = -1 := by rw [← hsg]; split <;> omega
    have hsgb : 0 ≤ sg * u.1 := by
     rw [← hsg]
     split <;> omega
    refine key _ _ ⟨2 * xd, isn _ _ k2 hD h _ (root2_lin [] (t.1 + w) (t.1 - w) sg (2 * xd) hD), Near.of_eq fun k => ?_⟩ (root2_mul (a := t.1) (b := u.1) (r := u.2) hD (by omega) (by omega) hu.2 (by rcases hsg2 with h | h <;> rw [h] <;> decide) (by omega) (by
     have : (t.1 + w) * (t.1 - w) = t.1 * t.1 - w * w := by grind
     rw [this, hw]; omega) hsgb) (fun k => ?_)
    ·(try dsimp only); rw [hlin]; grind
    ·have h1 := rtA_mono (show (t.1 - w) * (2 * xd) ≤ (t.1 + w) * (2 * xd) from Int.mul_le_mul_of_nonneg_right (by omega) (by omega)) k
     have h2 := rtA_nonneg ((t.1 - w) * (2 * xd)) k
     rcases hsg2 with h | h <;> rw [h] <;> (try dsimp only) <;> omega
   ·injection h with _ h; injection h with _ h; cases h
  ·injection h with _ h; injection h with _ h; cases h
 ·injection h with _ h; injection h with _ h; cases h
end Go.Proofs.YthkblgglmohciaaGreatDoor
namespace Go.Proofs.YthkblgglmohciaaGreatDoor
theorem sq_pos {c : Int} (h : c ≠ 0) : 0 < c * c := by
 rcases Int.lt_or_gt_of_ne h with h | h
 ·exact Int.mul_pos_of_neg_of_neg h h
 ·exact Int.mul_pos h h
theorem sign_zero {d : Int} {ts : List (Int × Int)} (h : numOK d ts = true) : SignOf ts 0 ↔ ts = [] := by
 constructor
 ·intro hs
  rcases hs with ⟨h1, _⟩ | ⟨_, h1, _⟩
  ·cases ts with
   | nil => rfl
   | cons t ts =>
    have := (term_nz h (show t ∈ t :: ts by simp)).1
    rw [List.filter_cons, if_pos (by simp [nzT, this])] at h1
    cases h1
  ·exact absurd rfl h1
 ·rintro rfl
  exact .inl ⟨rfl, rfl⟩
theorem nil_one {d : Int} (h : numOK d [] = true) : d = 1 := by
 have h1 := (numOK_chk h).2
 have h2 := numOK_d h
 rw [List.map_nil, gcdL_single] at h1
 omega
theorem rt_abs {c r : Int} (hr : 1 ≤ r) : Near (rtA (c * c * r)) (fun k => (c.natAbs : Int) * rtA r k) := by
 have h := rt_scale (s := (c.natAbs : Int)) (r := r) (by omega) hr
 rw [Int.natAbs_mul_self'] at h
 exact h
theorem sqrt_dvd {g K x : Int} (hg : 0 < g) (h : g * g * K = x * x) : ∃ w : Int, 0 ≤ w ∧ K = w * w ∧ g * w = (x.natAbs : Int) := by
 have hK : 0 ≤ K := by
  rcases Int.lt_or_le K 0 with h1 | h1
  ·have h2 := Int.mul_neg_of_pos_of_neg (Int.mul_pos hg hg) h1
   have h3 : 0 ≤ x * x := by
    rcases Int.le_total 0 x with h | h
    ·exact Int.mul_nonneg h h
    ·exact Int.mul_nonneg_of_nonpos_of_nonpos h h
   omega
  ·exact h1
 have hd : g.natAbs ∣ x.natAbs := by
  have h1 : g.natAbs ^ 2 ∣ x.natAbs ^ 2 := by
   refine ⟨K.natAbs, ?_⟩
   have := congrArg Int.natAbs h
   rw [Int.natAbs_mul, Int.natAbs_mul, Int.natAbs_mul] at this
   rw [Nat.pow_two, Nat.pow_two, this]
  exact (Nat.pow_dvd_pow_iff (by decide)).1 h1
 obtain ⟨w, hw⟩ := hd
 refine ⟨(w : Int), by omega, ?_, ?_⟩
 ·have h2 : (x.natAbs : Int) = g * w := by rw [hw, Int.natCast_mul]; congr 1; omega
  have h3 : x * x = g * g * ((w : Int) * w) := by
   rw [← Int.natAbs_mul_self', h2]; grind
  rw [h3] at h
  exact Int.eq_of_mul_eq_mul_left (Int.mul_ne_zero (by omega) (by omega)) h
 ·rw [hw, Int.natCast_mul]; congr 1; omega
theorem isq_abs {K w : Int} (hw : 0 ≤ w) (h : K = w * w) : (isq K.toNat : Int) = w := by
 obtain ⟨n, rfl⟩ := Int.eq_ofNat_of_zero_le hw
 rw [h, ← Int.natCast_mul, Int.toNat_natCast, isq_sq]
theorem over_pair {a b m den d : Int} {ts : List (Int × Int)} (hm : 1 < m) (ha : a ≠ 0) (hb : b ≠ 0) (hd : 0 < den) (h : overS [(1, a), (m, b)] den = (d, ts, 0)) : ∃ A B g, 0 < g ∧ ts = [(A, 1), (B, m)] ∧ A * g = a ∧ B * g = b ∧ d * g = den := by
 obtain ⟨d1, d2⟩ := overG_dvd (kv := [(1, a), (m, b)]) (den := den)
 have hf : [((1 : Int), a), (m, b)].filter nz = [(1, a), (m, b)] := by simp [nz, ha, hb]
 rw [hf] at d2
 have hg : 0 < overG [(1, a), (m, b)] den := by
  have h1 := overG_ne (kv := [(1, a), (m, b)]) (den := den) (by omega)
  unfold overG at h1 ⊢
  rw [if_neg (by omega)] at h1 ⊢
  omega
 have hs : sortI [1, m] = [1, m] := sorted_unique _ _ (sortI_perm _) (sortI_sorted _) (by simp; omega)
 have hT : overT [(1, a), (m, b)] den = [(a.tdiv (overG [(1, a), (m, b)] den), 1), (b.tdiv (overG [(1, a), (m, b)] den), m)] := by
  unfold overT termsG
  rw [hf]
  simp only [List.map_cons, List.map_nil]
  rw [hs]
  simp only [List.map_cons, List.map_nil, getS, if_pos]
  rw [if_neg (by omega)]
 have e1 := Int.tdiv_mul_cancel d1
 have e2 := Int.tdiv_mul_cancel (d2 (1, a) (by simp))
 have e3 := Int.tdiv_mul_cancel (d2 (m, b) (by simp))
 unfold overS at h
 rw [hT] at h
 generalize overG [(1, a), (m, b)] den = g at *
 split at h
 ·injection h with _ h; injection h with _ h; cases h
 ·split at h
  ·injection h with _ h; injection h with _ h; cases h
  ·injection h with h1 h
   injection h with h2 _
   exact ⟨_, _, g, hg, h2.symm, e2, e3, by rw [← h1]; exact e1⟩
theorem sq_two {c e r q : Int} (hr : RootF r) (hq : RootF q) (hne : r ≠ q) : ∃ g m : Int, 1 < m ∧ 0 < g ∧ g * g * m = r * q ∧ RootF m ∧ prodS [] [(c, r), (e, q)] [(c, r), (e, q)] = [(1, c * c * r + e * e * q), (m, c * e * g + e * c * g)] := by
 obtain ⟨r1, rf⟩ := hr; obtain ⟨q1, qf⟩ := hq
 have hmf := mulK_free (t := (c, r)) (u := (e, q)) ⟨r1, rf⟩ ⟨q1, qf⟩
 have hself : ∀ (x y z : Int), 1 ≤ z → mulK (x, z) (y, z) = 1 ∧ mulC (x, z) (y, z) = x * y * z := fun x y z hz => by
  unfold mulK mulC
  rw [gcdL_two, Nat.gcd_self]
  have h1 : z.natAbs = z.toNat := by omega
  dsimp only
  rw [h1, Nat.div_self (by omega)]
  refine ⟨rfl, ?_⟩
  rw [Int.toNat_of_nonneg (by omega)]
 have hG : gcdL [r, q] = Nat.gcd r.toNat q.toNat := by rw [gcdL_two]; congr 1 <;> omega
 have hG2 : gcdL [q, r] = Nat.gcd r.toNat q.toNat := by rw [gcdL_two, Nat.gcd_comm]; congr 1 <;> omega
 have hsp := (splitN_spec (r.toNat * q.toNat) (Nat.mul_pos (by omega) (by omega)))
 rw [split_mul (by omega) (by omega) rf qf] at hsp
 dsimp only at hsp
 obtain ⟨s1, s2, s3, s4⟩ := hsp
 have hK1 : mulK (c, r) (e, q) = ((r.toNat / Nat.gcd r.toNat q.toNat * (q.toNat / Nat.gcd r.toNat q.toNat) : Nat) : Int) := by unfold mulK; rw [hG]
 have hK2 : mulK (e, q) (c, r) = ((r.toNat / Nat.gcd r.toNat q.toNat * (q.toNat / Nat.gcd r.toNat q.toNat) : Nat) : Int) := by unfold mulK; rw [hG2, Nat.mul_comm]
 have hC1 : mulC (c, r) (e, q) = c * e * (Nat.gcd r.toNat q.toNat : Nat) := by unfold mulC; rw [hG]
 have hC2 : mulC (e, q) (c, r) = e * c * (Nat.gcd r.toNat q.toNat : Nat) := by unfold mulC; rw [hG2]
 rw [hK1] at hmf
 generalize hmv : r.toNat / Nat.gcd r.toNat q.toNat * (q.toNat / Nat.gcd r.toNat q.toNat) = mv at *
 generalize Nat.gcd r.toNat q.toNat = g at *
 have hprod : ((g * g * mv : Nat) : Int) = r * q := by
  rw [s1, Int.natCast_mul, Int.toNat_of_nonneg (by omega), Int.toNat_of_nonneg (by omega)]
 have hm1 : mv ≠ 1 := by
  rintro rfl
  have e1 : g * g * 1 = r.toNat * q.toNat := s1
  have h2 := split_unique (s := r.toNat) (r := q.toNat) (s' := g) (r' := r.toNat) (by omega) s3 qf rf (by
   rw [Nat.mul_one] at e1
   calc r.toNat * r.toNat * q.toNat = r.toNat * (r.toNat * q.toNat) := by rw [Nat.mul_assoc]
    _ = r.toNat * (g * g) := by rw [e1]
    _ = g * g * r.toNat := Nat.mul_comm _ _)
  exact hne (by have := h2.2; omega)
 obtain ⟨a1, b1⟩ := hself c c r r1
 obtain ⟨a2, b2⟩ := hself e e q q1
 refine ⟨(g : Int), (mv : Int), by omega, by omega, ?_, hmf, ?_⟩
 ·rw [← hprod]; simp only [Int.natCast_mul]
 ·have hmne : ((mv : Int)) ≠ 1 := by omega
  simp only [prodS, prodR, List.foldl_cons, List.foldl_nil, a1, b1, a2, b2, hK1, hK2, hC1, hC2, addS, if_neg hmne, if_pos, if_neg (Ne.symm hmne)]
theorem root_near {yd sd : Int} {yt st : List (Int × Int)} {res : Int × List (Int × Int) × Int} (hy : numOK yd yt = true) (hl : yt.length ≤ 2) (hsg : ∀ s, SignOf yt s → 0 ≤ s) (hsq : mulS yd yt yd yt = (sd, st, 0)) (h : RootRes sd st res) : res = (yd, yt, 0) := by
 have hyd := numOK_d hy
 have hdd : 0 < yd * yd := Int.mul_pos hyd hyd
 have hsv : numOK sd st = true := (mul_is (IsN.self hy) (IsN.self hy) (prod_mul (numOK_free hy) (numOK_free hy)) hsq).1
 have hov : overS (prodS [] yt yt) (yd * yd) = (sd, st, 0) := by
  unfold mulS at hsq
  rwa [hy, if_pos (by rfl)] at hsq
 rcases h with ⟨h, _⟩ | ⟨_, s, hs, h⟩
 ·rw [hsv] at h; cases h
 ·obtain ⟨sy, hsy⟩ := sign_ex (numOK_free hy) (numOK_roots hy).2
  have hsy0 := hsg sy hsy
  have hss : s = sy * sy := by
   have m1 := (prod_mul (numOK_free hy) (numOK_free hy)).sg hsy.sg hsy.sg (linT_OB yt) (linT_OB yt)
   obtain ⟨_, G, hG, _, hn⟩ := mul_is (IsN.self hy) (IsN.self hy) (prod_mul (numOK_free hy) (numOK_free hy)) hsq
   exact ((Sg.smul hG hs.sg).near hn).unique m1
  have hsy1 := hsy.sg.range
  by_cases h0 : sy = 0
  ·have hnil := (sign_zero hy).1 (h0 ▸ hsy)
   subst hnil
   have hyd1 := nil_one hy
   subst hyd1
   rw [h0] at hss
   rcases h with ⟨h1, _⟩ | ⟨_, h1⟩ | ⟨h1, _⟩
   ·omega
   ·exact h1
   ·omega
  ·have hsy2 : sy = 1 := by omega
   subst hsy2
   have hres : res = rootP sd st := by
    rcases h with ⟨h1, _⟩ | ⟨h1, _⟩ | ⟨_, h1⟩
    ·omega
    ·omega
    ·exact h1
   rw [hres]
   clear h hres hss h0 hsy0 hsy1
   match yt, hl, hy, hsy, hov, hsv, hsg with
   | [], _, _, hsy, _, _, _ =>
    have := hsy.unique (.inl ⟨rfl, rfl⟩)
    cases this
   | [t], _, hy, hsy, hov, hsv, _ =>
    obtain ⟨c, r⟩ := t
    obtain ⟨hc, hr⟩ := term_nz hy (show (c, r) ∈ [(c, r)] by simp)
    dsimp only at hc hr
    have hcp : 0 < c := by
     have g := hsy.sg
     rcases Int.lt_or_gt_of_ne hc with h | h
     ·exact ((g.one (by decide)).not_nonpos (fun k => by
       rw [linT_cons, linT_nil]
       have := Int.mul_nonneg (show 0 ≤ -c by omega) (rtA_nonneg r k)
       rw [Int.neg_mul] at this; (try dsimp only); omega)).elim
     ·exact h
    have hkv : prodS [] [(c, r)] [(c, r)] = [(1, c * c * r)] := by
     have h1 : gcdL [r, r] = r.toNat := by rw [gcdL_two, Nat.gcd_self]; omega
     simp only [prodS, prodR, List.foldl_cons, List.foldl_nil, addS, mulK, mulC, h1]
     rw [Nat.div_self (by omega), Int.toNat_of_nonneg (by omega)]; rfl
    rw [hkv, over_one hdd] at hov
    obtain ⟨A, rfl, e1, ho⟩ := normQ_ok hdd hov
    have hA0 : A ≠ 0 := by
     rintro rfl
     rw [Int.zero_mul] at e1
     have := Int.mul_pos (Int.mul_pos (Int.mul_pos hcp hcp) (show 0 < r by omega)) (numOK_d ho)
     omega
    rw [ratT_some hA0]
    have hsd := numOK_d ho
    have hk := into_keys (kv := []) (num := A) (sign := 1) hsd (by simp) (by simp)
    have hrp : rootP sd [(A, 1)] = overS (intoS [] A sd 1) sd := by unfold rootP; simp
    rw [hrp]
    refine overS_near hk.1 hk.2 (by omega) hy ?_
    have hA : 0 < A := by
     rcases Int.lt_or_gt_of_ne hA0 with h | h
     ·have g1 := Int.mul_neg_of_neg_of_pos h hdd
      have g2 := Int.mul_pos (Int.mul_pos (Int.mul_pos hcp hcp) (show 0 < r by omega)) hsd
      omega
     ·exact h
    have hAs : 1 ≤ A * sd := by have := Int.mul_pos hA hsd; omega
    have n1 := rt_scale (s := yd) (r := A * sd) (by omega) hAs
    have n2 := rt_scale (s := c * sd) (r := r) (Int.le_of_lt (Int.mul_pos hcp hsd)) hr
    have e2 : yd * yd * (A * sd) = c * sd * (c * sd) * r := by
     have : yd * yd * (A * sd) = A * (yd * yd) * sd := by grind
     rw [this, e1]; grind
    rw [e2] at n1
    refine Near.trans ((into_lin [] A sd 1 hsd).smul yd) (Near.trans (Near.of_eq fun k => ?_) (n1.symm.trans (n2.trans (Near.of_eq fun k => ?_))))
    ·(try dsimp only); rw [linK_nil]; grind
    ·(try dsimp only); rw [linT_cons, linT_nil]; grind
   | [t, u], _, hy, hsy, hov, hsv, _ =>
    obtain ⟨c, r⟩ := t
    obtain ⟨e, q⟩ := u
    obtain ⟨hc, hr⟩ := term_nz hy (show (c, r) ∈ [(c, r), (e, q)] by simp)
    obtain ⟨he, hq⟩ := term_nz hy (show (e, q) ∈ [(c, r), (e, q)] by simp)
    dsimp only at hc hr he hq
    have hrq := two_roots hy
    dsimp only at hrq
    have hfr := numOK_free hy (c, r) (by simp)
    have hfq := numOK_free hy (e, q) (by simp)
    obtain ⟨g, m, hm, hg, hgm, hmf, hkv⟩ := sq_two (c := c) (e := e) hfr hfq (show r ≠ q by omega)
    rw [hkv] at hov
    have hP : 0 < c * c * r := Int.mul_pos (sq_pos hc) (by omega)
    have hQ : 0 < e * e * q := Int.mul_pos (sq_pos he) (by omega)
    have hce : c * e * g + e * c * g ≠ 0 := by
     have : c * e * g + e * c * g = 2 * (c * e * g) := by grind
     rw [this]
     exact Int.mul_ne_zero (by decide) (Int.mul_ne_zero (Int.mul_ne_zero hc he) (by omega))
    obtain ⟨A, B, z, hz, rfl, eA, eB, eD⟩ := over_pair hm (show c * c * r + e * e * q ≠ 0 by omega) hce hdd hov
    have hsd := numOK_d hsv
    have hK : z * z * (A * A - B * B * m) = (c * c * r - e * e * q) * (c * c * r - e * e * q) := by
     have e3 : z * z * (A * A - B * B * m) = (A * z) * (A * z) - (B * z) * (B * z) * m := by grind
     have e4 : (c * e * g + e * c * g) * (c * e * g + e * c * g) * m = 4 * c * c * e * e * (g * g * m) := by grind
     rw [e3, eA, eB, e4, hgm]; grind
    obtain ⟨w, hw0, hwK, hwz⟩ := sqrt_dvd hz hK
    have hr2 : rootP sd [(A, 1), (B, m)] = overS (intoS (intoS [] (A + w) (2 * sd) 1) (A - w) (2 * sd) (if B < 0 then -1 else 1)) (2 * sd) := by
     unfold rootP root2
     simp only [if_true]
     rw [Int.natCast_mul, isq_abs hw0 hwK, if_pos hwK.symm]
    rw [hr2]
    have hD : 0 < 2 * sd := by omega
    have k1 := into_keys (kv := []) (num := A + w) (sign := 1) hD (by simp) (by simp)
    have k2 := into_keys (num := A - w) (sign := if B < 0 then -1 else 1) hD k1.1 k1.2
    refine overS_near k2.1 k2.2 (by omega) hy ?_
    have hBs : (B < 0 ↔ c * e < 0) := by
     have h1 : B * z = 2 * g * (c * e) := by rw [eB]; grind
     have h2g : 0 < 2 * g := by omega
     constructor
     ·intro h
      rcases Int.lt_or_le (c * e) 0 with h2 | h2
      ·exact h2
      ·have a1 := Int.mul_neg_of_neg_of_pos h hz
       have a2 := Int.mul_nonneg (Int.le_of_lt h2g) h2
       omega
     ·intro h
      rcases Int.lt_or_le B 0 with h2 | h2
      ·exact h2
      ·have a1 := Int.mul_nonneg h2 (Int.le_of_lt hz)
       have a2 := Int.mul_neg_of_pos_of_neg h2g h
       omega
    have hmul : MulN (fun k => c * rtA r k - e * rtA q k) (linT [(c, r), (e, q)]) (fun k => (c * c * r - e * e * q) * bits k) := by
     obtain ⟨C, hC⟩ := rt_self hr; obtain ⟨D, hD'⟩ := rt_self hq
     refine ⟨((c * c).natAbs : Int) * C + ((e * e).natAbs : Int) * D, fun k => ?_⟩
     have a1 := mul_abs (a := c * c) (A := (c * c).natAbs) (by omega) (hC k)
     have a2 := mul_abs (a := e * e) (A := (e * e).natAbs) (by omega) (hD' k)
     rw [linT_cons, linT_cons, linT_nil]
     dsimp only
     have e3 : (c * rtA r k - e * rtA q k) * (c * rtA r k + (e * rtA q k + 0)) - bits k * ((c * c * r - e * e * q) * bits k) = c * c * (rtA r k * rtA r k - bits k * (r * bits k)) - e * e * (rtA q k * rtA q k - bits k * (q * bits k)) := by grind
     have e4 : (((c * c).natAbs : Int) * C + ((e * e).natAbs : Int) * D) * bits k = ((c * c).natAbs : Int) * (C * bits k) + ((e * e).natAbs : Int) * (D * bits k) := by rw [Int.add_mul, Int.mul_assoc _ C, Int.mul_assoc _ D]
     dsimp only at a1 a2
     rw [e3, e4]
     omega
    have o1 : OB (fun k => c * rtA r k - e * rtA q k) := by
     obtain ⟨C, h⟩ := (OB.smul c (rtA_OB r)).add (OB.smul (-e) (rtA_OB q))
     exact ⟨C, fun k => by have := h k; dsimp only at this ⊢; rw [Int.neg_mul] at this; exact this⟩
    obtain ⟨sc, hsc⟩ := sign_ex (ts := [(c, r), (-e, q)]) (fun v hv => by
     rcases List.mem_cons.1 hv with rfl | hv
     ·exact hfr
     ·rw [List.mem_singleton] at hv; rw [hv]; exact hfq) (by simp; omega)
    have g2 : Sg (fun k => c * rtA r k - e * rtA q k) sc := hsc.sg.congr fun k => by rw [linT_cons, linT_cons, linT_nil]; (try dsimp only); rw [Int.neg_mul]; omega
    have g1 : Sg (fun k => c * rtA r k + e * rtA q k) 1 := hsy.sg.congr fun k => by rw [linT_cons, linT_cons, linT_nil]; (try dsimp only); omega
    have g3 := hmul.sg g2 hsy.sg o1 (linT_OB _)
    rw [Int.mul_one] at g3
    have sgn_of : ∀ x y : Int, 1 ≤ y → Grows (fun k => 2 * (x * rtA y k)) → 0 < x := fun x y hy' hgr => by
     rcases Int.lt_or_le 0 x with h | h
     ·exact h
     ·exact (hgr.not_nonpos (fun k => by
       have := Int.mul_nonneg (show 0 ≤ -x by omega) (rtA_nonneg y k)
       rw [Int.neg_mul] at this; (try dsimp only); omega)).elim
    have hAw : ∀ M : Int, 0 ≤ M → ∀ N, (N = A + w ∨ N = A - w) → N * z = 2 * M → ∀ x y, M = x * x * y → 1 ≤ y → x ≠ 0 → Near (fun k => z * (yd * rtA (N * (2 * sd)) k)) (fun k => 2 * yd * yd * ((x.natAbs : Int) * rtA y k)) := fun M hM N _ hN x y hxy hy1 hx0 => by
     have hMp : 0 < M := by rw [hxy]; exact Int.mul_pos (sq_pos hx0) (by omega)
     have hNp : 0 < N := by
      rcases Int.lt_or_le 0 N with h | h
      ·exact h
      ·have := Int.mul_nonneg (show 0 ≤ -N by omega) (Int.le_of_lt hz)
       rw [Int.neg_mul] at this; omega
     have hNs : 1 ≤ N * (2 * sd) := by have := Int.mul_pos hNp hD; omega
     have n1 := rt_scale (s := z) (r := N * (2 * sd)) (by omega) hNs
     have n2 := rt_scale (s := 2 * yd) (r := M) (by omega) (by omega)
     have n3 := rt_abs (c := x) (r := y) hy1
     rw [← hxy] at n3
     have e3 : z * z * (N * (2 * sd)) = 2 * yd * (2 * yd) * M := by
      have : z * z * (N * (2 * sd)) = 2 * (N * z) * (sd * z) := by grind
      rw [this, hN, eD]; grind
     rw [e3] at n1
     refine Near.trans (Near.of_eq fun k => ?_) ((n1.symm.smul yd).trans ((n2.smul yd).trans (Near.trans (Near.of_eq fun k => ?_) ((n3.smul (2 * yd * yd)).trans (Near.of_eq fun k => ?_))))) <;> (try dsimp only) <;> grind
    refine Near.unsmul (c := z) (by omega) ?_
    have hlin := root2_lin [] (A + w) (A - w) (if B < 0 then -1 else 1) (2 * sd) hD
    obtain ⟨sg, hsgd⟩ : ∃ sg : Int, (if B < 0 then (-1 : Int) else 1) = sg := ⟨_, rfl⟩
    rw [hsgd] at hlin ⊢
    refine Near.trans ((hlin.smul yd).smul z) ?_
    rcases Int.lt_trichotomy (c * c * r) (e * e * q) with hlt | heq | hgt
    ·
     have hep : 0 < e := by
      have g4 : Sg (fun k => (c * c * r - e * e * q) * bits k) (-1) := .inr (.inl ⟨rfl, (grows_bits (c := e * e * q - c * c * r) (by omega)).congr fun k => by (try dsimp only); grind⟩)
      have h1 := g3.unique g4
      rw [h1] at g2
      exact sgn_of e q hq (((g1.add_same (g2.neg)).one (by decide)).congr fun k => by (try dsimp only); grind)
     have hw2 : z * w = e * e * q - c * c * r := by omega
     have a1 := hAw (e * e * q) (Int.le_of_lt hQ) (A + w) (.inl rfl) (by
      have e5 : (A + w) * z = A * z + z * w := by grind
      rw [e5, eA, hw2]; omega) e q rfl hq he
     have a2 := hAw (c * c * r) (Int.le_of_lt hP) (A - w) (.inr rfl) (by
      have e5 : (A - w) * z = A * z - z * w := by grind
      rw [e5, eA, hw2]; omega) c r rfl hr hc
     have hs3 : sg * (c.natAbs : Int) = c := by
      rw [← hsgd]
      by_cases hcn : c < 0
      ·rw [if_pos (hBs.2 (Int.mul_neg_of_neg_of_pos hcn hep))]; omega
      ·rw [if_neg (fun h => by have := hBs.1 h; have := Int.mul_nonneg (show 0 ≤ c by omega) (Int.le_of_lt hep); omega)]; omega
     have hs4 : (e.natAbs : Int) = e := by omega
     refine Near.trans (Near.of_eq fun k => ?_) ((a1.add (a2.smul sg)).trans (Near.of_eq fun k => ?_))
     ·(try dsimp only); grind
     ·(try dsimp only)
      rw [linT_cons, linT_cons, linT_nil, hs4]
      dsimp only
      have e5 : sg * (2 * yd * yd * ((c.natAbs : Int) * rtA r k)) = 2 * yd * yd * (sg * (c.natAbs : Int) * rtA r k) := by grind
      have e6 : z * (2 * sd * (c * rtA r k + (e * rtA q k + 0))) = 2 * (sd * z) * (c * rtA r k + e * rtA q k) := by grind
      rw [e5, hs3, e6, eD]; grind
    ·exact absurd heq (by
      have h1 := numOK_parts hy
      have := norm_two hc he ((h1.2.2.2 (c, r) (by simp)).1.2.2.2) ((h1.2.2.2 (e, q) (by simp)).1.2.2.2) ((numOK_roots hy).1 (c, r) (by simp)) ((numOK_roots hy).1 (e, q) (by simp)) (show r ≠ q by omega)
      exact this)
    ·have hcp : 0 < c := by
      have g4 : Sg (fun k => (c * c * r - e * e * q) * bits k) 1 := .inl ⟨rfl, grows_bits (by omega)⟩
      have h1 := g3.unique g4
      rw [h1] at g2
      exact sgn_of c r hr (((g1.add_same g2).one (by decide)).congr fun k => by (try dsimp only); grind)
     have hw2 : z * w = c * c * r - e * e * q := by omega
     have a1 := hAw (c * c * r) (Int.le_of_lt hP) (A + w) (.inl rfl) (by
      have e5 : (A + w) * z = A * z + z * w := by grind
      rw [e5, eA, hw2]; omega) c r rfl hr hc
     have a2 := hAw (e * e * q) (Int.le_of_lt hQ) (A - w) (.inr rfl) (by
      have e5 : (A - w) * z = A * z - z * w := by grind
      rw [e5, eA, hw2]; omega) e q rfl hq he
     have hs3 : sg * (e.natAbs : Int) = e := by
      rw [← hsgd]
      by_cases hen : e < 0
      ·rw [if_pos (hBs.2 (Int.mul_neg_of_pos_of_neg hcp hen))]; omega
      ·rw [if_neg (fun h => by have := hBs.1 h; have := Int.mul_nonneg (Int.le_of_lt hcp) (show 0 ≤ e by omega); omega)]; omega
     have hs4 : (c.natAbs : Int) = c := by omega
     refine Near.trans (Near.of_eq fun k => ?_) ((a1.add (a2.smul sg)).trans (Near.of_eq fun k => ?_))
     ·(try dsimp only); grind
     ·(try dsimp only)
      rw [linT_cons, linT_cons, linT_nil, hs4]
      dsimp only
      have e5 : sg * (2 * yd * yd * ((e.natAbs : Int) * rtA q k)) = 2 * yd * yd * (sg * (e.natAbs : Int) * rtA q k) := by grind
      have e6 : z * (2 * sd * (c * rtA r k + (e * rtA q k + 0))) = 2 * (sd * z) * (c * rtA r k + e * rtA q k) := by grind
      rw [e5, hs3, e6, eD]; grind
   | _ :: _ :: _ :: _, hl, _, _, _, _, _ => exact absurd hl (by simp)
end Go.Proofs.YthkblgglmohciaaGreatDoor
namespace Go.Proofs.YthkblgglmohciaaGreatDoor
theorem IsN.sgO {D d s : Int} {X : Nat → Int} {ts : List (Int × Int)} (h : IsN D X d ts) (hs : SignOf ts s) : Sg X s := by
 obtain ⟨_, G, hG, _, hn⟩ := h
 exact (Sg.smul hG hs.sg).near hn
theorem sq_sign {xd n ce : Int} {xt : List (Int × Int)} (hx : numOK xd xt = true) (h : SignRes xd xt n ce) : ce = 0 ∧ SignOf xt n ∧ (n = 1 ∨ n = -1 ∨ n = 0) ∧ (n = 0 ↔ xt = []) := by
 obtain ⟨h0, hs⟩ := sign_ok_ hx h
 refine ⟨h0, hs, hs.sg.range, fun e => (sign_zero hx).1 (e ▸ hs), fun e => ?_⟩
 subst e
 exact hs.unique (.inl ⟨rfl, rfl⟩)
theorem sq_root {xd n : Int} {xt : List (Int × Int)} {res : Int × List (Int × Int) × Int} (hx : numOK xd xt = true) (hn : SignOf xt n) (h : RootRes xd xt res) :
  (n < 0 ↔ res.2.2 = 3) ∧ (res.2.2 = 0 → mulS res.1 res.2.1 res.1 res.2.1 = (xd, xt, 0) ∧ ∀ m c, SignRes res.1 res.2.1 m c → c = 0 ∧ 0 ≤ m) := by
 rcases h with ⟨h1, _⟩ | ⟨_, s, hs, h1⟩
 ·rw [hx] at h1; cases h1
 ·obtain rfl := hs.unique hn
  rcases h1 with ⟨h1, rfl⟩ | ⟨h1, rfl⟩ | ⟨h1, rfl⟩
  ·exact ⟨⟨fun _ => rfl, fun _ => h1⟩, fun h => by cases h⟩
  ·subst h1
   have hnil := (sign_zero hx).1 hn
   subst hnil
   have h1 := nil_one hx
   subst h1
   refine ⟨⟨fun h => by omega, fun h => by cases h⟩, fun _ => ⟨by decide +kernel, fun m c hm => ?_⟩⟩
   obtain ⟨h0, h2⟩ := sign_ok_ (by decide +kernel) hm
   have := h2.unique (.inl ⟨rfl, rfl⟩)
   exact ⟨h0, by omega⟩
  ·refine ⟨⟨fun h => by omega, fun h => absurd h (rootP_codes xd xt).1⟩, fun h => ?_⟩
   exact root_sq (rd := (rootP xd xt).1) (rt := (rootP xd xt).2.1) hx hs h1 (by rw [← h])
theorem overT_le (kv : List (Int × Int)) (den : Int) : (overT kv den).length ≤ kv.length := by
 unfold overT termsG
 rw [List.length_map, (sortI_perm _).length_eq, List.length_map]
 exact List.length_filter_le _ _
theorem overS_le {kv : List (Int × Int)} {den d : Int} {ts : List (Int × Int)} (h : overS kv den = (d, ts, 0)) : ts.length ≤ kv.length := by
 have := overT_le kv den
 unfold overS at h
 split at h
 ·injection h with _ h; injection h with _ h; cases h
 ·split at h
  ·injection h with _ h; injection h with _ h; cases h
  ·injection h with _ h; injection h with h _; rw [← h]; exact this
theorem sq_opp {xd n sd : Int} {xt st : List (Int × Int)} (hx : numOK xd xt = true) (hn : SignOf xt n) (h0 : n < 0) (hl : xt.length ≤ 2) (hsq : mulS xd xt xd xt = (sd, st, 0)) {res : Int × List (Int × Int) × Int} (hr : RootRes sd st res) :
  res = plusS 1 [] xd xt (-1) := by
 obtain ⟨hc, hi⟩ := opp_of (IsN.self hx)
 obtain ⟨od, ot, c, he⟩ : ∃ d t c, plusS 1 [] xd xt (-1) = (d, t, c) := ⟨_, _, _, rfl⟩
 rw [he] at hc hi ⊢
 dsimp only at hc hi
 subst hc
 have hp := prod_mul (numOK_free hx) (numOK_free hx)
 have hm := mul_is (IsN.self hx) (IsN.self hx) hp hsq
 have hp2 : MulN (fun k => -linT xt k) (fun k => -linT xt k) (linK (prodS [] xt xt)) :=
  (((hp.smul_l (-1)).comm.smul_l (-1)).comm).congr (fun k => by (try dsimp only); omega) (fun k => by (try dsimp only); omega) (fun k => by (try dsimp only); omega)
 have h2 : mulS od ot od ot = (sd, st, 0) := sq_is hi hm.1 hp2 hm.val.symm
 have hlo : ot.length ≤ 2 := by
  have h3 := he
  unfold plusS at h3
  rw [show numOK 1 [] = true by decide +kernel, hx] at h3
  simp only [Bool.and_self, if_true] at h3
  have e : addAll (addAll [] [] xd) xt (-1 * 1) = xt.map (fun t => (t.2, t.1 * (-1 * 1))) := by
   obtain ⟨f1, f2⟩ := numOK_roots hx
   rw [show addAll [] [] xd = [] from rfl, addAll_free xt [] _ f1 f2 (by simp)]; rfl
  rw [e] at h3
  have := overS_le h3
  rw [List.length_map] at this
  omega
 refine root_near hi.1 hlo (fun s hs => ?_) h2 hr
 have := (hi.sgO hs).unique hn.sg.neg
 omega
theorem sq_back {xd n sd : Int} {xt st : List (Int × Int)} (hx : numOK xd xt = true) (hn : SignOf xt n) (h0 : 0 ≤ n) (hl : xt.length ≤ 2) (hsq : mulS xd xt xd xt = (sd, st, 0)) {res : Int × List (Int × Int) × Int} (hr : RootRes sd st res) : res = (xd, xt, 0) :=
 root_near hx hl (fun s hs => by have := hs.unique hn; omega) hsq hr
theorem opp_ok {xd : Int} {xt : List (Int × Int)} (hx : numOK xd xt = true) : (plusS 1 [] xd xt (-1)).2.2 = 0 := (opp_of (IsN.self hx)).1
end Go.Proofs.YthkblgglmohciaaGreatDoor
