import Derived.Test.YtfmnnceacdpbdaaGreatDoorRootB
import Derived.Test.YtfmnnceacdpbdaaGreatDoorAsyToAsyW
import Derived.Test.YtfmnnceacdpbdaaGreatDoorRatA
set_option linter.unusedVariables false
set_option linter.unusedSimpArgs false
namespace Go.Proofs.YtfmnnceacdpbdaaGreatDoor
def Ge (f : Nat → Int) : Prop := Grows f ∨ Bdd f
def Lt (f : Nat → Int) : Prop := Grows fun k => -f k
theorem Ge.not_lt {f : Nat → Int} (h : Ge f) (h' : Lt f) : False := by
 rcases h with h | h
 ·exact h.not_neg h'
 ·exact Grows.not_bdd h' h.neg
theorem Sg.ge {f : Nat → Int} {s : Int} (h : Sg f s) (hs : 0 ≤ s) : Ge f := by
 rcases h with ⟨_, h⟩ | ⟨h, _⟩ | ⟨_, h⟩
 ·exact .inl h
 ·omega
 ·exact .inr h
theorem Sg.lt {f : Nat → Int} {s : Int} (h : Sg f s) (hs : s < 0) : Lt f := by
 rcases h with ⟨h, _⟩ | ⟨_, h⟩ | ⟨h, _⟩
 ·omega
 ·exact h
 ·omega
theorem Ge.near {f g : Nat → Int} (h : Ge f) (hn : Near f g) : Ge g := by
 rcases h with h | h
 ·exact .inl (h.near hn)
 ·exact .inr ((Bdd.add h hn.symm).congr fun k => by (try dsimp only); omega)
theorem Ge.add {f g : Nat → Int} (hf : Ge f) (hg : Ge g) : Ge fun k => f k + g k := by
 rcases hf with hf | hf <;> rcases hg with hg | hg
 ·exact .inl (hf.add hg)
 ·exact .inl (hf.near (Bdd.congr (fun k => by (try dsimp only); omega) hg.neg))
 ·exact .inl (hg.near (Bdd.congr (fun k => by (try dsimp only); omega) hf.neg))
 ·exact .inr (hf.add hg)
theorem Grows.add_ge {f g : Nat → Int} (hf : Grows f) (hg : Ge g) : Grows fun k => f k + g k := by
 rcases hg with hg | hg
 ·exact hf.add hg
 ·exact hf.near (Bdd.congr (fun k => by (try dsimp only); omega) hg.neg)
theorem Ge.smul {f : Nat → Int} {c : Int} (hc : 0 < c) (h : Ge f) : Ge fun k => c * f k := by
 rcases h with h | h
 ·exact .inl (h.smul hc)
 ·exact .inr (h.smul c)
theorem grows_bits {c : Int} (hc : 0 < c) : Grows fun k => c * bits k := ⟨1, 0, by omega, fun k _ => by
 have := Int.mul_le_mul_of_nonneg_right (show 1 ≤ c by omega) (Int.le_of_lt (bitsI_pos k))
 dsimp only
 omega⟩
theorem ge_bits {c : Int} (hc : 0 ≤ c) : Ge fun k => c * bits k := by
 rcases Int.lt_or_le 0 c with h | h
 ·exact .inl (grows_bits h)
 ·obtain rfl : c = 0 := by omega
  exact .inr (Bdd.zero.congr fun k => by simp)
theorem rtA_one (k : Nat) : rtA 1 k = bits k := by
 unfold rtA
 rw [show (1 : Int).toNat = 1 from rfl, Nat.one_mul, isq_sq]
theorem linT_rat (c : Int) (k : Nat) : linT (ratT c) k = c * bits k := by
 unfold ratT
 split
 ·rename_i h; subst h; simp [linT]
 ·simp [linT, rtA_one]
theorem linT_int (c : Int) (k : Nat) : linT [(c, 1)] k = c * bits k := by simp [linT, rtA_one]
def LowOf (X : Nat → Int) (D f l : Int) : Prop := Ge (fun k => f * X k - D * l * bits k) ∧ Lt (fun k => f * X k - D * (l + 1) * bits k)
theorem LowOf.le {X : Nat → Int} {D f l l' : Int} (hD : 0 < D) (h : LowOf X D f l) (h' : Ge (fun k => f * X k - D * l' * bits k)) : l' ≤ l := by
 rcases Int.lt_or_le l l' with hl | hl
 ·exfalso
  refine Ge.not_lt (Ge.near (Ge.add h' (ge_bits (c := D * (l' - l - 1)) (Int.mul_nonneg (Int.le_of_lt hD) (by omega)))) (Near.of_eq fun k => ?_)) h.2
  (try dsimp only)
  grind
 ·exact hl
theorem LowOf.unique {X : Nat → Int} {D f l l' : Int} (hD : 0 < D) (h : LowOf X D f l) (h' : LowOf X D f l') : l = l' :=
 Int.le_antisymm (h'.le hD h.1) (h.le hD h'.1)
theorem Lt.near {f g : Nat → Int} (h : Lt f) (hn : Near f g) : Lt g := Grows.near h hn.neg
theorem LowOf.shift {X Y : Nat → Int} {D f l c : Int} (hn : Near Y (fun k => X k + c * D * bits k)) (h : LowOf X D f l) : LowOf Y D f (l + c * f) := by
 have h1 := hn.smul f
 refine ⟨h.1.near ?_, h.2.near ?_⟩
 ·refine Near.trans (Near.of_eq fun k => ?_) ((h1.symm).sub (Near.refl fun k => D * (l + c * f) * bits k))
  (try dsimp only); grind
 ·refine Near.trans (Near.of_eq fun k => ?_) ((h1.symm).sub (Near.refl fun k => D * (l + c * f + 1) * bits k))
  (try dsimp only); grind
def IsN (xd : Int) (X : Nat → Int) (rd : Int) (rt : List (Int × Int)) : Prop := numOK rd rt = true ∧ ∃ G, 0 < G ∧ xd = rd * G ∧ Near (fun k => G * linT rt k) X
theorem IsN.sg {xd rd m v s : Int} {X : Nat → Int} {rt : List (Int × Int)} (h : IsN xd X rd rt) (hs : SignOf (lessT rt m [(v, 1)] rd) s) : Sg (fun k => m * X k - xd * v * bits k) s := by
 obtain ⟨_, G, hG, rfl, hn⟩ := h
 have h1 := Sg.smul hG hs.sg
 refine h1.near ((Near.of_eq fun k => ?_).trans ((hn.smul m).sub (Near.refl fun k => rd * G * v * bits k)))
 (try dsimp only)
 rw [linT_lessT, linT_int]
 grind
theorem IsN.cmp {xd rd q s c : Int} {X : Nat → Int} {rt : List (Int × Int)} (h : IsN xd X rd rt) (hq : numOK 1 (ratT q) = true) (hc : CmpRes rd rt 1 (ratT q) s c) : Sg (fun k => X k - xd * q * bits k) s := by
 rcases hc with ⟨_, hs, _⟩ | ⟨hs, _, _⟩
 ·obtain ⟨_, G, hG, rfl, hn⟩ := h
  have h1 := Sg.smul hG hs.sg
  refine h1.near ((Near.of_eq fun k => ?_).trans (hn.sub (Near.refl fun k => rd * G * q * bits k)))
  (try dsimp only)
  rw [linT_lessT, linT_rat]
  grind
 ·rw [h.1, hq] at hs; cases hs
theorem IsN.low {xd rd f l : Int} {X : Nat → Int} {rt : List (Int × Int)} (h : IsN xd X rd rt) (hb : BelowRes rd rt f l) : LowOf X xd f l := by
 obtain ⟨⟨s, h1, h2⟩, ⟨t, h3, h4⟩, _⟩ := hb
 exact ⟨(h.sg h2).ge h1, (h.sg h4).lt h3⟩
theorem addS_new : ∀ (kv : List (Int × Int)) (r c : Int), r ∉ kv.map (·.1) → addS kv r c = kv ++ [(r, c)]
 | [], _, _, _ => rfl
 | (a, x) :: t, r, c, h => by
  unfold addS
  rw [if_neg (fun e => h (by simp [e])), addS_new t r c (fun hm => h (by simp [hm]))]; rfl
theorem addAll_free : ∀ (ts kv : List (Int × Int)) (m : Int), (∀ t ∈ ts, RootOK t.2) → (ts.map (·.2)).Nodup → (∀ t ∈ ts, t.2 ∉ kv.map (·.1)) → addAll kv ts m = kv ++ ts.map (fun t => (t.2, t.1 * m))
 | [], kv, m, _, _, _ => by simp [addAll]
 | t :: ts, kv, m, h1, h2, h3 => by
  have hr := h1 t (by simp)
  rw [List.map_cons, List.nodup_cons] at h2
  have e : addRoot kv (t.1 * m) t.2 = kv ++ [(t.2, t.1 * m)] := by
   unfold addRoot
   rw [if_pos (by have := hr.1; omega), splitN_of_free _ (by have := hr.1; omega) hr.2.2]
   dsimp only
   rw [Int.toNat_of_nonneg (by have := hr.1; omega), addS_new _ _ _ (h3 t (by simp))]; simp
  have := addAll_free ts (addRoot kv (t.1 * m) t.2) m (fun u hu => h1 u (by simp [hu])) h2.2 (fun u hu => by
   rw [e, List.map_append, List.mem_append]
   rintro (h | h)
   ·exact h3 u (by simp [hu]) h
   ·simp only [List.map_cons, List.map_nil, List.mem_singleton] at h
    exact h2.1 (by rw [← h]; exact List.mem_map_of_mem hu))
  show addAll (addRoot kv (t.1 * m) t.2) ts m = _
  rw [this, e]; simp
theorem root_over {s q : Int} (hs : 1 ≤ s ∧ s ≤ 100000) (hq : q ≤ 1000) : overS [(q, s)] 1 = (1, [(s, q)], 0) := by
 have hs0 : s ≠ 0 := by omega
 have hnz : [(q, s)].filter nz = [(q, s)] := by simp [nz, hs0]
 have hG : overG [(q, s)] 1 = 1 := by unfold overG; rw [hnz]; simp [gcdL]
 have hT : overT [(q, s)] 1 = [(s, q)] := by
  unfold overT termsG; rw [hG, hnz]
  simp [sortI, getS]
 unfold overS
 rw [hT, hG]
 have h1 : tooBig (s, q) = false := by unfold tooBig; simp [inB]; omega
 simp [h1]
theorem root_of {n : Int} (hn : 1 ≤ n ∧ n ≤ 1000) {r : Int × List (Int × Int) × Int} (h : RootRes (wholeN n).1 (wholeN n).2 r) : ∃ s q : Int, r = (1, [(s, q)], 0) ∧ 1 ≤ s ∧ s ≤ 31 ∧ RootOK q ∧ Near (rtA n) (fun k => s * rtA q k) := by
 obtain ⟨N, rfl⟩ := Int.eq_ofNat_of_zero_le (show 0 ≤ n by omega)
 have hN : 1 ≤ N := by omega
 obtain ⟨h1, h2, h3, h4⟩ := splitN_spec N hN
 have h5 := (splitN_le N hN).2
 have hs31 : (splitN N).1 ≤ 31 := by
  rcases Nat.lt_or_ge 31 (splitN N).1 with g | g
  ·have g1 := Nat.mul_le_mul (show 32 ≤ (splitN N).1 from g) (show 32 ≤ (splitN N).1 from g)
   have g2 := Nat.mul_le_mul_left ((splitN N).1 * (splitN N).1) h4
   omega
  ·exact g
 have hw : wholeN (N : Int) = (1, [((N : Int), 1)]) := by rw [wholeN_rat, ratT_some (by omega)]
 rw [hw] at h
 have hok : numOK 1 [((N : Int), 1)] = true := by rw [← ratT_some (show (N : Int) ≠ 0 by omega)]; exact numOK_rat.2 ⟨by omega, by omega, gcdL_one _⟩
 refine ⟨((splitN N).1 : Int), ((splitN N).2 : Int), ?_, by omega, by omega, ⟨by omega, by omega, by rw [Int.toNat_natCast]; exact h2⟩, rtA_split hN⟩
 rcases h with ⟨h, _⟩ | ⟨_, s, hs, h⟩
 ·rw [hok] at h; cases h
 ·rcases sign_one hs with ⟨g, _⟩ | ⟨_, g⟩ | ⟨g, _⟩
  ·omega
  ·rcases h with ⟨h, _⟩ | ⟨h, _⟩ | ⟨_, h⟩
   ·omega
   ·omega
   ·have e0 : rootP 1 [((N : Int), 1)] = overS (intoS [] (N : Int) 1 1) 1 := by unfold rootP; simp
    rw [h]
    show rootP 1 [((N : Int), 1)] = _
    rw [e0]
    have e : intoS [] (N : Int) 1 1 = [(((splitN N).2 : Int), ((splitN N).1 : Int))] := by
     unfold intoS
     rw [if_pos (by omega), Int.mul_one, Int.toNat_natCast]
     simp [addS]
    rw [e]
    exact root_over (by omega) (by omega)
  ·omega
theorem opp_of {rd xd : Int} {rt : List (Int × Int)} {X : Nat → Int} (h : IsN xd X rd rt) : (plusS 1 [] rd rt (-1)).2.2 = 0 ∧ IsN xd (fun k => -X k) (plusS 1 [] rd rt (-1)).1 (plusS 1 [] rd rt (-1)).2.1 := by
 obtain ⟨hok, G, hG, hGe, hn⟩ := h
 have hp := numOK_parts hok
 obtain ⟨hr1, hr2⟩ := numOK_roots hok
 have h0 : numOK 1 [] = true := by decide +kernel
 have hcode : (plusS 1 [] rd rt (-1)).2.2 = 0 := by
  unfold plusS
  rw [h0, hok]
  simp only [Bool.and_self, if_true]
  have e : addAll (addAll [] [] rd) rt (-1 * 1) = rt.map (fun t => (t.2, t.1 * (-1 * 1))) := by
   rw [show addAll [] [] rd = [] from rfl, addAll_free rt [] _ hr1 hr2 (by simp)]; rfl
  rw [e]
  have hk : (rt.map (fun t => (t.2, t.1 * (-1 * 1)))).map (·.1) = rt.map (·.2) := by rw [List.map_map]; rfl
  refine overS_small (by rw [hk]; exact hr2) (by rw [List.length_map]; exact hp.2.2.1) (fun r => ?_) (fun r hr => ?_) (by omega)
  ·rcases getS_mem (rt.map (fun t => (t.2, t.1 * (-1 * 1)))) r with h | h
   ·rw [h]; omega
   ·obtain ⟨t, ht, he⟩ := List.mem_map.1 h
    injection he with _ he
    have := (hp.2.2.2 t ht).1.2.2.2
    rw [← he]; omega
  ·rw [hk] at hr
   obtain ⟨t, ht, rfl⟩ := List.mem_map.1 hr
   exact (hr1 t ht).2.1
 refine ⟨hcode, ?_⟩
 obtain ⟨d, t, c, he⟩ : ∃ d t c, plusS 1 [] rd rt (-1) = (d, t, c) := ⟨_, _, _, rfl⟩
 rw [he] at hcode ⊢
 dsimp only at hcode ⊢
 subst hcode
 obtain ⟨_, _, G2, hG2, hGe2, hGn2⟩ := plusS_lin he
 refine ⟨plusS_numOK he, G2 * G, Int.mul_pos hG2 hG, by rw [hGe, ← Int.mul_assoc, ← hGe2, Int.one_mul], ?_⟩
 refine Near.trans (Near.of_eq fun k => ?_) ((hGn2.smul G).trans (Near.trans (Near.of_eq fun k => ?_) hn.neg))
 ·(try dsimp only); grind
 ·(try dsimp only); rw [linT_nil]; grind
end Go.Proofs.YtfmnnceacdpbdaaGreatDoor
namespace Go.Proofs.YtfmnnceacdpbdaaGreatDoor
theorem Grows.not_nonpos {f : Nat → Int} (h : Grows f) (h0 : ∀ k, f k ≤ 0) : False := by
 obtain ⟨D, k0, hD, h⟩ := h
 have := Grows.pos hD (h k0 (Nat.le_refl _))
 have := h0 k0
 omega
theorem Grows.le {f g : Nat → Int} (h : Grows f) (h0 : ∀ k, f k ≤ g k) : Grows g := by
 obtain ⟨D, k0, hD, h⟩ := h
 exact ⟨D, k0, hD, fun k hk => Int.le_trans (h k hk) (Int.mul_le_mul_of_nonneg_left (h0 k) (Int.le_of_lt hD))⟩
theorem Sg.one {f : Nat → Int} {s : Int} (h : Sg f s) (hs : 0 < s) : Grows f := by
 rcases h with ⟨_, h⟩ | ⟨h, _⟩ | ⟨h, _⟩
 ·exact h
 ·omega
 ·omega
theorem Sg.of_grows {f : Nat → Int} {s : Int} (h : Sg f s) (hg : Grows f) : s = 1 := h.unique (.inl ⟨rfl, hg⟩)
theorem rtA_le32 {n : Int} (hn : n ≤ 1000) (k : Nat) : rtA n k ≤ 32 * bits k := by
 unfold rtA
 have h1 := isq_le (n.toNat * (bits k * bits k))
 have h2 : n.toNat * (bits k * bits k) < (32 * bits k + 1) * (32 * bits k + 1) := by
  have g1 : n.toNat * (bits k * bits k) ≤ 1024 * (bits k * bits k) := Nat.mul_le_mul_right _ (by omega)
  have g2 : 1024 * (bits k * bits k) = (32 * bits k) * (32 * bits k) := by rw [Nat.mul_mul_mul_comm]
  have g3 : (32 * bits k) * (32 * bits k) < (32 * bits k + 1) * (32 * bits k + 1) := Nat.mul_self_lt_mul_self (Nat.lt_succ_self _)
  omega
 have := root_le h1 h2
 omega
end Go.Proofs.YtfmnnceacdpbdaaGreatDoor
