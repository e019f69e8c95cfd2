import Derived.Test.YtpibgijgnnmccaaGreatDoorAsyToAsyW
import Derived.Test.YtpibgijgnnmccaaGreatDoorRatA
import Derived.Test.YtpibgijgnnmccaaGreatDoorFlowToWithA
import Derived.Test.YtpibgijgnnmccaaGreatDoorMakeAToMakeB
import Derived.Test.YtpibgijgnnmccaaGreatDoorSgnToLawA
import Derived.Test.YtpibgijgnnmccaaGreatDoorKnown
set_option linter.unusedVariables false
set_option linter.unusedSimpArgs false
namespace Go.Proofs.YtpibgijgnnmccaaGreatDoor
def Ge (f : Nat → Int) : Prop := Grows f ∨ Bdd f
def Lt (f : Nat → Int) : Prop := Grows fun k => -f k
theorem Ge.not_lt {f : Nat → Int} (h : Ge f) (h' : Lt f) : False := by
 rcases h with h | h
 ·exact h.not_neg h'
 ·exact Grows.not_bdd h' h.neg
theorem Sg.ge {f : Nat → Int} {s : Int} (h : Sg f s) (hs : 0 ≤ s) : Ge f := by
 rcases h with ⟨_, h⟩ | ⟨h, _⟩ | ⟨_, h⟩
 ·exact .inl h
 ·omega
 ·exact .inr h
theorem Sg.lt {f : Nat → Int} {s : Int} (h : Sg f s) (hs : s < 0) : Lt f := by
 rcases h with ⟨h, _⟩ | ⟨_, h⟩ | ⟨h, _⟩
 ·omega
 ·exact h
 ·omega
theorem Ge.near {f g : Nat → Int} (h : Ge f) (hn : Near f g) : Ge g := by
 rcases h with h | h
 ·exact .inl (h.near hn)
 ·exact .inr ((Bdd.add h hn.symm).congr fun k => by (try dsimp only); omega)
theorem Ge.add {f g : Nat → Int} (hf : Ge f) (hg : Ge g) : Ge fun k => f k + g k := by
 rcases hf with hf | hf <;> rcases hg with hg | hg
 ·exact .inl (hf.add hg)
 ·exact .inl (hf.near (Bdd.congr (fun k => by (try dsimp only); omega) hg.neg))
 ·exact .inl (hg.near (Bdd.congr (fun k => by (try dsimp only); omega) hf.neg))
 ·exact .inr (hf.add hg)
theorem Grows.add_ge {f g : Nat → Int} (hf : Grows f) (hg : Ge g) : Grows fun k => f k + g k := by
 rcases hg with hg | hg
 ·exact hf.add hg
 ·exact hf.near (Bdd.congr (fun k => by (try dsimp only); omega) hg.neg)
theorem Ge.smul {f : Nat → Int} {c : Int} (hc : 0 < c) (h : Ge f) : Ge fun k => c * f k := by
 rcases h with h | h
 ·exact .inl (h.smul hc)
 ·exact .inr (h.smul c)
theorem grows_bits {c : Int} (hc : 0 < c) : Grows fun k => c * bits k := ⟨1, 0, by omega, fun k _ => by
 have := Int.mul_le_mul_of_nonneg_right (show 1 ≤ c by omega) (Int.le_of_lt (bitsI_pos k))
 dsimp only
 omega⟩
theorem ge_bits {c : Int} (hc : 0 ≤ c) : Ge fun k => c * bits k := by
 rcases Int.lt_or_le 0 c with h | h
 ·exact .inl (grows_bits h)
 ·obtain rfl : c = 0 := by omega
  exact .inr (Bdd.zero.congr fun k => by simp)
theorem rtA_one (k : Nat) : rtA 1 k = bits k := by
 unfold rtA
 rw [show (1 : Int).toNat = 1 from rfl, Nat.one_mul, isq_sq]
theorem linT_rat (c : Int) (k : Nat) : linT (ratT c) k = c * bits k := by
 unfold ratT
 split
 ·rename_i h; subst h; simp [linT]
 ·simp [linT, rtA_one]
theorem linT_int (c : Int) (k : Nat) : linT [(c, 1)] k = c * bits k := by simp [linT, rtA_one]
def LowOf (X : Nat → Int) (D f l : Int) : Prop := Ge (fun k => f * X k - D * l * bits k) ∧ Lt (fun k => f * X k - D * (l + 1) * bits k)
theorem LowOf.le {X : Nat → Int} {D f l l' : Int} (hD : 0 < D) (h : LowOf X D f l) (h' : Ge (fun k => f * X k - D * l' * bits k)) : l' ≤ l := by
 rcases Int.lt_or_le l l' with hl | hl
 ·exfalso
  refine Ge.not_lt (Ge.near (Ge.add h' (ge_bits (c := D * (l' - l - 1)) (Int.mul_nonneg (Int.le_of_lt hD) (by omega)))) (Near.of_eq fun k => ?_)) h.2
  (try dsimp only)
  grind
 ·exact hl
theorem LowOf.unique {X : Nat → Int} {D f l l' : Int} (hD : 0 < D) (h : LowOf X D f l) (h' : LowOf X D f l') : l = l' :=
 Int.le_antisymm (h'.le hD h.1) (h.le hD h'.1)
theorem Lt.near {f g : Nat → Int} (h : Lt f) (hn : Near f g) : Lt g := Grows.near h hn.neg
theorem LowOf.shift {X Y : Nat → Int} {D f l c : Int} (hn : Near Y (fun k => X k + c * D * bits k)) (h : LowOf X D f l) : LowOf Y D f (l + c * f) := by
 have h1 := hn.smul f
 refine ⟨h.1.near ?_, h.2.near ?_⟩
 ·refine Near.trans (Near.of_eq fun k => ?_) ((h1.symm).sub (Near.refl fun k => D * (l + c * f) * bits k))
  (try dsimp only); grind
 ·refine Near.trans (Near.of_eq fun k => ?_) ((h1.symm).sub (Near.refl fun k => D * (l + c * f + 1) * bits k))
  (try dsimp only); grind
def IsN (xd : Int) (X : Nat → Int) (rd : Int) (rt : List (Int × Int)) : Prop := numOK rd rt = true ∧ ∃ G, 0 < G ∧ xd = rd * G ∧ Near (fun k => G * linT rt k) X
theorem IsN.sg {xd rd m v s : Int} {X : Nat → Int} {rt : List (Int × Int)} (h : IsN xd X rd rt) (hs : SignOf (lessT rt m [(v, 1)] rd) s) : Sg (fun k => m * X k - xd * v * bits k) s := by
 obtain ⟨_, G, hG, rfl, hn⟩ := h
 have h1 := Sg.smul hG hs.sg
 refine h1.near ((Near.of_eq fun k => ?_).trans ((hn.smul m).sub (Near.refl fun k => rd * G * v * bits k)))
 (try dsimp only)
 rw [linT_lessT, linT_int]
 grind
theorem IsN.cmp {xd rd q s c : Int} {X : Nat → Int} {rt : List (Int × Int)} (h : IsN xd X rd rt) (hq : numOK 1 (ratT q) = true) (hc : CmpRes rd rt 1 (ratT q) s c) : Sg (fun k => X k - xd * q * bits k) s := by
 rcases hc with ⟨_, hs, _⟩ | ⟨hs, _, _⟩
 ·obtain ⟨_, G, hG, rfl, hn⟩ := h
  have h1 := Sg.smul hG hs.sg
  refine h1.near ((Near.of_eq fun k => ?_).trans (hn.sub (Near.refl fun k => rd * G * q * bits k)))
  (try dsimp only)
  rw [linT_lessT, linT_rat]
  grind
 ·rw [h.1, hq] at hs; cases hs
theorem IsN.low {xd rd f l : Int} {X : Nat → Int} {rt : List (Int × Int)} (h : IsN xd X rd rt) (hb : BelowRes rd rt f l) : LowOf X xd f l := by
 obtain ⟨⟨s, h1, h2⟩, ⟨t, h3, h4⟩, _⟩ := hb
 exact ⟨(h.sg h2).ge h1, (h.sg h4).lt h3⟩
theorem addS_new : ∀ (kv : List (Int × Int)) (r c : Int), r ∉ kv.map (·.1) → addS kv r c = kv ++ [(r, c)]
 | [], _, _, _ => rfl
 | (a, x) :: t, r, c, h => by
  unfold addS
  rw [if_neg (fun e => h (by simp [e])), addS_new t r c (fun hm => h (by simp [hm]))]; rfl
theorem addAll_free : ∀ (ts kv : List (Int × Int)) (m : Int), (∀ t ∈ ts, RootOK t.2) → (ts.map (·.2)).Nodup → (∀ t ∈ ts, t.2 ∉ kv.map (·.1)) → addAll kv ts m = kv ++ ts.map (fun t => (t.2, t.1 * m))
 | [], kv, m, _, _, _ => by simp [addAll]
 | t :: ts, kv, m, h1, h2, h3 => by
  have hr := h1 t (by simp)
  rw [List.map_cons, List.nodup_cons] at h2
  have e : addRoot kv (t.1 * m) t.2 = kv ++ [(t.2, t.1 * m)] := by
   unfold addRoot
   rw [if_pos (by have := hr.1; omega), splitN_of_free _ (by have := hr.1; omega) hr.2.2]
   dsimp only
   rw [Int.toNat_of_nonneg (by have := hr.1; omega), addS_new _ _ _ (h3 t (by simp))]; simp
  have := addAll_free ts (addRoot kv (t.1 * m) t.2) m (fun u hu => h1 u (by simp [hu])) h2.2 (fun u hu => by
   rw [e, List.map_append, List.mem_append]
   rintro (h | h)
   ·exact h3 u (by simp [hu]) h
   ·simp only [List.map_cons, List.map_nil, List.mem_singleton] at h
    exact h2.1 (by rw [← h]; exact List.mem_map_of_mem hu))
  show addAll (addRoot kv (t.1 * m) t.2) ts m = _
  rw [this, e]; simp
theorem root_over {s q : Int} (hs : 1 ≤ s ∧ s ≤ 100000) (hq : q ≤ 1000) : overS [(q, s)] 1 = (1, [(s, q)], 0) := by
 have hs0 : s ≠ 0 := by omega
 have hnz : [(q, s)].filter nz = [(q, s)] := by simp [nz, hs0]
 have hG : overG [(q, s)] 1 = 1 := by unfold overG; rw [hnz]; simp [gcdL]
 have hT : overT [(q, s)] 1 = [(s, q)] := by
  unfold overT termsG; rw [hG, hnz]
  simp [sortI, getS]
 unfold overS
 rw [hT, hG]
 have h1 : tooBig (s, q) = false := by unfold tooBig; simp [inB]; omega
 simp [h1]
theorem root_of {n : Int} (hn : 1 ≤ n ∧ n ≤ 1000) {r : Int × List (Int × Int) × Int} (h : RootRes (wholeN n).1 (wholeN n).2 r) : ∃ s q : Int, r = (1, [(s, q)], 0) ∧ 1 ≤ s ∧ s ≤ 31 ∧ RootOK q ∧ Near (rtA n) (fun k => s * rtA q k) := by
 obtain ⟨N, rfl⟩ := Int.eq_ofNat_of_zero_le (show 0 ≤ n by omega)
 have hN : 1 ≤ N := by omega
 obtain ⟨h1, h2, h3, h4⟩ := splitN_spec N hN
 have h5 := (splitN_le N hN).2
 have hs31 : (splitN N).1 ≤ 31 := by
  rcases Nat.lt_or_ge 31 (splitN N).1 with g | g
  ·have g1 := Nat.mul_le_mul (show 32 ≤ (splitN N).1 from g) (show 32 ≤ (splitN N).1 from g)
   have g2 := Nat.mul_le_mul_left ((splitN N).1 * (splitN N).1) h4
   omega
  ·exact g
 have hw : wholeN (N : Int) = (1, [((N : Int), 1)]) := by rw [wholeN_rat, ratT_some (by omega)]
 rw [hw] at h
 have hok : numOK 1 [((N : Int), 1)] = true := by rw [← ratT_some (show (N : Int) ≠ 0 by omega)]; exact numOK_rat.2 ⟨by omega, by omega, gcdL_one _⟩
 refine ⟨((splitN N).1 : Int), ((splitN N).2 : Int), ?_, by omega, by omega, ⟨by omega, by omega, by rw [Int.toNat_natCast]; exact h2⟩, rtA_split hN⟩
 rcases h with ⟨h, _⟩ | ⟨_, s, hs, h⟩
 ·rw [hok] at h; cases h
 ·rcases sign_one hs with ⟨g, _⟩ | ⟨_, g⟩ | ⟨g, _⟩
  ·omega
  ·rcases h with ⟨h, _⟩ | ⟨h, _⟩ | ⟨_, h⟩
   ·omega
   ·omega
   ·have e0 : rootP 1 [((N : Int), 1)] = overS (intoS [] (N : Int) 1 1) 1 := by unfold rootP; simp
    rw [h]
    show rootP 1 [((N : Int), 1)] = _
    rw [e0]
    have e : intoS [] (N : Int) 1 1 = [(((splitN N).2 : Int), ((splitN N).1 : Int))] := by
     unfold intoS
     rw [if_pos (by omega), Int.mul_one, Int.toNat_natCast]
     simp [addS]
    rw [e]
    exact root_over (by omega) (by omega)
  ·omega
theorem diff_of {xd xc n : Int} {r : Int × List (Int × Int) × Int} (hx : numOK xd (ratT xc) = true) (hb : xd ≤ 1000) (hc : -60000 ≤ xc ∧ xc ≤ 60000) (hn : 1 ≤ n ∧ n ≤ 1000) (h : DiffRes xd (ratT xc) n r) :
  r.2.2 = 0 ∧ IsN xd (fun k => xc * bits k - xd * rtA n k) r.1 r.2.1 := by
 have hxd := (numOK_rat.1 hx).1
 have hin : inB n 1 1000 = true := by simp [inB]; omega
 rcases h with ⟨h, _⟩ | ⟨_, h, _⟩ | ⟨_, _, r0, hr0, hr⟩
 ·rw [hx] at h; cases h
 ·rw [hin] at h; cases h
 ·obtain ⟨s, q, rfl, hs1, hs2, hq, hnear⟩ := root_of hn hr0
  dsimp only at hr
  have hok : numOK 1 [(s, q)] = true := by
   have h4 := (splitN_free q.toNat (by have := hq.1; omega)).2 hq.2.2
   unfold numOK chkT chkT okT
   have g : gcdL [1, s] = 1 := gcdL_one s
   have := hq.1; have := hq.2.1
   simp [inB, g, h4]; omega
  have hs := numOK_parts hx
  have hlen : (ratT xc).length ≤ 1 := by unfold ratT; split <;> simp
  have hcode : (plusS xd (ratT xc) 1 [(s, q)] (-1)).2.2 = 0 := by
   unfold plusS
   rw [hx, hok]
   simp only [Bool.and_self, if_true]
   have b1 := addAll_bd (N := 60000) (m := 1) (by omega) (ratT xc) [] 0 SumB.nil (fun t ht => by
    unfold ratT at ht
    split at ht
    ·cases ht
    ·simp only [List.mem_singleton] at ht
     subst ht
     dsimp only
     rw [show (1 : Int).toNat = 1 from rfl, split1Q]
     simp; omega)
   have b2 := addAll_bd (N := 31000) (m := -1 * xd) (by omega) [(s, q)] _ _ b1 (fun t ht => by
    simp only [List.mem_singleton] at ht
    subst ht
    dsimp only
    rw [splitN_of_free _ (by have := hq.1; omega) hq.2.2]
    have := mul_bd (a := s) (A := 31) (b := -1 * xd) (B := 1000) (by omega) (by omega)
    dsimp only
    rw [show ((1 : Nat) : Int) = 1 from rfl, Int.mul_one]
    omega)
   refine overS_small (addAll_nodup' _ _ _ (addAll_nodup' _ _ _ (by simp))) ?_ (b2.mono ?_) (fun r hr => (addAll_keys _ _ _ (addAll_keys _ _ _ (by simp) (numOK_le hx)) (numOK_le hok) r hr).2.1) (by omega)
   ·have g1 := addAll_len (ratT xc) [] 1
    have g2 := addAll_len [(s, q)] (addAll [] (ratT xc) 1) (-1 * xd)
    rw [show ([(s, q)] : List (Int × Int)).length = 1 from rfl] at g2
    rw [show ([] : List (Int × Int)).length = 0 from rfl] at g1
    omega
   ·have : ((ratT xc).length : Int) ≤ 1 := by omega
    simp; omega
  obtain ⟨rd, rt, rc⟩ := r
  rw [← hr] at hcode
  dsimp only at hcode ⊢
  subst hcode
  have hpl := hr.symm
  obtain ⟨_, _, G, hG, hGe, hGn⟩ := plusS_lin hpl
  refine ⟨rfl, plusS_numOK hpl, G, hG, by omega, hGn.trans ?_⟩
  refine Near.trans (Near.of_eq fun k => ?_) ((Near.refl fun k => xc * bits k).sub ((hnear.symm).smul xd))
  (try dsimp only)
  rw [linT_rat, linT_cons, linT_nil]
  grind
theorem opp_of {rd xd : Int} {rt : List (Int × Int)} {X : Nat → Int} (h : IsN xd X rd rt) : (plusS 1 [] rd rt (-1)).2.2 = 0 ∧ IsN xd (fun k => -X k) (plusS 1 [] rd rt (-1)).1 (plusS 1 [] rd rt (-1)).2.1 := by
 obtain ⟨hok, G, hG, hGe, hn⟩ := h
 have hp := numOK_parts hok
 obtain ⟨hr1, hr2⟩ := numOK_roots hok
 have h0 : numOK 1 [] = true := by decide +kernel
 have hcode : (plusS 1 [] rd rt (-1)).2.2 = 0 := by
  unfold plusS
  rw [h0, hok]
  simp only [Bool.and_self, if_true]
  have e : addAll (addAll [] [] rd) rt (-1 * 1) = rt.map (fun t => (t.2, t.1 * (-1 * 1))) := by
   rw [show addAll [] [] rd = [] from rfl, addAll_free rt [] _ hr1 hr2 (by simp)]; rfl
  rw [e]
  have hk : (rt.map (fun t => (t.2, t.1 * (-1 * 1)))).map (·.1) = rt.map (·.2) := by rw [List.map_map]; rfl
  refine overS_small (by rw [hk]; exact hr2) (by rw [List.length_map]; exact hp.2.2.1) (fun r => ?_) (fun r hr => ?_) (by omega)
  ·rcases getS_mem (rt.map (fun t => (t.2, t.1 * (-1 * 1)))) r with h | h
   ·rw [h]; omega
   ·obtain ⟨t, ht, he⟩ := List.mem_map.1 h
    injection he with _ he
    have := (hp.2.2.2 t ht).1.2.2.2
    rw [← he]; omega
  ·rw [hk] at hr
   obtain ⟨t, ht, rfl⟩ := List.mem_map.1 hr
   exact (hr1 t ht).2.1
 refine ⟨hcode, ?_⟩
 obtain ⟨d, t, c, he⟩ : ∃ d t c, plusS 1 [] rd rt (-1) = (d, t, c) := ⟨_, _, _, rfl⟩
 rw [he] at hcode ⊢
 dsimp only at hcode ⊢
 subst hcode
 obtain ⟨_, _, G2, hG2, hGe2, hGn2⟩ := plusS_lin he
 refine ⟨plusS_numOK he, G2 * G, Int.mul_pos hG2 hG, by rw [hGe, ← Int.mul_assoc, ← hGe2, Int.one_mul], ?_⟩
 refine Near.trans (Near.of_eq fun k => ?_) ((hGn2.smul G).trans (Near.trans (Near.of_eq fun k => ?_) hn.neg))
 ·(try dsimp only); grind
 ·(try dsimp only); rw [linT_nil]; grind
end Go.Proofs.YtpibgijgnnmccaaGreatDoor
namespace Go.Proofs.YtpibgijgnnmccaaGreatDoor
theorem Grows.not_nonpos {f : Nat → Int} (h : Grows f) (h0 : ∀ k, f k ≤ 0) : False := by
 obtain ⟨D, k0, hD, h⟩ := h
 have := Grows.pos hD (h k0 (Nat.le_refl _))
 have := h0 k0
 omega
theorem Grows.le {f g : Nat → Int} (h : Grows f) (h0 : ∀ k, f k ≤ g k) : Grows g := by
 obtain ⟨D, k0, hD, h⟩ := h
 exact ⟨D, k0, hD, fun k hk => Int.le_trans (h k hk) (Int.mul_le_mul_of_nonneg_left (h0 k) (Int.le_of_lt hD))⟩
theorem Sg.one {f : Nat → Int} {s : Int} (h : Sg f s) (hs : 0 < s) : Grows f := by
 rcases h with ⟨_, h⟩ | ⟨h, _⟩ | ⟨h, _⟩
 ·exact h
 ·omega
 ·omega
theorem Sg.of_grows {f : Nat → Int} {s : Int} (h : Sg f s) (hg : Grows f) : s = 1 := h.unique (.inl ⟨rfl, hg⟩)
theorem rtA_le32 {n : Int} (hn : n ≤ 1000) (k : Nat) : rtA n k ≤ 32 * bits k := by
 unfold rtA
 have h1 := isq_le (n.toNat * (bits k * bits k))
 have h2 : n.toNat * (bits k * bits k) < (32 * bits k + 1) * (32 * bits k + 1) := by
  have g1 : n.toNat * (bits k * bits k) ≤ 1024 * (bits k * bits k) := Nat.mul_le_mul_right _ (by omega)
  have g2 : 1024 * (bits k * bits k) = (32 * bits k) * (32 * bits k) := by rw [Nat.mul_mul_mul_comm]
  have g3 : (32 * bits k) * (32 * bits k) < (32 * bits k + 1) * (32 * bits k + 1) := Nat.mul_self_lt_mul_self (Nat.lt_succ_self _)
  omega
 have := root_le h1 h2
 omega
def OffP (X : Nat → Int) (D f low high : Int) : Prop := LowOf X D f low ∧ ((Grows (fun k => f * X k - D * low * bits k) ∧ high = low + 1) ∨ (Bdd (fun k => f * X k - D * low * bits k) ∧ high = low))
def difX (xc xd n : Int) (k : Nat) : Int := xc * bits k - xd * rtA n k
theorem off_of {xd xc n f low high c : Int} (hx : numOK xd (ratT xc) = true) (hb : xd ≤ 1000) (hc : -60000 ≤ xc ∧ xc ≤ 60000) (hn : 1 ≤ n ∧ n ≤ 1000) (hf : 1 ≤ f ∧ f ≤ 65536) (h : OffRes xd (ratT xc) n f low high c) : c = 0 ∧ OffP (difX xc xd n) xd f low high := by
 obtain ⟨r, hr, h⟩ := h
 obtain ⟨h0, hN⟩ := diff_of hx hb hc hn hr
 rcases h with ⟨h, _⟩ | ⟨_, h⟩
 ·exact absurd h0 h
 ·have hin : inB f 1 1000000000 = true := by simp [inB]; omega
  rcases h with ⟨h, _⟩ | ⟨_, h, _⟩ | ⟨_, _, hc0, hbl, hh⟩
  ·rw [hN.1] at h; cases h
  ·rw [hin] at h; cases h
  ·refine ⟨hc0, hN.low hbl, ?_⟩
   rcases hh with ⟨⟨s, h1, h2⟩, h3⟩ | ⟨h2, h3⟩
   ·exact .inl ⟨(hN.sg h2).one h1, h3⟩
   ·refine .inr ⟨?_, h3⟩
    rcases hN.sg h2 with ⟨h, _⟩ | ⟨h, _⟩ | ⟨_, h⟩
    ·omega
    ·omega
    ·exact h
theorem OffP.shift {X Y : Nat → Int} {D f low high a b c : Int} (hD : 0 < D) (hn : Near Y (fun k => X k + c * D * bits k)) (h : OffP X D f low high) (h' : OffP Y D f a b) : a = low + c * f ∧ b = high + c * f := by
 have ha : a = low + c * f := h'.1.unique hD (h.1.shift hn)
 refine ⟨ha, ?_⟩
 subst ha
 have hnn : Near (fun k => f * X k - D * low * bits k) (fun k => f * Y k - D * (low + c * f) * bits k) := by
  refine Near.trans (Near.of_eq fun k => ?_) (((hn.smul f).symm).sub (Near.refl fun k => D * (low + c * f) * bits k))
  (try dsimp only); grind
 rcases h.2 with ⟨h1, h2⟩ | ⟨h1, h2⟩ <;> rcases h'.2 with ⟨h3, h4⟩ | ⟨h3, h4⟩
 ·omega
 ·exact ((h1.near hnn).not_bdd h3).elim
 ·exact ((h3.near hnn.symm).not_bdd h1).elim
 ·omega
theorem OffP.up {X : Nat → Int} {D f low high : Int} (h : OffP X D f low high) : Ge fun k => D * high * bits k - f * X k := by
 rcases h.2 with ⟨_, rfl⟩ | ⟨h1, rfl⟩
 ·exact .inl (Grows.congr (fun k => by (try dsimp only); omega) h.1.2)
 ·exact .inr (h1.neg.congr fun k => by (try dsimp only); omega)
theorem OffP.range {xc xd n f low high : Int} (hd : 0 < xd) (hc : 0 ≤ xc ∧ xc ≤ 19999 * xd) (hn : 1 ≤ n ∧ n ≤ 1000) (hf : 1 ≤ f ∧ f ≤ 65536) (h : OffP (difX xc xd n) xd f low high) : low ≤ high ∧ high ≤ low + 1 ∧ -100 * f ≤ low ∧ high ≤ 20001 * f := by
 have hh : high = low + 1 ∨ high = low := by rcases h.2 with ⟨_, h⟩ | ⟨_, h⟩; exact .inl h; exact .inr h
 have h1 : -32 * f ≤ low := by
  rcases Int.lt_or_le low (-32 * f) with h1 | h1
  ·exfalso
   refine Grows.not_nonpos h.1.2 (fun k => ?_)
   have e1 := rtA_le32 hn.2 k
   have e2 := bitsI_pos k
   unfold difX
   have e3 : 0 ≤ xc * bits k := Int.mul_nonneg hc.1 (Int.le_of_lt e2)
   have e4 : xd * rtA n k ≤ xd * (32 * bits k) := Int.mul_le_mul_of_nonneg_left e1 (Int.le_of_lt hd)
   have e5 : f * (-(xd * (32 * bits k))) ≤ f * (xc * bits k - xd * rtA n k) := Int.mul_le_mul_of_nonneg_left (by omega) (by omega)
   have e6 : xd * bits k * (low + 1) ≤ xd * bits k * (-32 * f) := Int.mul_le_mul_of_nonneg_left (by omega) (Int.le_of_lt (Int.mul_pos hd e2))
   have e7 : xd * bits k * (low + 1) = xd * (low + 1) * bits k := Int.mul_right_comm _ _ _
   have e8 : xd * bits k * (-32 * f) = f * (-(xd * (32 * bits k))) := by grind
   (try dsimp only)
   omega
  ·exact h1
 have h2 : low ≤ 19999 * f := by
  rcases Int.lt_or_le (19999 * f) low with h2 | h2
  ·exfalso
   refine Ge.not_lt h.1.1 (Grows.le (grows_bits hd) (fun k => ?_))
   have e2 := bitsI_pos k
   have e1 := rtA_nonneg n k
   unfold difX
   have e3 : 0 ≤ xd * rtA n k := Int.mul_nonneg (Int.le_of_lt hd) e1
   have e4 : f * (xc * bits k - xd * rtA n k) ≤ f * (19999 * xd * bits k) := Int.mul_le_mul_of_nonneg_left (by have := Int.mul_le_mul_of_nonneg_right hc.2 (Int.le_of_lt e2); omega) (by omega)
   have e6 : xd * bits k * (19999 * f + 1) ≤ xd * bits k * low := Int.mul_le_mul_of_nonneg_left (by omega) (Int.le_of_lt (Int.mul_pos hd e2))
   have e7 : xd * bits k * low = xd * low * bits k := Int.mul_right_comm _ _ _
   have e8 : xd * bits k * (19999 * f + 1) = f * (19999 * xd * bits k) + xd * bits k := by grind
   (try dsimp only)
   omega
  ·exact h2
 omega
theorem within_of {xd xc n q c : Int} {b : Bool} (hx : numOK xd (ratT xc) = true) (hb : xd ≤ 1000) (hc : -60000 ≤ xc ∧ xc ≤ 60000) (hn : 1 ≤ n ∧ n ≤ 1000) (hq : numOK 1 (ratT q) = true) (h : WithinRes xd (ratT xc) n 1 (ratT q) b c) :
  c = 0 ∧ ∃ s1 s2, Sg (fun k => difX xc xd n k - xd * q * bits k) s1 ∧ Sg (fun k => -difX xc xd n k - xd * q * bits k) s2 ∧ b = (decide (s1 ≤ 0) && decide (s2 ≤ 0)) := by
 rcases h with ⟨h, _⟩ | ⟨_, r, hr, h⟩
 ·rw [hq] at h; cases h
 ·obtain ⟨h0, hN⟩ := diff_of hx hb hc hn hr
  rcases h with ⟨h, _⟩ | ⟨_, hc0, s1, c1, s2, c2, h1, h2, h3⟩
  ·exact absurd h0 h
  ·obtain ⟨_, hO⟩ := opp_of hN
   exact ⟨hc0, s1, s2, hN.cmp hq h1, hO.cmp hq h2, h3⟩
theorem moves_within {xc xd n f low high q s1 s2 : Int} (hd : 0 < xd) (hf : 1 ≤ f) (h : OffP (difX xc xd n) xd f low high) (h1 : high ≤ q * f) (h2 : -low ≤ q * f)
  (g1 : Sg (fun k => difX xc xd n k - xd * q * bits k) s1) (g2 : Sg (fun k => -difX xc xd n k - xd * q * bits k) s2) : s1 ≤ 0 ∧ s2 ≤ 0 := by
 constructor
 ·rcases Int.lt_or_le 0 s1 with hs | hs
  ·exfalso
   refine Ge.not_lt (Ge.add h.up (ge_bits (c := xd * (q * f - high)) (Int.mul_nonneg (Int.le_of_lt hd) (by omega)))) (Grows.congr (fun k => ?_) (Grows.smul (show 0 < f by omega) (g1.one hs)))
   (try dsimp only); grind
  ·exact hs
 ·rcases Int.lt_or_le 0 s2 with hs | hs
  ·exfalso
   refine Ge.not_lt (Ge.add h.1.1 (ge_bits (c := xd * (q * f + low)) (Int.mul_nonneg (Int.le_of_lt hd) (by omega)))) (Grows.congr (fun k => ?_) (Grows.smul (show 0 < f by omega) (g2.one hs)))
   (try dsimp only); grind
  ·exact hs
theorem moves_without {xc xd n f low high l s1 s2 : Int} (hd : 0 < xd) (hf : 1 ≤ f) (h : OffP (difX xc xd n) xd f low high) (h1 : l * f ≤ low ∨ l * f ≤ -high)
  (g1 : Sg (fun k => difX xc xd n k - xd * (l - 1) * bits k) s1) (g2 : Sg (fun k => -difX xc xd n k - xd * (l - 1) * bits k) s2) : s1 = 1 ∨ s2 = 1 := by
 have hfd : 0 < xd * f := Int.mul_pos hd (by omega)
 rcases h1 with h1 | h1
 ·refine .inl (g1.of_grows (Grows.unsmul (show 0 < f by omega) (Grows.congr (fun k => ?_) (Grows.add_ge (grows_bits hfd) (Ge.add h.1.1 (ge_bits (c := xd * (low - l * f)) (Int.mul_nonneg (Int.le_of_lt hd) (by omega))))))))
  (try dsimp only); grind
 ·refine .inr (g2.of_grows (Grows.unsmul (show 0 < f by omega) (Grows.congr (fun k => ?_) (Grows.add_ge (grows_bits hfd) (Ge.add h.up (ge_bits (c := xd * (-high - l * f)) (Int.mul_nonneg (Int.le_of_lt hd) (by omega))))))))
  (try dsimp only); grind
end Go.Proofs.YtpibgijgnnmccaaGreatDoor
namespace Go.Proofs.YtpibgijgnnmccaaGreatDoor
open Go.RowKit
theorem make_one (W : World) (num D : Int) : Calls Tryz.prog 50 #[.int .i64 D, .slice (some ⟨W.heap.size, 0, none⟩) 1 1] (W.alloc (.cells #[.int .i64 num, .int .i64 1] 71)) (NumPost (W.alloc (.cells #[.int .i64 num, .int .i64 1] 71)) (makeS D [(num, 1)])) := by
 have h : (W.alloc (.cells #[.int .i64 num, .int .i64 1] 71)).ownsRow W.heap.size 71 2 (.slice (some ⟨W.heap.size, 0, none⟩) 1 1) 1 (cellsT [(num, 1)]) :=
  World.ownsRow_lit (base := W.heap.size) (e := 71) (size := 2) W #[.int .i64 num, .int .i64 1] 1 (Nat.le_refl _) (by unfold maxLen; omega) rfl
 exact make_any D (some ⟨W.heap.size, 0, none⟩) 1 1 _ [(num, 1)] _ (Rd.of_own h) (Nat.le_refl _)
structure MovS (w : World) (X9 : Nat) (xd : Int) (A : Option Addr) (n c : Nat) (xt : List (Int × Int)) (W : World) : Prop where
 below : Below w.heap.size w W
 size : w.heap.size ≤ W.heap.size
 blk : Blk W X9 33 #[.int .i64 xd, .slice A n c]
 own : OwnN 0 (A, n, c) xt W
theorem MovS.under {w : World} {X9 : Nat} {xd : Int} {A : Option Addr} {n c : Nat} {xt : List (Int × Int)} {W W' : World} (h : MovS w X9 xd A n c xt W) (hb : Below W.heap.size W W') : MovS w X9 xd A n c xt W' :=
 ⟨h.below.trans (hb.mono h.size), Nat.le_trans h.size hb.size, h.blk.below hb h.blk.lt, own_below h.own hb⟩
instance {w : World} {X9 : Nat} {xd : Int} {A : Option Addr} {n c : Nat} {xt : List (Int × Int)} : Kept (MovS w X9 xd A n c xt) := ⟨fun _ _ h hb => h.under hb⟩
theorem MovS.put {w : World} {X9 : Nat} {xd : Int} {A : Option Addr} {n c : Nat} {xt : List (Int × Int)} {W : World} (h : MovS w X9 xd A n c xt W) {X : Nat} {u0 v0 u v : Value} (hX : Blk W X 33 #[u0, v0]) (hw : w.heap.size ≤ X) (hne : X9 ≠ X) :
  MovS w X9 xd A n c xt ((W.setCell ⟨X, 0, none⟩ u).setCell ⟨X, 1, none⟩ v) :=
 ⟨(h.below.setCell (p := ⟨X, 0, none⟩) hw u).setCell (p := ⟨X, 1, none⟩) hw v, by simpa using h.size, (h.blk.far (p := ⟨X, 0, none⟩) hne u).far (p := ⟨X, 1, none⟩) hne v, own_set (own_set h.own hX (by decide)) (hX.set_ 0 u) (by decide)⟩
theorem norm_le {v den d c : Int} (hv : 0 ≤ v) (hd : 0 < den) (h : normQ v den = (d, ratT c, 0)) : 1 ≤ d ∧ d ≤ den ∧ 0 ≤ c ∧ c ≤ v ∧ numOK d (ratT c) = true := by
 obtain ⟨c', hc', h1, h2⟩ := normQ_ok hd h
 have hdp := numOK_pos h2
 have hcc : c = c' := by
  by_cases e : c = 0
  ·by_cases e' : c' = 0
   ·rw [e, e']
   ·rw [e, ratT_zero, ratT_some e'] at hc'; cases hc'
  ·rw [ratT_some e] at hc'
   by_cases e' : c' = 0
   ·rw [e', ratT_zero] at hc'; cases hc'
   ·rw [ratT_some e'] at hc'
    injection hc' with g _
    injection g
 subst hcc
 obtain ⟨e1, e2⟩ := norm_unique hd hdp (numOK_rat.1 h2).2.2 h1
 have b1 := tdiv_le (a := den) (G := gcdQ v den) (M := den) (by omega)
 have b2 := tdiv_le (a := v) (G := gcdQ v den) (M := v) (by omega)
 rw [e1] at b1
 rw [e2] at b2
 refine ⟨by omega, b1.2, ?_, b2.2, h2⟩
 rcases Int.lt_or_le c 0 with h | h
 ·have := Int.mul_neg_of_neg_of_pos h hd
  have := Int.mul_nonneg hv (Int.le_of_lt hdp)
  omega
 ·exact h
theorem plus_three {xd xc : Int} (hx : numOK xd (ratT xc) = true) (h1 : xd ≤ 1000) (h2 : 0 ≤ xc ∧ xc ≤ 20000) : plusS xd (ratT xc) 1 [(3, 1)] 1 = (xd, ratT (xc + 3 * xd), 0) ∧ numOK xd (ratT (xc + 3 * xd)) = true := by
 have hd := numOK_pos hx
 have hg := (numOK_rat.1 hx).2.2
 have hn : numOK xd (ratT (xc + 3 * xd)) = true := by
  refine numOK_rat.2 ⟨by omega, by omega, ?_⟩
  obtain ⟨C, rfl⟩ := Int.eq_ofNat_of_zero_le h2.1
  obtain ⟨X, rfl⟩ := Int.eq_ofNat_of_zero_le (Int.le_of_lt hd)
  rw [gcdL_two] at hg ⊢
  rw [show ((C : Int) + 3 * (X : Int)) = ((C + 3 * X : Nat) : Int) by simp]
  rw [Int.natAbs_natCast, Int.natAbs_natCast] at hg ⊢
  rw [Nat.gcd_add_mul_right_right]
  exact hg
 refine ⟨?_, hn⟩
 have h3 : numOK 1 (ratT 3) = true := by decide +kernel
 show plusS xd (ratT xc) 1 (ratT 3) 1 = _
 rw [plus_ratS hx h3]
 exact normQ_eq (by omega) hn (by grind)
theorem make_int {q : Int} (h : 0 ≤ q ∧ q ≤ 100000) : makeS 1 [(q, 1)] = (1, ratT q, 0) ∧ numOK 1 (ratT q) = true := by
 have hn : numOK 1 (ratT q) = true := numOK_rat.2 ⟨by omega, by omega, gcdL_one _⟩
 refine ⟨?_, hn⟩
 rw [(make_ratS (num := q) (D := 1) h (by omega)).1]
 exact normQ_eq (by omega) hn (by omega)
end Go.Proofs.YtpibgijgnnmccaaGreatDoor
