import Derived.Test.YtloegjlknpioeaaGreatDoorAsyToAsyW
import Derived.Test.YtloegjlknpioeaaGreatDoorRatAToRatB
import Derived.Test.YtloegjlknpioeaaGreatDoorFlowToWithA
import Derived.Test.YtloegjlknpioeaaGreatDoorMakeAToMakeB
import Derived.Test.YtloegjlknpioeaaGreatDoorSgnToLawA
import Derived.Test.YtloegjlknpioeaaGreatDoorKnown
set_option linter.unusedVariables false
set_option linter.unusedSimpArgs false
namespace Go.Proofs.YtloegjlknpioeaaGreatDoor
def Ge (f : Nat → Int) : Prop := Grows f ∨ Bdd f
def Lt (f : Nat → Int) : Prop := Grows fun k => -f k
theorem Ge.not_lt {f : Nat → Int} (h : Ge f) (h' : Lt f) : False := by
 rcases h with h | h
 ·exact h.not_neg h'
 ·exact Grows.not_bdd h' h.neg
theorem Sg.ge {f : Nat → Int} {s : Int} (h : Sg f s) (hs : 0 ≤ s) : Ge f := by
 rcases h with ⟨_, h⟩ | ⟨h, _⟩ | ⟨_, h⟩
 ·exact .inl h
 ·omega
 ·exact .inr h
theorem Sg.lt {f : Nat → Int} {s : Int} (h : Sg f s) (hs : s < 0) : Lt f := by
 rcases h with ⟨h, _⟩ | ⟨_, h⟩ | ⟨h, _⟩
 ·omega
 ·exact h
 ·omega
theorem Ge.near {f g : Nat → Int} (h : Ge f) (hn : Near f g) : Ge g := by
 rcases h with h | h
 ·exact .inl (h.near hn)
 ·exact .inr ((Bdd.add h hn.symm).congr fun k => by (try dsimp only); omega)
theorem Ge.add {f g : Nat → Int} (hf : Ge f) (hg : Ge g) : Ge fun k => f k + g k := by
 rcases hf with hf | hf <;> rcases hg with hg | hg
 ·exact .inl (hf.add hg)
 ·exact .inl (hf.near (Bdd.congr (fun k => by (try dsimp only); omega) hg.neg))
 ·exact .inl (hg.near (Bdd.congr (fun k => by (try dsimp only); omega) hf.neg))
 ·exact .inr (hf.add hg)
theorem Grows.add_ge {f g : Nat → Int} (hf : Grows f) (hg : Ge g) : Grows fun k => f k + g k := by
 rcases hg with hg | hg
 ·exact hf.add hg
 ·exact hf.near (Bdd.congr (fun k => by (try dsimp only); omega) hg.neg)
theorem Ge.smul {f : Nat → Int} {c : Int} (hc : 0 < c) (h : Ge f) : Ge fun k => c * f k := by
 rcases h with h | h
 ·exact .inl (h.smul hc)
 ·exact .inr (h.smul c)
theorem grows_bits {c : Int} (hc : 0 < c) : Grows fun k => c * bits k := ⟨1, 0, by omega, fun k _ => by
 have := Int.mul_le_mul_of_nonneg_right (show 1 ≤ c by omega) (Int.le_of_lt (bitsI_pos k))
 dsimp only
 omega⟩
theorem ge_bits {c : Int} (hc : 0 ≤ c) : Ge fun k => c * bits k := by
 rcases Int.lt_or_le 0 c with h | h
 ·exact .inl (grows_bits h)
 ·obtain rfl : c = 0 := by omega
  exact .inr (Bdd.zero.congr fun k => by simp)
theorem rtA_one (k : Nat) : rtA 1 k = bits k := by
 unfold rtA
 rw [show (1 : Int).toNat = 1 from rfl, Nat.one_mul, isq_sq]
theorem linT_rat (c : Int) (k : Nat) : linT (ratT c) k = c * bits k := by
 unfold ratT
 split
 ·rename_i h; subst h; simp [linT]
 ·simp [linT, rtA_one]
theorem linT_int (c : Int) (k : Nat) : linT [(c, 1)] k = c * bits k := by simp [linT, rtA_one]
def LowOf (X : Nat → Int) (D f l : Int) : Prop := Ge (fun k => f * X k - D * l * bits k) ∧ Lt (fun k => f * X k - D * (l + 1) * bits k)
theorem LowOf.le {X : Nat → Int} {D f l l' : Int} (hD : 0 < D) (h : LowOf X D f l) (h' : Ge (fun k => f * X k - D * l' * bits k)) : l' ≤ l := by
 rcases Int.lt_or_le l l' with hl | hl
 ·exfalso
  refine Ge.not_lt (Ge.near (Ge.add h' (ge_bits (c := D * (l' - l - 1)) (Int.mul_nonneg (Int.le_of_lt hD) (by omega)))) (Near.of_eq fun k => ?_)) h.2
  (try dsimp only)
  grind
 ·exact hl
theorem LowOf.unique {X : Nat → Int} {D f l l' : Int} (hD : 0 < D) (h : LowOf X D f l) (h' : LowOf X D f l') : l = l' :=
 Int.le_antisymm (h'.le hD h.1) (h.le hD h'.1)
theorem Lt.near {f g : Nat → Int} (h : Lt f) (hn : Near f g) : Lt g := Grows.near h hn.neg
theorem LowOf.shift {X Y : Nat → Int} {D f l c : Int} (hn : Near Y (fun k => X k + c * D * bits k)) (h : LowOf X D f l) : LowOf Y D f (l + c * f) := by
 have h1 := hn.smul f
 refine ⟨h.1.near ?_, h.2.near ?_⟩
 ·refine Near.trans (Near.of_eq fun k => ?_) ((h1.symm).sub (Near.refl fun k => D * (l + c * f) * bits k))
  (try dsimp only); grind
 ·refine Near.trans (Near.of_eq fun k => ?_) ((h1.symm).sub (Near.refl fun k => D * (l + c * f + 1) * bits k))
  (try dsimp only); grind
def IsN (xd : Int) (X : Nat → Int) (rd : Int) (rt : List (Int × Int)) : Prop := numOK rd rt = true ∧ ∃ G, 0 < G ∧ xd = rd * G ∧ Near (fun k => G * linT rt k) X
theorem IsN.sg {xd rd m v s : Int} {X : Nat → Int} {rt : List (Int × Int)} (h : IsN xd X rd rt) (hs : SignOf (lessT rt m [(v, 1)] rd) s) : Sg (fun k => m * X k - xd * v * bits k) s := by
 obtain ⟨_, G, hG, rfl, hn⟩ := h
 have h1 := Sg.smul hG hs.sg
 refine h1.near ((Near.of_eq fun k => ?_).trans ((hn.smul m).sub (Near.refl fun k => rd * G * v * bits k)))
 (try dsimp only)
 rw [linT_lessT, linT_int]
 grind
theorem IsN.cmp {xd rd q s c : Int} {X : Nat → Int} {rt : List (Int × Int)} (h : IsN xd X rd rt) (hq : numOK 1 (ratT q) = true) (hc : CmpRes rd rt 1 (ratT q) s c) : Sg (fun k => X k - xd * q * bits k) s := by
 rcases hc with ⟨_, hs, _⟩ | ⟨hs, _, _⟩
 ·obtain ⟨_, G, hG, rfl, hn⟩ := h
  have h1 := Sg.smul hG hs.sg
  refine h1.near ((Near.of_eq fun k => ?_).trans (hn.sub (Near.refl fun k => rd * G * q * bits k)))
  (try dsimp only)
  rw [linT_lessT, linT_rat]
  grind
 ·rw [h.1, hq] at hs; cases hs
theorem IsN.low {xd rd f l : Int} {X : Nat → Int} {rt : List (Int × Int)} (h : IsN xd X rd rt) (hb : BelowRes rd rt f l) : LowOf X xd f l := by
 obtain ⟨⟨s, h1, h2⟩, ⟨t, h3, h4⟩, _⟩ := hb
 exact ⟨(h.sg h2).ge h1, (h.sg h4).lt h3⟩
theorem addS_new : ∀ (kv : List (Int × Int)) (r c : Int), r ∉ kv.map (·.1) → addS kv r c = kv ++ [(r, c)]
 | [], _, _, _ => rfl
 | (a, x) :: t, r, c, h => by
  unfold addS
  rw [if_neg (fun e => h (by simp [e])), addS_new t r c (fun hm => h (by simp [hm]))]; rfl
theorem addAll_free : ∀ (ts kv : List (Int × Int)) (m : Int), (∀ t ∈ ts, RootOK t.2) → (ts.map (·.2)).Nodup → (∀ t ∈ ts, t.2 ∉ kv.map (·.1)) → addAll kv ts m = kv ++ ts.map (fun t => (t.2, t.1 * m))
 | [], kv, m, _, _, _ => by simp [addAll]
 | t :: ts, kv, m, h1, h2, h3 => by
  have hr := h1 t (by simp)
  rw [List.map_cons, List.nodup_cons] at h2
  have e : addRoot kv (t.1 * m) t.2 = kv ++ [(t.2, t.1 * m)] := by
   unfold addRoot
   rw [if_pos (by have := hr.1; omega), splitN_of_free _ (by have := hr.1; omega) hr.2.2]
   dsimp only
   rw [Int.toNat_of_nonneg (by have := hr.1; omega), addS_new _ _ _ (h3 t (by simp))]; simp
  have := addAll_free ts (addRoot kv (t.1 * m) t.2) m (fun u hu => h1 u (by simp [hu])) h2.2 (fun u hu => by
   rw [e, List.map_append, List.mem_append]
   rintro (h | h)
   ·exact h3 u (by simp [hu]) h
   ·simp only [List.map_cons, List.map_nil, List.mem_singleton] at h
    exact h2.1 (by rw [← h]; exact List.mem_map_of_mem hu))
  show addAll (addRoot kv (t.1 * m) t.2) ts m = _
  rw [this, e]; simp
theorem root_over {s q : Int} (hs : 1 ≤ s ∧ s ≤ 100000) (hq : q ≤ 1000) : overS [(q, s)] 1 = (1, [(s, q)], 0) := by
 have hs0 : s ≠ 0 := by omega
 have hnz : [(q, s)].filter nz = [(q, s)] := by simp [nz, hs0]
 have hG : overG [(q, s)] 1 = 1 := by unfold overG; rw [hnz]; simp [gcdL]
 have hT : overT [(q, s)] 1 = [(s, q)] := by
  unfold overT termsG; rw [hG, hnz]
  simp [sortI, getS]
 unfold overS
 rw [hT, hG]
 have h1 : tooBig (s, q) = false := by unfold tooBig; simp [inB]; omega
 simp [h1]
theorem root_of {n : Int} (hn : 1 ≤ n ∧ n ≤ 1000) {r : Int × List (Int × Int) × Int} (h : RootRes (wholeN n).1 (wholeN n).2 r) : ∃ s q : Int, r = (1, [(s, q)], 0) ∧ 1 ≤ s ∧ s ≤ 31 ∧ RootOK q ∧ Near (rtA n) (fun k => s * rtA q k) := by
 obtain ⟨N, rfl⟩ := Int.eq_ofNat_of_zero_le (show 0 ≤ n by omega)
 have hN : 1 ≤ N := by omega
 obtain ⟨h1, h2, h3, h4⟩ := splitN_spec N hN
 have h5 := (splitN_le N hN).2
 have hs31 : (splitN N).1 ≤ 31 := by
  rcases Nat.lt_or_ge 31 (splitN N).1 with g | g
  ·have g1 := Nat.mul_le_mul (show 32 ≤ (splitN N).1 from g) (show 32 ≤ (splitN N).1 from g)
   have g2 := Nat.mul_le_mul_left ((splitN N).1 * (splitN N).1) h4
   omega
  ·exact g
 have hw : wholeN (N : Int) = (1, [((N : Int), 1)]) := by rw [wholeN_rat, ratT_some (by omega)]
 rw [hw] at h
 have hok : numOK 1 [((N : Int), 1)] = true := by rw [← ratT_some (show (N : Int) ≠ 0 by omega)]; exact numOK_rat.2 ⟨by omega, by omega, gcdL_one _⟩
 refine ⟨((splitN N).1 : Int), ((splitN N).2 : Int), ?_, by omega, by omega, ⟨by omega, by omega, by rw [Int.toNat_natCast]; exact h2⟩, rtA_split hN⟩
 rcases h with ⟨h, _⟩ | ⟨_, s, hs, h⟩
 ·rw [hok] at h; cases h
 ·rcases sign_one hs with ⟨g, _⟩ | ⟨_, g⟩ | ⟨g, _⟩
  ·omega
  ·rcases h with ⟨h, _⟩ | ⟨h, _⟩ | ⟨_, h⟩
   ·omega
   ·omega
   ·have e0 : rootP 1 [((N : Int), 1)] = overS (intoS [] (N : Int) 1 1) 1 := by unfold rootP; simp
    rw [h]
    show rootP 1 [((N : Int), 1)] = _
    rw [e0]
    have e : intoS [] (N : Int) 1 1 = [(((splitN N).2 : Int), ((splitN N).1 : Int))] := by
     unfold intoS
     rw [if_pos (by omega), Int.mul_one, Int.toNat_natCast]
     simp [addS]
    rw [e]
    exact root_over (by omega) (by omega)
  ·omega
theorem diff_of {xd xc n : Int} {r : Int × List (Int × Int) × Int} (hx : numOK xd (ratT xc) = true) (hb : xd ≤ 1000) (hc : -60000 ≤ xc ∧ xc ≤ 60000) (hn : 1 ≤ n ∧ n ≤ 1000) (h : DiffRes xd (ratT xc) n r) :
  r.2.2 = 0 ∧ IsN xd (fun k => xc * bits k - xd * rtA n k) r.1 r.2.1 := by
 have hxd := (numOK_rat.1 hx).1
 have hin : inB n 1 1000 = true := by simp [inB]; omega
 rcases h with ⟨h, _⟩ | ⟨_, h, _⟩ | ⟨_, _, r0, hr0, hr⟩
 ·rw [hx] at h; cases h
 ·rw [hin] at h; cases h
 ·obtain ⟨s, q, rfl, hs1, hs2, hq, hnear⟩ := root_of hn hr0
  dsimp only at hr
  have hok : numOK 1 [(s, q)] = true := by
   have h4 := (splitN_free q.toNat (by have := hq.1; omega)).2 hq.2.2
   unfold numOK chkT chkT okT
   have g : gcdL [1, s] = 1 := gcdL_one s
   have := hq.1; have := hq.2.1
   simp [inB, g, h4]; omega
  have hs := numOK_parts hx
  have hlen : (ratT xc).length ≤ 1 := by unfold ratT; split <;> simp
  have hcode : (plusS xd (ratT xc) 1 [(s, q)] (-1)).2.2 = 0 := by
   unfold plusS
   rw [hx, hok]
   simp only [Bool.and_self, if_true]
   have b1 := addAll_bd (N := 60000) (m := 1) (by omega) (ratT xc) [] 0 SumB.nil (fun t ht => by
    unfold ratT at ht
    split at ht
    ·cases ht
    ·simp only [List.mem_singleton] at ht
     subst ht
     dsimp only
     rw [show (1 : Int).toNat = 1 from rfl, split1Q]
     simp; omega)
   have b2 := addAll_bd (N := 31000) (m := -1 * xd) (by omega) [(s, q)] _ _ b1 (fun t ht => by
    simp only [List.mem_singleton] at ht
    subst ht
    dsimp only
    rw [splitN_of_free _ (by have := hq.1; omega) hq.2.2]
    have := mul_bd (a := s) (A := 31) (b := -1 * xd) (B := 1000) (by omega) (by omega)
    dsimp only
    rw [show ((1 : Nat) : Int) = 1 from rfl, Int.mul_one]
    omega)
   refine overS_small (addAll_nodup' _ _ _ (addAll_nodup' _ _ _ (by simp))) ?_ (b2.mono ?_) (fun r hr => (addAll_keys _ _ _ (addAll_keys _ _ _ (by simp) (numOK_le hx)) (numOK_le hok) r hr).2.1) (by omega)
   ·have g1 := addAll_len (ratT xc) [] 1
    have g2 := addAll_len [(s, q)] (addAll [] (ratT xc) 1) (-1 * xd)
    rw [show ([(s, q)] : List (Int × Int)).length = 1 from rfl] at g2
    rw [show ([] : List (Int × Int)).length = 0 from rfl] at g1
    omega
   ·have : ((ratT xc).length : Int) ≤ 1 := by omega
    simp; omega
  obtain ⟨rd, rt, rc⟩ := r
  rw [← hr] at hcode
  dsimp only at hcode ⊢
  subst hcode
  have hpl := hr.symm
  obtain ⟨_, _, G, hG, hGe, hGn⟩ := plusS_lin hpl
  refine ⟨rfl, plusS_numOK hpl, G, hG, by omega, hGn.trans ?_⟩
  refine Near.trans (Near.of_eq fun k => ?_) ((Near.refl fun k => xc * bits k).sub ((hnear.symm).smul xd))
  (try dsimp only)
  rw [linT_rat, linT_cons, linT_nil]
  grind
theorem opp_of {rd xd : Int} {rt : List (Int × Int)} {X : Nat → Int} (h : IsN xd X rd rt) : (plusS 1 [] rd rt (-1)).2.2 = 0 ∧ IsN xd (fun k => -X k) (plusS 1 [] rd rt (-1)).1 (plusS 1 [] rd rt (-1)).2.1 := by
 obtain ⟨hok, G, hG, hGe, hn⟩ := h
 have hp := numOK_parts hok
 obtain ⟨hr1, hr2⟩ := numOK_roots hok
 have h0 : numOK 1 [] = true := by decide +kernel
 have hcode : (plusS 1 [] rd rt (-1)).2.2 = 0 := by
  unfold plusS
  rw [h0, hok]
  simp only [Bool.and_self, if_true]
  have e : addAll (addAll [] [] rd) rt (-1 * 1) = rt.map (fun t => (t.2, t.1 * (-1 * 1))) := by
   rw [show addAll [] [] rd = [] from rfl, addAll_free rt [] _ hr1 hr2 (by simp)]; rfl
  rw [e]
  have hk : (rt.map (fun t => (t.2, t.1 * (-1 * 1)))).map (·.1) = rt.map (·.2) := by rw [List.map_map]; rfl
  refine overS_small (by rw [hk]; exact hr2) (by rw [List.length_map]; exact hp.2.2.1) (fun r => ?_) (fun r hr => ?_) (by omega)
  ·rcases getS_mem (rt.map (fun t => (t.2, t.1 * (-1 * 1)))) r with h | h
   ·rw [h]; omega
   ·obtain ⟨t, ht, he⟩ := List.mem_map.1 h
    injection he with _ he
    have := (hp.2.2.2 t ht).1.2.2.2
    rw [← he]; omega
  ·rw [hk] at hr
   obtain ⟨t, ht, rfl⟩ := List.mem_map.1 hr
   exact (hr1 t ht).2.1
 refine ⟨hcode, ?_⟩
 obtain ⟨d, t, c, he⟩ : ∃ d t c, plusS 1 [] rd rt (-1) = (d, t, c) := ⟨_, _, _, rfl⟩
 rw [he] at hcode ⊢
 dsimp only at hcode ⊢
 subst hcode
 obtain ⟨_, _, G2, hG2, hGe2, hGn2⟩ := plusS_lin he
 refine ⟨plusS_numOK he, G2 * G, Int.mul_pos hG2 hG, by rw [hGe, ← Int.mul_assoc, ← hGe2, Int.one_mul], ?_⟩
 refine Near.trans (Near.of_eq fun k => ?_) ((hGn2.smul G).trans (Near.trans (Near.of_eq fun k => ?_) hn.neg))
 ·(try dsimp only); grind
 ·(try dsimp only); rw [linT_nil]; grind
end Go.Proofs.YtloegjlknpioeaaGreatDoor
namespace Go.Proofs.YtloegjlknpioeaaGreatDoor
theorem Grows.not_nonpos {f : Nat → Int} (h : Grows f) (h0 : ∀ k, f k ≤ 0) : False := by
 obtain ⟨D, k0, hD, h⟩ := h
 have := Grows.pos hD (h k0 (Nat.le_refl _))
 have := h0 k0
 omega
theorem Grows.le {f g : Nat → Int} (h : Grows f) (h0 : ∀ k, f k ≤ g k) : Grows g := by
 obtain ⟨D, k0, hD, h⟩ := h
 exact ⟨D, k0, hD, fun k hk => Int.le_trans (h k hk) (Int.mul_le_mul_of_nonneg_left (h0 k) (Int.le_of_lt hD))⟩
theorem Sg.one {f : Nat → Int} {s : Int} (h : Sg f s) (hs : 0 < s) : Grows f := by
 rcases h with ⟨_, h⟩ | ⟨h, _⟩ | ⟨h, _⟩
 ·exact h
 ·omega
 ·omega
theorem Sg.of_grows {f : Nat → Int} {s : Int} (h : Sg f s) (hg : Grows f) : s = 1 := h.unique (.inl ⟨rfl, hg⟩)
theorem rtA_le32 {n : Int} (hn : n ≤ 1000) (k : Nat) : rtA n k ≤ 32 * bits k := by
 unfold rtA
 have h1 := isq_le (n.toNat * (bits k * bits k))
 have h2 : n.toNat * (bits k * bits k) < (32 * bits k + 1) * (32 * bits k + 1) := by
  have g1 : n.toNat * (bits k * bits k) ≤ 1024 * (bits k * bits k) := Nat.mul_le_mul_right _ (by omega)
  have g2 : 1024 * (bits k * bits k) = (32 * bits k) * (32 * bits k) := by rw [Nat.mul_mul_mul_comm]
  have g3 : (32 * bits k) * (32 * bits k) < (32 * bits k + 1) * (32 * bits k + 1) := Nat.mul_self_lt_mul_self (Nat.lt_succ_self _)
  omega
 have := root_le h1 h2
 omega
def OffP (X : Nat → Int) (D f low high : Int) : Prop := LowOf X D f low ∧ ((Grows (fun k => f * X k - D * low * bits k) ∧ high = low + 1) ∨ (Bdd (fun k => f * X k - D * low * bits k) ∧ high = low))
def difX (xc xd n : Int) (k : Nat) : Int := xc * bits k - xd * rtA n k
theorem off_of {xd xc n f low high c : Int} (hx : numOK xd (ratT xc) = true) (hb : xd ≤ 1000) (hc : -60000 ≤ xc ∧ xc ≤ 60000) (hn : 1 ≤ n ∧ n ≤ 1000) (hf : 1 ≤ f ∧ f ≤ 65536) (h : OffRes xd (ratT xc) n f low high c) : c = 0 ∧ OffP (difX xc xd n) xd f low high := by
 obtain ⟨r, hr, h⟩ := h
 obtain ⟨h0, hN⟩ := diff_of hx hb hc hn hr
 rcases h with ⟨h, _⟩ | ⟨_, h⟩
 ·exact absurd h0 h
 ·have hin : inB f 1 1000000000 = true := by simp [inB]; omega
  rcases h with ⟨h, _⟩ | ⟨_, h, _⟩ | ⟨_, _, hc0, hbl, hh⟩
  ·rw [hN.1] at h; cases h
  ·rw [hin] at h; cases h
  ·refine ⟨hc0, hN.low hbl, ?_⟩
   rcases hh with ⟨⟨s, h1, h2⟩, h3⟩ | ⟨h2, h3⟩
   ·exact .inl ⟨(hN.sg h2).one h1, h3⟩
   ·refine .inr ⟨?_, h3⟩
    rcases hN.sg h2 with ⟨h, _⟩ | ⟨h, _⟩ | ⟨_, h⟩
    ·omega
    ·omega
    ·exact h
theorem OffP.shift {X Y : Nat → Int} {D f low high a b c : Int} (hD : 0 < D) (hn : Near Y (fun k => X k + c * D * bits k)) (h : OffP X D f low high) (h' : OffP Y D f a b) : a = low + c * f ∧ b = high + c * f := by
 have ha : a = low + c * f := h'.1.unique hD (h.1.shift hn)
 refine ⟨ha, ?_⟩
 subst ha
 have hnn : Near (fun k => f * X k - D * low * bits k) (fun k => f * Y k - D * (low + c * f) * bits k) := by
  refine Near.trans (Near.of_eq fun k => ?_) (((hn.smul f).symm).sub (Near.refl fun k => D * (low + c * f) * bits k))
  (try dsimp only); grind
 rcases h.2 with ⟨h1, h2⟩ | ⟨h1, h2⟩ <;> rcases h'.2 with ⟨h3, h4⟩ | ⟨h3, h4⟩
 ·omega
 ·exact ((h1.near hnn).not_bdd h3).elim
 ·exact ((h3.near hnn.symm).not_bdd h1).elim
 ·omega
theorem OffP.up {X : Nat → Int} {D f low high : Int} (h : OffP X D f low high) : Ge fun k => D * high * bits k - f * X k := by
 rcases h.2 with ⟨_, rfl⟩ | ⟨h1, rfl⟩
 ·exact .inl (Grows.congr (fun k => by (try dsimp only); omega) h.1.2)
 ·exact .inr (h1.neg.congr fun k => by (try dsimp only); omega)
theorem OffP.range {xc xd n f low high : Int} (hd : 0 < xd) (hc : 0 ≤ xc ∧ xc ≤ 19999 * xd) (hn : 1 ≤ n ∧ n ≤ 1000) (hf : 1 ≤ f ∧ f ≤ 65536) (h : OffP (difX xc xd n) xd f low high) : low ≤ high ∧ high ≤ low + 1 ∧ -100 * f ≤ low ∧ high ≤ 20001 * f := by
 have hh : high = low + 1 ∨ high = low := by rcases h.2 with ⟨_, h⟩ | ⟨_, h⟩; exact .inl h; exact .inr h
 have h1 : -32 * f ≤ low := by
  rcases Int.lt_or_le low (-32 * f) with h1 | h1
  ·exfalso
   refine Grows.not_nonpos h.1.2 (fun k => ?_)
   have e1 := rtA_le32 hn.2 k
   have e2 := bitsI_pos k
   unfold difX
   have e3 : 0 ≤ xc * bits k := Int.mul_nonneg hc.1 (Int.le_of_lt e2)
   have e4 : xd * rtA n k ≤ xd * (32 * bits k) := Int.mul_le_mul_of_nonneg_left e1 (Int.le_of_lt hd)
   have e5 : f * (-(xd * (32 * bits k))) ≤ f * (xc * bits k - xd * rtA n k) := Int.mul_le_mul_of_nonneg_left (by omega) (by omega)
   have e6 : xd * bits k * (low + 1) ≤ xd * bits k * (-32 * f) := Int.mul_le_mul_of_nonneg_left (by omega) (Int.le_of_lt (Int.mul_pos hd e2))
   have e7 : xd * bits k * (low + 1) = xd * (low + 1) * bits k := Int.mul_right_comm _ _ _
   have e8 : xd * bits k * (-32 * f) = f * (-(xd * (32 * bits k))) := by grind
   (try dsimp only)
   omega
  ·exact h1
 have h2 : low ≤ 19999 * f := by
  rcases Int.lt_or_le (19999 * f) low with h2 | h2
  ·exfalso
   refine Ge.not_lt h.1.1 (Grows.le (grows_bits hd) (fun k => ?_))
   have e2 := bitsI_pos k
   have e1 := rtA_nonneg n k
   unfold difX
   have e3 : 0 ≤ xd * rtA n k := Int.mul_nonneg (Int.le_of_lt hd) e1
   have e4 : f * (xc * bits k - xd * rtA n k) ≤ f * (19999 * xd * bits k) := Int.mul_le_mul_of_nonneg_left (by have := Int.mul_le_mul_of_nonneg_right hc.2 (Int.le_of_lt e2); omega) (by omega)
   have e6 : xd * bits k * (19999 * f + 1) ≤ xd * bits k * low := Int.mul_le_mul_of_nonneg_left (by omega) (Int.le_of_lt (Int.mul_pos hd e2))
   have e7 : xd * bits k * low = xd * low * bits k := Int.mul_right_comm _ _ _
   have e8 : xd * bits k * (19999 * f + 1) = f * (19999 * xd * bits k) + xd * bits k := by grind
   (try dsimp only)
   omega
  ·exact h2
 omega
theorem within_of {xd xc n q c : Int} {b : Bool} (hx : numOK xd (ratT xc) = true) (hb : xd ≤ 1000) (hc : -60000 ≤ xc ∧ xc ≤ 60000) (hn : 1 ≤ n ∧ n ≤ 1000) (hq : numOK 1 (ratT q) = true) (h : WithinRes xd (ratT xc) n 1 (ratT q) b c) :
  c = 0 ∧ ∃ s1 s2, Sg (fun k => difX xc xd n k - xd * q * bits k) s1 ∧ Sg (fun k => -difX xc xd n k - xd * q * bits k) s2 ∧ b = (decide (s1 ≤ 0) && decide (s2 ≤ 0)) := by
 rcases h with ⟨h, _⟩ | ⟨_, r, hr, h⟩
 ·rw [hq] at h; cases h
 ·obtain ⟨h0, hN⟩ := diff_of hx hb hc hn hr
  rcases h with ⟨h, _⟩ | ⟨_, hc0, s1, c1, s2, c2, h1, h2, h3⟩
  ·exact absurd h0 h
  ·obtain ⟨_, hO⟩ := opp_of hN
   exact ⟨hc0, s1, s2, hN.cmp hq h1, hO.cmp hq h2, h3⟩
theorem moves_within {xc xd n f low high q s1 s2 : Int} (hd : 0 < xd) (hf : 1 ≤ f) (h : OffP (difX xc xd n) xd f low high) (h1 : high ≤ q * f) (h2 : -low ≤ q * f)
  (g1 : Sg (fun k => difX xc xd n k - xd * q * bits k) s1) (g2 : Sg (fun k => -difX xc xd n k - xd * q * bits k) s2) : s1 ≤ 0 ∧ s2 ≤ 0 := by
 constructor
 ·rcases Int.lt_or_le 0 s1 with hs | hs
  ·exfalso
   refine Ge.not_lt (Ge.add h.up (ge_bits (c := xd * (q * f - high)) (Int.mul_nonneg (Int.le_of_lt hd) (by omega)))) (Grows.congr (fun k => ?_) (Grows.smul (show 0 < f by omega) (g1.one hs)))
   (try dsimp only); grind
  ·exact hs
 ·rcases Int.lt_or_le 0 s2 with hs | hs
  ·exfalso
   refine Ge.not_lt (Ge.add h.1.1 (ge_bits (c := xd * (q * f + low)) (Int.mul_nonneg (Int.le_of_lt hd) (by omega)))) (Grows.congr (fun k => ?_) (Grows.smul (show 0 < f by omega) (g2.one hs)))
   (try dsimp only); grind
  ·exact hs
theorem moves_without {xc xd n f low high l s1 s2 : Int} (hd : 0 < xd) (hf : 1 ≤ f) (h : OffP (difX xc xd n) xd f low high) (h1 : l * f ≤ low ∨ l * f ≤ -high)
  (g1 : Sg (fun k => difX xc xd n k - xd * (l - 1) * bits k) s1) (g2 : Sg (fun k => -difX xc xd n k - xd * (l - 1) * bits k) s2) : s1 = 1 ∨ s2 = 1 := by
 have hfd : 0 < xd * f := Int.mul_pos hd (by omega)
 rcases h1 with h1 | h1
 ·refine .inl (g1.of_grows (Grows.unsmul (show 0 < f by omega) (Grows.congr (fun k => ?_) (Grows.add_ge (grows_bits hfd) (Ge.add h.1.1 (ge_bits (c := xd * (low - l * f)) (Int.mul_nonneg (Int.le_of_lt hd) (by omega))))))))
  (try dsimp only); grind
 ·refine .inr (g2.of_grows (Grows.unsmul (show 0 < f by omega) (Grows.congr (fun k => ?_) (Grows.add_ge (grows_bits hfd) (Ge.add h.up (ge_bits (c := xd * (-high - l * f)) (Int.mul_nonneg (Int.le_of_lt hd) (by omega))))))))
  (try dsimp only); grind
end Go.Proofs.YtloegjlknpioeaaGreatDoor
namespace Go.Proofs.YtloegjlknpioeaaGreatDoor
open Go.RowKit
theorem make_one (W : World) (num D : Int) : Calls Tryz.prog 38 #[.int .i64 D, .slice (some ⟨W.heap.size, 0, none⟩) 1 1] (W.alloc (.cells #[.int .i64 num, .int .i64 1] 66)) (NumPost (W.alloc (.cells #[.int .i64 num, .int .i64 1] 66)) (makeS D [(num, 1)])) := by
 have h : (W.alloc (.cells #[.int .i64 num, .int .i64 1] 66)).ownsRow W.heap.size 66 2 (.slice (some ⟨W.heap.size, 0, none⟩) 1 1) 1 (cellsT [(num, 1)]) :=
  World.ownsRow_lit (base := W.heap.size) (e := 66) (size := 2) W #[.int .i64 num, .int .i64 1] 1 (Nat.le_refl _) (by unfold maxLen; omega) rfl
 exact make_any D (some ⟨W.heap.size, 0, none⟩) 1 1 _ [(num, 1)] _ (Rd.of_own h) (Nat.le_refl _)
structure MovS (w : World) (X9 : Nat) (xd : Int) (A : Option Addr) (n c : Nat) (xt : List (Int × Int)) (W : World) : Prop where
 below : Below w.heap.size w W
 size : w.heap.size ≤ W.heap.size
 blk : Blk W X9 33 #[.int .i64 xd, .slice A n c]
 own : OwnN 0 (A, n, c) xt W
theorem MovS.under {w : World} {X9 : Nat} {xd : Int} {A : Option Addr} {n c : Nat} {xt : List (Int × Int)} {W W' : World} (h : MovS w X9 xd A n c xt W) (hb : Below W.heap.size W W') : MovS w X9 xd A n c xt W' :=
 ⟨h.below.trans (hb.mono h.size), Nat.le_trans h.size hb.size, h.blk.below hb h.blk.lt, own_below h.own hb⟩
instance {w : World} {X9 : Nat} {xd : Int} {A : Option Addr} {n c : Nat} {xt : List (Int × Int)} : Kept (MovS w X9 xd A n c xt) := ⟨fun _ _ h hb => h.under hb⟩
theorem MovS.put {w : World} {X9 : Nat} {xd : Int} {A : Option Addr} {n c : Nat} {xt : List (Int × Int)} {W : World} (h : MovS w X9 xd A n c xt W) {X : Nat} {u0 v0 u v : Value} (hX : Blk W X 33 #[u0, v0]) (hw : w.heap.size ≤ X) (hne : X9 ≠ X) :
  MovS w X9 xd A n c xt ((W.setCell ⟨X, 0, none⟩ u).setCell ⟨X, 1, none⟩ v) :=
 ⟨(h.below.setCell (p := ⟨X, 0, none⟩) hw u).setCell (p := ⟨X, 1, none⟩) hw v, by simpa using h.size, (h.blk.far (p := ⟨X, 0, none⟩) hne u).far (p := ⟨X, 1, none⟩) hne v, own_set (own_set h.own hX (by decide)) (hX.set_ 0 u) (by decide)⟩
theorem norm_le {v den d c : Int} (hv : 0 ≤ v) (hd : 0 < den) (h : normQ v den = (d, ratT c, 0)) : 1 ≤ d ∧ d ≤ den ∧ 0 ≤ c ∧ c ≤ v ∧ numOK d (ratT c) = true := by
 obtain ⟨c', hc', h1, h2⟩ := normQ_ok hd h
 have hdp := numOK_pos h2
 have hcc : c = c' := by
  by_cases e : c = 0
  ·by_cases e' : c' = 0
   ·rw [e, e']
   ·rw [e, ratT_zero, ratT_some e'] at hc'; cases hc'
  ·rw [ratT_some e] at hc'
   by_cases e' : c' = 0
   ·rw [e', ratT_zero] at hc'; cases hc'
   ·rw [ratT_some e'] at hc'
    injection hc' with g _
    injection g
 subst hcc
 obtain ⟨e1, e2⟩ := norm_unique hd hdp (numOK_rat.1 h2).2.2 h1
 have b1 := tdiv_le (a := den) (G := gcdQ v den) (M := den) (by omega)
 have b2 := tdiv_le (a := v) (G := gcdQ v den) (M := v) (by omega)
 rw [e1] at b1
 rw [e2] at b2
 refine ⟨by omega, b1.2, ?_, b2.2, h2⟩
 rcases Int.lt_or_le c 0 with h | h
 ·have := Int.mul_neg_of_neg_of_pos h hd
  have := Int.mul_nonneg hv (Int.le_of_lt hdp)
  omega
 ·exact h
theorem plus_three {xd xc : Int} (hx : numOK xd (ratT xc) = true) (h1 : xd ≤ 1000) (h2 : 0 ≤ xc ∧ xc ≤ 20000) : plusS xd (ratT xc) 1 [(3, 1)] 1 = (xd, ratT (xc + 3 * xd), 0) ∧ numOK xd (ratT (xc + 3 * xd)) = true := by
 have hd := numOK_pos hx
 have hg := (numOK_rat.1 hx).2.2
 have hn : numOK xd (ratT (xc + 3 * xd)) = true := by
  refine numOK_rat.2 ⟨by omega, by omega, ?_⟩
  obtain ⟨C, rfl⟩ := Int.eq_ofNat_of_zero_le h2.1
  obtain ⟨X, rfl⟩ := Int.eq_ofNat_of_zero_le (Int.le_of_lt hd)
  rw [gcdL_two] at hg ⊢
  rw [show ((C : Int) + 3 * (X : Int)) = ((C + 3 * X : Nat) : Int) by simp]
  rw [Int.natAbs_natCast, Int.natAbs_natCast] at hg ⊢
  rw [Nat.gcd_add_mul_right_right]
  exact hg
 refine ⟨?_, hn⟩
 have h3 : numOK 1 (ratT 3) = true := by decide +kernel
 show plusS xd (ratT xc) 1 (ratT 3) 1 = _
 rw [plus_ratS hx h3]
 exact normQ_eq (by omega) hn (by grind)
theorem make_int {q : Int} (h : 0 ≤ q ∧ q ≤ 100000) : makeS 1 [(q, 1)] = (1, ratT q, 0) ∧ numOK 1 (ratT q) = true := by
 have hn : numOK 1 (ratT q) = true := numOK_rat.2 ⟨by omega, by omega, gcdL_one _⟩
 refine ⟨?_, hn⟩
 rw [(make_ratS (num := q) (D := 1) h (by omega)).1]
 exact normQ_eq (by omega) hn (by omega)
end Go.Proofs.YtloegjlknpioeaaGreatDoor
namespace Go.Proofs.YtloegjlknpioeaaGreatDoor
open Go.RowKit
set_option maxHeartbeats 16000000 in
set_option maxRecDepth 100000 in
theorem moves_any (nu de p q : Int) (w : World) (hnu : 0 ≤ nu ∧ nu ≤ 65535) (hde : 0 ≤ de ∧ de ≤ 65535) (hp : 0 ≤ p ∧ p ≤ 65535) (hq : 0 ≤ q ∧ q ≤ 65535) (hE : ErrVars w) (htab : Lib.TabIs Tryz.prog w "internal/strconv.uint64pow10" .u64 Lib.pow10Tab) :
  Calls Tryz.prog 7 #[.int .u16 nu, .int .u16 de, .agg #[.int .u16 p, .int .u16 q]] w fun e w' => e = .returned (.bool true) ∧ Below w.heap.size w w' := by
 obtain ⟨gp, hgp⟩ := Option.isSome_iff_exists.1 Tryz.pow10g
 have HK : Hid (∀ W, Below w.heap.size w W → Calls Tryz.prog 12 #[] W fun e w' => e = .returned (.bool true) ∧ Below W.heap.size W w') := hide (fun W hW => known_any W (hE.below hW (Nat.le_refl _)) (TabIs_below_ hgp htab hW))
 clear hE htab hgp
 obtain ⟨N, hN⟩ : ∃ N : Int, 1 + p % 1000 = N := ⟨_, rfl⟩
 obtain ⟨f, hf⟩ : ∃ f : Int, 1 + q = f := ⟨_, rfl⟩
 obtain ⟨D, hD⟩ : ∃ D : Int, 1 + de % 1000 = D := ⟨_, rfl⟩
 obtain ⟨V, hV⟩ : ∃ V : Int, nu % 20000 = V := ⟨_, rfl⟩
 have hNb : 1 ≤ N ∧ N ≤ 1000 := by omega
 have hfb : 1 ≤ f ∧ f ≤ 65536 := by omega
 have hDb : 1 ≤ D ∧ D ≤ 1000 := by omega
 have hVb : 0 ≤ V ∧ V ≤ 19999 := by omega
 obtain ⟨mk1, mk2⟩ := make_ratS (num := V) (D := D) (by omega) (by omega)
 obtain ⟨xd, xt, xe, hnq⟩ : ∃ p q r, normQ V D = (p, q, r) := ⟨_, _, _, rfl⟩
 rw [hnq] at mk1 mk2
 dsimp only at mk2
 subst mk2
 obtain ⟨xc, rfl, hxv, hxn⟩ := normQ_ok (by omega) hnq
 obtain ⟨b1, b2, b3, b4, _⟩ := norm_le hVb.1 (by omega) hnq
 have hxb : 1 ≤ xd ∧ xd ≤ 1000 := by omega
 have hcb : 0 ≤ xc ∧ xc ≤ 19999 := by omega
 obtain ⟨pl, hyn⟩ := plus_three hxn (by omega) (by omega)
 have HMK := hide mk1; have HPL := hide pl; have HXN := hide hxn; have HYN := hide hyn
 have hrl : (ratT xc).length ≤ 1 := by unfold ratT; split <;> simp
 have hw1 : IntKind.i64.wrap p = p := by rw [IntKind.wrap_i64]; omega
 have hw2 : IntKind.i64.wrap (p.tmod 1000) = p % 1000 := by rw [Int.tmod_eq_emod_of_nonneg (by omega), IntKind.wrap_i64]; omega
 have hw3 : IntKind.i64.wrap (1 + p % 1000) = N := by rw [IntKind.wrap_i64]; omega
 have hw6 : IntKind.i64.wrap (1 + p.tmod 1000) = N := by rw [Int.tmod_eq_emod_of_nonneg (by omega)]; exact hw3
 have hw4 : IntKind.i64.wrap q = q := by rw [IntKind.wrap_i64]; omega
 have hw5 : IntKind.i64.wrap (1 + q) = f := by rw [IntKind.wrap_i64]; omega
 clear mk1 pl hnq hxv hxn hyn b1 b2 b3 b4
 go_enter Tryz.func7, Tryz.ntmps7
 go_upto_region 1 with fail
 have HB0 := hide (((Below.refl w.heap.size w).alloc (Nat.le_refl _) (.cells #[.int .u16 p, .int .u16 q] 63)).drew)
 have HP0 := hide ((Blk.new w 63 #[.int .u16 p, .int .u16 q]).drew)
 obtain ⟨W, hW⟩ : ∃ W, W = w.alloc (.cells #[.int .u16 p, .int .u16 q] 63) := ⟨_, rfl⟩
 rw [← hW] at HB0 HP0 ⊢
 obtain ⟨p0, p1, _, _⟩ := HP0.out.two
 clear hW
 refine wp_region_till (fun w' => w' = W.drew) 50 (fun _ => True) 50 (fun _ => True) (by kernel_rfl) ⟨rfl, fun _ => trivial, fun _ => trivial⟩ (fun hHeld => ?_)
 refine wpTill_take 0 rfl (by decide +kernel) (fun c a w h => by first | exact h | (cases h; done)) (by rfl) (v := ?_) ?_ hHeld (fun hHeld' => ?_)
 rotate_left 1
 focus (intro w' hSw; obtain ⟨hC, hF, hG⟩ := hSw; clear hG; clear hC; clear hF; go_simp; first | done | with_reducible rfl)
 clear hHeld
 rename Till _ _ _ _ _ _ _ => hHeld
 (try simp only [Act.put, List.setIfInBounds_toArray, List.set_cons_zero, List.set_cons_succ])
 refine wpTill_take 1 rfl (by decide +kernel) (fun c a w h => by first | exact h | (cases h; done)) (by rfl) (v := ?_) ?_ hHeld (fun hHeld' => ?_)
 rotate_left 1
 focus (intro w' hSw; obtain ⟨hC, hF, hG⟩ := hSw; clear hG; subst hC; clear hF; go_simp; first | done | with_reducible rfl)
 clear hHeld
 rename Till _ _ _ _ _ _ _ => hHeld
 (try simp only [Act.put, List.setIfInBounds_toArray, List.set_cons_zero, List.set_cons_succ])
 refine wpTill_take 2 rfl (by decide +kernel) (fun c a w h => by first | exact h | (cases h; done)) (by rfl) (v := ?_) ?_ hHeld (fun hHeld' => ?_)
 rotate_left 1
 focus (intro w' hSw; obtain ⟨hC, hF, hG⟩ := hSw; clear hG; clear hC; clear hF; go_simp; first | done | with_reducible rfl)
 clear hHeld
 rename Till _ _ _ _ _ _ _ => hHeld
 (try simp only [Act.put, List.setIfInBounds_toArray, List.set_cons_zero, List.set_cons_succ])
 refine wpTill_take 3 rfl (by decide +kernel) (fun c a w h => by first | exact h | (cases h; done)) (by rfl) (v := ?_) ?_ hHeld (fun hHeld' => ?_)
 rotate_left 1
 focus (intro w' hSw; obtain ⟨hC, hF, hG⟩ := hSw; clear hG; clear hC; clear hF; go_simp; first | done | with_reducible rfl)
 clear hHeld
 rename Till _ _ _ _ _ _ _ => hHeld
 (try simp only [Act.put, List.setIfInBounds_toArray, List.set_cons_zero, List.set_cons_succ])
 refine wpTill_take 4 rfl (by decide +kernel) (fun c a w h => by first | exact h | (cases h; done)) (by rfl) (v := ?_) ?_ hHeld (fun hHeld' => ?_)
 rotate_left 1
 focus (intro w' hSw; obtain ⟨hC, hF, hG⟩ := hSw; clear hG; clear hC; clear hF; go_simp; first | done | with_reducible rfl)
 clear hHeld
 rename Till _ _ _ _ _ _ _ => hHeld
 (try simp only [Act.put, List.setIfInBounds_toArray, List.set_cons_zero, List.set_cons_succ])
 refine wpTill_take 5 rfl (by decide +kernel) (fun c a w h => by first | exact h | (cases h; done)) (by rfl) (v := ?_) ?_ hHeld (fun hHeld' => ?_)
 rotate_left 1
 focus (intro w' hSw; obtain ⟨hC, hF, hG⟩ := hSw; clear hG; clear hC; clear hF; go_simp; first | done | with_reducible rfl)
 clear hHeld
 rename Till _ _ _ _ _ _ _ => hHeld
 (try simp only [Act.put, List.setIfInBounds_toArray, List.set_cons_zero, List.set_cons_succ])
 refine wpTill_take 6 rfl (by decide +kernel) (fun c a w h => by first | exact h | (cases h; done)) (by rfl) (v := ?_) ?_ hHeld (fun hHeld' => ?_)
 rotate_left 1
 focus (intro w' hSw; obtain ⟨hC, hF, hG⟩ := hSw; clear hG; subst hC; clear hF; go_simp; first | done | with_reducible rfl)
 clear hHeld
 rename Till _ _ _ _ _ _ _ => hHeld
 (try simp only [Act.put, List.setIfInBounds_toArray, List.set_cons_zero, List.set_cons_succ])
 refine wpTill_take 7 rfl (by decide +kernel) (fun c a w h => by first | exact h | (cases h; done)) (by rfl) (v := ?_) ?_ hHeld (fun hHeld' => ?_)
 rotate_left 1
 focus (intro w' hSw; obtain ⟨hC, hF, hG⟩ := hSw; clear hG; clear hC; clear hF; go_simp; first | done | with_reducible rfl)
 clear hHeld
 rename Till _ _ _ _ _ _ _ => hHeld
 (try simp only [Act.put, List.setIfInBounds_toArray, List.set_cons_zero, List.set_cons_succ])
 refine wpTill_take 8 rfl (by decide +kernel) (fun c a w h => by first | exact h | (cases h; done)) (by rfl) (v := ?_) ?_ hHeld (fun hHeld' => ?_)
 rotate_left 1
 focus (intro w' hSw; obtain ⟨hC, hF, hG⟩ := hSw; clear hG; clear hC; clear hF; go_simp; first | done | with_reducible rfl)
 clear hHeld
 rename Till _ _ _ _ _ _ _ => hHeld
 (try simp only [Act.put, List.setIfInBounds_toArray, List.set_cons_zero, List.set_cons_succ])
 refine wpTill_take 9 rfl (by decide +kernel) (fun c a w h => by first | exact h | (cases h; done)) (by rfl) (v := ?_) ?_ hHeld (fun hHeld' => ?_)
 rotate_left 1
 focus (intro w' hSw; obtain ⟨hC, hF, hG⟩ := hSw; clear hG; clear hC; clear hF; go_simp; first | done | with_reducible rfl)
 clear hHeld
 rename Till _ _ _ _ _ _ _ => hHeld
 (try simp only [Act.put, List.setIfInBounds_toArray, List.set_cons_zero, List.set_cons_succ])
 refine wpTill_take 10 rfl (by decide +kernel) (fun c a w h => by first | exact h | (cases h; done)) (by rfl) (v := ?_) ?_ hHeld (fun hHeld' => ?_)
 rotate_left 1
 focus (intro w' hSw; obtain ⟨hC, hF, hG⟩ := hSw; clear hG; clear hC; clear hF; go_simp; first | done | with_reducible rfl)
 clear hHeld
 rename Till _ _ _ _ _ _ _ => hHeld
 (try simp only [Act.put, List.setIfInBounds_toArray, List.set_cons_zero, List.set_cons_succ])
 refine wpTill_done (by decide +kernel) ?_
 clear hHeld
 clear hw1 hw2 hw3 hw4 hw5 hw6 p0 p1
 have HB1 := hide HB0.out
 clear HB0 HP0
 have hzw : w.heap.size ≤ W.drew.heap.size := HB1.out.size
 generalize W.drew = W1 at *
 have hD' : IntKind.i64.wrap (1 + de % 1000) = D := by rw [IntKind.wrap_i64]; omega
 have HM2 := hide (make_one W1 V D)
 rw [HMK.out] at HM2
 clear HMK
 go_upto_region 3 with (first
  | (go_at_call 38; refine HM2.out.mono ?_; rintro e w2 ⟨A, n, c, rfl, ho, hb⟩
     have HB2 := hide ((HB1.out.alloc hzw (.cells #[.int .i64 V, .int .i64 1] 66)).trans (hb.mono (Nat.le_trans hzw (by simp))))
     have HO2 := hide (own_le ho (Nat.zero_le _))
     clear ho hb))
 trace_state
 have HS3 : Hid (MovS w w2.heap.size xd A n c (ratT xc) (w2.alloc (.cells #[.int .i64 xd, .slice A n c] 33))) := hide ⟨HB2.out.alloc HB2.out.size _, by have := HB2.out.size; simp; omega, Blk.new w2 _ _, HO2.out.alloc _⟩
 obtain ⟨X9, hX9⟩ : ∃ X, X = w2.heap.size := ⟨_, rfl⟩
 have hX9w : w.heap.size ≤ X9 := by rw [hX9]; exact HB2.out.size
 rw [← hX9] at HS3 ⊢
 clear hX9 HB1 HB2 HO2 HM2 hV hD hD'
 generalize w2.alloc (.cells #[.int .i64 xd, .slice A n c] 33) = W3 at *
 have HNN : Hid (n ≤ 1000) := hide (by have h := (terms_own (A := A) (n := n) (c := c) HS3.out.own).len; omega)
 obtain ⟨x0, x1, _, _⟩ := HS3.out.blk.two
 have HC1 := hide (own_num_any xd A n c W3.heap.size (ratT xc) W3 (Rq.of (terms_own HS3.out.own)) (Nat.le_refl _) HNN.out)
 go_upto_region 4 with (first
  | (go_at_call 19; refine HC1.out.mono ?_; rintro e w4 ⟨A4, n4, c4, rfl, ho, hb⟩
     have HS4 := hide (HS3.out.under hb)
     have HO4 := hide (own_le ho (Nat.zero_le _))
     clear ho hb HC1)
  | (go_at_call 17; refine (lawNumber_any 3 1 _).mono ?_; rintro e w5 ⟨A5, n5, c5, rfl, ho, hb⟩
     have HS5 := hide (HS4.out.under hb)
     have HO4 := hide (own_below HO4.out hb)
     have HO5 := hide (own_le ho (Nat.zero_le _))
     have HC2 := hide (add_flat xd A4 n4 c4 (ratT xc) 1 A5 n5 c5 [(3, 1)] w5.heap.size w5 (terms_own HO4.out) (terms_own HO5.out) (Nat.le_refl _))
     rw [HPL.out] at HC2
     clear ho hb)
  | (go_at_call 22; refine HC2.out.mono ?_; rintro e w6 ⟨A6, n6, c6, rfl, ho, hb⟩
     have HS6 := hide (HS5.out.under hb)
     have HO6 := hide (own_le ho (Nat.zero_le _))
     clear ho hb HC2 HO4 HO5))
 have HS7 := hide (HS6.out.under ((Below.refl _ _).alloc (Nat.le_refl _) (.cells #[.int .i64 xd, .slice A6 n6 c6] 33)))
 have HO7 := hide (HO6.out.alloc (.cells #[.int .i64 xd, .slice A6 n6 c6] 33))
 have HY7 := hide (Blk.new w6 33 #[.int .i64 xd, .slice A6 n6 c6])
 obtain ⟨X11, hX⟩ : ∃ X, X = w6.heap.size := ⟨_, rfl⟩
 rw [← hX] at HY7 ⊢
 clear hX HS3 HS4 HS5 HS6 HO6 HPL x0 x1
 generalize w6.alloc (.cells #[.int .i64 xd, .slice A6 n6 c6] 33) = W7 at *
 obtain ⟨x0, x1, _, _⟩ := HS7.out.blk.two
 have HC1 := hide (own_num_any xd A n c W7.heap.size (ratT xc) W7 (Rq.of (terms_own HS7.out.own)) (Nat.le_refl _) HNN.out)
 go_upto_region 5 with (first
  | (go_at_call 19; refine HC1.out.mono ?_; rintro e w8 ⟨A8, n8, c8, rfl, ho, hb⟩
     have HS8 := hide (HS7.out.under hb)
     have HO8 := hide (own_below HO7.out hb); have HY8 := hide (HY7.out.below hb HY7.out.lt)
     have HC2 := hide (off_any xd A8 n8 c8 (ratT xc) N f w8.heap.size w8 (terms_own ho) (Nat.le_refl _))
     clear ho hb HC1)
  | (go_at_call 31; refine HC2.out.mono ?_; rintro e w9 ⟨low, high, cc, rfl, hof, hb⟩
     obtain ⟨hc0, hop⟩ := off_of HXN.out (by omega) (by omega) hNb hfb hof
     subst hc0
     obtain ⟨r1, r2, r3, r4⟩ := hop.range (by omega) (by omega) hNb hfb
     have HOP := hide hop
     have HS9 := hide (HS8.out.under hb)
     have HO9 := hide (own_below HO8.out hb); have HY9 := hide (HY8.out.below hb HY8.out.lt)
     clear hof hop hb HC2))
 clear x0 x1 HS7 HS8 HO7 HO8 HY7 HY8
 obtain ⟨y0, y1, _, _⟩ := HY9.out.two
 have HC1 := hide (off_any xd A6 n6 c6 (ratT (xc + 3 * xd)) N f w9.heap.size w9 (terms_own HO9.out) (Nat.le_refl _))
 go_upto_region 6 with (first
  | (go_at_call 31; refine HC1.out.mono ?_; rintro e w10 ⟨a, b, cc, rfl, hof, hb⟩
     obtain ⟨hc0, hop⟩ := off_of HYN.out (by omega) (by omega) hNb hfb hof
     subst hc0
     obtain ⟨rfl, rfl⟩ := OffP.shift (c := 3) (show 0 < xd by omega) (Near.of_eq fun k => by unfold difX; grind) HOP.out hop
     have HS10 := hide (HS9.out.under hb)
     clear hof hop hb HC1))
 clear y0 y1 HS9 HO9 HY9
 go_upto_region 8 with fail
 have hfz : ¬ f = 0 := by omega
 obtain ⟨M, hM⟩ : ∃ M : Int, max high (-low) = M := ⟨_, rfl⟩
 have hM1 : high ≤ M ∧ -low ≤ M ∧ 0 ≤ M ∧ M ≤ 20001 * f := by omega
 obtain ⟨qv, hqv⟩ : ∃ qv : Int, (M + f - 1) / f = qv := ⟨_, rfl⟩
 have hq1 : high ≤ qv * f ∧ -low ≤ qv * f ∧ 0 ≤ qv ∧ qv ≤ 100000 := by
  have e1 := Int.mul_ediv_add_emod (M + f - 1) f
  have e2 := Int.emod_lt_of_pos (M + f - 1) (show 0 < f by omega)
  have e3 : 0 ≤ (M + f - 1) / f := Int.ediv_nonneg (by omega) (by omega)
  have e4 : (M + f - 1) / f ≤ 20002 := by
   refine Int.le_of_lt_add_one (Int.ediv_lt_of_lt_mul (by omega) ?_)
   omega
  rw [hqv] at e1 e3 e4
  have e5 : qv * f = f * qv := Int.mul_comm _ _
  omega
 have HQ1 := hide hq1
 obtain ⟨mk3, hqn⟩ := make_int (q := qv) (by omega)
 have HQN := hide hqn
 have hqb : -100 ≤ qv ∧ qv ≤ 100000 := by omega
 have hqw : IntKind.i64.wrap ((M + f - 1) / f) = qv := by rw [hqv, IntKind.wrap_i64]; omega
 have HM2 := hide (make_one w10 qv 1)
 rw [mk3] at HM2
 clear mk3 hqn hq1
 go_upto_region 9 with (first
  | (go_at_call 38; refine HM2.out.mono ?_; rintro e w11 ⟨A5, n5, c5, rfl, ho, hb⟩
     have HS11 := hide (HS10.out.under (((Below.refl _ _).alloc (Nat.le_refl _) _).trans (hb.mono (by simp))))
     have HO11 := hide (own_le ho (Nat.zero_le _))
     clear ho hb HM2))
 have HS12 := hide (HS11.out.under ((Below.refl _ _).alloc (Nat.le_refl _) (.cells #[.int .i64 1, .slice A5 n5 c5] 33)))
 have HO12 := hide (HO11.out.alloc (.cells #[.int .i64 1, .slice A5 n5 c5] 33))
 have HZ12 := hide (Blk.new w11 33 #[.int .i64 1, .slice A5 n5 c5])
 obtain ⟨X19, hX⟩ : ∃ X, X = w11.heap.size := ⟨_, rfl⟩
 rw [← hX] at HZ12 ⊢
 have h919 : X9 ≠ X19 := by rw [hX]; exact Nat.ne_of_lt HS11.out.blk.lt
 have hw19 : w.heap.size ≤ X19 := by rw [hX]; exact HS11.out.size
 clear hX HS10 HS11 HO11 hqw
 generalize w11.alloc (.cells #[.int .i64 1, .slice A5 n5 c5] 33) = W12 at *
 obtain ⟨u0, u1, _, _⟩ := HS12.out.blk.two
 obtain ⟨z0, z1, _, _⟩ := HZ12.out.two
 have h9 : X9 < W12.heap.size := HS12.out.blk.lt
 have h19 : X19 < W12.heap.size := HZ12.out.lt
 have HGd : Hid ((MovS w X9 xd A n c (ratT xc) W12.drew ∧ Blk W12.drew X19 33 #[.int .i64 1, .slice A5 n5 c5] ∧ OwnN 0 (A5, n5, c5) (ratT qv) W12.drew) ∧ (Below W12.heap.size W12 W12.drew ∧ W12.heap.size ≤ W12.drew.heap.size)) := hide ⟨Kept.keep (S := fun W => (MovS w X9 xd A n c (ratT xc) W ∧ Blk W X19 33 #[.int .i64 1, .slice A5 n5 c5] ∧ OwnN 0 (A5, n5, c5) (ratT qv) W)) _ _ ⟨HS12.out, HZ12.out, HO12.out⟩ (Below.drew (Below.refl _ _)), Below.drew (Below.refl _ _), Nat.le_refl _⟩
 refine wp_region_flow 8 (fun W' => Below W12.heap.size W12 W') (fun _ _ _ => True) [] (fun W' => (MovS w X9 xd A n c (ratT xc) W' ∧ Blk W' X19 33 #[.int .i64 1, .slice A5 n5 c5] ∧ OwnN 0 (A5, n5, c5) (ratT qv) W') ∧ (Below W12.heap.size W12 W' ∧ W12.heap.size ≤ W'.heap.size)) (by kernel_rfl)
  (Floats.of (by decide +kernel) (fun c a d v w => by cases d <;> exact Iff.rfl) (by intro i hi; cases hi) (fun _ _ _ _ _ _ => trivial))
  (fun _ _ _ h => h) (by decide) HGd.out (fun W h => h.2.1) (fun HFL => ?_)
 refine Safe.take 0 (v := ?_) rfl rfl HFL (by decide +kernel) (fun W h => h.2.1) (by rfl) (fun W hF => ?_) ?_
 rotate_left 1
 focus (have hF := hF (by decide +kernel); have e1 := (hF.cell (p := ⟨X9, 0, none⟩) h9).trans u0; have e2 := (hF.cell (p := ⟨X9, 1, none⟩) h9).trans u1; clear hF; go_simp; first | done | with_reducible rfl)
 (try simp only [Act.put, List.setIfInBounds_toArray, List.set_cons_zero, List.set_cons_succ])
 refine Safe.take 2 (v := ?_) rfl rfl HFL (by decide +kernel) (fun W h => h.2.1) (by rfl) (fun W hF => ?_) ?_
 rotate_left 1
 focus (clear hF; go_simp; first | done | with_reducible rfl)
 (try simp only [Act.put, List.setIfInBounds_toArray, List.set_cons_zero, List.set_cons_succ])
 refine Safe.take 3 (v := ?_) rfl rfl HFL (by decide +kernel) (fun W h => h.2.1) (by rfl) (fun W hF => ?_) ?_
 rotate_left 1
 focus (have hF := hF (by decide +kernel); have e1 := (hF.cell (p := ⟨X19, 0, none⟩) h19).trans z0; have e2 := (hF.cell (p := ⟨X19, 1, none⟩) h19).trans z1; clear hF; go_simp; first | done | with_reducible rfl)
 (try simp only [Act.put, List.setIfInBounds_toArray, List.set_cons_zero, List.set_cons_succ])
 refine Safe.on 1 (fun x : Sl => .agg #[.int .i64 xd, .slice x.1 x.2.1 x.2.2]) (fun x W => OwnN 0 x (ratT xc) W) rfl rfl HFL (by decide +kernel) (fun W h => h.2.1) (fun W hG K' hK => ?_) (fun x1 hF1 => ?_)
 focus
  have HC := hide (own_num_any xd A n c W.heap.size (ratT xc) W (Rq.of (terms_own hG.1.1.own)) (Nat.le_refl _) HNN.out)
  clear hG
  go_simp
  go_wp2_with (first
   | (go_at_call 19; refine HC.out.mono ?_; rintro e w6 ⟨A, n, c, rfl, ho, hb⟩
      have HO := hide (own_le ho (Nat.zero_le _)); have HBB := hide hb; clear ho hb))
  exact hK.out (A, n, c) _ HO.out HBB.out
 (try simp only [Act.put, List.setIfInBounds_toArray, List.set_cons_zero, List.set_cons_succ])
 refine Safe.on 4 (fun x : Unit => .tuple #[.bool true, .int .i64 0]) (fun x W => True) rfl rfl HFL (by decide +kernel) hF1 (fun W hG K' hK => ?_) (fun x4 hF4 => ?_)
 focus
  have HC := hide (within_any xd x1.1 x1.2.1 x1.2.2 (ratT xc) N 1 A5 n5 c5 (ratT qv) W.heap.size W (terms_own hG.2) (terms_own hG.1.1.2.2) (Nat.le_refl _))
  clear hG
  go_simp
  go_wp2_with (first
   | (go_at_call 33; refine HC.out.mono ?_; rintro e w6 ⟨bb, cc, rfl, hwr, hb⟩
      obtain ⟨hc0, s1, s2, g1, g2, hbb⟩ := within_of HXN.out (by omega) (by omega) hNb HQN.out hwr
      have hbt : bb = true := by
       obtain ⟨k1, k2⟩ := moves_within (show 0 < xd by omega) hfb.1 HOP.out HQ1.out.1 HQ1.out.2.1 g1 g2
       rw [hbb]
       simp [k1, k2]
      subst hc0
      rw [hbt]
      have HBB := hide hb
      clear hwr hb g1 g2 hbb hbt))
  exact hK.out () _ trivial HBB.out
 (try simp only [Act.put, List.setIfInBounds_toArray, List.set_cons_zero, List.set_cons_succ])
 refine Safe.fin rfl hF4 (fun W13 hG hHeld => ?_)
 obtain ⟨⟨⟨⟨hS, hZ, hO⟩, -⟩, -⟩, -⟩ := hG
 have HS13 := hide hS; have HZ13 := hide hZ; have HO13 := hide hO
 clear hS hZ hO HGd HFL hF1 hF4 u0 u1 z0 z1 h9 h19
 refine wpTill_take 5 rfl (by decide +kernel) (fun c a w h => by first | exact h | (cases h; done)) (by rfl) (v := ?_) ?_ hHeld (fun hHeld' => ?_)
 rotate_left 1
 focus (intro w' hSw; obtain ⟨hC, hF, hG⟩ := hSw; clear hG; clear hF; go_simp; first | done | with_reducible rfl)
 clear hHeld
 rename Till _ _ _ _ _ _ _ => hHeld
 (try simp only [Act.put, List.setIfInBounds_toArray, List.set_cons_zero, List.set_cons_succ])
 refine wpTill_take 6 rfl (by decide +kernel) (fun c a w h => by first | exact h | (cases h; done)) (by rfl) (v := ?_) ?_ hHeld (fun hHeld' => ?_)
 rotate_left 1
 focus (intro w' hSw; obtain ⟨hC, hF, hG⟩ := hSw; clear hG; clear hF; go_simp; first | done | with_reducible rfl)
 clear hHeld
 rename Till _ _ _ _ _ _ _ => hHeld
 (try simp only [Act.put, List.setIfInBounds_toArray, List.set_cons_zero, List.set_cons_succ])
 refine wpTill_take 7 rfl (by decide +kernel) (fun c a w h => by first | exact h | (cases h; done)) (by rfl) (v := ?_) ?_ hHeld (fun hHeld' => ?_)
 rotate_left 1
 focus (intro w' hSw; obtain ⟨hC, hF, hG⟩ := hSw; clear hG; clear hF; go_simp; first | done | with_reducible rfl)
 clear hHeld
 rename Till _ _ _ _ _ _ _ => hHeld
 (try simp only [Act.put, List.setIfInBounds_toArray, List.set_cons_zero, List.set_cons_succ])
 refine wpTill_one 8 rfl (by decide +kernel) (fun K hK => ?_)
 go_simp
 refine hK.out _ _ ⟨trivial, fun h => absurd h (by decide +kernel), fun _ => trivial⟩ (fun hHeld => ?_)
 clear hK K
 (try simp only [Act.put, List.setIfInBounds_toArray, List.set_cons_zero, List.set_cons_succ])
 refine wpTill_take 9 rfl (by decide +kernel) (fun c a w h => by first | exact h | (cases h; done)) (by rfl) (v := ?_) ?_ hHeld (fun hHeld' => ?_)
 rotate_left 1
 focus (intro w' hSw; obtain ⟨hC, hF, hG⟩ := hSw; clear hG; clear hF; go_simp; first | done | with_reducible rfl)
 clear hHeld
 rename Till _ _ _ _ _ _ _ => hHeld
 (try simp only [Act.put, List.setIfInBounds_toArray, List.set_cons_zero, List.set_cons_succ])
 refine wpTill_done (by decide +kernel) ?_
 clear hHeld
 clear hqb HQ1 HQN hM1 hHeld
 go_upto_region 12 with fail
 obtain ⟨M2, hM2⟩ : ∃ M2 : Int, (if low < -high then -high else low) = M2 := ⟨_, rfl⟩
 have hM3 : (M2 = low ∨ M2 = -high) ∧ 0 ≤ M2 ∧ M2 ≤ 20001 * f := by
  rw [← hM2]
  split <;> omega
 obtain ⟨lv, hlv⟩ : ∃ lv : Int, M2 / f = lv := ⟨_, rfl⟩
 have hl1 : 0 ≤ lv ∧ lv ≤ 20001 ∧ lv * f ≤ M2 := by
  have e1 := Int.mul_ediv_add_emod M2 f
  have e2 := Int.emod_nonneg M2 (show f ≠ 0 by omega)
  have e3 : 0 ≤ M2 / f := Int.ediv_nonneg hM3.2.1 (by omega)
  have e4 : M2 / f ≤ 20001 := by
   refine Int.le_of_lt_add_one (Int.ediv_lt_of_lt_mul (by omega) ?_)
   omega
  rw [hlv] at e1 e3 e4
  have e5 : lv * f = f * lv := Int.mul_comm _ _
  omega
 have HL1 : Hid (lv * f ≤ low ∨ lv * f ≤ -high) := hide (by omega)
 have hlb : 0 ≤ lv ∧ lv ≤ 20001 := by omega
 have hlw : IntKind.i64.wrap (M2 / f) = lv := by rw [hlv, IntKind.wrap_i64]; omega
 clear hl1
 go_upto_region 13 with fail
 clear hlw
 by_cases hl : lv < 1
 ·have HBk := hide HS13.out.below
  go_wp2_with (first
   | (go_at_call 12; refine (HK.out _ HBk.out).mono ?_; rintro e wz ⟨rfl, hbz⟩
      have HBe := hide (HBk.out.trans (hbz.mono HBk.out.size))
      clear hbz))
  all_goals
   go_ret
   exact ⟨rfl, HBe.out⟩
 obtain ⟨mk4, hln⟩ := make_int (q := lv - 1) (by omega)
 have HLN := hide hln
 have HM3 := hide (make_one W13 (lv - 1) 1)
 rw [mk4] at HM3
 clear mk4 hln
 go_upto_region 16 with (first
  | (go_at_call 38; refine HM3.out.mono ?_; rintro e w14 ⟨A7, n7, c7, rfl, ho, hb⟩
     have hbb : Below W13.heap.size W13 w14 := ((Below.refl _ _).alloc (Nat.le_refl _) _).trans (hb.mono (by simp))
     have HS14 := hide (HS13.out.under hbb)
     have HZ14 := hide (HZ13.out.below hbb HZ13.out.lt)
     have HO14 := hide (own_le ho (Nat.zero_le _))
     obtain ⟨z0, z1, zf0, zf1⟩ := HZ14.out.two
     clear ho hb hbb HM3))
 have HS15 := hide (HS14.out.put (u := .int .i64 1) (v := .slice A7 n7 c7) HZ14.out hw19 h919)
 have HO15 := hide (own_set (own_set HO14.out HZ14.out (i := 0) (u := .int .i64 1) (by decide)) (HZ14.out.set_ 0 (.int .i64 1)) (i := 1) (u := .slice A7 n7 c7) (by decide))
 have HZ15 : Hid (Blk ((w14.setCell ⟨X19, 0, none⟩ (.int .i64 1)).setCell ⟨X19, 1, none⟩ (.slice A7 n7 c7)) X19 33 #[.int .i64 1, .slice A7 n7 c7]) := hide ((HZ14.out.set_ 0 (.int .i64 1)).set_ 1 (.slice A7 n7 c7))
 clear z0 z1 zf0 zf1 HS13 HZ13 HO13 HS14 HZ14 HO14
 generalize (w14.setCell ⟨X19, 0, none⟩ (.int .i64 1)).setCell ⟨X19, 1, none⟩ (.slice A7 n7 c7) = W15 at *
 obtain ⟨u0, u1, _, _⟩ := HS15.out.blk.two
 obtain ⟨z0, z1, _, _⟩ := HZ15.out.two
 have h9 : X9 < W15.heap.size := HS15.out.blk.lt
 have h19 : X19 < W15.heap.size := HZ15.out.lt
 have HGd : Hid ((MovS w X9 xd A n c (ratT xc) W15.drew ∧ Blk W15.drew X19 33 #[.int .i64 1, .slice A7 n7 c7] ∧ OwnN 0 (A7, n7, c7) (ratT (lv - 1)) W15.drew) ∧ (Below W15.heap.size W15 W15.drew ∧ W15.heap.size ≤ W15.drew.heap.size)) := hide ⟨Kept.keep (S := fun W => (MovS w X9 xd A n c (ratT xc) W ∧ Blk W X19 33 #[.int .i64 1, .slice A7 n7 c7] ∧ OwnN 0 (A7, n7, c7) (ratT (lv - 1)) W)) _ _ ⟨HS15.out, HZ15.out, HO15.out⟩ (Below.drew (Below.refl _ _)), Below.drew (Below.refl _ _), Nat.le_refl _⟩
 refine wp_region_flow 8 (fun W' => Below W15.heap.size W15 W') (fun _ _ _ => True) [] (fun W' => (MovS w X9 xd A n c (ratT xc) W' ∧ Blk W' X19 33 #[.int .i64 1, .slice A7 n7 c7] ∧ OwnN 0 (A7, n7, c7) (ratT (lv - 1)) W') ∧ (Below W15.heap.size W15 W' ∧ W15.heap.size ≤ W'.heap.size)) (by kernel_rfl)
  (Floats.of (by decide +kernel) (fun c a d v w => by cases d <;> exact Iff.rfl) (by intro i hi; cases hi) (fun _ _ _ _ _ _ => trivial))
  (fun _ _ _ h => h) (by decide) HGd.out (fun W h => h.2.1) (fun HFL => ?_)
 refine Safe.take 0 (v := ?_) rfl rfl HFL (by decide +kernel) (fun W h => h.2.1) (by rfl) (fun W hF => ?_) ?_
 rotate_left 1
 focus (have hF := hF (by decide +kernel); have e1 := (hF.cell (p := ⟨X9, 0, none⟩) h9).trans u0; have e2 := (hF.cell (p := ⟨X9, 1, none⟩) h9).trans u1; clear hF; go_simp; first | done | with_reducible rfl)
 (try simp only [Act.put, List.setIfInBounds_toArray, List.set_cons_zero, List.set_cons_succ])
 refine Safe.take 2 (v := ?_) rfl rfl HFL (by decide +kernel) (fun W h => h.2.1) (by rfl) (fun W hF => ?_) ?_
 rotate_left 1
 focus (clear hF; go_simp; first | done | with_reducible rfl)
 (try simp only [Act.put, List.setIfInBounds_toArray, List.set_cons_zero, List.set_cons_succ])
 refine Safe.take 3 (v := ?_) rfl rfl HFL (by decide +kernel) (fun W h => h.2.1) (by rfl) (fun W hF => ?_) ?_
 rotate_left 1
 focus (have hF := hF (by decide +kernel); have e1 := (hF.cell (p := ⟨X19, 0, none⟩) h19).trans z0; have e2 := (hF.cell (p := ⟨X19, 1, none⟩) h19).trans z1; clear hF; go_simp; first | done | with_reducible rfl)
 (try simp only [Act.put, List.setIfInBounds_toArray, List.set_cons_zero, List.set_cons_succ])
 refine Safe.on 1 (fun x : Sl => .agg #[.int .i64 xd, .slice x.1 x.2.1 x.2.2]) (fun x W => OwnN 0 x (ratT xc) W) rfl rfl HFL (by decide +kernel) (fun W h => h.2.1) (fun W hG K' hK => ?_) (fun x1 hF1 => ?_)
 focus
  have HC := hide (own_num_any xd A n c W.heap.size (ratT xc) W (Rq.of (terms_own hG.1.1.own)) (Nat.le_refl _) HNN.out)
  clear hG
  go_simp
  go_wp2_with (first
   | (go_at_call 19; refine HC.out.mono ?_; rintro e w6 ⟨A, n, c, rfl, ho, hb⟩
      have HO := hide (own_le ho (Nat.zero_le _)); have HBB := hide hb; clear ho hb))
  exact hK.out (A, n, c) _ HO.out HBB.out
 (try simp only [Act.put, List.setIfInBounds_toArray, List.set_cons_zero, List.set_cons_succ])
 refine Safe.on 4 (fun x : Unit => .tuple #[.bool false, .int .i64 0]) (fun x W => True) rfl rfl HFL (by decide +kernel) hF1 (fun W hG K' hK => ?_) (fun x4 hF4 => ?_)
 focus
  have HC := hide (within_any xd x1.1 x1.2.1 x1.2.2 (ratT xc) N 1 A7 n7 c7 (ratT (lv - 1)) W.heap.size W (terms_own hG.2) (terms_own hG.1.1.2.2) (Nat.le_refl _))
  clear hG
  go_simp
  go_wp2_with (first
   | (go_at_call 33; refine HC.out.mono ?_; rintro e w6 ⟨bb, cc, rfl, hwr, hb⟩
      obtain ⟨hc0, s1, s2, g1, g2, hbb⟩ := within_of HXN.out (by omega) (by omega) hNb HLN.out hwr
      have hbt : bb = false := by
       have k1 := moves_without (show 0 < xd by omega) hfb.1 HOP.out HL1.out g1 g2
       rw [hbb]
       rcases k1 with k1 | k1 <;> rw [k1] <;> simp
      subst hc0
      rw [hbt]
      have HBB := hide hb
      clear hwr hb g1 g2 hbb hbt))
  exact hK.out () _ trivial HBB.out
 (try simp only [Act.put, List.setIfInBounds_toArray, List.set_cons_zero, List.set_cons_succ])
 refine Safe.fin rfl hF4 (fun W16 hG hHeld => ?_)
 obtain ⟨⟨⟨⟨hS, hZ, hO⟩, -⟩, -⟩, -⟩ := hG
 have HS16 := hide hS; have HZ16 := hide hZ; have HO16 := hide hO
 clear hS hZ hO HGd HFL hF1 hF4 u0 u1 z0 z1 h9 h19
 refine wpTill_take 5 rfl (by decide +kernel) (fun c a w h => by first | exact h | (cases h; done)) (by rfl) (v := ?_) ?_ hHeld (fun hHeld' => ?_)
 rotate_left 1
 focus (intro w' hSw; obtain ⟨hC, hF, hG⟩ := hSw; clear hG; clear hF; go_simp; first | done | with_reducible rfl)
 clear hHeld
 rename Till _ _ _ _ _ _ _ => hHeld
 (try simp only [Act.put, List.setIfInBounds_toArray, List.set_cons_zero, List.set_cons_succ])
 refine wpTill_take 6 rfl (by decide +kernel) (fun c a w h => by first | exact h | (cases h; done)) (by rfl) (v := ?_) ?_ hHeld (fun hHeld' => ?_)
 rotate_left 1
 focus (intro w' hSw; obtain ⟨hC, hF, hG⟩ := hSw; clear hG; clear hF; go_simp; first | done | with_reducible rfl)
 clear hHeld
 rename Till _ _ _ _ _ _ _ => hHeld
 (try simp only [Act.put, List.setIfInBounds_toArray, List.set_cons_zero, List.set_cons_succ])
 refine wpTill_take 7 rfl (by decide +kernel) (fun c a w h => by first | exact h | (cases h; done)) (by rfl) (v := ?_) ?_ hHeld (fun hHeld' => ?_)
 rotate_left 1
 focus (intro w' hSw; obtain ⟨hC, hF, hG⟩ := hSw; clear hG; clear hF; go_simp; first | done | with_reducible rfl)
 clear hHeld
 rename Till _ _ _ _ _ _ _ => hHeld
 (try simp only [Act.put, List.setIfInBounds_toArray, List.set_cons_zero, List.set_cons_succ])
 refine wpTill_one 8 rfl (by decide +kernel) (fun K hK => ?_)
 go_simp
 refine hK.out _ _ ⟨trivial, fun h => absurd h (by decide +kernel), fun _ => trivial⟩ (fun hHeld => ?_)
 clear hK K
 (try simp only [Act.put, List.setIfInBounds_toArray, List.set_cons_zero, List.set_cons_succ])
 refine wpTill_take 9 rfl (by decide +kernel) (fun c a w h => by first | exact h | (cases h; done)) (by rfl) (v := ?_) ?_ hHeld (fun hHeld' => ?_)
 rotate_left 1
 focus (intro w' hSw; obtain ⟨hC, hF, hG⟩ := hSw; clear hG; clear hF; go_simp; first | done | with_reducible rfl)
 clear hHeld
 rename Till _ _ _ _ _ _ _ => hHeld
 (try simp only [Act.put, List.setIfInBounds_toArray, List.set_cons_zero, List.set_cons_succ])
 refine wpTill_done (by decide +kernel) ?_
 clear hHeld
 have HBk := hide HS16.out.below
 go_wp2_with (first
  | (go_at_call 12; refine (HK.out _ HBk.out).mono ?_; rintro e wz ⟨rfl, hbz⟩
     have HBe := hide (HBk.out.trans (hbz.mono HBk.out.size))
     clear hbz))
 all_goals
  go_ret
  exact ⟨rfl, HBe.out⟩
end Go.Proofs.YtloegjlknpioeaaGreatDoor
