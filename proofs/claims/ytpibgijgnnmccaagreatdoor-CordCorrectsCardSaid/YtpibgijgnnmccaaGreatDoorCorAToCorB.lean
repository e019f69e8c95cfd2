import Derived.Test.YtpibgijgnnmccaaGreatDoorAsyXToAsyY
import Derived.Test.YtpibgijgnnmccaaGreatDoorMovAToMovC
import Derived.Test.YtpibgijgnnmccaaGreatDoorCordKToCordR
import Derived.Test.YtpibgijgnnmccaaGreatDoorVarN
import Derived.Test.YtpibgijgnnmccaaGreatDoorLawFToLawI
import Derived.Test.YtpibgijgnnmccaaGreatDoorSgnToLawA
import Derived.Test.YtpibgijgnnmccaaGreatDoorKnown
set_option linter.unusedVariables false
set_option linter.unusedSimpArgs false
namespace Go.Proofs.YtpibgijgnnmccaaGreatDoor
open Go.RowKit
theorem prodM_append : ∀ (a b : List Int) (n : Int), prodM n a ≠ 0 → prodM n (a ++ b) = prodM (prodM n a) b
 | [], _, _, _ => rfl
 | m :: a, b, n, h => by
  rw [prodM_cons] at h
  rw [List.cons_append, prodM_cons, prodM_cons]
  split
  ·rename_i h1; rw [if_pos h1] at h; exact absurd rfl h
  ·rename_i h1; rw [if_neg h1] at h; exact prodM_append a b _ h
theorem prodM_one (n : Int) (x : Int) : prodM n [x] = if 100000 < n * x then 0 else n * x := rfl
theorem marks_prod {l : List (Bool × List Int)} {k : Int} (hl : ∀ p ∈ l, prodM 1 p.2 ≠ 0) : (prodM 1 (marksS l k) = k ∧ k ≤ 100000) ∨ prodM 1 (marksS l k) = 0 := by
 have one : (prodM 1 [k] = k ∧ k ≤ 100000) ∨ prodM 1 [k] = 0 := by
  rw [prodM_one, Int.one_mul]
  split
  ·exact .inr rfl
  ·exact .inl ⟨rfl, by omega⟩
 unfold marksS
 split
 ·exact one
 ·rename_i p hp
  split
  ·rename_i hc
   have hpm := hl p (List.mem_of_getLast? hp)
   rw [prodM_append _ _ _ hpm, prodM_one]
   have e : prodM 1 p.2 * k.tdiv (prodM 1 p.2) = k := Int.mul_tdiv_cancel' (Int.dvd_of_tmod_eq_zero hc.1)
   rw [e]
   split
   ·exact .inr rfl
   ·exact .inl ⟨rfl, by omega⟩
  ·exact one
theorem valFold_ratT : ∀ (ps : List (Bool × List Int)) (x : Int × List (Int × Int)) {d : Int} {t : List (Int × Int)}, numOK x.1 x.2 = true → (∃ c, x.2 = ratT c) → valFold x ps = (d, t, 0) → numOK d t = true ∧ ∃ c, t = ratT c
 | [], x, d, t, h1, h2, h => by
  unfold valFold at h
  injection h with e1 h
  injection h with e2 _
  subst e1; subst e2
  exact ⟨h1, h2⟩
 | p :: ps, x, d, t, h1, ⟨c, h2⟩, h => by
  obtain ⟨s1, s2, s3, hs⟩ : ∃ a b c, plusS x.1 x.2 (prodM 1 p.2) [(1, 1)] (if p.1 then -1 else 1) = (a, b, c) := ⟨_, _, _, rfl⟩
  rw [valFold_cons x p ps s1 s3 s2 hs] at h
  split at h
  ·rename_i h0
   subst h0
   have hs2 := hs
   obtain ⟨k1, k2, _⟩ := plusS_lin hs2
   rw [h2] at hs2 k1
   rw [show [((1 : Int), (1 : Int))] = ratT 1 from rfl] at hs2 k2
   rw [plus_ratS k1 k2] at hs2
   obtain ⟨c', e, _⟩ := normQ_ok (Int.mul_pos (numOK_d k1) (numOK_d k2)) hs2
   exact valFold_ratT ps (s1, s2) (plusS_numOK hs) ⟨c', e⟩ h
  ·rename_i h0
   injection h with _ h
   injection h with _ h
   exact absurd h h0
theorem valFold_append : ∀ (ps qs : List (Bool × List Int)) (x : Int × List (Int × Int)) {d : Int} {t : List (Int × Int)}, valFold x ps = (d, t, 0) → valFold x (ps ++ qs) = valFold (d, t) qs
 | [], qs, x, d, t, h => by
  unfold valFold at h
  injection h with e1 h
  injection h with e2 _
  rw [List.nil_append, ← e1, ← e2]
 | p :: ps, qs, x, d, t, h => by
  obtain ⟨s1, s2, s3, hs⟩ : ∃ a b c, plusS x.1 x.2 (prodM 1 p.2) [(1, 1)] (if p.1 then -1 else 1) = (a, b, c) := ⟨_, _, _, rfl⟩
  rw [valFold_cons x p ps s1 s3 s2 hs] at h
  rw [List.cons_append, valFold_cons x p _ s1 s3 s2 hs]
  split at h
  ·rename_i h0
   rw [if_pos h0]
   exact valFold_append ps qs (s1, s2) h
  ·rename_i h0
   injection h with _ h
   injection h with _ h
   exact absurd h h0
theorem wholeN_ok {wh : Int} (h : 0 ≤ wh ∧ wh ≤ 1000) : numOK (wholeN wh).1 (wholeN wh).2 = true ∧ ∃ c, (wholeN wh).2 = ratT c := by
 rw [wholeN_rat]
 exact ⟨numOK_rat.2 ⟨by omega, by omega, gcdL_one _⟩, wh, rfl⟩
theorem valueS_fold {wh d : Int} {l : List (Bool × List Int)} {t : List (Int × Int)} (h : valueS wh l = (d, t, 0)) : oldOK wh l = true ∧ (∀ p ∈ l, prodM 1 p.2 ≠ 0) ∧ valFold (wholeN wh) l = (d, t, 0) ∧ numOK d t = true ∧ ∃ c, t = ratT c := by
 have hb := (valueS_B h).2
 unfold valueS at h
 split at h
 ·rename_i hok
  split at h
  ·injection h with _ h; injection h with _ h; cases h
  ·obtain ⟨k1, k2⟩ := wholeN_ok (oldOK_parts hok).1
   exact ⟨hok, hb, h, valFold_ratT l _ k1 k2 h⟩
 ·injection h with _ h; injection h with _ h; cases h
theorem cor_snoc {wh : Int} {l : List (Bool × List Int)} {p : Bool × List Int} (h : oldOK wh l = true) (h8 : l.length < 8) (hp : pieceOK p = true) : oldOK wh (l ++ [p]) = true := by
 unfold oldOK at *
 rw [Bool.and_eq_true, Bool.and_eq_true, decide_eq_true_eq] at *
 obtain ⟨⟨h1, h2⟩, h3⟩ := h
 refine ⟨⟨h1, by simp; omega⟩, ?_⟩
 rw [List.all_append, h3]
 simp [hp]
theorem cor_last (l : List Int) (x : Int) : lastI (l ++ [x]) = x := by
 unfold lastI
 rw [List.getLast?_append]
 rfl
theorem cor_marks {l : List (Bool × List Int)} {d : Int} (mi : Bool) (hl : l.all pieceOK = true) (hd : 2 ≤ d) (h6 : ¬ 6 < (marksS l d).length) (h7 : ¬ 1000 < lastI (marksS l d)) : pieceOK (mi, marksS l d) = true := by
 have one : ¬ 1000 < d → pieceOK (mi, [d]) = true := fun h => by
  simp only [pieceOK, markOK, inB, Bool.and_eq_true, decide_eq_true_eq, List.all_eq_true, List.length_singleton]
  exact ⟨⟨by omega, by omega⟩, fun x hx => by rw [List.mem_singleton.1 hx]; exact ⟨hd, by omega⟩⟩
 have key : ∀ ms, marksS l d = ms → ¬ 6 < ms.length → ¬ 1000 < lastI ms → pieceOK (mi, ms) = true := by
  intro ms hms k6 k7
  unfold marksS at hms
  split at hms
  ·subst hms
   exact one k7
  ·rename_i p hp
   have hpm : p ∈ l := List.mem_of_getLast? hp
   split at hms
   ·rename_i hc
    subst hms
    have h5 := List.all_eq_true.1 hl p hpm
    simp only [pieceOK, Bool.and_eq_true, inB, decide_eq_true_eq, List.all_eq_true] at h5
    rw [List.length_append, List.length_singleton] at k6
    simp only [pieceOK, Bool.and_eq_true, List.all_eq_true]
    refine ⟨?_, fun x hx => ?_⟩
    ·simp only [inB, Bool.and_eq_true, decide_eq_true_eq, List.length_append, List.length_singleton]
     exact ⟨by omega, by omega⟩
    ·rcases List.mem_append.1 hx with hx | hx
     ·exact h5.2 x hx
     ·rw [List.mem_singleton.1 hx]; exact hc.2
   ·subst hms
    exact one k7
 exact key _ rfl h6 h7
theorem cor_two {of_ nb : Int} (h0 : 0 < of_) (h1 : 1 ≤ nb) (hm : of_.tmod nb = 0) (hne : of_ ≠ nb) : 2 ≤ of_.tdiv nb ∧ of_ = of_.tdiv nb * nb := by
 have hqe := Int.tdiv_mul_cancel (Int.dvd_of_tmod_eq_zero hm)
 have hq0 : 0 ≤ of_.tdiv nb := Int.tdiv_nonneg (by omega) (by omega)
 generalize of_.tdiv nb = k at *
 refine ⟨?_, hqe.symm⟩
 rcases Int.lt_or_le k 2 with h | h
 ·have h5 : k = 0 ∨ k = 1 := by omega
  rcases h5 with h5 | h5
  ·rw [h5, Int.zero_mul] at hqe; omega
  ·rw [h5, Int.one_mul] at hqe; omega
 ·exact h
structure Ext (wh n : Int) (l l' : List (Bool × List Int)) (d c k : Int) : Prop where
 old : oldOK wh l' = true
 val : valueS wh l = (d, ratT c, 0)
 num : numOK d (ratT c) = true
 pos : 1 ≤ c
 root : 1 ≤ n ∧ n ≤ 1000
 ne : n * d * d - c * c ≠ 0
 two : 2 ≤ k
 div : ∃ mi b, l' = l ++ [(mi, marksS l k)] ∧ 2 * c * d = k * b ∧ (if mi = true then -1 else 1) * b = n * d * d - c * c
theorem extend_ok {wh n e1 : Int} {l e2 : List (Bool × List Int)} (h : extendS wh l n = (e1, e2, 0)) : e1 = wh ∧ ∃ d c k, Ext wh n l e2 d c k := by
 unfold extendS at h
 split at h
 ·injection h with _ h; injection h with _ h; cases h
 ·rename_i hok0
  have hok : oldOK wh l = true := by
   cases h : oldOK wh l
   ·exact absurd h hok0
   ·rfl
  split at h
  ·injection h with _ h; injection h with _ h; cases h
  ·rename_i hin
   have hn : 1 ≤ n ∧ n ≤ 1000 := by
    cases hi : inB n 1 1000
    ·exact absurd hi hin
    ·simpa [inB] using hi
   split at h
   ·rename_i h2
    injection h with _ h; injection h with _ h
    exact absurd h h2
   ·rename_i hv0
    split at h
    ·injection h with _ h; injection h with _ h; cases h
    ·rename_i hp0
     obtain ⟨d, t, vc, hv⟩ : ∃ vd vt vc, valueS wh l = (vd, vt, vc) := ⟨_, _, _, rfl⟩
     rw [hv] at h hv0 hp0
     dsimp only at h hv0 hp0
     have hv1 : vc = 0 := Classical.not_not.1 hv0
     subst hv1
     obtain ⟨_, hnz, _, hnum, c, rfl⟩ := valueS_fold hv
     rw [parts_rat] at hp0
     have hc0 : c ≠ 0 := by
      intro e
      rw [if_pos e] at hp0
      exact hp0 (Int.le_refl 0)
     rw [if_neg hc0] at hp0
     simp only [byS, ofS, parts_rat, if_neg hc0] at h
     dsimp only at hp0
     have hd := numOK_d hnum
     have e5 : 0 < 2 * c * d := Int.mul_pos (by omega) (by omega)
     obtain ⟨of_, hof⟩ : ∃ x, 2 * c * d = x := ⟨_, rfl⟩
     obtain ⟨by_, hby⟩ : ∃ x, n * d * d - c * c = x := ⟨_, rfl⟩
     rw [hof, hby] at h
     rw [hof] at e5
     unfold extend1 at h
     split at h
     ·injection h with _ h; injection h with _ h; cases h
     ·rename_i hb0
      split at h
      ·injection h with _ h; injection h with _ h; cases h
      ·rename_i h7
       split at h
       ·injection h with _ h; injection h with _ h; cases h
       ·rename_i h8
        unfold extend2 at h
        split at h
        ·injection h with _ h; injection h with _ h; cases h
        ·rename_i h9
         injection h with a1 h
         injection h with a2 _
         have ht : of_.tmod (max by_ (-by_)) = 0 := Classical.byContradiction fun h => h7 (.inl h)
         obtain ⟨k2, k3⟩ := cor_two e5 (show 1 ≤ max by_ (-by_) by omega) ht (fun h => h7 (.inr h))
         refine ⟨a1.symm, d, c, of_.tdiv (max by_ (-by_)), ?_, hv, hnum, by omega, hn, by omega, k2, decide (by_ < 0), max by_ (-by_), a2.symm, by rw [hof]; exact k3, ?_⟩
         ·rw [← a2]
          refine cor_snoc hok (by omega) (cor_marks _ ?_ k2 (fun h => h9 (.inl h)) (fun h => h9 (.inr h)))
          unfold oldOK at hok
          rw [Bool.and_eq_true] at hok
          exact hok.2
         ·rw [hby]
          by_cases hneg : by_ < 0
          ·rw [decide_eq_true hneg, if_pos rfl]; omega
          ·rw [decide_eq_false hneg, if_neg (by decide)]; omega
theorem extend_err {wh n e1 c : Int} {l e2 : List (Bool × List Int)} (h : extendS wh l n = (e1, e2, c)) (hc : c ≠ 0) : e1 = 0 ∧ e2 = [] := by
 have key : ∀ a b c', (((0 : Int), ([] : List (Bool × List Int)), c') : Int × List (Bool × List Int) × Int) = (a, b, c) → a = 0 ∧ b = [] := fun a b c' h => by
  injection h with h1 h
  injection h with h2 _
  exact ⟨h1.symm, h2.symm⟩
 unfold extendS extend1 extend2 at h
 repeat' split at h
 all_goals first | exact key _ _ _ h | (injection h with _ h; injection h with _ h; exact absurd h.symm hc)
theorem value_next {wh n d c k : Int} {l l' : List (Bool × List Int)} (h : Ext wh n l l' d c k) : valueS wh l' = (0, [], 10) ∨ ∃ yd yc, valueS wh l' = (yd, ratT yc, 0) ∧ numOK yd (ratT yc) = true ∧ yc * (2 * c * d) = (c * c + n * d * d) * yd := by
 obtain ⟨mi, b, rfl, hk, hb⟩ := h.div
 obtain ⟨_, hnz, hf, _⟩ := valueS_fold h.val
 have hd := numOK_d h.num
 unfold valueS
 rw [if_pos h.old]
 rcases marks_prod (k := k) hnz with ⟨hm, hk1⟩ | hm
 ·have hany : ¬ ((l ++ [(mi, marksS l k)]).any fun p => prodM 1 p.2 == 0) = true := by
   rw [List.any_append]
   intro ha
   rw [Bool.or_eq_true] at ha
   rcases ha with ha | ha
   ·obtain ⟨p, hp, hz⟩ := List.any_eq_true.1 ha
    exact hnz p hp (by simpa using hz)
   ·simp only [List.any_cons, List.any_nil, Bool.or_false, hm] at ha
    have := h.two
    simp at ha
    omega
  rw [if_neg hany, valFold_append l _ _ hf]
  obtain ⟨s1, s2, s3, hs⟩ : ∃ a b c', plusS d (ratT c) (prodM 1 (marksS l k)) [(1, 1)] (if mi = true then -1 else 1) = (a, b, c') := ⟨_, _, _, rfl⟩
  rw [valFold_cons (d, ratT c) (mi, marksS l k) [] s1 s3 s2 hs]
  have hko : numOK k (ratT 1) = true := numOK_rat.2 ⟨by have := h.two; omega, by omega, by rw [gcdL_two]; simp⟩
  rw [hm, show [((1 : Int), (1 : Int))] = ratT 1 from rfl, plus_ratS h.num hko] at hs
  have hdk : 0 < d * k := Int.mul_pos hd (numOK_d hko)
  rcases normQ_code (c * k + 1 * ((if mi = true then -1 else 1) * d)) (d * k) with h0 | h0
  ·rw [hs] at h0
   dsimp only at h0
   subst h0
   obtain ⟨yc, rfl, e, ho⟩ := normQ_ok hdk hs
   refine .inr ⟨s1, yc, by rw [if_pos rfl]; rfl, ho, ?_⟩
   generalize (if mi = true then (-1 : Int) else 1) = s at *
   refine Int.eq_of_mul_eq_mul_right (show d ≠ 0 by omega) ?_
   have e2 : yc * (d * k) * b = (c * k + 1 * (s * d)) * s1 * b := by rw [e]
   have e3 : yc * (d * k) * b = yc * d * (k * b) := by grind
   have e4 : (c * k + 1 * (s * d)) * s1 * b = (c * (k * b) + s * b * d) * s1 := by grind
   rw [e3, e4, ← hk, hb] at e2
   grind
  ·rw [hs] at h0
   injection h0 with e1 h0
   injection h0 with e2 e3
   subst e1; subst e2; subst e3
   left
   rw [if_neg (by decide)]
 ·left
  rw [if_pos]
  rw [List.any_append, Bool.or_eq_true]
  right
  simp [hm]
theorem overS_len {kv : List (Int × Int)} {den d : Int} {ts : List (Int × Int)} (h : overS kv den = (d, ts, 0)) : ts.length ≤ kv.length := by
 have hl : (overT kv den).length ≤ kv.length := by
  unfold overT termsG
  rw [List.length_map, (sortI_perm _).length_eq, List.length_map]
  exact List.length_filter_le _ _
 unfold overS at h
 split at h
 ·injection h with _ h; injection h with _ h; cases h
 ·split at h
  ·injection h with _ h; injection h with _ h; cases h
  ·injection h with _ h; injection h with h _
   rw [← h]; exact hl
theorem over_codes (kv : List (Int × Int)) (den : Int) (h : kv.length ≤ 4) : (∃ d ts, overS kv den = (d, ts, 0) ∧ ts.length ≤ kv.length) ∨ overS kv den = (0, [], 10) := by
 rcases overS_code kv den with h0 | h0 | ⟨_, h0⟩
 ·obtain ⟨d, ts, c, he⟩ : ∃ d ts c, overS kv den = (d, ts, c) := ⟨_, _, _, rfl⟩
  rw [he] at h0
  dsimp only at h0
  subst h0
  exact .inl ⟨d, ts, he, overS_len he⟩
 ·exact .inr h0
 ·omega
theorem plus_codes {xd yd m : Int} {xt yt : List (Int × Int)} (hx : numOK xd xt = true) (hy : numOK yd yt = true) (h : xt.length + yt.length ≤ 4) : (∃ d ts, plusS xd xt yd yt m = (d, ts, 0) ∧ ts.length ≤ xt.length + yt.length) ∨ plusS xd xt yd yt m = (0, [], 10) := by
 have h1 := addAll_len yt (addAll [] xt yd) (m * xd)
 have h2 := addAll_len xt [] yd
 rw [List.length_nil] at h2
 unfold plusS
 rw [hx, hy, if_pos (by rfl)]
 rcases over_codes (addAll (addAll [] xt yd) yt (m * xd)) (xd * yd) (by omega) with ⟨d, ts, h3, h4⟩ | h3
 ·exact .inl ⟨d, ts, h3, by omega⟩
 ·exact .inr h3
theorem mul_codes {xd yd : Int} {xt yt : List (Int × Int)} (hx : numOK xd xt = true) (hy : numOK yd yt = true) (h : xt.length * yt.length ≤ 4) : (∃ d ts, mulS xd xt yd yt = (d, ts, 0)) ∨ mulS xd xt yd yt = (0, [], 10) := by
 have h1 := prodS_len yt xt []
 rw [List.length_nil] at h1
 unfold mulS
 rw [hx, hy, if_pos (by rfl)]
 rcases over_codes (prodS [] xt yt) (xd * yd) (by omega) with ⟨d, ts, h3, h4⟩ | h3
 ·exact .inl ⟨d, ts, h3⟩
 ·exact .inr h3
theorem over_le (kv : List (Int × Int)) (den : Int) : (overS kv den).2.1.length ≤ 4 := by
 unfold overS
 split
 ·simp
 ·split
  ·simp
  ·dsimp only; omega
theorem plus_le {xd yd m d c : Int} {xt yt ts : List (Int × Int)} (h : plusS xd xt yd yt m = (d, ts, c)) : ts.length ≤ 1000 := by
 have h1 : (plusS xd xt yd yt m).2.1.length ≤ 4 := by
  unfold plusS
  split
  ·exact over_le _ _
  ·simp
 rw [h] at h1
 dsimp only at h1
 omega
theorem mul_le {xd yd d c : Int} {xt yt ts : List (Int × Int)} (h : mulS xd xt yd yt = (d, ts, c)) : ts.length ≤ 1000 := by
 have h1 : (mulS xd xt yd yt).2.1.length ≤ 4 := by
  unfold mulS
  split
  ·exact over_le _ _
  ·simp
 rw [h] at h1
 dsimp only at h1
 omega
theorem quo_le {xd yd d c : Int} {xt yt ts : List (Int × Int)} (h : quoS xd xt yd yt = (d, ts, c)) : ts.length ≤ 1000 := by
 have h1 : (quoS xd xt yd yt).2.1.length ≤ 4 := by
  unfold quoS
  split
  ·split
   ·simp
   ·split
    ·simp
    ·exact over_le _ _
  ·simp
 rw [h] at h1
 dsimp only at h1
 omega
theorem root_number {n : Int} (hn : 1 ≤ n ∧ n ≤ 1000) {r : Int × List (Int × Int) × Int} (h : RootRes 1 [(n, 1)] r) : ∃ s q : Int, r = (1, [(s, q)], 0) ∧ numOK 1 [(s, q)] = true ∧ Near (rtA n) (fun k => s * rtA q k) := by
 have hw : wholeN n = (1, [(n, 1)]) := by unfold wholeN; rw [if_neg (by omega)]
 obtain ⟨s, q, h1, h2, h3, h4, h5⟩ := root_of hn (by rw [hw]; exact h)
 refine ⟨s, q, h1, ?_, h5⟩
 have h6 := (splitN_free q.toNat (by have := h4.1; omega)).2 h4.2.2
 unfold numOK chkT chkT okT
 have g : gcdL [1, s] = 1 := gcdL_one s
 have := h4.1; have := h4.2.1
 simp [inB, g, h6]; omega
theorem diff_is {xd xc n s q d : Int} {ts : List (Int × Int)} (hx : numOK xd (ratT xc) = true) (hs : numOK 1 [(s, q)] = true) (hn : Near (rtA n) (fun k => s * rtA q k)) (h : plusS xd (ratT xc) 1 [(s, q)] (-1) = (d, ts, 0)) : IsN xd (difX xc xd n) d ts := by
 have h1 := plus_is (IsN.self hx) (IsN.self hs) h
 rw [Int.mul_one] at h1
 refine h1.near ?_
 unfold difX
 refine Near.trans (Near.of_eq fun k => ?_) ((Near.refl fun k => xc * bits k).sub (hn.symm.smul xd))
 (try dsimp only)
 rw [linT_rat, linT_cons, linT_nil]
 grind
def farX (c d n : Int) (k : Nat) : Int := (c * c + n * d * d) * bits k - 2 * c * d * rtA n k
theorem far_mul {c d n : Int} (hn : 1 ≤ n) : MulN (difX c d n) (difX c d n) (farX c d n) := by
 have hR := rt_self hn
 have m1 : MulN (rtA n) (difX c d n) (fun k => c * rtA n k - d * (n * bits k)) := ((MulN.cst c (rtA n)).add (hR.smul (-d))).congr (fun _ => rfl) (fun k => by unfold difX; (try dsimp only); grind) (fun k => by (try dsimp only); grind)
 exact ((MulN.cst c (difX c d n)).add (m1.comm.smul (-d))).congr (fun _ => rfl) (fun k => by unfold difX; (try dsimp only); grind) (fun k => by unfold difX farX; (try dsimp only); grind)
theorem conj_mul {c d n : Int} (hn : 1 ≤ n) : MulN (difX c d n) (fun k => c * bits k + d * rtA n k) (fun k => (c * c - n * d * d) * bits k) := by
 have hR := rt_self hn
 have m1 : MulN (rtA n) (difX c d n) (fun k => c * rtA n k - d * (n * bits k)) := ((MulN.cst c (rtA n)).add (hR.smul (-d))).congr (fun _ => rfl) (fun k => by unfold difX; (try dsimp only); grind) (fun k => by (try dsimp only); grind)
 exact ((MulN.cst c (difX c d n)).add (m1.comm.smul d)).congr (fun _ => rfl) (fun k => by (try dsimp only)) (fun k => by unfold difX; (try dsimp only); grind)
theorem conj_ob (c d n : Int) : OB (fun k => c * bits k + d * rtA n k) := (OB.smul c ⟨1, fun k => by have := bitsI_pos k; omega⟩).add (OB.smul d (rtA_OB n))
theorem conj_grows {c d n : Int} (hc : 1 ≤ c) (hd : 0 < d) : Grows (fun k => c * bits k + d * rtA n k) :=
 Grows.le (grows_bits (c := c) (by omega)) (fun k => by have := Int.mul_nonneg (Int.le_of_lt hd) (rtA_nonneg n k); (try dsimp only); omega)
theorem dif_ob (c d n : Int) : OB (difX c d n) := by
 obtain ⟨C, h⟩ := conj_ob c (-d) n
 exact ⟨C, fun k => by have := h k; dsimp only at this; unfold difX; rw [Int.neg_mul] at this; exact this⟩
theorem dif_sg {c d n s : Int} (hn : 1 ≤ n) (hc : 1 ≤ c) (hd : 0 < d) (hs : Sg (difX c d n) s) : Sg (fun k => (c * c - n * d * d) * bits k) s := by
 have h := (conj_mul (c := c) (d := d) hn).sg hs (.inl ⟨rfl, conj_grows hc hd⟩) (dif_ob c d n) (conj_ob c d n)
 rwa [Int.mul_one] at h
theorem bits_sg {x s : Int} (h : Sg (fun k => x * bits k) s) : (0 < x ∧ s = 1) ∨ (x < 0 ∧ s = -1) ∨ (x = 0 ∧ s = 0) := by
 rcases Int.lt_trichotomy x 0 with h0 | h0 | h0
 ·exact .inr (.inl ⟨h0, h.unique (.inr (.inl ⟨rfl, (grows_bits (c := -x) (by omega)).congr fun k => Int.neg_mul _ _⟩))⟩)
 ·exact .inr (.inr ⟨h0, h.unique (.inr (.inr ⟨rfl, Bdd.zero.congr fun k => by rw [h0, Int.zero_mul]⟩))⟩)
 ·exact .inl ⟨h0, h.unique (.inl ⟨rfl, grows_bits h0⟩)⟩
theorem IsN.sg0 {D d s : Int} {X : Nat → Int} {ts : List (Int × Int)} (h : IsN D X d ts) (hs : SignOf ts s) : Sg X s := by
 obtain ⟨_, G, hG, _, hn⟩ := h
 exact (Sg.smul hG hs.sg).near hn
theorem cor_main {n d c yd yc s q ad bd : Int} {at_ bt : List (Int × Int)} (hn : 1 ≤ n) (hx : numOK d (ratT c) = true) (hc : 1 ≤ c) (hne : n * d * d - c * c ≠ 0) (hy : numOK yd (ratT yc) = true) (hv : yc * (2 * c * d) = (c * c + n * d * d) * yd)
  (hs : numOK 1 [(s, q)] = true) (hr : Near (rtA n) (fun k => s * rtA q k)) (ha : plusS d (ratT c) 1 [(s, q)] (-1) = (ad, at_, 0)) (hb : plusS yd (ratT yc) 1 [(s, q)] (-1) = (bd, bt, 0)) :
  (∀ sb cb, SignRes bd bt sb cb → sb = 1 ∧ cb = 0) ∧ (∀ sa ca, SignRes ad at_ sa ca → sa ≠ 0 ∧ ca = 0 ∧ ∀ o co, CmpRes bd bt ad at_ o co → co = 0 ∧ (0 < sa → o < 0)) ∧
  ((mulS ad at_ ad at_).2.2 = 10 ∨ ((mulS ad at_ ad at_).2.2 = 0 ∧ (plusS d (ratT c) d (ratT c) 1).2.2 = 10) ∨ ((mulS ad at_ ad at_).2.2 = 0 ∧ (plusS d (ratT c) d (ratT c) 1).2.2 = 0 ∧ quoS (mulS ad at_ ad at_).1 (mulS ad at_ ad at_).2.1 (plusS d (ratT c) d (ratT c) 1).1 (plusS d (ratT c) d (ratT c) 1).2.1 = (bd, bt, 0))) := by
 have ia := diff_is hx hs hr ha
 have ib := diff_is hy hs hr hb
 have hd := numOK_d hx; have hyd := numOK_d hy
 have hcd : 0 < 2 * c * d := Int.mul_pos (by omega) hd
 have hF : Near (fun k => 2 * c * d * difX yc yd n k) (fun k => yd * farX c d n k) := Near.of_eq fun k => by
  unfold difX farX
  have e : 2 * c * d * (yc * bits k - yd * rtA n k) = yc * (2 * c * d) * bits k - 2 * c * d * yd * rtA n k := by grind
  rw [e, hv]; grind
 have hA : ∀ sa, Sg (difX c d n) sa → sa ≠ 0 ∧ (0 < sa → n * d * d - c * c < 0) := fun sa h => by
  rcases bits_sg (dif_sg hn hc hd h) with ⟨h1, h2⟩ | ⟨h1, h2⟩ | ⟨h1, h2⟩
  ·exact ⟨by omega, fun _ => by omega⟩
  ·exact ⟨by omega, fun h => by omega⟩
  ·exact absurd (show n * d * d - c * c = 0 by omega) hne
 have hFs : ∀ sa, Sg (difX c d n) sa → Grows (farX c d n) := fun sa h => by
  have h1 := (far_mul (c := c) (d := d) hn).sg h h (dif_ob c d n) (dif_ob c d n)
  refine h1.one ?_
  rcases h with ⟨rfl, _⟩ | ⟨rfl, _⟩ | ⟨rfl, h⟩
  ·decide
  ·decide
  ·exact absurd rfl (hA 0 (.inr (.inr ⟨rfl, h⟩))).1
 have hSa : ∃ sa, Sg (difX c d n) sa := by
  obtain ⟨K, hK⟩ := SignOf.exists_any at_ (numOK_free ia.1) (numOK_roots ia.1).2
  by_cases h0 : at_.filter nzT = []
  ·exact ⟨0, ia.sg0 (.inl ⟨h0, rfl⟩)⟩
  ·rcases hK with h1 | h1
   ·exact absurd h1 h0
   ·exact ⟨_, ia.sg0 (.inr ⟨h0, h1, K, rfl⟩)⟩
 obtain ⟨s0, hs0⟩ := hSa
 have hG := hFs s0 hs0
 refine ⟨fun sb cb h => ?_, fun sa ca h => ?_, ?_⟩
 ·rcases h with ⟨_, h, h0⟩ | ⟨h, _⟩
  ·exact ⟨((ib.sg0 h).smul hcd).near hF |>.of_grows (hG.smul hyd), h0⟩
  ·rw [ib.1] at h; cases h
 ·rcases h with ⟨_, h, h0⟩ | ⟨h, _⟩
  ·have h1 := ia.sg0 h
   refine ⟨(hA sa h1).1, h0, fun o co ho => ?_⟩
   rcases ho with ⟨_, ho, hco⟩ | ⟨ho, _⟩
   ·refine ⟨hco, fun hsa => ?_⟩
    have h2 := (hA sa h1).2 hsa
    have h3 := ho.sg
    have h4 : Sg (fun k => (n * d * d - c * c) * bits k) o := by
     have k1 := ia.val; have k2 := ib.val
     have ha0 := numOK_d ia.1; have hb0 := numOK_d ib.1
     have h5 := h3.smul (show 0 < 2 * c * (yd * d) by rw [Int.mul_comm yd d, ← Int.mul_assoc]; exact Int.mul_pos hcd hyd)
     have h6 : Near (fun k => 2 * c * (yd * d) * linT (lessT bt ad at_ bd) k) (fun k => (ad * bd * yd) * ((n * d * d - c * c) * bits k)) := by
      refine Near.trans (Near.of_eq fun k => ?_) (((k2.smul (2 * c * d * ad)).sub (k1.smul (2 * c * yd * bd))).trans (Near.trans (Near.of_eq fun k => ?_) (((hF.smul (ad * bd)).sub (Near.refl fun k => 2 * c * yd * bd * ad * difX c d n k)).trans (Near.of_eq fun k => ?_))))
      ·(try dsimp only); rw [linT_lessT]; grind
      ·(try dsimp only); grind
      ·(try dsimp only); unfold farX difX; grind
     exact (h5.near h6).unsmul (Int.mul_pos (Int.mul_pos ha0 hb0) hyd)
    rcases bits_sg h4 with ⟨g1, g2⟩ | ⟨g1, g2⟩ | ⟨g1, g2⟩ <;> omega
   ·rw [ib.1, ia.1] at ho; cases ho
  ·rw [ia.1] at h; cases h
 ·have hla : at_.length ≤ 2 := by
   have hl : (ratT c).length ≤ 1 := by unfold ratT; split <;> simp
   rcases plus_codes (m := -1) hx hs (by simp; omega) with ⟨d', ts, h1, h2⟩ | h1
   ·rw [ha] at h1
    injection h1 with _ h1
    injection h1 with h1 _
    rw [h1]; simp at h2; omega
   ·rw [ha] at h1
    injection h1 with _ h1
    injection h1 with _ h1
    cases h1
  rcases mul_codes ia.1 ia.1 (Nat.mul_le_mul hla hla) with ⟨qd, qt, hq⟩ | hq
  ·rw [hq]
   rw [plus_ratS hx hx]
   rcases normQ_code (c * d + c * (1 * d)) (d * d) with h0 | h0
   ·obtain ⟨dd, dt, dc, he⟩ : ∃ a b c', normQ (c * d + c * (1 * d)) (d * d) = (a, b, c') := ⟨_, _, _, rfl⟩
    rw [he] at h0 ⊢
    dsimp only at h0 ⊢
    subst h0
    refine .inr (.inr ⟨rfl, rfl, ?_⟩)
    obtain ⟨c', rfl, e, ho⟩ := normQ_ok (Int.mul_pos hd hd) he
    have hc' : c' ≠ 0 := by
     rintro rfl
     rw [Int.zero_mul] at e
     have e1 : (c * d + c * (1 * d)) * dd = 2 * c * d * dd := by grind
     rw [e1] at e
     have := Int.mul_pos hcd (numOK_d ho)
     omega
    have iq := mul_is ia ia (far_mul hn) hq
    have k1 := iq.val; have k2 := ib.val
    rw [ratT_some hc'] at ho ⊢
    refine quo_near iq.1 ho (by simp) (by simp) ib.1 ((MulN.cst c' (linT bt)).congr (fun _ => rfl) (fun k => (linT_int c' k).symm) (fun _ => rfl)) ?_
    have e1 : c' * (d * d) = 2 * c * d * dd := by rw [e]; grind
    refine Near.unsmul (c := yd * (d * d)) (Int.mul_ne_zero (by omega) (Int.mul_ne_zero (by omega) (by omega))) ?_
    refine Near.trans (Near.of_eq fun k => ?_) ((k2.smul (c' * (d * d) * qd)).trans (Near.trans (Near.of_eq fun k => ?_) ((hF.smul (qd * bd * dd)).trans (Near.trans (Near.of_eq fun k => ?_) ((k1.symm.smul (bd * dd * yd)).trans (Near.of_eq fun k => ?_))))))
    ·(try dsimp only); grind
    ·(try dsimp only); rw [e1]; grind
    ·(try dsimp only); grind
    ·(try dsimp only); grind
   ·rw [h0]; exact .inr (.inl ⟨rfl, rfl⟩)
  ·rw [hq]; exact .inl rfl
end Go.Proofs.YtpibgijgnnmccaaGreatDoor
namespace Go.Proofs.YtpibgijgnnmccaaGreatDoor
open Go.RowKit
def Od (X : Nat) (wh : Int) (A : Option Addr) (c : Nat) (L : List PieceV) (W : World) : Prop := Blk W X 24 #[.int .i64 wh, .slice A L.length c] ∧ Pieces W W.heap.size A L.length c L
instance {X : Nat} {wh : Int} {A : Option Addr} {c : Nat} {L : List PieceV} : Kept (Od X wh A c L) := ⟨fun _ _ h hb => ⟨h.1.below hb h.1.lt, (h.2.below hb).more hb.size⟩⟩
theorem Od.new {W : World} {wh : Int} {A : Option Addr} {c : Nat} {L : List PieceV} (h : Pieces W W.heap.size A L.length c L) : Od W.heap.size wh A c L (W.alloc (.cells #[.int .i64 wh, .slice A L.length c] 24)) :=
 ⟨Blk.new W _ _, (h.alloc (Nat.le_refl _) _).more (by simp)⟩
theorem same_num {W : World} {X Y : Nat} {d : Int} {A A2 : Option Addr} {n c n2 c2 : Nat} {ts : List (Int × Int)} (h : Vr X d A n c ts W) (h2 : Vr Y d A2 n2 c2 ts W) : Calls Tryz.prog 34 #[.agg #[.int .i64 d, .slice A n c], .agg #[.int .i64 d, .slice A2 n2 c2]] W fun e w' => e = .returned (.bool true) ∧ Below W.heap.size W w' :=
 (lawSame_any d A n c ts d A2 n2 c2 ts W.heap.size W (terms_own h.2) (terms_own h2.2) (Nat.le_refl _)).mono fun e w' ⟨h1, h2⟩ => ⟨by rw [h1]; simp, h2⟩
set_option maxHeartbeats 16000000 in
set_option maxRecDepth 100000 in
theorem corrects_any (wh : Int) (A : Option Addr) (n c : Nat) (l : List PieceV) (m : Int) (w : World) (hp : PiecesQ w w.heap.size A n c l) (hwh : -9223372036854775808 ≤ wh ∧ wh ≤ 9223372036854775807)
  (hms : ∀ p ∈ l, ∀ m ∈ p.ms, -9223372036854775808 ≤ m ∧ m ≤ 9223372036854775807) (hm : -9223372036854775808 ≤ m ∧ m ≤ 9223372036854775807)
  (hE : ErrVars w) (htab : Lib.TabIs Tryz.prog w "internal/strconv.uint64pow10" .u64 Lib.pow10Tab) :
  Calls Tryz.prog 3 #[.agg #[.int .i64 wh, .slice A n c], .int .i64 m] w fun e w' => e = .returned (.bool true) ∧ Below w.heap.size w w' := by
 obtain ⟨gp, hgp⟩ := Option.isSome_iff_exists.1 Tryz.pow10g
 have HK : Hid (∀ W, Below w.heap.size w W → Calls Tryz.prog 21 #[] W fun e w' => e = .returned (.bool true) ∧ Below W.heap.size W w') := hide (fun W hW => known_any W (hE.below hW (Nat.le_refl _)) (TabIs_below_ hgp htab hW))
 have hl := hp.len
 subst hl
 have HP := hide (fun W (hb : Below w.heap.size w W) => hp.below hb)
 clear hp hE htab hgp hwh hms
 have HLG := hide (fun W hb hB => large_any wh A l.length c w.heap.size l W (HP.out W hb) hB)
 obtain ⟨ex1, ex2, ex3, hex⟩ : ∃ a b c, extendS wh (l.map PieceV.flat) m = (a, b, c) := ⟨_, _, _, rfl⟩
 go_enter Tryz.func3, Tryz.ntmps3
 go_upto_region 1 with fail
 have HS : Hid ((Below w.heap.size w (w.alloc (.cells #[.int .i64 wh, .slice A l.length c] 24)) ∧ w.heap.size ≤ (w.alloc (.cells #[.int .i64 wh, .slice A l.length c] 24)).heap.size) ∧ Blk (w.alloc (.cells #[.int .i64 wh, .slice A l.length c] 24)) w.heap.size 24 #[.int .i64 wh, .slice A l.length c]) := hide ⟨⟨(Below.refl _ _).alloc (Nat.le_refl _) _, by simp⟩, Blk.new w _ _⟩
 obtain ⟨X2, hX2⟩ : ∃ X, X = w.heap.size := ⟨_, rfl⟩
 rw [show Blk (w.alloc (.cells #[.int .i64 wh, .slice A l.length c] 24)) w.heap.size 24 #[.int .i64 wh, .slice A l.length c] ↔ Blk (w.alloc (.cells #[.int .i64 wh, .slice A l.length c] 24)) X2 24 #[.int .i64 wh, .slice A l.length c] by rw [hX2]] at HS
 rw [← hX2] at ⊢
 clear hX2
 generalize w.alloc (.cells #[.int .i64 wh, .slice A l.length c] 24) = W1 at *
 obtain ⟨x0, x1, _, _⟩ := HS.out.2.two
 cases hlg : largeS (l.map PieceV.flat)
 case' true =>
  have HLG1 := hide (HLG.out W1 HS.out.1.1 HS.out.1.2)
  rw [hlg] at HLG1
  go_wp2_with (first
   | (go_at_call 20; refine HLG1.out.mono ?_; rintro e w1 ⟨rfl, hb1⟩
      have HB1 := hide (HS.out.1.1.trans (hb1.mono HS.out.1.2)); have hz1 := HB1.out.size
      clear hb1)
   | (go_at_call 21; refine (HK.out _ HB1.out).mono ?_; rintro e wz ⟨rfl, hbz⟩
      have HBe := hide (HB1.out.trans (hbz.mono hz1))
      clear hbz))
  all_goals
   go_ret
   exact ⟨rfl, HBe.out⟩
 have HLG1 := hide (HLG.out W1 HS.out.1.1 HS.out.1.2)
 rw [hlg] at HLG1
 obtain ⟨hl8, hm8⟩ := large_small hlg
 have hl12 := (largeS_not hlg).1
 rw [List.length_map] at hl12
 have HOLD := hide (fun W hb hB => old_any wh A l.length c w.heap.size l W (HP.out W hb) hB hl8 hm8)
 clear hlg hl8 hm8 HLG
 go_upto_region 3 with (first
  | (go_at_call 20; refine (HLG1.out).mono ?_; rintro e w101 ⟨rfl, hb⟩
     have HS_0 := hide (Kept.keep (S := fun W => ((Below w.heap.size w W ∧ w.heap.size ≤ W.heap.size) ∧ Blk W X2 24 #[.int .i64 wh, .slice A l.length c])) _ _ HS.out hb)
     clear hb))
 clear x0 x1 HLG1
 have HS0 := hide HS_0.out
 clear HS
 have HS := hide HS0.out
 clear HS0
 clear HS_0
 obtain ⟨x0, x1, _, _⟩ := HS.out.2.two
 go_upto_region 4 with (first
  | (go_at_call 23; refine (HOLD.out w101 HS.out.1.1 HS.out.1.2).mono ?_; rintro e w102 ⟨A3, c3, L3, rfl, hP, hf, hb⟩
     have HS_0 := hide (Kept.keep (S := fun W => ((Below w.heap.size w W ∧ w.heap.size ≤ W.heap.size) ∧ Blk W X2 24 #[.int .i64 wh, .slice A l.length c])) _ _ HS.out hb)
     have hc := extend_any wh A3 l.length c3 w102.heap.size L3 m w102 hP (Nat.le_refl _)
     rw [hf, hex] at hc
     have HC := hide hc
     clear hP hf hc
     clear hb)
  | (go_at_call 22; refine (HC.out).mono ?_; rintro e w103 ⟨A5, n5, c5, L5, rfl, hP, hf, -, hb⟩
     have HS_1 := hide (Kept.keep (S := fun W => ((Below w.heap.size w W ∧ w.heap.size ≤ W.heap.size) ∧ Blk W X2 24 #[.int .i64 wh, .slice A l.length c])) _ _ HS_0.out hb)
     obtain rfl := hP.len
     have HP5 := hide hP; have HF5 : Hid (L5.map PieceV.flat = ex2) := hide hf
     clear hP hf HC
     clear hb))
 clear x0 x1
 have HS3 := hide (And.intro (Kept.keep (S := fun W => ((Below w.heap.size w W ∧ w.heap.size ≤ W.heap.size) ∧ Blk W X2 24 #[.int .i64 wh, .slice A l.length c])) _ _ HS_1.out ((Below.refl _ _).alloc (Nat.le_refl _) (.cells #[.int .i64 ex1, .slice A5 L5.length c5] 24))) (Od.new (wh := ex1) HP5.out))
 obtain ⟨X5, hX⟩ : ∃ X, X = w103.heap.size := ⟨_, rfl⟩
 rw [← hX] at HS3 ⊢
 clear hX HS HS_0 HS_1 HP5
 generalize w103.alloc (.cells #[.int .i64 ex1, .slice A5 L5.length c5] 24) = W5 at *
 have HS := hide HS3.out
 clear HS3
 obtain ⟨p0, p1, _, _⟩ := HS.out.2.1.two
 obtain ⟨x0, x1, _, _⟩ := HS.out.1.2.two
 by_cases hx3 : ex3 = 0
 rotate_left 1
 focus
  obtain ⟨rfl, rfl⟩ := extend_err hex hx3
  have hL5 : L5 = [] := List.map_eq_nil_iff.1 HF5.out
  subst hL5
  have HBk := hide HS.out.1.1
  go_wp2_with (first
   | (go_at_call 21; refine (HK.out _ HBk.out.1).mono ?_; rintro e wz ⟨rfl, hbz⟩
      have HBe := hide (HBk.out.1.trans (hbz.mono HBk.out.2))
      clear hbz))
  all_goals
   go_ret
   exact ⟨rfl, HBe.out⟩
 subst hx3
 obtain ⟨he1, d, cc, k, hext⟩ := extend_ok hex
 have he2 := he1.symm
 subst he2
 clear he1
 have hmr := hext.root
 have hl5 : L5.length = l.length + 1 := by
  obtain ⟨mi, b, h, _⟩ := hext.div
  have h1 := congrArg List.length (HF5.out.trans h)
  simpa using h1
 have HEXT := hide hext
 have HD := hide hext.num
 clear hex hext
 obtain ⟨vd, vt, vc, hv2⟩ : ∃ a b c, valueS wh ex2 = (a, b, c) := ⟨_, _, _, rfl⟩
 rw [hl5] at p1
 have hlw : IntKind.i64.wrap ((l.length : Int) + 1) = (l.length : Int) + 1 := by rw [IntKind.wrap_i64]; omega
 go_upto_region 8 with fail
 clear p0 p1 hl5 hlw
 go_upto_region 9 with (first
  | (go_at_call 23; refine (HOLD.out W5 HS.out.1.1.1 HS.out.1.1.2).mono ?_; rintro e w104 ⟨A7, c7, L7, rfl, hP, hf, hb⟩
     have HS_0 := hide (Kept.keep (S := fun W => (((Below w.heap.size w W ∧ w.heap.size ≤ W.heap.size) ∧ Blk W X2 24 #[.int .i64 wh, .slice A l.length c]) ∧ Od X5 wh A5 c5 L5 W)) _ _ HS.out hb)
     have hc := value_any wh A7 l.length c7 w104.heap.size L7 w104 hP (Nat.le_refl _)
     rw [hf, HEXT.out.val] at hc
     have HC := hide hc
     clear hP hf hc
     clear hb)
  | (go_at_call 24; refine (HC.out).mono ?_; rintro e w105 ⟨A7, n7, c7, rfl, ho, hb⟩
     have HS_1 := hide (Kept.keep (S := fun W => (((Below w.heap.size w W ∧ w.heap.size ≤ W.heap.size) ∧ Blk W X2 24 #[.int .i64 wh, .slice A l.length c]) ∧ Od X5 wh A5 c5 L5 W)) _ _ HS_0.out hb)
     have HO := hide (own_le ho (Nat.zero_le _))
     clear ho HC
     clear hb))
 clear x0 x1
 have HS3 := hide (And.intro (Kept.keep (S := fun W => (((Below w.heap.size w W ∧ w.heap.size ≤ W.heap.size) ∧ Blk W X2 24 #[.int .i64 wh, .slice A l.length c]) ∧ Od X5 wh A5 c5 L5 W)) _ _ HS_1.out ((Below.refl _ _).alloc (Nat.le_refl _) (.cells #[.int .i64 (d), .slice A7 n7 c7] 33))) (Vr.new (d := d) HO.out))
 obtain ⟨X7, hX⟩ : ∃ X, X = w105.heap.size := ⟨_, rfl⟩
 rw [← hX] at HS3 ⊢
 clear hX HS_1 HO HS
 generalize w105.alloc (.cells #[.int .i64 (d), .slice A7 n7 c7] 33) = W106 at *
 have HS := hide HS3.out
 clear HS3
 clear HS_0
 obtain ⟨p0, p1, _, _⟩ := (HS.out.1.2.1).two
 have hcv := value_any wh A5 L5.length c5 W106.heap.size L5 W106 (HS.out.1.2.2) (Nat.le_refl _)
 rw [HF5.out, hv2] at hcv
 have HCV := hide hcv
 clear hcv
 go_upto_region 10 with (first
  | (go_at_call 24; refine (HCV.out).mono ?_; rintro e w107 ⟨A8, n8, c8, rfl, ho, hb⟩
     have HS_0 := hide (Kept.keep (S := fun W => ((((Below w.heap.size w W ∧ w.heap.size ≤ W.heap.size) ∧ Blk W X2 24 #[.int .i64 wh, .slice A l.length c]) ∧ Od X5 wh A5 c5 L5 W) ∧ Vr X7 (d) A7 n7 c7 (ratT cc) W)) _ _ HS.out hb)
     have HO := hide (own_le ho (Nat.zero_le _))
     clear ho
     clear hb))
 clear p0 p1 HCV
 have hvl : vt.length ≤ 1000 := by
  rcases value_next HEXT.out with h | ⟨yd, yc, h, _⟩
  ·rw [hv2] at h; injection h with _ h; injection h with h _; rw [h]; simp
  ·rw [hv2] at h; injection h with _ h; injection h with h _; rw [h]; unfold ratT; split <;> simp
 have HS3 := hide (And.intro (Kept.keep (S := fun W => ((((Below w.heap.size w W ∧ w.heap.size ≤ W.heap.size) ∧ Blk W X2 24 #[.int .i64 wh, .slice A l.length c]) ∧ Od X5 wh A5 c5 L5 W) ∧ Vr X7 (d) A7 n7 c7 (ratT cc) W)) _ _ HS_0.out ((Below.refl _ _).alloc (Nat.le_refl _) (.cells #[.int .i64 (vd), .slice A8 n8 c8] 33))) (Vr.new (d := vd) HO.out))
 obtain ⟨X8, hX⟩ : ∃ X, X = w107.heap.size := ⟨_, rfl⟩
 rw [← hX] at HS3 ⊢
 clear hX HS_0 HO HS
 generalize w107.alloc (.cells #[.int .i64 (vd), .slice A8 n8 c8] 33) = W108 at *
 have HS := hide HS3.out
 clear HS3
 rcases value_next HEXT.out with hvn | ⟨yd, yc, hvn, hyn, hyv⟩
 ·rw [hv2] at hvn
  injection hvn with e1 hvn
  injection hvn with e2 e3
  subst e1; subst e2; subst e3
  have HBk := hide HS.out.1.1.1.1
  go_wp2_with (first
   | (go_at_call 21; refine (HK.out _ HBk.out.1).mono ?_; rintro e wz ⟨rfl, hbz⟩
      have HBe := hide (HBk.out.1.trans (hbz.mono HBk.out.2))
      clear hbz))
  all_goals
   go_ret
   exact ⟨rfl, HBe.out⟩
 rw [hv2] at hvn
 injection hvn with e1 hvn
 injection hvn with e2 e3
 subst e1; subst e2; subst e3
 have HY := hide hyn; have HV := hide hyv
 clear hv2 hyn hyv hvl
 go_upto_region 12 with fail
 go_upto_region 13 with (first
  | (go_at_call 26; refine (lawNumber_any m 1 _).mono ?_; rintro e w109 ⟨A9, n9, c9, rfl, ho, hb⟩
     have HS_0 := hide (Kept.keep (S := fun W => (((((Below w.heap.size w W ∧ w.heap.size ≤ W.heap.size) ∧ Blk W X2 24 #[.int .i64 wh, .slice A l.length c]) ∧ Od X5 wh A5 c5 L5 W) ∧ Vr X7 (d) A7 n7 c7 (ratT cc) W) ∧ Vr X8 (vd) A8 n8 c8 (ratT yc) W)) _ _ HS.out hb)
     have HC := hide (root_flat 1 A9 n9 c9 [(m, 1)] w109.heap.size w109 (terms_own ho) (Nat.le_refl _))
     clear ho
     clear hb)
  | (go_at_call 25; refine (HC.out).mono ?_; rintro e w110 ⟨res, hres, A10, n10, c10, rfl, ho, hb⟩
     have HS_1 := hide (Kept.keep (S := fun W => (((((Below w.heap.size w W ∧ w.heap.size ≤ W.heap.size) ∧ Blk W X2 24 #[.int .i64 wh, .slice A l.length c]) ∧ Od X5 wh A5 c5 L5 W) ∧ Vr X7 (d) A7 n7 c7 (ratT cc) W) ∧ Vr X8 (vd) A8 n8 c8 (ratT yc) W)) _ _ HS_0.out hb)
     obtain ⟨s, q, rfl, hsn, hnear⟩ := root_number hmr hres
     have HO := hide (own_le ho (Nat.zero_le _))
     have HSN := hide hsn; have HNEAR := hide hnear
     clear ho HC hres hsn hnear
     clear hb))
 have HS3 := hide (And.intro (Kept.keep (S := fun W => (((((Below w.heap.size w W ∧ w.heap.size ≤ W.heap.size) ∧ Blk W X2 24 #[.int .i64 wh, .slice A l.length c]) ∧ Od X5 wh A5 c5 L5 W) ∧ Vr X7 (d) A7 n7 c7 (ratT cc) W) ∧ Vr X8 (vd) A8 n8 c8 (ratT yc) W)) _ _ HS_1.out ((Below.refl _ _).alloc (Nat.le_refl _) (.cells #[.int .i64 (1), .slice A10 n10 c10] 33))) (Vr.new (d := 1) HO.out))
 obtain ⟨X10, hX⟩ : ∃ X, X = w110.heap.size := ⟨_, rfl⟩
 rw [← hX] at HS3 ⊢
 clear hX HS_1 HO HS
 generalize w110.alloc (.cells #[.int .i64 (1), .slice A10 n10 c10] 33) = W111 at *
 have HS := hide HS3.out
 clear HS3
 clear HS_0
 obtain ⟨ad, at_, ac, ha⟩ : ∃ a b c, plusS d (ratT cc) 1 [(s, q)] (-1) = (a, b, c) := ⟨_, _, _, rfl⟩
 obtain ⟨bd, bt, bc, hb⟩ : ∃ a b c, plusS vd (ratT yc) 1 [(s, q)] (-1) = (a, b, c) := ⟨_, _, _, rfl⟩
 have HA := hide ha; have HBB0 := hide hb
 clear ha hb
 obtain ⟨u7, v7, _, _⟩ := (HS.out.1.1.2.1).two
 have h7 : X7 < W111.heap.size := (HS.out.1.1.2.1).lt
 have HN7 : Hid (n7 ≤ 1000) := hide (Vr.le (HS.out.1.1.2) (by unfold ratT; split <;> simp))
 obtain ⟨u10, v10, _, _⟩ := (HS.out.2.1).two
 have h10 : X10 < W111.heap.size := (HS.out.2.1).lt
 have HN10 : Hid (n10 ≤ 1000) := hide (Vr.le (HS.out.2) (by simp))
 have HGd : Hid (((((((Below w.heap.size w W111.drew ∧ w.heap.size ≤ W111.drew.heap.size) ∧ Blk W111.drew X2 24 #[.int .i64 wh, .slice A l.length c]) ∧ Od X5 wh A5 c5 L5 W111.drew) ∧ Vr X7 (d) A7 n7 c7 (ratT cc) W111.drew) ∧ Vr X8 (vd) A8 n8 c8 (ratT yc) W111.drew) ∧ Vr X10 (1) A10 n10 c10 ([(s, q)]) W111.drew) ∧ (Below W111.heap.size W111 W111.drew ∧ W111.heap.size ≤ W111.drew.heap.size)) := hide ⟨Kept.keep (S := fun W => ((((((Below w.heap.size w W ∧ w.heap.size ≤ W.heap.size) ∧ Blk W X2 24 #[.int .i64 wh, .slice A l.length c]) ∧ Od X5 wh A5 c5 L5 W) ∧ Vr X7 (d) A7 n7 c7 (ratT cc) W) ∧ Vr X8 (vd) A8 n8 c8 (ratT yc) W) ∧ Vr X10 (1) A10 n10 c10 ([(s, q)]) W)) _ _ HS.out (Below.drew (Below.refl _ _)), Below.drew (Below.refl _ _), Nat.le_refl _⟩
 refine wp_region_flow 8 (fun W' => Below W111.heap.size W111 W') (fun _ v W' => MadeN W111.heap.size v W') [7] (fun W' => ((((((Below w.heap.size w W' ∧ w.heap.size ≤ W'.heap.size) ∧ Blk W' X2 24 #[.int .i64 wh, .slice A l.length c]) ∧ Od X5 wh A5 c5 L5 W') ∧ Vr X7 (d) A7 n7 c7 (ratT cc) W') ∧ Vr X8 (vd) A8 n8 c8 (ratT yc) W') ∧ Vr X10 (1) A10 n10 c10 ([(s, q)]) W') ∧ (Below W111.heap.size W111 W' ∧ W111.heap.size ≤ W'.heap.size)) (by kernel_rfl)
  (Floats.of (by decide +kernel) (fun c a d v w => by cases d <;> exact Iff.rfl) (by
   intro i hi a W' hF
   obtain rfl : i = 7 := by simpa using hi
   refine wpOp_step rfl (fun K' hK0 => ?_)
   have hK := hide hK0
   clear hK0
   go_simp
   exact hK.out _ _ ⟨_, rfl, ⟨_, rfl, hF.size, Blk.new _ _ _⟩, (Below.refl _ _).alloc (Nat.le_refl _) _⟩) (fun i v W W' ⟨X, h1, h2, h3⟩ hb => ⟨X, h1, h2, h3.below hb h3.lt⟩))
  (fun _ _ _ h => h) (by decide) HGd.out (fun W h => h.2.1) (fun HFL => ?_)
 refine Safe.take 0 (v := ?_) rfl rfl HFL (by decide +kernel) (fun W h => h.2.1) (by rfl) (fun W hF => ?_) ?_
 rotate_left 1
 focus (have hF := hF (by decide +kernel); have e1 := (hF.cell (p := ⟨X7, 0, none⟩) h7).trans u7; have e2 := (hF.cell (p := ⟨X7, 1, none⟩) h7).trans v7; clear hF; go_simp; first | done | with_reducible rfl)
 (try simp only [Act.put, List.setIfInBounds_toArray, List.set_cons_zero, List.set_cons_succ])
 refine Safe.take 2 (v := ?_) rfl rfl HFL (by decide +kernel) (fun W h => h.2.1) (by rfl) (fun W hF => ?_) ?_
 rotate_left 1
 focus (have hF := hF (by decide +kernel); have e1 := (hF.cell (p := ⟨X10, 0, none⟩) h10).trans u10; have e2 := (hF.cell (p := ⟨X10, 1, none⟩) h10).trans v10; clear hF; go_simp; first | done | with_reducible rfl)
 (try simp only [Act.put, List.setIfInBounds_toArray, List.set_cons_zero, List.set_cons_succ])
 refine Safe.on 1 (fun x : Sl => .agg #[.int .i64 (d), .slice x.1 x.2.1 x.2.2]) (fun x W => OwnN 0 x (ratT cc) W) rfl rfl HFL (by decide +kernel) (fun W h => h.2.1) (fun W hG K' hK => ?_) (fun x1 hF1 => ?_)
 focus
  have HC := hide (own_num_any (d) A7 n7 c7 W.heap.size (ratT cc) W (Rq.of (terms_own (hG.1.1.1.2.2))) (Nat.le_refl _) HN7.out)
  clear hG
  go_simp
  go_wp2_with (first
   | (go_at_call 28; refine HC.out.mono ?_; rintro e w6 ⟨A, n, c, rfl, ho, hb⟩
      have HO := hide (own_le ho (Nat.zero_le _)); have HBB := hide hb; clear ho hb))
  exact hK.out (A, n, c) _ HO.out HBB.out
 (try simp only [Act.put, List.setIfInBounds_toArray, List.set_cons_zero, List.set_cons_succ])
 refine Safe.on 3 (fun x : Sl => .tuple #[.agg #[.int .i64 (ad), .slice x.1 x.2.1 x.2.2], .int .i64 (ac)]) (fun x W => OwnN 0 x (at_) W) rfl rfl HFL (by decide +kernel) hF1 (fun W hG K' hK => ?_) (fun x3 hF3 => ?_)
 focus
  have HC := hide (sub_flat (d) x1.1 x1.2.1 x1.2.2 (ratT cc) (1) A10 n10 c10 ([(s, q)])  W.heap.size W (terms_own (hG.2)) (terms_own (hG.1.1.2.2)) (Nat.le_refl _) )
  rw [HA.out] at HC
  clear hG
  go_simp
  go_wp2_with (first
   | (go_at_call 27; refine HC.out.mono ?_; rintro e w6 ⟨A, n, c, rfl, ho, hb⟩
      have HO := hide (own_le ho (Nat.zero_le _)); clear ho
      have HBB := hide hb; clear hb))
  exact hK.out (A, n, c) _ HO.out HBB.out
 (try simp only [Act.put, List.setIfInBounds_toArray, List.set_cons_zero, List.set_cons_succ])
 refine Safe.take 4 (v := ?_) rfl rfl HFL (by decide +kernel) hF3 (by rfl) (fun W hF => ?_) ?_
 rotate_left 1
 focus (clear hF; go_simp; first | done | with_reducible rfl)
 (try simp only [Act.put, List.setIfInBounds_toArray, List.set_cons_zero, List.set_cons_succ])
 refine Safe.take 5 (v := ?_) rfl rfl HFL (by decide +kernel) hF3 (by rfl) (fun W hF => ?_) ?_
 rotate_left 1
 focus (clear hF; go_simp; first | done | with_reducible rfl)
 (try simp only [Act.put, List.setIfInBounds_toArray, List.set_cons_zero, List.set_cons_succ])
 refine Safe.take 6 (v := ?_) rfl rfl HFL (by decide +kernel) hF3 (by rfl) (fun W hF => ?_) ?_
 rotate_left 1
 focus (clear hF; go_simp; first | done | with_reducible rfl)
 (try simp only [Act.put, List.setIfInBounds_toArray, List.set_cons_zero, List.set_cons_succ])
 refine Safe.force (some 11) HFL (by decide +kernel) rfl hF3 (fun vf => ?_)
 (try simp only [Act.put, List.setIfInBounds_toArray, List.set_cons_zero, List.set_cons_succ])
 refine Safe.fin rfl (fun W h => hF3 W h.1) (fun W112 hG hHeld => ?_)
 obtain ⟨hG, X11, rfl, hX, hN⟩ := hG
 have HS1 := hide (Vr.made (S := fun W => ((((((Below w.heap.size w W ∧ w.heap.size ≤ W.heap.size) ∧ Blk W X2 24 #[.int .i64 wh, .slice A l.length c]) ∧ Od X5 wh A5 c5 L5 W) ∧ Vr X7 (d) A7 n7 c7 (ratT cc) W) ∧ Vr X8 (vd) A8 n8 c8 (ratT yc) W) ∧ Vr X10 (1) A10 n10 c10 ([(s, q)]) W)) (d := ad) HS.out hG.1.1.2.1 hX hN hG.2)
 obtain ⟨q0, q1, qf0, qf1⟩ := hN.two
 clear hG HFL hF1 hF3 hX hN HGd HS u7 v7 h7 HN7 u10 v10 h10 HN10
 refine wpTill_one 8 rfl (by decide +kernel) (fun K hK => ?_)
 go_simp
 refine hK.out _ _ ⟨trivial, fun h => absurd h (by decide +kernel), fun _ => trivial⟩ (fun hHeld => ?_)
 clear hK K
 (try simp only [Act.put, List.setIfInBounds_toArray, List.set_cons_zero, List.set_cons_succ])
 refine wpTill_take 9 rfl (by decide +kernel) (fun c a w h => by first | exact h | (cases h; done)) (by rfl) (v := ?_) ?_ hHeld (fun hHeld' => ?_)
 rotate_left 1
 focus (intro w' hSw; obtain ⟨hC, hF, hG⟩ := hSw; clear hG; clear hF; go_simp; first | done | with_reducible rfl)
 clear hHeld
 rename Till _ _ _ _ _ _ _ => hHeld
 (try simp only [Act.put, List.setIfInBounds_toArray, List.set_cons_zero, List.set_cons_succ])
 refine wpTill_done (by decide +kernel) ?_
 clear hHeld
 clear q0 q1 qf0 qf1
 generalize (W112.setCell ⟨X11, 0, none⟩ (.int .i64 (ad))).setCell ⟨X11, 1, none⟩ (.slice x3.1 x3.2.1 x3.2.2) = W113 at *
 obtain ⟨A11, n11, c11⟩ := x3
 dsimp only at HS1
 have HS := hide HS1.out
 clear HS1
 go_upto_region 14 with fail
 obtain ⟨u8, v8, _, _⟩ := (HS.out.1.1.2.1).two
 have h8 : X8 < W113.heap.size := (HS.out.1.1.2.1).lt
 have HN8 : Hid (n8 ≤ 1000) := hide (Vr.le (HS.out.1.1.2) (by unfold ratT; split <;> simp))
 obtain ⟨u10, v10, _, _⟩ := (HS.out.1.2.1).two
 have h10 : X10 < W113.heap.size := (HS.out.1.2.1).lt
 have HN10 : Hid (n10 ≤ 1000) := hide (Vr.le (HS.out.1.2) (by simp))
 have HGd : Hid ((((((((Below w.heap.size w W113.drew ∧ w.heap.size ≤ W113.drew.heap.size) ∧ Blk W113.drew X2 24 #[.int .i64 wh, .slice A l.length c]) ∧ Od X5 wh A5 c5 L5 W113.drew) ∧ Vr X7 (d) A7 n7 c7 (ratT cc) W113.drew) ∧ Vr X8 (vd) A8 n8 c8 (ratT yc) W113.drew) ∧ Vr X10 (1) A10 n10 c10 ([(s, q)]) W113.drew) ∧ Vr X11 (ad) A11 n11 c11 (at_) W113.drew) ∧ (Below W113.heap.size W113 W113.drew ∧ W113.heap.size ≤ W113.drew.heap.size)) := hide ⟨Kept.keep (S := fun W => (((((((Below w.heap.size w W ∧ w.heap.size ≤ W.heap.size) ∧ Blk W X2 24 #[.int .i64 wh, .slice A l.length c]) ∧ Od X5 wh A5 c5 L5 W) ∧ Vr X7 (d) A7 n7 c7 (ratT cc) W) ∧ Vr X8 (vd) A8 n8 c8 (ratT yc) W) ∧ Vr X10 (1) A10 n10 c10 ([(s, q)]) W) ∧ Vr X11 (ad) A11 n11 c11 (at_) W)) _ _ HS.out (Below.drew (Below.refl _ _)), Below.drew (Below.refl _ _), Nat.le_refl _⟩
 refine wp_region_flow 8 (fun W' => Below W113.heap.size W113 W') (fun _ v W' => MadeN W113.heap.size v W') [7] (fun W' => (((((((Below w.heap.size w W' ∧ w.heap.size ≤ W'.heap.size) ∧ Blk W' X2 24 #[.int .i64 wh, .slice A l.length c]) ∧ Od X5 wh A5 c5 L5 W') ∧ Vr X7 (d) A7 n7 c7 (ratT cc) W') ∧ Vr X8 (vd) A8 n8 c8 (ratT yc) W') ∧ Vr X10 (1) A10 n10 c10 ([(s, q)]) W') ∧ Vr X11 (ad) A11 n11 c11 (at_) W') ∧ (Below W113.heap.size W113 W' ∧ W113.heap.size ≤ W'.heap.size)) (by kernel_rfl)
  (Floats.of (by decide +kernel) (fun c a d v w => by cases d <;> exact Iff.rfl) (by
   intro i hi a W' hF
   obtain rfl : i = 7 := by simpa using hi
   refine wpOp_step rfl (fun K' hK0 => ?_)
   have hK := hide hK0
   clear hK0
   go_simp
   exact hK.out _ _ ⟨_, rfl, ⟨_, rfl, hF.size, Blk.new _ _ _⟩, (Below.refl _ _).alloc (Nat.le_refl _) _⟩) (fun i v W W' ⟨X, h1, h2, h3⟩ hb => ⟨X, h1, h2, h3.below hb h3.lt⟩))
  (fun _ _ _ h => h) (by decide) HGd.out (fun W h => h.2.1) (fun HFL => ?_)
 refine Safe.take 0 (v := ?_) rfl rfl HFL (by decide +kernel) (fun W h => h.2.1) (by rfl) (fun W hF => ?_) ?_
 rotate_left 1
 focus (have hF := hF (by decide +kernel); have e1 := (hF.cell (p := ⟨X8, 0, none⟩) h8).trans u8; have e2 := (hF.cell (p := ⟨X8, 1, none⟩) h8).trans v8; clear hF; go_simp; first | done | with_reducible rfl)
 (try simp only [Act.put, List.setIfInBounds_toArray, List.set_cons_zero, List.set_cons_succ])
 refine Safe.take 2 (v := ?_) rfl rfl HFL (by decide +kernel) (fun W h => h.2.1) (by rfl) (fun W hF => ?_) ?_
 rotate_left 1
 focus (have hF := hF (by decide +kernel); have e1 := (hF.cell (p := ⟨X10, 0, none⟩) h10).trans u10; have e2 := (hF.cell (p := ⟨X10, 1, none⟩) h10).trans v10; clear hF; go_simp; first | done | with_reducible rfl)
 (try simp only [Act.put, List.setIfInBounds_toArray, List.set_cons_zero, List.set_cons_succ])
 refine Safe.on 1 (fun x : Sl => .agg #[.int .i64 (vd), .slice x.1 x.2.1 x.2.2]) (fun x W => OwnN 0 x (ratT yc) W) rfl rfl HFL (by decide +kernel) (fun W h => h.2.1) (fun W hG K' hK => ?_) (fun x1 hF1 => ?_)
 focus
  have HC := hide (own_num_any (vd) A8 n8 c8 W.heap.size (ratT yc) W (Rq.of (terms_own (hG.1.1.1.2.2))) (Nat.le_refl _) HN8.out)
  clear hG
  go_simp
  go_wp2_with (first
   | (go_at_call 28; refine HC.out.mono ?_; rintro e w6 ⟨A, n, c, rfl, ho, hb⟩
      have HO := hide (own_le ho (Nat.zero_le _)); have HBB := hide hb; clear ho hb))
  exact hK.out (A, n, c) _ HO.out HBB.out
 (try simp only [Act.put, List.setIfInBounds_toArray, List.set_cons_zero, List.set_cons_succ])
 refine Safe.on 3 (fun x : Sl => .tuple #[.agg #[.int .i64 (bd), .slice x.1 x.2.1 x.2.2], .int .i64 (bc)]) (fun x W => OwnN 0 x (bt) W) rfl rfl HFL (by decide +kernel) hF1 (fun W hG K' hK => ?_) (fun x3 hF3 => ?_)
 focus
  have HC := hide (sub_flat (vd) x1.1 x1.2.1 x1.2.2 (ratT yc) (1) A10 n10 c10 ([(s, q)])  W.heap.size W (terms_own (hG.2)) (terms_own (hG.1.1.1.2.2)) (Nat.le_refl _) )
  rw [HBB0.out] at HC
  clear hG
  go_simp
  go_wp2_with (first
   | (go_at_call 27; refine HC.out.mono ?_; rintro e w6 ⟨A, n, c, rfl, ho, hb⟩
      have HO := hide (own_le ho (Nat.zero_le _)); clear ho
      have HBB := hide hb; clear hb))
  exact hK.out (A, n, c) _ HO.out HBB.out
 (try simp only [Act.put, List.setIfInBounds_toArray, List.set_cons_zero, List.set_cons_succ])
 refine Safe.take 4 (v := ?_) rfl rfl HFL (by decide +kernel) hF3 (by rfl) (fun W hF => ?_) ?_
 rotate_left 1
 focus (clear hF; go_simp; first | done | with_reducible rfl)
 (try simp only [Act.put, List.setIfInBounds_toArray, List.set_cons_zero, List.set_cons_succ])
 refine Safe.take 5 (v := ?_) rfl rfl HFL (by decide +kernel) hF3 (by rfl) (fun W hF => ?_) ?_
 rotate_left 1
 focus (clear hF; go_simp; first | done | with_reducible rfl)
 (try simp only [Act.put, List.setIfInBounds_toArray, List.set_cons_zero, List.set_cons_succ])
 refine Safe.take 6 (v := ?_) rfl rfl HFL (by decide +kernel) hF3 (by rfl) (fun W hF => ?_) ?_
 rotate_left 1
 focus (clear hF; go_simp; first | done | with_reducible rfl)
 (try simp only [Act.put, List.setIfInBounds_toArray, List.set_cons_zero, List.set_cons_succ])
 refine Safe.force (some 12) HFL (by decide +kernel) rfl hF3 (fun vf => ?_)
 (try simp only [Act.put, List.setIfInBounds_toArray, List.set_cons_zero, List.set_cons_succ])
 refine Safe.fin rfl (fun W h => hF3 W h.1) (fun W114 hG hHeld => ?_)
 obtain ⟨hG, X12, rfl, hX, hN⟩ := hG
 have HS1 := hide (Vr.made (S := fun W => (((((((Below w.heap.size w W ∧ w.heap.size ≤ W.heap.size) ∧ Blk W X2 24 #[.int .i64 wh, .slice A l.length c]) ∧ Od X5 wh A5 c5 L5 W) ∧ Vr X7 (d) A7 n7 c7 (ratT cc) W) ∧ Vr X8 (vd) A8 n8 c8 (ratT yc) W) ∧ Vr X10 (1) A10 n10 c10 ([(s, q)]) W) ∧ Vr X11 (ad) A11 n11 c11 (at_) W)) (d := bd) HS.out hG.1.1.2.1 hX hN hG.2)
 obtain ⟨q0, q1, qf0, qf1⟩ := hN.two
 clear hG HFL hF1 hF3 hX hN HGd HS u8 v8 h8 HN8 u10 v10 h10 HN10
 refine wpTill_one 8 rfl (by decide +kernel) (fun K hK => ?_)
 go_simp
 refine hK.out _ _ ⟨trivial, fun h => absurd h (by decide +kernel), fun _ => trivial⟩ (fun hHeld => ?_)
 clear hK K
 (try simp only [Act.put, List.setIfInBounds_toArray, List.set_cons_zero, List.set_cons_succ])
 refine wpTill_take 9 rfl (by decide +kernel) (fun c a w h => by first | exact h | (cases h; done)) (by rfl) (v := ?_) ?_ hHeld (fun hHeld' => ?_)
 rotate_left 1
 focus (intro w' hSw; obtain ⟨hC, hF, hG⟩ := hSw; clear hG; clear hF; go_simp; first | done | with_reducible rfl)
 clear hHeld
 rename Till _ _ _ _ _ _ _ => hHeld
 (try simp only [Act.put, List.setIfInBounds_toArray, List.set_cons_zero, List.set_cons_succ])
 refine wpTill_done (by decide +kernel) ?_
 clear hHeld
 clear q0 q1 qf0 qf1
 generalize (W114.setCell ⟨X12, 0, none⟩ (.int .i64 (bd))).setCell ⟨X12, 1, none⟩ (.slice x3.1 x3.2.1 x3.2.2) = W115 at *
 obtain ⟨A12, n12, c12⟩ := x3
 dsimp only at HS1
 have HS := hide HS1.out
 clear HS1
 have hac : ac = 0 ∨ ac = 10 := by
  rcases plus_codes (m := -1) HD.out HSN.out (by unfold ratT; split <;> simp) with ⟨_, _, h, _⟩ | h
  ·rw [HA.out] at h; injection h with _ h; injection h with _ h; exact .inl h
  ·rw [HA.out] at h; injection h with _ h; injection h with _ h; exact .inr h
 have hbc : bc = 0 ∨ bc = 10 := by
  rcases plus_codes (m := -1) HY.out HSN.out (by unfold ratT; split <;> simp) with ⟨_, _, h, _⟩ | h
  ·rw [HBB0.out] at h; injection h with _ h; injection h with _ h; exact .inl h
  ·rw [HBB0.out] at h; injection h with _ h; injection h with _ h; exact .inr h
 rcases hac with rfl | rfl
 rotate_left 1
 focus
  have HBk := hide HS.out.1.1.1.1.1.1.1
  go_wp2_with (first
   | (go_at_call 21; refine (HK.out _ HBk.out.1).mono ?_; rintro e wz ⟨rfl, hbz⟩
      have HBe := hide (HBk.out.1.trans (hbz.mono HBk.out.2))
      clear hbz))
  all_goals
   go_ret
   exact ⟨rfl, HBe.out⟩
 rcases hbc with rfl | rfl
 rotate_left 1
 focus
  have HBk := hide HS.out.1.1.1.1.1.1.1
  go_wp2_with (first
   | (go_at_call 21; refine (HK.out _ HBk.out.1).mono ?_; rintro e wz ⟨rfl, hbz⟩
      have HBe := hide (HBk.out.1.trans (hbz.mono HBk.out.2))
      clear hbz))
  all_goals
   go_ret
   exact ⟨rfl, HBe.out⟩
 obtain ⟨hcm1, hcm2, hcm3⟩ := cor_main hmr.1 HD.out HEXT.out.pos HEXT.out.ne HY.out HV.out HSN.out HNEAR.out HA.out HBB0.out
 have HM1 := hide hcm1; have HM2 := hide hcm2; have HM3 := hide hcm3
 clear hcm1 hcm2 hcm3
 go_upto_region 17 with fail
 obtain ⟨u12, v12, _, _⟩ := (HS.out.2.1).two
 go_upto_region 18 with (first
  | (go_at_call 28; refine (own_num_any (bd) A12 n12 c12 W115.heap.size (bt) W115 (Rq.of (terms_own (HS.out.2.2))) (Nat.le_refl _) (Vr.le (HS.out.2) (plus_le HBB0.out))).mono ?_; rintro e w116 ⟨Ak, nk, ck, rfl, ho, hb⟩
     have HS_0 := hide (Kept.keep (S := fun W => ((((((((Below w.heap.size w W ∧ w.heap.size ≤ W.heap.size) ∧ Blk W X2 24 #[.int .i64 wh, .slice A l.length c]) ∧ Od X5 wh A5 c5 L5 W) ∧ Vr X7 (d) A7 n7 c7 (ratT cc) W) ∧ Vr X8 (vd) A8 n8 c8 (ratT yc) W) ∧ Vr X10 (1) A10 n10 c10 ([(s, q)]) W) ∧ Vr X11 (ad) A11 n11 c11 (at_) W) ∧ Vr X12 (bd) A12 n12 c12 (bt) W)) _ _ HS.out hb)
     have HC := hide (sign_flat (bd) Ak nk ck (bt) w116.heap.size w116 (terms_own ho) (Nat.le_refl _))
     clear ho
     clear hb)
  | (go_at_call 29; refine (HC.out).mono ?_; rintro e w117 ⟨sg, sc, rfl, hr, hb⟩
     have HS_1 := hide (Kept.keep (S := fun W => ((((((((Below w.heap.size w W ∧ w.heap.size ≤ W.heap.size) ∧ Blk W X2 24 #[.int .i64 wh, .slice A l.length c]) ∧ Od X5 wh A5 c5 L5 W) ∧ Vr X7 (d) A7 n7 c7 (ratT cc) W) ∧ Vr X8 (vd) A8 n8 c8 (ratT yc) W) ∧ Vr X10 (1) A10 n10 c10 ([(s, q)]) W) ∧ Vr X11 (ad) A11 n11 c11 (at_) W) ∧ Vr X12 (bd) A12 n12 c12 (bt) W)) _ _ HS_0.out hb)
     obtain ⟨rfl, rfl⟩ := HM1.out _ _ hr
     clear hr HC
     clear hb))
 clear u12 v12
 have HS0 := hide HS_1.out
 clear HS
 have HS := hide HS0.out
 clear HS0
 clear HS_0 HS_1
 go_upto_region 20 with fail
 obtain ⟨qd, qt, qc, hq⟩ : ∃ a b c, mulS ad at_ ad at_ = (a, b, c) := ⟨_, _, _, rfl⟩
 obtain ⟨dd, dt, dc, hdd⟩ : ∃ a b c, plusS d (ratT cc) d (ratT cc) 1 = (a, b, c) := ⟨_, _, _, rfl⟩
 have HQ0 := hide hq; have HDD := hide hdd
 clear hq hdd
 obtain ⟨u11, v11, _, _⟩ := (HS.out.1.2.1).two
 have h11 : X11 < w117.heap.size := (HS.out.1.2.1).lt
 have HN11 : Hid (n11 ≤ 1000) := hide (Vr.le (HS.out.1.2) (plus_le HA.out))
 have HGd : Hid (((((((((Below w.heap.size w w117.drew ∧ w.heap.size ≤ w117.drew.heap.size) ∧ Blk w117.drew X2 24 #[.int .i64 wh, .slice A l.length c]) ∧ Od X5 wh A5 c5 L5 w117.drew) ∧ Vr X7 (d) A7 n7 c7 (ratT cc) w117.drew) ∧ Vr X8 (vd) A8 n8 c8 (ratT yc) w117.drew) ∧ Vr X10 (1) A10 n10 c10 ([(s, q)]) w117.drew) ∧ Vr X11 (ad) A11 n11 c11 (at_) w117.drew) ∧ Vr X12 (bd) A12 n12 c12 (bt) w117.drew) ∧ (Below w117.heap.size w117 w117.drew ∧ w117.heap.size ≤ w117.drew.heap.size)) := hide ⟨Kept.keep (S := fun W => ((((((((Below w.heap.size w W ∧ w.heap.size ≤ W.heap.size) ∧ Blk W X2 24 #[.int .i64 wh, .slice A l.length c]) ∧ Od X5 wh A5 c5 L5 W) ∧ Vr X7 (d) A7 n7 c7 (ratT cc) W) ∧ Vr X8 (vd) A8 n8 c8 (ratT yc) W) ∧ Vr X10 (1) A10 n10 c10 ([(s, q)]) W) ∧ Vr X11 (ad) A11 n11 c11 (at_) W) ∧ Vr X12 (bd) A12 n12 c12 (bt) W)) _ _ HS.out (Below.drew (Below.refl _ _)), Below.drew (Below.refl _ _), Nat.le_refl _⟩
 refine wp_region_flow 9 (fun W' => Below w117.heap.size w117 W') (fun _ v W' => MadeN w117.heap.size v W') [8] (fun W' => ((((((((Below w.heap.size w W' ∧ w.heap.size ≤ W'.heap.size) ∧ Blk W' X2 24 #[.int .i64 wh, .slice A l.length c]) ∧ Od X5 wh A5 c5 L5 W') ∧ Vr X7 (d) A7 n7 c7 (ratT cc) W') ∧ Vr X8 (vd) A8 n8 c8 (ratT yc) W') ∧ Vr X10 (1) A10 n10 c10 ([(s, q)]) W') ∧ Vr X11 (ad) A11 n11 c11 (at_) W') ∧ Vr X12 (bd) A12 n12 c12 (bt) W') ∧ (Below w117.heap.size w117 W' ∧ w117.heap.size ≤ W'.heap.size)) (by kernel_rfl)
  (Floats.of (by decide +kernel) (fun c a d v w => by cases d <;> exact Iff.rfl) (by
   intro i hi a W' hF
   obtain rfl : i = 8 := by simpa using hi
   refine wpOp_step rfl (fun K' hK0 => ?_)
   have hK := hide hK0
   clear hK0
   go_simp
   exact hK.out _ _ ⟨_, rfl, ⟨_, rfl, hF.size, Blk.new _ _ _⟩, (Below.refl _ _).alloc (Nat.le_refl _) _⟩) (fun i v W W' ⟨X, h1, h2, h3⟩ hb => ⟨X, h1, h2, h3.below hb h3.lt⟩))
  (fun _ _ _ h => h) (by decide) HGd.out (fun W h => h.2.1) (fun HFL => ?_)
 refine Safe.take 0 (v := ?_) rfl rfl HFL (by decide +kernel) (fun W h => h.2.1) (by rfl) (fun W hF => ?_) ?_
 rotate_left 1
 focus (have hF := hF (by decide +kernel); have e1 := (hF.cell (p := ⟨X11, 0, none⟩) h11).trans u11; have e2 := (hF.cell (p := ⟨X11, 1, none⟩) h11).trans v11; clear hF; go_simp; first | done | with_reducible rfl)
 (try simp only [Act.put, List.setIfInBounds_toArray, List.set_cons_zero, List.set_cons_succ])
 refine Safe.take 2 (v := ?_) rfl rfl HFL (by decide +kernel) (fun W h => h.2.1) (by rfl) (fun W hF => ?_) ?_
 rotate_left 1
 focus (have hF := hF (by decide +kernel); have e1 := (hF.cell (p := ⟨X11, 0, none⟩) h11).trans u11; have e2 := (hF.cell (p := ⟨X11, 1, none⟩) h11).trans v11; clear hF; go_simp; first | done | with_reducible rfl)
 (try simp only [Act.put, List.setIfInBounds_toArray, List.set_cons_zero, List.set_cons_succ])
 refine Safe.on 1 (fun x : Sl => .agg #[.int .i64 (ad), .slice x.1 x.2.1 x.2.2]) (fun x W => OwnN 0 x (at_) W) rfl rfl HFL (by decide +kernel) (fun W h => h.2.1) (fun W hG K' hK => ?_) (fun x1 hF1 => ?_)
 focus
  have HC := hide (own_num_any (ad) A11 n11 c11 W.heap.size (at_) W (Rq.of (terms_own (hG.1.1.2.2))) (Nat.le_refl _) HN11.out)
  clear hG
  go_simp
  go_wp2_with (first
   | (go_at_call 28; refine HC.out.mono ?_; rintro e w6 ⟨A, n, c, rfl, ho, hb⟩
      have HO := hide (own_le ho (Nat.zero_le _)); have HBB := hide hb; clear ho hb))
  exact hK.out (A, n, c) _ HO.out HBB.out
 (try simp only [Act.put, List.setIfInBounds_toArray, List.set_cons_zero, List.set_cons_succ])
 refine Safe.on 3 (fun x : Sl => .agg #[.int .i64 (ad), .slice x.1 x.2.1 x.2.2]) (fun x W => OwnN 0 x (at_) W) rfl rfl HFL (by decide +kernel) hF1 (fun W hG K' hK => ?_) (fun x3 hF3 => ?_)
 focus
  have HC := hide (own_num_any (ad) A11 n11 c11 W.heap.size (at_) W (Rq.of (terms_own (hG.1.1.1.2.2))) (Nat.le_refl _) HN11.out)
  clear hG
  go_simp
  go_wp2_with (first
   | (go_at_call 28; refine HC.out.mono ?_; rintro e w6 ⟨A, n, c, rfl, ho, hb⟩
      have HO := hide (own_le ho (Nat.zero_le _)); have HBB := hide hb; clear ho hb))
  exact hK.out (A, n, c) _ HO.out HBB.out
 (try simp only [Act.put, List.setIfInBounds_toArray, List.set_cons_zero, List.set_cons_succ])
 refine Safe.on 4 (fun x : Sl => .tuple #[.agg #[.int .i64 (qd), .slice x.1 x.2.1 x.2.2], .int .i64 (qc)]) (fun x W => OwnN 0 x (qt) W) rfl rfl HFL (by decide +kernel) hF3 (fun W hG K' hK => ?_) (fun x4 hF4 => ?_)
 focus
  have HC := hide (mul_flat (ad) x1.1 x1.2.1 x1.2.2 (at_) (ad) x3.1 x3.2.1 x3.2.2 (at_)  W.heap.size W (terms_own (hG.1.2)) (terms_own (hG.2)) (Nat.le_refl _) )
  rw [HQ0.out] at HC
  clear hG
  go_simp
  go_wp2_with (first
   | (go_at_call 30; refine HC.out.mono ?_; rintro e w6 ⟨A, n, c, rfl, ho, hb⟩
      have HO := hide (own_le ho (Nat.zero_le _)); clear ho
      have HBB := hide hb; clear hb))
  exact hK.out (A, n, c) _ HO.out HBB.out
 (try simp only [Act.put, List.setIfInBounds_toArray, List.set_cons_zero, List.set_cons_succ])
 refine Safe.take 5 (v := ?_) rfl rfl HFL (by decide +kernel) hF4 (by rfl) (fun W hF => ?_) ?_
 rotate_left 1
 focus (clear hF; go_simp; first | done | with_reducible rfl)
 (try simp only [Act.put, List.setIfInBounds_toArray, List.set_cons_zero, List.set_cons_succ])
 refine Safe.take 6 (v := ?_) rfl rfl HFL (by decide +kernel) hF4 (by rfl) (fun W hF => ?_) ?_
 rotate_left 1
 focus (clear hF; go_simp; first | done | with_reducible rfl)
 (try simp only [Act.put, List.setIfInBounds_toArray, List.set_cons_zero, List.set_cons_succ])
 refine Safe.take 7 (v := ?_) rfl rfl HFL (by decide +kernel) hF4 (by rfl) (fun W hF => ?_) ?_
 rotate_left 1
 focus (clear hF; go_simp; first | done | with_reducible rfl)
 (try simp only [Act.put, List.setIfInBounds_toArray, List.set_cons_zero, List.set_cons_succ])
 refine Safe.force (some 16) HFL (by decide +kernel) rfl hF4 (fun vf => ?_)
 (try simp only [Act.put, List.setIfInBounds_toArray, List.set_cons_zero, List.set_cons_succ])
 refine Safe.fin rfl (fun W h => hF4 W h.1) (fun W118 hG hHeld => ?_)
 obtain ⟨hG, X16, rfl, hX, hN⟩ := hG
 have HS1 := hide (Vr.made (S := fun W => ((((((((Below w.heap.size w W ∧ w.heap.size ≤ W.heap.size) ∧ Blk W X2 24 #[.int .i64 wh, .slice A l.length c]) ∧ Od X5 wh A5 c5 L5 W) ∧ Vr X7 (d) A7 n7 c7 (ratT cc) W) ∧ Vr X8 (vd) A8 n8 c8 (ratT yc) W) ∧ Vr X10 (1) A10 n10 c10 ([(s, q)]) W) ∧ Vr X11 (ad) A11 n11 c11 (at_) W) ∧ Vr X12 (bd) A12 n12 c12 (bt) W)) (d := qd) HS.out hG.1.1.1.2.1 hX hN hG.2)
 obtain ⟨q0, q1, qf0, qf1⟩ := hN.two
 clear hG HFL hF1 hF3 hF4 hX hN HGd HS u11 v11 h11 HN11
 refine wpTill_one 9 rfl (by decide +kernel) (fun K hK => ?_)
 go_simp
 refine hK.out _ _ ⟨trivial, fun h => absurd h (by decide +kernel), fun _ => trivial⟩ (fun hHeld => ?_)
 clear hK K
 (try simp only [Act.put, List.setIfInBounds_toArray, List.set_cons_zero, List.set_cons_succ])
 refine wpTill_take 10 rfl (by decide +kernel) (fun c a w h => by first | exact h | (cases h; done)) (by rfl) (v := ?_) ?_ hHeld (fun hHeld' => ?_)
 rotate_left 1
 focus (intro w' hSw; obtain ⟨hC, hF, hG⟩ := hSw; clear hG; clear hF; go_simp; first | done | with_reducible rfl)
 clear hHeld
 rename Till _ _ _ _ _ _ _ => hHeld
 (try simp only [Act.put, List.setIfInBounds_toArray, List.set_cons_zero, List.set_cons_succ])
 refine wpTill_done (by decide +kernel) ?_
 clear hHeld
 clear q0 q1 qf0 qf1
 generalize (W118.setCell ⟨X16, 0, none⟩ (.int .i64 (qd))).setCell ⟨X16, 1, none⟩ (.slice x4.1 x4.2.1 x4.2.2) = W119 at *
 obtain ⟨A16, n16, c16⟩ := x4
 dsimp only at HS1
 have HS := hide HS1.out
 clear HS1
 go_upto_region 21 with fail
 obtain ⟨u7, v7, _, _⟩ := (HS.out.1.1.1.1.1.2.1).two
 have h7 : X7 < W119.heap.size := (HS.out.1.1.1.1.1.2.1).lt
 have HN7 : Hid (n7 ≤ 1000) := hide (Vr.le (HS.out.1.1.1.1.1.2) (by unfold ratT; split <;> simp))
 have HGd : Hid ((((((((((Below w.heap.size w W119.drew ∧ w.heap.size ≤ W119.drew.heap.size) ∧ Blk W119.drew X2 24 #[.int .i64 wh, .slice A l.length c]) ∧ Od X5 wh A5 c5 L5 W119.drew) ∧ Vr X7 (d) A7 n7 c7 (ratT cc) W119.drew) ∧ Vr X8 (vd) A8 n8 c8 (ratT yc) W119.drew) ∧ Vr X10 (1) A10 n10 c10 ([(s, q)]) W119.drew) ∧ Vr X11 (ad) A11 n11 c11 (at_) W119.drew) ∧ Vr X12 (bd) A12 n12 c12 (bt) W119.drew) ∧ Vr X16 (qd) A16 n16 c16 (qt) W119.drew) ∧ (Below W119.heap.size W119 W119.drew ∧ W119.heap.size ≤ W119.drew.heap.size)) := hide ⟨Kept.keep (S := fun W => (((((((((Below w.heap.size w W ∧ w.heap.size ≤ W.heap.size) ∧ Blk W X2 24 #[.int .i64 wh, .slice A l.length c]) ∧ Od X5 wh A5 c5 L5 W) ∧ Vr X7 (d) A7 n7 c7 (ratT cc) W) ∧ Vr X8 (vd) A8 n8 c8 (ratT yc) W) ∧ Vr X10 (1) A10 n10 c10 ([(s, q)]) W) ∧ Vr X11 (ad) A11 n11 c11 (at_) W) ∧ Vr X12 (bd) A12 n12 c12 (bt) W) ∧ Vr X16 (qd) A16 n16 c16 (qt) W)) _ _ HS.out (Below.drew (Below.refl _ _)), Below.drew (Below.refl _ _), Nat.le_refl _⟩
 refine wp_region_flow 9 (fun W' => Below W119.heap.size W119 W') (fun _ v W' => MadeN W119.heap.size v W') [8] (fun W' => (((((((((Below w.heap.size w W' ∧ w.heap.size ≤ W'.heap.size) ∧ Blk W' X2 24 #[.int .i64 wh, .slice A l.length c]) ∧ Od X5 wh A5 c5 L5 W') ∧ Vr X7 (d) A7 n7 c7 (ratT cc) W') ∧ Vr X8 (vd) A8 n8 c8 (ratT yc) W') ∧ Vr X10 (1) A10 n10 c10 ([(s, q)]) W') ∧ Vr X11 (ad) A11 n11 c11 (at_) W') ∧ Vr X12 (bd) A12 n12 c12 (bt) W') ∧ Vr X16 (qd) A16 n16 c16 (qt) W') ∧ (Below W119.heap.size W119 W' ∧ W119.heap.size ≤ W'.heap.size)) (by kernel_rfl)
  (Floats.of (by decide +kernel) (fun c a d v w => by cases d <;> exact Iff.rfl) (by
   intro i hi a W' hF
   obtain rfl : i = 8 := by simpa using hi
   refine wpOp_step rfl (fun K' hK0 => ?_)
   have hK := hide hK0
   clear hK0
   go_simp
   exact hK.out _ _ ⟨_, rfl, ⟨_, rfl, hF.size, Blk.new _ _ _⟩, (Below.refl _ _).alloc (Nat.le_refl _) _⟩) (fun i v W W' ⟨X, h1, h2, h3⟩ hb => ⟨X, h1, h2, h3.below hb h3.lt⟩))
  (fun _ _ _ h => h) (by decide) HGd.out (fun W h => h.2.1) (fun HFL => ?_)
 refine Safe.take 0 (v := ?_) rfl rfl HFL (by decide +kernel) (fun W h => h.2.1) (by rfl) (fun W hF => ?_) ?_
 rotate_left 1
 focus (have hF := hF (by decide +kernel); have e1 := (hF.cell (p := ⟨X7, 0, none⟩) h7).trans u7; have e2 := (hF.cell (p := ⟨X7, 1, none⟩) h7).trans v7; clear hF; go_simp; first | done | with_reducible rfl)
 (try simp only [Act.put, List.setIfInBounds_toArray, List.set_cons_zero, List.set_cons_succ])
 refine Safe.take 2 (v := ?_) rfl rfl HFL (by decide +kernel) (fun W h => h.2.1) (by rfl) (fun W hF => ?_) ?_
 rotate_left 1
 focus (have hF := hF (by decide +kernel); have e1 := (hF.cell (p := ⟨X7, 0, none⟩) h7).trans u7; have e2 := (hF.cell (p := ⟨X7, 1, none⟩) h7).trans v7; clear hF; go_simp; first | done | with_reducible rfl)
 (try simp only [Act.put, List.setIfInBounds_toArray, List.set_cons_zero, List.set_cons_succ])
 refine Safe.on 1 (fun x : Sl => .agg #[.int .i64 (d), .slice x.1 x.2.1 x.2.2]) (fun x W => OwnN 0 x (ratT cc) W) rfl rfl HFL (by decide +kernel) (fun W h => h.2.1) (fun W hG K' hK => ?_) (fun x1 hF1 => ?_)
 focus
  have HC := hide (own_num_any (d) A7 n7 c7 W.heap.size (ratT cc) W (Rq.of (terms_own (hG.1.1.1.1.1.1.2.2))) (Nat.le_refl _) HN7.out)
  clear hG
  go_simp
  go_wp2_with (first
   | (go_at_call 28; refine HC.out.mono ?_; rintro e w6 ⟨A, n, c, rfl, ho, hb⟩
      have HO := hide (own_le ho (Nat.zero_le _)); have HBB := hide hb; clear ho hb))
  exact hK.out (A, n, c) _ HO.out HBB.out
 (try simp only [Act.put, List.setIfInBounds_toArray, List.set_cons_zero, List.set_cons_succ])
 refine Safe.on 3 (fun x : Sl => .agg #[.int .i64 (d), .slice x.1 x.2.1 x.2.2]) (fun x W => OwnN 0 x (ratT cc) W) rfl rfl HFL (by decide +kernel) hF1 (fun W hG K' hK => ?_) (fun x3 hF3 => ?_)
 focus
  have HC := hide (own_num_any (d) A7 n7 c7 W.heap.size (ratT cc) W (Rq.of (terms_own (hG.1.1.1.1.1.1.1.2.2))) (Nat.le_refl _) HN7.out)
  clear hG
  go_simp
  go_wp2_with (first
   | (go_at_call 28; refine HC.out.mono ?_; rintro e w6 ⟨A, n, c, rfl, ho, hb⟩
      have HO := hide (own_le ho (Nat.zero_le _)); have HBB := hide hb; clear ho hb))
  exact hK.out (A, n, c) _ HO.out HBB.out
 (try simp only [Act.put, List.setIfInBounds_toArray, List.set_cons_zero, List.set_cons_succ])
 refine Safe.on 4 (fun x : Sl => .tuple #[.agg #[.int .i64 (dd), .slice x.1 x.2.1 x.2.2], .int .i64 (dc)]) (fun x W => OwnN 0 x (dt) W) rfl rfl HFL (by decide +kernel) hF3 (fun W hG K' hK => ?_) (fun x4 hF4 => ?_)
 focus
  have HC := hide (add_flat (d) x1.1 x1.2.1 x1.2.2 (ratT cc) (d) x3.1 x3.2.1 x3.2.2 (ratT cc)  W.heap.size W (terms_own (hG.1.2)) (terms_own (hG.2)) (Nat.le_refl _) )
  rw [HDD.out] at HC
  clear hG
  go_simp
  go_wp2_with (first
   | (go_at_call 31; refine HC.out.mono ?_; rintro e w6 ⟨A, n, c, rfl, ho, hb⟩
      have HO := hide (own_le ho (Nat.zero_le _)); clear ho
      have HBB := hide hb; clear hb))
  exact hK.out (A, n, c) _ HO.out HBB.out
 (try simp only [Act.put, List.setIfInBounds_toArray, List.set_cons_zero, List.set_cons_succ])
 refine Safe.take 5 (v := ?_) rfl rfl HFL (by decide +kernel) hF4 (by rfl) (fun W hF => ?_) ?_
 rotate_left 1
 focus (clear hF; go_simp; first | done | with_reducible rfl)
 (try simp only [Act.put, List.setIfInBounds_toArray, List.set_cons_zero, List.set_cons_succ])
 refine Safe.take 6 (v := ?_) rfl rfl HFL (by decide +kernel) hF4 (by rfl) (fun W hF => ?_) ?_
 rotate_left 1
 focus (clear hF; go_simp; first | done | with_reducible rfl)
 (try simp only [Act.put, List.setIfInBounds_toArray, List.set_cons_zero, List.set_cons_succ])
 refine Safe.take 7 (v := ?_) rfl rfl HFL (by decide +kernel) hF4 (by rfl) (fun W hF => ?_) ?_
 rotate_left 1
 focus (clear hF; go_simp; first | done | with_reducible rfl)
 (try simp only [Act.put, List.setIfInBounds_toArray, List.set_cons_zero, List.set_cons_succ])
 refine Safe.force (some 17) HFL (by decide +kernel) rfl hF4 (fun vf => ?_)
 (try simp only [Act.put, List.setIfInBounds_toArray, List.set_cons_zero, List.set_cons_succ])
 refine Safe.fin rfl (fun W h => hF4 W h.1) (fun W120 hG hHeld => ?_)
 obtain ⟨hG, X17, rfl, hX, hN⟩ := hG
 have HS1 := hide (Vr.made (S := fun W => (((((((((Below w.heap.size w W ∧ w.heap.size ≤ W.heap.size) ∧ Blk W X2 24 #[.int .i64 wh, .slice A l.length c]) ∧ Od X5 wh A5 c5 L5 W) ∧ Vr X7 (d) A7 n7 c7 (ratT cc) W) ∧ Vr X8 (vd) A8 n8 c8 (ratT yc) W) ∧ Vr X10 (1) A10 n10 c10 ([(s, q)]) W) ∧ Vr X11 (ad) A11 n11 c11 (at_) W) ∧ Vr X12 (bd) A12 n12 c12 (bt) W) ∧ Vr X16 (qd) A16 n16 c16 (qt) W)) (d := dd) HS.out hG.1.1.1.2.1 hX hN hG.2)
 obtain ⟨q0, q1, qf0, qf1⟩ := hN.two
 clear hG HFL hF1 hF3 hF4 hX hN HGd HS u7 v7 h7 HN7
 refine wpTill_one 9 rfl (by decide +kernel) (fun K hK => ?_)
 go_simp
 refine hK.out _ _ ⟨trivial, fun h => absurd h (by decide +kernel), fun _ => trivial⟩ (fun hHeld => ?_)
 clear hK K
 (try simp only [Act.put, List.setIfInBounds_toArray, List.set_cons_zero, List.set_cons_succ])
 refine wpTill_take 10 rfl (by decide +kernel) (fun c a w h => by first | exact h | (cases h; done)) (by rfl) (v := ?_) ?_ hHeld (fun hHeld' => ?_)
 rotate_left 1
 focus (intro w' hSw; obtain ⟨hC, hF, hG⟩ := hSw; clear hG; clear hF; go_simp; first | done | with_reducible rfl)
 clear hHeld
 rename Till _ _ _ _ _ _ _ => hHeld
 (try simp only [Act.put, List.setIfInBounds_toArray, List.set_cons_zero, List.set_cons_succ])
 refine wpTill_done (by decide +kernel) ?_
 clear hHeld
 clear q0 q1 qf0 qf1
 generalize (W120.setCell ⟨X17, 0, none⟩ (.int .i64 (dd))).setCell ⟨X17, 1, none⟩ (.slice x4.1 x4.2.1 x4.2.2) = W121 at *
 obtain ⟨A17, n17, c17⟩ := x4
 dsimp only at HS1
 have HS := hide HS1.out
 clear HS1
 go_upto_region 22 with fail
 obtain ⟨fd, ft, fc, hf⟩ : ∃ a b c, quoS qd qt dd dt = (a, b, c) := ⟨_, _, _, rfl⟩
 have HF0 := hide hf
 clear hf
 have hcq := quo_flat qd A16 n16 c16 qt dd A17 n17 c17 dt W121.heap.size W121 (terms_own (HS.out.1.2.2)) (terms_own (HS.out.2.2)) (Nat.le_refl _)
 rw [HF0.out] at hcq
 have HCQ := hide hcq
 clear hcq
 obtain ⟨u16, v16, _, _⟩ := (HS.out.1.2.1).two
 obtain ⟨u17, v17, _, _⟩ := (HS.out.2.1).two
 go_upto_region 23 with (first
  | (go_at_call 32; refine (HCQ.out).mono ?_; rintro e w122 ⟨A18, n18, c18, rfl, ho, hb⟩
     have HS_0 := hide (Kept.keep (S := fun W => ((((((((((Below w.heap.size w W ∧ w.heap.size ≤ W.heap.size) ∧ Blk W X2 24 #[.int .i64 wh, .slice A l.length c]) ∧ Od X5 wh A5 c5 L5 W) ∧ Vr X7 (d) A7 n7 c7 (ratT cc) W) ∧ Vr X8 (vd) A8 n8 c8 (ratT yc) W) ∧ Vr X10 (1) A10 n10 c10 ([(s, q)]) W) ∧ Vr X11 (ad) A11 n11 c11 (at_) W) ∧ Vr X12 (bd) A12 n12 c12 (bt) W) ∧ Vr X16 (qd) A16 n16 c16 (qt) W) ∧ Vr X17 (dd) A17 n17 c17 (dt) W)) _ _ HS.out hb)
     have HO := hide (own_le ho (Nat.zero_le _))
     clear ho
     clear hb))
 clear u16 v16 u17 v17
 have HS3 := hide (And.intro (Kept.keep (S := fun W => ((((((((((Below w.heap.size w W ∧ w.heap.size ≤ W.heap.size) ∧ Blk W X2 24 #[.int .i64 wh, .slice A l.length c]) ∧ Od X5 wh A5 c5 L5 W) ∧ Vr X7 (d) A7 n7 c7 (ratT cc) W) ∧ Vr X8 (vd) A8 n8 c8 (ratT yc) W) ∧ Vr X10 (1) A10 n10 c10 ([(s, q)]) W) ∧ Vr X11 (ad) A11 n11 c11 (at_) W) ∧ Vr X12 (bd) A12 n12 c12 (bt) W) ∧ Vr X16 (qd) A16 n16 c16 (qt) W) ∧ Vr X17 (dd) A17 n17 c17 (dt) W)) _ _ HS_0.out ((Below.refl _ _).alloc (Nat.le_refl _) (.cells #[.int .i64 (fd), .slice A18 n18 c18] 33))) (Vr.new (d := fd) HO.out))
 obtain ⟨X18, hX⟩ : ∃ X, X = w122.heap.size := ⟨_, rfl⟩
 rw [← hX] at HS3 ⊢
 clear hX HS_0 HO HS
 generalize w122.alloc (.cells #[.int .i64 (fd), .slice A18 n18 c18] 33) = W123 at *
 have HS := hide HS3.out
 clear HS3
 clear HCQ
 have hm3 := HM3.out
 rw [HQ0.out, HDD.out] at hm3
 dsimp only at hm3
 rw [HF0.out] at hm3
 rcases hm3 with rfl | ⟨rfl, rfl⟩ | ⟨rfl, rfl, hfe⟩
 ·skip
  have HBk := hide HS.out.1.1.1.1.1.1.1.1.1.1
  go_wp2_with (first
   | (go_at_call 21; refine (HK.out _ HBk.out.1).mono ?_; rintro e wz ⟨rfl, hbz⟩
      have HBe := hide (HBk.out.1.trans (hbz.mono HBk.out.2))
      clear hbz))
  all_goals
   go_ret
   exact ⟨rfl, HBe.out⟩
 ·skip
  have HBk := hide HS.out.1.1.1.1.1.1.1.1.1.1
  go_wp2_with (first
   | (go_at_call 21; refine (HK.out _ HBk.out.1).mono ?_; rintro e wz ⟨rfl, hbz⟩
      have HBe := hide (HBk.out.1.trans (hbz.mono HBk.out.2))
      clear hbz))
  all_goals
   go_ret
   exact ⟨rfl, HBe.out⟩
 injection hfe with e1 hfe
 injection hfe with e2 e3
 subst e1; subst e2; subst e3
 go_upto_region 25 with fail
 obtain ⟨u11, v11, _, _⟩ := (HS.out.1.1.1.1.2.1).two
 go_upto_region 26 with (first
  | (go_at_call 28; refine (own_num_any (ad) A11 n11 c11 W123.heap.size (at_) W123 (Rq.of (terms_own (HS.out.1.1.1.1.2.2))) (Nat.le_refl _) (Vr.le (HS.out.1.1.1.1.2) (plus_le HA.out))).mono ?_; rintro e w124 ⟨Ak, nk, ck, rfl, ho, hb⟩
     have HS_0 := hide (Kept.keep (S := fun W => (((((((((((Below w.heap.size w W ∧ w.heap.size ≤ W.heap.size) ∧ Blk W X2 24 #[.int .i64 wh, .slice A l.length c]) ∧ Od X5 wh A5 c5 L5 W) ∧ Vr X7 (d) A7 n7 c7 (ratT cc) W) ∧ Vr X8 (vd) A8 n8 c8 (ratT yc) W) ∧ Vr X10 (1) A10 n10 c10 ([(s, q)]) W) ∧ Vr X11 (ad) A11 n11 c11 (at_) W) ∧ Vr X12 (fd) A12 n12 c12 (ft) W) ∧ Vr X16 (qd) A16 n16 c16 (qt) W) ∧ Vr X17 (dd) A17 n17 c17 (dt) W) ∧ Vr X18 (fd) A18 n18 c18 (ft) W)) _ _ HS.out hb)
     have HC := hide (sign_flat (ad) Ak nk ck (at_) w124.heap.size w124 (terms_own ho) (Nat.le_refl _))
     clear ho
     clear hb)
  | (go_at_call 29; refine (HC.out).mono ?_; rintro e w125 ⟨sg, sc, rfl, hr, hb⟩
     have HS_1 := hide (Kept.keep (S := fun W => (((((((((((Below w.heap.size w W ∧ w.heap.size ≤ W.heap.size) ∧ Blk W X2 24 #[.int .i64 wh, .slice A l.length c]) ∧ Od X5 wh A5 c5 L5 W) ∧ Vr X7 (d) A7 n7 c7 (ratT cc) W) ∧ Vr X8 (vd) A8 n8 c8 (ratT yc) W) ∧ Vr X10 (1) A10 n10 c10 ([(s, q)]) W) ∧ Vr X11 (ad) A11 n11 c11 (at_) W) ∧ Vr X12 (fd) A12 n12 c12 (ft) W) ∧ Vr X16 (qd) A16 n16 c16 (qt) W) ∧ Vr X17 (dd) A17 n17 c17 (dt) W) ∧ Vr X18 (fd) A18 n18 c18 (ft) W)) _ _ HS_0.out hb)
     obtain ⟨hsa, rfl, hcmp⟩ := HM2.out _ _ hr
     have HCMP := hide hcmp
     clear hcmp
     clear hr HC
     clear hb))
 clear u11 v11
 have HS0 := hide HS_1.out
 clear HS
 have HS := hide HS0.out
 clear HS0
 clear HS_0 HS_1
 have hsf : (sg == 0) = false := by simp [hsa]
 go_upto_region 28 with fail
 obtain ⟨u12, v12, _, _⟩ := (HS.out.1.1.1.2.1).two
 have h12 : X12 < w125.heap.size := (HS.out.1.1.1.2.1).lt
 have HN12 : Hid (n12 ≤ 1000) := hide (Vr.le (HS.out.1.1.1.2) (plus_le HBB0.out))
 obtain ⟨u11, v11, _, _⟩ := (HS.out.1.1.1.1.2.1).two
 have h11 : X11 < w125.heap.size := (HS.out.1.1.1.1.2.1).lt
 have HN11 : Hid (n11 ≤ 1000) := hide (Vr.le (HS.out.1.1.1.1.2) (plus_le HA.out))
 have HGd : Hid ((((((((((((Below w.heap.size w w125.drew ∧ w.heap.size ≤ w125.drew.heap.size) ∧ Blk w125.drew X2 24 #[.int .i64 wh, .slice A l.length c]) ∧ Od X5 wh A5 c5 L5 w125.drew) ∧ Vr X7 (d) A7 n7 c7 (ratT cc) w125.drew) ∧ Vr X8 (vd) A8 n8 c8 (ratT yc) w125.drew) ∧ Vr X10 (1) A10 n10 c10 ([(s, q)]) w125.drew) ∧ Vr X11 (ad) A11 n11 c11 (at_) w125.drew) ∧ Vr X12 (fd) A12 n12 c12 (ft) w125.drew) ∧ Vr X16 (qd) A16 n16 c16 (qt) w125.drew) ∧ Vr X17 (dd) A17 n17 c17 (dt) w125.drew) ∧ Vr X18 (fd) A18 n18 c18 (ft) w125.drew) ∧ (Below w125.heap.size w125 w125.drew ∧ w125.heap.size ≤ w125.drew.heap.size)) := hide ⟨Kept.keep (S := fun W => (((((((((((Below w.heap.size w W ∧ w.heap.size ≤ W.heap.size) ∧ Blk W X2 24 #[.int .i64 wh, .slice A l.length c]) ∧ Od X5 wh A5 c5 L5 W) ∧ Vr X7 (d) A7 n7 c7 (ratT cc) W) ∧ Vr X8 (vd) A8 n8 c8 (ratT yc) W) ∧ Vr X10 (1) A10 n10 c10 ([(s, q)]) W) ∧ Vr X11 (ad) A11 n11 c11 (at_) W) ∧ Vr X12 (fd) A12 n12 c12 (ft) W) ∧ Vr X16 (qd) A16 n16 c16 (qt) W) ∧ Vr X17 (dd) A17 n17 c17 (dt) W) ∧ Vr X18 (fd) A18 n18 c18 (ft) W)) _ _ HS.out (Below.drew (Below.refl _ _)), Below.drew (Below.refl _ _), Nat.le_refl _⟩
 refine wp_region_flow 8 (fun W' => Below w125.heap.size w125 W') (fun _ _ _ => True) [] (fun W' => (((((((((((Below w.heap.size w W' ∧ w.heap.size ≤ W'.heap.size) ∧ Blk W' X2 24 #[.int .i64 wh, .slice A l.length c]) ∧ Od X5 wh A5 c5 L5 W') ∧ Vr X7 (d) A7 n7 c7 (ratT cc) W') ∧ Vr X8 (vd) A8 n8 c8 (ratT yc) W') ∧ Vr X10 (1) A10 n10 c10 ([(s, q)]) W') ∧ Vr X11 (ad) A11 n11 c11 (at_) W') ∧ Vr X12 (fd) A12 n12 c12 (ft) W') ∧ Vr X16 (qd) A16 n16 c16 (qt) W') ∧ Vr X17 (dd) A17 n17 c17 (dt) W') ∧ Vr X18 (fd) A18 n18 c18 (ft) W') ∧ (Below w125.heap.size w125 W' ∧ w125.heap.size ≤ W'.heap.size)) (by kernel_rfl)
  (Floats.of (by decide +kernel) (fun c a d v w => by cases d <;> exact Iff.rfl) (by intro i hi; cases hi) (fun _ _ _ _ _ _ => trivial))
  (fun _ _ _ h => h) (by decide) HGd.out (fun W h => h.2.1) (fun HFL => ?_)
 refine Safe.take 0 (v := ?_) rfl rfl HFL (by decide +kernel) (fun W h => h.2.1) (by rfl) (fun W hF => ?_) ?_
 rotate_left 1
 focus (have hF := hF (by decide +kernel); have e1 := (hF.cell (p := ⟨X12, 0, none⟩) h12).trans u12; have e2 := (hF.cell (p := ⟨X12, 1, none⟩) h12).trans v12; clear hF; go_simp; first | done | with_reducible rfl)
 (try simp only [Act.put, List.setIfInBounds_toArray, List.set_cons_zero, List.set_cons_succ])
 refine Safe.take 2 (v := ?_) rfl rfl HFL (by decide +kernel) (fun W h => h.2.1) (by rfl) (fun W hF => ?_) ?_
 rotate_left 1
 focus (have hF := hF (by decide +kernel); have e1 := (hF.cell (p := ⟨X11, 0, none⟩) h11).trans u11; have e2 := (hF.cell (p := ⟨X11, 1, none⟩) h11).trans v11; clear hF; go_simp; first | done | with_reducible rfl)
 (try simp only [Act.put, List.setIfInBounds_toArray, List.set_cons_zero, List.set_cons_succ])
 refine Safe.on 1 (fun x : Sl => .agg #[.int .i64 (fd), .slice x.1 x.2.1 x.2.2]) (fun x W => OwnN 0 x (ft) W) rfl rfl HFL (by decide +kernel) (fun W h => h.2.1) (fun W hG K' hK => ?_) (fun x1 hF1 => ?_)
 focus
  have HC := hide (own_num_any (fd) A12 n12 c12 W.heap.size (ft) W (Rq.of (terms_own (hG.1.1.1.1.2.2))) (Nat.le_refl _) HN12.out)
  clear hG
  go_simp
  go_wp2_with (first
   | (go_at_call 28; refine HC.out.mono ?_; rintro e w6 ⟨A, n, c, rfl, ho, hb⟩
      have HO := hide (own_le ho (Nat.zero_le _)); have HBB := hide hb; clear ho hb))
  exact hK.out (A, n, c) _ HO.out HBB.out
 (try simp only [Act.put, List.setIfInBounds_toArray, List.set_cons_zero, List.set_cons_succ])
 refine Safe.on 3 (fun x : Sl => .agg #[.int .i64 (ad), .slice x.1 x.2.1 x.2.2]) (fun x W => OwnN 0 x (at_) W) rfl rfl HFL (by decide +kernel) hF1 (fun W hG K' hK => ?_) (fun x3 hF3 => ?_)
 focus
  have HC := hide (own_num_any (ad) A11 n11 c11 W.heap.size (at_) W (Rq.of (terms_own (hG.1.1.1.1.1.1.2.2))) (Nat.le_refl _) HN11.out)
  clear hG
  go_simp
  go_wp2_with (first
   | (go_at_call 28; refine HC.out.mono ?_; rintro e w6 ⟨A, n, c, rfl, ho, hb⟩
      have HO := hide (own_le ho (Nat.zero_le _)); have HBB := hide hb; clear ho hb))
  exact hK.out (A, n, c) _ HO.out HBB.out
 (try simp only [Act.put, List.setIfInBounds_toArray, List.set_cons_zero, List.set_cons_succ])
 refine Safe.on 4 (fun x : Int × Int => .tuple #[.int .i64 x.1, .int .i64 x.2]) (fun x W => CmpRes fd ft ad at_ x.1 x.2) rfl rfl HFL (by decide +kernel) hF3 (fun W hG K' hK => ?_) (fun x4 hF4 => ?_)
 focus
  have HC := hide (compare_flat (fd) x1.1 x1.2.1 x1.2.2 (ft) (ad) x3.1 x3.2.1 x3.2.2 (at_)  W.heap.size W (terms_own (hG.1.2)) (terms_own (hG.2)) (Nat.le_refl _) )
  clear hG
  go_simp
  go_wp2_with (first
   | (go_at_call 33; refine HC.out.mono ?_; rintro e w6 ⟨q1, q2, rfl, hr, hb⟩
      have HQ := hide hr; clear hr
      have HBB := hide hb; clear hb))
  exact hK.out (q1, q2) _ HQ.out HBB.out
 (try simp only [Act.put, List.setIfInBounds_toArray, List.set_cons_zero, List.set_cons_succ])
 refine Safe.fin rfl hF4 (fun W126 hG hHeld => ?_)
 have HS0 := hide (hG.1.1.1.1)
 have HR := hide hG.2
 clear hG HGd HFL hF1 hF3 hF4 HS u12 v12 h12 HN12 u11 v11 h11 HN11
 have HS := hide HS0.out
 clear HS0
 refine wpTill_take 5 rfl (by decide +kernel) (fun c a w h => by first | exact h | (cases h; done)) (by rfl) (v := ?_) ?_ hHeld (fun hHeld' => ?_)
 rotate_left 1
 focus (intro w' hSw; obtain ⟨hC, hF, hG⟩ := hSw; clear hG; clear hF; go_simp; first | done | with_reducible rfl)
 clear hHeld
 rename Till _ _ _ _ _ _ _ => hHeld
 (try simp only [Act.put, List.setIfInBounds_toArray, List.set_cons_zero, List.set_cons_succ])
 refine wpTill_take 6 rfl (by decide +kernel) (fun c a w h => by first | exact h | (cases h; done)) (by rfl) (v := ?_) ?_ hHeld (fun hHeld' => ?_)
 rotate_left 1
 focus (intro w' hSw; obtain ⟨hC, hF, hG⟩ := hSw; clear hG; clear hF; go_simp; first | done | with_reducible rfl)
 clear hHeld
 rename Till _ _ _ _ _ _ _ => hHeld
 (try simp only [Act.put, List.setIfInBounds_toArray, List.set_cons_zero, List.set_cons_succ])
 refine wpTill_take 7 rfl (by decide +kernel) (fun c a w h => by first | exact h | (cases h; done)) (by rfl) (v := ?_) ?_ hHeld (fun hHeld' => ?_)
 rotate_left 1
 focus (intro w' hSw; obtain ⟨hC, hF, hG⟩ := hSw; clear hG; clear hF; go_simp; first | done | with_reducible rfl)
 clear hHeld
 rename Till _ _ _ _ _ _ _ => hHeld
 (try simp only [Act.put, List.setIfInBounds_toArray, List.set_cons_zero, List.set_cons_succ])
 refine wpTill_one 8 rfl (by decide +kernel) (fun K hK => ?_)
 go_simp
 refine hK.out _ _ ⟨trivial, fun h => absurd h (by decide +kernel), fun _ => trivial⟩ (fun hHeld => ?_)
 clear hK K
 (try simp only [Act.put, List.setIfInBounds_toArray, List.set_cons_zero, List.set_cons_succ])
 refine wpTill_take 9 rfl (by decide +kernel) (fun c a w h => by first | exact h | (cases h; done)) (by rfl) (v := ?_) ?_ hHeld (fun hHeld' => ?_)
 rotate_left 1
 focus (intro w' hSw; obtain ⟨hC, hF, hG⟩ := hSw; clear hG; clear hF; go_simp; first | done | with_reducible rfl)
 clear hHeld
 rename Till _ _ _ _ _ _ _ => hHeld
 (try simp only [Act.put, List.setIfInBounds_toArray, List.set_cons_zero, List.set_cons_succ])
 refine wpTill_done (by decide +kernel) ?_
 clear hHeld
 obtain ⟨o, oc⟩ := x4
 dsimp only at HR
 obtain ⟨rfl, ho⟩ := HCMP.out _ _ HR.out
 clear HR HCMP
 by_cases hsp : 0 < sg
 ·have ho1 := ho hsp
  have ho2 : ¬ 0 ≤ o := by omega
  obtain ⟨u18, v18, _, _⟩ := (HS.out.2.1).two
  obtain ⟨u12, v12, _, _⟩ := (HS.out.1.1.1.2.1).two
  have HSA := hide (same_num (HS.out.2) (HS.out.1.1.1.2))
  have HBk := hide HS.out.1.1.1.1.1.1.1.1.1.1
  go_wp2_with (first
   | (go_at_call 34; refine HSA.out.mono ?_; rintro e w12 ⟨rfl, hb⟩
      have HB12 := hide (HBk.out.1.trans (hb.mono HBk.out.2))
      clear hb)
   | (go_at_call 21; refine (HK.out _ HB12.out).mono ?_; rintro e wz ⟨rfl, hbz⟩
      have HBe := hide (HB12.out.trans (hbz.mono HB12.out.size))
      clear hbz))
  all_goals
   go_ret
   exact ⟨rfl, HBe.out⟩
 ·skip
  obtain ⟨u18, v18, _, _⟩ := (HS.out.2.1).two
  obtain ⟨u12, v12, _, _⟩ := (HS.out.1.1.1.2.1).two
  have HSA := hide (same_num (HS.out.2) (HS.out.1.1.1.2))
  have HBk := hide HS.out.1.1.1.1.1.1.1.1.1.1
  go_wp2_with (first
   | (go_at_call 34; refine HSA.out.mono ?_; rintro e w12 ⟨rfl, hb⟩
      have HB12 := hide (HBk.out.1.trans (hb.mono HBk.out.2))
      clear hb)
   | (go_at_call 21; refine (HK.out _ HB12.out).mono ?_; rintro e wz ⟨rfl, hbz⟩
      have HBe := hide (HB12.out.trans (hbz.mono HB12.out.size))
      clear hbz))
  all_goals
   go_ret
   exact ⟨rfl, HBe.out⟩
end Go.Proofs.YtpibgijgnnmccaaGreatDoor
