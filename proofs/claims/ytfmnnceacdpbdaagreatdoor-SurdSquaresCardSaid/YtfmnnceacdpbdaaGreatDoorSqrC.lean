import Derived.Test.YtfmnnceacdpbdaaGreatDoorSqrAToSqrB
import Derived.Test.YtfmnnceacdpbdaaGreatDoorFieAToBetA
set_option linter.unusedVariables false
set_option linter.unusedSimpArgs false
namespace Go.Proofs.YtfmnnceacdpbdaaGreatDoor
theorem IsN.sgO {D d s : Int} {X : Nat → Int} {ts : List (Int × Int)} (h : IsN D X d ts) (hs : SignOf ts s) : Sg X s := by
 obtain ⟨_, G, hG, _, hn⟩ := h
 exact (Sg.smul hG hs.sg).near hn
theorem sq_sign {xd n ce : Int} {xt : List (Int × Int)} (hx : numOK xd xt = true) (h : SignRes xd xt n ce) : ce = 0 ∧ SignOf xt n ∧ (n = 1 ∨ n = -1 ∨ n = 0) ∧ (n = 0 ↔ xt = []) := by
 obtain ⟨h0, hs⟩ := sign_ok_ hx h
 refine ⟨h0, hs, hs.sg.range, fun e => (sign_zero hx).1 (e ▸ hs), fun e => ?_⟩
 subst e
 exact hs.unique (.inl ⟨rfl, rfl⟩)
theorem sq_root {xd n : Int} {xt : List (Int × Int)} {res : Int × List (Int × Int) × Int} (hx : numOK xd xt = true) (hn : SignOf xt n) (h : RootRes xd xt res) :
  (n < 0 ↔ res.2.2 = 3) ∧ (res.2.2 = 0 → mulS res.1 res.2.1 res.1 res.2.1 = (xd, xt, 0) ∧ ∀ m c, SignRes res.1 res.2.1 m c → c = 0 ∧ 0 ≤ m) := by
 rcases h with ⟨h1, _⟩ | ⟨_, s, hs, h1⟩
 ·rw [hx] at h1; cases h1
 ·obtain rfl := hs.unique hn
  rcases h1 with ⟨h1, rfl⟩ | ⟨h1, rfl⟩ | ⟨h1, rfl⟩
  ·exact ⟨⟨fun _ => rfl, fun _ => h1⟩, fun h => by cases h⟩
  ·subst h1
   have hnil := (sign_zero hx).1 hn
   subst hnil
   have h1 := nil_one hx
   subst h1
   refine ⟨⟨fun h => by omega, fun h => by cases h⟩, fun _ => ⟨by decide +kernel, fun m c hm => ?_⟩⟩
   obtain ⟨h0, h2⟩ := sign_ok_ (by decide +kernel) hm
   have := h2.unique (.inl ⟨rfl, rfl⟩)
   exact ⟨h0, by omega⟩
  ·refine ⟨⟨fun h => by omega, fun h => absurd h (rootP_codes xd xt).1⟩, fun h => ?_⟩
   exact root_sq (rd := (rootP xd xt).1) (rt := (rootP xd xt).2.1) hx hs h1 (by rw [← h])
theorem overT_le (kv : List (Int × Int)) (den : Int) : (overT kv den).length ≤ kv.length := by
 unfold overT termsG
 rw [List.length_map, (sortI_perm _).length_eq, List.length_map]
 exact List.length_filter_le _ _
theorem overS_le {kv : List (Int × Int)} {den d : Int} {ts : List (Int × Int)} (h : overS kv den = (d, ts, 0)) : ts.length ≤ kv.length := by
 have := overT_le kv den
 unfold overS at h
 split at h
 ·injection h with _ h; injection h with _ h; cases h
 ·split at h
  ·injection h with _ h; injection h with _ h; cases h
  ·injection h with _ h; injection h with h _; rw [← h]; exact this
theorem sq_opp {xd n sd : Int} {xt st : List (Int × Int)} (hx : numOK xd xt = true) (hn : SignOf xt n) (h0 : n < 0) (hl : xt.length ≤ 2) (hsq : mulS xd xt xd xt = (sd, st, 0)) {res : Int × List (Int × Int) × Int} (hr : RootRes sd st res) :
  res = plusS 1 [] xd xt (-1) := by
 obtain ⟨hc, hi⟩ := opp_of (IsN.self hx)
 obtain ⟨od, ot, c, he⟩ : ∃ d t c, plusS 1 [] xd xt (-1) = (d, t, c) := ⟨_, _, _, rfl⟩
 rw [he] at hc hi ⊢
 dsimp only at hc hi
 subst hc
 have hp := prod_mul (numOK_free hx) (numOK_free hx)
 have hm := mul_is (IsN.self hx) (IsN.self hx) hp hsq
 have hp2 : MulN (fun k => -linT xt k) (fun k => -linT xt k) (linK (prodS [] xt xt)) :=
  (((hp.smul_l (-1)).comm.smul_l (-1)).comm).congr (fun k => by (try dsimp only); omega) (fun k => by (try dsimp only); omega) (fun k => by (try dsimp only); omega)
 have h2 : mulS od ot od ot = (sd, st, 0) := sq_is hi hm.1 hp2 hm.val.symm
 have hlo : ot.length ≤ 2 := by
  have h3 := he
  unfold plusS at h3
  rw [show numOK 1 [] = true by decide +kernel, hx] at h3
  simp only [Bool.and_self, if_true] at h3
  have e : addAll (addAll [] [] xd) xt (-1 * 1) = xt.map (fun t => (t.2, t.1 * (-1 * 1))) := by
   obtain ⟨f1, f2⟩ := numOK_roots hx
   rw [show addAll [] [] xd = [] from rfl, addAll_free xt [] _ f1 f2 (by simp)]; rfl
  rw [e] at h3
  have := overS_le h3
  rw [List.length_map] at this
  omega
 refine root_near hi.1 hlo (fun s hs => ?_) h2 hr
 have := (hi.sgO hs).unique hn.sg.neg
 omega
theorem sq_back {xd n sd : Int} {xt st : List (Int × Int)} (hx : numOK xd xt = true) (hn : SignOf xt n) (h0 : 0 ≤ n) (hl : xt.length ≤ 2) (hsq : mulS xd xt xd xt = (sd, st, 0)) {res : Int × List (Int × Int) × Int} (hr : RootRes sd st res) : res = (xd, xt, 0) :=
 root_near hx hl (fun s hs => by have := hs.unique hn; omega) hsq hr
theorem opp_ok {xd : Int} {xt : List (Int × Int)} (hx : numOK xd xt = true) : (plusS 1 [] xd xt (-1)).2.2 = 0 := (opp_of (IsN.self hx)).1
end Go.Proofs.YtfmnnceacdpbdaaGreatDoor
