import Derived.Test.YthkblgglmohciaaGreatDoorPrtAToPrtB
import Derived.Test.YthkblgglmohciaaGreatDoorDgtH
import Derived.Laws.Concat
import Derived.Laws.IdiomStrings
import Derived.Test.YthkblgglmohciaaGreatDoorRefAToRefE
import Derived.Test.YthkblgglmohciaaGreatDoorVarNToLayN
set_option linter.unusedVariables false
set_option linter.unusedSimpArgs false
namespace Go.Proofs.YthkblgglmohciaaGreatDoor
theorem dec_dig (u : Nat) : ∀ b ∈ Lib.decDigits u, 48 ≤ b.toNat ∧ b.toNat ≤ 57 := by
 induction u using Nat.strongRecOn with
 | ind u ih =>
  intro b hb
  have key : ∀ k : Nat, k < 10 → 48 ≤ (UInt8.ofNat (48 + k)).toNat ∧ (UInt8.ofNat (48 + k)).toNat ≤ 57 := fun k hk => by
   rw [UInt8.toNat_ofNat']; omega
  rw [Lib.decDigits] at hb
  split at hb
  ·rw [List.mem_singleton] at hb; subst hb; exact key u (by omega)
  ·rcases List.mem_append.1 hb with hb | hb
   ·exact ih (u / 10) (by omega) b hb
   ·rw [List.mem_singleton] at hb; subst hb; exact key _ (by omega)
theorem dec_ne (u : Nat) : Lib.decDigits u ≠ [] := by
 rw [Lib.decDigits]; split <;> simp
theorem decS_snoc (l : List UInt8) (c : UInt8) : decS (l ++ [c]) = decS l * 10 + ((c.toNat - 48 : Nat) : Int) := by simp [decS]
theorem decS_dec (u : Nat) : decS (Lib.decDigits u) = (u : Int) := by
 induction u using Nat.strongRecOn with
 | ind u ih =>
  have key : ∀ k : Nat, k < 10 → (((UInt8.ofNat (48 + k)).toNat - 48 : Nat) : Int) = (k : Int) := fun k hk => by
   rw [UInt8.toNat_ofNat']; omega
  rw [Lib.decDigits]
  split
  ·rw [show [UInt8.ofNat (48 + u)] = [] ++ [UInt8.ofNat (48 + u)] from rfl, decS_snoc, key u (by omega)]
   simp [decS]
  ·rw [decS_snoc, ih (u / 10) (by omega), key _ (by omega)]
   omega
theorem digS_dec {u : Nat} (h : u < 1000000) : digS (Lib.decDigits u) = ((u : Int), true) := by
 have h1 := dec_len 5 u (by omega)
 have h2 := List.length_pos_iff.2 (dec_ne u)
 unfold digS
 rw [if_neg, decS_dec]
 rintro (h3 | h3 | h3)
 ·omega
 ·omega
 ·exact h3 (trimS_all fun b hb => ten_of (dec_dig u b hb))
theorem idx_app {c : UInt8} {R : List UInt8} : ∀ {A : List UInt8}, c ∉ A → Lib.index (A ++ c :: R) [c] = (A.length : Int)
 | [], _ => by simp [Lib.index]
 | x :: A, h => by
  rw [List.mem_cons, not_or] at h
  have ih := idx_app (R := R) h.2
  have hp : List.isPrefixOf [c] (x :: (A ++ c :: R)) = false := by
   simp only [List.isPrefixOf, Bool.and_eq_false_iff, beq_eq_false_iff_ne]; exact .inl h.1
  rw [List.cons_append, Lib.index, hp, ih]
  have h1 : ((A.length : Int) == -1) = false := beq_eq_false_iff_ne.2 (by omega)
  rw [h1]
  simp
theorem idx_no {c : UInt8} : ∀ {A : List UInt8}, c ∉ A → Lib.index A [c] = -1
 | [], _ => rfl
 | x :: A, h => by
  rw [List.mem_cons, not_or] at h
  have ih := idx_no h.2
  have hp : List.isPrefixOf [c] (x :: A) = false := by
   simp only [List.isPrefixOf, Bool.and_eq_false_iff, beq_eq_false_iff_ne]; exact .inl h.1
  rw [Lib.index, hp, ih]
  rfl
theorem cut_app {c : UInt8} {A R : List UInt8} (h : c ∉ A) : Lib.cut (A ++ c :: R) [c] = (A, R, true) := by
 unfold Lib.cut
 rw [idx_app h, if_pos (by omega)]
 simp
theorem cut_no {c : UInt8} {A : List UInt8} (h : c ∉ A) : Lib.cut A [c] = (A, [], false) := by
 unfold Lib.cut
 rw [idx_no h, if_neg (by omega)]
def absT (t : Int × Int) : List UInt8 := (if t.2 = 1 ∨ t.1.natAbs ≠ 1 then Lib.decDigits t.1.natAbs else []) ++ (if t.2 = 1 then [] else 114 :: Lib.decDigits t.2.toNat)
def pieceN (b : Bool) (t : Int × Int) : List UInt8 := (if t.1 < 0 then [45] else if b then [] else [43]) ++ absT t
def piecesN : Bool → List (Int × Int) → List (List UInt8)
 | _, [] => []
 | b, t :: ts => pieceN b t :: piecesN false ts
def TermN (t : Int × Int) : Prop := t.1 ≠ 0 ∧ -100000 ≤ t.1 ∧ t.1 ≤ 100000 ∧ 1 ≤ t.2 ∧ t.2 ≤ 1000
theorem itoaSign (c : Int) : Lib.itoa c = (if c < 0 then [45] else []) ++ Lib.decDigits c.natAbs := by
 unfold Lib.itoa
 split
 ·rfl
 ·rw [show c.toNat = c.natAbs by omega]; rfl
theorem itoa_pos {c : Int} (h : 0 ≤ c) : Lib.itoa c = Lib.decDigits c.toNat := by
 unfold Lib.itoa
 rw [if_neg (by omega)]
theorem termT_abs {t : Int × Int} (h : TermN t) : termT t = (if t.1 < 0 then [45] else []) ++ absT t := by
 obtain ⟨c, r⟩ := t
 obtain ⟨h0, _, _, h3, _⟩ := h
 dsimp only at *
 unfold termT absT
 dsimp only
 by_cases hr : r = 1
 ·subst hr
  rw [if_pos rfl, if_pos (show (1 : Int) = 1 ∨ c.natAbs ≠ 1 from .inl rfl), if_pos rfl, itoaSign]; simp
 ·rw [if_neg hr, if_neg hr, itoa_pos (show 0 ≤ r by omega)]
  unfold coefT
  by_cases h1 : c = 1
  ·subst h1
   rw [if_pos rfl, if_neg (by omega), if_neg (by simp [hr])]; simp
  ·rw [if_neg h1]
   by_cases h2 : c = -1
   ·subst h2
    rw [if_pos rfl, if_pos (by omega), if_neg (by simp [hr])]; simp
   ·rw [if_neg h2, itoaSign, if_pos (show r = 1 ∨ c.natAbs ≠ 1 from .inr (by omega))]; simp
theorem sumT_pieces : ∀ (ts : List (Int × Int)) (b : Bool), (∀ t ∈ ts, TermN t) → sumT b ts = (piecesN b ts).flatten
 | [], b, _ => rfl
 | t :: ts, b, h => by
  have ht := h t (by simp)
  have ih := sumT_pieces ts false (fun u hu => h u (by simp [hu]))
  unfold sumT piecesN
  rw [List.flatten_cons, ih, termT_abs ht]
  unfold pieceN
  obtain ⟨h0, _⟩ := ht
  by_cases hn : t.1 < 0
  ·rw [if_neg (by omega), if_pos hn, if_pos hn]; simp
  ·cases b
   ·rw [if_pos ⟨rfl, by omega⟩, if_neg hn, if_neg hn]; simp
   ·rw [if_neg (by simp), if_neg hn, if_neg hn]; simp
theorem dec_no {c : UInt8} (h : c.toNat < 48 ∨ 57 < c.toNat) (u : Nat) : c ∉ Lib.decDigits u := fun hm => by
 have := dec_dig u c hm; omega
theorem absT_no {c : UInt8} (h : c.toNat < 48 ∨ 57 < c.toNat) (h2 : c ≠ 114) (t : Int × Int) : c ∉ absT t := by
 unfold absT
 intro hm
 rcases List.mem_append.1 hm with hm | hm
 ·split at hm
  ·exact dec_no h _ hm
  ·cases hm
 ·split at hm
  ·cases hm
  ·rcases List.mem_cons.1 hm with hm | hm
   ·exact h2 hm
   ·exact dec_no h _ hm
theorem absT_ne (t : Int × Int) : absT t ≠ [] := by
 unfold absT
 by_cases h : t.2 = 1
 ·rw [if_pos (.inl h)]
  have := dec_ne t.1.natAbs
  simp [this]
 ·rw [if_neg h]; simp
theorem absT_head (t : Int × Int) : ∃ x l, absT t = x :: l ∧ x ≠ 43 ∧ x ≠ 45 ∧ x ≠ 40 ∧ x ≠ 41 ∧ 43 ∉ l ∧ 45 ∉ l := by
 have h43 := absT_no (c := 43) (by decide) (by decide) t
 have h45 := absT_no (c := 45) (by decide) (by decide) t
 have h40 := absT_no (c := 40) (by decide) (by decide) t
 have h41 := absT_no (c := 41) (by decide) (by decide) t
 cases h : absT t with
 | nil => exact absurd h (absT_ne t)
 | cons x l =>
  rw [h] at h43 h45 h40 h41
  simp only [List.mem_cons, not_or] at h43 h45 h40 h41
  exact ⟨x, l, rfl, fun e => h43.1 e.symm, fun e => h45.1 e.symm, fun e => h40.1 e.symm, fun e => h41.1 e.symm, h43.2, h45.2⟩
theorem signP_piece {b : Bool} {t : Int × Int} (h : t.1 ≠ 0) : signP (pieceN b t) = (if t.1 < 0 then -1 else 1, absT t) := by
 obtain ⟨x, l, hx, h1, h2, _⟩ := absT_head t
 unfold pieceN signP Lib.hasPrefix
 by_cases hn : t.1 < 0
 ·simp [hn]
 ·cases b
  ·simp [hn]
  ·rw [if_neg hn, hx]
   simp [h1, h2, Ne.symm h1, Ne.symm h2, hn]
theorem termP_piece {b : Bool} {t : Int × Int} (h : TermN t) : termP (pieceN b t) = (t, true) := by
 obtain ⟨c, r⟩ := t
 obtain ⟨h0, h1, h2, h3, h4⟩ := h
 dsimp only at h0 h1 h2 h3 h4
 have hs := signP_piece (b := b) (t := (c, r)) h0
 have hd1 := digS_dec (u := c.natAbs) (by omega)
 have hd2 := digS_dec (u := r.toNat) (by omega)
 have hm : (c.natAbs : Int) * (if c < 0 then -1 else 1) = c := by split <;> omega
 unfold termP
 rw [hs]
 dsimp only
 unfold absT
 dsimp only
 by_cases hr : r = 1
 ·subst hr
  rw [if_pos (.inl rfl), if_pos rfl, List.append_nil, cut_no (dec_no (by decide) _)]
  dsimp only
  unfold coefP rootQ
  rw [if_pos (.inl (dec_ne _)), hd1]
  simp [hm]
 ·rw [if_neg hr]
  by_cases hc : c.natAbs ≠ 1
  ·rw [if_pos (.inr hc), cut_app (dec_no (by decide) _)]
   dsimp only
   unfold coefP rootQ
   rw [if_pos (.inl (dec_ne _)), hd1]
   simp only [if_true, and_self, hd2, hm]
   rw [show ((r.toNat : Nat) : Int) = r by omega]
  ·rw [if_neg (by simp [hr]; omega), cut_app (A := []) (by simp)]
   dsimp only
   unfold coefP rootQ
   rw [if_neg (by simp)]
   simp only [if_true, and_self, hd2]
   rw [show ((r.toNat : Nat) : Int) = r by omega]
   have : (1 : Int) * (if c < 0 then -1 else 1) = c := by split <;> omega
   rw [this]
theorem any_app {cs : List UInt8} {y : UInt8} {R : List UInt8} (hy : cs.contains y = true) : ∀ {A : List UInt8}, (∀ b ∈ A, cs.contains b = false) → Lib.indexAny (A ++ y :: R) cs = (A.length : Int)
 | [], _ => by rw [List.nil_append, Lib.indexAny, if_pos hy]; rfl
 | x :: A, h => by
  have ih := any_app (R := R) hy (A := A) (fun b hb => h b (by simp [hb]))
  rw [List.cons_append, Lib.indexAny, if_neg (by rw [h x (by simp)]; decide), ih]
  have h1 : ((A.length : Int) == -1) = false := beq_eq_false_iff_ne.2 (by omega)
  rw [h1]
  simp
theorem any_no {cs : List UInt8} : ∀ {A : List UInt8}, (∀ b ∈ A, cs.contains b = false) → Lib.indexAny A cs = -1
 | [], _ => rfl
 | x :: A, h => by
  rw [Lib.indexAny, if_neg (by rw [h x (by simp)]; decide), any_no (fun b hb => h b (by simp [hb]))]
  rfl
theorem piece_cons (b : Bool) (t : Int × Int) : ∃ x l, pieceN b t = x :: l ∧ (∀ y ∈ l, ([43, 45] : List UInt8).contains y = false) ∧ (b = false → ([43, 45] : List UInt8).contains x = true) := by
 obtain ⟨x, l, hx, h1, h2, _, _, h3, h4⟩ := absT_head t
 have hl : ∀ y ∈ l, ([43, 45] : List UInt8).contains y = false := fun y hy => by
  have e1 : y ≠ 43 := fun e => h3 (e ▸ hy)
  have e2 : y ≠ 45 := fun e => h4 (e ▸ hy)
  simp [e1, e2]
 have hxl : ∀ y ∈ x :: l, ([43, 45] : List UInt8).contains y = false := fun y hy => by
  rcases List.mem_cons.1 hy with rfl | hy
  ·simp [h1, h2]
  ·exact hl y hy
 unfold pieceN
 rw [hx]
 by_cases hn : t.1 < 0
 ·rw [if_pos hn]
  exact ⟨45, x :: l, rfl, hxl, fun _ => by decide⟩
 ·rw [if_neg hn]
  cases b
  ·exact ⟨43, x :: l, rfl, hxl, fun _ => by decide⟩
  ·exact ⟨x, l, rfl, hl, fun h => by cases h⟩
theorem partsP_pieces : ∀ (ts : List (Int × Int)) (b : Bool), partsP (piecesN b ts).flatten = piecesN b ts
 | [], b => rfl
 | t :: ts, b => by
  have ih := partsP_pieces ts false
  obtain ⟨x, l, hp, hl, _⟩ := piece_cons b t
  have hlen : cutAt ((piecesN b (t :: ts)).flatten) = (pieceN b t).length := by
   unfold piecesN cutAt
   rw [List.flatten_cons, hp, List.cons_append, List.tail_cons]
   cases ts with
   | nil =>
    unfold piecesN
    rw [List.flatten_nil, List.append_nil, any_no hl, if_pos (by decide)]
   | cons u ts =>
    obtain ⟨y, m, hq, _, hy⟩ := piece_cons false u
    unfold piecesN
    rw [List.flatten_cons, hq, List.cons_append, any_app (hy rfl) hl, if_neg (by omega)]
    simp <;> omega
  have hne : (piecesN b (t :: ts)).flatten ≠ [] := by
   unfold piecesN
   rw [List.flatten_cons, hp]; simp
  rw [partsP_cons hne, hlen]
  unfold piecesN
  rw [List.flatten_cons, List.take_left', List.drop_left', ih] <;> rfl
theorem okP_pieces : ∀ (ts : List (Int × Int)) (b : Bool), (∀ t ∈ ts, TermN t) → okP (piecesN b ts) = true
 | [], _, _ => rfl
 | t :: ts, b, h => by
  have ih := okP_pieces ts false (fun u hu => h u (by simp [hu]))
  unfold okP at *
  unfold piecesN
  rw [List.all_cons, ih, termP_piece (h t (by simp))]; rfl
theorem tsP_pieces : ∀ (ts : List (Int × Int)) (b : Bool), (∀ t ∈ ts, TermN t) → tsP (piecesN b ts) = ts
 | [], _, _ => rfl
 | t :: ts, b, h => by
  have ih := tsP_pieces ts false (fun u hu => h u (by simp [hu]))
  have ht := h t (by simp)
  unfold tsP at *
  unfold piecesN
  rw [List.map_cons, termP_piece ht, List.filter_cons_of_pos, ih]
  have : t ≠ ((0 : Int), (1 : Int)) := fun e => ht.1 (by rw [e])
  simpa using this
theorem trim_par {m : List UInt8} {cs : List UInt8} (h : ∀ x l, m = x :: l → cs.contains x = false) (h2 : ∀ l x, m = l ++ [x] → cs.contains x = false) : Lib.trimS m cs = m := by
 have key : ∀ l : List UInt8, (∀ x t, l = x :: t → cs.contains x = false) → l.dropWhile (cs.contains ·) = l := fun l hl => by
  cases l with
  | nil => rfl
  | cons x t => rw [List.dropWhile_cons, if_neg (by rw [hl x t rfl]; decide)]
 unfold Lib.trimS Lib.trimLeftS Lib.trimRightS
 rw [key m.reverse (fun x t e => h2 t.reverse x (by have := congrArg List.reverse e; simpa using this)), List.reverse_reverse, key m h]
theorem trim_in {m : List UInt8} (h : ∀ x l, m = x :: l → ([40, 41] : List UInt8).contains x = false) (h2 : ∀ l x, m = l ++ [x] → ([40, 41] : List UInt8).contains x = false) (hm : m ≠ []) : Lib.trimS (40 :: (m ++ [41])) [40, 41] = m := by
 have h3 := trim_par (cs := [40, 41]) h h2
 unfold Lib.trimS Lib.trimLeftS Lib.trimRightS at *
 have e1 : (40 :: (m ++ [41])).reverse = 41 :: (m.reverse ++ [40]) := by simp
 rw [e1, List.dropWhile_cons, if_pos (by decide)]
 have hr : ∀ x t, m.reverse = x :: t → ([40, 41] : List UInt8).contains x = false := fun x t e => h2 t.reverse x (by have := congrArg List.reverse e; simpa using this)
 have hrn : m.reverse ≠ [] := by simpa using hm
 have e2 : (m.reverse ++ [40]).dropWhile (([40, 41] : List UInt8).contains ·) = m.reverse ++ [40] := by
  cases hc : m.reverse with
  | nil => exact absurd hc hrn
  | cons x t => rw [List.cons_append, List.dropWhile_cons, if_neg (by rw [hr x t hc]; decide)]
 rw [e2, List.reverse_append, List.reverse_reverse]
 show (40 :: m).dropWhile _ = m
 rw [List.dropWhile_cons, if_pos (by decide)]
 cases hc : m with
 | nil => exact absurd hc hm
 | cons x t => rw [List.dropWhile_cons, if_neg (by rw [h x t hc]; decide)]
theorem no_par {ts : List (Int × Int)} {b : Bool} {c : UInt8} (hc : c.toNat < 48 ∨ 57 < c.toNat) (h1 : c ≠ 114) (h2 : c ≠ 43) (h3 : c ≠ 45) : c ∉ (piecesN b ts).flatten := by
 induction ts generalizing b with
 | nil => simp [piecesN]
 | cons t ts ih =>
  unfold piecesN
  rw [List.flatten_cons, List.mem_append, not_or]
  refine ⟨?_, ih⟩
  unfold pieceN
  rw [List.mem_append, not_or]
  refine ⟨?_, absT_no hc h1 t⟩
  split
  ·simpa using h3
  ·split
   ·simp
   ·simpa using h2
theorem trim_sum {ts : List (Int × Int)} {b : Bool} : Lib.trimS (piecesN b ts).flatten [40, 41] = (piecesN b ts).flatten := by
 have h40 := no_par (ts := ts) (b := b) (c := 40) (by decide) (by decide) (by decide) (by decide)
 have h41 := no_par (ts := ts) (b := b) (c := 41) (by decide) (by decide) (by decide) (by decide)
 have key : ∀ x, x ∈ (piecesN b ts).flatten → ([40, 41] : List UInt8).contains x = false := fun x hx => by
  have e1 : x ≠ 40 := fun e => h40 (e ▸ hx)
  have e2 : x ≠ 41 := fun e => h41 (e ▸ hx)
  simp [e1, e2]
 exact trim_par (fun x l e => key x (by rw [e]; simp)) (fun l x e => key x (by rw [e]; simp))
theorem trim_sum2 {ts : List (Int × Int)} {b : Bool} (hne : (piecesN b ts).flatten ≠ []) : Lib.trimS (40 :: ((piecesN b ts).flatten ++ [41])) [40, 41] = (piecesN b ts).flatten := by
 have h40 := no_par (ts := ts) (b := b) (c := 40) (by decide) (by decide) (by decide) (by decide)
 have h41 := no_par (ts := ts) (b := b) (c := 41) (by decide) (by decide) (by decide) (by decide)
 have key : ∀ x, x ∈ (piecesN b ts).flatten → ([40, 41] : List UInt8).contains x = false := fun x hx => by
  have e1 : x ≠ 40 := fun e => h40 (e ▸ hx)
  have e2 : x ≠ 41 := fun e => h41 (e ▸ hx)
  simp [e1, e2]
 exact trim_in (fun x l e => key x (by rw [e]; simp)) (fun l x e => key x (by rw [e]; simp)) hne
theorem absT_len {t : Int × Int} (h : TermN t) : (absT t).length ≤ 11 := by
 obtain ⟨_, h1, h2, h3, h4⟩ := h
 have g1 := dec_len 5 t.1.natAbs (by omega)
 have g2 := dec_len 3 t.2.toNat (by omega)
 unfold absT
 rw [List.length_append]
 split <;> split <;> simp <;> omega
theorem pieces_len : ∀ (ts : List (Int × Int)) (b : Bool), (∀ t ∈ ts, TermN t) → (piecesN b ts).flatten.length ≤ 12 * ts.length
 | [], b, _ => by simp [piecesN]
 | t :: ts, b, h => by
  have ih := pieces_len ts false (fun u hu => h u (by simp [hu]))
  have h1 := absT_len (h t (by simp))
  have hsg : (if t.1 < 0 then [(45 : UInt8)] else if b then [] else [43]).length ≤ 1 := by
   split
   ·simp
   ·split <;> simp
  unfold piecesN pieceN
  rw [List.flatten_cons, List.length_append, List.length_append, List.length_cons]
  omega
theorem numOK_termN {xd : Int} {xt : List (Int × Int)} (h : numOK xd xt = true) : ∀ t ∈ xt, TermN t := fun t ht => by
 obtain ⟨a1, a2, a3, a4⟩ := ((numOK_parts h).2.2.2 t ht).1
 exact ⟨a3, a4.1, a4.2, a1, a2⟩
theorem parse_text {xd : Int} {xt : List (Int × Int)} (h : numOK xd xt = true) : parseN (numT xd xt) = (xd, xt, 0) ∧ (numT xd xt).length ≤ 64 := by
 obtain ⟨p1, p2, p3, p4⟩ := numOK_parts h
 have hT := numOK_termN h
 have hsum := sumT_pieces xt true hT
 have hlen := pieces_len xt true hT
 have hdl := dec_len 5 xd.toNat (by omega)
 have hxd : Lib.itoa xd = Lib.decDigits xd.toNat := itoa_pos (by omega)
 have h47 := no_par (ts := xt) (b := true) (c := 47) (by decide) (by decide) (by decide) (by decide)
 have key : psP (numT xd xt) = (if xt = [] then [[48]] else piecesN true xt) ∧ denP (numT xd xt) = xd ∧ (numT xd xt).length ≤ 64 := by
  unfold psP denP numT
  by_cases h0 : xt = []
  ·subst h0
   have hx1 : xd = 1 := by
    unfold numOK at h
    simp only [Bool.and_eq_true, decide_eq_true_eq] at h
    have h1 := h.2
    have h2 : (gcdL [xd] : Nat) = xd.natAbs := by unfold gcdL; simp
    rw [List.map_nil, h2] at h1
    omega
   rw [if_pos rfl, if_pos rfl, hx1]
   refine ⟨by decide +kernel, by decide +kernel, by decide⟩
  ·rw [if_neg h0, if_neg h0, hsum]
   have hne : (piecesN true xt).flatten ≠ [] := by
    cases xt with
    | nil => exact absurd rfl h0
    | cons t ts =>
     obtain ⟨x, l, hp, _⟩ := piece_cons true t
     unfold piecesN
     rw [List.flatten_cons, hp]; simp
   by_cases h1 : xd = 1
   ·rw [if_pos h1, cut_no h47]
    dsimp only
    rw [trim_sum, partsP_pieces]
    exact ⟨rfl, by simp [h1], by omega⟩
   ·rw [if_neg h1, hxd]
    by_cases h2 : 1 < xt.length
    ·rw [if_pos h2]
     have e : [40] ++ (piecesN true xt).flatten ++ [41, 47] ++ Lib.decDigits xd.toNat = (40 :: ((piecesN true xt).flatten ++ [41])) ++ 47 :: Lib.decDigits xd.toNat := by simp
     rw [e, cut_app (by simp [h47])]
     dsimp only
     rw [trim_sum2 hne, partsP_pieces, digS_dec (by omega)]
     refine ⟨rfl, by simp; omega, ?_⟩
     generalize (piecesN true xt).flatten = F at hlen ⊢
     simp; omega
    ·rw [if_neg h2]
     have e : (piecesN true xt).flatten ++ [47] ++ Lib.decDigits xd.toNat = (piecesN true xt).flatten ++ 47 :: Lib.decDigits xd.toNat := by simp
     rw [e, cut_app h47]
     dsimp only
     rw [trim_sum, partsP_pieces, digS_dec (by omega)]
     refine ⟨rfl, by simp; omega, ?_⟩
     generalize (piecesN true xt).flatten = F at hlen ⊢
     simp; omega
 obtain ⟨k1, k2, k3⟩ := key
 refine ⟨?_, k3⟩
 unfold parseN
 rw [k1, k2, if_neg (by omega)]
 by_cases h0 : xt = []
 ·subst h0
  rw [if_pos rfl, if_neg (by decide +kernel), if_pos ⟨h, rfl⟩]
  have : tsP [[48]] = [] := by decide +kernel
  rw [this]
 ·rw [if_neg h0, okP_pieces _ _ hT, tsP_pieces _ _ hT, if_neg (by decide), if_pos ⟨h, rfl⟩]
end Go.Proofs.YthkblgglmohciaaGreatDoor
namespace Go.Proofs.YthkblgglmohciaaGreatDoor
open Go Go.RowKit
structure RdS where
 ts : List (Int × Int)
 den : Int
 co : Int
 ro : Int
 sg : Int
 dg : Nat
 rt : Bool
 dn : Bool
def addD (v : Int) (c : Nat) : Int := wrap64 (wrap64 (10 * v) + ((c : Int) - 48))
def endT (S : RdS) : List (Int × Int) := if S.dn = false ∧ (0 < S.dg ∨ S.rt = true) then (if wrap64 (S.co * S.sg) = 0 then S.ts else S.ts ++ [(wrap64 (S.co * S.sg), S.ro)]) else S.ts
def sepB (c : Nat) : Bool := c == 41 || c == 43 || c == 45 || c == 47 || c == 0
def rdStep (first : Bool) (c : Nat) (S : RdS) : Option RdS :=
 if 48 ≤ c ∧ c ≤ 57 then
  if 6 < S.dg + 1 then none
  else if S.dn = true then some { S with den := addD S.den c, dg := S.dg + 1 }
  else if S.rt = true then some { S with ro := addD S.ro c, dg := S.dg + 1 }
  else some { S with co := addD S.co c, dg := S.dg + 1 }
 else if c = 114 ∧ S.dn = false ∧ S.rt = false then some { S with co := if S.dg = 0 then 1 else S.co, ro := 0, rt := true, dg := 0 }
 else if c = 40 ∧ first = true then some S
 else if sepB c = true then some ⟨endT S, if c = 47 then 0 else S.den, 0, 1, if c = 45 then -1 else 1, 0, false, S.dn || c == 47⟩
 else none
def rdRun : Bool → List Nat → RdS → Option RdS
 | _, [], S => some S
 | f, c :: cs, S => (rdStep f c S).bind (rdRun false cs)
def rdZero : RdS := ⟨[], 1, 0, 1, 1, 0, false, false⟩
def byteN (l : List UInt8) : List Nat := l.map (·.toNat)
theorem rdRun_cons (f : Bool) (c : Nat) (cs : List Nat) (S : RdS) : rdRun f (c :: cs) S = (rdStep f c S).bind (rdRun false cs) := rfl
theorem rdRun_app : ∀ (a b : List Nat) (S S' : RdS), rdRun false a S = some S' → rdRun false (a ++ b) S = rdRun false b S'
 | [], b, S, S', h => by
  have : S = S' := by simpa [rdRun] using h
  rw [this]; rfl
 | c :: a, b, S, S', h => by
  rw [List.cons_append, rdRun_cons]
  rw [rdRun_cons] at h
  cases hs : rdStep false c S with
  | none => rw [hs] at h; cases h
  | some S1 =>
   rw [hs] at h
   exact rdRun_app a b S1 S' h
theorem rdRun_first {c : Nat} {cs : List Nat} {S : RdS} (h : c ≠ 40) : rdRun true (c :: cs) S = rdRun false (c :: cs) S := by
 have : rdStep true c S = rdStep false c S := by unfold rdStep; simp [h]
 rw [rdRun_cons, rdRun_cons, this]
def digV (v : Int) (d : List UInt8) : Int := d.foldl (fun (v : Int) (c : UInt8) => v * 10 + ((c.toNat - 48 : Nat) : Int)) v
theorem digV_dec (u : Nat) : digV 0 (Lib.decDigits u) = (u : Int) := decS_dec u
theorem addD_eq {v : Int} {c : Nat} (h : 0 ≤ v ∧ v ≤ 1000000) (hc : 48 ≤ c ∧ c ≤ 57) : addD v c = v * 10 + ((c - 48 : Nat) : Int) := by
 unfold addD wrap64
 omega
theorem digV_bd {v : Int} {k : Nat} {c : UInt8} (h : 0 ≤ v ∧ v < 10 ^ k) (hc : 48 ≤ c.toNat ∧ c.toNat ≤ 57) : 0 ≤ v * 10 + ((c.toNat - 48 : Nat) : Int) ∧ v * 10 + ((c.toNat - 48 : Nat) : Int) < 10 ^ (k + 1) := by
 rw [Int.pow_succ]
 generalize (10 : Int) ^ k = q at *
 omega
theorem pow6 {k : Nat} (h : k ≤ 6) : (10 : Int) ^ k ≤ 1000000 := by
 have : (10 : Nat) ^ k ≤ 10 ^ 6 := Nat.pow_le_pow_right (by decide) h
 have h2 : ((10 ^ k : Nat) : Int) ≤ ((10 ^ 6 : Nat) : Int) := by exact_mod_cast this
 have h3 : ((10 ^ k : Nat) : Int) = (10 : Int) ^ k := by norm_cast
 rw [h3] at h2
 exact h2
theorem run_co : ∀ (d : List UInt8) (S : RdS), (∀ c ∈ d, 48 ≤ c.toNat ∧ c.toNat ≤ 57) → S.dn = false → S.rt = false → (0 ≤ S.co ∧ S.co < 10 ^ S.dg) → S.dg + d.length ≤ 6 →
  rdRun false (byteN d) S = some { S with co := digV S.co d, dg := S.dg + d.length }
 | [], S, _, _, _, _, _ => rfl
 | c :: d, S, hd, h1, h2, h3, h4 => by
  have hc := hd c (by simp)
  rw [List.length_cons] at h4
  have hp := pow6 (k := S.dg) (by omega)
  have e : rdStep false c.toNat S = some { S with co := S.co * 10 + ((c.toNat - 48 : Nat) : Int), dg := S.dg + 1 } := by
   unfold rdStep
   rw [if_pos hc, if_neg (by omega), if_neg (by rw [h1]; decide), if_neg (by rw [h2]; decide), addD_eq (by omega) hc]
  show rdRun false (c.toNat :: byteN d) S = _
  rw [rdRun_cons, e]
  show rdRun false (byteN d) _ = _
  rw [run_co d { S with co := S.co * 10 + ((c.toNat - 48 : Nat) : Int), dg := S.dg + 1 } (fun x hx => hd x (by simp [hx])) h1 h2 (digV_bd h3 hc) (by show S.dg + 1 + d.length ≤ 6; omega)]
  simp only [Option.some.injEq, RdS.mk.injEq, true_and, and_true]
  exact ⟨rfl, by rw [List.length_cons]; omega⟩
theorem run_ro : ∀ (d : List UInt8) (S : RdS), (∀ c ∈ d, 48 ≤ c.toNat ∧ c.toNat ≤ 57) → S.dn = false → S.rt = true → (0 ≤ S.ro ∧ S.ro < 10 ^ S.dg) → S.dg + d.length ≤ 6 →
  rdRun false (byteN d) S = some { S with ro := digV S.ro d, dg := S.dg + d.length }
 | [], S, _, _, _, _, _ => rfl
 | c :: d, S, hd, h1, h2, h3, h4 => by
  have hc := hd c (by simp)
  rw [List.length_cons] at h4
  have hp := pow6 (k := S.dg) (by omega)
  have e : rdStep false c.toNat S = some { S with ro := S.ro * 10 + ((c.toNat - 48 : Nat) : Int), dg := S.dg + 1 } := by
   unfold rdStep
   rw [if_pos hc, if_neg (by omega), if_neg (by rw [h1]; decide), if_pos h2, addD_eq (by omega) hc]
  show rdRun false (c.toNat :: byteN d) S = _
  rw [rdRun_cons, e]
  show rdRun false (byteN d) _ = _
  rw [run_ro d { S with ro := S.ro * 10 + ((c.toNat - 48 : Nat) : Int), dg := S.dg + 1 } (fun x hx => hd x (by simp [hx])) h1 h2 (digV_bd h3 hc) (by show S.dg + 1 + d.length ≤ 6; omega)]
  simp only [Option.some.injEq, RdS.mk.injEq, true_and, and_true]
  exact ⟨rfl, by rw [List.length_cons]; omega⟩
theorem run_den : ∀ (d : List UInt8) (S : RdS), (∀ c ∈ d, 48 ≤ c.toNat ∧ c.toNat ≤ 57) → S.dn = true → (0 ≤ S.den ∧ S.den < 10 ^ S.dg) → S.dg + d.length ≤ 6 →
  rdRun false (byteN d) S = some { S with den := digV S.den d, dg := S.dg + d.length }
 | [], S, _, _, _, _ => rfl
 | c :: d, S, hd, h1, h3, h4 => by
  have hc := hd c (by simp)
  rw [List.length_cons] at h4
  have hp := pow6 (k := S.dg) (by omega)
  have e : rdStep false c.toNat S = some { S with den := S.den * 10 + ((c.toNat - 48 : Nat) : Int), dg := S.dg + 1 } := by
   unfold rdStep
   rw [if_pos hc, if_neg (by omega), if_pos h1, addD_eq (by omega) hc]
  show rdRun false (c.toNat :: byteN d) S = _
  rw [rdRun_cons, e]
  show rdRun false (byteN d) _ = _
  rw [run_den d { S with den := S.den * 10 + ((c.toNat - 48 : Nat) : Int), dg := S.dg + 1 } (fun x hx => hd x (by simp [hx])) h1 (digV_bd h3 hc) (by show S.dg + 1 + d.length ≤ 6; omega)]
  simp only [Option.some.injEq, RdS.mk.injEq, true_and, and_true]
  exact ⟨rfl, by rw [List.length_cons]; omega⟩
structure OpenS (S : RdS) (ts : List (Int × Int)) (t : Int × Int) (den : Int) : Prop where
 ts_ : S.ts = ts
 den_ : S.den = den
 dn : S.dn = false
 co : wrap64 (S.co * S.sg) = t.1
 ro : S.ro = t.2
 any : 0 < S.dg ∨ S.rt = true
def zS (ts : List (Int × Int)) (den sg : Int) (dn : Bool) : RdS := ⟨ts, den, 0, 1, sg, 0, false, dn⟩
theorem OpenS.sep {S : RdS} {ts : List (Int × Int)} {t : Int × Int} {den : Int} (h : OpenS S ts t den) (h0 : t.1 ≠ 0) {c : Nat} (hc : sepB c = true) : rdStep false c S = some (zS (ts ++ [t]) (if c = 47 then 0 else den) (if c = 45 then -1 else 1) (c == 47)) := by
 obtain ⟨h1, h2, h3, h4, h5, h6⟩ := h
 have hc2 : c = 41 ∨ c = 43 ∨ c = 45 ∨ c = 47 ∨ c = 0 := by
  unfold sepB at hc
  simp only [Bool.or_eq_true, beq_iff_eq] at hc
  omega
 unfold rdStep
 rw [if_neg (by omega), if_neg (by omega), if_neg (by simp), if_pos hc]
 unfold endT
 rw [if_pos ⟨h3, h6⟩, h4, if_neg h0, h5, h1, h2, h3]
 simp [zS]
theorem sep_empty {ts : List (Int × Int)} {den sg : Int} {c : Nat} (f : Bool) (hc : sepB c = true) : rdStep f c (zS ts den sg false) = some (zS ts (if c = 47 then 0 else den) (if c = 45 then -1 else 1) (c == 47)) := by
 have hc2 : c = 41 ∨ c = 43 ∨ c = 45 ∨ c = 47 ∨ c = 0 := by
  unfold sepB at hc
  simp only [Bool.or_eq_true, beq_iff_eq] at hc
  omega
 unfold rdStep
 rw [if_neg (by omega), if_neg (by omega), if_neg (by omega), if_pos hc]
 simp [zS, endT]
theorem byteN_app (a b : List UInt8) : byteN (a ++ b) = byteN a ++ byteN b := by simp [byteN]
theorem byteN_cons (a : UInt8) (b : List UInt8) : byteN (a :: b) = a.toNat :: byteN b := rfl
theorem run_abs {t : Int × Int} (ht : TermN t) {ts : List (Int × Int)} {den sg : Int} (hsg : sg = if t.1 < 0 then -1 else 1) : ∃ S, rdRun false (byteN (absT t)) (zS ts den sg false) = some S ∧ OpenS S ts t den := by
 obtain ⟨c, r⟩ := t
 obtain ⟨h0, h1, h2, h3, h4⟩ := ht
 dsimp only at *
 have l1 := dec_len 5 c.natAbs (by omega)
 have l2 := dec_len 3 r.toNat (by omega)
 have n1 := List.length_pos_iff.2 (dec_ne c.natAbs)
 have n2 := List.length_pos_iff.2 (dec_ne r.toNat)
 have hcs : wrap64 ((c.natAbs : Int) * sg) = c := by
  subst hsg
  unfold wrap64
  split <;> omega
 have k1 := run_co (Lib.decDigits c.natAbs) (zS ts den sg false) (dec_dig _) rfl rfl (by simp [zS]) (by simp [zS]; omega)
 have v1 : digV (zS ts den sg false).co (Lib.decDigits c.natAbs) = (c.natAbs : Int) := digV_dec _
 rw [v1] at k1
 unfold absT
 dsimp only
 by_cases hr : r = 1
 ·subst hr
  rw [if_pos (.inl rfl), if_pos rfl, List.append_nil, k1]
  exact ⟨_, rfl, rfl, rfl, rfl, hcs, rfl, .inl (by simp [zS]; omega)⟩
 ·rw [if_neg hr]
  have key : ∀ (X : RdS), X.dn = false → X.rt = true → X.ro = 0 → X.dg = 0 → X.ts = ts → X.den = den → wrap64 (X.co * X.sg) = c → ∃ S, rdRun false (byteN (Lib.decDigits r.toNat)) X = some S ∧ OpenS S ts (c, r) den := fun X g1 g2 g3 g4 g5 g6 g7 => by
   have k2 := run_ro (Lib.decDigits r.toNat) X (dec_dig _) g1 g2 (by rw [g3, g4]; simp) (by rw [g4]; omega)
   have v2 : digV X.ro (Lib.decDigits r.toNat) = (r.toNat : Int) := by rw [g3]; exact digV_dec _
   rw [v2] at k2
   exact ⟨_, k2, g5, g6, g1, g7, by show ((r.toNat : Nat) : Int) = r; omega, .inr g2⟩
  by_cases hc : c.natAbs ≠ 1
  ·rw [if_pos (.inr hc), byteN_app, rdRun_app _ _ _ _ k1, byteN_cons, rdRun_cons]
   have e : rdStep false (114 : UInt8).toNat { zS ts den sg false with co := (c.natAbs : Int), dg := (zS ts den sg false).dg + (Lib.decDigits c.natAbs).length } = some { zS ts den sg false with co := (c.natAbs : Int), ro := 0, rt := true, dg := 0 } := by
    unfold rdStep
    rw [if_neg (by decide), if_pos ⟨rfl, rfl, rfl⟩]
    dsimp only
    rw [if_neg (by simp [zS]; exact dec_ne _)]
   rw [e]
   exact key _ rfl rfl rfl rfl rfl rfl hcs
  ·rw [if_neg (by simp [hr]; omega), List.nil_append, byteN_cons, rdRun_cons]
   have e : rdStep false (114 : UInt8).toNat (zS ts den sg false) = some { zS ts den sg false with co := 1, ro := 0, rt := true, dg := 0 } := by
    unfold rdStep
    rw [if_neg (by decide), if_pos ⟨rfl, rfl, rfl⟩]
    simp [zS]
   rw [e]
   have hc1 : (c.natAbs : Int) = 1 := by omega
   rw [hc1] at hcs
   exact key _ rfl rfl rfl rfl rfl rfl hcs
theorem run_rest : ∀ (ts : List (Int × Int)) (S : RdS) (us : List (Int × Int)) (u : Int × Int) (den : Int), OpenS S us u den → u.1 ≠ 0 → (∀ t ∈ ts, TermN t) →
  ∃ S' vs v, vs ++ [v] = us ++ [u] ++ ts ∧ v.1 ≠ 0 ∧ rdRun false (byteN (piecesN false ts).flatten) S = some S' ∧ OpenS S' vs v den
 | [], S, us, u, den, h, h0, _ => ⟨S, us, u, by simp, h0, rfl, h⟩
 | t :: ts, S, us, u, den, h, h0, ht => by
  have htn := ht t (by simp)
  obtain ⟨S1, hr, ho⟩ := run_abs htn (ts := us ++ [u]) (den := den) (sg := if t.1 < 0 then -1 else 1) rfl
  obtain ⟨S', vs, v, e1, e2, e3, e4⟩ := run_rest ts S1 (us ++ [u]) t den ho htn.1 (fun x hx => ht x (by simp [hx]))
  refine ⟨S', vs, v, by rw [e1]; simp, e2, ?_, e4⟩
  have hfl : (piecesN false (t :: ts)).flatten = (if t.1 < 0 then (45 : UInt8) else 43) :: (absT t ++ (piecesN false ts).flatten) := by
   show (pieceN false t :: piecesN false ts).flatten = _
   unfold pieceN
   rw [List.flatten_cons]
   split <;> simp
  rw [hfl, byteN_cons, rdRun_cons]
  have hstep : rdStep false (if t.1 < 0 then (45 : UInt8) else 43).toNat S = some (zS (us ++ [u]) den (if t.1 < 0 then -1 else 1) false) := by
   by_cases hn : t.1 < 0
   ·rw [if_pos hn, if_pos hn]
    exact h.sep h0 (c := 45) rfl
   ·rw [if_neg hn, if_neg hn]
    exact h.sep h0 (c := 43) rfl
  rw [hstep]
  show rdRun false (byteN (absT t ++ _)) _ = _
  rw [byteN_app, rdRun_app _ _ _ _ hr]
  exact e3
theorem run_sum {t : Int × Int} {ts : List (Int × Int)} (h : ∀ u ∈ t :: ts, TermN u) : ∃ S vs v, vs ++ [v] = t :: ts ∧ v.1 ≠ 0 ∧ rdRun false (byteN (piecesN true (t :: ts)).flatten) (zS [] 1 1 false) = some S ∧ OpenS S vs v 1 := by
 have htn := h t (by simp)
 obtain ⟨S1, hr, ho⟩ := run_abs htn (ts := []) (den := 1) (sg := if t.1 < 0 then -1 else 1) rfl
 obtain ⟨S', vs, v, e1, e2, e3, e4⟩ := run_rest ts S1 [] t 1 ho htn.1 (fun x hx => h x (by simp [hx]))
 refine ⟨S', vs, v, by rw [e1]; simp, e2, ?_, e4⟩
 have hfl : (piecesN true (t :: ts)).flatten = (if t.1 < 0 then [(45 : UInt8)] else []) ++ (absT t ++ (piecesN false ts).flatten) := by
  show (pieceN true t :: piecesN false ts).flatten = _
  unfold pieceN
  rw [List.flatten_cons]
  split <;> simp
 rw [hfl]
 by_cases hn : t.1 < 0
 ·rw [if_pos hn] at hr ⊢
  rw [List.singleton_append, byteN_cons, rdRun_cons]
  have := sep_empty (ts := []) (den := 1) (sg := 1) (c := 45) false rfl
  rw [show (45 : UInt8).toNat = 45 from rfl, this]
  show rdRun false (byteN (absT t ++ _)) _ = _
  rw [byteN_app]
  have hr2 : rdRun false (byteN (absT t)) (zS [] (if 45 = 47 then 0 else 1) (if 45 = 45 then -1 else 1) (45 == 47)) = some S1 := hr
  rw [rdRun_app _ _ _ _ hr2]
  exact e3
 ·rw [if_neg hn] at hr ⊢
  rw [List.nil_append, byteN_app, rdRun_app _ _ _ _ hr]
  exact e3
theorem run_over {xd : Nat} (hx : xd ≤ 100000) (ts : List (Int × Int)) (sg : Int) : ∃ S, rdRun false (byteN (Lib.decDigits xd) ++ [0]) (zS ts 0 sg true) = some S ∧ S.ts = ts ∧ S.den = (xd : Int) := by
 have l1 := dec_len 5 xd (by omega)
 have k1 := run_den (Lib.decDigits xd) (zS ts 0 sg true) (dec_dig _) rfl (by simp [zS]) (by simp [zS]; omega)
 have v1 : digV (zS ts 0 sg true).den (Lib.decDigits xd) = (xd : Int) := digV_dec _
 rw [v1] at k1
 rw [rdRun_app _ _ _ _ k1, rdRun_cons]
 refine ⟨_, rfl, ?_, ?_⟩
 ·simp [endT, zS]
 ·simp [zS]
theorem no40 {ts : List (Int × Int)} {b : Bool} {cs : List Nat} {S : RdS} (hne : (piecesN b ts).flatten ≠ []) : rdRun true (byteN (piecesN b ts).flatten ++ cs) S = rdRun false (byteN (piecesN b ts).flatten ++ cs) S := by
 have h40 := no_par (ts := ts) (b := b) (c := 40) (by decide) (by decide) (by decide) (by decide)
 cases hc : (piecesN b ts).flatten with
 | nil => exact absurd hc hne
 | cons x l =>
  rw [hc] at h40
  simp only [List.mem_cons, not_or] at h40
  refine rdRun_first (c := x.toNat) (fun e => h40.1 ?_)
  rw [← UInt8.toNat_inj]; exact e.symm
theorem read_text {xd : Int} {xt : List (Int × Int)} (h : numOK xd xt = true) : ∃ S, rdRun true (byteN (numT xd xt) ++ [0]) rdZero = some S ∧ S.ts = xt ∧ S.den = xd := by
 obtain ⟨p1, p2, p3, p4⟩ := numOK_parts h
 have hT := numOK_termN h
 have hsum := sumT_pieces xt true hT
 have hxd : Lib.itoa xd = Lib.decDigits xd.toNat := itoa_pos (by omega)
 have hxn : ((xd.toNat : Nat) : Int) = xd := by omega
 unfold numT
 by_cases h0 : xt = []
 ·subst h0
  have hx1 : xd = 1 := by
   unfold numOK at h
   simp only [Bool.and_eq_true, decide_eq_true_eq] at h
   have h1 := h.2
   have h2 : (gcdL [xd] : Nat) = xd.natAbs := by unfold gcdL; simp
   rw [List.map_nil, h2] at h1
   omega
  rw [if_pos rfl, hx1]
  have e1 : addD 0 48 = 0 := by unfold addD wrap64; omega
  have e2 : rdRun true (byteN [48] ++ [0]) rdZero = some ⟨endT ⟨[], 1, addD 0 48, 1, 1, 1, false, false⟩, 1, 0, 1, 1, 0, false, false⟩ := rfl
  refine ⟨_, e2, ?_, rfl⟩
  dsimp only
  unfold endT
  rw [e1]
  simp [wrap64]
 ·rw [if_neg h0, hsum]
  obtain ⟨t, ts, rfl⟩ := List.exists_cons_of_ne_nil h0
  have hne : (piecesN true (t :: ts)).flatten ≠ [] := by
   obtain ⟨x, l, hp, _⟩ := piece_cons true t
   unfold piecesN
   rw [List.flatten_cons, hp]; simp
  obtain ⟨S, vs, v, e1, e2, e3, e4⟩ := run_sum hT
  by_cases h1 : xd = 1
  ·rw [if_pos h1, no40 hne]
   have e3' : rdRun false (byteN (piecesN true (t :: ts)).flatten) rdZero = some S := e3
   rw [rdRun_app _ _ _ _ e3', rdRun_cons, e4.sep e2 (c := 0) rfl]
   exact ⟨_, rfl, e1, h1.symm⟩
  ·rw [if_neg h1, hxd]
   obtain ⟨S2, g1, g2, g3⟩ := run_over (xd := xd.toNat) (by omega) (t :: ts) 1
   rw [hxn] at g3
   by_cases h2 : 1 < (t :: ts).length
   ·rw [if_pos h2]
    have e : byteN ([40] ++ (piecesN true (t :: ts)).flatten ++ [41, 47] ++ Lib.decDigits xd.toNat) ++ [0] = 40 :: (byteN (piecesN true (t :: ts)).flatten ++ (41 :: 47 :: (byteN (Lib.decDigits xd.toNat) ++ [0]))) := by simp [byteN]
    rw [e, rdRun_cons]
    have e5 : rdStep true 40 rdZero = some rdZero := rfl
    rw [e5]
    show ∃ S, rdRun false (byteN _ ++ _) rdZero = some S ∧ _
    have e3' : rdRun false (byteN (piecesN true (t :: ts)).flatten) rdZero = some S := e3
    rw [rdRun_app _ _ _ _ e3', rdRun_cons, e4.sep e2 (c := 41) rfl]
    show ∃ S, rdRun false (47 :: _) (zS (vs ++ [v]) 1 1 false) = some S ∧ _
    rw [rdRun_cons, sep_empty false (c := 47) rfl, e1]
    show ∃ S, rdRun false _ (zS (t :: ts) 0 1 true) = some S ∧ _
    exact ⟨S2, g1, g2, g3⟩
   ·rw [if_neg h2]
    have e : byteN ((piecesN true (t :: ts)).flatten ++ [47] ++ Lib.decDigits xd.toNat) ++ [0] = byteN (piecesN true (t :: ts)).flatten ++ (47 :: (byteN (Lib.decDigits xd.toNat) ++ [0])) := by simp [byteN]
    rw [e, no40 hne]
    have e3' : rdRun false (byteN (piecesN true (t :: ts)).flatten) rdZero = some S := e3
    rw [rdRun_app _ _ _ _ e3', rdRun_cons, e4.sep e2 (c := 47) rfl, e1]
    show ∃ S, rdRun false _ (zS (t :: ts) 0 1 true) = some S ∧ _
    exact ⟨S2, g1, g2, g3⟩
def readO (l : List UInt8) : Option RdS → Int × List (Int × Int) × Bool
 | none => (0, [], false)
 | some S => if numOK S.den S.ts = true ∧ numT S.den S.ts = l then (S.den, S.ts, true) else (0, [], false)
def readS (l : List UInt8) : Int × List (Int × Int) × Bool := readO l (rdRun true (byteN l ++ [0]) rdZero)
theorem read_parse (l : List UInt8) : (∃ d ts, numOK d ts = true ∧ numT d ts = l ∧ parseN l = (d, ts, 0) ∧ readS l = (d, ts, true) ∧ l.length ≤ 64) ∨ ((64 < l.length ∧ parseN l = (0, [], 5) ∨ l.length ≤ 64 ∧ parseN l = (0, [], 4)) ∧ readS l = (0, [], false)) := by
 by_cases h : ∃ d ts, numOK d ts = true ∧ numT d ts = l
 ·obtain ⟨d, ts, h1, h2⟩ := h
  left
  obtain ⟨g1, g2⟩ := parse_text h1
  obtain ⟨S, g3, g4, g5⟩ := read_text h1
  rw [h2] at g1 g2 g3
  refine ⟨d, ts, h1, h2, g1, ?_, g2⟩
  unfold readS
  rw [g3]
  unfold readO
  dsimp only
  rw [g4, g5, if_pos ⟨h1, h2⟩]
 ·right
  constructor
  ·unfold parseN
   by_cases h64 : 64 < l.length
   ·left; rw [if_pos h64]; exact ⟨h64, rfl⟩
   ·right
    rw [if_neg h64]
    refine ⟨by omega, ?_⟩
    split
    ·rfl
    ·rw [if_neg (fun e => h ⟨_, _, e.1, e.2⟩)]
  ·unfold readS readO
   split
   ·rfl
   ·rw [if_neg (fun e => h ⟨_, _, e.1, e.2⟩)]
end Go.Proofs.YthkblgglmohciaaGreatDoor
namespace Go.Proofs.YthkblgglmohciaaGreatDoor
open Go Go.RowKit
theorem dec_small {k : Nat} (h : k < 10) : Lib.decDigits k = [UInt8.ofNat (48 + k)] := by rw [Lib.decDigits, dif_pos h]
theorem dec_big {k : Nat} (h : ¬ k < 10) : Lib.decDigits k = Lib.decDigits (k / 10) ++ Lib.decDigits (k % 10) := by
 rw [Lib.decDigits, dif_neg h, dec_small (show k % 10 < 10 by omega)]
theorem size_list_ (l : List UInt8) : (⟨l.toArray⟩ : ByteArray).size = l.length := by show l.toArray.size = _; simp
set_option maxHeartbeats 1000000 in
set_option maxRecDepth 100000 in
theorem digit10_any : ∀ (f k : Nat) (w : World), k < f → k ≤ 1000000 → Calls Tryz.prog 53 #[.int .i64 (k : Int)] w fun e w' => e = .returned (.string ⟨(Lib.decDigits k).toArray⟩) ∧ Below w.heap.size w w'
 | 0, k, w, h, _ => by omega
 | f + 1, k, w, hf, hk => by
  by_cases h10 : (k : Int) < 10
  ·have hw8 : IntKind.u8.wrap (48 + (k : Int)) = 48 + (k : Int) := by rw [IntKind.wrap_u8]; omega
   have hd := dec_small (k := k) (by omega)
   have HD := hide hd
   have hn : (UInt8.ofNat (48 + k)).toNat = 48 + k := by rw [UInt8.toNat_ofNat']; omega
   have hcv := run_convert_bytes_back (P := Tryz.prog) (w.alloc (.cells #[.int .u8 (48 + (k : Int))] 5)) 116 9 5 ⟨w.heap.size, 0, none⟩ 1 [UInt8.ofNat (48 + k)] Tryz.underlying116 Tryz.underlying5 Tryz.underlying9 (fun j hj => by
    have hj0 : j = 0 := by simpa using hj
    subst hj0
    have h1 := (Blk.new w 5 #[.int .u8 (48 + (k : Int))]).cell 0
    rw [show (⟨w.heap.size, 0, none⟩ : Addr).add 0 = ⟨w.heap.size, 0, none⟩ by unfold Addr.add; simp]
    rw [h1]
    show some (Value.int .u8 (48 + (k : Int))) = some (Value.int .u8 ((UInt8.ofNat (48 + k)).toNat : Int))
    rw [hn]; simp)
   simp only [List.length_singleton] at hcv
   rw [← hd] at hcv
   clear hd hn
   go_enter Tryz.func53, Tryz.ntmps53
   go_wp2
   go_ret
   exact ⟨rfl, (Below.refl _ _).alloc (Nat.le_refl _) _⟩
  ·have HQ : Hid (∀ W, Calls Tryz.prog 53 #[.int .i64 ((k : Int) / 10)] W fun e w' => e = .returned (.string ⟨(Lib.decDigits (k / 10)).toArray⟩) ∧ Below W.heap.size W w') := hide (fun W => by
    have h := digit10_any f (k / 10) W (by omega) (by omega)
    rwa [Int.natCast_ediv] at h)
   have HR : Hid (∀ W, Calls Tryz.prog 53 #[.int .i64 ((k : Int) % 10)] W fun e w' => e = .returned (.string ⟨(Lib.decDigits (k % 10)).toArray⟩) ∧ Below W.heap.size W w') := hide (fun W => by
    have h := digit10_any f (k % 10) W (by omega) (by omega)
    rwa [Int.natCast_emod] at h)
   have HS := hide (dec_big (k := k) (by omega))
   obtain ⟨a, ha⟩ : ∃ a : ByteArray, a = ⟨(Lib.decDigits (k / 10)).toArray⟩ := ⟨_, rfl⟩
   obtain ⟨b, hb⟩ : ∃ b : ByteArray, b = ⟨(Lib.decDigits (k % 10)).toArray⟩ := ⟨_, rfl⟩
   have hA : a.size ≤ 7 := by rw [ha, size_list_]; exact dec_len 6 _ (by omega)
   have hB : b.size ≤ 7 := by rw [hb, size_list_]; exact dec_len 6 _ (by omega)
   rw [← ha] at HQ
   rw [← hb] at HR
   have HE : Hid (a ++ b = ⟨(Lib.decDigits k).toArray⟩) := hide (by rw [ha, hb, str_append, HS.out])
   clear ha hb HS
   have hov : ¬ 9223372036854775807 < a.size + b.size := by omega
   have hw1 : IntKind.i64.wrap ((k : Int) / 10) = (k : Int) / 10 := by rw [IntKind.wrap_i64]; omega
   go_enter Tryz.func53, Tryz.ntmps53
   go_wp2_with (first
    | (go_at_call 53; refine (HQ.out _).mono ?_; rintro e w1 ⟨rfl, hb1⟩; have HB1 := hide hb1; clear hb1 HQ)
    | (go_at_call 53; refine (HR.out _).mono ?_; rintro e w2 ⟨rfl, hb2⟩; have HB2 := hide hb2; clear hb2))
   go_ret
   exact ⟨by rw [HE.out]; rfl, HB1.out.trans (HB2.out.mono HB1.out.size)⟩
end Go.Proofs.YthkblgglmohciaaGreatDoor
namespace Go.Proofs.YthkblgglmohciaaGreatDoor
open Go Go.RowKit
theorem piecesN_snoc : ∀ (ts : List (Int × Int)) (b : Bool) (t : Int × Int), (piecesN b (ts ++ [t])).flatten = (piecesN b ts).flatten ++ pieceN (b && ts.isEmpty) t
 | [], b, t => by simp [piecesN]
 | u :: ts, b, t => by
  rw [List.cons_append]
  unfold piecesN
  rw [List.flatten_cons, List.flatten_cons, piecesN_snoc ts false t]
  simp
def preT (xt : List (Int × Int)) (k : Nat) : List UInt8 := (piecesN true (xt.take k)).flatten
theorem preT_succ {xt : List (Int × Int)} {k : Nat} (hk : k < xt.length) : preT xt (k + 1) = preT xt k ++ pieceN (decide (k = 0)) xt[k] := by
 unfold preT
 rw [take_snoc xt k hk, piecesN_snoc]
 congr 2
 cases k with
 | zero => simp
 | succ k =>
  have : (xt.take (k + 1)).isEmpty = false := by
   cases xt with
   | nil => simp at hk
   | cons a t => rfl
  rw [this]; simp
theorem preT_len {xt : List (Int × Int)} (h : ∀ t ∈ xt, TermN t) (hl : xt.length ≤ 4) (k : Nat) : (preT xt k).length ≤ 48 := by
 have := pieces_len (xt.take k) true (fun t ht => h t (List.mem_of_mem_take ht))
 unfold preT
 rw [List.length_take] at this
 omega
theorem str_of {b : ByteArray} {l : List UInt8} (h : b = ⟨l.toArray⟩) : b.size = l.length := by rw [h]; exact size_list_ l
theorem str_snoc {b c : ByteArray} {l m : List UInt8} (h : b = ⟨l.toArray⟩) (h2 : c = ⟨m.toArray⟩) : b ++ c = ⟨(l ++ m).toArray⟩ := by rw [h, h2, str_append]
set_option maxHeartbeats 8000000 in
set_option maxRecDepth 100000 in
theorem numText_any (xd : Int) (A : Option Addr) (n c B : Nat) (xt : List (Int × Int)) (w : World) (hx : TermsQ w B A n c xt) (hB : B ≤ w.heap.size) (hok : numOK xd xt = true) :
  Calls Tryz.prog 20 #[.agg #[.int .i64 xd, .slice A n c]] w fun e w' => e = .returned (.string ⟨(numT xd xt).toArray⟩) ∧ Below w.heap.size w w' := by
 have hl := hx.len
 subst hl
 obtain ⟨p1, p2, p3, p4⟩ := numOK_parts hok
 have hT := numOK_termN hok
 have HTN := hide hT
 have HPL := hide (preT_len hT p3)
 have hnum : numT xd xt = if xt = [] then [48] else if xd = 1 then preT xt xt.length else if 1 < xt.length then [40] ++ preT xt xt.length ++ [41, 47] ++ Lib.decDigits xd.toNat else preT xt xt.length ++ [47] ++ Lib.decDigits xd.toNat := by
  unfold numT preT
  rw [List.take_length, ← sumT_pieces xt true hT, itoa_pos (show 0 ≤ xd by omega)]
 have HNUM := hide hnum
 have HT := hide (fun W (hb : Below w.heap.size w W) => Rq.below hx (hb.mono hB))
 have HX0 := hide (Blk.new w 24 #[.int .i64 xd, .slice A xt.length c])
 have HB0 := hide ((Below.refl w.heap.size w).alloc (Nat.le_refl _) (.cells #[.int .i64 xd, .slice A xt.length c] 24))
 clear hx hok hT hnum p4
 go_enter Tryz.func20, Tryz.ntmps20
 go_wp2
 go_loopw [3, 4] (fun s i W => ∃ (k : Nat) (b : ByteArray), k ≤ xt.length ∧ i = .int .i64 k ∧ s = .string b ∧ b = ⟨(preT xt k).toArray⟩ ∧ Blk W w.heap.size 24 #[.int .i64 xd, .slice A xt.length c] ∧ Below w.heap.size w W) (fun _ i _ => xt.length - (intOf i).toNat)
 case atStart => exact ⟨0, _, by omega, rfl, rfl, rfl, HX0.out, HB0.out⟩
 case round =>
  obtain ⟨k, b, hk, rfl, rfl, hb, hX, hbl⟩ := hrel
  have hbs : b.size ≤ 48 := by rw [str_of hb]; exact HPL.out k
  have HBE := hide hb
  have HX1 := hide hX
  have HB1 := hide hbl
  clear hb hX hbl HX0 HB0
  obtain ⟨x0, x1, _, _⟩ := HX1.out.two
  by_cases hkl : (k : Int) < (xt.length : Int)
  ·have hk1 : k < xt.length := by omega
   obtain ⟨ad, rfl, -, ha0, ha1⟩ := TermsQ.at_ (HT.out _ HB1.out) hk1
   have htn := HTN.out xt[k] (List.getElem_mem hk1)
   have hsu := preT_succ hk1
   generalize xt[k] = t at *
   obtain ⟨co, ro⟩ := t
   obtain ⟨h0, h1, h2, h3, h4⟩ := htn
   dsimp only at ha0 ha1 h0 h1 h2 h3 h4
   have HSU := hide hsu
   clear hsu
   obtain ⟨ab, hab⟩ : ∃ ab : Nat, ab = co.natAbs := ⟨_, rfl⟩
   have HAB : Hid (∀ W, Calls Tryz.prog 45 #[.int .i64 co] W fun e w' => e = .returned (.int .i64 (ab : Int)) ∧ w' = W) := hide (fun W => hab ▸ absD_any co W (by omega))
   have HD1 := hide (fun W => digit10_any (ab + 1) ab W (by omega) (by omega))
   obtain ⟨rn, rfl⟩ := Int.eq_ofNat_of_zero_le (show 0 ≤ ro by omega)
   have HD2 := hide (fun W => digit10_any (rn + 1) rn W (by omega) (by omega))
   have HAT := hide (show absT (co, (rn : Int)) = (if (rn : Int) = 1 ∨ ab ≠ 1 then Lib.decDigits ab else []) ++ (if (rn : Int) = 1 then [] else 114 :: Lib.decDigits rn) by rw [hab]; rfl)
   have HPN := hide (show pieceN (decide (k = 0)) (co, (rn : Int)) = (if co < 0 then [45] else if decide (k = 0) = true then [] else [43]) ++ absT (co, (rn : Int)) from rfl)
   have hab6 : ab ≤ 100000 := by omega
   obtain ⟨da, hda⟩ : ∃ da : ByteArray, da = ⟨(Lib.decDigits ab).toArray⟩ := ⟨_, rfl⟩
   obtain ⟨dr, hdr⟩ : ∃ dr : ByteArray, dr = ⟨(Lib.decDigits rn).toArray⟩ := ⟨_, rfl⟩
   have hdas : da.size ≤ 7 := by rw [str_of hda]; exact dec_len 6 _ (by omega)
   have hdrs : dr.size ≤ 7 := by rw [str_of hdr]; exact dec_len 6 _ (by omega)
   rw [← hda] at HD1
   rw [← hdr] at HD2
   have HDA := hide hda
   have HDR := hide hdr
   have HUA := hide (Blk.new wr 52 #[.int .i64 co, .int .i64 (rn : Int)])
   have HXA := hide (HX1.out.alloc (.cells #[.int .i64 co, .int .i64 (rn : Int)] 52))
   have HBA := hide (HB1.out.alloc HB1.out.size (.cells #[.int .i64 co, .int .i64 (rn : Int)] 52))
   clear hab hda hdr
   go_upto_region 6 with fail
   obtain ⟨X5, hX5⟩ : ∃ X, X = wr.heap.size := ⟨_, rfl⟩
   rw [← hX5] at HUA ⊢
   clear hX5 x0 x1 ha0 ha1 HX1 HB1
   generalize wr.alloc (.cells #[.int .i64 co, .int .i64 (rn : Int)] 52) = wa at *
   obtain ⟨u0, u1, _, _⟩ := HUA.out.two
   by_cases hneg : co < 0
   ·have HSGN : Hid ((if co < 0 then [(45 : UInt8)] else if decide (k = 0) = true then [] else [43]) = [45]) := hide (by rw [if_pos hneg])
    obtain ⟨b1, hb1⟩ : ∃ b1, b1 = b ++ (⟨#[45]⟩ : ByteArray) := ⟨_, rfl⟩
    have hb1r : b ++ (⟨#[45]⟩ : ByteArray) = b1 := hb1.symm
    have hov0 : ¬ 9223372036854775807 < b.size + 1 := by omega
    have hb1s : b1.size ≤ 49 := by rw [hb1, ByteArray.size_append]; show _ + 1 ≤ _; omega
    have HB1E : Hid (b1 = ⟨(preT xt k ++ [45]).toArray⟩) := hide (by rw [hb1]; exact str_snoc HBE.out rfl)
    clear hb1
    go_upto_region 10 with fail
    clear hb1r hov0
    have HUp := hide HUA.out
    have HXp := hide HXA.out
    have HBp := hide HBA.out
    clear HUA HXA HBA
    by_cases hr1 : (rn : Int) = 1
    ·obtain rfl : rn = 1 := by omega
     have hov1 : ¬ 9223372036854775807 < b1.size + da.size := by omega
     have HAT2 : Hid (absT (co, ((1 : Nat) : Int)) = Lib.decDigits ab) := hide (by rw [HAT.out]; simp)
     have HE2 : Hid (b1 ++ da = ⟨(preT xt (k + 1)).toArray⟩) := hide (by
      rw [str_snoc HB1E.out HDA.out, HSU.out, HPN.out, HSGN.out, HAT2.out]; simp)
     go_upto_region 12 with (first
      | (go_at_call 53; refine (HD1.out _).mono ?_; rintro e q ⟨rfl, hb⟩; have HUq := hide (HUp.out.below hb HUp.out.lt); have HXq := hide (HXp.out.below hb HXp.out.lt); have HBq := hide (HBp.out.trans (hb.mono HBp.out.size)); clear hb)
      | (go_at_call 45; refine (HAB.out _).mono ?_; rintro e wz ⟨rfl, hwz⟩; subst wz))
     obtain ⟨y0, y1, _, _⟩ := HUq.out.two
     clear u0 u1
     go_wp2
     exact ⟨⟨k + 1, b1 ++ da, by omega, by go_num, rfl, HE2.out, HXq.out, HBq.out⟩, by simp only [intOf]; omega⟩
    ·have hrn1 : ¬ rn = 1 := by omega
     have hrb : ((rn : Int) == 1) = false := by simpa using hr1
     have hrb2 : ((rn : Int) != 1) = true := by simpa using hr1
     by_cases ha1 : ab = 1
     ·subst ha1
      have hov1 : ¬ 9223372036854775807 < b1.size + 1 := by omega
      have HAT2 : Hid (absT (co, (rn : Int)) = 114 :: Lib.decDigits rn) := hide (by rw [HAT.out]; simp [hrn1, hr1])
      have HE2 : Hid (b1 ++ ⟨#[114]⟩ ++ dr = ⟨(preT xt (k + 1)).toArray⟩) := hide (by
       rw [str_snoc (str_snoc HB1E.out (show (⟨#[114]⟩ : ByteArray) = ⟨[(114 : UInt8)].toArray⟩ from rfl)) HDR.out, HSU.out, HPN.out, HSGN.out, HAT2.out]; simp)
      go_upto_region 12 with (first
       | (go_at_call 45; refine (HAB.out _).mono ?_; rintro e wz ⟨rfl, hwz⟩; subst wz))
      obtain ⟨b2, hb2⟩ : ∃ b2, b2 = b1 ++ (⟨#[114]⟩ : ByteArray) := ⟨_, rfl⟩
      have hb2s : b2.size ≤ 60 := by rw [hb2, ByteArray.size_append]; show _ + 1 ≤ _; omega
      have hb2r : b1 ++ (⟨#[114]⟩ : ByteArray) = b2 := hb2.symm
      rw [← hb2] at HE2
      clear hb2
      have hov2 : ¬ 9223372036854775807 < b2.size + dr.size := by omega
      go_wp2_with (first
       | (go_at_call 53; refine (HD2.out _).mono ?_; rintro e q ⟨rfl, hb⟩; have HUq := hide (HUp.out.below hb HUp.out.lt); have HXq := hide (HXp.out.below hb HXp.out.lt); have HBq := hide (HBp.out.trans (hb.mono HBp.out.size)); clear hb))
      exact ⟨⟨k + 1, b2 ++ dr, by omega, by go_num, rfl, HE2.out, HXq.out, HBq.out⟩, by simp only [intOf]; omega⟩
     ·have hab2 : ((ab : Int) != 1) = true := by simp only [bne_iff_ne, ne_eq]; omega
      have hov1 : ¬ 9223372036854775807 < b1.size + da.size := by omega
      have HAT2 : Hid (absT (co, (rn : Int)) = Lib.decDigits ab ++ 114 :: Lib.decDigits rn) := hide (by rw [HAT.out]; simp [hrn1, hr1, ha1])
      have HE1 : Hid (b1 ++ da = ⟨(preT xt k ++ [45] ++ Lib.decDigits ab).toArray⟩) := hide (str_snoc HB1E.out HDA.out)
      go_upto_region 12 with (first
       | (go_at_call 53; refine (HD1.out _).mono ?_; rintro e q ⟨rfl, hb⟩; have HUq := hide (HUp.out.below hb HUp.out.lt); have HXq := hide (HXp.out.below hb HXp.out.lt); have HBq := hide (HBp.out.trans (hb.mono HBp.out.size)); clear hb)
       | (go_at_call 45; refine (HAB.out _).mono ?_; rintro e wz ⟨rfl, hwz⟩; subst wz))
      clear u0 u1
      obtain ⟨u0, u1, _, _⟩ := HUq.out.two
      obtain ⟨b2, hb2⟩ : ∃ b2, b2 = b1 ++ da := ⟨_, rfl⟩
      have hb2s : b2.size ≤ 60 := by rw [hb2, ByteArray.size_append]; omega
      rw [← hb2] at HE1 ⊢
      clear hb2
      obtain ⟨b3, hb3⟩ : ∃ b3, b3 = b2 ++ (⟨#[114]⟩ : ByteArray) := ⟨_, rfl⟩
      have hb3s : b3.size ≤ 61 := by rw [hb3, ByteArray.size_append]; show _ + 1 ≤ _; omega
      have hb3r : b2 ++ (⟨#[114]⟩ : ByteArray) = b3 := hb3.symm
      have HE2 : Hid (b3 ++ dr = ⟨(preT xt (k + 1)).toArray⟩) := hide (by
       rw [hb3, str_snoc (str_snoc HE1.out (show (⟨#[114]⟩ : ByteArray) = ⟨[(114 : UInt8)].toArray⟩ from rfl)) HDR.out, HSU.out, HPN.out, HSGN.out, HAT2.out]; simp)
      clear hb3
      have hov2 : ¬ 9223372036854775807 < b2.size + 1 := by omega
      have hov3 : ¬ 9223372036854775807 < b3.size + dr.size := by omega
      go_wp2_with (first
       | (go_at_call 53; refine (HD2.out _).mono ?_; rintro e z ⟨rfl, hb⟩; have HUz := hide (HUq.out.below hb HUq.out.lt); have HXz := hide (HXq.out.below hb HXq.out.lt); have HBz := hide (HBq.out.trans (hb.mono HBq.out.size)); clear hb))
      exact ⟨⟨k + 1, b3 ++ dr, by omega, by go_num, rfl, HE2.out, HXz.out, HBz.out⟩, by simp only [intOf]; omega⟩
   ·by_cases hk0 : k = 0
    ·have HSGN : Hid ((if co < 0 then [(45 : UInt8)] else if decide (k = 0) = true then [] else [43]) = []) := hide (by rw [if_neg hneg, if_pos (by simp [hk0])])
     have hkz : ¬ (0 : Int) < (k : Int) := by omega
     clear hk0
     obtain ⟨b1, hb1⟩ : ∃ b1, b1 = b := ⟨_, rfl⟩
     have hb1s : b1.size ≤ 49 := by rw [hb1]; omega
     have HB1E : Hid (b1 = ⟨(preT xt k ++ []).toArray⟩) := hide (by rw [hb1, List.append_nil]; exact HBE.out)
     rw [← hb1] at ⊢
     clear hb1
     go_upto_region 10 with fail
     have HUp := hide HUA.out
     have HXp := hide HXA.out
     have HBp := hide HBA.out
     clear HUA HXA HBA
     by_cases hr1 : (rn : Int) = 1
     ·obtain rfl : rn = 1 := by omega
      have hov1 : ¬ 9223372036854775807 < b1.size + da.size := by omega
      have HAT2 : Hid (absT (co, ((1 : Nat) : Int)) = Lib.decDigits ab) := hide (by rw [HAT.out]; simp)
      have HE2 : Hid (b1 ++ da = ⟨(preT xt (k + 1)).toArray⟩) := hide (by
       rw [str_snoc HB1E.out HDA.out, HSU.out, HPN.out, HSGN.out, HAT2.out]; simp)
      go_upto_region 12 with (first
       | (go_at_call 53; refine (HD1.out _).mono ?_; rintro e q ⟨rfl, hb⟩; have HUq := hide (HUp.out.below hb HUp.out.lt); have HXq := hide (HXp.out.below hb HXp.out.lt); have HBq := hide (HBp.out.trans (hb.mono HBp.out.size)); clear hb)
       | (go_at_call 45; refine (HAB.out _).mono ?_; rintro e wz ⟨rfl, hwz⟩; subst wz))
      obtain ⟨y0, y1, _, _⟩ := HUq.out.two
      clear u0 u1
      go_wp2
      exact ⟨⟨k + 1, b1 ++ da, by omega, by go_num, rfl, HE2.out, HXq.out, HBq.out⟩, by simp only [intOf]; omega⟩
     ·have hrn1 : ¬ rn = 1 := by omega
      have hrb : ((rn : Int) == 1) = false := by simpa using hr1
      have hrb2 : ((rn : Int) != 1) = true := by simpa using hr1
      by_cases ha1 : ab = 1
      ·subst ha1
       have hov1 : ¬ 9223372036854775807 < b1.size + 1 := by omega
       have HAT2 : Hid (absT (co, (rn : Int)) = 114 :: Lib.decDigits rn) := hide (by rw [HAT.out]; simp [hrn1, hr1])
       have HE2 : Hid (b1 ++ ⟨#[114]⟩ ++ dr = ⟨(preT xt (k + 1)).toArray⟩) := hide (by
        rw [str_snoc (str_snoc HB1E.out (show (⟨#[114]⟩ : ByteArray) = ⟨[(114 : UInt8)].toArray⟩ from rfl)) HDR.out, HSU.out, HPN.out, HSGN.out, HAT2.out]; simp)
       go_upto_region 12 with (first
        | (go_at_call 45; refine (HAB.out _).mono ?_; rintro e wz ⟨rfl, hwz⟩; subst wz))
       obtain ⟨b2, hb2⟩ : ∃ b2, b2 = b1 ++ (⟨#[114]⟩ : ByteArray) := ⟨_, rfl⟩
       have hb2s : b2.size ≤ 60 := by rw [hb2, ByteArray.size_append]; show _ + 1 ≤ _; omega
       have hb2r : b1 ++ (⟨#[114]⟩ : ByteArray) = b2 := hb2.symm
       rw [← hb2] at HE2
       clear hb2
       have hov2 : ¬ 9223372036854775807 < b2.size + dr.size := by omega
       go_wp2_with (first
        | (go_at_call 53; refine (HD2.out _).mono ?_; rintro e q ⟨rfl, hb⟩; have HUq := hide (HUp.out.below hb HUp.out.lt); have HXq := hide (HXp.out.below hb HXp.out.lt); have HBq := hide (HBp.out.trans (hb.mono HBp.out.size)); clear hb))
       exact ⟨⟨k + 1, b2 ++ dr, by omega, by go_num, rfl, HE2.out, HXq.out, HBq.out⟩, by simp only [intOf]; omega⟩
      ·have hab2 : ((ab : Int) != 1) = true := by simp only [bne_iff_ne, ne_eq]; omega
       have hov1 : ¬ 9223372036854775807 < b1.size + da.size := by omega
       have HAT2 : Hid (absT (co, (rn : Int)) = Lib.decDigits ab ++ 114 :: Lib.decDigits rn) := hide (by rw [HAT.out]; simp [hrn1, hr1, ha1])
       have HE1 : Hid (b1 ++ da = ⟨(preT xt k ++ [] ++ Lib.decDigits ab).toArray⟩) := hide (str_snoc HB1E.out HDA.out)
       go_upto_region 12 with (first
        | (go_at_call 53; refine (HD1.out _).mono ?_; rintro e q ⟨rfl, hb⟩; have HUq := hide (HUp.out.below hb HUp.out.lt); have HXq := hide (HXp.out.below hb HXp.out.lt); have HBq := hide (HBp.out.trans (hb.mono HBp.out.size)); clear hb)
        | (go_at_call 45; refine (HAB.out _).mono ?_; rintro e wz ⟨rfl, hwz⟩; subst wz))
       clear u0 u1
       obtain ⟨u0, u1, _, _⟩ := HUq.out.two
       obtain ⟨b2, hb2⟩ : ∃ b2, b2 = b1 ++ da := ⟨_, rfl⟩
       have hb2s : b2.size ≤ 60 := by rw [hb2, ByteArray.size_append]; omega
       rw [← hb2] at HE1 ⊢
       clear hb2
       obtain ⟨b3, hb3⟩ : ∃ b3, b3 = b2 ++ (⟨#[114]⟩ : ByteArray) := ⟨_, rfl⟩
       have hb3s : b3.size ≤ 61 := by rw [hb3, ByteArray.size_append]; show _ + 1 ≤ _; omega
       have hb3r : b2 ++ (⟨#[114]⟩ : ByteArray) = b3 := hb3.symm
       have HE2 : Hid (b3 ++ dr = ⟨(preT xt (k + 1)).toArray⟩) := hide (by
        rw [hb3, str_snoc (str_snoc HE1.out (show (⟨#[114]⟩ : ByteArray) = ⟨[(114 : UInt8)].toArray⟩ from rfl)) HDR.out, HSU.out, HPN.out, HSGN.out, HAT2.out]; simp)
       clear hb3
       have hov2 : ¬ 9223372036854775807 < b2.size + 1 := by omega
       have hov3 : ¬ 9223372036854775807 < b3.size + dr.size := by omega
       go_wp2_with (first
        | (go_at_call 53; refine (HD2.out _).mono ?_; rintro e z ⟨rfl, hb⟩; have HUz := hide (HUq.out.below hb HUq.out.lt); have HXz := hide (HXq.out.below hb HXq.out.lt); have HBz := hide (HBq.out.trans (hb.mono HBq.out.size)); clear hb))
       exact ⟨⟨k + 1, b3 ++ dr, by omega, by go_num, rfl, HE2.out, HXz.out, HBz.out⟩, by simp only [intOf]; omega⟩
    ·have hkp : (0 : Int) < (k : Int) := by omega
     have HSGN : Hid ((if co < 0 then [(45 : UInt8)] else if decide (k = 0) = true then [] else [43]) = [43]) := hide (by rw [if_neg hneg, if_neg (by simpa using hk0)])
     obtain ⟨b1, hb1⟩ : ∃ b1, b1 = b ++ (⟨#[43]⟩ : ByteArray) := ⟨_, rfl⟩
     have hb1r : b ++ (⟨#[43]⟩ : ByteArray) = b1 := hb1.symm
     have hov0 : ¬ 9223372036854775807 < b.size + 1 := by omega
     have hb1s : b1.size ≤ 49 := by rw [hb1, ByteArray.size_append]; show _ + 1 ≤ _; omega
     have HB1E : Hid (b1 = ⟨(preT xt k ++ [43]).toArray⟩) := hide (by rw [hb1]; exact str_snoc HBE.out rfl)
     clear hb1
     go_upto_region 10 with fail
     clear hb1r hov0
     have HUp := hide HUA.out
     have HXp := hide HXA.out
     have HBp := hide HBA.out
     clear HUA HXA HBA
     by_cases hr1 : (rn : Int) = 1
     ·obtain rfl : rn = 1 := by omega
      have hov1 : ¬ 9223372036854775807 < b1.size + da.size := by omega
      have HAT2 : Hid (absT (co, ((1 : Nat) : Int)) = Lib.decDigits ab) := hide (by rw [HAT.out]; simp)
      have HE2 : Hid (b1 ++ da = ⟨(preT xt (k + 1)).toArray⟩) := hide (by
       rw [str_snoc HB1E.out HDA.out, HSU.out, HPN.out, HSGN.out, HAT2.out]; simp)
      go_upto_region 12 with (first
       | (go_at_call 53; refine (HD1.out _).mono ?_; rintro e q ⟨rfl, hb⟩; have HUq := hide (HUp.out.below hb HUp.out.lt); have HXq := hide (HXp.out.below hb HXp.out.lt); have HBq := hide (HBp.out.trans (hb.mono HBp.out.size)); clear hb)
       | (go_at_call 45; refine (HAB.out _).mono ?_; rintro e wz ⟨rfl, hwz⟩; subst wz))
      obtain ⟨y0, y1, _, _⟩ := HUq.out.two
      clear u0 u1
      go_wp2
      exact ⟨⟨k + 1, b1 ++ da, by omega, by go_num, rfl, HE2.out, HXq.out, HBq.out⟩, by simp only [intOf]; omega⟩
     ·have hrn1 : ¬ rn = 1 := by omega
      have hrb : ((rn : Int) == 1) = false := by simpa using hr1
      have hrb2 : ((rn : Int) != 1) = true := by simpa using hr1
      by_cases ha1 : ab = 1
      ·subst ha1
       have hov1 : ¬ 9223372036854775807 < b1.size + 1 := by omega
       have HAT2 : Hid (absT (co, (rn : Int)) = 114 :: Lib.decDigits rn) := hide (by rw [HAT.out]; simp [hrn1, hr1])
       have HE2 : Hid (b1 ++ ⟨#[114]⟩ ++ dr = ⟨(preT xt (k + 1)).toArray⟩) := hide (by
        rw [str_snoc (str_snoc HB1E.out (show (⟨#[114]⟩ : ByteArray) = ⟨[(114 : UInt8)].toArray⟩ from rfl)) HDR.out, HSU.out, HPN.out, HSGN.out, HAT2.out]; simp)
       go_upto_region 12 with (first
        | (go_at_call 45; refine (HAB.out _).mono ?_; rintro e wz ⟨rfl, hwz⟩; subst wz))
       obtain ⟨b2, hb2⟩ : ∃ b2, b2 = b1 ++ (⟨#[114]⟩ : ByteArray) := ⟨_, rfl⟩
       have hb2s : b2.size ≤ 60 := by rw [hb2, ByteArray.size_append]; show _ + 1 ≤ _; omega
       have hb2r : b1 ++ (⟨#[114]⟩ : ByteArray) = b2 := hb2.symm
       rw [← hb2] at HE2
       clear hb2
       have hov2 : ¬ 9223372036854775807 < b2.size + dr.size := by omega
       go_wp2_with (first
        | (go_at_call 53; refine (HD2.out _).mono ?_; rintro e q ⟨rfl, hb⟩; have HUq := hide (HUp.out.below hb HUp.out.lt); have HXq := hide (HXp.out.below hb HXp.out.lt); have HBq := hide (HBp.out.trans (hb.mono HBp.out.size)); clear hb))
       exact ⟨⟨k + 1, b2 ++ dr, by omega, by go_num, rfl, HE2.out, HXq.out, HBq.out⟩, by simp only [intOf]; omega⟩
      ·have hab2 : ((ab : Int) != 1) = true := by simp only [bne_iff_ne, ne_eq]; omega
       have hov1 : ¬ 9223372036854775807 < b1.size + da.size := by omega
       have HAT2 : Hid (absT (co, (rn : Int)) = Lib.decDigits ab ++ 114 :: Lib.decDigits rn) := hide (by rw [HAT.out]; simp [hrn1, hr1, ha1])
       have HE1 : Hid (b1 ++ da = ⟨(preT xt k ++ [43] ++ Lib.decDigits ab).toArray⟩) := hide (str_snoc HB1E.out HDA.out)
       go_upto_region 12 with (first
        | (go_at_call 53; refine (HD1.out _).mono ?_; rintro e q ⟨rfl, hb⟩; have HUq := hide (HUp.out.below hb HUp.out.lt); have HXq := hide (HXp.out.below hb HXp.out.lt); have HBq := hide (HBp.out.trans (hb.mono HBp.out.size)); clear hb)
        | (go_at_call 45; refine (HAB.out _).mono ?_; rintro e wz ⟨rfl, hwz⟩; subst wz))
       clear u0 u1
       obtain ⟨u0, u1, _, _⟩ := HUq.out.two
       obtain ⟨b2, hb2⟩ : ∃ b2, b2 = b1 ++ da := ⟨_, rfl⟩
       have hb2s : b2.size ≤ 60 := by rw [hb2, ByteArray.size_append]; omega
       rw [← hb2] at HE1 ⊢
       clear hb2
       obtain ⟨b3, hb3⟩ : ∃ b3, b3 = b2 ++ (⟨#[114]⟩ : ByteArray) := ⟨_, rfl⟩
       have hb3s : b3.size ≤ 61 := by rw [hb3, ByteArray.size_append]; show _ + 1 ≤ _; omega
       have hb3r : b2 ++ (⟨#[114]⟩ : ByteArray) = b3 := hb3.symm
       have HE2 : Hid (b3 ++ dr = ⟨(preT xt (k + 1)).toArray⟩) := hide (by
        rw [hb3, str_snoc (str_snoc HE1.out (show (⟨#[114]⟩ : ByteArray) = ⟨[(114 : UInt8)].toArray⟩ from rfl)) HDR.out, HSU.out, HPN.out, HSGN.out, HAT2.out]; simp)
       clear hb3
       have hov2 : ¬ 9223372036854775807 < b2.size + 1 := by omega
       have hov3 : ¬ 9223372036854775807 < b3.size + dr.size := by omega
       go_wp2_with (first
        | (go_at_call 53; refine (HD2.out _).mono ?_; rintro e z ⟨rfl, hb⟩; have HUz := hide (HUq.out.below hb HUq.out.lt); have HXz := hide (HXq.out.below hb HXq.out.lt); have HBz := hide (HBq.out.trans (hb.mono HBq.out.size)); clear hb))
       exact ⟨⟨k + 1, b3 ++ dr, by omega, by go_num, rfl, HE2.out, HXz.out, HBz.out⟩, by simp only [intOf]; omega⟩
  ·obtain rfl : k = xt.length := by omega
   by_cases h0 : xt = []
   ·have HV := hide (HNUM.out.trans (if_pos h0))
    have hl0 : xt.length = 0 := by rw [h0]; rfl
    have hl1 : ((xt.length : Int) == 0) = true := by rw [hl0]; rfl
    clear HNUM h0 hl0
    go_wp2
    go_ret
    exact ⟨by rw [HV.out]; rfl, HB1.out⟩
   ·have hl0 : ((xt.length : Int) == 0) = false := by
     have := List.length_pos_iff.2 h0
     simp; omega
    have HV0 := hide (HNUM.out.trans (if_neg h0))
    by_cases h1 : xd = 1
    ·subst h1
     have HV := hide (HV0.out.trans (if_pos rfl))
     go_wp2
     go_ret
     exact ⟨by rw [HV.out, HBE.out]; rfl, HB1.out⟩
    ·have hd1 : (xd == 1) = false := by simpa using h1
     have HV1 := hide (HV0.out.trans (if_neg h1))
     obtain ⟨dn, rfl⟩ := Int.eq_ofNat_of_zero_le (show 0 ≤ xd by omega)
     rw [Int.toNat_natCast] at HV1
     have HD := hide (fun W => digit10_any (dn + 1) dn W (by omega) (by omega))
     obtain ⟨dd, hdd⟩ : ∃ dd : ByteArray, dd = ⟨(Lib.decDigits dn).toArray⟩ := ⟨_, rfl⟩
     have hdds : dd.size ≤ 7 := by rw [str_of hdd]; exact dec_len 6 _ (by omega)
     rw [← hdd] at HD
     have HDD := hide hdd
     clear hdd
     by_cases h2 : 1 < xt.length
     ·have h2i : (1 : Int) < (xt.length : Int) := by omega
      have HV := hide (HV1.out.trans (if_pos h2))
      obtain ⟨b1, hb1⟩ : ∃ b1, b1 = (⟨#[40]⟩ : ByteArray) ++ b := ⟨_, rfl⟩
      obtain ⟨b2, hb2⟩ : ∃ b2, b2 = b1 ++ (⟨#[41]⟩ : ByteArray) := ⟨_, rfl⟩
      obtain ⟨b3, hb3⟩ : ∃ b3, b3 = b2 ++ (⟨#[47]⟩ : ByteArray) := ⟨_, rfl⟩
      have hs1 : b1.size ≤ 49 := by rw [hb1, ByteArray.size_append]; show 1 + _ ≤ _; omega
      have hs2 : b2.size ≤ 50 := by rw [hb2, ByteArray.size_append]; show _ + 1 ≤ _; omega
      have hs3 : b3.size ≤ 51 := by rw [hb3, ByteArray.size_append]; show _ + 1 ≤ _; omega
      have HE : Hid (b3 ++ dd = ⟨([40] ++ preT xt xt.length ++ [41, 47] ++ Lib.decDigits dn).toArray⟩) := hide (by
       rw [hb3, hb2, hb1, str_snoc (str_snoc (str_snoc (str_snoc (show (⟨#[40]⟩ : ByteArray) = ⟨[(40 : UInt8)].toArray⟩ from rfl) HBE.out) (show (⟨#[41]⟩ : ByteArray) = ⟨[(41 : UInt8)].toArray⟩ from rfl)) (show (⟨#[47]⟩ : ByteArray) = ⟨[(47 : UInt8)].toArray⟩ from rfl)) HDD.out]
       simp)
      have r1 := hb1.symm
      have r2 := hb2.symm
      have r3 := hb3.symm
      clear hb1 hb2 hb3
      have o1 : ¬ 9223372036854775807 < 1 + b.size := by omega
      have o2 : ¬ 9223372036854775807 < b1.size + 1 := by omega
      have o3 : ¬ 9223372036854775807 < b2.size + 1 := by omega
      have o4 : ¬ 9223372036854775807 < b3.size + dd.size := by omega
      go_wp2_with (first
       | (go_at_call 53; refine (HD.out _).mono ?_; rintro e wz ⟨rfl, hb⟩; have HBz := hide (HB1.out.trans (hb.mono HB1.out.size)); clear hb))
      go_ret
      exact ⟨by rw [HV.out, ← HE.out]; rfl, HBz.out⟩
     ·have h2i : ¬ (1 : Int) < (xt.length : Int) := by omega
      have HV := hide (HV1.out.trans (if_neg h2))
      obtain ⟨b3, hb3⟩ : ∃ b3, b3 = b ++ (⟨#[47]⟩ : ByteArray) := ⟨_, rfl⟩
      have hs3 : b3.size ≤ 51 := by rw [hb3, ByteArray.size_append]; show _ + 1 ≤ _; omega
      have HE : Hid (b3 ++ dd = ⟨(preT xt xt.length ++ [47] ++ Lib.decDigits dn).toArray⟩) := hide (by
       rw [hb3, str_snoc (str_snoc HBE.out (show (⟨#[47]⟩ : ByteArray) = ⟨[(47 : UInt8)].toArray⟩ from rfl)) HDD.out])
      have r3 := hb3.symm
      clear hb3
      have o3 : ¬ 9223372036854775807 < b.size + 1 := by omega
      have o4 : ¬ 9223372036854775807 < b3.size + dd.size := by omega
      go_wp2_with (first
       | (go_at_call 53; refine (HD.out _).mono ?_; rintro e wz ⟨rfl, hb⟩; have HBz := hide (HB1.out.trans (hb.mono HB1.out.size)); clear hb))
      go_ret
      exact ⟨by rw [HV.out, ← HE.out]; rfl, HBz.out⟩
end Go.Proofs.YthkblgglmohciaaGreatDoor
namespace Go.Proofs.YthkblgglmohciaaGreatDoor
open Go Go.RowKit
def VrQ (X : Nat) (d : Int) (A : Option Addr) (n c : Nat) (ts : List (Int × Int)) (W : World) : Prop := Blk W X 24 #[.int .i64 d, .slice A n c] ∧ ∃ B, B ≤ W.heap.size ∧ TermsQ W B A n c ts
instance {X : Nat} {d : Int} {A : Option Addr} {n c : Nat} {ts : List (Int × Int)} : Kept (VrQ X d A n c ts) := ⟨fun _ _ h hb => ⟨h.1.below hb h.1.lt, h.2.elim fun B h2 => ⟨B, Nat.le_trans h2.1 hb.size, Rq.below h2.2 (hb.mono h2.1)⟩⟩⟩
theorem VrQ.read {X : Nat} {d : Int} {A : Option Addr} {n c : Nat} {ts : List (Int × Int)} {W : World} (h : VrQ X d A n c ts W) : TermsQ W W.heap.size A n c ts := by
 obtain ⟨_, B, hB, h2⟩ := h
 exact Rq.more h2 hB
theorem VrQ.new {W : World} {d : Int} {A : Option Addr} {n c : Nat} {ts : List (Int × Int)} (h : TermsQ W W.heap.size A n c ts) : VrQ W.heap.size d A n c ts (W.alloc (.cells #[.int .i64 d, .slice A n c] 24)) := ⟨Blk.new W _ _, W.heap.size, by simp, Rq.alloc h (Nat.le_refl _) _⟩
end Go.Proofs.YthkblgglmohciaaGreatDoor
