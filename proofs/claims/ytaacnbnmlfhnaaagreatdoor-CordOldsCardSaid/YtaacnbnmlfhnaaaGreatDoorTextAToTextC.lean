import Derived.Test.YtaacnbnmlfhnaaaGreatDoorCordSToCordV
set_option linter.unusedVariables false
set_option linter.unusedSimpArgs false
namespace Go.Proofs.YtaacnbnmlfhnaaaGreatDoor
theorem itoa_good : ∀ m : Nat, m < 1001 → ((Lib.itoa (m : Int)).all fun b => decide (48 ≤ b.toNat ∧ b.toNat ≤ 57)) = true ∧ atoiS (Lib.itoa (m : Int)) = (m : Int) := by decide +kernel
theorem itoa_dig {m : Int} (h : 0 ≤ m ∧ m ≤ 1000) : (∀ b ∈ Lib.itoa m, 48 ≤ b.toNat ∧ b.toNat ≤ 57) ∧ atoiS (Lib.itoa m) = m := by
 obtain ⟨k, rfl⟩ := Int.eq_ofNat_of_zero_le h.1
 obtain ⟨h1, h2⟩ := itoa_good k (by omega)
 exact ⟨fun b hb => by simpa using List.all_eq_true.1 h1 b hb, h2⟩
theorem tokR_cons (sg c : Int) (ds : List UInt8) (cs : List Int) : tokR sg ds (c :: cs) = if 48 ≤ c ∧ c ≤ 57 then tokR sg (ds ++ [UInt8.ofNat c.toNat]) cs else (sg, atoiS ds) :: tokR c [] cs := rfl
theorem pieceT_cons (ld : List UInt8) (m : Int) (ms : List Int) : pieceT ld (m :: ms) = ld ++ Lib.itoa m ++ pieceT [42] ms := rfl
def codes (l : List UInt8) : List Int := l.map fun b => (b.toNat : Int)
theorem tokR_digits : ∀ (d : List UInt8) (sg : Int) (ds : List UInt8) (R : List Int), (∀ b ∈ d, 48 ≤ b.toNat ∧ b.toNat ≤ 57) → tokR sg ds (codes d ++ R) = tokR sg (ds ++ d) R
 | [], sg, ds, R, _ => by simp [codes]
 | b :: d, sg, ds, R, h => by
  have hb := h b (by simp)
  show tokR sg ds ((b.toNat : Int) :: (codes d ++ R)) = _
  rw [tokR_cons, if_pos (by omega)]
  have e : UInt8.ofNat ((b.toNat : Int)).toNat = b := by simp
  rw [e, tokR_digits d sg (ds ++ [b]) R (fun x hx => h x (by simp [hx]))]
  simp
theorem tokR_other (c sg : Int) (ds : List UInt8) (R : List Int) (h : ¬ (48 ≤ c ∧ c ≤ 57)) : tokR sg ds (c :: R) = (sg, atoiS ds) :: tokR c [] R := by
 rw [tokR_cons, if_neg h]
def chainT (sg v : Int) : List Int → List (Int × Int)
 | [] => [(sg, v)]
 | m :: ms => (sg, v) :: chainT 42 m ms
theorem codes_append (a b : List UInt8) : codes (a ++ b) = codes a ++ codes b := by simp [codes]
theorem tokR_marks : ∀ (ms : List Int) (sg : Int) (ds : List UInt8) (c : Int) (R : List Int), (∀ m ∈ ms, 0 ≤ m ∧ m ≤ 1000) → ¬ (48 ≤ c ∧ c ≤ 57) →
  tokR sg ds (codes (pieceT [42] ms) ++ c :: R) = chainT sg (atoiS ds) ms ++ tokR c [] R
 | [], sg, ds, c, R, _, hc => by
  show tokR sg ds (c :: R) = _
  rw [tokR_other _ _ _ _ hc]
  rfl
 | m :: ms, sg, ds, c, R, h, hc => by
  obtain ⟨h1, h2⟩ := itoa_dig (h m (by simp))
  rw [pieceT_cons, codes_append, codes_append, List.append_assoc, List.append_assoc]
  show tokR sg ds (42 :: (codes (Lib.itoa m) ++ (codes (pieceT [42] ms) ++ c :: R))) = _
  rw [tokR_other _ _ _ _ (by omega), tokR_digits _ _ _ _ h1, tokR_marks ms 42 ([] ++ Lib.itoa m) c R (fun x hx => h x (by simp [hx])) hc, List.nil_append, h2]
  rfl
def pieceToks (p : Bool × List Int) : List (Int × Int) :=
 match p.2 with
 | [] => []
 | m :: ms => (if p.1 then 45 else 43, 1) :: chainT 47 m ms
def flatT (l : List (Bool × List Int)) : List UInt8 := l.flatMap fun p => pieceT (leadT p.1) p.2
theorem pieceOK_mem {p : Bool × List Int} (h : pieceOK p = true) : p.2 ≠ [] ∧ ∀ m ∈ p.2, 0 ≤ m ∧ m ≤ 1000 := by
 simp only [pieceOK, Bool.and_eq_true, inB, decide_eq_true_eq, List.all_eq_true] at h
 refine ⟨fun e => ?_, fun m hm => ?_⟩
 ·rw [e] at h
  have := h.1.1
  simp at this
 ·have := h.2 m hm
  simp only [markOK, inB, Bool.and_eq_true, decide_eq_true_eq] at this
  omega
theorem tokR_flat : ∀ (l : List (Bool × List Int)), (∀ p ∈ l, pieceOK p = true) → ∃ c R, codes (flatT l) ++ [46] = c :: R ∧ ¬ (48 ≤ c ∧ c ≤ 57) ∧ tokR c [] R = l.flatMap pieceToks
 | [], _ => ⟨46, [], rfl, by omega, rfl⟩
 | p :: l, h => by
  obtain ⟨c, R, e, hc, ht⟩ := tokR_flat l (fun q hq => h q (by simp [hq]))
  obtain ⟨hne, hm⟩ := pieceOK_mem (h p (by simp))
  obtain ⟨mi, ms⟩ := p
  obtain ⟨m, ms, rfl⟩ := List.exists_cons_of_ne_nil hne
  obtain ⟨h1, h2⟩ := itoa_dig (hm m (by simp))
  refine ⟨if mi then 45 else 43, 49 :: 47 :: (codes (Lib.itoa m) ++ (codes (pieceT [42] ms) ++ c :: R)), ?_, by cases mi <;> simp, ?_⟩
  ·rw [← e]
   unfold flatT
   rw [List.flatMap_cons, codes_append, List.append_assoc]
   show codes (pieceT (leadT mi) (m :: ms)) ++ _ = _
   rw [pieceT_cons, codes_append, codes_append]
   cases mi <;> simp [leadT, codes, flatT]
  ·have hd : tokR (if mi then 45 else 43) [] (49 :: 47 :: (codes (Lib.itoa m) ++ (codes (pieceT [42] ms) ++ c :: R))) = ((if mi then 45 else 43), 1) :: (chainT 47 m ms ++ tokR c [] R) := by
    have e1 : atoiS ([] ++ [UInt8.ofNat (Int.toNat 49)]) = 1 := by decide +kernel
    rw [tokR_cons, if_pos (by omega), tokR_other _ _ _ _ (by omega), e1, tokR_digits _ _ _ _ h1, tokR_marks ms 47 ([] ++ Lib.itoa m) c R (fun x hx => hm x (by simp [hx])) hc, List.nil_append, h2]
   rw [hd, ht, List.flatMap_cons]
   rfl
theorem foldl_chain : ∀ (ms : List Int) (sg v wh : Int) (acc : List (Bool × List Int)) (mi : Bool) (xs : List Int), sg ≠ 0 → sg ≠ 43 → sg ≠ 45 →
  (chainT sg v ms).foldl parStep (wh, acc ++ [(mi, xs)]) = (wh, acc ++ [(mi, xs ++ v :: ms)])
 | [], sg, v, wh, acc, mi, xs, h0, h1, h2 => by
  simp only [chainT, List.foldl_cons, List.foldl_nil, parStep]
  rw [if_neg h0, if_neg (by omega), appLast_snoc]
 | m :: ms, sg, v, wh, acc, mi, xs, h0, h1, h2 => by
  simp only [chainT, List.foldl_cons]
  have e : parStep (wh, acc ++ [(mi, xs)]) (sg, v) = (wh, acc ++ [(mi, xs ++ [v])]) := by
   simp only [parStep]
   rw [if_neg h0, if_neg (by omega), appLast_snoc]
  rw [e, foldl_chain ms 42 m wh acc mi (xs ++ [v]) (by omega) (by omega) (by omega)]
  simp
theorem foldl_flat : ∀ (l acc : List (Bool × List Int)) (wh : Int), (∀ p ∈ l, pieceOK p = true) → (l.flatMap pieceToks).foldl parStep (wh, acc) = (wh, acc ++ l)
 | [], acc, wh, _ => by simp
 | p :: l, acc, wh, h => by
  obtain ⟨hne, hm⟩ := pieceOK_mem (h p (by simp))
  obtain ⟨mi, ms⟩ := p
  obtain ⟨m, ms, rfl⟩ := List.exists_cons_of_ne_nil hne
  rw [List.flatMap_cons, List.foldl_append]
  have e : (pieceToks (mi, m :: ms)).foldl parStep (wh, acc) = (wh, acc ++ [(mi, m :: ms)]) := by
   simp only [pieceToks, List.foldl_cons]
   have e1 : parStep (wh, acc) (if mi then 45 else 43, 1) = (wh, acc ++ [(mi, [])]) := by cases mi <;> simp [parStep]
   rw [e1, foldl_chain ms 47 m wh acc mi [] (by omega) (by omega) (by omega)]
   simp
  rw [e, foldl_flat l _ wh (fun q hq => h q (by simp [hq]))]
  simp
theorem oldOK_split {wh : Int} {l : List (Bool × List Int)} (h : oldOK wh l = true) : (0 ≤ wh ∧ wh ≤ 1000) ∧ l.length ≤ 8 ∧ ∀ p ∈ l, pieceOK p = true := by
 simp only [oldOK, Bool.and_eq_true, inB, decide_eq_true_eq, List.all_eq_true] at h
 exact ⟨by omega, h.1.2, h.2⟩
theorem tokR_text {wh : Int} {l : List (Bool × List Int)} (h : oldOK wh l = true) : parF (tokR 0 [] (codes (textS wh l) ++ [46])) = (wh, l) := by
 obtain ⟨hw, _, hp⟩ := oldOK_split h
 obtain ⟨h1, h2⟩ := itoa_dig hw
 obtain ⟨c, R, e, hc, ht⟩ := tokR_flat l hp
 have e0 : codes (textS wh l) ++ [46] = codes (Lib.itoa wh) ++ c :: R := by
  unfold textS
  rw [codes_append, List.append_assoc]
  show codes (Lib.itoa wh) ++ (codes (flatT l) ++ [46]) = _
  rw [e]
 rw [e0, tokR_digits _ _ _ _ h1, tokR_other _ _ _ _ hc, List.nil_append, h2, ht]
 unfold parF
 rw [List.foldl_cons]
 show (l.flatMap pieceToks).foldl parStep (wh, []) = _
 rw [foldl_flat l [] wh hp, List.nil_append]
end Go.Proofs.YtaacnbnmlfhnaaaGreatDoor
namespace Go.Proofs.YtaacnbnmlfhnaaaGreatDoor
theorem decode_ascii {s : ByteArray} {i : Nat} (h : (s.get! i).toNat < 128) : Utf8.decode s i = ((s.get! i).toNat, 1) := by
 unfold Utf8.decode
 simp [h]
theorem get_list {l : List UInt8} {i : Nat} (h : i < l.length) : (⟨l.toArray⟩ : ByteArray).get! i = l[i] := by
 show l.toArray[i]! = l[i]
 simp [h]
theorem runesF_ascii : ∀ (f : Nat) (l : List UInt8) (pos : Nat), (∀ b ∈ l, b.toNat < 128) → l.length ≤ pos + f → runesF f ⟨l.toArray⟩ pos = codes (l.drop pos)
 | 0, l, pos, _, h => by
  rw [List.drop_eq_nil_of_le (by omega)]
  rfl
 | f + 1, l, pos, ha, h => by
  unfold runesF
  have hs : (⟨l.toArray⟩ : ByteArray).size = l.length := by show l.toArray.size = _; simp
  by_cases hp : pos < l.length
  ·have hb : ((⟨l.toArray⟩ : ByteArray).get! pos).toNat < 128 := by rw [get_list hp]; exact ha _ (List.getElem_mem hp)
   rw [if_pos (by omega), decode_ascii hb, runesF_ascii f l (pos + 1) ha (by omega), get_list hp, List.drop_eq_getElem_cons hp]
   rfl
  ·rw [if_neg (by omega), List.drop_eq_nil_of_le (by omega)]
   rfl
theorem tokS_ascii {l : List UInt8} (ha : ∀ b ∈ l, b.toNat < 128) : tokS ⟨l.toArray⟩ = tokR 0 [] (codes l ++ [46]) := by
 have e : dotted ⟨l.toArray⟩ = ⟨(l ++ [46]).toArray⟩ := str_append l [46]
 unfold tokS
 rw [dotted_size, e, runesF_ascii _ (l ++ [46]) 0 ?_ ?_, List.drop_zero, codes_append]
 ·rfl
 ·intro b hb
  rcases List.mem_append.1 hb with h | h
  ·exact ha b h
  ·rw [List.mem_singleton.1 h]; decide
 ·have hs : (⟨l.toArray⟩ : ByteArray).size = l.length := by show l.toArray.size = _; simp
  rw [hs]; simp
theorem pieceT_ascii : ∀ (ms : List Int) (ld : List UInt8), (∀ b ∈ ld, b.toNat < 128) → (∀ m ∈ ms, 0 ≤ m ∧ m ≤ 1000) → ∀ b ∈ pieceT ld ms, b.toNat < 128
 | [], _, _, _, b, hb => by cases hb
 | m :: ms, ld, hl, hm, b, hb => by
  rw [pieceT_cons] at hb
  rcases List.mem_append.1 hb with h | h
  ·rcases List.mem_append.1 h with h | h
   ·exact hl b h
   ·have := (itoa_dig (hm m (by simp))).1 b h; omega
  ·exact pieceT_ascii ms [42] (by decide) (fun x hx => hm x (by simp [hx])) b h
theorem textS_ascii {wh : Int} {l : List (Bool × List Int)} (h : oldOK wh l = true) : ∀ b ∈ textS wh l, b.toNat < 128 := by
 obtain ⟨hw, _, hp⟩ := oldOK_split h
 intro b hb
 unfold textS at hb
 rcases List.mem_append.1 hb with h | h
 ·have := (itoa_dig hw).1 b h; omega
 ·obtain ⟨p, hpl, hb⟩ := List.mem_flatMap.1 h
  refine pieceT_ascii p.2 (leadT p.1) ?_ (pieceOK_mem (hp p hpl)).2 b hb
  cases p.1 <;> decide
theorem size_list (l : List UInt8) : (⟨l.toArray⟩ : ByteArray).size = l.length := by show l.toArray.size = _; simp
theorem parse_text {wh : Int} {l : List (Bool × List Int)} (h : oldOK wh l = true) : parseS ⟨(textS wh l).toArray⟩ = if 300 < (textS wh l).length then (0, [], 5) else (wh, l, 0) := by
 unfold parseS
 rw [tokS_ascii (textS_ascii h), tokR_text h, size_list]
 by_cases h3 : 300 < (textS wh l).length
 ·rw [if_pos h3, if_pos h3]
 ·rw [if_neg h3, if_neg h3, if_pos ⟨h, rfl⟩]
theorem parse_back {s : ByteArray} {wh : Int} {l : List (Bool × List Int)} {e : Int} (h : parseS s = (wh, l, e)) : (e = 0 ∧ oldOK wh l = true ∧ (⟨(textS wh l).toArray⟩ : ByteArray) = s) ∨ (wh = 0 ∧ l = [] ∧ (e = 4 ∨ e = 5)) := by
 unfold parseS at h
 split at h
 ·injection h with h1 h2
  injection h2 with h2 h3
  exact .inr ⟨h1.symm, h2.symm, .inr h3.symm⟩
 ·split at h
  ·rename_i hc
   injection h with h1 h2
   injection h2 with h2 h3
   rw [h1, h2] at hc
   exact .inl ⟨h3.symm, hc.1, hc.2⟩
  ·injection h with h1 h2
   injection h2 with h2 h3
   exact .inr ⟨h1.symm, h2.symm, .inl h3.symm⟩
theorem textS_pos (wh : Int) (l : List (Bool × List Int)) (h : oldOK wh l = true) : 0 < (textS wh l).length := by
 obtain ⟨hw, _, _⟩ := oldOK_split h
 have e := (itoa_dig hw).2
 have : Lib.itoa wh ≠ [] := by
  intro h0
  rw [h0] at e
  have : atoiS [] = -1 := by decide +kernel
  omega
 have := List.length_pos_iff.2 this
 unfold textS
 rw [List.length_append]
 omega
end Go.Proofs.YtaacnbnmlfhnaaaGreatDoor
namespace Go.Proofs.YtaacnbnmlfhnaaaGreatDoor
def isDig (b : UInt8) : Bool := decide (48 ≤ b.toNat ∧ b.toNat ≤ 57)
def numP (s : ByteArray) : Nat → Nat → Int → Int × Nat
 | 0, i, n => (n, i)
 | k + 1, i, n => if i < s.size ∧ isDig (s.get! i) = true then numP s k (i + 1) (10 * n + ((s.get! i).toNat - 48 : Int)) else (n, i)
def marksP (s : ByteArray) : Nat → Nat → List Int → List Int × Nat × Bool
 | 0, i, ms => (ms, i, false)
 | f + 1, i, ms =>
  if (numP s 4 (i + 1) 0).2 ≤ i + 1 then (ms ++ [(numP s 4 (i + 1) 0).1], (numP s 4 (i + 1) 0).2, false)
  else if (numP s 4 (i + 1) 0).2 < s.size ∧ s.get! (numP s 4 (i + 1) 0).2 = 42 then marksP s f (numP s 4 (i + 1) 0).2 (ms ++ [(numP s 4 (i + 1) 0).1])
  else (ms ++ [(numP s 4 (i + 1) 0).1], (numP s 4 (i + 1) 0).2, true)
def piecesP (s : ByteArray) : Nat → Nat → List (Bool × List Int) → List (Bool × List Int) × Bool
 | 0, _, l => (l, true)
 | f + 1, i, l =>
  if i < s.size then
   if (marksP s (s.size + 1) (i + 2) []).2.2 = true then piecesP s f (marksP s (s.size + 1) (i + 2) []).2.1 (l ++ [(decide (s.get! i = 45), (marksP s (s.size + 1) (i + 2) []).1)])
   else (l ++ [(decide (s.get! i = 45), (marksP s (s.size + 1) (i + 2) []).1)], false)
  else (l, true)
def readP (s : ByteArray) : Int × List (Bool × List Int) × Bool :=
 if (numP s 4 0 0).2 = 0 then ((numP s 4 0 0).1, [], false) else ((numP s 4 0 0).1, piecesP s (s.size + 1) (numP s 4 0 0).2 [])
def valD (n : Int) (d : List UInt8) : Int := d.foldl (fun n b => 10 * n + (b.toNat - 48 : Int)) n
def offD (R : List UInt8) : Prop := ∀ b, R.head? = some b → isDig b = false
theorem numP_text : ∀ (d : List UInt8) (k i : Nat) (n : Int) (bs R : List UInt8), bs.drop i = d ++ R → (∀ b ∈ d, isDig b = true) → d.length ≤ k → offD R → numP ⟨bs.toArray⟩ k i n = (valD n d, i + d.length)
 | [], 0, i, n, bs, R, _, _, _, _ => rfl
 | [], k + 1, i, n, bs, R, h, _, _, hR => by
  unfold numP
  rw [if_neg]
  ·rfl
  ·rintro ⟨h1, h2⟩
   rw [size_list] at h1
   rw [get_list h1] at h2
   rw [List.nil_append, List.drop_eq_getElem_cons h1] at h
   have h3 := hR bs[i] (by rw [← h]; rfl)
   rw [h3] at h2
   exact absurd h2 (by decide)
 | b :: d, 0, i, n, bs, R, _, _, hk, _ => by simp at hk
 | b :: d, k + 1, i, n, bs, R, h, hd, hk, hR => by
  have h1 : i < bs.length := by
   rcases Nat.lt_or_ge i bs.length with h1 | h1
   ·exact h1
   ·rw [List.drop_eq_nil_of_le h1] at h; simp at h
  rw [List.drop_eq_getElem_cons h1] at h
  injection h with hb ht
  unfold numP
  rw [size_list, get_list h1, hb, if_pos ⟨h1, hd b (by simp)⟩, numP_text d k (i + 1) _ bs R ht (fun x hx => hd x (by simp [hx])) (by simpa using hk) hR]
  show (_, _) = (valD n (b :: d), _)
  rw [show valD n (b :: d) = valD (10 * n + (b.toNat - 48 : Int)) d from rfl, List.length_cons]
  congr 1
  omega
theorem itoa_val4 : ∀ m : Nat, m < 1001 → ((Lib.itoa (m : Int)).all isDig && decide ((Lib.itoa (m : Int)).length ≤ 4) && decide (0 < (Lib.itoa (m : Int)).length) && decide (valD 0 (Lib.itoa (m : Int)) = (m : Int))) = true := by decide +kernel
theorem itoa_val {m : Int} (h : 0 ≤ m ∧ m ≤ 1000) : (∀ b ∈ Lib.itoa m, isDig b = true) ∧ (Lib.itoa m).length ≤ 4 ∧ 0 < (Lib.itoa m).length ∧ valD 0 (Lib.itoa m) = m := by
 obtain ⟨k, rfl⟩ := Int.eq_ofNat_of_zero_le h.1
 have h1 := itoa_val4 k (by omega)
 simp only [Bool.and_eq_true, decide_eq_true_eq, List.all_eq_true] at h1
 exact ⟨h1.1.1.1, h1.1.1.2, h1.1.2, h1.2⟩
theorem numP_itoa {m : Int} (h : 0 ≤ m ∧ m ≤ 1000) {i : Nat} {bs R : List UInt8} (hb : bs.drop i = Lib.itoa m ++ R) (hR : offD R) : numP ⟨bs.toArray⟩ 4 i 0 = (m, i + (Lib.itoa m).length) := by
 obtain ⟨h1, h2, _, h4⟩ := itoa_val h
 rw [numP_text _ 4 i 0 bs R hb h1 h2 hR, h4]
theorem drop_app {bs a R : List UInt8} {i : Nat} (h : bs.drop i = a ++ R) : bs.drop (i + a.length) = R := by
 rw [← List.drop_drop, h, List.drop_left]
theorem offD_star (R : List UInt8) : offD (42 :: R) := fun b hb => by
 injection hb with hb; subst hb; decide
theorem marksP_text : ∀ (ms : List Int) (m : Int) (f i : Nat) (acc : List Int) (bs R : List UInt8), bs.drop (i + 1) = Lib.itoa m ++ (pieceT [42] ms ++ R) → (∀ x ∈ m :: ms, 0 ≤ x ∧ x ≤ 1000) → offD R → (∀ b, R.head? = some b → b ≠ 42) → ms.length < f →
  marksP ⟨bs.toArray⟩ f i acc = (acc ++ m :: ms, i + 1 + (Lib.itoa m ++ pieceT [42] ms).length, true)
 | ms, m, 0, i, acc, bs, R, _, _, _, _, hf => by simp at hf
 | [], m, f + 1, i, acc, bs, R, hb, hm, hR, hs, _ => by
  rw [show pieceT [42] [] = [] from rfl, List.nil_append] at hb
  have hn := numP_itoa (hm m (by simp)) hb hR
  obtain ⟨_, _, h3, _⟩ := itoa_val (hm m (by simp))
  have hd := drop_app hb
  unfold marksP
  rw [hn]
  dsimp only
  rw [if_neg (by omega), if_neg]
  ·rw [show pieceT [42] [] = [] from rfl, List.append_nil]
  ·rintro ⟨h1, h2⟩
   rw [size_list] at h1
   rw [get_list h1] at h2
   rw [List.drop_eq_getElem_cons h1] at hd
   exact hs _ (by rw [← hd]; rfl) h2
 | m2 :: ms, m, f + 1, i, acc, bs, R, hb, hm, hR, hs, hf => by
  have e : pieceT [42] (m2 :: ms) ++ R = 42 :: (Lib.itoa m2 ++ (pieceT [42] ms ++ R)) := by
   rw [pieceT_cons]; simp
  rw [e] at hb
  have hn := numP_itoa (hm m (by simp)) hb (offD_star _)
  obtain ⟨_, _, h3, _⟩ := itoa_val (hm m (by simp))
  have hd := drop_app hb
  have h1 : i + 1 + (Lib.itoa m).length < bs.length := by
   rcases Nat.lt_or_ge (i + 1 + (Lib.itoa m).length) bs.length with h1 | h1
   ·exact h1
   ·rw [List.drop_eq_nil_of_le h1] at hd; simp at hd
  have hd2 : bs.drop (i + 1 + (Lib.itoa m).length + 1) = Lib.itoa m2 ++ (pieceT [42] ms ++ R) := by
   rw [← List.drop_drop, hd]; rfl
  have h42 : bs[i + 1 + (Lib.itoa m).length] = 42 := by
   rw [List.drop_eq_getElem_cons h1] at hd
   injection hd
  unfold marksP
  rw [hn]
  dsimp only
  rw [if_neg (by omega), if_pos ⟨by rw [size_list]; exact h1, by rw [get_list h1]; exact h42⟩, marksP_text ms m2 f _ (acc ++ [m]) bs R hd2 (fun x hx => hm x (by simp only [List.mem_cons] at hx ⊢; exact .inr hx)) hR hs (by simp at hf; omega)]
  rw [pieceT_cons]
  simp only [List.append_assoc, List.singleton_append, List.length_append, List.length_singleton, List.length_cons, List.length_nil]
  congr 2
  omega
theorem flatT_cons (p : Bool × List Int) (l : List (Bool × List Int)) : flatT (p :: l) = pieceT (leadT p.1) p.2 ++ flatT l := by unfold flatT; rw [List.flatMap_cons]
theorem flatT_head : ∀ (l : List (Bool × List Int)), (∀ p ∈ l, pieceOK p = true) → ∀ b, (flatT l).head? = some b → b = 45 ∨ b = 43
 | [], _, b, h => by simp [flatT] at h
 | p :: l, hp, b, h => by
  obtain ⟨hne, _⟩ := pieceOK_mem (hp p (by simp))
  obtain ⟨mi, ms⟩ := p
  obtain ⟨m, ms, rfl⟩ := List.exists_cons_of_ne_nil hne
  rw [flatT_cons] at h
  dsimp only at h
  rw [pieceT_cons] at h
  cases mi
  ·simp [leadT] at h; exact .inr h.symm
  ·simp [leadT] at h; exact .inl h.symm
theorem leadT_cons (mi : Bool) : leadT mi = (if mi then 45 else 43) :: [49, 47] := by cases mi <;> rfl
theorem piecesP_text : ∀ (l acc : List (Bool × List Int)) (f i : Nat) (bs : List UInt8), bs.drop i = flatT l → (∀ p ∈ l, pieceOK p = true) → l.length < f → (∀ p ∈ l, p.2.length ≤ bs.length) → piecesP ⟨bs.toArray⟩ f i acc = (acc ++ l, true)
 | l, acc, 0, i, bs, _, _, hf, _ => by simp at hf
 | [], acc, f + 1, i, bs, h, _, _, _ => by
  unfold piecesP
  rw [if_neg]
  ·simp
  ·intro h1
   rw [size_list] at h1
   rw [List.drop_eq_getElem_cons h1] at h
   simp [flatT] at h
   omega
 | p :: l, acc, f + 1, i, bs, h, hp, hf, hl => by
  obtain ⟨hne, hm⟩ := pieceOK_mem (hp p (by simp))
  have hlp := hl p (by simp)
  obtain ⟨mi, ms⟩ := p
  obtain ⟨m, ms, rfl⟩ := List.exists_cons_of_ne_nil hne
  have hh := flatT_head l (fun q hq => hp q (by simp [hq]))
  rw [flatT_cons] at h
  dsimp only at h
  rw [pieceT_cons, leadT_cons] at h
  have h1 : i < bs.length := by
   rcases Nat.lt_or_ge i bs.length with h1 | h1
   ·exact h1
   ·rw [List.drop_eq_nil_of_le h1] at h; simp at h
  have hd3 : bs.drop (i + 2 + 1) = Lib.itoa m ++ (pieceT [42] ms ++ flatT l) := by
   rw [show i + 2 + 1 = i + 3 from rfl, ← List.drop_drop, h]
   simp
  have hb : bs[i] = if mi then 45 else 43 := by
   rw [List.drop_eq_getElem_cons h1] at h
   simp only [List.cons_append] at h
   injection h
  have hms : marksP ⟨bs.toArray⟩ ((⟨bs.toArray⟩ : ByteArray).size + 1) (i + 2) [] = (m :: ms, i + 2 + 1 + (Lib.itoa m ++ pieceT [42] ms).length, true) := by
   have h5 := marksP_text ms m ((⟨bs.toArray⟩ : ByteArray).size + 1) (i + 2) [] bs (flatT l) hd3 hm (fun b hb => by
    rcases hh b hb with rfl | rfl <;> decide) (fun b hb => by rcases hh b hb with rfl | rfl <;> decide) (by rw [size_list]; simp at hlp; omega)
   simpa using h5
  unfold piecesP
  rw [if_pos (by rw [size_list]; exact h1), hms]
  dsimp only
  rw [if_pos rfl, get_list h1, hb]
  have hmi : decide ((if mi then (45 : UInt8) else 43) = 45) = mi := by cases mi <;> decide
  have hdn : bs.drop (i + 2 + 1 + (Lib.itoa m ++ pieceT [42] ms).length) = flatT l := by
   rw [← List.append_assoc] at hd3
   exact drop_app hd3
  rw [hmi, piecesP_text l (acc ++ [(mi, m :: ms)]) f _ bs hdn (fun q hq => hp q (by simp [hq])) (by simp at hf; omega) (fun q hq => hl q (by simp [hq]))]
  simp
theorem pieceT_len_le : ∀ (ms : List Int) (ld : List UInt8), (∀ m ∈ ms, 0 ≤ m ∧ m ≤ 1000) → ms.length ≤ (pieceT ld ms).length
 | [], _, _ => by simp
 | m :: ms, ld, h => by
  obtain ⟨_, _, h3, _⟩ := itoa_val (h m (by simp))
  have h4 := pieceT_len_le ms [42] (fun x hx => h x (by simp [hx]))
  rw [pieceT_cons]
  simp only [List.length_append, List.length_cons]
  omega
theorem flatT_len_le : ∀ (l : List (Bool × List Int)), (∀ p ∈ l, pieceOK p = true) → l.length ≤ (flatT l).length ∧ ∀ p ∈ l, p.2.length ≤ (flatT l).length
 | [], _ => ⟨by simp, fun _ h => by cases h⟩
 | p :: l, h => by
  obtain ⟨h1, h2⟩ := flatT_len_le l (fun q hq => h q (by simp [hq]))
  obtain ⟨hne, hm⟩ := pieceOK_mem (h p (by simp))
  have h3 := pieceT_len_le p.2 (leadT p.1) hm
  have h4 := List.length_pos_iff.2 hne
  rw [flatT_cons, List.length_append, List.length_cons]
  refine ⟨by omega, fun q hq => ?_⟩
  rcases List.mem_cons.1 hq with rfl | hq
  ·omega
  ·have := h2 q hq; omega
theorem readP_text {wh : Int} {l : List (Bool × List Int)} (h : oldOK wh l = true) : readP ⟨(textS wh l).toArray⟩ = (wh, l, true) := by
 obtain ⟨hw, _, hp⟩ := oldOK_split h
 obtain ⟨_, _, h3, _⟩ := itoa_val hw
 have hh := flatT_head l hp
 have e : textS wh l = Lib.itoa wh ++ flatT l := rfl
 have hn := numP_itoa (bs := textS wh l) (i := 0) hw (R := flatT l) (by rw [List.drop_zero, e]) (fun b hb => by rcases hh b hb with rfl | rfl <;> decide)
 obtain ⟨h4, h5⟩ := flatT_len_le l hp
 have hel : (textS wh l).length = (Lib.itoa wh).length + (flatT l).length := by rw [e, List.length_append]
 unfold readP
 rw [hn]
 dsimp only
 rw [if_neg (by omega), Nat.zero_add, piecesP_text l [] _ _ (textS wh l) (by rw [e, List.drop_left]) hp (by rw [size_list]; omega) (fun p hp => by have := h5 p hp; omega), List.nil_append]
def refParS (s : ByteArray) : Int × List (Bool × List Int) × Int :=
 if 300 < s.size then (0, [], 5)
 else if (readP s).2.2 = true ∧ oldOK (readP s).1 (readP s).2.1 = true ∧ (⟨(textS (readP s).1 (readP s).2.1).toArray⟩ : ByteArray) = s then ((readP s).1, (readP s).2.1, 0)
 else (0, [], 4)
theorem refParS_eq (s : ByteArray) : refParS s = parseS s := by
 unfold refParS
 by_cases h3 : 300 < s.size
 ·rw [if_pos h3]
  unfold parseS
  rw [if_pos h3]
 rw [if_neg h3]
 by_cases hc : (readP s).2.2 = true ∧ oldOK (readP s).1 (readP s).2.1 = true ∧ (⟨(textS (readP s).1 (readP s).2.1).toArray⟩ : ByteArray) = s
 ·rw [if_pos hc]
  have h5 := parse_text hc.2.1
  rw [hc.2.2] at h5
  have h6 := size_list (textS (readP s).1 (readP s).2.1)
  rw [hc.2.2] at h6
  rw [h5, if_neg (by omega)]
 ·rw [if_neg hc]
  obtain ⟨wh, l, e, hp⟩ : ∃ wh l e, parseS s = (wh, l, e) := ⟨_, _, _, rfl⟩
  rcases parse_back hp with ⟨rfl, h1, h2⟩ | ⟨rfl, rfl, h4⟩
  ·have h5 := readP_text h1
   rw [h2] at h5
   exact absurd ⟨by rw [h5], by rw [h5]; exact h1, by rw [h5]; exact h2⟩ hc
  ·rcases h4 with rfl | rfl
   ·exact hp.symm
   ·unfold parseS at hp
    rw [if_neg h3] at hp
    split at hp
    ·injection hp with _ hp; injection hp with _ hp; omega
    ·injection hp with _ hp; injection hp with _ hp; omega
end Go.Proofs.YtaacnbnmlfhnaaaGreatDoor
