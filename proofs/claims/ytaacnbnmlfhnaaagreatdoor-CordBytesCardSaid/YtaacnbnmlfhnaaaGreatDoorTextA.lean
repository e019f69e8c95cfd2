/-
  Plain law: the text of an old fraction is read as the same old fraction; what is read has the text that was read.
-/
import Derived.Test.YtaacnbnmlfhnaaaGreatDoorCordSToCordV
set_option linter.unusedVariables false
set_option linter.unusedSimpArgs false
namespace Go.Proofs.YtaacnbnmlfhnaaaGreatDoor

theorem itoa_good : ∀ m : Nat, m < 1001 → ((Lib.itoa (m : Int)).all fun b => decide (48 ≤ b.toNat ∧ b.toNat ≤ 57)) = true ∧ atoiS (Lib.itoa (m : Int)) = (m : Int) := by decide +kernel
theorem itoa_dig {m : Int} (h : 0 ≤ m ∧ m ≤ 1000) : (∀ b ∈ Lib.itoa m, 48 ≤ b.toNat ∧ b.toNat ≤ 57) ∧ atoiS (Lib.itoa m) = m := by
  obtain ⟨k, rfl⟩ := Int.eq_ofNat_of_zero_le h.1
  obtain ⟨h1, h2⟩ := itoa_good k (by omega)
  exact ⟨fun b hb => by simpa using List.all_eq_true.1 h1 b hb, h2⟩

theorem tokR_cons (sg c : Int) (ds : List UInt8) (cs : List Int) : tokR sg ds (c :: cs) = if 48 ≤ c ∧ c ≤ 57 then tokR sg (ds ++ [UInt8.ofNat c.toNat]) cs else (sg, atoiS ds) :: tokR c [] cs := rfl
theorem pieceT_cons (ld : List UInt8) (m : Int) (ms : List Int) : pieceT ld (m :: ms) = ld ++ Lib.itoa m ++ pieceT [42] ms := rfl
def codes (l : List UInt8) : List Int := l.map fun b => (b.toNat : Int)

theorem tokR_digits : ∀ (d : List UInt8) (sg : Int) (ds : List UInt8) (R : List Int), (∀ b ∈ d, 48 ≤ b.toNat ∧ b.toNat ≤ 57) → tokR sg ds (codes d ++ R) = tokR sg (ds ++ d) R
  | [], sg, ds, R, _ => by simp [codes]
  | b :: d, sg, ds, R, h => by
    have hb := h b (by simp)
    show tokR sg ds ((b.toNat : Int) :: (codes d ++ R)) = _
    rw [tokR_cons, if_pos (by omega)]
    have e : UInt8.ofNat ((b.toNat : Int)).toNat = b := by simp
    rw [e, tokR_digits d sg (ds ++ [b]) R (fun x hx => h x (by simp [hx]))]
    simp
theorem tokR_other (c sg : Int) (ds : List UInt8) (R : List Int) (h : ¬ (48 ≤ c ∧ c ≤ 57)) : tokR sg ds (c :: R) = (sg, atoiS ds) :: tokR c [] R := by
  rw [tokR_cons, if_neg h]

def chainT (sg v : Int) : List Int → List (Int × Int)
  | [] => [(sg, v)]
  | m :: ms => (sg, v) :: chainT 42 m ms
theorem codes_append (a b : List UInt8) : codes (a ++ b) = codes a ++ codes b := by simp [codes]
theorem tokR_marks : ∀ (ms : List Int) (sg : Int) (ds : List UInt8) (c : Int) (R : List Int), (∀ m ∈ ms, 0 ≤ m ∧ m ≤ 1000) → ¬ (48 ≤ c ∧ c ≤ 57) →
    tokR sg ds (codes (pieceT [42] ms) ++ c :: R) = chainT sg (atoiS ds) ms ++ tokR c [] R
  | [], sg, ds, c, R, _, hc => by
    show tokR sg ds (c :: R) = _
    rw [tokR_other _ _ _ _ hc]
    rfl
  | m :: ms, sg, ds, c, R, h, hc => by
    obtain ⟨h1, h2⟩ := itoa_dig (h m (by simp))
    rw [pieceT_cons, codes_append, codes_append, List.append_assoc, List.append_assoc]
    show tokR sg ds (42 :: (codes (Lib.itoa m) ++ (codes (pieceT [42] ms) ++ c :: R))) = _
    rw [tokR_other _ _ _ _ (by omega), tokR_digits _ _ _ _ h1, tokR_marks ms 42 ([] ++ Lib.itoa m) c R (fun x hx => h x (by simp [hx])) hc, List.nil_append, h2]
    rfl

def pieceToks (p : Bool × List Int) : List (Int × Int) :=
  match p.2 with
  | [] => []
  | m :: ms => (if p.1 then 45 else 43, 1) :: chainT 47 m ms
def flatT (l : List (Bool × List Int)) : List UInt8 := l.flatMap fun p => pieceT (leadT p.1) p.2

theorem pieceOK_mem {p : Bool × List Int} (h : pieceOK p = true) : p.2 ≠ [] ∧ ∀ m ∈ p.2, 0 ≤ m ∧ m ≤ 1000 := by
  simp only [pieceOK, Bool.and_eq_true, inB, decide_eq_true_eq, List.all_eq_true] at h
  refine ⟨fun e => ?_, fun m hm => ?_⟩
  · rw [e] at h
    have := h.1.1
    simp at this
  · have := h.2 m hm
    simp only [markOK, inB, Bool.and_eq_true, decide_eq_true_eq] at this
    omega

theorem tokR_flat : ∀ (l : List (Bool × List Int)), (∀ p ∈ l, pieceOK p = true) → ∃ c R, codes (flatT l) ++ [46] = c :: R ∧ ¬ (48 ≤ c ∧ c ≤ 57) ∧ tokR c [] R = l.flatMap pieceToks
  | [], _ => ⟨46, [], rfl, by omega, rfl⟩
  | p :: l, h => by
    obtain ⟨c, R, e, hc, ht⟩ := tokR_flat l (fun q hq => h q (by simp [hq]))
    obtain ⟨hne, hm⟩ := pieceOK_mem (h p (by simp))
    obtain ⟨mi, ms⟩ := p
    obtain ⟨m, ms, rfl⟩ := List.exists_cons_of_ne_nil hne
    obtain ⟨h1, h2⟩ := itoa_dig (hm m (by simp))
    refine ⟨if mi then 45 else 43, 49 :: 47 :: (codes (Lib.itoa m) ++ (codes (pieceT [42] ms) ++ c :: R)), ?_, by cases mi <;> simp, ?_⟩
    · rw [← e]
      unfold flatT
      rw [List.flatMap_cons, codes_append, List.append_assoc]
      show codes (pieceT (leadT mi) (m :: ms)) ++ _ = _
      rw [pieceT_cons, codes_append, codes_append]
      cases mi <;> simp [leadT, codes, flatT]
    · have hd : tokR (if mi then 45 else 43) [] (49 :: 47 :: (codes (Lib.itoa m) ++ (codes (pieceT [42] ms) ++ c :: R))) = ((if mi then 45 else 43), 1) :: (chainT 47 m ms ++ tokR c [] R) := by
        have e1 : atoiS ([] ++ [UInt8.ofNat (Int.toNat 49)]) = 1 := by decide +kernel
        rw [tokR_cons, if_pos (by omega), tokR_other _ _ _ _ (by omega), e1, tokR_digits _ _ _ _ h1, tokR_marks ms 47 ([] ++ Lib.itoa m) c R (fun x hx => hm x (by simp [hx])) hc, List.nil_append, h2]
      rw [hd, ht, List.flatMap_cons]
      rfl

theorem foldl_chain : ∀ (ms : List Int) (sg v wh : Int) (acc : List (Bool × List Int)) (mi : Bool) (xs : List Int), sg ≠ 0 → sg ≠ 43 → sg ≠ 45 →
    (chainT sg v ms).foldl parStep (wh, acc ++ [(mi, xs)]) = (wh, acc ++ [(mi, xs ++ v :: ms)])
  | [], sg, v, wh, acc, mi, xs, h0, h1, h2 => by
    simp only [chainT, List.foldl_cons, List.foldl_nil, parStep]
    rw [if_neg h0, if_neg (by omega), appLast_snoc]
  | m :: ms, sg, v, wh, acc, mi, xs, h0, h1, h2 => by
    simp only [chainT, List.foldl_cons]
    have e : parStep (wh, acc ++ [(mi, xs)]) (sg, v) = (wh, acc ++ [(mi, xs ++ [v])]) := by
      simp only [parStep]
      rw [if_neg h0, if_neg (by omega), appLast_snoc]
    rw [e, foldl_chain ms 42 m wh acc mi (xs ++ [v]) (by omega) (by omega) (by omega)]
    simp

theorem foldl_flat : ∀ (l acc : List (Bool × List Int)) (wh : Int), (∀ p ∈ l, pieceOK p = true) → (l.flatMap pieceToks).foldl parStep (wh, acc) = (wh, acc ++ l)
  | [], acc, wh, _ => by simp
  | p :: l, acc, wh, h => by
    obtain ⟨hne, hm⟩ := pieceOK_mem (h p (by simp))
    obtain ⟨mi, ms⟩ := p
    obtain ⟨m, ms, rfl⟩ := List.exists_cons_of_ne_nil hne
    rw [List.flatMap_cons, List.foldl_append]
    have e : (pieceToks (mi, m :: ms)).foldl parStep (wh, acc) = (wh, acc ++ [(mi, m :: ms)]) := by
      simp only [pieceToks, List.foldl_cons]
      have e1 : parStep (wh, acc) (if mi then 45 else 43, 1) = (wh, acc ++ [(mi, [])]) := by cases mi <;> simp [parStep]
      rw [e1, foldl_chain ms 47 m wh acc mi [] (by omega) (by omega) (by omega)]
      simp
    rw [e, foldl_flat l _ wh (fun q hq => h q (by simp [hq]))]
    simp

theorem oldOK_split {wh : Int} {l : List (Bool × List Int)} (h : oldOK wh l = true) : (0 ≤ wh ∧ wh ≤ 1000) ∧ l.length ≤ 8 ∧ ∀ p ∈ l, pieceOK p = true := by
  simp only [oldOK, Bool.and_eq_true, inB, decide_eq_true_eq, List.all_eq_true] at h
  exact ⟨by omega, h.1.2, h.2⟩

/-- The signs and numbers of the text of an old fraction. -/
theorem tokR_text {wh : Int} {l : List (Bool × List Int)} (h : oldOK wh l = true) : parF (tokR 0 [] (codes (textS wh l) ++ [46])) = (wh, l) := by
  obtain ⟨hw, _, hp⟩ := oldOK_split h
  obtain ⟨h1, h2⟩ := itoa_dig hw
  obtain ⟨c, R, e, hc, ht⟩ := tokR_flat l hp
  have e0 : codes (textS wh l) ++ [46] = codes (Lib.itoa wh) ++ c :: R := by
    unfold textS
    rw [codes_append, List.append_assoc]
    show codes (Lib.itoa wh) ++ (codes (flatT l) ++ [46]) = _
    rw [e]
  rw [e0, tokR_digits _ _ _ _ h1, tokR_other _ _ _ _ hc, List.nil_append, h2, ht]
  unfold parF
  rw [List.foldl_cons]
  show (l.flatMap pieceToks).foldl parStep (wh, []) = _
  rw [foldl_flat l [] wh hp, List.nil_append]
end Go.Proofs.YtaacnbnmlfhnaaaGreatDoor
