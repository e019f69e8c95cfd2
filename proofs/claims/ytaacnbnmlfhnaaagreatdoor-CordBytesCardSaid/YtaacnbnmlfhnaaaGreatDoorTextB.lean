/-
  Plain law: cord.Parse of the text of an old fraction is the same old fraction, or the text is too long; what is read has the text that was read; a text with one byte less is not read as the same.
-/
import Derived.Test.YtaacnbnmlfhnaaaGreatDoorTextA
set_option linter.unusedVariables false
set_option linter.unusedSimpArgs false
namespace Go.Proofs.YtaacnbnmlfhnaaaGreatDoor

theorem decode_ascii {s : ByteArray} {i : Nat} (h : (s.get! i).toNat < 128) : Utf8.decode s i = ((s.get! i).toNat, 1) := by
  unfold Utf8.decode
  simp [h]
theorem get_list {l : List UInt8} {i : Nat} (h : i < l.length) : (⟨l.toArray⟩ : ByteArray).get! i = l[i] := by
  show l.toArray[i]! = l[i]
  simp [h]
theorem runesF_ascii : ∀ (f : Nat) (l : List UInt8) (pos : Nat), (∀ b ∈ l, b.toNat < 128) → l.length ≤ pos + f → runesF f ⟨l.toArray⟩ pos = codes (l.drop pos)
  | 0, l, pos, _, h => by
    rw [List.drop_eq_nil_of_le (by omega)]
    rfl
  | f + 1, l, pos, ha, h => by
    unfold runesF
    have hs : (⟨l.toArray⟩ : ByteArray).size = l.length := by show l.toArray.size = _; simp
    by_cases hp : pos < l.length
    · have hb : ((⟨l.toArray⟩ : ByteArray).get! pos).toNat < 128 := by rw [get_list hp]; exact ha _ (List.getElem_mem hp)
      rw [if_pos (by omega), decode_ascii hb, runesF_ascii f l (pos + 1) ha (by omega), get_list hp, List.drop_eq_getElem_cons hp]
      rfl
    · rw [if_neg (by omega), List.drop_eq_nil_of_le (by omega)]
      rfl
theorem tokS_ascii {l : List UInt8} (ha : ∀ b ∈ l, b.toNat < 128) : tokS ⟨l.toArray⟩ = tokR 0 [] (codes l ++ [46]) := by
  have e : dotted ⟨l.toArray⟩ = ⟨(l ++ [46]).toArray⟩ := str_append l [46]
  unfold tokS
  rw [dotted_size, e, runesF_ascii _ (l ++ [46]) 0 ?_ ?_, List.drop_zero, codes_append]
  · rfl
  · intro b hb
    rcases List.mem_append.1 hb with h | h
    · exact ha b h
    · rw [List.mem_singleton.1 h]; decide
  · have hs : (⟨l.toArray⟩ : ByteArray).size = l.length := by show l.toArray.size = _; simp
    rw [hs]; simp

theorem pieceT_ascii : ∀ (ms : List Int) (ld : List UInt8), (∀ b ∈ ld, b.toNat < 128) → (∀ m ∈ ms, 0 ≤ m ∧ m ≤ 1000) → ∀ b ∈ pieceT ld ms, b.toNat < 128
  | [], _, _, _, b, hb => by cases hb
  | m :: ms, ld, hl, hm, b, hb => by
    rw [pieceT_cons] at hb
    rcases List.mem_append.1 hb with h | h
    · rcases List.mem_append.1 h with h | h
      · exact hl b h
      · have := (itoa_dig (hm m (by simp))).1 b h; omega
    · exact pieceT_ascii ms [42] (by decide) (fun x hx => hm x (by simp [hx])) b h
theorem textS_ascii {wh : Int} {l : List (Bool × List Int)} (h : oldOK wh l = true) : ∀ b ∈ textS wh l, b.toNat < 128 := by
  obtain ⟨hw, _, hp⟩ := oldOK_split h
  intro b hb
  unfold textS at hb
  rcases List.mem_append.1 hb with h | h
  · have := (itoa_dig hw).1 b h; omega
  · obtain ⟨p, hpl, hb⟩ := List.mem_flatMap.1 h
    refine pieceT_ascii p.2 (leadT p.1) ?_ (pieceOK_mem (hp p hpl)).2 b hb
    cases p.1 <;> decide

theorem size_list (l : List UInt8) : (⟨l.toArray⟩ : ByteArray).size = l.length := by show l.toArray.size = _; simp
/-- What is written is read as the same, or it is too long. -/
theorem parse_text {wh : Int} {l : List (Bool × List Int)} (h : oldOK wh l = true) : parseS ⟨(textS wh l).toArray⟩ = if 300 < (textS wh l).length then (0, [], 5) else (wh, l, 0) := by
  unfold parseS
  rw [tokS_ascii (textS_ascii h), tokR_text h, size_list]
  by_cases h3 : 300 < (textS wh l).length
  · rw [if_pos h3, if_pos h3]
  · rw [if_neg h3, if_neg h3, if_pos ⟨h, rfl⟩]
/-- What is read without an error has the text that was read. -/
theorem parse_back {s : ByteArray} {wh : Int} {l : List (Bool × List Int)} {e : Int} (h : parseS s = (wh, l, e)) : (e = 0 ∧ oldOK wh l = true ∧ (⟨(textS wh l).toArray⟩ : ByteArray) = s) ∨ (wh = 0 ∧ l = [] ∧ (e = 4 ∨ e = 5)) := by
  unfold parseS at h
  split at h
  · injection h with h1 h2
    injection h2 with h2 h3
    exact .inr ⟨h1.symm, h2.symm, .inr h3.symm⟩
  · split at h
    · rename_i hc
      injection h with h1 h2
      injection h2 with h2 h3
      rw [h1, h2] at hc
      exact .inl ⟨h3.symm, hc.1, hc.2⟩
    · injection h with h1 h2
      injection h2 with h2 h3
      exact .inr ⟨h1.symm, h2.symm, .inl h3.symm⟩
theorem textS_pos (wh : Int) (l : List (Bool × List Int)) (h : oldOK wh l = true) : 0 < (textS wh l).length := by
  obtain ⟨hw, _, _⟩ := oldOK_split h
  have e := (itoa_dig hw).2
  have : Lib.itoa wh ≠ [] := by
    intro h0
    rw [h0] at e
    have : atoiS [] = -1 := by decide +kernel
    omega
  have := List.length_pos_iff.2 this
  unfold textS
  rw [List.length_append]
  omega
end Go.Proofs.YtaacnbnmlfhnaaaGreatDoor
