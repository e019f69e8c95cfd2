import Derived.Test.YthkblgglmohciaaGreatDoorCom
import Derived.Shelf.Strings.SlTrimAscii
import Derived.Test.YthkblgglmohciaaGreatDoorSurdGToSurdM
set_option linter.unusedVariables false
set_option linter.unusedSimpArgs false
namespace Go.Proofs.YthkblgglmohciaaGreatDoor
open Go.RowKit
attribute [local go_sem] Oper.semAt_some
def decS (l : List UInt8) : Int := l.foldl (fun (v : Int) (c : UInt8) => v * 10 + ((c.toNat - 48 : Nat) : Int)) 0
abbrev tenL : List UInt8 := [48, 49, 50, 51, 52, 53, 54, 55, 56, 57]
def digS (l : List UInt8) : Int × Bool := if l.length < 1 ∨ 6 < l.length ∨ Lib.trimS l tenL ≠ [] then (0, false) else (decS l, true)
theorem dropWhile_nil {α : Type} (p : α → Bool) : ∀ l : List α, l.dropWhile p = [] → ∀ x ∈ l, p x = true
 | [], _, x, hx => by cases hx
 | y :: l, h, x, hx => by
  rw [List.dropWhile_cons] at h
  split at h
  ·rename_i hy
   rcases List.mem_cons.1 hx with rfl | hx
   ·exact hy
   ·exact dropWhile_nil p l h x hx
  ·cases h
theorem dropWhile_head {α : Type} (p : α → Bool) : ∀ (l : List α) (y : α) (t : List α), l.dropWhile p = y :: t → p y = false
 | [], y, t, h => by cases h
 | x :: l, y, t, h => by
  rw [List.dropWhile_cons] at h
  split at h
  ·exact dropWhile_head p l y t h
  ·rename_i hx
   injection h with h1 _
   subst h1
   simpa using hx
theorem trimS_nil {l cs : List UInt8} (h : Lib.trimS l cs = []) : ∀ b ∈ l, cs.contains b = true := by
 unfold Lib.trimS Lib.trimLeftS at h
 have h1 := dropWhile_nil _ _ h
 unfold Lib.trimRightS at h1
 intro b hb
 rcases hd : l.reverse.dropWhile (cs.contains ·) with _ | ⟨y, t⟩
 ·exact dropWhile_nil _ _ hd b (List.mem_reverse.2 hb)
 ·have h2 := dropWhile_head _ _ _ _ hd
  rw [hd] at h1
  have h3 := h1 y (by simp)
  rw [h2] at h3; cases h3
theorem trimS_all {l cs : List UInt8} (h : ∀ b ∈ l, cs.contains b = true) : Lib.trimS l cs = [] := by
 have h1 : ∀ l : List UInt8, (∀ b ∈ l, cs.contains b = true) → l.dropWhile (cs.contains ·) = [] := fun l => by
  induction l with
  | nil => intro _; rfl
  | cons x l ih => intro h; rw [List.dropWhile_cons, if_pos (h x (by simp))]; exact ih (fun b hb => h b (List.mem_cons_of_mem _ hb))
 unfold Lib.trimS Lib.trimLeftS Lib.trimRightS
 rw [h1 l.reverse (fun b hb => h b (List.mem_reverse.1 hb))]
 rfl
theorem ten_dig {b : UInt8} (h : tenL.contains b = true) : 48 ≤ b.toNat ∧ b.toNat ≤ 57 := by
 simp only [tenL, List.contains_eq_mem, decide_eq_true_eq, List.mem_cons, List.not_mem_nil, or_false] at h
 rcases h with h | h | h | h | h | h | h | h | h | h <;> subst h <;> decide
theorem ten_of {b : UInt8} (h : 48 ≤ b.toNat ∧ b.toNat ≤ 57) : tenL.contains b = true := by
 have h2 : b.toNat = 48 ∨ b.toNat = 49 ∨ b.toNat = 50 ∨ b.toNat = 51 ∨ b.toNat = 52 ∨ b.toNat = 53 ∨ b.toNat = 54 ∨ b.toNat = 55 ∨ b.toNat = 56 ∨ b.toNat = 57 := by omega
 simp only [tenL, List.contains_eq_mem, decide_eq_true_eq, List.mem_cons, List.not_mem_nil, or_false]
 simp only [← UInt8.toNat_inj]
 exact h2
theorem parse_dig : ∀ (l : List UInt8) (acc : Nat), (∀ b ∈ l, 48 ≤ b.toNat ∧ b.toNat ≤ 57) → (acc + 1) * 10 ^ l.length ≤ 10 ^ 18 → ∃ u : Nat, Lib.parseUint10 acc l = .ok u ∧ (u : Int) = l.foldl (fun (v : Int) (c : UInt8) => v * 10 + ((c.toNat - 48 : Nat) : Int)) (acc : Int) ∧ u + 1 ≤ (acc + 1) * 10 ^ l.length
 | [], acc, _, h => ⟨acc, rfl, rfl, by simp⟩
 | c :: r, acc, hd, h => by
  have hc := hd c (by simp)
  have hp : 0 < 10 ^ r.length := Nat.pow_pos (by omega)
  rw [List.length_cons, Nat.pow_succ] at h
  have h2 : (acc * 10 + (c.toNat - 48) + 1) * 10 ^ r.length ≤ (acc + 1) * (10 ^ r.length * 10) := by
   have : acc * 10 + (c.toNat - 48) + 1 ≤ (acc + 1) * 10 := by omega
   calc (acc * 10 + (c.toNat - 48) + 1) * 10 ^ r.length ≤ ((acc + 1) * 10) * 10 ^ r.length := Nat.mul_le_mul_right _ this
    _ = (acc + 1) * (10 ^ r.length * 10) := by rw [Nat.mul_assoc, Nat.mul_comm 10]
  obtain ⟨u, h3, h4, h5⟩ := parse_dig r (acc * 10 + (c.toNat - 48)) (fun b hb => hd b (List.mem_cons_of_mem _ hb)) (by omega)
  have hb : acc * 10 + (c.toNat - 48) + 1 ≤ 10 ^ 18 := Nat.le_trans (Nat.le_mul_of_pos_right _ hp) (by omega)
  refine ⟨u, ?_, ?_, by rw [List.length_cons, Nat.pow_succ]; omega⟩
  ·unfold Lib.parseUint10
   rw [if_pos hc, if_neg (by omega), if_neg (by omega)]
   exact h3
  ·rw [h4, List.foldl_cons]
   congr 1
theorem atoi_dig {l : List UInt8} (h1 : 1 ≤ l.length) (h6 : l.length ≤ 6) (hd : ∀ b ∈ l, 48 ≤ b.toNat ∧ b.toNat ≤ 57) : atoiS l = decS l ∧ 0 ≤ decS l ∧ decS l ≤ 999999 := by
 have hp : 10 ^ l.length ≤ 10 ^ 6 := Nat.pow_le_pow_right (by omega) h6
 obtain ⟨u, h3, h4, h5⟩ := parse_dig l 0 hd (by omega)
 have hu : decS l = (u : Int) := h4.symm
 refine ⟨?_, by omega, by omega⟩
 unfold atoiS Lib.atoiAll Lib.parseMag
 cases l with
 | nil => simp at h1
 | cons c r =>
  have hc := hd c (by simp)
  have e1 : ¬ (c.toNat = 43 ∨ c.toNat = 45) := by omega
  have e2 : ¬ c.toNat = 45 := by omega
  simp only [if_neg e1, if_neg e2]
  rw [if_neg (by simp), h3]
  simp only [e2, not_false_eq_true, true_and, false_and, if_false]
  rw [if_neg (by omega), hu]
theorem digS_bd (l : List UInt8) : 0 ≤ (digS l).1 ∧ (digS l).1 ≤ 999999 := by
 unfold digS
 split
 ·simp
 ·rename_i h
  have h1 : 1 ≤ l.length ∧ l.length ≤ 6 ∧ Lib.trimS l tenL = [] := by
   refine ⟨by omega, by omega, Classical.byContradiction fun h2 => h (.inr (.inr h2))⟩
  exact (atoi_dig h1.1 h1.2.1 (fun b hb => ten_dig (trimS_nil h1.2.2 b hb))).2
def MaxV (w : World) : Prop := ∃ m, w.cell? ⟨0, 0, none⟩ = some (.int .i64 m)
theorem MaxV.below {w w' : World} {B : Nat} (h : MaxV w) (hb : Below B w w') (hB : w.heap.size ≤ B) : MaxV w' := by
 obtain ⟨m, h⟩ := h
 have := World.block_lt_of_cell? w _ h
 exact ⟨m, (hb.cell (by show _ < B; exact Nat.lt_of_lt_of_le this hB)).trans h⟩
theorem cut_any (l sep : List UInt8) (w : World) (hl : l.length ≤ 1000000) (hM : MaxV w) :
  Calls Tryz.prog 48 #[.string ⟨l.toArray⟩, .string ⟨sep.toArray⟩] w fun e w' => e = .returned (.tuple #[.string ⟨(Lib.cut l sep).1.toArray⟩, .string ⟨(Lib.cut l sep).2.1.toArray⟩, .bool (Lib.cut l sep).2.2]) ∧ Below w.heap.size w w' := by
 obtain ⟨m, hm⟩ := hM
 refine (Tryz.strings_Cut ⟨l.toArray⟩ ⟨sep.toArray⟩ m w (by simp [ByteArray.size]; omega) hm).mono ?_
 rintro e w' ⟨rfl, n, rfl⟩
 exact ⟨by simp, ⟨rfl, rfl, rfl, Nat.le_refl _, fun _ _ => rfl⟩⟩
theorem trim_any (l cs : List UInt8) (w : World) (hl : l.length ≤ 1000000) (hc : cs.length ≤ 100) (ha : ∀ b ∈ cs, b.toNat < 128) :
  Calls Tryz.prog 51 #[.string ⟨l.toArray⟩, .string ⟨cs.toArray⟩] w fun e w' => e = .returned (.string ⟨(Lib.trimS l cs).toArray⟩) ∧ Below w.heap.size w w' := by
 refine (Any.strings_Trim_laid Tryz.lays160 (by kernel_rfl) ⟨l.toArray⟩ ⟨cs.toArray⟩ w (by simp [ByteArray.size]; omega) (by simp [ByteArray.size]; omega) (fun j b hb => ha b (List.mem_of_getElem? (by simpa using hb)))).mono ?_
 rintro e w' ⟨rfl, hb⟩
 exact ⟨by simp, hb⟩
set_option maxHeartbeats 1000000 in
set_option maxRecDepth 100000 in
theorem digits_any (l : List UInt8) (w : World) (hl : l.length ≤ 1000000) (hE : ErrVars w) :
  Calls Tryz.prog 49 #[.string ⟨l.toArray⟩] w fun e w' => e = .returned (.tuple #[.int .i64 (digS l).1, .bool (digS l).2]) ∧ Below w.heap.size w w' := by
 have hsz : (⟨l.toArray⟩ : ByteArray).size = l.length := by simp [ByteArray.size]
 have HTR := hide (trim_any l tenL w hl (by decide) (by decide))
 by_cases h1 : l.length < 1
 ·have HD : Hid (digS l = (0, false)) := hide (by unfold digS; rw [if_pos (.inl h1)])
  rw [HD.out]
  clear HTR hE
  go_enter Tryz.func49, Tryz.ntmps49
  go_wp2
  go_ret2
  exact ⟨rfl, Below.refl _ _⟩
 by_cases h6 : 6 < l.length
 ·have HD : Hid (digS l = (0, false)) := hide (by unfold digS; rw [if_pos (.inr (.inl h6))])
  rw [HD.out]
  clear HTR hE
  go_enter Tryz.func49, Tryz.ntmps49
  go_wp2
  go_ret2
  exact ⟨rfl, Below.refl _ _⟩
 generalize htr : Lib.trimS l tenL = tr at *
 by_cases ht : tr = []
 ·subst ht
  have hd := fun b hb => ten_dig (trimS_nil htr b hb)
  obtain ⟨ha, _⟩ := atoi_dig (by omega) (by omega) hd
  have HD : Hid (digS l = (decS l, true)) := hide (by unfold digS; rw [if_neg]; rintro (h | h | h); omega; omega; exact h htr)
  rw [HD.out]
  obtain ⟨_, hnn, _⟩ := atoi_dig (by omega) (by omega) hd
  have HAV : Hid (∀ v er, ((er = Value.nilIface ∧ v = atoiS l) ∨ ((∃ t q, er = Value.iface t q) ∧ atoiS l = -1)) → v = decS l) := hide (fun v er h => by
   rcases h with ⟨_, h⟩ | ⟨_, h⟩
   ·rw [h, ha]
   ·omega)
  have HAT := hide (fun W hb => atoi_any l W hl (hE.below hb (Nat.le_refl _)))
  clear hE hd htr hnn ha
  go_enter Tryz.func49, Tryz.ntmps49
  go_wp2_with (first
   | (go_at_call 51; refine HTR.out.mono ?_; rintro e w1 ⟨rfl, hb⟩
      have HB1 := hide hb
      have HA1 := hide (HAT.out w1 hb)
      clear hb)
   | (go_at_call 87; refine HA1.out.mono ?_; rintro e w2 ⟨v, er, rfl, her, hb⟩
      have HB2 := hide (HB1.out.trans (hb.mono HB1.out.size))
      obtain rfl := HAV.out v er her
      clear hb her))
  go_ret2
  exact ⟨rfl, HB2.out⟩
 ·have HD : Hid (digS l = (0, false)) := hide (by unfold digS; rw [if_pos (.inr (.inr (by rw [htr]; exact ht)))])
  rw [HD.out]
  have hne : tr.isEmpty = false := by simp [ht]
  clear hE
  go_enter Tryz.func49, Tryz.ntmps49
  go_wp2_with (first
   | (go_at_call 51; refine HTR.out.mono ?_; rintro e w1 ⟨rfl, hb⟩
      have HB1 := hide hb
      clear hb))
  go_ret2
  exact ⟨rfl, HB1.out⟩
end Go.Proofs.YthkblgglmohciaaGreatDoor
namespace Go.Proofs.YthkblgglmohciaaGreatDoor
open Go.RowKit
attribute [local go_sem] Oper.semAt_some
def signP (l : List UInt8) : Int × List UInt8 := if Lib.hasPrefix l [45] = true then (-1, l.tail) else if Lib.hasPrefix l [43] = true then (1, l.tail) else (1, l)
def coefP (a : List UInt8) (has : Bool) : Int × Bool := if a ≠ [] ∨ has = false then digS a else (1, true)
def rootQ (ok : Bool) (b : List UInt8) (has : Bool) : Int × Bool := if has = true ∧ ok = true then digS b else (1, ok)
def termP (l : List UInt8) : (Int × Int) × Bool :=
 (((coefP (Lib.cut (signP l).2 [114]).1 (Lib.cut (signP l).2 [114]).2.2).1 * (signP l).1, (rootQ (coefP (Lib.cut (signP l).2 [114]).1 (Lib.cut (signP l).2 [114]).2.2).2 (Lib.cut (signP l).2 [114]).2.1 (Lib.cut (signP l).2 [114]).2.2).1),
  (rootQ (coefP (Lib.cut (signP l).2 [114]).1 (Lib.cut (signP l).2 [114]).2.2).2 (Lib.cut (signP l).2 [114]).2.1 (Lib.cut (signP l).2 [114]).2.2).2)
theorem extract_drop (l : List UInt8) (k : Nat) : (⟨l.toArray⟩ : ByteArray).extract k l.length = ⟨(l.drop k).toArray⟩ := by
 apply ByteArray.ext
 apply Array.toList_inj.1
 simp [List.take_of_length_le]
theorem prefix_any (l p : List UInt8) (w : World) : Calls Tryz.prog 97 #[.string ⟨l.toArray⟩, .string ⟨p.toArray⟩] w fun e w' => e = .returned (.bool (Lib.hasPrefix l p)) ∧ w' = w := by
 refine (Tryz.strings_HasPrefix ⟨l.toArray⟩ ⟨p.toArray⟩ w).mono ?_
 rintro e w' ⟨rfl, rfl⟩
 exact ⟨by simp, rfl⟩
theorem coefP_no (a : List UInt8) : coefP a false = digS a := by simp [coefP]
theorem coefP_nil : coefP [] true = (1, true) := by simp [coefP]
theorem coefP_ne {a : List UInt8} (h : a ≠ []) (has : Bool) : coefP a has = digS a := by simp [coefP, h]
theorem rootQ_no (ok : Bool) (b : List UInt8) : rootQ ok b false = (1, ok) := by simp [rootQ]
theorem rootQ_f (b : List UInt8) (has : Bool) : rootQ false b has = (1, false) := by simp [rootQ]
theorem rootQ_yes (b : List UInt8) : rootQ true b true = digS b := by simp [rootQ]
theorem Tryz.sizeTerm : (Tryz.prog.info? 52).map (·.size) = some 2 := by kernel_rfl
theorem cut_len (l sep : List UInt8) : (Lib.cut l sep).1.length ≤ l.length ∧ (Lib.cut l sep).2.1.length ≤ l.length := by
 unfold Lib.cut
 split
 ·simp; omega
 ·simp
set_option maxHeartbeats 8000000 in
set_option maxRecDepth 100000 in
theorem term_any (l : List UInt8) (w : World) (hl : l.length ≤ 1000) (hE : ErrVars w) (hM : MaxV w) :
  Calls Tryz.prog 52 #[.string ⟨l.toArray⟩] w fun e w' => e = .returned (.tuple #[.agg #[.int .i64 (termP l).1.1, .int .i64 (termP l).1.2], .bool (termP l).2]) ∧ Below w.heap.size w w' := by
 have HP1 := hide (fun W => prefix_any l [45] W)
 have HP2 := hide (fun W => prefix_any l [43] W)
 have hlen : ∀ c, Lib.hasPrefix l [c] = true → (1 : Int) ≤ (l.length : Int) := fun c h => by
  cases l with
  | nil => cases h
  | cons x t => simp; omega
 obtain ⟨W0, hW0⟩ : ∃ W, W = w.alloc (.cells #[.int .i64 0, .int .i64 1] 52) := ⟨_, rfl⟩
 have HX0 : Hid (Blk W0 w.heap.size 52 #[.int .i64 0, .int .i64 1]) := hide (by rw [hW0]; exact Blk.new w _ _)
 have HB0 : Hid (Below w.heap.size w W0) := hide (by rw [hW0]; exact (Below.refl _ _).alloc (Nat.le_refl _) _)
 rcases h1 : Lib.hasPrefix l [45] with _ | _
 ·rcases h2 : Lib.hasPrefix l [43] with _ | _
  ·rw [h1] at HP1
   rw [h2] at HP2
   have hsp : signP l = (1, l) := by unfold signP; rw [h1, h2]; rfl
   clear hlen
   go_enter Tryz.func52, Tryz.ntmps52
   go_upto_region 3 with fail
   rw [← hW0]
   clear hW0
   go_upto_region 7 with (first
    | (go_at_call 97; first
      | (refine (HP1.out _).mono ?_; rintro e w1 ⟨rfl, hw⟩; subst w1)
      | (refine (HP2.out _).mono ?_; rintro e w1 ⟨rfl, hw⟩; subst w1)))
   have HC := hide (cut_any l [114] W0 (by omega) (hM.below HB0.out (Nat.le_refl _)))
   have hcl := cut_len l [114]
   have hll : l.length ≤ 1000 := by omega
   have HRES : Hid (termP l = (((coefP (Lib.cut l [114]).1 (Lib.cut l [114]).2.2).1 * (1), (rootQ (coefP (Lib.cut l [114]).1 (Lib.cut l [114]).2.2).2 (Lib.cut l [114]).2.1 (Lib.cut l [114]).2.2).1), (rootQ (coefP (Lib.cut l [114]).1 (Lib.cut l [114]).2.2).2 (Lib.cut l [114]).2.1 (Lib.cut l [114]).2.2).2)) := hide (by unfold termP; rw [hsp])
   generalize Lib.cut l [114] = cr at *
   obtain ⟨a, b, has⟩ := cr
   dsimp only at hcl HC HRES
   have hda := digS_bd a; have hdb := digS_bd b
   have HDA := hide (fun V hb => digits_any a V (by omega) (hE.below hb (Nat.le_refl _)))
   have HDB := hide (fun V hb => digits_any b V (by omega) (hE.below hb (Nat.le_refl _)))
   clear hll hcl
   go_upto_region 8 with (first
    | (go_at_call 48; refine HC.out.mono ?_; rintro e w1 ⟨rfl, hb⟩
       have HB1 := hide (HB0.out.trans (hb.mono HB0.out.size))
       have HX1 := hide (HX0.out.below hb HX0.out.lt)
       clear hb))
   obtain ⟨x0, x1, xf0, xf1⟩ := HX1.out.two
   clear HC
   go_upto_region 9 with fail
   have HB2 := hide (HB1.out.setCell (p := ⟨w.heap.size, 0, none⟩) (Nat.le_refl _) (.int .i64 (1)))
   have HX2 := hide (HX1.out.set_ 0 (.int .i64 (1)))
   clear x0 x1 xf0 xf1 HB1 HX1
   generalize w1.setCell ⟨w.heap.size, 0, none⟩ (.int .i64 (1)) = W2 at *
   obtain ⟨x0, x1, xf0, xf1⟩ := HX2.out.two
   obtain ⟨v, ok, hd⟩ : ∃ v ok, digS a = (v, ok) := ⟨_, _, rfl⟩
   obtain ⟨rv, rok, hrd⟩ : ∃ v ok, digS b = (v, ok) := ⟨_, _, rfl⟩
   rw [hd] at HDA hda
   rw [hrd] at HDB hdb
   dsimp only at hda hdb HDA HDB
   by_cases ha : a = []
   ·subst ha
    cases has
    ·have HV : Hid (termP l = ((v * (1), 1), ok)) := hide (by simp only [HRES.out, coefP_no, rootQ_no, hd])
     clear HRES
     clear x0 x1 xf0 xf1
     obtain ⟨x0, x1, xf0, xf1⟩ := HX2.out.two
     go_upto_region 11 with (first
      | (go_at_call 49; refine (HDA.out _ HB2.out).mono ?_; rintro e w3 ⟨rfl, hb⟩
         have HBm := hide (HB2.out.trans (hb.mono HB2.out.size))
         have HXm := hide (HX2.out.below hb HX2.out.lt)
         clear hb x0 x1 xf0 xf1
         obtain ⟨x0, x1, xf0, xf1⟩ := HXm.out.two))
     have HB4 := hide (HBm.out.setCell (p := ⟨w.heap.size, 0, none⟩) (Nat.le_refl _) (.int .i64 (v)))
     have HX4 := hide (HXm.out.set_ 0 (.int .i64 (v)))
     clear x0 x1 xf0 xf1 HBm HXm
     generalize w3.setCell ⟨w.heap.size, 0, none⟩ (.int .i64 (v)) = W4 at *
     obtain ⟨x0, x1, xf0, xf1⟩ := HX4.out.two
     have hmw : IntKind.i64.wrap (v * (1)) = v * (1) := by rw [IntKind.wrap_i64]; omega
     go_wp2
     refine bodyPost_cell_tmp (p := 2) (u := 3) (ty := 52) rfl rfl (((HX4.out.set_ 0 _).set_ 0 _).set_ 1 _) Tryz.underlying52 rfl Tryz.sizeTerm rfl ?_
     refine ⟨?_, (((HB4.out.setCell (p := ⟨w.heap.size, 0, none⟩) (Nat.le_refl _) _).setCell (p := ⟨w.heap.size, 0, none⟩) (Nat.le_refl _) _).setCell (p := ⟨w.heap.size, 1, none⟩) (Nat.le_refl _) _)⟩
     rw [HV.out]
     first | rfl | simp
    ·have HV : Hid (termP l = ((1 * (1), rv), rok)) := hide (by simp only [HRES.out, coefP_nil, rootQ_yes, hrd])
     clear HRES
     clear x0 x1 xf0 xf1
     obtain ⟨x0, x1, xf0, xf1⟩ := HX2.out.two
     go_upto_region 13 with (first
      | (go_at_call 49; refine (HDB.out _ HB2.out).mono ?_; rintro e w3 ⟨rfl, hb⟩
         have HBm := hide (HB2.out.trans (hb.mono HB2.out.size))
         have HXm := hide (HX2.out.below hb HX2.out.lt)
         clear hb x0 x1 xf0 xf1
         obtain ⟨x0, x1, xf0, xf1⟩ := HXm.out.two))
     have HB4 := hide (HBm.out.setCell (p := ⟨w.heap.size, 1, none⟩) (Nat.le_refl _) (.int .i64 (rv)))
     have HX4 := hide (HXm.out.set_ 1 (.int .i64 (rv)))
     clear x0 x1 xf0 xf1 HBm HXm
     generalize w3.setCell ⟨w.heap.size, 1, none⟩ (.int .i64 (rv)) = W4 at *
     obtain ⟨x0, x1, xf0, xf1⟩ := HX4.out.two
     have hmw : IntKind.i64.wrap (1 * (1)) = 1 * (1) := by rw [IntKind.wrap_i64]; omega
     go_wp2
     refine bodyPost_cell_tmp (p := 2) (u := 3) (ty := 52) rfl rfl (((HX4.out.set_ 0 _).set_ 0 _).set_ 1 _) Tryz.underlying52 rfl Tryz.sizeTerm rfl ?_
     refine ⟨?_, (((HB4.out.setCell (p := ⟨w.heap.size, 0, none⟩) (Nat.le_refl _) _).setCell (p := ⟨w.heap.size, 0, none⟩) (Nat.le_refl _) _).setCell (p := ⟨w.heap.size, 1, none⟩) (Nat.le_refl _) _)⟩
     rw [HV.out]
     first | rfl | simp
   ·have hn1 : (a == []) = false := by simp [ha]
    have hn2 : ¬ (⟨a.toArray⟩ : ByteArray) = ⟨#[]⟩ := fun h => ha (by have := congrArg (fun b => b.data.toList) h; simpa using this)
    cases has
    ·have HV : Hid (termP l = ((v * (1), 1), ok)) := hide (by simp only [HRES.out, coefP_no, rootQ_no, hd])
     clear HRES
     clear x0 x1 xf0 xf1
     obtain ⟨x0, x1, xf0, xf1⟩ := HX2.out.two
     go_upto_region 11 with (first
      | (go_at_call 49; refine (HDA.out _ HB2.out).mono ?_; rintro e w3 ⟨rfl, hb⟩
         have HBm := hide (HB2.out.trans (hb.mono HB2.out.size))
         have HXm := hide (HX2.out.below hb HX2.out.lt)
         clear hb x0 x1 xf0 xf1
         obtain ⟨x0, x1, xf0, xf1⟩ := HXm.out.two))
     have HB4 := hide (HBm.out.setCell (p := ⟨w.heap.size, 0, none⟩) (Nat.le_refl _) (.int .i64 (v)))
     have HX4 := hide (HXm.out.set_ 0 (.int .i64 (v)))
     clear x0 x1 xf0 xf1 HBm HXm
     generalize w3.setCell ⟨w.heap.size, 0, none⟩ (.int .i64 (v)) = W4 at *
     obtain ⟨x0, x1, xf0, xf1⟩ := HX4.out.two
     have hmw : IntKind.i64.wrap (v * (1)) = v * (1) := by rw [IntKind.wrap_i64]; omega
     go_wp2
     refine bodyPost_cell_tmp (p := 2) (u := 3) (ty := 52) rfl rfl (((HX4.out.set_ 0 _).set_ 0 _).set_ 1 _) Tryz.underlying52 rfl Tryz.sizeTerm rfl ?_
     refine ⟨?_, (((HB4.out.setCell (p := ⟨w.heap.size, 0, none⟩) (Nat.le_refl _) _).setCell (p := ⟨w.heap.size, 0, none⟩) (Nat.le_refl _) _).setCell (p := ⟨w.heap.size, 1, none⟩) (Nat.le_refl _) _)⟩
     rw [HV.out]
     first | rfl | simp
    ·cases ok
     ·have HV : Hid (termP l = ((v * (1), 1), false)) := hide (by simp only [HRES.out, coefP_ne ha, rootQ_f, hd])
      clear HRES
      clear x0 x1 xf0 xf1
      obtain ⟨x0, x1, xf0, xf1⟩ := HX2.out.two
      go_upto_region 11 with (first
       | (go_at_call 49; refine (HDA.out _ HB2.out).mono ?_; rintro e w3 ⟨rfl, hb⟩
          have HBm := hide (HB2.out.trans (hb.mono HB2.out.size))
          have HXm := hide (HX2.out.below hb HX2.out.lt)
          clear hb x0 x1 xf0 xf1
          obtain ⟨x0, x1, xf0, xf1⟩ := HXm.out.two))
      have HB4 := hide (HBm.out.setCell (p := ⟨w.heap.size, 0, none⟩) (Nat.le_refl _) (.int .i64 (v)))
      have HX4 := hide (HXm.out.set_ 0 (.int .i64 (v)))
      clear x0 x1 xf0 xf1 HBm HXm
      generalize w3.setCell ⟨w.heap.size, 0, none⟩ (.int .i64 (v)) = W4 at *
      obtain ⟨x0, x1, xf0, xf1⟩ := HX4.out.two
      have hmw : IntKind.i64.wrap (v * (1)) = v * (1) := by rw [IntKind.wrap_i64]; omega
      go_wp2
      refine bodyPost_cell_tmp (p := 2) (u := 3) (ty := 52) rfl rfl (((HX4.out.set_ 0 _).set_ 0 _).set_ 1 _) Tryz.underlying52 rfl Tryz.sizeTerm rfl ?_
      refine ⟨?_, (((HB4.out.setCell (p := ⟨w.heap.size, 0, none⟩) (Nat.le_refl _) _).setCell (p := ⟨w.heap.size, 0, none⟩) (Nat.le_refl _) _).setCell (p := ⟨w.heap.size, 1, none⟩) (Nat.le_refl _) _)⟩
      rw [HV.out]
      first | rfl | simp
     ·have HV : Hid (termP l = ((v * (1), rv), rok)) := hide (by simp only [HRES.out, coefP_ne ha, rootQ_yes, hd, hrd])
      clear HRES
      clear x0 x1 xf0 xf1
      obtain ⟨x0, x1, xf0, xf1⟩ := HX2.out.two
      go_upto_region 11 with (first
       | (go_at_call 49; refine (HDA.out _ HB2.out).mono ?_; rintro e w3 ⟨rfl, hb⟩
          have HBm := hide (HB2.out.trans (hb.mono HB2.out.size))
          have HXm := hide (HX2.out.below hb HX2.out.lt)
          clear hb x0 x1 xf0 xf1
          obtain ⟨x0, x1, xf0, xf1⟩ := HXm.out.two))
      have HB4 := hide (HBm.out.setCell (p := ⟨w.heap.size, 0, none⟩) (Nat.le_refl _) (.int .i64 (v)))
      have HX4 := hide (HXm.out.set_ 0 (.int .i64 (v)))
      clear x0 x1 xf0 xf1 HBm HXm
      generalize w3.setCell ⟨w.heap.size, 0, none⟩ (.int .i64 (v)) = W4 at *
      obtain ⟨x0, x1, xf0, xf1⟩ := HX4.out.two
      clear x0 x1 xf0 xf1
      obtain ⟨x0, x1, xf0, xf1⟩ := HX4.out.two
      go_upto_region 13 with (first
       | (go_at_call 49; refine (HDB.out _ HB4.out).mono ?_; rintro e w3 ⟨rfl, hb⟩
          have HBm := hide (HB4.out.trans (hb.mono HB4.out.size))
          have HXm := hide (HX4.out.below hb HX4.out.lt)
          clear hb x0 x1 xf0 xf1
          obtain ⟨x0, x1, xf0, xf1⟩ := HXm.out.two))
      have HB6 := hide (HBm.out.setCell (p := ⟨w.heap.size, 1, none⟩) (Nat.le_refl _) (.int .i64 (rv)))
      have HX6 := hide (HXm.out.set_ 1 (.int .i64 (rv)))
      clear x0 x1 xf0 xf1 HBm HXm
      generalize w3.setCell ⟨w.heap.size, 1, none⟩ (.int .i64 (rv)) = W6 at *
      obtain ⟨x0, x1, xf0, xf1⟩ := HX6.out.two
      have hmw : IntKind.i64.wrap (v * (1)) = v * (1) := by rw [IntKind.wrap_i64]; omega
      go_wp2
      refine bodyPost_cell_tmp (p := 2) (u := 3) (ty := 52) rfl rfl (((HX6.out.set_ 0 _).set_ 0 _).set_ 1 _) Tryz.underlying52 rfl Tryz.sizeTerm rfl ?_
      refine ⟨?_, (((HB6.out.setCell (p := ⟨w.heap.size, 0, none⟩) (Nat.le_refl _) _).setCell (p := ⟨w.heap.size, 0, none⟩) (Nat.le_refl _) _).setCell (p := ⟨w.heap.size, 1, none⟩) (Nat.le_refl _) _)⟩
      rw [HV.out]
      first | rfl | simp
  ·have hl1 := hlen 43 h2
   rw [h1] at HP1
   rw [h2] at HP2
   have hsp : signP l = (1, l.tail) := by unfold signP; rw [h1, h2]; rfl
   clear hlen
   go_enter Tryz.func52, Tryz.ntmps52
   go_upto_region 3 with fail
   rw [← hW0]
   clear hW0
   go_upto_region 7 with (first
    | (go_at_call 97; first
      | (refine (HP1.out _).mono ?_; rintro e w1 ⟨rfl, hw⟩; subst w1)
      | (refine (HP2.out _).mono ?_; rintro e w1 ⟨rfl, hw⟩; subst w1)))
   simp only [extract_drop, List.drop_one]
   have hlt : l.tail.length ≤ 1000 := by simp; omega
   generalize l.tail = l1 at *
   have HC := hide (cut_any l1 [114] W0 (by omega) (hM.below HB0.out (Nat.le_refl _)))
   have hcl := cut_len l1 [114]
   have hll : l1.length ≤ 1000 := by omega
   have HRES : Hid (termP l = (((coefP (Lib.cut l1 [114]).1 (Lib.cut l1 [114]).2.2).1 * (1), (rootQ (coefP (Lib.cut l1 [114]).1 (Lib.cut l1 [114]).2.2).2 (Lib.cut l1 [114]).2.1 (Lib.cut l1 [114]).2.2).1), (rootQ (coefP (Lib.cut l1 [114]).1 (Lib.cut l1 [114]).2.2).2 (Lib.cut l1 [114]).2.1 (Lib.cut l1 [114]).2.2).2)) := hide (by unfold termP; rw [hsp])
   generalize Lib.cut l1 [114] = cr at *
   obtain ⟨a, b, has⟩ := cr
   dsimp only at hcl HC HRES
   have hda := digS_bd a; have hdb := digS_bd b
   have HDA := hide (fun V hb => digits_any a V (by omega) (hE.below hb (Nat.le_refl _)))
   have HDB := hide (fun V hb => digits_any b V (by omega) (hE.below hb (Nat.le_refl _)))
   clear hll hcl
   go_upto_region 8 with (first
    | (go_at_call 48; refine HC.out.mono ?_; rintro e w1 ⟨rfl, hb⟩
       have HB1 := hide (HB0.out.trans (hb.mono HB0.out.size))
       have HX1 := hide (HX0.out.below hb HX0.out.lt)
       clear hb))
   obtain ⟨x0, x1, xf0, xf1⟩ := HX1.out.two
   clear HC
   go_upto_region 9 with fail
   have HB2 := hide (HB1.out.setCell (p := ⟨w.heap.size, 0, none⟩) (Nat.le_refl _) (.int .i64 (1)))
   have HX2 := hide (HX1.out.set_ 0 (.int .i64 (1)))
   clear x0 x1 xf0 xf1 HB1 HX1
   generalize w1.setCell ⟨w.heap.size, 0, none⟩ (.int .i64 (1)) = W2 at *
   obtain ⟨x0, x1, xf0, xf1⟩ := HX2.out.two
   obtain ⟨v, ok, hd⟩ : ∃ v ok, digS a = (v, ok) := ⟨_, _, rfl⟩
   obtain ⟨rv, rok, hrd⟩ : ∃ v ok, digS b = (v, ok) := ⟨_, _, rfl⟩
   rw [hd] at HDA hda
   rw [hrd] at HDB hdb
   dsimp only at hda hdb HDA HDB
   by_cases ha : a = []
   ·subst ha
    cases has
    ·have HV : Hid (termP l = ((v * (1), 1), ok)) := hide (by simp only [HRES.out, coefP_no, rootQ_no, hd])
     clear HRES
     clear x0 x1 xf0 xf1
     obtain ⟨x0, x1, xf0, xf1⟩ := HX2.out.two
     go_upto_region 11 with (first
      | (go_at_call 49; refine (HDA.out _ HB2.out).mono ?_; rintro e w3 ⟨rfl, hb⟩
         have HBm := hide (HB2.out.trans (hb.mono HB2.out.size))
         have HXm := hide (HX2.out.below hb HX2.out.lt)
         clear hb x0 x1 xf0 xf1
         obtain ⟨x0, x1, xf0, xf1⟩ := HXm.out.two))
     have HB4 := hide (HBm.out.setCell (p := ⟨w.heap.size, 0, none⟩) (Nat.le_refl _) (.int .i64 (v)))
     have HX4 := hide (HXm.out.set_ 0 (.int .i64 (v)))
     clear x0 x1 xf0 xf1 HBm HXm
     generalize w3.setCell ⟨w.heap.size, 0, none⟩ (.int .i64 (v)) = W4 at *
     obtain ⟨x0, x1, xf0, xf1⟩ := HX4.out.two
     have hmw : IntKind.i64.wrap (v * (1)) = v * (1) := by rw [IntKind.wrap_i64]; omega
     go_wp2
     refine bodyPost_cell_tmp (p := 2) (u := 3) (ty := 52) rfl rfl (((HX4.out.set_ 0 _).set_ 0 _).set_ 1 _) Tryz.underlying52 rfl Tryz.sizeTerm rfl ?_
     refine ⟨?_, (((HB4.out.setCell (p := ⟨w.heap.size, 0, none⟩) (Nat.le_refl _) _).setCell (p := ⟨w.heap.size, 0, none⟩) (Nat.le_refl _) _).setCell (p := ⟨w.heap.size, 1, none⟩) (Nat.le_refl _) _)⟩
     rw [HV.out]
     first | rfl | simp
    ·have HV : Hid (termP l = ((1 * (1), rv), rok)) := hide (by simp only [HRES.out, coefP_nil, rootQ_yes, hrd])
     clear HRES
     clear x0 x1 xf0 xf1
     obtain ⟨x0, x1, xf0, xf1⟩ := HX2.out.two
     go_upto_region 13 with (first
      | (go_at_call 49; refine (HDB.out _ HB2.out).mono ?_; rintro e w3 ⟨rfl, hb⟩
         have HBm := hide (HB2.out.trans (hb.mono HB2.out.size))
         have HXm := hide (HX2.out.below hb HX2.out.lt)
         clear hb x0 x1 xf0 xf1
         obtain ⟨x0, x1, xf0, xf1⟩ := HXm.out.two))
     have HB4 := hide (HBm.out.setCell (p := ⟨w.heap.size, 1, none⟩) (Nat.le_refl _) (.int .i64 (rv)))
     have HX4 := hide (HXm.out.set_ 1 (.int .i64 (rv)))
     clear x0 x1 xf0 xf1 HBm HXm
     generalize w3.setCell ⟨w.heap.size, 1, none⟩ (.int .i64 (rv)) = W4 at *
     obtain ⟨x0, x1, xf0, xf1⟩ := HX4.out.two
     have hmw : IntKind.i64.wrap (1 * (1)) = 1 * (1) := by rw [IntKind.wrap_i64]; omega
     go_wp2
     refine bodyPost_cell_tmp (p := 2) (u := 3) (ty := 52) rfl rfl (((HX4.out.set_ 0 _).set_ 0 _).set_ 1 _) Tryz.underlying52 rfl Tryz.sizeTerm rfl ?_
     refine ⟨?_, (((HB4.out.setCell (p := ⟨w.heap.size, 0, none⟩) (Nat.le_refl _) _).setCell (p := ⟨w.heap.size, 0, none⟩) (Nat.le_refl _) _).setCell (p := ⟨w.heap.size, 1, none⟩) (Nat.le_refl _) _)⟩
     rw [HV.out]
     first | rfl | simp
   ·have hn1 : (a == []) = false := by simp [ha]
    have hn2 : ¬ (⟨a.toArray⟩ : ByteArray) = ⟨#[]⟩ := fun h => ha (by have := congrArg (fun b => b.data.toList) h; simpa using this)
    cases has
    ·have HV : Hid (termP l = ((v * (1), 1), ok)) := hide (by simp only [HRES.out, coefP_no, rootQ_no, hd])
     clear HRES
     clear x0 x1 xf0 xf1
     obtain ⟨x0, x1, xf0, xf1⟩ := HX2.out.two
     go_upto_region 11 with (first
      | (go_at_call 49; refine (HDA.out _ HB2.out).mono ?_; rintro e w3 ⟨rfl, hb⟩
         have HBm := hide (HB2.out.trans (hb.mono HB2.out.size))
         have HXm := hide (HX2.out.below hb HX2.out.lt)
         clear hb x0 x1 xf0 xf1
         obtain ⟨x0, x1, xf0, xf1⟩ := HXm.out.two))
     have HB4 := hide (HBm.out.setCell (p := ⟨w.heap.size, 0, none⟩) (Nat.le_refl _) (.int .i64 (v)))
     have HX4 := hide (HXm.out.set_ 0 (.int .i64 (v)))
     clear x0 x1 xf0 xf1 HBm HXm
     generalize w3.setCell ⟨w.heap.size, 0, none⟩ (.int .i64 (v)) = W4 at *
     obtain ⟨x0, x1, xf0, xf1⟩ := HX4.out.two
     have hmw : IntKind.i64.wrap (v * (1)) = v * (1) := by rw [IntKind.wrap_i64]; omega
     go_wp2
     refine bodyPost_cell_tmp (p := 2) (u := 3) (ty := 52) rfl rfl (((HX4.out.set_ 0 _).set_ 0 _).set_ 1 _) Tryz.underlying52 rfl Tryz.sizeTerm rfl ?_
     refine ⟨?_, (((HB4.out.setCell (p := ⟨w.heap.size, 0, none⟩) (Nat.le_refl _) _).setCell (p := ⟨w.heap.size, 0, none⟩) (Nat.le_refl _) _).setCell (p := ⟨w.heap.size, 1, none⟩) (Nat.le_refl _) _)⟩
     rw [HV.out]
     first | rfl | simp
    ·cases ok
     ·have HV : Hid (termP l = ((v * (1), 1), false)) := hide (by simp only [HRES.out, coefP_ne ha, rootQ_f, hd])
      clear HRES
      clear x0 x1 xf0 xf1
      obtain ⟨x0, x1, xf0, xf1⟩ := HX2.out.two
      go_upto_region 11 with (first
       | (go_at_call 49; refine (HDA.out _ HB2.out).mono ?_; rintro e w3 ⟨rfl, hb⟩
          have HBm := hide (HB2.out.trans (hb.mono HB2.out.size))
          have HXm := hide (HX2.out.below hb HX2.out.lt)
          clear hb x0 x1 xf0 xf1
          obtain ⟨x0, x1, xf0, xf1⟩ := HXm.out.two))
      have HB4 := hide (HBm.out.setCell (p := ⟨w.heap.size, 0, none⟩) (Nat.le_refl _) (.int .i64 (v)))
      have HX4 := hide (HXm.out.set_ 0 (.int .i64 (v)))
      clear x0 x1 xf0 xf1 HBm HXm
      generalize w3.setCell ⟨w.heap.size, 0, none⟩ (.int .i64 (v)) = W4 at *
      obtain ⟨x0, x1, xf0, xf1⟩ := HX4.out.two
      have hmw : IntKind.i64.wrap (v * (1)) = v * (1) := by rw [IntKind.wrap_i64]; omega
      go_wp2
      refine bodyPost_cell_tmp (p := 2) (u := 3) (ty := 52) rfl rfl (((HX4.out.set_ 0 _).set_ 0 _).set_ 1 _) Tryz.underlying52 rfl Tryz.sizeTerm rfl ?_
      refine ⟨?_, (((HB4.out.setCell (p := ⟨w.heap.size, 0, none⟩) (Nat.le_refl _) _).setCell (p := ⟨w.heap.size, 0, none⟩) (Nat.le_refl _) _).setCell (p := ⟨w.heap.size, 1, none⟩) (Nat.le_refl _) _)⟩
      rw [HV.out]
      first | rfl | simp
     ·have HV : Hid (termP l = ((v * (1), rv), rok)) := hide (by simp only [HRES.out, coefP_ne ha, rootQ_yes, hd, hrd])
      clear HRES
      clear x0 x1 xf0 xf1
      obtain ⟨x0, x1, xf0, xf1⟩ := HX2.out.two
      go_upto_region 11 with (first
       | (go_at_call 49; refine (HDA.out _ HB2.out).mono ?_; rintro e w3 ⟨rfl, hb⟩
          have HBm := hide (HB2.out.trans (hb.mono HB2.out.size))
          have HXm := hide (HX2.out.below hb HX2.out.lt)
          clear hb x0 x1 xf0 xf1
          obtain ⟨x0, x1, xf0, xf1⟩ := HXm.out.two))
      have HB4 := hide (HBm.out.setCell (p := ⟨w.heap.size, 0, none⟩) (Nat.le_refl _) (.int .i64 (v)))
      have HX4 := hide (HXm.out.set_ 0 (.int .i64 (v)))
      clear x0 x1 xf0 xf1 HBm HXm
      generalize w3.setCell ⟨w.heap.size, 0, none⟩ (.int .i64 (v)) = W4 at *
      obtain ⟨x0, x1, xf0, xf1⟩ := HX4.out.two
      clear x0 x1 xf0 xf1
      obtain ⟨x0, x1, xf0, xf1⟩ := HX4.out.two
      go_upto_region 13 with (first
       | (go_at_call 49; refine (HDB.out _ HB4.out).mono ?_; rintro e w3 ⟨rfl, hb⟩
          have HBm := hide (HB4.out.trans (hb.mono HB4.out.size))
          have HXm := hide (HX4.out.below hb HX4.out.lt)
          clear hb x0 x1 xf0 xf1
          obtain ⟨x0, x1, xf0, xf1⟩ := HXm.out.two))
      have HB6 := hide (HBm.out.setCell (p := ⟨w.heap.size, 1, none⟩) (Nat.le_refl _) (.int .i64 (rv)))
      have HX6 := hide (HXm.out.set_ 1 (.int .i64 (rv)))
      clear x0 x1 xf0 xf1 HBm HXm
      generalize w3.setCell ⟨w.heap.size, 1, none⟩ (.int .i64 (rv)) = W6 at *
      obtain ⟨x0, x1, xf0, xf1⟩ := HX6.out.two
      have hmw : IntKind.i64.wrap (v * (1)) = v * (1) := by rw [IntKind.wrap_i64]; omega
      go_wp2
      refine bodyPost_cell_tmp (p := 2) (u := 3) (ty := 52) rfl rfl (((HX6.out.set_ 0 _).set_ 0 _).set_ 1 _) Tryz.underlying52 rfl Tryz.sizeTerm rfl ?_
      refine ⟨?_, (((HB6.out.setCell (p := ⟨w.heap.size, 0, none⟩) (Nat.le_refl _) _).setCell (p := ⟨w.heap.size, 0, none⟩) (Nat.le_refl _) _).setCell (p := ⟨w.heap.size, 1, none⟩) (Nat.le_refl _) _)⟩
      rw [HV.out]
      first | rfl | simp
 ·have hl1 := hlen 45 h1
  rw [h1] at HP1
  have hsp : signP l = (-1, l.tail) := by unfold signP; rw [h1]; rfl
  clear hlen
  go_enter Tryz.func52, Tryz.ntmps52
  go_upto_region 3 with fail
  rw [← hW0]
  clear hW0
  go_upto_region 4 with (first
   | (go_at_call 97; refine (HP1.out _).mono ?_; rintro e w1 ⟨rfl, hw⟩; subst w1))
  refine wp_region_till (fun w' => w' = W0.drew) 50 (fun _ => True) 50 (fun _ => True) (by kernel_rfl) ⟨rfl, fun _ => trivial, fun _ => trivial⟩ (fun hHeld => ?_)
  refine wpTill_take 0 rfl (by decide +kernel) (fun c a w h => by first | exact h | (cases h; done)) (by rfl) (v := ?_) ?_ hHeld (fun hHeld' => ?_)
  rotate_left 1
  focus (intro w' hSw; obtain ⟨hC, hF, hG⟩ := hSw; clear hG; clear hC; clear hF; go_simp; first | done | with_reducible rfl)
  clear hHeld
  rename Till _ _ _ _ _ _ _ => hHeld
  (try simp only [Act.put, lA, lB, lC])
  refine wpTill_take 1 rfl (by decide +kernel) (fun c a w h => by first | exact h | (cases h; done)) (by rfl) (v := ?_) ?_ hHeld (fun hHeld' => ?_)
  rotate_left 1
  focus (intro w' hSw; obtain ⟨hC, hF, hG⟩ := hSw; clear hG; clear hC; clear hF; go_simp; first | done | with_reducible rfl)
  clear hHeld
  rename Till _ _ _ _ _ _ _ => hHeld
  (try simp only [Act.put, lA, lB, lC])
  refine wpTill_take 2 rfl (by decide +kernel) (fun c a w h => by first | exact h | (cases h; done)) (by rfl) (v := ?_) ?_ hHeld (fun hHeld' => ?_)
  rotate_left 1
  focus (intro w' hSw; obtain ⟨hC, hF, hG⟩ := hSw; clear hG; clear hC; clear hF; go_simp; first | done | with_reducible rfl)
  clear hHeld
  rename Till _ _ _ _ _ _ _ => hHeld
  (try simp only [Act.put, lA, lB, lC])
  refine wpTill_take 3 rfl (by decide +kernel) (fun c a w h => by first | exact h | (cases h; done)) (by rfl) (v := ?_) ?_ hHeld (fun hHeld' => ?_)
  rotate_left 1
  focus (intro w' hSw; obtain ⟨hC, hF, hG⟩ := hSw; clear hG; clear hC; clear hF; go_simp; first | done | with_reducible rfl)
  clear hHeld
  rename Till _ _ _ _ _ _ _ => hHeld
  (try simp only [Act.put, lA, lB, lC])
  refine wpTill_done (by decide +kernel) ?_
  clear hHeld
  have HB1 := hide HB0.out.drew
  have HX1 := hide HX0.out.drew
  clear HB0 HX0
  have HB0 := hide HB1.out
  have HX0 := hide HX1.out
  clear HB1 HX1
  generalize W0.drew = W1 at *
  go_upto_region 7 with fail
  simp only [extract_drop, List.drop_one]
  have hlt : l.tail.length ≤ 1000 := by simp; omega
  generalize l.tail = l1 at *
  have HC := hide (cut_any l1 [114] W1 (by omega) (hM.below HB0.out (Nat.le_refl _)))
  have hcl := cut_len l1 [114]
  have hll : l1.length ≤ 1000 := by omega
  have HRES : Hid (termP l = (((coefP (Lib.cut l1 [114]).1 (Lib.cut l1 [114]).2.2).1 * (-1), (rootQ (coefP (Lib.cut l1 [114]).1 (Lib.cut l1 [114]).2.2).2 (Lib.cut l1 [114]).2.1 (Lib.cut l1 [114]).2.2).1), (rootQ (coefP (Lib.cut l1 [114]).1 (Lib.cut l1 [114]).2.2).2 (Lib.cut l1 [114]).2.1 (Lib.cut l1 [114]).2.2).2)) := hide (by unfold termP; rw [hsp])
  generalize Lib.cut l1 [114] = cr at *
  obtain ⟨a, b, has⟩ := cr
  dsimp only at hcl HC HRES
  have hda := digS_bd a; have hdb := digS_bd b
  have HDA := hide (fun V hb => digits_any a V (by omega) (hE.below hb (Nat.le_refl _)))
  have HDB := hide (fun V hb => digits_any b V (by omega) (hE.below hb (Nat.le_refl _)))
  clear hll hcl
  go_upto_region 8 with (first
   | (go_at_call 48; refine HC.out.mono ?_; rintro e w1 ⟨rfl, hb⟩
      have HB1 := hide (HB0.out.trans (hb.mono HB0.out.size))
      have HX1 := hide (HX0.out.below hb HX0.out.lt)
      clear hb))
  obtain ⟨x0, x1, xf0, xf1⟩ := HX1.out.two
  clear HC
  go_upto_region 9 with fail
  have HB2 := hide (HB1.out.setCell (p := ⟨w.heap.size, 0, none⟩) (Nat.le_refl _) (.int .i64 (1)))
  have HX2 := hide (HX1.out.set_ 0 (.int .i64 (1)))
  clear x0 x1 xf0 xf1 HB1 HX1
  generalize w1.setCell ⟨w.heap.size, 0, none⟩ (.int .i64 (1)) = W2 at *
  obtain ⟨x0, x1, xf0, xf1⟩ := HX2.out.two
  obtain ⟨v, ok, hd⟩ : ∃ v ok, digS a = (v, ok) := ⟨_, _, rfl⟩
  obtain ⟨rv, rok, hrd⟩ : ∃ v ok, digS b = (v, ok) := ⟨_, _, rfl⟩
  rw [hd] at HDA hda
  rw [hrd] at HDB hdb
  dsimp only at hda hdb HDA HDB
  by_cases ha : a = []
  ·subst ha
   cases has
   ·have HV : Hid (termP l = ((v * (-1), 1), ok)) := hide (by simp only [HRES.out, coefP_no, rootQ_no, hd])
    clear HRES
    clear x0 x1 xf0 xf1
    obtain ⟨x0, x1, xf0, xf1⟩ := HX2.out.two
    go_upto_region 11 with (first
     | (go_at_call 49; refine (HDA.out _ HB2.out).mono ?_; rintro e w3 ⟨rfl, hb⟩
        have HBm := hide (HB2.out.trans (hb.mono HB2.out.size))
        have HXm := hide (HX2.out.below hb HX2.out.lt)
        clear hb x0 x1 xf0 xf1
        obtain ⟨x0, x1, xf0, xf1⟩ := HXm.out.two))
    have HB4 := hide (HBm.out.setCell (p := ⟨w.heap.size, 0, none⟩) (Nat.le_refl _) (.int .i64 (v)))
    have HX4 := hide (HXm.out.set_ 0 (.int .i64 (v)))
    clear x0 x1 xf0 xf1 HBm HXm
    generalize w3.setCell ⟨w.heap.size, 0, none⟩ (.int .i64 (v)) = W4 at *
    obtain ⟨x0, x1, xf0, xf1⟩ := HX4.out.two
    have hmw : IntKind.i64.wrap (v * (-1)) = v * (-1) := by rw [IntKind.wrap_i64]; omega
    go_wp2
    refine bodyPost_cell_tmp (p := 2) (u := 3) (ty := 52) rfl rfl (((HX4.out.set_ 0 _).set_ 0 _).set_ 1 _) Tryz.underlying52 rfl Tryz.sizeTerm rfl ?_
    refine ⟨?_, (((HB4.out.setCell (p := ⟨w.heap.size, 0, none⟩) (Nat.le_refl _) _).setCell (p := ⟨w.heap.size, 0, none⟩) (Nat.le_refl _) _).setCell (p := ⟨w.heap.size, 1, none⟩) (Nat.le_refl _) _)⟩
    rw [HV.out]
    first | rfl | simp
   ·have HV : Hid (termP l = ((1 * (-1), rv), rok)) := hide (by simp only [HRES.out, coefP_nil, rootQ_yes, hrd])
    clear HRES
    clear x0 x1 xf0 xf1
    obtain ⟨x0, x1, xf0, xf1⟩ := HX2.out.two
    go_upto_region 13 with (first
     | (go_at_call 49; refine (HDB.out _ HB2.out).mono ?_; rintro e w3 ⟨rfl, hb⟩
        have HBm := hide (HB2.out.trans (hb.mono HB2.out.size))
        have HXm := hide (HX2.out.below hb HX2.out.lt)
        clear hb x0 x1 xf0 xf1
        obtain ⟨x0, x1, xf0, xf1⟩ := HXm.out.two))
    have HB4 := hide (HBm.out.setCell (p := ⟨w.heap.size, 1, none⟩) (Nat.le_refl _) (.int .i64 (rv)))
    have HX4 := hide (HXm.out.set_ 1 (.int .i64 (rv)))
    clear x0 x1 xf0 xf1 HBm HXm
    generalize w3.setCell ⟨w.heap.size, 1, none⟩ (.int .i64 (rv)) = W4 at *
    obtain ⟨x0, x1, xf0, xf1⟩ := HX4.out.two
    have hmw : IntKind.i64.wrap (1 * (-1)) = 1 * (-1) := by rw [IntKind.wrap_i64]; omega
    go_wp2
    refine bodyPost_cell_tmp (p := 2) (u := 3) (ty := 52) rfl rfl (((HX4.out.set_ 0 _).set_ 0 _).set_ 1 _) Tryz.underlying52 rfl Tryz.sizeTerm rfl ?_
    refine ⟨?_, (((HB4.out.setCell (p := ⟨w.heap.size, 0, none⟩) (Nat.le_refl _) _).setCell (p := ⟨w.heap.size, 0, none⟩) (Nat.le_refl _) _).setCell (p := ⟨w.heap.size, 1, none⟩) (Nat.le_refl _) _)⟩
    rw [HV.out]
    first | rfl | simp
  ·have hn1 : (a == []) = false := by simp [ha]
   have hn2 : ¬ (⟨a.toArray⟩ : ByteArray) = ⟨#[]⟩ := fun h => ha (by have := congrArg (fun b => b.data.toList) h; simpa using this)
   cases has
   ·have HV : Hid (termP l = ((v * (-1), 1), ok)) := hide (by simp only [HRES.out, coefP_no, rootQ_no, hd])
    clear HRES
    clear x0 x1 xf0 xf1
    obtain ⟨x0, x1, xf0, xf1⟩ := HX2.out.two
    go_upto_region 11 with (first
     | (go_at_call 49; refine (HDA.out _ HB2.out).mono ?_; rintro e w3 ⟨rfl, hb⟩
        have HBm := hide (HB2.out.trans (hb.mono HB2.out.size))
        have HXm := hide (HX2.out.below hb HX2.out.lt)
        clear hb x0 x1 xf0 xf1
        obtain ⟨x0, x1, xf0, xf1⟩ := HXm.out.two))
    have HB4 := hide (HBm.out.setCell (p := ⟨w.heap.size, 0, none⟩) (Nat.le_refl _) (.int .i64 (v)))
    have HX4 := hide (HXm.out.set_ 0 (.int .i64 (v)))
    clear x0 x1 xf0 xf1 HBm HXm
    generalize w3.setCell ⟨w.heap.size, 0, none⟩ (.int .i64 (v)) = W4 at *
    obtain ⟨x0, x1, xf0, xf1⟩ := HX4.out.two
    have hmw : IntKind.i64.wrap (v * (-1)) = v * (-1) := by rw [IntKind.wrap_i64]; omega
    go_wp2
    refine bodyPost_cell_tmp (p := 2) (u := 3) (ty := 52) rfl rfl (((HX4.out.set_ 0 _).set_ 0 _).set_ 1 _) Tryz.underlying52 rfl Tryz.sizeTerm rfl ?_
    refine ⟨?_, (((HB4.out.setCell (p := ⟨w.heap.size, 0, none⟩) (Nat.le_refl _) _).setCell (p := ⟨w.heap.size, 0, none⟩) (Nat.le_refl _) _).setCell (p := ⟨w.heap.size, 1, none⟩) (Nat.le_refl _) _)⟩
    rw [HV.out]
    first | rfl | simp
   ·cases ok
    ·have HV : Hid (termP l = ((v * (-1), 1), false)) := hide (by simp only [HRES.out, coefP_ne ha, rootQ_f, hd])
     clear HRES
     clear x0 x1 xf0 xf1
     obtain ⟨x0, x1, xf0, xf1⟩ := HX2.out.two
     go_upto_region 11 with (first
      | (go_at_call 49; refine (HDA.out _ HB2.out).mono ?_; rintro e w3 ⟨rfl, hb⟩
         have HBm := hide (HB2.out.trans (hb.mono HB2.out.size))
         have HXm := hide (HX2.out.below hb HX2.out.lt)
         clear hb x0 x1 xf0 xf1
         obtain ⟨x0, x1, xf0, xf1⟩ := HXm.out.two))
     have HB4 := hide (HBm.out.setCell (p := ⟨w.heap.size, 0, none⟩) (Nat.le_refl _) (.int .i64 (v)))
     have HX4 := hide (HXm.out.set_ 0 (.int .i64 (v)))
     clear x0 x1 xf0 xf1 HBm HXm
     generalize w3.setCell ⟨w.heap.size, 0, none⟩ (.int .i64 (v)) = W4 at *
     obtain ⟨x0, x1, xf0, xf1⟩ := HX4.out.two
     have hmw : IntKind.i64.wrap (v * (-1)) = v * (-1) := by rw [IntKind.wrap_i64]; omega
     go_wp2
     refine bodyPost_cell_tmp (p := 2) (u := 3) (ty := 52) rfl rfl (((HX4.out.set_ 0 _).set_ 0 _).set_ 1 _) Tryz.underlying52 rfl Tryz.sizeTerm rfl ?_
     refine ⟨?_, (((HB4.out.setCell (p := ⟨w.heap.size, 0, none⟩) (Nat.le_refl _) _).setCell (p := ⟨w.heap.size, 0, none⟩) (Nat.le_refl _) _).setCell (p := ⟨w.heap.size, 1, none⟩) (Nat.le_refl _) _)⟩
     rw [HV.out]
     first | rfl | simp
    ·have HV : Hid (termP l = ((v * (-1), rv), rok)) := hide (by simp only [HRES.out, coefP_ne ha, rootQ_yes, hd, hrd])
     clear HRES
     clear x0 x1 xf0 xf1
     obtain ⟨x0, x1, xf0, xf1⟩ := HX2.out.two
     go_upto_region 11 with (first
      | (go_at_call 49; refine (HDA.out _ HB2.out).mono ?_; rintro e w3 ⟨rfl, hb⟩
         have HBm := hide (HB2.out.trans (hb.mono HB2.out.size))
         have HXm := hide (HX2.out.below hb HX2.out.lt)
         clear hb x0 x1 xf0 xf1
         obtain ⟨x0, x1, xf0, xf1⟩ := HXm.out.two))
     have HB4 := hide (HBm.out.setCell (p := ⟨w.heap.size, 0, none⟩) (Nat.le_refl _) (.int .i64 (v)))
     have HX4 := hide (HXm.out.set_ 0 (.int .i64 (v)))
     clear x0 x1 xf0 xf1 HBm HXm
     generalize w3.setCell ⟨w.heap.size, 0, none⟩ (.int .i64 (v)) = W4 at *
     obtain ⟨x0, x1, xf0, xf1⟩ := HX4.out.two
     clear x0 x1 xf0 xf1
     obtain ⟨x0, x1, xf0, xf1⟩ := HX4.out.two
     go_upto_region 13 with (first
      | (go_at_call 49; refine (HDB.out _ HB4.out).mono ?_; rintro e w3 ⟨rfl, hb⟩
         have HBm := hide (HB4.out.trans (hb.mono HB4.out.size))
         have HXm := hide (HX4.out.below hb HX4.out.lt)
         clear hb x0 x1 xf0 xf1
         obtain ⟨x0, x1, xf0, xf1⟩ := HXm.out.two))
     have HB6 := hide (HBm.out.setCell (p := ⟨w.heap.size, 1, none⟩) (Nat.le_refl _) (.int .i64 (rv)))
     have HX6 := hide (HXm.out.set_ 1 (.int .i64 (rv)))
     clear x0 x1 xf0 xf1 HBm HXm
     generalize w3.setCell ⟨w.heap.size, 1, none⟩ (.int .i64 (rv)) = W6 at *
     obtain ⟨x0, x1, xf0, xf1⟩ := HX6.out.two
     have hmw : IntKind.i64.wrap (v * (-1)) = v * (-1) := by rw [IntKind.wrap_i64]; omega
     go_wp2
     refine bodyPost_cell_tmp (p := 2) (u := 3) (ty := 52) rfl rfl (((HX6.out.set_ 0 _).set_ 0 _).set_ 1 _) Tryz.underlying52 rfl Tryz.sizeTerm rfl ?_
     refine ⟨?_, (((HB6.out.setCell (p := ⟨w.heap.size, 0, none⟩) (Nat.le_refl _) _).setCell (p := ⟨w.heap.size, 0, none⟩) (Nat.le_refl _) _).setCell (p := ⟨w.heap.size, 1, none⟩) (Nat.le_refl _) _)⟩
     rw [HV.out]
     first | rfl | simp
end Go.Proofs.YthkblgglmohciaaGreatDoor
