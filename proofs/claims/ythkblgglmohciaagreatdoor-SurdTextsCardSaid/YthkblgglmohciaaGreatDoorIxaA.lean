import Derived.Test.YthkblgglmohciaaGreatDoorCom
import Derived.Laws.RangeAny
import Derived.Lib.OthersKept
import Derived.WalkMore
set_option linter.unusedVariables false
set_option linter.unusedSimpArgs false
namespace Go.Proofs.YthkblgglmohciaaGreatDoor
open Go Go.RowKit
theorem high_body (s : ByteArray) (pos : Nat) (h : pos < s.size) (ha : 128 ≤ (s[pos]'h).toNat) : ∀ k, k < (Utf8.decode s pos).2 → pos + k < s.size ∧ 128 ≤ (s.get! (pos + k)).toNat := by
 have hn : ¬ (s[pos]'h).toNat < 128 := by omega
 have h0 : 128 ≤ (s.get! (pos + 0)).toNat := by rw [get_at s pos h]; exact ha
 have key : ∀ k : Nat, (decide (pos + k < s.size) && (s.get! (pos + k)).toNat / 64 == 2) = true → pos + k < s.size ∧ 128 ≤ (s.get! (pos + k)).toNat := fun k hk => by
  rw [Bool.and_eq_true, decide_eq_true_eq, beq_iff_eq] at hk
  exact ⟨hk.1, by omega⟩
 have hz : pos + 0 < s.size ∧ 128 ≤ (s.get! (pos + 0)).toNat := ⟨h, h0⟩
 intro k hk
 simp only [Utf8.decode, get_at s pos h, hn, if_false] at hk
 repeat' split at hk
 all_goals dsimp only at hk
 all_goals
  rcases k with _ | _ | _ | _ | k
 all_goals first
  | exact hz
  | (exfalso; omega)
  | skip
 all_goals
  rename_i hcond _
  simp only [Bool.and_eq_true] at hcond
  first
   | exact key _ (by simp only [Bool.and_eq_true]; exact hcond.2)
   | exact key _ (by simp only [Bool.and_eq_true]; exact hcond.1.2)
   | exact key _ (by simp only [Bool.and_eq_true]; exact hcond.1.1.2)
theorem encode_cases {c : Int} (h : 128 ≤ c) (hv : Utf8.valid c = true) : (∃ x y, Utf8.encode c = ⟨#[x, y]⟩ ∧ 128 ≤ y.toNat) ∨ (∃ x y z, Utf8.encode c = ⟨#[x, y, z]⟩) ∨ (∃ x y z u, Utf8.encode c = ⟨#[x, y, z, u]⟩) := by
 unfold Utf8.encode
 rw [hv]
 simp only [if_true]
 split
 ·omega
 split
 ·refine .inl ⟨_, _, rfl, ?_⟩
  rw [UInt8.toNat_ofNat']
  omega
 split
 ·exact .inr (.inl ⟨_, _, _, rfl⟩)
 ·exact .inr (.inr ⟨_, _, _, _, rfl⟩)
theorem valid_rune {c : Int} (h0 : 128 ≤ c) : Lib.validRune c = Utf8.valid c := by
 unfold Lib.validRune Utf8.valid
 rw [Bool.eq_iff_iff]
 simp only [Bool.and_eq_true, Bool.or_eq_true, decide_eq_true_eq]
 omega
set_option maxHeartbeats 4000000 in
set_option maxRecDepth 1000000 in
theorem indexRune_high (c : Int) (w : World) (h0 : 128 ≤ c) (h1 : c ≤ 2147483647) :
  Calls Tryz.prog 123 #[.string ⟨#[43, 45]⟩, .int .i32 c] w fun e w' => e = .returned (.int .i64 (-1)) ∧ Below w.heap.size w w' := by
 have hasc : ∀ i (hi : i < 2), ((⟨#[43, 45]⟩ : ByteArray)[i]'hi).toNat < 128 := fun i hi => by
  rcases i with _ | _ | i
  ·show (43 : UInt8).toNat < 128; decide
  ·show (45 : UInt8).toNat < 128; decide
  ·omega
 have hc0 : ¬ c < 128 := by omega
 have hc1 : 0 ≤ c := by omega
 by_cases he : c = 65533
 ·subst he
  go_enter Tryz.func123, Tryz.ntmps123
  go_wp2
  go_loopg [5, 6] 2 (fun g _ _ wx => ∃ i : Nat, i + g = 2 ∧ wx = w.iter ⟨#[43, 45]⟩ i)
  case atStart => exact ⟨0, by omega, rfl⟩
  case round =>
   obtain ⟨i, hig, rfl⟩ := hrel
   cases gk with
   | zero =>
    obtain rfl : i = 2 := by omega
    have hnx := run_next_end (P := Tryz.prog) w ⟨#[43, 45]⟩ 2
    go_wp2
    go_ret
    exact ⟨rfl, (Below.refl _ _).alloc (Nat.le_refl _) _⟩
   | succ g =>
    have hnx := fun ty => run_next_ascii (P := Tryz.prog) w ⟨#[43, 45]⟩ i ty (by show i < 2; omega) (hasc i (by omega))
    obtain ⟨x, hx⟩ : ∃ x : Nat, ((⟨#[43, 45]⟩ : ByteArray)[i]'(by show i < 2; omega)).toNat = x := ⟨_, rfl⟩
    have hx2 : x < 256 := by rw [← hx]; exact UInt8.toNat_lt _
    rw [hx] at hnx
    clear hx
    go_wp2
    go_roundg g
    case measure => omega
    case rel => exact ⟨i + 1, by omega, rfl⟩
 ·have heb : (c == 65533) = false := by simpa using he
  have hvr := valid_rune h0
  cases hv : Utf8.valid c
  ·rw [hv] at hvr
   go_enter Tryz.func123, Tryz.ntmps123
   go_wp2_with (first
    | (go_at_call 153; refine (Tryz.utf8_ValidRune c _).mono ?_; rintro e w1 ⟨rfl, hw1⟩; rw [hw1, hvr]))
   go_ret
   exact ⟨rfl, Below.refl _ _⟩
  ·rw [hv] at hvr
   rcases encode_cases h0 hv with ⟨x, y, hE, hy⟩ | ⟨x, y, z, hE⟩ | ⟨x, y, z, u, hE⟩
   ·have hyb : ((45 : Int) != (y.toNat : Int)) = true := by
     simp only [bne_iff_ne, ne_eq]; omega
    go_enter Tryz.func123, Tryz.ntmps123
    go_wp2_with (first
     | (go_at_call 153; refine (Tryz.utf8_ValidRune c _).mono ?_; rintro e w1 ⟨rfl, hw1⟩; rw [hw1, hvr]))
    go_step3
    go_wp2
    go_loopw [9] (fun iv W => iv = .int .i64 1 ∧ W = w) (fun _ _ => 0)
    case atStart => exact ⟨rfl, rfl⟩
    case round =>
     obtain ⟨rfl, rfl⟩ := hrel
     have hib : ∀ u, Lib.indexByte ByteArray.empty.data.toList u = -1 := fun _ => rfl
     have hne : ∀ h1 h2, ((((⟨#[43, 45]⟩ : ByteArray)[1]'h1).toNat : Int) != (((⟨#[x, y]⟩ : ByteArray)[1]'h2).toNat : Int)) = true := fun _ _ => hyb
     go_wp2
     go_step3
     go_wp2
     go_quiet (fail)
     go_wp2
     have HBV := hide (below_drewN (Below.refl wr.heap.size wr) nq)
     generalize wr.drewN nq = V at *
     go_quiet (first | (go_at_call 152; refine Calls.quiet_of_same (Tryz.strings_IndexByte _ _ _)))
     go_wp2
     rw [Exit.noGoto_ret]
     change Exit.noGoto (Exit.inBlock 0 _) Exit.ret _ _
     rw [Exit.noGoto_ret]
     change Exit.noGoto (Exit.inBlock 0 _) Exit.ret _ _
     rw [Exit.noGoto_ret]
     change Exit.noGoto (Exit.inBlock 0 _) Exit.ret _ _
     rw [Exit.noGoto_ret]
     change Exit.noGoto (Exit.inBlock 0 _) Exit.ret _ _
     rw [Exit.noGoto_ret]
     go_ret
     exact ⟨rfl, below_drewN HBV.out _⟩
   ·go_enter Tryz.func123, Tryz.ntmps123
    go_wp2_with (first
     | (go_at_call 153; refine (Tryz.utf8_ValidRune c _).mono ?_; rintro e w1 ⟨rfl, hw1⟩; rw [hw1, hvr]))
    go_step3
    go_wp2
    go_loopw [9] (fun iv W => iv = .int .i64 2 ∧ W = w) (fun _ _ => 0)
    case atStart => exact ⟨rfl, rfl⟩
    case round =>
     obtain ⟨rfl, rfl⟩ := hrel
     go_wp2
     rw [Exit.noGoto_ret]
     go_ret
     exact ⟨rfl, Below.refl _ _⟩
   ·go_enter Tryz.func123, Tryz.ntmps123
    go_wp2_with (first
     | (go_at_call 153; refine (Tryz.utf8_ValidRune c _).mono ?_; rintro e w1 ⟨rfl, hw1⟩; rw [hw1, hvr]))
    go_step3
    go_wp2
    go_loopw [9] (fun iv W => iv = .int .i64 3 ∧ W = w) (fun _ _ => 0)
    case atStart => exact ⟨rfl, rfl⟩
    case round =>
     obtain ⟨rfl, rfl⟩ := hrel
     go_wp2
     rw [Exit.noGoto_ret]
     go_ret
     exact ⟨rfl, Below.refl _ _⟩
theorem pm_no (b : UInt8) (h : 128 ≤ b.toNat) : ([43, 45] : List UInt8).contains b = false := by
 have h1 : b ≠ 43 := fun e => by rw [e] at h; exact absurd h (by decide)
 have h2 : b ≠ 45 := fun e => by rw [e] at h; exact absurd h (by decide)
 simp [h1, h2]
theorem noAny_rune {s : ByteArray} {pos : Nat} (h : pos < s.size) (ha : 128 ≤ (s[pos]'h).toNat) (hn : Lib.NoAny s.data.toList [43, 45] pos) : Lib.NoAny s.data.toList [43, 45] (pos + (Utf8.decode s pos).2) := by
 intro j b hj hb
 by_cases h1 : j < pos
 ·exact hn j b h1 hb
 ·obtain ⟨k, rfl⟩ := Nat.exists_eq_add_of_le (Nat.le_of_not_lt h1)
  obtain ⟨g1, g2⟩ := high_body s pos h ha k (by omega)
  have g3 := Lib.data_getElem? s (pos + k) g1
  rw [hb] at g3
  have g4 : s.get! (pos + k) = b := by
   rw [Option.some.injEq] at g3
   rw [g3]
   simp [ByteArray.get!, getElem!_pos, g1]
   rfl
  rw [g4] at g2
  exact pm_no b g2
set_option maxHeartbeats 8000000 in
set_option maxRecDepth 1000000 in
theorem indexAny_short (s : ByteArray) (w : World) (h8 : s.size ≤ 8) :
  Calls Tryz.prog 89 #[.string s, .string ⟨#[43, 45]⟩] w fun e w' => e = .returned (.int .i64 (Lib.indexAny s.data.toList [43, 45])) ∧ Below w.heap.size w w' := by
 have h8z : decide ((8 : Int) < (s.size : Int)) = false := decide_eq_false (by omega)
 go_enter Tryz.func89, Tryz.ntmps89
 go_wp2_with (first | (go_at_call 124; refine (Tryz.strings_shouldUseASCIISet _ _).mono ?_; rintro e w' ⟨rfl, hw⟩; rw [hw, h8z]))
 go_loopw [9, 10] (fun _ _ wx => ∃ i : Nat, i ≤ s.size ∧ wx.heap[w.heap.size]? = some (.stringIter s i) ∧ Below w.heap.size w wx ∧ Lib.NoAny s.data.toList [43, 45] i) (fun _ _ wx => s.size - wx.iterPos w.heap.size)
 case atStart => exact ⟨0, by omega, World.iter_heap w s 0, (Below.refl _ _).alloc (Nat.le_refl _) _, Lib.NoAny.zero _ _⟩
 case round =>
  obtain ⟨i, hi, hk, hb, hno⟩ := hrel
  have hmu : wr.iterPos w.heap.size = i := by simp [World.iterPos, hk]
  rw [hmu]
  clear hmu
  have HB := hide hb
  have HN := hide hno
  clear hb hno
  by_cases hlt : i < s.size
  ·by_cases hasc : (s[i]'hlt).toNat < 128
   ·obtain ⟨x, hx⟩ : ∃ x : UInt8, s[i]'hlt = x := ⟨_, rfl⟩
    have hxl := Lib.data_getElem? s i hlt
    have hnx := fun ty => Lib.run_next_ascii_at (P := Tryz.prog) wr w.heap.size s i ty hk hlt hasc
    rw [hx] at hnx hasc hxl
    have HX := hide hxl
    have hk2 := Lib.iterAt_heap wr w.heap.size s i (i + 1) hk
    have HB2 := hide (Lib.below_iterAt HB.out (Nat.le_refl _) s (i + 1))
    have hcon := Lib.contains_iff_indexByte [43, 45] x
    have hback : ((x.toNat : Int)).toNat.toUInt8 = x := by simp
    clear hx hxl hk HB
    generalize wr.iterAt w.heap.size s (i + 1) = W1 at *
    cases hin : ([43, 45] : List UInt8).contains x
    ·rw [hin] at hcon
     have hlt2 : ¬ ((0 : Int) ≤ Lib.indexByte [43, 45] x) := of_decide_eq_false hcon.symm
     clear hcon
     go_wp2_with (first | (go_at_call 123; refine (Tryz.strings_IndexRune_ascii _ _ _ (by omega) (by omega)).mono ?_; rintro e w' ⟨rfl, hw⟩; rw [hw, hback]))
     exact ⟨⟨i + 1, by omega, hk2, HB2.out, HN.out.succ HX.out hin⟩, by simp only [World.iterPos, hk2]; omega⟩
    ·rw [hin] at hcon
     have hge : (0 : Int) ≤ Lib.indexByte [43, 45] x := of_decide_eq_true hcon.symm
     clear hcon
     go_wp2_with (first | (go_at_call 123; refine (Tryz.strings_IndexRune_ascii _ _ _ (by omega) (by omega)).mono ?_; rintro e w' ⟨rfl, hw⟩; rw [hw, hback]))
     go_ret
     exact ⟨by rw [Lib.indexAny_hit HN.out HX.out hin]; rfl, HB2.out⟩
   ·have hbody := high_body s i hlt (by omega)
    have hd1 := (decode_high s i hlt (by omega)).1
    have hd2 := (decode_high s i hlt (by omega)).2
    have hd3 := decode_le s i
    have hN2 := noAny_rune hlt (by omega) HN.out
    have hnx := fun ty => Lib.run_next_any_at (P := Tryz.prog) wr w.heap.size s i ty hk hlt
    have hlen : i + (Utf8.decode s i).2 ≤ s.size := by have := (hbody ((Utf8.decode s i).2 - 1) (by omega)).1; omega
    have hk2 := Lib.iterAt_heap wr w.heap.size s i (i + (Utf8.decode s i).2) hk
    have HB2 := hide (Lib.below_iterAt HB.out (Nat.le_refl _) s (i + (Utf8.decode s i).2))
    clear hbody hk HB hasc
    generalize (Utf8.decode s i).1 = c at *
    generalize (Utf8.decode s i).2 = d at *
    generalize wr.iterAt w.heap.size s (i + d) = W1 at *
    have HN2 := hide hN2
    have HC := hide (indexRune_high (c : Int) W1 (by omega) (by omega))
    clear hN2
    go_wp2_with (first | (go_at_call 123; refine HC.out.mono ?_; rintro e w' ⟨rfl, hb⟩; have HB3 := hide (HB2.out.trans (hb.mono HB2.out.size)); have hk3 := (hb.block w.heap.size (Array.getElem?_eq_some_iff.1 hk2).1).trans hk2; clear hb))
    exact ⟨⟨i + d, hlen, hk3, HB3.out, HN2.out⟩, by simp only [World.iterPos, hk3]; omega⟩
  ·obtain rfl : i = s.size := by omega
   have hnx := fun ty => Lib.run_next_end_at (P := Tryz.prog) wr w.heap.size s s.size ty hk hlt
   go_wp2
   go_ret
   exact ⟨by rw [Lib.indexAny_none (by rw [← Lib.size_eq]; exact HN.out)]; rfl, HB.out⟩
theorem indexAny_pm (l : List UInt8) (w : World) (hl : l.length ≤ 1000) :
  Calls Tryz.prog 89 #[.string ⟨l.toArray⟩, .string ⟨#[43, 45]⟩] w fun e w' => e = .returned (.int .i64 (Lib.indexAny l [43, 45])) ∧ Below w.heap.size w w' := by
 have hs : (⟨l.toArray⟩ : ByteArray).size = l.length := by show l.toArray.size = _; simp
 by_cases h8 : l.length ≤ 8
 ·have h := indexAny_short ⟨l.toArray⟩ w (by omega)
  simpa using h
 ·have hz : (Tryz.prog.info? 130).map (fun i => (i.zero, i.size)) = some (some (.agg (Array.replicate 256 (.bool false))), 256) := by kernel_rfl
  refine (Tryz.strings_IndexAny_long (zero_of_info hz).1 ⟨l.toArray⟩ ⟨#[43, 45]⟩ w (by decide) (by omega) (by omega) (by decide) (fun j b h => ?_)).mono ?_
  ·have := List.mem_of_getElem? h
   simp at this
   rcases this with rfl | rfl <;> decide
  ·rintro e w' ⟨rfl, rfl⟩
   refine ⟨by simp, ?_⟩
   exact ((Below.refl _ _).alloc (Nat.le_refl _) _).alloc (by simp) _
end Go.Proofs.YthkblgglmohciaaGreatDoor
