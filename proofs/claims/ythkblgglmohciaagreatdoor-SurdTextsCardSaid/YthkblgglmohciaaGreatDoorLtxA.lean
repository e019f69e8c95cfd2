import Derived.Test.YthkblgglmohciaaGreatDoorReaB
import Derived.Test.YthkblgglmohciaaGreatDoorPrtC
import Derived.Test.YthkblgglmohciaaGreatDoorFmtBToFmtC
import Derived.Test.YthkblgglmohciaaGreatDoorIdxToSurdF
import Derived.Test.YthkblgglmohciaaGreatDoorTxtAToVrqA
import Derived.Test.YthkblgglmohciaaGreatDoorVarNToLayN
import Derived.Test.YthkblgglmohciaaGreatDoorLawUToLawV
import Derived.Test.YthkblgglmohciaaGreatDoorKnwAToKnwB
set_option linter.unusedVariables false
set_option linter.unusedSimpArgs false
namespace Go.Proofs.YthkblgglmohciaaGreatDoor
open Go Go.RowKit
set_option maxHeartbeats 16000000 in
set_option maxRecDepth 100000 in
theorem texts_any (xd : Int) (A : Option Addr) (n c : Nat) (xt : List (Int × Int)) (s : ByteArray) (w : World) (hx : TermsQ w w.heap.size A n c xt) (hs : s.size ≤ maxLen)
  (hE : ErrVars w) (hM : MaxV w) (htab : Lib.TabIs Tryz.prog w "internal/strconv.uint64pow10" .u64 Lib.pow10Tab) :
  Calls Tryz.prog 5 #[.agg #[.int .i64 xd, .slice A n c], .string s] w fun e w' => e = .returned (.bool true) ∧ Below w.heap.size w w' := by
 obtain ⟨gp, hgp⟩ := Option.isSome_iff_exists.1 Tryz.pow10g
 have HK : Hid (∀ W, Below w.heap.size w W → Calls Tryz.prog 9 #[] W fun e w' => e = .returned (.bool true) ∧ Below W.heap.size W w') := hide (fun W hW => known1_any W (hE.below hW (Nat.le_refl _)) (hM.below hW (Nat.le_refl _)) (TabIs_below_ hgp htab hW))
 have hl := hx.len
 subst hl
 have hmx := Rq.nmax hx
 have HP := hide (fun W (hb : Below w.heap.size w W) => Rq.below hx hb)
 have HLG := hide (fun W => long1_any xd A xt.length c W (by omega))
 have hmx2 : s.size ≤ 9223372036854775807 := hs
 obtain ⟨l, hsl⟩ : ∃ l : List UInt8, s = ⟨l.toArray⟩ := ⟨s.data.toList, by cases s; simp⟩
 have hsz : s.size = l.length := str_of hsl
 have HSL := hide hsl
 have HFM := hide (fun W (hb : Below w.heap.size w W) (d : Int) (A : Option Addr) (n c : Nat) (ts : List (Int × Int)) (ht : Terms W W.heap.size A n c ts) => format_flat d A n c ts W.heap.size W ht (Nat.le_refl _) (TabIs_below_ hgp htab hb))
 have HPAR := hide (fun W (hb : Below w.heap.size w W) (l : List UInt8) => surdParse_any l W (asciiT_all l) (hE.below hb (Nat.le_refl _)) (hM.below hb (Nat.le_refl _)) (TabIs_below_ hgp htab hb))
 obtain ⟨⟨D, T, E⟩, hpr⟩ : ∃ pr, parseN l = pr := ⟨_, rfl⟩
 have HPA : Hid (∀ W, Below w.heap.size w W → Calls Tryz.prog 19 #[.string s] W (fun e w' => ∃ (A : Option Addr) (n c : Nat), e = .returned (.tuple #[.agg #[.int .i64 D, .slice A n c], .int .i64 E]) ∧ w'.ownsRow W.heap.size 52 2 (.slice A n c) n (cellsT T) ∧ Below W.heap.size W w')) := hide (fun W hb => by
  have h := HPAR.out W hb l
  rw [hpr, ← hsl] at h
  exact h)
 obtain ⟨⟨F, U, ok⟩, hrd⟩ : ∃ rd, readS l = rd := ⟨_, rfl⟩
 have HRP : Hid ((E = 0 ∧ F = D ∧ U = T ∧ ok = true ∧ l.length ≤ 64) ∨ (D = 0 ∧ T = [] ∧ ok = false ∧ (64 < l.length ∧ E = 5 ∨ l.length ≤ 64 ∧ E = 4))) := hide (by
  have h := read_parse l
  rw [hpr, hrd] at h
  rcases h with ⟨d, ts, _, _, h1, h2, h3⟩ | ⟨⟨h3, h1⟩ | ⟨h3, h1⟩, h2⟩
  ·cases h1; cases h2; exact .inl ⟨rfl, rfl, rfl, rfl, h3⟩
  ·cases h1; cases h2; exact .inr ⟨rfl, rfl, rfl, .inl ⟨h3, rfl⟩⟩
  ·cases h1; cases h2; exact .inr ⟨rfl, rfl, rfl, .inr ⟨h3, rfl⟩⟩)
 have HRD : Hid (l.length ≤ 1000 → ∀ W, Calls Tryz.prog 21 #[.string s] W (fun e w' => ∃ (A : Option Addr) (c : Nat), e = .returned (.tuple #[.agg #[.int .i64 F, .slice A U.length c], .bool ok]) ∧ TermsQ w' w'.heap.size A U.length c U ∧ Below W.heap.size W w')) := hide (fun hl W => by
  have h := read10_any l W hl
  rw [hrd, ← hsl] at h
  exact h)
 clear hrd
 clear hx hE hM htab hgp hpr hsl hs
 go_enter Tryz.func5, Tryz.ntmps5
 go_upto_region 1 with fail
 have HS : Hid ((Below w.heap.size w (w.alloc (.cells #[.int .i64 xd, .slice A xt.length c] 24)) ∧ w.heap.size ≤ (w.alloc (.cells #[.int .i64 xd, .slice A xt.length c] 24)).heap.size) ∧ Blk (w.alloc (.cells #[.int .i64 xd, .slice A xt.length c] 24)) w.heap.size 24 #[.int .i64 xd, .slice A xt.length c]) := hide ⟨⟨(Below.refl _ _).alloc (Nat.le_refl _) _, by simp⟩, Blk.new w _ _⟩
 obtain ⟨X1, hX1⟩ : ∃ X, X = w.heap.size := ⟨_, rfl⟩
 rw [show Blk (w.alloc (.cells #[.int .i64 xd, .slice A xt.length c] 24)) w.heap.size 24 #[.int .i64 xd, .slice A xt.length c] ↔ Blk (w.alloc (.cells #[.int .i64 xd, .slice A xt.length c] 24)) X1 24 #[.int .i64 xd, .slice A xt.length c] by rw [hX1]] at HS
 rw [← hX1] at ⊢
 clear hX1
 generalize w.alloc (.cells #[.int .i64 xd, .slice A xt.length c] 24) = W1 at *
 obtain ⟨x0, x1, _, _⟩ := HS.out.2.two
 have HLG1 := hide (HLG.out W1)
 by_cases h8 : 8 < xt.length
 case' pos =>
  rw [decide_eq_true h8] at HLG1
  go_wp2_with (first
   | (go_at_call 8; refine HLG1.out.mono ?_; rintro e w1 ⟨rfl, hb1⟩
      have HB1 := hide (HS.out.1.1.trans (hb1.mono HS.out.1.2)); have hz1 := HB1.out.size
      clear hb1)
   | (go_at_call 9; refine (HK.out _ HB1.out).mono ?_; rintro e wz ⟨rfl, hbz⟩
      have HBe := hide (HB1.out.trans (hbz.mono hz1))
      clear hbz))
  all_goals
   go_ret
   exact ⟨rfl, HBe.out⟩
 rw [decide_eq_false h8] at HLG1
 by_cases h80 : 80 < s.size
 case' pos =>
  have h80i : (80 : Int) < (s.size : Int) := by omega
  go_wp2_with (first
   | (go_at_call 8; refine HLG1.out.mono ?_; rintro e w1 ⟨rfl, hb1⟩
      have HB1 := hide (HS.out.1.1.trans (hb1.mono HS.out.1.2)); have hz1 := HB1.out.size
      clear hb1)
   | (go_at_call 9; refine (HK.out _ HB1.out).mono ?_; rintro e wz ⟨rfl, hbz⟩
      have HBe := hide (HB1.out.trans (hbz.mono hz1))
      clear hbz))
  all_goals
   go_ret
   exact ⟨rfl, HBe.out⟩
 have h80i : ¬ (80 : Int) < (s.size : Int) := by omega
 have HOWN := hide (fun W (hb : Below w.heap.size w W) (hB : w.heap.size ≤ W.heap.size) => own1_any xd A xt.length c w.heap.size xt W (HP.out W hb) hB (by omega))
 clear HLG h8
 go_upto_region 3 with (first
  | (go_at_call 8; refine (HLG1.out).mono ?_; rintro e w101 ⟨rfl, hb⟩
     have HS_0 := hide (Kept.keep (S := fun W => ((Below w.heap.size w W ∧ w.heap.size ≤ W.heap.size) ∧ Blk W X1 24 #[.int .i64 xd, .slice A xt.length c])) _ _ HS.out hb)
     clear hb))
 clear x0 x1 HLG1
 have HS0 := hide HS_0.out
 clear HS
 have HS := hide HS0.out
 clear HS0
 cases hn : numOK xd xt
 ·have HF2 := hide (fun W hb A n c ht => HFM.out W hb xd A n c xt ht)
  rw [hn] at HF2
  clear HFM
  obtain ⟨x0, x1, _, _⟩ := (HS.out.2).two
  go_upto_region 4 with (first
   | (go_at_call 11; refine (HOWN.out w101 HS.out.1.1 HS.out.1.2).mono ?_; rintro e w102 ⟨A9, n9, c9, rfl, ho, hb⟩
      have HS_0 := hide (Kept.keep (S := fun W => ((Below w.heap.size w W ∧ w.heap.size ≤ W.heap.size) ∧ Blk W X1 24 #[.int .i64 xd, .slice A xt.length c])) _ _ HS.out hb)
      have HC := hide (HF2.out w102 HS_0.out.1.1 A9 n9 c9 (Rd.of_own ho))
      rw [if_neg (by decide)] at HC
      clear ho
      clear hb)
   | (go_at_call 18; refine (HC.out).mono ?_; rintro e w103 ⟨rfl, hb⟩
      have HS_1 := hide (Kept.keep (S := fun W => ((Below w.heap.size w W ∧ w.heap.size ≤ W.heap.size) ∧ Blk W X1 24 #[.int .i64 xd, .slice A xt.length c])) _ _ HS_0.out hb)
      clear HC
      clear hb))
  clear x0 x1 HF2 HOWN
  have HS0 := hide HS_1.out
  clear HS
  have HS := hide HS0.out
  clear HS0
  try clear HS_0
  go_upto_region 5 with (first
   | (go_at_call 19; refine (HPA.out w103 HS.out.1.1).mono ?_; rintro e w104 ⟨A7, n7, c7, rfl, ho, hb⟩
      have HS_0 := hide (Kept.keep (S := fun W => ((Below w.heap.size w W ∧ w.heap.size ≤ W.heap.size) ∧ Blk W X1 24 #[.int .i64 xd, .slice A xt.length c])) _ _ HS.out hb)
      have HO := hide (own_le ho (Nat.zero_le _))
      clear ho
      clear hb))
  have HS3 := hide (And.intro (Kept.keep (S := fun W => ((Below w.heap.size w W ∧ w.heap.size ≤ W.heap.size) ∧ Blk W X1 24 #[.int .i64 xd, .slice A xt.length c])) _ _ HS_0.out ((Below.refl _ _).alloc (Nat.le_refl _) (.cells #[.int .i64 (D), .slice A7 n7 c7] 24))) (Vr.new (d := D) HO.out))
  obtain ⟨X7, hX⟩ : ∃ X, X = w104.heap.size := ⟨_, rfl⟩
  rw [← hX] at HS3  ⊢
  clear hX HS_0 HO HS
  generalize w104.alloc (.cells #[.int .i64 (D), .slice A7 n7 c7] 24) = W105 at *
  have HS := hide HS3.out
  clear HS3
  clear HPA
  have HNM := hide (fun W (hb : Below w.heap.size w W) (hB : w.heap.size ≤ W.heap.size) => refNumber_any xd A xt.length c w.heap.size xt W (HP.out W hb) hB)
  rw [hn] at HNM
  obtain ⟨x0, x1, _, _⟩ := (HS.out.1.2).two
  go_upto_region 7 with (first
   | (go_at_call 15; refine (HNM.out w106 HS_0.out.1.1.1 HS_0.out.1.1.2).mono ?_; rintro e w107 ⟨rfl, hb⟩
      have HS_1 := hide (Kept.keep (S := fun W => (((Below w.heap.size w W ∧ w.heap.size ≤ W.heap.size) ∧ Blk W X1 24 #[.int .i64 xd, .slice A xt.length c]) ∧ Vr X7 (D) A7 n7 c7 (T) W)) _ _ HS_0.out hb)
      clear x0 x1
      obtain ⟨x0, x1, _, _⟩ := (HS_1.out.1.2).two
      clear hb)
   | (go_at_call 15; refine (HNM.out W105 HS.out.1.1.1 HS.out.1.1.2).mono ?_; rintro e w106 ⟨rfl, hb⟩
      have HS_0 := hide (Kept.keep (S := fun W => (((Below w.heap.size w W ∧ w.heap.size ≤ W.heap.size) ∧ Blk W X1 24 #[.int .i64 xd, .slice A xt.length c]) ∧ Vr X7 (D) A7 n7 c7 (T) W)) _ _ HS.out hb)
      clear x0 x1
      obtain ⟨x0, x1, _, _⟩ := (HS_0.out.1.2).two
      clear hb))
  clear x0 x1 HNM
  have HS0 := hide HS_1.out
  clear HS
  have HS := hide HS0.out
  clear HS0
  clear HP
  try clear HS_0
  try clear HS_1
  try clear HS_2
  go_upto_region 8 with (first
   | (go_at_call 21; refine (HRD.out (by omega) w107).mono ?_; rintro e w108 ⟨A9, c9, rfl, ht, hb⟩
      have HS_0 := hide (Kept.keep (S := fun W => (((Below w.heap.size w W ∧ w.heap.size ≤ W.heap.size) ∧ Blk W X1 24 #[.int .i64 xd, .slice A xt.length c]) ∧ Vr X7 (D) A7 n7 c7 (T) W)) _ _ HS.out hb)
      have HO := hide ht
      clear ht
      clear hb))
  have HS3 := hide (And.intro (Kept.keep (S := fun W => (((Below w.heap.size w W ∧ w.heap.size ≤ W.heap.size) ∧ Blk W X1 24 #[.int .i64 xd, .slice A xt.length c]) ∧ Vr X7 (D) A7 n7 c7 (T) W)) _ _ HS_0.out ((Below.refl _ _).alloc (Nat.le_refl _) (.cells #[.int .i64 F, .slice A9 U.length c9] 24))) (VrQ.new (d := F) HO.out))
  obtain ⟨X9, hX⟩ : ∃ X, X = w108.heap.size := ⟨_, rfl⟩
  rw [← hX] at HS3 ⊢
  clear hX HS_0 HO HS HRD
  generalize w108.alloc (.cells #[.int .i64 F, .slice A9 U.length c9] 24) = W5 at *
  have HS := hide HS3.out
  clear HS3
  rcases HRP.out with ⟨rfl, rfl, rfl, rfl, h64⟩ | ⟨rfl, rfl, rfl, ⟨h64, rfl⟩ | ⟨h64, rfl⟩⟩
  ·have h64i : ¬ (64 : Int) < (s.size : Int) := by omega
   obtain ⟨u7, v7, _, _⟩ := HS.out.1.2.1.two
   obtain ⟨y0, y1, _, _⟩ := (HS.out.2.1).two
   clear HRP
   go_wp2_with (first
    | (go_at_call 9; refine (HK.out _ HS_0.out.1.1.1.1).mono ?_; rintro e wz ⟨rfl, hbz⟩
       have HBe := hide (HS_0.out.1.1.1.1.trans (hbz.mono HS_0.out.1.1.1.2))
       clear hbz)
    | (go_at_call 13; refine (lawSelf_any F A7 n7 c7 A9 U.length c9 U W5.heap.size W5 (Rq.of (terms_own (HS.out.1.2.2))) (VrQ.read HS.out.2) (Nat.le_refl _)).mono ?_; rintro e wq ⟨rfl, hb⟩
       have HS_0 := hide (Kept.keep (S := fun W => ((((Below w.heap.size w W ∧ w.heap.size ≤ W.heap.size) ∧ Blk W X1 24 #[.int .i64 xd, .slice A xt.length c]) ∧ Vr X7 (F) A7 n7 c7 (U) W) ∧ VrQ X9 F A9 U.length c9 U W)) _ _ HS.out hb)
       clear hb))
   all_goals
    go_ret
    exact ⟨rfl, HBe.out⟩
  ·have h64i : (64 : Int) < (s.size : Int) := by omega
   obtain ⟨u7, v7, _, _⟩ := HS.out.1.2.1.two
   obtain rfl : n7 = 0 := by have h := (terms_own (A := A7) (n := n7) (c := c7) HS.out.1.2.2).len; simpa using h.symm
   clear HRP
   go_wp2_with (first
    | (go_at_call 9; refine (HK.out _ HS_0.out.1.1.1.1).mono ?_; rintro e wz ⟨rfl, hbz⟩
       have HBe := hide (HS_0.out.1.1.1.1.trans (hbz.mono HS_0.out.1.1.1.2))
       clear hbz)
    | (go_at_call 22; refine (none1_any 0 A7 0 c7 W5 (by omega)).mono ?_; rintro e wq ⟨rfl, hb⟩
       have HS_0 := hide (Kept.keep (S := fun W => ((((Below w.heap.size w W ∧ w.heap.size ≤ W.heap.size) ∧ Blk W X1 24 #[.int .i64 xd, .slice A xt.length c]) ∧ Vr X7 (0) A7 0 c7 ([]) W) ∧ VrQ X9 F A9 U.length c9 U W)) _ _ HS.out hb)
       clear hb))
   all_goals
    go_ret
    exact ⟨rfl, HBe.out⟩
  ·have h64i : ¬ (64 : Int) < (s.size : Int) := by omega
   obtain ⟨u7, v7, _, _⟩ := HS.out.1.2.1.two
   obtain rfl : n7 = 0 := by have h := (terms_own (A := A7) (n := n7) (c := c7) HS.out.1.2.2).len; simpa using h.symm
   clear HRP
   go_wp2_with (first
    | (go_at_call 9; refine (HK.out _ HS_0.out.1.1.1.1).mono ?_; rintro e wz ⟨rfl, hbz⟩
       have HBe := hide (HS_0.out.1.1.1.1.trans (hbz.mono HS_0.out.1.1.1.2))
       clear hbz)
    | (go_at_call 22; refine (none1_any 0 A7 0 c7 W5 (by omega)).mono ?_; rintro e wq ⟨rfl, hb⟩
       have HS_0 := hide (Kept.keep (S := fun W => ((((Below w.heap.size w W ∧ w.heap.size ≤ W.heap.size) ∧ Blk W X1 24 #[.int .i64 xd, .slice A xt.length c]) ∧ Vr X7 (0) A7 0 c7 ([]) W) ∧ VrQ X9 F A9 U.length c9 U W)) _ _ HS.out hb)
       clear hb))
   all_goals
    go_ret
    exact ⟨rfl, HBe.out⟩
 ·have HF2 := hide (fun W hb A n c ht => HFM.out W hb xd A n c xt ht)
  rw [hn] at HF2
  clear HFM
  obtain ⟨tx, htx⟩ : ∃ tx : ByteArray, tx = ⟨(numT xd xt).toArray⟩ := ⟨_, rfl⟩
  have HTX := hide htx
  clear htx
  obtain ⟨x0, x1, _, _⟩ := (HS.out.2).two
  go_upto_region 4 with (first
   | (go_at_call 11; refine (HOWN.out w101 HS.out.1.1 HS.out.1.2).mono ?_; rintro e w102 ⟨A9, n9, c9, rfl, ho, hb⟩
      have HS_0 := hide (Kept.keep (S := fun W => ((Below w.heap.size w W ∧ w.heap.size ≤ W.heap.size) ∧ Blk W X1 24 #[.int .i64 xd, .slice A xt.length c])) _ _ HS.out hb)
      have HC := hide (HF2.out w102 HS_0.out.1.1 A9 n9 c9 (Rd.of_own ho))
      rw [if_pos rfl, ← HTX.out] at HC
      clear ho
      clear hb)
   | (go_at_call 18; refine (HC.out).mono ?_; rintro e w103 ⟨rfl, hb⟩
      have HS_1 := hide (Kept.keep (S := fun W => ((Below w.heap.size w W ∧ w.heap.size ≤ W.heap.size) ∧ Blk W X1 24 #[.int .i64 xd, .slice A xt.length c])) _ _ HS_0.out hb)
      clear HC
      clear hb))
  clear x0 x1 HF2 HOWN
  have HS0 := hide HS_1.out
  clear HS
  have HS := hide HS0.out
  clear HS0
  try clear HS_0
  go_upto_region 5 with (first
   | (go_at_call 19; refine (HPA.out w103 HS.out.1.1).mono ?_; rintro e w104 ⟨A7, n7, c7, rfl, ho, hb⟩
      have HS_0 := hide (Kept.keep (S := fun W => ((Below w.heap.size w W ∧ w.heap.size ≤ W.heap.size) ∧ Blk W X1 24 #[.int .i64 xd, .slice A xt.length c])) _ _ HS.out hb)
      have HO := hide (own_le ho (Nat.zero_le _))
      clear ho
      clear hb))
  have HS3 := hide (And.intro (Kept.keep (S := fun W => ((Below w.heap.size w W ∧ w.heap.size ≤ W.heap.size) ∧ Blk W X1 24 #[.int .i64 xd, .slice A xt.length c])) _ _ HS_0.out ((Below.refl _ _).alloc (Nat.le_refl _) (.cells #[.int .i64 (D), .slice A7 n7 c7] 24))) (Vr.new (d := D) HO.out))
  obtain ⟨X7, hX⟩ : ∃ X, X = w104.heap.size := ⟨_, rfl⟩
  rw [← hX] at HS3  ⊢
  clear hX HS_0 HO HS
  generalize w104.alloc (.cells #[.int .i64 (D), .slice A7 n7 c7] 24) = W105 at *
  have HS := hide HS3.out
  clear HS3
  clear HPA
  have HNM := hide (fun W (hb : Below w.heap.size w W) (hB : w.heap.size ≤ W.heap.size) => refNumber_any xd A xt.length c w.heap.size xt W (HP.out W hb) hB)
  rw [hn] at HNM
  have HTT := hide (fun W (hb : Below w.heap.size w W) (hB : w.heap.size ≤ W.heap.size) => numText_any xd A xt.length c w.heap.size xt W (HP.out W hb) hB hn)
  rw [← HTX.out] at HTT
  obtain ⟨x0, x1, _, _⟩ := (HS.out.1.2).two
  go_upto_region 7 with (first
   | (go_at_call 20; refine (HTT.out w107 HS_1.out.1.1.1 HS_1.out.1.1.2).mono ?_; rintro e w108 ⟨rfl, hb⟩
      have HS_2 := hide (Kept.keep (S := fun W => (((Below w.heap.size w W ∧ w.heap.size ≤ W.heap.size) ∧ Blk W X1 24 #[.int .i64 xd, .slice A xt.length c]) ∧ Vr X7 (D) A7 n7 c7 (T) W)) _ _ HS_1.out hb)
      clear hb)
   | (go_at_call 15; refine (HNM.out w106 HS_0.out.1.1.1 HS_0.out.1.1.2).mono ?_; rintro e w107 ⟨rfl, hb⟩
      have HS_1 := hide (Kept.keep (S := fun W => (((Below w.heap.size w W ∧ w.heap.size ≤ W.heap.size) ∧ Blk W X1 24 #[.int .i64 xd, .slice A xt.length c]) ∧ Vr X7 (D) A7 n7 c7 (T) W)) _ _ HS_0.out hb)
      clear x0 x1
      obtain ⟨x0, x1, _, _⟩ := (HS_1.out.1.2).two
      clear hb)
   | (go_at_call 15; refine (HNM.out W105 HS.out.1.1.1 HS.out.1.1.2).mono ?_; rintro e w106 ⟨rfl, hb⟩
      have HS_0 := hide (Kept.keep (S := fun W => (((Below w.heap.size w W ∧ w.heap.size ≤ W.heap.size) ∧ Blk W X1 24 #[.int .i64 xd, .slice A xt.length c]) ∧ Vr X7 (D) A7 n7 c7 (T) W)) _ _ HS.out hb)
      clear x0 x1
      obtain ⟨x0, x1, _, _⟩ := (HS_0.out.1.2).two
      clear hb))
  clear x0 x1 HNM HTT HTX
  have HS0 := hide HS_2.out
  clear HS
  have HS := hide HS0.out
  clear HS0
  clear HP
  try clear HS_0
  try clear HS_1
  try clear HS_2
  go_upto_region 8 with (first
   | (go_at_call 21; refine (HRD.out (by omega) w108).mono ?_; rintro e w109 ⟨A9, c9, rfl, ht, hb⟩
      have HS_0 := hide (Kept.keep (S := fun W => (((Below w.heap.size w W ∧ w.heap.size ≤ W.heap.size) ∧ Blk W X1 24 #[.int .i64 xd, .slice A xt.length c]) ∧ Vr X7 (D) A7 n7 c7 (T) W)) _ _ HS.out hb)
      have HO := hide ht
      clear ht
      clear hb))
  have HS3 := hide (And.intro (Kept.keep (S := fun W => (((Below w.heap.size w W ∧ w.heap.size ≤ W.heap.size) ∧ Blk W X1 24 #[.int .i64 xd, .slice A xt.length c]) ∧ Vr X7 (D) A7 n7 c7 (T) W)) _ _ HS_0.out ((Below.refl _ _).alloc (Nat.le_refl _) (.cells #[.int .i64 F, .slice A9 U.length c9] 24))) (VrQ.new (d := F) HO.out))
  obtain ⟨X9, hX⟩ : ∃ X, X = w109.heap.size := ⟨_, rfl⟩
  rw [← hX] at HS3 ⊢
  clear hX HS_0 HO HS HRD
  generalize w109.alloc (.cells #[.int .i64 F, .slice A9 U.length c9] 24) = W5 at *
  have HS := hide HS3.out
  clear HS3
  rcases HRP.out with ⟨rfl, rfl, rfl, rfl, h64⟩ | ⟨rfl, rfl, rfl, ⟨h64, rfl⟩ | ⟨h64, rfl⟩⟩
  ·have h64i : ¬ (64 : Int) < (s.size : Int) := by omega
   obtain ⟨u7, v7, _, _⟩ := HS.out.1.2.1.two
   obtain ⟨y0, y1, _, _⟩ := (HS.out.2.1).two
   clear HRP
   go_wp2_with (first
    | (go_at_call 9; refine (HK.out _ HS_0.out.1.1.1.1).mono ?_; rintro e wz ⟨rfl, hbz⟩
       have HBe := hide (HS_0.out.1.1.1.1.trans (hbz.mono HS_0.out.1.1.1.2))
       clear hbz)
    | (go_at_call 13; refine (lawSelf_any F A7 n7 c7 A9 U.length c9 U W5.heap.size W5 (Rq.of (terms_own (HS.out.1.2.2))) (VrQ.read HS.out.2) (Nat.le_refl _)).mono ?_; rintro e wq ⟨rfl, hb⟩
       have HS_0 := hide (Kept.keep (S := fun W => ((((Below w.heap.size w W ∧ w.heap.size ≤ W.heap.size) ∧ Blk W X1 24 #[.int .i64 xd, .slice A xt.length c]) ∧ Vr X7 (F) A7 n7 c7 (U) W) ∧ VrQ X9 F A9 U.length c9 U W)) _ _ HS.out hb)
       clear hb))
   all_goals
    go_ret
    exact ⟨rfl, HBe.out⟩
  ·have h64i : (64 : Int) < (s.size : Int) := by omega
   obtain ⟨u7, v7, _, _⟩ := HS.out.1.2.1.two
   obtain rfl : n7 = 0 := by have h := (terms_own (A := A7) (n := n7) (c := c7) HS.out.1.2.2).len; simpa using h.symm
   clear HRP
   go_wp2_with (first
    | (go_at_call 9; refine (HK.out _ HS_0.out.1.1.1.1).mono ?_; rintro e wz ⟨rfl, hbz⟩
       have HBe := hide (HS_0.out.1.1.1.1.trans (hbz.mono HS_0.out.1.1.1.2))
       clear hbz)
    | (go_at_call 22; refine (none1_any 0 A7 0 c7 W5 (by omega)).mono ?_; rintro e wq ⟨rfl, hb⟩
       have HS_0 := hide (Kept.keep (S := fun W => ((((Below w.heap.size w W ∧ w.heap.size ≤ W.heap.size) ∧ Blk W X1 24 #[.int .i64 xd, .slice A xt.length c]) ∧ Vr X7 (0) A7 0 c7 ([]) W) ∧ VrQ X9 F A9 U.length c9 U W)) _ _ HS.out hb)
       clear hb))
   all_goals
    go_ret
    exact ⟨rfl, HBe.out⟩
  ·have h64i : ¬ (64 : Int) < (s.size : Int) := by omega
   obtain ⟨u7, v7, _, _⟩ := HS.out.1.2.1.two
   obtain rfl : n7 = 0 := by have h := (terms_own (A := A7) (n := n7) (c := c7) HS.out.1.2.2).len; simpa using h.symm
   clear HRP
   go_wp2_with (first
    | (go_at_call 9; refine (HK.out _ HS_0.out.1.1.1.1).mono ?_; rintro e wz ⟨rfl, hbz⟩
       have HBe := hide (HS_0.out.1.1.1.1.trans (hbz.mono HS_0.out.1.1.1.2))
       clear hbz)
    | (go_at_call 22; refine (none1_any 0 A7 0 c7 W5 (by omega)).mono ?_; rintro e wq ⟨rfl, hb⟩
       have HS_0 := hide (Kept.keep (S := fun W => ((((Below w.heap.size w W ∧ w.heap.size ≤ W.heap.size) ∧ Blk W X1 24 #[.int .i64 xd, .slice A xt.length c]) ∧ Vr X7 (0) A7 0 c7 ([]) W) ∧ VrQ X9 F A9 U.length c9 U W)) _ _ HS.out hb)
       clear hb))
   all_goals
    go_ret
    exact ⟨rfl, HBe.out⟩
end Go.Proofs.YthkblgglmohciaaGreatDoor
