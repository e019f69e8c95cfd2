import Derived.Test.YtfmnnceacdpbdaaGreatDoorVarN
import Derived.Test.YtfmnnceacdpbdaaGreatDoorLawU
import Derived.Test.YtfmnnceacdpbdaaGreatDoorMakeR
import Derived.Test.YtfmnnceacdpbdaaGreatDoorKnwAToKnwB
set_option linter.unusedVariables false
set_option linter.unusedSimpArgs false
namespace Go.Proofs.YtfmnnceacdpbdaaGreatDoor
open Go Go.RowKit
set_option maxHeartbeats 16000000 in
set_option maxRecDepth 100000 in
theorem makes_any (xd : Int) (A : Option Addr) (n c : Nat) (xt : List (Int × Int)) (den : Int) (P : Option Addr) (m pc : Nat) (ps : List (Int × Int)) (w : World) (hx : TermsQ w w.heap.size A n c xt) (hden : -9223372036854775808 ≤ den ∧ den ≤ 9223372036854775807) (hp : TermsQ w w.heap.size P m pc ps)
  (hE : ErrVars w) (hM : MaxV w) (htab : Lib.TabIs Tryz.prog w "internal/strconv.uint64pow10" .u64 Lib.pow10Tab) :
  Calls Tryz.prog 3 #[.agg #[.int .i64 xd, .slice A n c], .int .i64 den, .slice P m pc] w fun e w' => e = .returned (.bool true) ∧ Below w.heap.size w w' := by
 obtain ⟨gp, hgp⟩ := Option.isSome_iff_exists.1 Tryz.pow10g
 have HK : Hid (∀ W, Below w.heap.size w W → Calls Tryz.prog 11 #[] W fun e w' => e = .returned (.bool true) ∧ Below W.heap.size W w') := hide (fun W hW => known1_any W (hE.below hW (Nat.le_refl _)) (hM.below hW (Nat.le_refl _)) (TabIs_below_ hgp htab hW))
 have hl := hx.len
 subst hl
 have hl := hp.len
 subst hl
 have hmx := Rq.nmax hx
 have hmp := Rq.nmax hp
 have HP := hide (fun W (hb : Below w.heap.size w W) => Rq.below hx hb)
 have HPP := hide (fun W (hb : Below w.heap.size w W) => Rq.below hp hb)
 have HLG := hide (fun W => long1_any xd A xt.length c W (by omega))
 clear hx hp hE hM htab hgp
 go_enter Tryz.func3, Tryz.ntmps3
 go_upto_region 1 with fail
 have HS : Hid ((Below w.heap.size w (w.alloc (.cells #[.int .i64 xd, .slice A xt.length c] 24)) ∧ w.heap.size ≤ (w.alloc (.cells #[.int .i64 xd, .slice A xt.length c] 24)).heap.size) ∧ Blk (w.alloc (.cells #[.int .i64 xd, .slice A xt.length c] 24)) w.heap.size 24 #[.int .i64 xd, .slice A xt.length c]) := hide ⟨⟨(Below.refl _ _).alloc (Nat.le_refl _) _, by simp⟩, Blk.new w _ _⟩
 obtain ⟨X3, hX3⟩ : ∃ X, X = w.heap.size := ⟨_, rfl⟩
 rw [show Blk (w.alloc (.cells #[.int .i64 xd, .slice A xt.length c] 24)) w.heap.size 24 #[.int .i64 xd, .slice A xt.length c] ↔ Blk (w.alloc (.cells #[.int .i64 xd, .slice A xt.length c] 24)) X3 24 #[.int .i64 xd, .slice A xt.length c] by rw [hX3]] at HS
 rw [← hX3] at ⊢
 clear hX3
 generalize w.alloc (.cells #[.int .i64 xd, .slice A xt.length c] 24) = W1 at *
 obtain ⟨x0, x1, _, _⟩ := HS.out.2.two
 have HLG1 := hide (HLG.out W1)
 by_cases h8 : 8 < xt.length
 case' pos =>
  rw [decide_eq_true h8] at HLG1
  clear HP HPP
  go_wp2_with (first
   | (go_at_call 10; refine HLG1.out.mono ?_; rintro e w1 ⟨rfl, hb1⟩
      have HB1 := hide (HS.out.1.1.trans (hb1.mono HS.out.1.2)); have hz1 := HB1.out.size
      clear hb1)
   | (go_at_call 11; refine (HK.out _ HB1.out).mono ?_; rintro e wz ⟨rfl, hbz⟩
      have HBe := hide (HB1.out.trans (hbz.mono hz1))
      clear hbz))
  all_goals
   go_ret
   exact ⟨rfl, HBe.out⟩
 rw [decide_eq_false h8] at HLG1
 have HOWN := hide (fun W (hb : Below w.heap.size w W) (hB : w.heap.size ≤ W.heap.size) => own1_any xd A xt.length c w.heap.size xt W (HP.out W hb) hB (by omega))
 clear HLG h8
 by_cases h9 : 20 < (ps.length : Int)
 case' pos =>
  have hdummy := trivial
  go_upto_region 2 with (first
   | (go_at_call 10; refine (HLG1.out).mono ?_; rintro e w101 ⟨rfl, hb⟩
      have HS_0 := hide (Kept.keep (S := fun W => ((Below w.heap.size w W ∧ w.heap.size ≤ W.heap.size) ∧ Blk W X3 24 #[.int .i64 xd, .slice A xt.length c])) _ _ HS.out hb)
      clear hb))
  clear x0 x1
  have HS0 := hide HS_0.out
  clear HS
  have HS := hide HS0.out
  clear HS0
  clear HP HPP
  have HBk := hide HS.out.1
  go_wp2_with (first
   | (go_at_call 11; refine (HK.out _ HBk.out.1).mono ?_; rintro e wz ⟨rfl, hbz⟩
      have HBe := hide (HBk.out.1.trans (hbz.mono HBk.out.2))
      clear hbz))
  all_goals
   go_ret
   exact ⟨rfl, HBe.out⟩
 go_upto_region 3 with (first
  | (go_at_call 10; refine (HLG1.out).mono ?_; rintro e w101 ⟨rfl, hb⟩
     have HS_0 := hide (Kept.keep (S := fun W => ((Below w.heap.size w W ∧ w.heap.size ≤ W.heap.size) ∧ Blk W X3 24 #[.int .i64 xd, .slice A xt.length c])) _ _ HS.out hb)
     clear hb))
 clear x0 x1 HLG1
 have HS0 := hide HS_0.out
 clear HS
 have HS := hide HS0.out
 clear HS0
 go_upto_region 4 with (first
  | (go_at_call 12; refine (terms1_any P ps.length pc w.heap.size ps w101 (HPP.out _ HS.out.1.1) HS.out.1.2 (by omega)).mono ?_; rintro e w102 ⟨A7, c7, rfl, ho, hb⟩
     have HS_0 := hide (Kept.keep (S := fun W => ((Below w.heap.size w W ∧ w.heap.size ≤ W.heap.size) ∧ Blk W X3 24 #[.int .i64 xd, .slice A xt.length c])) _ _ HS.out hb)
     have HO := hide (own_le ho (Nat.zero_le _))
     clear ho
     clear hb))
 have HS2 : Hid ((((Below w.heap.size w w102 ∧ w.heap.size ≤ w102.heap.size) ∧ Blk w102 X3 24 #[.int .i64 xd, .slice A xt.length c]) ∧ OwnN 0 (A7, ps.length, c7) ps w102)) := hide (And.intro HS_0.out HO.out)
 clear HS HO HS_0
 have HS := hide HS2.out
 clear HS2
 obtain ⟨bo, hbo⟩ : ∃ b, numOK xd xt = b := ⟨_, rfl⟩
 obtain ⟨x0, x1, _, _⟩ := (HS.out.1.2).two
 go_upto_region 5 with (first
  | (go_at_call 13; refine (HC.out).mono ?_; rintro e w104 ⟨rfl, hb⟩
     have HS_1 := hide (Kept.keep (S := fun W => (((Below w.heap.size w W ∧ w.heap.size ≤ W.heap.size) ∧ Blk W X3 24 #[.int .i64 xd, .slice A xt.length c]) ∧ OwnN 0 (A7, ps.length, c7) ps W)) _ _ HS_0.out hb)
     clear HC
     clear hb)
  | (go_at_call 14; refine (HOWN.out w102 HS.out.1.1.1 HS.out.1.1.2).mono ?_; rintro e w103 ⟨A9, n9, c9, rfl, ho, hb⟩
     have HS_0 := hide (Kept.keep (S := fun W => (((Below w.heap.size w W ∧ w.heap.size ≤ W.heap.size) ∧ Blk W X3 24 #[.int .i64 xd, .slice A xt.length c]) ∧ OwnN 0 (A7, ps.length, c7) ps W)) _ _ HS.out hb)
     have hc := check_any xd A9 n9 c9 w103.heap.size xt w103 (Rd.of_own ho) (Nat.le_refl _)
     rw [hbo] at hc
     have HC := hide hc
     clear ho hc
     clear hb))
 clear x0 x1
 have HS0 := hide HS_1.out
 clear HS
 have HS := hide HS0.out
 clear HS0
 clear HS_0
 obtain ⟨zd, zt, zc, hq⟩ : ∃ q1_ q2_ q3_, makeS den ps = (q1_, q2_, q3_) := ⟨_, _, _, rfl⟩
 have HQ := hide hq
 clear hq
 go_upto_region 6 with (first
  | (go_at_call 15; refine ((HQ.out ▸ make_any den A7 ps.length c7 w104.heap.size ps w104 (terms_own HS.out.2) (Nat.le_refl _))).mono ?_; rintro e w105 ⟨A9, n9, c9, rfl, ho, hb⟩
     have HS_0 := hide (Kept.keep (S := fun W => (((Below w.heap.size w W ∧ w.heap.size ≤ W.heap.size) ∧ Blk W X3 24 #[.int .i64 xd, .slice A xt.length c]) ∧ OwnN 0 (A7, ps.length, c7) ps W)) _ _ HS.out hb)
     have HO := hide (own_le ho (Nat.zero_le _))
     clear ho
     clear hb))
 have HS3 := hide (And.intro (Kept.keep (S := fun W => (((Below w.heap.size w W ∧ w.heap.size ≤ W.heap.size) ∧ Blk W X3 24 #[.int .i64 xd, .slice A xt.length c]) ∧ OwnN 0 (A7, ps.length, c7) ps W)) _ _ HS_0.out ((Below.refl _ _).alloc (Nat.le_refl _) (.cells #[.int .i64 (zd), .slice A9 n9 c9] 24))) (Vr.new (d := zd) HO.out))
 obtain ⟨X9, hX⟩ : ∃ X, X = w105.heap.size := ⟨_, rfl⟩
 rw [← hX] at HS3  ⊢
 clear hX HS_0 HO HS
 generalize w105.alloc (.cells #[.int .i64 (zd), .slice A9 n9 c9] 24) = W106 at *
 have HS := hide HS3.out
 clear HS3
 try clear HS_0
 go_upto_region 7 with (first
  | (go_at_call 16; refine ((HQ.out ▸ refMake_any den P ps.length pc w.heap.size ps W106 (HPP.out _ HS.out.1.1.1.1) HS.out.1.1.1.2)).mono ?_; rintro e w107 ⟨A11, n11, c11, rfl, ho, hb⟩
     have HS_0 := hide (Kept.keep (S := fun W => ((((Below w.heap.size w W ∧ w.heap.size ≤ W.heap.size) ∧ Blk W X3 24 #[.int .i64 xd, .slice A xt.length c]) ∧ OwnN 0 (A7, ps.length, c7) ps W) ∧ Vr X9 (zd) A9 n9 c9 (zt) W)) _ _ HS.out hb)
     have HO := hide (own_le ho (Nat.zero_le _))
     clear ho
     clear hb))
 have HS3 := hide (And.intro (Kept.keep (S := fun W => ((((Below w.heap.size w W ∧ w.heap.size ≤ W.heap.size) ∧ Blk W X3 24 #[.int .i64 xd, .slice A xt.length c]) ∧ OwnN 0 (A7, ps.length, c7) ps W) ∧ Vr X9 (zd) A9 n9 c9 (zt) W)) _ _ HS_0.out ((Below.refl _ _).alloc (Nat.le_refl _) (.cells #[.int .i64 (zd), .slice A11 n11 c11] 24))) (Vr.new (d := zd) HO.out))
 obtain ⟨X11, hX⟩ : ∃ X, X = w107.heap.size := ⟨_, rfl⟩
 rw [← hX] at HS3  ⊢
 clear hX HS_0 HO HS
 generalize w107.alloc (.cells #[.int .i64 (zd), .slice A11 n11 c11] 24) = W108 at *
 have HS := hide HS3.out
 clear HS3
 try clear HS_0
 go_wp2
 go_loopw [13] (fun i W => ∃ (k : Nat), k ≤ ps.length ∧ i = .int .i64 k ∧ ∃ q, W = W108.drewN q) (fun i _ => ps.length - (intOf i).toNat)
 case atStart => exact ⟨0, by omega, rfl, 0, rfl⟩
 case round =>
  obtain ⟨k, hk, rfl, q, rfl⟩ := hrel
  have HS0 := hide (Kept.keep (S := fun W => (((((Below w.heap.size w W ∧ w.heap.size ≤ W.heap.size) ∧ Blk W X3 24 #[.int .i64 xd, .slice A xt.length c]) ∧ OwnN 0 (A7, ps.length, c7) ps W) ∧ Vr X9 (zd) A9 n9 c9 (zt) W) ∧ Vr X11 (zd) A11 n11 c11 (zt) W)) _ _ HS.out (show Below W108.heap.size W108 (W108.drewN q) from ⟨rfl, rfl, rfl, Nat.le_refl _, fun _ _ => rfl⟩))
  have HDD := hide (fun p => dd W108 q p)
  clear HS
  generalize W108.drewN q = W at *
  have HS := hide HS0.out
  clear HS0
  by_cases hkl : (k : Int) < (ps.length : Int)
  ·have hk1 : k < ps.length := by omega
   have HTI : Hid (TermsQ W W.heap.size A7 ps.length c7 ps) := hide (Rq.of (terms_own HS.out.1.1.2))
   have HTP : Hid (TermsQ W w.heap.size P ps.length pc ps) := hide (HPP.out _ HS.out.1.1.1.1.1)
   obtain ⟨ad, e1, -, ha0, ha1⟩ := HTI.out.at_ hk1
   obtain ⟨ad2, e2, -, hb0, hb1⟩ := HTP.out.at_ hk1
   clear HTI HTP HS HPP
   subst e1 e2
   go_wp2
   have hnq := fun W => neq_term ps[k].1 ps[k].2 ps[k].1 ps[k].2 W
   have hgt := Tryz.guardTerm
   go_quiet (fail)
   go_wp2
   obtain ⟨q2, hq2⟩ := HDD.out nq
   exact ⟨⟨k + 1, by omega, by go_num, q2, hq2⟩, by simp [intOf]; omega⟩
  ·obtain rfl : k = ps.length := by omega
   clear hkl hk
   cases bo
   ·obtain ⟨x0, x1, _, _⟩ := (HS.out.1.1.1.2).two
    obtain ⟨u9, v9, _, _⟩ := (HS.out.1.2.1).two
    obtain ⟨u11, v11, _, _⟩ := (HS.out.2.1).two
    go_wp2_with (first
     | (go_at_call 11; refine (HK.out _ HS_1.out.1.1.1.1.1).mono ?_; rintro e w111 ⟨rfl, hb⟩
        have HS_2 := hide (Kept.keep (S := fun W => (((((Below w.heap.size w W ∧ w.heap.size ≤ W.heap.size) ∧ Blk W X3 24 #[.int .i64 xd, .slice A xt.length c]) ∧ OwnN 0 (A7, ps.length, c7) ps W) ∧ Vr X9 (zd) A9 n9 c9 (zt) W) ∧ Vr X11 (zd) A11 n11 c11 (zt) W)) _ _ HS_1.out hb)
        have HBe := hide (HS_1.out.1.1.1.1.1.trans (hb.mono HS_1.out.1.1.1.1.2))
        clear hb)
     | (go_at_call 18; refine (lawSelf_any zd A9 n9 c9 A11 n11 c11 zt w109.heap.size w109 (Rq.of (terms_own (HS_0.out.1.2.2))) (Rq.of (terms_own (HS_0.out.2.2))) (Nat.le_refl _)).mono ?_; rintro e w110 ⟨rfl, hb⟩
        have HS_1 := hide (Kept.keep (S := fun W => (((((Below w.heap.size w W ∧ w.heap.size ≤ W.heap.size) ∧ Blk W X3 24 #[.int .i64 xd, .slice A xt.length c]) ∧ OwnN 0 (A7, ps.length, c7) ps W) ∧ Vr X9 (zd) A9 n9 c9 (zt) W) ∧ Vr X11 (zd) A11 n11 c11 (zt) W)) _ _ HS_0.out hb)
        clear hb)
     | (go_at_call 17; refine ((hbo ▸ refNumber_any xd A xt.length c w.heap.size xt W (HP.out _ HS.out.1.1.1.1.1) HS.out.1.1.1.1.2)).mono ?_; rintro e w109 ⟨rfl, hb⟩
        have HS_0 := hide (Kept.keep (S := fun W => (((((Below w.heap.size w W ∧ w.heap.size ≤ W.heap.size) ∧ Blk W X3 24 #[.int .i64 xd, .slice A xt.length c]) ∧ OwnN 0 (A7, ps.length, c7) ps W) ∧ Vr X9 (zd) A9 n9 c9 (zt) W) ∧ Vr X11 (zd) A11 n11 c11 (zt) W)) _ _ HS.out hb)
        clear u9 v9 u11 v11
        obtain ⟨u9, v9, _, _⟩ := (HS_0.out.1.2.1).two
        obtain ⟨u11, v11, _, _⟩ := (HS_0.out.2.1).two
        clear hb))
    all_goals
     go_ret
     exact ⟨rfl, HBe.out⟩
   ·obtain ⟨x0, x1, _, _⟩ := (HS.out.1.1.1.2).two
    obtain ⟨u9, v9, _, _⟩ := (HS.out.1.2.1).two
    obtain ⟨u11, v11, _, _⟩ := (HS.out.2.1).two
    go_wp2_with (first
     | (go_at_call 11; refine (HK.out _ HS_1.out.1.1.1.1.1).mono ?_; rintro e w111 ⟨rfl, hb⟩
        have HS_2 := hide (Kept.keep (S := fun W => (((((Below w.heap.size w W ∧ w.heap.size ≤ W.heap.size) ∧ Blk W X3 24 #[.int .i64 xd, .slice A xt.length c]) ∧ OwnN 0 (A7, ps.length, c7) ps W) ∧ Vr X9 (zd) A9 n9 c9 (zt) W) ∧ Vr X11 (zd) A11 n11 c11 (zt) W)) _ _ HS_1.out hb)
        have HBe := hide (HS_1.out.1.1.1.1.1.trans (hb.mono HS_1.out.1.1.1.1.2))
        clear hb)
     | (go_at_call 18; refine (lawSelf_any zd A9 n9 c9 A11 n11 c11 zt w109.heap.size w109 (Rq.of (terms_own (HS_0.out.1.2.2))) (Rq.of (terms_own (HS_0.out.2.2))) (Nat.le_refl _)).mono ?_; rintro e w110 ⟨rfl, hb⟩
        have HS_1 := hide (Kept.keep (S := fun W => (((((Below w.heap.size w W ∧ w.heap.size ≤ W.heap.size) ∧ Blk W X3 24 #[.int .i64 xd, .slice A xt.length c]) ∧ OwnN 0 (A7, ps.length, c7) ps W) ∧ Vr X9 (zd) A9 n9 c9 (zt) W) ∧ Vr X11 (zd) A11 n11 c11 (zt) W)) _ _ HS_0.out hb)
        clear hb)
     | (go_at_call 17; refine ((hbo ▸ refNumber_any xd A xt.length c w.heap.size xt W (HP.out _ HS.out.1.1.1.1.1) HS.out.1.1.1.1.2)).mono ?_; rintro e w109 ⟨rfl, hb⟩
        have HS_0 := hide (Kept.keep (S := fun W => (((((Below w.heap.size w W ∧ w.heap.size ≤ W.heap.size) ∧ Blk W X3 24 #[.int .i64 xd, .slice A xt.length c]) ∧ OwnN 0 (A7, ps.length, c7) ps W) ∧ Vr X9 (zd) A9 n9 c9 (zt) W) ∧ Vr X11 (zd) A11 n11 c11 (zt) W)) _ _ HS.out hb)
        clear u9 v9 u11 v11
        obtain ⟨u9, v9, _, _⟩ := (HS_0.out.1.2.1).two
        obtain ⟨u11, v11, _, _⟩ := (HS_0.out.2.1).two
        clear hb))
    all_goals
     go_ret
     exact ⟨rfl, HBe.out⟩
end Go.Proofs.YtfmnnceacdpbdaaGreatDoor
