import Derived.Test.YtfmnnceacdpbdaaGreatDoorSqrC
import Derived.Test.YtfmnnceacdpbdaaGreatDoorVarN
import Derived.Test.YtfmnnceacdpbdaaGreatDoorLawU
import Derived.Test.YtfmnnceacdpbdaaGreatDoorKnwAToKnwB
set_option linter.unusedVariables false
set_option linter.unusedSimpArgs false
namespace Go.Proofs.YtfmnnceacdpbdaaGreatDoor
open Go.RowKit
set_option maxHeartbeats 16000000 in
set_option maxRecDepth 100000 in
theorem squares_any (xd : Int) (A : Option Addr) (n c : Nat) (xt : List (Int × Int)) (w : World) (hx : TermsQ w w.heap.size A n c xt)
  (hE : ErrVars w) (hM : MaxV w) (htab : Lib.TabIs Tryz.prog w "internal/strconv.uint64pow10" .u64 Lib.pow10Tab) :
  Calls Tryz.prog 7 #[.agg #[.int .i64 xd, .slice A n c]] w fun e w' => e = .returned (.bool true) ∧ Below w.heap.size w w' := by
 obtain ⟨gp, hgp⟩ := Option.isSome_iff_exists.1 Tryz.pow10g
 have HK : Hid (∀ W, Below w.heap.size w W → Calls Tryz.prog 11 #[] W fun e w' => e = .returned (.bool true) ∧ Below W.heap.size W w') := hide (fun W hW => known1_any W (hE.below hW (Nat.le_refl _)) (hM.below hW (Nat.le_refl _)) (TabIs_below_ hgp htab hW))
 have hl := hx.len
 subst hl
 have hmx := Rq.nmax hx
 have HP := hide (fun W (hb : Below w.heap.size w W) => Rq.below hx hb)
 have HLG := hide (fun W => long1_any xd A xt.length c W (by omega))
 clear hx hE hM htab hgp
 go_enter Tryz.func7, Tryz.ntmps7
 go_upto_region 1 with fail
 have HS : Hid ((Below w.heap.size w (w.alloc (.cells #[.int .i64 xd, .slice A xt.length c] 24)) ∧ w.heap.size ≤ (w.alloc (.cells #[.int .i64 xd, .slice A xt.length c] 24)).heap.size) ∧ Blk (w.alloc (.cells #[.int .i64 xd, .slice A xt.length c] 24)) w.heap.size 24 #[.int .i64 xd, .slice A xt.length c]) := hide ⟨⟨(Below.refl _ _).alloc (Nat.le_refl _) _, by simp⟩, Blk.new w _ _⟩
 obtain ⟨X1, hX1⟩ : ∃ X, X = w.heap.size := ⟨_, rfl⟩
 rw [show Blk (w.alloc (.cells #[.int .i64 xd, .slice A xt.length c] 24)) w.heap.size 24 #[.int .i64 xd, .slice A xt.length c] ↔ Blk (w.alloc (.cells #[.int .i64 xd, .slice A xt.length c] 24)) X1 24 #[.int .i64 xd, .slice A xt.length c] by rw [hX1]] at HS
 rw [← hX1] at ⊢
 clear hX1
 generalize w.alloc (.cells #[.int .i64 xd, .slice A xt.length c] 24) = W1 at *
 obtain ⟨x0, x1, _, _⟩ := HS.out.2.two
 have HLG1 := hide (HLG.out W1)
 by_cases h8 : 8 < xt.length
 case' pos =>
  rw [decide_eq_true h8] at HLG1
  go_wp2_with (first
   | (go_at_call 10; refine HLG1.out.mono ?_; rintro e w1 ⟨rfl, hb1⟩
      have HB1 := hide (HS.out.1.1.trans (hb1.mono HS.out.1.2)); have hz1 := HB1.out.size
      clear hb1)
   | (go_at_call 11; refine (HK.out _ HB1.out).mono ?_; rintro e wz ⟨rfl, hbz⟩
      have HBe := hide (HB1.out.trans (hbz.mono hz1))
      clear hbz))
  all_goals
   go_ret
   exact ⟨rfl, HBe.out⟩
 rw [decide_eq_false h8] at HLG1
 have HOWN := hide (fun W (hb : Below w.heap.size w W) (hB : w.heap.size ≤ W.heap.size) => own1_any xd A xt.length c w.heap.size xt W (HP.out W hb) hB (by omega))
 clear HLG h8
 cases hn : numOK xd xt
 case' false =>
  have hdummy := trivial
  go_upto_region 2 with (first
   | (go_at_call 10; refine (HLG1.out).mono ?_; rintro e w101 ⟨rfl, hb⟩
      have HS_0 := hide (Kept.keep (S := fun W => ((Below w.heap.size w W ∧ w.heap.size ≤ W.heap.size) ∧ Blk W X1 24 #[.int .i64 xd, .slice A xt.length c])) _ _ HS.out hb)
      clear x0 x1
      obtain ⟨x0, x1, _, _⟩ := HS_0.out.2.two
      clear hb)
   | (go_at_call 14; refine (HOWN.out w101 HS_0.out.1.1 HS_0.out.1.2).mono ?_; rintro e w102 ⟨A9, n9, c9, rfl, ho, hb⟩
      have HS_1 := hide (Kept.keep (S := fun W => ((Below w.heap.size w W ∧ w.heap.size ≤ W.heap.size) ∧ Blk W X1 24 #[.int .i64 xd, .slice A xt.length c])) _ _ HS_0.out hb)
      have hc := check_any xd A9 n9 c9 w102.heap.size xt w102 (Rd.of_own ho) (Nat.le_refl _)
      rw [hn] at hc
      have HC := hide hc
      clear ho hc
      clear hb)
   | (go_at_call 13; refine (HC.out).mono ?_; rintro e w103 ⟨rfl, hb⟩
      have HS_2 := hide (Kept.keep (S := fun W => ((Below w.heap.size w W ∧ w.heap.size ≤ W.heap.size) ∧ Blk W X1 24 #[.int .i64 xd, .slice A xt.length c])) _ _ HS_1.out hb)
      clear HC
      clear hb))
  have HS0 := hide HS_2.out
  clear HS
  have HS := hide HS0.out
  clear HS0
  clear HS_0 HS_1
  have HBk := hide HS.out.1
  go_wp2_with (first
   | (go_at_call 11; refine (HK.out _ HBk.out.1).mono ?_; rintro e wz ⟨rfl, hbz⟩
      have HBe := hide (HBk.out.1.trans (hbz.mono HBk.out.2))
      clear hbz))
  all_goals
   go_ret
   exact ⟨rfl, HBe.out⟩
 go_upto_region 3 with (first
  | (go_at_call 10; refine (HLG1.out).mono ?_; rintro e w101 ⟨rfl, hb⟩
     have HS_0 := hide (Kept.keep (S := fun W => ((Below w.heap.size w W ∧ w.heap.size ≤ W.heap.size) ∧ Blk W X1 24 #[.int .i64 xd, .slice A xt.length c])) _ _ HS.out hb)
     clear x0 x1
     obtain ⟨x0, x1, _, _⟩ := HS_0.out.2.two
     clear hb)
  | (go_at_call 14; refine (HOWN.out w101 HS_0.out.1.1 HS_0.out.1.2).mono ?_; rintro e w102 ⟨A9, n9, c9, rfl, ho, hb⟩
     have HS_1 := hide (Kept.keep (S := fun W => ((Below w.heap.size w W ∧ w.heap.size ≤ W.heap.size) ∧ Blk W X1 24 #[.int .i64 xd, .slice A xt.length c])) _ _ HS_0.out hb)
     have hc := check_any xd A9 n9 c9 w102.heap.size xt w102 (Rd.of_own ho) (Nat.le_refl _)
     rw [hn] at hc
     have HC := hide hc
     clear ho hc
     clear hb)
  | (go_at_call 13; refine (HC.out).mono ?_; rintro e w103 ⟨rfl, hb⟩
     have HS_2 := hide (Kept.keep (S := fun W => ((Below w.heap.size w W ∧ w.heap.size ≤ W.heap.size) ∧ Blk W X1 24 #[.int .i64 xd, .slice A xt.length c])) _ _ HS_1.out hb)
     clear HC
     clear hb))
 clear x0 x1 HLG1
 have HS0 := hide HS_2.out
 clear HS
 have HS := hide HS0.out
 clear HS0
 clear HS_0 HS_1
 obtain ⟨x0, x1, _, _⟩ := HS.out.2.two
 go_upto_region 4 with (first
  | (go_at_call 14; refine (HOWN.out w103 HS.out.1.1 HS.out.1.2).mono ?_; rintro e w104 ⟨A9, n9, c9, rfl, ho, hb⟩
     have HS_0 := hide (Kept.keep (S := fun W => ((Below w.heap.size w W ∧ w.heap.size ≤ W.heap.size) ∧ Blk W X1 24 #[.int .i64 xd, .slice A xt.length c])) _ _ HS.out hb)
     have HC := hide (sign_flat xd A9 n9 c9 xt w104.heap.size w104 (Rd.of_own ho) (Nat.le_refl _))
     clear ho
     clear hb)
  | (go_at_call 29; refine (HC.out).mono ?_; rintro e w105 ⟨n, ce, rfl, hr, hb⟩
     have HS_1 := hide (Kept.keep (S := fun W => ((Below w.heap.size w W ∧ w.heap.size ≤ W.heap.size) ∧ Blk W X1 24 #[.int .i64 xd, .slice A xt.length c])) _ _ HS_0.out hb)
     obtain ⟨rfl, hsg, hrg, hz⟩ := sq_sign hn hr
     have HSG := hide hsg
     clear hr hsg
     clear HC
     clear hb))
 clear x0 x1
 have HS0 := hide HS_1.out
 clear HS
 have HS := hide HS0.out
 clear HS0
 clear HS_0
 have hiff : ((xt.length : Int) == 0) = (n == 0) := by
  rw [Bool.eq_iff_iff]
  simp only [beq_iff_eq]
  rw [hz]
  constructor
  ·intro h; exact List.length_eq_zero_iff.1 (by omega)
  ·intro h; rw [h]; rfl
 clear hz
 by_cases hneg : n < 0
 ·obtain rfl : n = -1 := by omega
  clear hrg
  obtain ⟨x0, x1, _, _⟩ := (HS.out.2).two
  go_upto_region 6 with fail
  clear hiff
  go_upto_region 7 with (first
   | (go_at_call 14; refine (HOWN.out w105 HS.out.1.1 HS.out.1.2).mono ?_; rintro e w106 ⟨A9, n9, c9, rfl, ho, hb⟩
      have HS_0 := hide (Kept.keep (S := fun W => ((Below w.heap.size w W ∧ w.heap.size ≤ W.heap.size) ∧ Blk W X1 24 #[.int .i64 xd, .slice A xt.length c])) _ _ HS.out hb)
      have HC := hide (root_flat xd A9 n9 c9 xt w106.heap.size w106 (Rd.of_own ho) (Nat.le_refl _))
      clear ho
      clear hb)
   | (go_at_call 30; refine (HC.out).mono ?_; rintro e w107 ⟨res, hres, A5, n5, c5, rfl, ho, hb⟩
      have HS_1 := hide (Kept.keep (S := fun W => ((Below w.heap.size w W ∧ w.heap.size ≤ W.heap.size) ∧ Blk W X1 24 #[.int .i64 xd, .slice A xt.length c])) _ _ HS_0.out hb)
      have HO := hide (own_le ho (Nat.zero_le _))
      have HRT := hide (sq_root hn HSG.out hres)
      clear ho hres
      clear HC
      clear hb))
  clear x0 x1
  have HS3 := hide (And.intro (Kept.keep (S := fun W => ((Below w.heap.size w W ∧ w.heap.size ≤ W.heap.size) ∧ Blk W X1 24 #[.int .i64 xd, .slice A xt.length c])) _ _ HS_1.out ((Below.refl _ _).alloc (Nat.le_refl _) (.cells #[.int .i64 (res.1), .slice A5 n5 c5] 24))) (Vr.new (d := res.1) HO.out))
  obtain ⟨X5, hX⟩ : ∃ X, X = w107.heap.size := ⟨_, rfl⟩
  rw [← hX] at HS3 ⊢
  clear hX HS_1 HO HS
  generalize w107.alloc (.cells #[.int .i64 (res.1), .slice A5 n5 c5] 24) = W108 at *
  have HS := hide HS3.out
  clear HS3
  clear HS_0
  have hc3 : res.2.2 = 3 := HRT.out.1.1 (by decide)
  clear HRT
  obtain ⟨rd, rt, rc⟩ := res
  dsimp only at hc3 HS ⊢
  subst hc3
  go_upto_region 14 with fail
  obtain ⟨sd, st, cs, hq⟩ : ∃ a b d, mulS xd xt xd xt = (a, b, d) := ⟨_, _, _, rfl⟩
  have HQ := hide hq
  clear hq
  obtain ⟨u1, v1, _, _⟩ := (HS.out.1.2).two
  have h1 : X1 < W108.heap.size := (HS.out.1.2).lt
  have HN1 := hide trivial
  have HGd : Hid ((((Below w.heap.size w W108.drew ∧ w.heap.size ≤ W108.drew.heap.size) ∧ Blk W108.drew X1 24 #[.int .i64 xd, .slice A xt.length c]) ∧ Vr X5 (rd) A5 n5 c5 (rt) W108.drew) ∧ (Below W108.heap.size W108 W108.drew ∧ W108.heap.size ≤ W108.drew.heap.size)) := hide ⟨Kept.keep (S := fun W => (((Below w.heap.size w W ∧ w.heap.size ≤ W.heap.size) ∧ Blk W X1 24 #[.int .i64 xd, .slice A xt.length c]) ∧ Vr X5 (rd) A5 n5 c5 (rt) W)) _ _ HS.out (Below.drew (Below.refl _ _)), Below.drew (Below.refl _ _), Nat.le_refl _⟩
  refine wp_region_flow 9 (fun W' => Below W108.heap.size W108 W') (fun _ v W' => MadeN W108.heap.size v W') [8] (fun W' => (((Below w.heap.size w W' ∧ w.heap.size ≤ W'.heap.size) ∧ Blk W' X1 24 #[.int .i64 xd, .slice A xt.length c]) ∧ Vr X5 (rd) A5 n5 c5 (rt) W') ∧ (Below W108.heap.size W108 W' ∧ W108.heap.size ≤ W'.heap.size)) (by kernel_rfl)
   (Floats.of (by decide +kernel) (fun c a d v w => by cases d <;> exact Iff.rfl) (by
    intro i hi a W' hF
    obtain rfl : i = 8 := by simpa using hi
    refine wpOp_step rfl (fun K' hK0 => ?_)
    have hK := hide hK0
    clear hK0
    go_simp
    exact hK.out _ _ ⟨_, rfl, ⟨_, rfl, hF.size, Blk.new _ _ _⟩, (Below.refl _ _).alloc (Nat.le_refl _) _⟩) (fun i v W W' ⟨X, h1, h2, h3⟩ hb => ⟨X, h1, h2, h3.below hb h3.lt⟩))
   (fun _ _ _ h => h) (by decide) HGd.out (fun W h => h.2.1) (fun HFL => ?_)
  refine Safe.take 0 (v := ?_) rfl rfl HFL (by decide +kernel) (fun W h => h.2.1) (by rfl) (fun W hF => ?_) ?_
  rotate_left 1
  focus (have hF := hF (by decide +kernel); have e1 := (hF.cell (p := ⟨X1, 0, none⟩) h1).trans u1; have e2 := (hF.cell (p := ⟨X1, 1, none⟩) h1).trans v1; clear hF; go_simp; first | done | with_reducible rfl)
  (try simp only [Act.put, List.setIfInBounds_toArray, List.set_cons_zero, List.set_cons_succ])
  refine Safe.take 2 (v := ?_) rfl rfl HFL (by decide +kernel) (fun W h => h.2.1) (by rfl) (fun W hF => ?_) ?_
  rotate_left 1
  focus (have hF := hF (by decide +kernel); have e1 := (hF.cell (p := ⟨X1, 0, none⟩) h1).trans u1; have e2 := (hF.cell (p := ⟨X1, 1, none⟩) h1).trans v1; clear hF; go_simp; first | done | with_reducible rfl)
  (try simp only [Act.put, List.setIfInBounds_toArray, List.set_cons_zero, List.set_cons_succ])
  refine Safe.on 1 (fun x : Sl => .agg #[.int .i64 (xd), .slice x.1 x.2.1 x.2.2]) (fun x W => OwnN 0 x (xt) W) rfl rfl HFL (by decide +kernel) (fun W h => h.2.1) (fun W hG K' hK => ?_) (fun x1 hF1 => ?_)
  focus
   have HC := hide (HOWN.out W (hG.1.1.1.1) (hG.1.1.1.2))
   clear hG
   go_simp
   go_wp2_with (first
    | (go_at_call 14; refine HC.out.mono ?_; rintro e w6 ⟨A, n, c, rfl, ho, hb⟩
       have HO := hide (own_le ho (Nat.zero_le _)); have HBB := hide hb; clear ho hb))
   exact hK.out (A, n, c) _ HO.out HBB.out
  (try simp only [Act.put, List.setIfInBounds_toArray, List.set_cons_zero, List.set_cons_succ])
  refine Safe.on 3 (fun x : Sl => .agg #[.int .i64 (xd), .slice x.1 x.2.1 x.2.2]) (fun x W => OwnN 0 x (xt) W) rfl rfl HFL (by decide +kernel) hF1 (fun W hG K' hK => ?_) (fun x3 hF3 => ?_)
  focus
   have HC := hide (HOWN.out W (hG.1.1.1.1.1) (hG.1.1.1.1.2))
   clear hG
   go_simp
   go_wp2_with (first
    | (go_at_call 14; refine HC.out.mono ?_; rintro e w6 ⟨A, n, c, rfl, ho, hb⟩
       have HO := hide (own_le ho (Nat.zero_le _)); have HBB := hide hb; clear ho hb))
   exact hK.out (A, n, c) _ HO.out HBB.out
  (try simp only [Act.put, List.setIfInBounds_toArray, List.set_cons_zero, List.set_cons_succ])
  refine Safe.on 4 (fun x : Sl => .tuple #[.agg #[.int .i64 (sd), .slice x.1 x.2.1 x.2.2], .int .i64 (cs)]) (fun x W => OwnN 0 x (st) W) rfl rfl HFL (by decide +kernel) hF3 (fun W hG K' hK => ?_) (fun x4 hF4 => ?_)
  focus
   have HC := hide (mul_flat (xd) x1.1 x1.2.1 x1.2.2 (xt) (xd) x3.1 x3.2.1 x3.2.2 (xt)  W.heap.size W (terms_own (hG.1.2)) (terms_own (hG.2)) (Nat.le_refl _) )
   rw [HQ.out] at HC
   clear hG
   go_simp
   go_wp2_with (first
    | (go_at_call 19; refine HC.out.mono ?_; rintro e w6 ⟨A, n, c, rfl, ho, hb⟩
       have HO := hide (own_le ho (Nat.zero_le _)); clear ho
       have HBB := hide hb; clear hb))
   exact hK.out (A, n, c) _ HO.out HBB.out
  (try simp only [Act.put, List.setIfInBounds_toArray, List.set_cons_zero, List.set_cons_succ])
  refine Safe.take 5 (v := ?_) rfl rfl HFL (by decide +kernel) hF4 (by rfl) (fun W hF => ?_) ?_
  rotate_left 1
  focus (clear hF; go_simp; first | done | with_reducible rfl)
  (try simp only [Act.put, List.setIfInBounds_toArray, List.set_cons_zero, List.set_cons_succ])
  refine Safe.take 6 (v := ?_) rfl rfl HFL (by decide +kernel) hF4 (by rfl) (fun W hF => ?_) ?_
  rotate_left 1
  focus (clear hF; go_simp; first | done | with_reducible rfl)
  (try simp only [Act.put, List.setIfInBounds_toArray, List.set_cons_zero, List.set_cons_succ])
  refine Safe.take 7 (v := ?_) rfl rfl HFL (by decide +kernel) hF4 (by rfl) (fun W hF => ?_) ?_
  rotate_left 1
  focus (clear hF; go_simp; first | done | with_reducible rfl)
  (try simp only [Act.put, List.setIfInBounds_toArray, List.set_cons_zero, List.set_cons_succ])
  refine Safe.force (some 11) HFL (by decide +kernel) rfl hF4 (fun vf => ?_)
  (try simp only [Act.put, List.setIfInBounds_toArray, List.set_cons_zero, List.set_cons_succ])
  refine Safe.fin rfl (fun W h => hF4 W h.1) (fun W109 hG hHeld => ?_)
  obtain ⟨hG, X11, rfl, hX, hN⟩ := hG
  have HS1 := hide (Vr.made (S := fun W => (((Below w.heap.size w W ∧ w.heap.size ≤ W.heap.size) ∧ Blk W X1 24 #[.int .i64 xd, .slice A xt.length c]) ∧ Vr X5 (rd) A5 n5 c5 (rt) W)) (d := sd) HS.out hG.1.1.1.2.1 hX hN hG.2)
  obtain ⟨q0, q1, qf0, qf1⟩ := hN.two
  clear hG HFL hF1 hF3 hF4 hX hN HGd HS u1 v1 h1 HN1
  refine wpTill_one 9 rfl (by decide +kernel) (fun K hK => ?_)
  go_simp
  refine hK.out _ _ ⟨trivial, fun h => absurd h (by decide +kernel), fun _ => trivial⟩ (fun hHeld => ?_)
  clear hK K
  (try simp only [Act.put, List.setIfInBounds_toArray, List.set_cons_zero, List.set_cons_succ])
  refine wpTill_take 10 rfl (by decide +kernel) (fun c a w h => by first | exact h | (cases h; done)) (by rfl) (v := ?_) ?_ hHeld (fun hHeld' => ?_)
  rotate_left 1
  focus (intro w' hSw; obtain ⟨hC, hF, hG⟩ := hSw; clear hG; clear hF; go_simp; first | done | with_reducible rfl)
  clear hHeld
  rename Till _ _ _ _ _ _ _ => hHeld
  (try simp only [Act.put, List.setIfInBounds_toArray, List.set_cons_zero, List.set_cons_succ])
  refine wpTill_done (by decide +kernel) ?_
  clear hHeld
  clear q0 q1 qf0 qf1
  generalize (W109.setCell ⟨X11, 0, none⟩ (.int .i64 (sd))).setCell ⟨X11, 1, none⟩ (.slice x4.1 x4.2.1 x4.2.2) = W110 at *
  obtain ⟨A11, n11, c11⟩ := x4
  dsimp only at HS1
  have HS := hide HS1.out
  clear HS1
  by_cases hcs : cs = 0
  rotate_left 1
  ·have hcs2 : (cs == 0) = false := by simpa using hcs
   clear hcs
   have HBk := hide HS.out.1.1.1
   go_wp2_with (first
    | (go_at_call 11; refine (HK.out _ HBk.out.1).mono ?_; rintro e wz ⟨rfl, hbz⟩
       have HBe := hide (HBk.out.1.trans (hbz.mono HBk.out.2))
       clear hbz))
   all_goals
    go_ret
    exact ⟨rfl, HBe.out⟩
  subst hcs
  by_cases hl : xt.length ≤ 2
  rotate_left 1
  ·have hl2 : ¬ (xt.length : Int) ≤ 2 := by omega
   clear hl
   obtain ⟨x0, x1, _, _⟩ := (HS.out.1.1.2).two
   have HBk := hide HS.out.1.1.1
   go_wp2_with (first
    | (go_at_call 11; refine (HK.out _ HBk.out.1).mono ?_; rintro e wz ⟨rfl, hbz⟩
       have HBe := hide (HBk.out.1.trans (hbz.mono HBk.out.2))
       clear hbz))
   all_goals
    go_ret
    exact ⟨rfl, HBe.out⟩
  have hl2 : (xt.length : Int) ≤ 2 := by omega
  obtain ⟨x0, x1, _, _⟩ := (HS.out.1.1.2).two
  go_upto_region 16 with fail
  clear x0 x1
  obtain ⟨od, ot, co, hop⟩ : ∃ a b d, plusS 1 [] xd xt (-1) = (a, b, d) := ⟨_, _, _, rfl⟩
  obtain rfl : co = 0 := by have := opp_ok hn; rw [hop] at this; exact this
  have HOP := hide hop
  clear hop
  obtain ⟨u11, v11, _, _⟩ := (HS.out.2.1).two
  go_upto_region 17 with (first
   | (go_at_call 30; refine (root_flat sd A11 n11 c11 st W110.heap.size W110 (terms_own (HS.out.2.2)) (Nat.le_refl _)).mono ?_; rintro e w111 ⟨res2, hres, A13, n13, c13, rfl, ho, hb⟩
      have HS_0 := hide (Kept.keep (S := fun W => ((((Below w.heap.size w W ∧ w.heap.size ≤ W.heap.size) ∧ Blk W X1 24 #[.int .i64 xd, .slice A xt.length c]) ∧ Vr X5 (rd) A5 n5 c5 (rt) W) ∧ Vr X11 (sd) A11 n11 c11 (st) W)) _ _ HS.out hb)
      obtain rfl := (sq_opp hn HSG.out hneg hl HQ.out hres).trans HOP.out
      have HO := hide (own_le ho (Nat.zero_le _))
      clear ho hres
      clear hb))
  clear u11 v11
  have HS3 := hide (And.intro (Kept.keep (S := fun W => ((((Below w.heap.size w W ∧ w.heap.size ≤ W.heap.size) ∧ Blk W X1 24 #[.int .i64 xd, .slice A xt.length c]) ∧ Vr X5 (rd) A5 n5 c5 (rt) W) ∧ Vr X11 (sd) A11 n11 c11 (st) W)) _ _ HS_0.out ((Below.refl _ _).alloc (Nat.le_refl _) (.cells #[.int .i64 (od), .slice A13 n13 c13] 24))) (Vr.new (d := od) HO.out))
  obtain ⟨X13, hX⟩ : ∃ X, X = w111.heap.size := ⟨_, rfl⟩
  rw [← hX] at HS3 ⊢
  clear hX HS_0 HO HS
  generalize w111.alloc (.cells #[.int .i64 (od), .slice A13 n13 c13] 24) = W112 at *
  have HS := hide HS3.out
  clear HS3
  try clear HS_0
  obtain ⟨x0, x1, _, _⟩ := (HS.out.1.1.1.2).two
  go_upto_region 18 with (first
   | (go_at_call 14; refine (HOWN.out W112 HS.out.1.1.1.1.1 HS.out.1.1.1.1.2).mono ?_; rintro e w113 ⟨A9, n9, c9, rfl, ho, hb⟩
      have HS_0 := hide (Kept.keep (S := fun W => (((((Below w.heap.size w W ∧ w.heap.size ≤ W.heap.size) ∧ Blk W X1 24 #[.int .i64 xd, .slice A xt.length c]) ∧ Vr X5 (rd) A5 n5 c5 (rt) W) ∧ Vr X11 (sd) A11 n11 c11 (st) W) ∧ Vr X13 (od) A13 n13 c13 (ot) W)) _ _ HS.out hb)
      have HC := hide (HOP.out ▸ sub_flat 1 none 0 0 [] xd A9 n9 c9 xt w113.heap.size w113 (Rd.nil_ _ _ _) (Rd.of_own ho) (Nat.le_refl _))
      clear ho
      clear hb)
   | (go_at_call 27; refine (HC.out).mono ?_; rintro e w114 ⟨A15, n15, c15, rfl, ho, hb⟩
      have HS_1 := hide (Kept.keep (S := fun W => (((((Below w.heap.size w W ∧ w.heap.size ≤ W.heap.size) ∧ Blk W X1 24 #[.int .i64 xd, .slice A xt.length c]) ∧ Vr X5 (rd) A5 n5 c5 (rt) W) ∧ Vr X11 (sd) A11 n11 c11 (st) W) ∧ Vr X13 (od) A13 n13 c13 (ot) W)) _ _ HS_0.out hb)
      have HO := hide (own_le ho (Nat.zero_le _))
      clear ho HC
      clear hb))
  clear x0 x1
  have HS3 := hide (And.intro (Kept.keep (S := fun W => (((((Below w.heap.size w W ∧ w.heap.size ≤ W.heap.size) ∧ Blk W X1 24 #[.int .i64 xd, .slice A xt.length c]) ∧ Vr X5 (rd) A5 n5 c5 (rt) W) ∧ Vr X11 (sd) A11 n11 c11 (st) W) ∧ Vr X13 (od) A13 n13 c13 (ot) W)) _ _ HS_1.out ((Below.refl _ _).alloc (Nat.le_refl _) (.cells #[.int .i64 (od), .slice A15 n15 c15] 24))) (Vr.new (d := od) HO.out))
  obtain ⟨X15, hX⟩ : ∃ X, X = w114.heap.size := ⟨_, rfl⟩
  rw [← hX] at HS3 ⊢
  clear hX HS_1 HO HS
  generalize w114.alloc (.cells #[.int .i64 (od), .slice A15 n15 c15] 24) = W115 at *
  have HS := hide HS3.out
  clear HS3
  clear HS_0
  obtain ⟨u13, v13, _, _⟩ := (HS.out.1.2.1).two
  obtain ⟨u15, v15, _, _⟩ := (HS.out.2.1).two
  go_upto_region 20 with (first
   | (go_at_call 18; refine (lawSelf_any od A13 n13 c13 A15 n15 c15 ot W115.heap.size W115 (Rq.of (terms_own (HS.out.1.2.2))) (Rq.of (terms_own (HS.out.2.2))) (Nat.le_refl _)).mono ?_; rintro e w116 ⟨rfl, hb⟩
      have HS_0 := hide (Kept.keep (S := fun W => ((((((Below w.heap.size w W ∧ w.heap.size ≤ W.heap.size) ∧ Blk W X1 24 #[.int .i64 xd, .slice A xt.length c]) ∧ Vr X5 (rd) A5 n5 c5 (rt) W) ∧ Vr X11 (sd) A11 n11 c11 (st) W) ∧ Vr X13 (od) A13 n13 c13 (ot) W) ∧ Vr X15 (od) A15 n15 c15 (ot) W)) _ _ HS.out hb)
      clear hb))
  clear u13 v13 u15 v15
  have HS0 := hide HS_0.out
  clear HS
  have HS := hide HS0.out
  clear HS0
  have HBk := hide HS.out.1.1.1.1.1
  go_wp2_with (first
   | (go_at_call 11; refine (HK.out _ HBk.out.1).mono ?_; rintro e wz ⟨rfl, hbz⟩
      have HBe := hide (HBk.out.1.trans (hbz.mono HBk.out.2))
      clear hbz))
  all_goals
   go_ret
   exact ⟨rfl, HBe.out⟩
 ·have hn1 : ¬ n < -1 := by omega
  have hn2 : ¬ 1 < n := by omega
  have hn0 : 0 ≤ n := by omega
  clear hrg
  obtain ⟨x0, x1, _, _⟩ := (HS.out.2).two
  go_upto_region 6 with fail
  clear hiff hn1 hn2
  go_upto_region 7 with (first
   | (go_at_call 14; refine (HOWN.out w105 HS.out.1.1 HS.out.1.2).mono ?_; rintro e w106 ⟨A9, n9, c9, rfl, ho, hb⟩
      have HS_0 := hide (Kept.keep (S := fun W => ((Below w.heap.size w W ∧ w.heap.size ≤ W.heap.size) ∧ Blk W X1 24 #[.int .i64 xd, .slice A xt.length c])) _ _ HS.out hb)
      have HC := hide (root_flat xd A9 n9 c9 xt w106.heap.size w106 (Rd.of_own ho) (Nat.le_refl _))
      clear ho
      clear hb)
   | (go_at_call 30; refine (HC.out).mono ?_; rintro e w107 ⟨res, hres, A5, n5, c5, rfl, ho, hb⟩
      have HS_1 := hide (Kept.keep (S := fun W => ((Below w.heap.size w W ∧ w.heap.size ≤ W.heap.size) ∧ Blk W X1 24 #[.int .i64 xd, .slice A xt.length c])) _ _ HS_0.out hb)
      have HO := hide (own_le ho (Nat.zero_le _))
      have HRT := hide (sq_root hn HSG.out hres)
      clear ho hres
      clear HC
      clear hb))
  clear x0 x1
  have HS3 := hide (And.intro (Kept.keep (S := fun W => ((Below w.heap.size w W ∧ w.heap.size ≤ W.heap.size) ∧ Blk W X1 24 #[.int .i64 xd, .slice A xt.length c])) _ _ HS_1.out ((Below.refl _ _).alloc (Nat.le_refl _) (.cells #[.int .i64 (res.1), .slice A5 n5 c5] 24))) (Vr.new (d := res.1) HO.out))
  obtain ⟨X5, hX⟩ : ∃ X, X = w107.heap.size := ⟨_, rfl⟩
  rw [← hX] at HS3 ⊢
  clear hX HS_1 HO HS
  generalize w107.alloc (.cells #[.int .i64 (res.1), .slice A5 n5 c5] 24) = W108 at *
  have HS := hide HS3.out
  clear HS3
  clear HS_0
  have hc3 : (res.2.2 == 3) = false := by
   have h := HRT.out.1
   simp only [beq_eq_false_iff_ne, ne_eq]
   intro e; have := h.2 e; omega
  by_cases hc0 : res.2.2 = 0
  rotate_left 1
  ·have hc02 : (res.2.2 == 0) = false := by simpa using hc0
   clear HRT hc0
   go_upto_region 14 with fail
   obtain ⟨sd, st, cs, hq⟩ : ∃ a b d, mulS xd xt xd xt = (a, b, d) := ⟨_, _, _, rfl⟩
   have HQ := hide hq
   clear hq
   obtain ⟨u1, v1, _, _⟩ := (HS.out.1.2).two
   have h1 : X1 < W108.heap.size := (HS.out.1.2).lt
   have HN1 := hide trivial
   have HGd : Hid ((((Below w.heap.size w W108.drew ∧ w.heap.size ≤ W108.drew.heap.size) ∧ Blk W108.drew X1 24 #[.int .i64 xd, .slice A xt.length c]) ∧ Vr X5 (res.1) A5 n5 c5 (res.2.1) W108.drew) ∧ (Below W108.heap.size W108 W108.drew ∧ W108.heap.size ≤ W108.drew.heap.size)) := hide ⟨Kept.keep (S := fun W => (((Below w.heap.size w W ∧ w.heap.size ≤ W.heap.size) ∧ Blk W X1 24 #[.int .i64 xd, .slice A xt.length c]) ∧ Vr X5 (res.1) A5 n5 c5 (res.2.1) W)) _ _ HS.out (Below.drew (Below.refl _ _)), Below.drew (Below.refl _ _), Nat.le_refl _⟩
   refine wp_region_flow 9 (fun W' => Below W108.heap.size W108 W') (fun _ v W' => MadeN W108.heap.size v W') [8] (fun W' => (((Below w.heap.size w W' ∧ w.heap.size ≤ W'.heap.size) ∧ Blk W' X1 24 #[.int .i64 xd, .slice A xt.length c]) ∧ Vr X5 (res.1) A5 n5 c5 (res.2.1) W') ∧ (Below W108.heap.size W108 W' ∧ W108.heap.size ≤ W'.heap.size)) (by kernel_rfl)
    (Floats.of (by decide +kernel) (fun c a d v w => by cases d <;> exact Iff.rfl) (by
     intro i hi a W' hF
     obtain rfl : i = 8 := by simpa using hi
     refine wpOp_step rfl (fun K' hK0 => ?_)
     have hK := hide hK0
     clear hK0
     go_simp
     exact hK.out _ _ ⟨_, rfl, ⟨_, rfl, hF.size, Blk.new _ _ _⟩, (Below.refl _ _).alloc (Nat.le_refl _) _⟩) (fun i v W W' ⟨X, h1, h2, h3⟩ hb => ⟨X, h1, h2, h3.below hb h3.lt⟩))
    (fun _ _ _ h => h) (by decide) HGd.out (fun W h => h.2.1) (fun HFL => ?_)
   refine Safe.take 0 (v := ?_) rfl rfl HFL (by decide +kernel) (fun W h => h.2.1) (by rfl) (fun W hF => ?_) ?_
   rotate_left 1
   focus (have hF := hF (by decide +kernel); have e1 := (hF.cell (p := ⟨X1, 0, none⟩) h1).trans u1; have e2 := (hF.cell (p := ⟨X1, 1, none⟩) h1).trans v1; clear hF; go_simp; first | done | with_reducible rfl)
   (try simp only [Act.put, List.setIfInBounds_toArray, List.set_cons_zero, List.set_cons_succ])
   refine Safe.take 2 (v := ?_) rfl rfl HFL (by decide +kernel) (fun W h => h.2.1) (by rfl) (fun W hF => ?_) ?_
   rotate_left 1
   focus (have hF := hF (by decide +kernel); have e1 := (hF.cell (p := ⟨X1, 0, none⟩) h1).trans u1; have e2 := (hF.cell (p := ⟨X1, 1, none⟩) h1).trans v1; clear hF; go_simp; first | done | with_reducible rfl)
   (try simp only [Act.put, List.setIfInBounds_toArray, List.set_cons_zero, List.set_cons_succ])
   refine Safe.on 1 (fun x : Sl => .agg #[.int .i64 (xd), .slice x.1 x.2.1 x.2.2]) (fun x W => OwnN 0 x (xt) W) rfl rfl HFL (by decide +kernel) (fun W h => h.2.1) (fun W hG K' hK => ?_) (fun x1 hF1 => ?_)
   focus
    have HC := hide (HOWN.out W (hG.1.1.1.1) (hG.1.1.1.2))
    clear hG
    go_simp
    go_wp2_with (first
     | (go_at_call 14; refine HC.out.mono ?_; rintro e w6 ⟨A, n, c, rfl, ho, hb⟩
        have HO := hide (own_le ho (Nat.zero_le _)); have HBB := hide hb; clear ho hb))
    exact hK.out (A, n, c) _ HO.out HBB.out
   (try simp only [Act.put, List.setIfInBounds_toArray, List.set_cons_zero, List.set_cons_succ])
   refine Safe.on 3 (fun x : Sl => .agg #[.int .i64 (xd), .slice x.1 x.2.1 x.2.2]) (fun x W => OwnN 0 x (xt) W) rfl rfl HFL (by decide +kernel) hF1 (fun W hG K' hK => ?_) (fun x3 hF3 => ?_)
   focus
    have HC := hide (HOWN.out W (hG.1.1.1.1.1) (hG.1.1.1.1.2))
    clear hG
    go_simp
    go_wp2_with (first
     | (go_at_call 14; refine HC.out.mono ?_; rintro e w6 ⟨A, n, c, rfl, ho, hb⟩
        have HO := hide (own_le ho (Nat.zero_le _)); have HBB := hide hb; clear ho hb))
    exact hK.out (A, n, c) _ HO.out HBB.out
   (try simp only [Act.put, List.setIfInBounds_toArray, List.set_cons_zero, List.set_cons_succ])
   refine Safe.on 4 (fun x : Sl => .tuple #[.agg #[.int .i64 (sd), .slice x.1 x.2.1 x.2.2], .int .i64 (cs)]) (fun x W => OwnN 0 x (st) W) rfl rfl HFL (by decide +kernel) hF3 (fun W hG K' hK => ?_) (fun x4 hF4 => ?_)
   focus
    have HC := hide (mul_flat (xd) x1.1 x1.2.1 x1.2.2 (xt) (xd) x3.1 x3.2.1 x3.2.2 (xt)  W.heap.size W (terms_own (hG.1.2)) (terms_own (hG.2)) (Nat.le_refl _) )
    rw [HQ.out] at HC
    clear hG
    go_simp
    go_wp2_with (first
     | (go_at_call 19; refine HC.out.mono ?_; rintro e w6 ⟨A, n, c, rfl, ho, hb⟩
        have HO := hide (own_le ho (Nat.zero_le _)); clear ho
        have HBB := hide hb; clear hb))
    exact hK.out (A, n, c) _ HO.out HBB.out
   (try simp only [Act.put, List.setIfInBounds_toArray, List.set_cons_zero, List.set_cons_succ])
   refine Safe.take 5 (v := ?_) rfl rfl HFL (by decide +kernel) hF4 (by rfl) (fun W hF => ?_) ?_
   rotate_left 1
   focus (clear hF; go_simp; first | done | with_reducible rfl)
   (try simp only [Act.put, List.setIfInBounds_toArray, List.set_cons_zero, List.set_cons_succ])
   refine Safe.take 6 (v := ?_) rfl rfl HFL (by decide +kernel) hF4 (by rfl) (fun W hF => ?_) ?_
   rotate_left 1
   focus (clear hF; go_simp; first | done | with_reducible rfl)
   (try simp only [Act.put, List.setIfInBounds_toArray, List.set_cons_zero, List.set_cons_succ])
   refine Safe.take 7 (v := ?_) rfl rfl HFL (by decide +kernel) hF4 (by rfl) (fun W hF => ?_) ?_
   rotate_left 1
   focus (clear hF; go_simp; first | done | with_reducible rfl)
   (try simp only [Act.put, List.setIfInBounds_toArray, List.set_cons_zero, List.set_cons_succ])
   refine Safe.force (some 11) HFL (by decide +kernel) rfl hF4 (fun vf => ?_)
   (try simp only [Act.put, List.setIfInBounds_toArray, List.set_cons_zero, List.set_cons_succ])
   refine Safe.fin rfl (fun W h => hF4 W h.1) (fun W109 hG hHeld => ?_)
   obtain ⟨hG, X11, rfl, hX, hN⟩ := hG
   have HS1 := hide (Vr.made (S := fun W => (((Below w.heap.size w W ∧ w.heap.size ≤ W.heap.size) ∧ Blk W X1 24 #[.int .i64 xd, .slice A xt.length c]) ∧ Vr X5 (res.1) A5 n5 c5 (res.2.1) W)) (d := sd) HS.out hG.1.1.1.2.1 hX hN hG.2)
   obtain ⟨q0, q1, qf0, qf1⟩ := hN.two
   clear hG HFL hF1 hF3 hF4 hX hN HGd HS u1 v1 h1 HN1
   refine wpTill_one 9 rfl (by decide +kernel) (fun K hK => ?_)
   go_simp
   refine hK.out _ _ ⟨trivial, fun h => absurd h (by decide +kernel), fun _ => trivial⟩ (fun hHeld => ?_)
   clear hK K
   (try simp only [Act.put, List.setIfInBounds_toArray, List.set_cons_zero, List.set_cons_succ])
   refine wpTill_take 10 rfl (by decide +kernel) (fun c a w h => by first | exact h | (cases h; done)) (by rfl) (v := ?_) ?_ hHeld (fun hHeld' => ?_)
   rotate_left 1
   focus (intro w' hSw; obtain ⟨hC, hF, hG⟩ := hSw; clear hG; clear hF; go_simp; first | done | with_reducible rfl)
   clear hHeld
   rename Till _ _ _ _ _ _ _ => hHeld
   (try simp only [Act.put, List.setIfInBounds_toArray, List.set_cons_zero, List.set_cons_succ])
   refine wpTill_done (by decide +kernel) ?_
   clear hHeld
   clear q0 q1 qf0 qf1
   generalize (W109.setCell ⟨X11, 0, none⟩ (.int .i64 (sd))).setCell ⟨X11, 1, none⟩ (.slice x4.1 x4.2.1 x4.2.2) = W110 at *
   obtain ⟨A11, n11, c11⟩ := x4
   dsimp only at HS1
   have HS := hide HS1.out
   clear HS1
   by_cases hcs : cs = 0
   rotate_left 1
   ·have hcs2 : (cs == 0) = false := by simpa using hcs
    clear hcs
    have HBk := hide HS.out.1.1.1
    go_wp2_with (first
     | (go_at_call 11; refine (HK.out _ HBk.out.1).mono ?_; rintro e wz ⟨rfl, hbz⟩
        have HBe := hide (HBk.out.1.trans (hbz.mono HBk.out.2))
        clear hbz))
    all_goals
     go_ret
     exact ⟨rfl, HBe.out⟩
   subst hcs
   by_cases hl : xt.length ≤ 2
   rotate_left 1
   ·have hl2 : ¬ (xt.length : Int) ≤ 2 := by omega
    clear hl
    obtain ⟨x0, x1, _, _⟩ := (HS.out.1.1.2).two
    have HBk := hide HS.out.1.1.1
    go_wp2_with (first
     | (go_at_call 11; refine (HK.out _ HBk.out.1).mono ?_; rintro e wz ⟨rfl, hbz⟩
        have HBe := hide (HBk.out.1.trans (hbz.mono HBk.out.2))
        clear hbz))
    all_goals
     go_ret
     exact ⟨rfl, HBe.out⟩
   have hl2 : (xt.length : Int) ≤ 2 := by omega
   obtain ⟨x0, x1, _, _⟩ := (HS.out.1.1.2).two
   go_upto_region 16 with fail
   clear x0 x1
   obtain ⟨od, ot, co, hop⟩ : ∃ a b d, plusS 1 [] xd xt (-1) = (a, b, d) := ⟨_, _, _, rfl⟩
   obtain rfl : co = 0 := by have := opp_ok hn; rw [hop] at this; exact this
   have HOP := hide hop
   clear hop
   obtain ⟨u11, v11, _, _⟩ := (HS.out.2.1).two
   go_upto_region 17 with (first
    | (go_at_call 30; refine (root_flat sd A11 n11 c11 st W110.heap.size W110 (terms_own (HS.out.2.2)) (Nat.le_refl _)).mono ?_; rintro e w111 ⟨res2, hres, A13, n13, c13, rfl, ho, hb⟩
       have HS_0 := hide (Kept.keep (S := fun W => ((((Below w.heap.size w W ∧ w.heap.size ≤ W.heap.size) ∧ Blk W X1 24 #[.int .i64 xd, .slice A xt.length c]) ∧ Vr X5 (res.1) A5 n5 c5 (res.2.1) W) ∧ Vr X11 (sd) A11 n11 c11 (st) W)) _ _ HS.out hb)
       obtain rfl := sq_back hn HSG.out hn0 hl HQ.out hres
       have HO := hide (own_le ho (Nat.zero_le _))
       clear ho hres
       clear hb))
   clear u11 v11
   have HS3 := hide (And.intro (Kept.keep (S := fun W => ((((Below w.heap.size w W ∧ w.heap.size ≤ W.heap.size) ∧ Blk W X1 24 #[.int .i64 xd, .slice A xt.length c]) ∧ Vr X5 (res.1) A5 n5 c5 (res.2.1) W) ∧ Vr X11 (sd) A11 n11 c11 (st) W)) _ _ HS_0.out ((Below.refl _ _).alloc (Nat.le_refl _) (.cells #[.int .i64 (xd), .slice A13 n13 c13] 24))) (Vr.new (d := xd) HO.out))
   obtain ⟨X13, hX⟩ : ∃ X, X = w111.heap.size := ⟨_, rfl⟩
   rw [← hX] at HS3 ⊢
   clear hX HS_0 HO HS
   generalize w111.alloc (.cells #[.int .i64 (xd), .slice A13 n13 c13] 24) = W112 at *
   have HS := hide HS3.out
   clear HS3
   try clear HS_0
   obtain ⟨x0, x1, _, _⟩ := (HS.out.1.1.1.2).two
   go_upto_region 18 with (first
    | (go_at_call 14; refine (HOWN.out W112 HS.out.1.1.1.1.1 HS.out.1.1.1.1.2).mono ?_; rintro e w113 ⟨A9, n9, c9, rfl, ho, hb⟩
       have HS_0 := hide (Kept.keep (S := fun W => (((((Below w.heap.size w W ∧ w.heap.size ≤ W.heap.size) ∧ Blk W X1 24 #[.int .i64 xd, .slice A xt.length c]) ∧ Vr X5 (res.1) A5 n5 c5 (res.2.1) W) ∧ Vr X11 (sd) A11 n11 c11 (st) W) ∧ Vr X13 (xd) A13 n13 c13 (xt) W)) _ _ HS.out hb)
       have HC := hide (HOP.out ▸ sub_flat 1 none 0 0 [] xd A9 n9 c9 xt w113.heap.size w113 (Rd.nil_ _ _ _) (Rd.of_own ho) (Nat.le_refl _))
       clear ho
       clear hb)
    | (go_at_call 27; refine (HC.out).mono ?_; rintro e w114 ⟨A15, n15, c15, rfl, ho, hb⟩
       have HS_1 := hide (Kept.keep (S := fun W => (((((Below w.heap.size w W ∧ w.heap.size ≤ W.heap.size) ∧ Blk W X1 24 #[.int .i64 xd, .slice A xt.length c]) ∧ Vr X5 (res.1) A5 n5 c5 (res.2.1) W) ∧ Vr X11 (sd) A11 n11 c11 (st) W) ∧ Vr X13 (xd) A13 n13 c13 (xt) W)) _ _ HS_0.out hb)
       have HO := hide (own_le ho (Nat.zero_le _))
       clear ho HC
       clear hb))
   clear x0 x1
   have HS3 := hide (And.intro (Kept.keep (S := fun W => (((((Below w.heap.size w W ∧ w.heap.size ≤ W.heap.size) ∧ Blk W X1 24 #[.int .i64 xd, .slice A xt.length c]) ∧ Vr X5 (res.1) A5 n5 c5 (res.2.1) W) ∧ Vr X11 (sd) A11 n11 c11 (st) W) ∧ Vr X13 (xd) A13 n13 c13 (xt) W)) _ _ HS_1.out ((Below.refl _ _).alloc (Nat.le_refl _) (.cells #[.int .i64 (od), .slice A15 n15 c15] 24))) (Vr.new (d := od) HO.out))
   obtain ⟨X15, hX⟩ : ∃ X, X = w114.heap.size := ⟨_, rfl⟩
   rw [← hX] at HS3 ⊢
   clear hX HS_1 HO HS
   generalize w114.alloc (.cells #[.int .i64 (od), .slice A15 n15 c15] 24) = W115 at *
   have HS := hide HS3.out
   clear HS3
   clear HS_0
   obtain ⟨x0, x1, _, _⟩ := (HS.out.1.1.1.1.2).two
   obtain ⟨u13, v13, _, _⟩ := (HS.out.1.2.1).two
   go_upto_region 20 with (first
    | (go_at_call 18; refine (lawSelf_any xd A13 n13 c13 A xt.length c xt W115.heap.size W115 (Rq.of (terms_own (HS.out.1.2.2))) (Rq.more (HP.out _ HS.out.1.1.1.1.1.1) HS.out.1.1.1.1.1.2) (Nat.le_refl _)).mono ?_; rintro e w116 ⟨rfl, hb⟩
       have HS_0 := hide (Kept.keep (S := fun W => ((((((Below w.heap.size w W ∧ w.heap.size ≤ W.heap.size) ∧ Blk W X1 24 #[.int .i64 xd, .slice A xt.length c]) ∧ Vr X5 (res.1) A5 n5 c5 (res.2.1) W) ∧ Vr X11 (sd) A11 n11 c11 (st) W) ∧ Vr X13 (xd) A13 n13 c13 (xt) W) ∧ Vr X15 (od) A15 n15 c15 (ot) W)) _ _ HS.out hb)
       clear hb))
   clear u13 v13
   clear x0 x1
   have HS0 := hide HS_0.out
   clear HS
   have HS := hide HS0.out
   clear HS0
   have HBk := hide HS.out.1.1.1.1.1
   go_wp2_with (first
    | (go_at_call 11; refine (HK.out _ HBk.out.1).mono ?_; rintro e wz ⟨rfl, hbz⟩
       have HBe := hide (HBk.out.1.trans (hbz.mono HBk.out.2))
       clear hbz))
   all_goals
    go_ret
    exact ⟨rfl, HBe.out⟩
  obtain ⟨hsq, hms⟩ := HRT.out.2 hc0
  have hln : res.2.1.length ≤ 1000 := by have h1 := (mulS_lin hsq).1; have h2 := (numOK_parts h1).2.2.1; omega
  obtain ⟨rd, rt, rc⟩ := res
  dsimp only at hc0 hc3 hsq hms hln HS ⊢
  subst hc0
  have HSQ := hide hsq
  have HMS := hide hms
  clear HRT hsq hms hc3
  go_upto_region 10 with fail
  obtain ⟨u5, v5, _, _⟩ := (HS.out.2.1).two
  have h5 : X5 < W108.heap.size := (HS.out.2.1).lt
  have HN5 : Hid (n5 ≤ 1000) := hide (Vr.le (HS.out.2) hln)
  have HGd : Hid ((((Below w.heap.size w W108.drew ∧ w.heap.size ≤ W108.drew.heap.size) ∧ Blk W108.drew X1 24 #[.int .i64 xd, .slice A xt.length c]) ∧ Vr X5 (rd) A5 n5 c5 (rt) W108.drew) ∧ (Below W108.heap.size W108 W108.drew ∧ W108.heap.size ≤ W108.drew.heap.size)) := hide ⟨Kept.keep (S := fun W => (((Below w.heap.size w W ∧ w.heap.size ≤ W.heap.size) ∧ Blk W X1 24 #[.int .i64 xd, .slice A xt.length c]) ∧ Vr X5 (rd) A5 n5 c5 (rt) W)) _ _ HS.out (Below.drew (Below.refl _ _)), Below.drew (Below.refl _ _), Nat.le_refl _⟩
  refine wp_region_flow 9 (fun W' => Below W108.heap.size W108 W') (fun _ v W' => MadeN W108.heap.size v W') [8] (fun W' => (((Below w.heap.size w W' ∧ w.heap.size ≤ W'.heap.size) ∧ Blk W' X1 24 #[.int .i64 xd, .slice A xt.length c]) ∧ Vr X5 (rd) A5 n5 c5 (rt) W') ∧ (Below W108.heap.size W108 W' ∧ W108.heap.size ≤ W'.heap.size)) (by kernel_rfl)
   (Floats.of (by decide +kernel) (fun c a d v w => by cases d <;> exact Iff.rfl) (by
    intro i hi a W' hF
    obtain rfl : i = 8 := by simpa using hi
    refine wpOp_step rfl (fun K' hK0 => ?_)
    have hK := hide hK0
    clear hK0
    go_simp
    exact hK.out _ _ ⟨_, rfl, ⟨_, rfl, hF.size, Blk.new _ _ _⟩, (Below.refl _ _).alloc (Nat.le_refl _) _⟩) (fun i v W W' ⟨X, h1, h2, h3⟩ hb => ⟨X, h1, h2, h3.below hb h3.lt⟩))
   (fun _ _ _ h => h) (by decide) HGd.out (fun W h => h.2.1) (fun HFL => ?_)
  refine Safe.take 0 (v := ?_) rfl rfl HFL (by decide +kernel) (fun W h => h.2.1) (by rfl) (fun W hF => ?_) ?_
  rotate_left 1
  focus (have hF := hF (by decide +kernel); have e1 := (hF.cell (p := ⟨X5, 0, none⟩) h5).trans u5; have e2 := (hF.cell (p := ⟨X5, 1, none⟩) h5).trans v5; clear hF; go_simp; first | done | with_reducible rfl)
  (try simp only [Act.put, List.setIfInBounds_toArray, List.set_cons_zero, List.set_cons_succ])
  refine Safe.take 2 (v := ?_) rfl rfl HFL (by decide +kernel) (fun W h => h.2.1) (by rfl) (fun W hF => ?_) ?_
  rotate_left 1
  focus (have hF := hF (by decide +kernel); have e1 := (hF.cell (p := ⟨X5, 0, none⟩) h5).trans u5; have e2 := (hF.cell (p := ⟨X5, 1, none⟩) h5).trans v5; clear hF; go_simp; first | done | with_reducible rfl)
  (try simp only [Act.put, List.setIfInBounds_toArray, List.set_cons_zero, List.set_cons_succ])
  refine Safe.on 1 (fun x : Sl => .agg #[.int .i64 (rd), .slice x.1 x.2.1 x.2.2]) (fun x W => OwnN 0 x (rt) W) rfl rfl HFL (by decide +kernel) (fun W h => h.2.1) (fun W hG K' hK => ?_) (fun x1 hF1 => ?_)
  focus
   have HC := hide (own1_any (rd) A5 n5 c5 W.heap.size (rt) W (Rq.of (terms_own (hG.1.2.2))) (Nat.le_refl _) HN5.out)
   clear hG
   go_simp
   go_wp2_with (first
    | (go_at_call 14; refine HC.out.mono ?_; rintro e w6 ⟨A, n, c, rfl, ho, hb⟩
       have HO := hide (own_le ho (Nat.zero_le _)); have HBB := hide hb; clear ho hb))
   exact hK.out (A, n, c) _ HO.out HBB.out
  (try simp only [Act.put, List.setIfInBounds_toArray, List.set_cons_zero, List.set_cons_succ])
  refine Safe.on 3 (fun x : Sl => .agg #[.int .i64 (rd), .slice x.1 x.2.1 x.2.2]) (fun x W => OwnN 0 x (rt) W) rfl rfl HFL (by decide +kernel) hF1 (fun W hG K' hK => ?_) (fun x3 hF3 => ?_)
  focus
   have HC := hide (own1_any (rd) A5 n5 c5 W.heap.size (rt) W (Rq.of (terms_own (hG.1.1.2.2))) (Nat.le_refl _) HN5.out)
   clear hG
   go_simp
   go_wp2_with (first
    | (go_at_call 14; refine HC.out.mono ?_; rintro e w6 ⟨A, n, c, rfl, ho, hb⟩
       have HO := hide (own_le ho (Nat.zero_le _)); have HBB := hide hb; clear ho hb))
   exact hK.out (A, n, c) _ HO.out HBB.out
  (try simp only [Act.put, List.setIfInBounds_toArray, List.set_cons_zero, List.set_cons_succ])
  refine Safe.on 4 (fun x : Sl => .tuple #[.agg #[.int .i64 (xd), .slice x.1 x.2.1 x.2.2], .int .i64 (0)]) (fun x W => OwnN 0 x (xt) W) rfl rfl HFL (by decide +kernel) hF3 (fun W hG K' hK => ?_) (fun x4 hF4 => ?_)
  focus
   have HC := hide (mul_flat (rd) x1.1 x1.2.1 x1.2.2 (rt) (rd) x3.1 x3.2.1 x3.2.2 (rt)  W.heap.size W (terms_own (hG.1.2)) (terms_own (hG.2)) (Nat.le_refl _) )
   rw [HSQ.out] at HC
   clear hG
   go_simp
   go_wp2_with (first
    | (go_at_call 19; refine HC.out.mono ?_; rintro e w6 ⟨A, n, c, rfl, ho, hb⟩
       have HO := hide (own_le ho (Nat.zero_le _)); clear ho
       have HBB := hide hb; clear hb))
   exact hK.out (A, n, c) _ HO.out HBB.out
  (try simp only [Act.put, List.setIfInBounds_toArray, List.set_cons_zero, List.set_cons_succ])
  refine Safe.take 5 (v := ?_) rfl rfl HFL (by decide +kernel) hF4 (by rfl) (fun W hF => ?_) ?_
  rotate_left 1
  focus (clear hF; go_simp; first | done | with_reducible rfl)
  (try simp only [Act.put, List.setIfInBounds_toArray, List.set_cons_zero, List.set_cons_succ])
  refine Safe.take 6 (v := ?_) rfl rfl HFL (by decide +kernel) hF4 (by rfl) (fun W hF => ?_) ?_
  rotate_left 1
  focus (clear hF; go_simp; first | done | with_reducible rfl)
  (try simp only [Act.put, List.setIfInBounds_toArray, List.set_cons_zero, List.set_cons_succ])
  refine Safe.take 7 (v := ?_) rfl rfl HFL (by decide +kernel) hF4 (by rfl) (fun W hF => ?_) ?_
  rotate_left 1
  focus (clear hF; go_simp; first | done | with_reducible rfl)
  (try simp only [Act.put, List.setIfInBounds_toArray, List.set_cons_zero, List.set_cons_succ])
  refine Safe.force (some 7) HFL (by decide +kernel) rfl hF4 (fun vf => ?_)
  (try simp only [Act.put, List.setIfInBounds_toArray, List.set_cons_zero, List.set_cons_succ])
  refine Safe.fin rfl (fun W h => hF4 W h.1) (fun W109 hG hHeld => ?_)
  obtain ⟨hG, X7, rfl, hX, hN⟩ := hG
  have HS1 := hide (Vr.made (S := fun W => (((Below w.heap.size w W ∧ w.heap.size ≤ W.heap.size) ∧ Blk W X1 24 #[.int .i64 xd, .slice A xt.length c]) ∧ Vr X5 (rd) A5 n5 c5 (rt) W)) (d := xd) HS.out hG.1.1.1.2.1 hX hN hG.2)
  obtain ⟨q0, q1, qf0, qf1⟩ := hN.two
  clear hG HFL hF1 hF3 hF4 hX hN HGd HS u5 v5 h5 HN5
  refine wpTill_one 9 rfl (by decide +kernel) (fun K hK => ?_)
  go_simp
  refine hK.out _ _ ⟨trivial, fun h => absurd h (by decide +kernel), fun _ => trivial⟩ (fun hHeld => ?_)
  clear hK K
  (try simp only [Act.put, List.setIfInBounds_toArray, List.set_cons_zero, List.set_cons_succ])
  refine wpTill_take 10 rfl (by decide +kernel) (fun c a w h => by first | exact h | (cases h; done)) (by rfl) (v := ?_) ?_ hHeld (fun hHeld' => ?_)
  rotate_left 1
  focus (intro w' hSw; obtain ⟨hC, hF, hG⟩ := hSw; clear hG; clear hF; go_simp; first | done | with_reducible rfl)
  clear hHeld
  rename Till _ _ _ _ _ _ _ => hHeld
  (try simp only [Act.put, List.setIfInBounds_toArray, List.set_cons_zero, List.set_cons_succ])
  refine wpTill_done (by decide +kernel) ?_
  clear hHeld
  clear q0 q1 qf0 qf1
  generalize (W109.setCell ⟨X7, 0, none⟩ (.int .i64 (xd))).setCell ⟨X7, 1, none⟩ (.slice x4.1 x4.2.1 x4.2.2) = W110 at *
  obtain ⟨A7, n7, c7⟩ := x4
  dsimp only at HS1
  have HS := hide HS1.out
  clear HS1
  obtain ⟨u5, v5, _, _⟩ := (HS.out.1.2.1).two
  go_upto_region 12 with (first
   | (go_at_call 14; refine (own1_any rd A5 n5 c5 W110.heap.size rt W110 (Rq.of (terms_own (HS.out.1.2.2))) (Nat.le_refl _) (Vr.le (HS.out.1.2) hln)).mono ?_; rintro e w111 ⟨A9, n9, c9, rfl, ho, hb⟩
      have HS_0 := hide (Kept.keep (S := fun W => ((((Below w.heap.size w W ∧ w.heap.size ≤ W.heap.size) ∧ Blk W X1 24 #[.int .i64 xd, .slice A xt.length c]) ∧ Vr X5 (rd) A5 n5 c5 (rt) W) ∧ Vr X7 (xd) A7 n7 c7 (xt) W)) _ _ HS.out hb)
      have HC := hide (sign_flat rd A9 n9 c9 rt w111.heap.size w111 (Rd.of_own ho) (Nat.le_refl _))
      clear ho
      clear hb)
   | (go_at_call 29; refine (HC.out).mono ?_; rintro e w112 ⟨m, cm, rfl, hr, hb⟩
      have HS_1 := hide (Kept.keep (S := fun W => ((((Below w.heap.size w W ∧ w.heap.size ≤ W.heap.size) ∧ Blk W X1 24 #[.int .i64 xd, .slice A xt.length c]) ∧ Vr X5 (rd) A5 n5 c5 (rt) W) ∧ Vr X7 (xd) A7 n7 c7 (xt) W)) _ _ HS_0.out hb)
      obtain ⟨rfl, hm0⟩ := HMS.out m cm hr
      have hm1 : ¬ m < 0 := by omega
      clear hr HC hm0
      clear hb))
  clear u5 v5
  have HS0 := hide HS_1.out
  clear HS
  have HS := hide HS0.out
  clear HS0
  clear HS_0
  obtain ⟨x0, x1, _, _⟩ := (HS.out.1.1.2).two
  obtain ⟨u7, v7, _, _⟩ := (HS.out.2.1).two
  go_upto_region 14 with (first
   | (go_at_call 18; refine (lawSelf_any xd A7 n7 c7 A xt.length c xt w112.heap.size w112 (Rq.of (terms_own (HS.out.2.2))) (Rq.more (HP.out _ HS.out.1.1.1.1) HS.out.1.1.1.2) (Nat.le_refl _)).mono ?_; rintro e w113 ⟨rfl, hb⟩
      have HS_0 := hide (Kept.keep (S := fun W => ((((Below w.heap.size w W ∧ w.heap.size ≤ W.heap.size) ∧ Blk W X1 24 #[.int .i64 xd, .slice A xt.length c]) ∧ Vr X5 (rd) A5 n5 c5 (rt) W) ∧ Vr X7 (xd) A7 n7 c7 (xt) W)) _ _ HS.out hb)
      clear hb))
  clear u7 v7
  clear x0 x1 hm1
  have HS0 := hide HS_0.out
  clear HS
  have HS := hide HS0.out
  clear HS0
  obtain ⟨sd, st, cs, hq⟩ : ∃ a b d, mulS xd xt xd xt = (a, b, d) := ⟨_, _, _, rfl⟩
  have HQ := hide hq
  clear hq
  obtain ⟨u1, v1, _, _⟩ := (HS.out.1.1.2).two
  have h1 : X1 < w113.heap.size := (HS.out.1.1.2).lt
  have HN1 := hide trivial
  have HGd : Hid (((((Below w.heap.size w w113.drew ∧ w.heap.size ≤ w113.drew.heap.size) ∧ Blk w113.drew X1 24 #[.int .i64 xd, .slice A xt.length c]) ∧ Vr X5 (rd) A5 n5 c5 (rt) w113.drew) ∧ Vr X7 (xd) A7 n7 c7 (xt) w113.drew) ∧ (Below w113.heap.size w113 w113.drew ∧ w113.heap.size ≤ w113.drew.heap.size)) := hide ⟨Kept.keep (S := fun W => ((((Below w.heap.size w W ∧ w.heap.size ≤ W.heap.size) ∧ Blk W X1 24 #[.int .i64 xd, .slice A xt.length c]) ∧ Vr X5 (rd) A5 n5 c5 (rt) W) ∧ Vr X7 (xd) A7 n7 c7 (xt) W)) _ _ HS.out (Below.drew (Below.refl _ _)), Below.drew (Below.refl _ _), Nat.le_refl _⟩
  refine wp_region_flow 9 (fun W' => Below w113.heap.size w113 W') (fun _ v W' => MadeN w113.heap.size v W') [8] (fun W' => ((((Below w.heap.size w W' ∧ w.heap.size ≤ W'.heap.size) ∧ Blk W' X1 24 #[.int .i64 xd, .slice A xt.length c]) ∧ Vr X5 (rd) A5 n5 c5 (rt) W') ∧ Vr X7 (xd) A7 n7 c7 (xt) W') ∧ (Below w113.heap.size w113 W' ∧ w113.heap.size ≤ W'.heap.size)) (by kernel_rfl)
   (Floats.of (by decide +kernel) (fun c a d v w => by cases d <;> exact Iff.rfl) (by
    intro i hi a W' hF
    obtain rfl : i = 8 := by simpa using hi
    refine wpOp_step rfl (fun K' hK0 => ?_)
    have hK := hide hK0
    clear hK0
    go_simp
    exact hK.out _ _ ⟨_, rfl, ⟨_, rfl, hF.size, Blk.new _ _ _⟩, (Below.refl _ _).alloc (Nat.le_refl _) _⟩) (fun i v W W' ⟨X, h1, h2, h3⟩ hb => ⟨X, h1, h2, h3.below hb h3.lt⟩))
   (fun _ _ _ h => h) (by decide) HGd.out (fun W h => h.2.1) (fun HFL => ?_)
  refine Safe.take 0 (v := ?_) rfl rfl HFL (by decide +kernel) (fun W h => h.2.1) (by rfl) (fun W hF => ?_) ?_
  rotate_left 1
  focus (have hF := hF (by decide +kernel); have e1 := (hF.cell (p := ⟨X1, 0, none⟩) h1).trans u1; have e2 := (hF.cell (p := ⟨X1, 1, none⟩) h1).trans v1; clear hF; go_simp; first | done | with_reducible rfl)
  (try simp only [Act.put, List.setIfInBounds_toArray, List.set_cons_zero, List.set_cons_succ])
  refine Safe.take 2 (v := ?_) rfl rfl HFL (by decide +kernel) (fun W h => h.2.1) (by rfl) (fun W hF => ?_) ?_
  rotate_left 1
  focus (have hF := hF (by decide +kernel); have e1 := (hF.cell (p := ⟨X1, 0, none⟩) h1).trans u1; have e2 := (hF.cell (p := ⟨X1, 1, none⟩) h1).trans v1; clear hF; go_simp; first | done | with_reducible rfl)
  (try simp only [Act.put, List.setIfInBounds_toArray, List.set_cons_zero, List.set_cons_succ])
  refine Safe.on 1 (fun x : Sl => .agg #[.int .i64 (xd), .slice x.1 x.2.1 x.2.2]) (fun x W => OwnN 0 x (xt) W) rfl rfl HFL (by decide +kernel) (fun W h => h.2.1) (fun W hG K' hK => ?_) (fun x1 hF1 => ?_)
  focus
   have HC := hide (HOWN.out W (hG.1.1.1.1.1) (hG.1.1.1.1.2))
   clear hG
   go_simp
   go_wp2_with (first
    | (go_at_call 14; refine HC.out.mono ?_; rintro e w6 ⟨A, n, c, rfl, ho, hb⟩
       have HO := hide (own_le ho (Nat.zero_le _)); have HBB := hide hb; clear ho hb))
   exact hK.out (A, n, c) _ HO.out HBB.out
  (try simp only [Act.put, List.setIfInBounds_toArray, List.set_cons_zero, List.set_cons_succ])
  refine Safe.on 3 (fun x : Sl => .agg #[.int .i64 (xd), .slice x.1 x.2.1 x.2.2]) (fun x W => OwnN 0 x (xt) W) rfl rfl HFL (by decide +kernel) hF1 (fun W hG K' hK => ?_) (fun x3 hF3 => ?_)
  focus
   have HC := hide (HOWN.out W (hG.1.1.1.1.1.1) (hG.1.1.1.1.1.2))
   clear hG
   go_simp
   go_wp2_with (first
    | (go_at_call 14; refine HC.out.mono ?_; rintro e w6 ⟨A, n, c, rfl, ho, hb⟩
       have HO := hide (own_le ho (Nat.zero_le _)); have HBB := hide hb; clear ho hb))
   exact hK.out (A, n, c) _ HO.out HBB.out
  (try simp only [Act.put, List.setIfInBounds_toArray, List.set_cons_zero, List.set_cons_succ])
  refine Safe.on 4 (fun x : Sl => .tuple #[.agg #[.int .i64 (sd), .slice x.1 x.2.1 x.2.2], .int .i64 (cs)]) (fun x W => OwnN 0 x (st) W) rfl rfl HFL (by decide +kernel) hF3 (fun W hG K' hK => ?_) (fun x4 hF4 => ?_)
  focus
   have HC := hide (mul_flat (xd) x1.1 x1.2.1 x1.2.2 (xt) (xd) x3.1 x3.2.1 x3.2.2 (xt)  W.heap.size W (terms_own (hG.1.2)) (terms_own (hG.2)) (Nat.le_refl _) )
   rw [HQ.out] at HC
   clear hG
   go_simp
   go_wp2_with (first
    | (go_at_call 19; refine HC.out.mono ?_; rintro e w6 ⟨A, n, c, rfl, ho, hb⟩
       have HO := hide (own_le ho (Nat.zero_le _)); clear ho
       have HBB := hide hb; clear hb))
   exact hK.out (A, n, c) _ HO.out HBB.out
  (try simp only [Act.put, List.setIfInBounds_toArray, List.set_cons_zero, List.set_cons_succ])
  refine Safe.take 5 (v := ?_) rfl rfl HFL (by decide +kernel) hF4 (by rfl) (fun W hF => ?_) ?_
  rotate_left 1
  focus (clear hF; go_simp; first | done | with_reducible rfl)
  (try simp only [Act.put, List.setIfInBounds_toArray, List.set_cons_zero, List.set_cons_succ])
  refine Safe.take 6 (v := ?_) rfl rfl HFL (by decide +kernel) hF4 (by rfl) (fun W hF => ?_) ?_
  rotate_left 1
  focus (clear hF; go_simp; first | done | with_reducible rfl)
  (try simp only [Act.put, List.setIfInBounds_toArray, List.set_cons_zero, List.set_cons_succ])
  refine Safe.take 7 (v := ?_) rfl rfl HFL (by decide +kernel) hF4 (by rfl) (fun W hF => ?_) ?_
  rotate_left 1
  focus (clear hF; go_simp; first | done | with_reducible rfl)
  (try simp only [Act.put, List.setIfInBounds_toArray, List.set_cons_zero, List.set_cons_succ])
  refine Safe.force (some 11) HFL (by decide +kernel) rfl hF4 (fun vf => ?_)
  (try simp only [Act.put, List.setIfInBounds_toArray, List.set_cons_zero, List.set_cons_succ])
  refine Safe.fin rfl (fun W h => hF4 W h.1) (fun W114 hG hHeld => ?_)
  obtain ⟨hG, X11, rfl, hX, hN⟩ := hG
  have HS1 := hide (Vr.made (S := fun W => ((((Below w.heap.size w W ∧ w.heap.size ≤ W.heap.size) ∧ Blk W X1 24 #[.int .i64 xd, .slice A xt.length c]) ∧ Vr X5 (rd) A5 n5 c5 (rt) W) ∧ Vr X7 (xd) A7 n7 c7 (xt) W)) (d := sd) HS.out hG.1.1.1.2.1 hX hN hG.2)
  obtain ⟨q0, q1, qf0, qf1⟩ := hN.two
  clear hG HFL hF1 hF3 hF4 hX hN HGd HS u1 v1 h1 HN1
  refine wpTill_one 9 rfl (by decide +kernel) (fun K hK => ?_)
  go_simp
  refine hK.out _ _ ⟨trivial, fun h => absurd h (by decide +kernel), fun _ => trivial⟩ (fun hHeld => ?_)
  clear hK K
  (try simp only [Act.put, List.setIfInBounds_toArray, List.set_cons_zero, List.set_cons_succ])
  refine wpTill_take 10 rfl (by decide +kernel) (fun c a w h => by first | exact h | (cases h; done)) (by rfl) (v := ?_) ?_ hHeld (fun hHeld' => ?_)
  rotate_left 1
  focus (intro w' hSw; obtain ⟨hC, hF, hG⟩ := hSw; clear hG; clear hF; go_simp; first | done | with_reducible rfl)
  clear hHeld
  rename Till _ _ _ _ _ _ _ => hHeld
  (try simp only [Act.put, List.setIfInBounds_toArray, List.set_cons_zero, List.set_cons_succ])
  refine wpTill_done (by decide +kernel) ?_
  clear hHeld
  clear q0 q1 qf0 qf1
  generalize (W114.setCell ⟨X11, 0, none⟩ (.int .i64 (sd))).setCell ⟨X11, 1, none⟩ (.slice x4.1 x4.2.1 x4.2.2) = W115 at *
  obtain ⟨A11, n11, c11⟩ := x4
  dsimp only at HS1
  have HS := hide HS1.out
  clear HS1
  by_cases hcs : cs = 0
  rotate_left 1
  ·have hcs2 : (cs == 0) = false := by simpa using hcs
   clear hcs
   have HBk := hide HS.out.1.1.1.1
   go_wp2_with (first
    | (go_at_call 11; refine (HK.out _ HBk.out.1).mono ?_; rintro e wz ⟨rfl, hbz⟩
       have HBe := hide (HBk.out.1.trans (hbz.mono HBk.out.2))
       clear hbz))
   all_goals
    go_ret
    exact ⟨rfl, HBe.out⟩
  subst hcs
  by_cases hl : xt.length ≤ 2
  rotate_left 1
  ·have hl2 : ¬ (xt.length : Int) ≤ 2 := by omega
   clear hl
   obtain ⟨x0, x1, _, _⟩ := (HS.out.1.1.1.2).two
   have HBk := hide HS.out.1.1.1.1
   go_wp2_with (first
    | (go_at_call 11; refine (HK.out _ HBk.out.1).mono ?_; rintro e wz ⟨rfl, hbz⟩
       have HBe := hide (HBk.out.1.trans (hbz.mono HBk.out.2))
       clear hbz))
   all_goals
    go_ret
    exact ⟨rfl, HBe.out⟩
  have hl2 : (xt.length : Int) ≤ 2 := by omega
  obtain ⟨x0, x1, _, _⟩ := (HS.out.1.1.1.2).two
  go_upto_region 16 with fail
  clear x0 x1
  obtain ⟨od, ot, co, hop⟩ : ∃ a b d, plusS 1 [] xd xt (-1) = (a, b, d) := ⟨_, _, _, rfl⟩
  obtain rfl : co = 0 := by have := opp_ok hn; rw [hop] at this; exact this
  have HOP := hide hop
  clear hop
  obtain ⟨u11, v11, _, _⟩ := (HS.out.2.1).two
  go_upto_region 17 with (first
   | (go_at_call 30; refine (root_flat sd A11 n11 c11 st W115.heap.size W115 (terms_own (HS.out.2.2)) (Nat.le_refl _)).mono ?_; rintro e w116 ⟨res2, hres, A13, n13, c13, rfl, ho, hb⟩
      have HS_0 := hide (Kept.keep (S := fun W => (((((Below w.heap.size w W ∧ w.heap.size ≤ W.heap.size) ∧ Blk W X1 24 #[.int .i64 xd, .slice A xt.length c]) ∧ Vr X5 (rd) A5 n5 c5 (rt) W) ∧ Vr X7 (xd) A7 n7 c7 (xt) W) ∧ Vr X11 (sd) A11 n11 c11 (st) W)) _ _ HS.out hb)
      obtain rfl := sq_back hn HSG.out hn0 hl HQ.out hres
      have HO := hide (own_le ho (Nat.zero_le _))
      clear ho hres
      clear hb))
  clear u11 v11
  have HS3 := hide (And.intro (Kept.keep (S := fun W => (((((Below w.heap.size w W ∧ w.heap.size ≤ W.heap.size) ∧ Blk W X1 24 #[.int .i64 xd, .slice A xt.length c]) ∧ Vr X5 (rd) A5 n5 c5 (rt) W) ∧ Vr X7 (xd) A7 n7 c7 (xt) W) ∧ Vr X11 (sd) A11 n11 c11 (st) W)) _ _ HS_0.out ((Below.refl _ _).alloc (Nat.le_refl _) (.cells #[.int .i64 (xd), .slice A13 n13 c13] 24))) (Vr.new (d := xd) HO.out))
  obtain ⟨X13, hX⟩ : ∃ X, X = w116.heap.size := ⟨_, rfl⟩
  rw [← hX] at HS3 ⊢
  clear hX HS_0 HO HS
  generalize w116.alloc (.cells #[.int .i64 (xd), .slice A13 n13 c13] 24) = W117 at *
  have HS := hide HS3.out
  clear HS3
  try clear HS_0
  obtain ⟨x0, x1, _, _⟩ := (HS.out.1.1.1.1.2).two
  go_upto_region 18 with (first
   | (go_at_call 14; refine (HOWN.out W117 HS.out.1.1.1.1.1.1 HS.out.1.1.1.1.1.2).mono ?_; rintro e w118 ⟨A9, n9, c9, rfl, ho, hb⟩
      have HS_0 := hide (Kept.keep (S := fun W => ((((((Below w.heap.size w W ∧ w.heap.size ≤ W.heap.size) ∧ Blk W X1 24 #[.int .i64 xd, .slice A xt.length c]) ∧ Vr X5 (rd) A5 n5 c5 (rt) W) ∧ Vr X7 (xd) A7 n7 c7 (xt) W) ∧ Vr X11 (sd) A11 n11 c11 (st) W) ∧ Vr X13 (xd) A13 n13 c13 (xt) W)) _ _ HS.out hb)
      have HC := hide (HOP.out ▸ sub_flat 1 none 0 0 [] xd A9 n9 c9 xt w118.heap.size w118 (Rd.nil_ _ _ _) (Rd.of_own ho) (Nat.le_refl _))
      clear ho
      clear hb)
   | (go_at_call 27; refine (HC.out).mono ?_; rintro e w119 ⟨A15, n15, c15, rfl, ho, hb⟩
      have HS_1 := hide (Kept.keep (S := fun W => ((((((Below w.heap.size w W ∧ w.heap.size ≤ W.heap.size) ∧ Blk W X1 24 #[.int .i64 xd, .slice A xt.length c]) ∧ Vr X5 (rd) A5 n5 c5 (rt) W) ∧ Vr X7 (xd) A7 n7 c7 (xt) W) ∧ Vr X11 (sd) A11 n11 c11 (st) W) ∧ Vr X13 (xd) A13 n13 c13 (xt) W)) _ _ HS_0.out hb)
      have HO := hide (own_le ho (Nat.zero_le _))
      clear ho HC
      clear hb))
  clear x0 x1
  have HS3 := hide (And.intro (Kept.keep (S := fun W => ((((((Below w.heap.size w W ∧ w.heap.size ≤ W.heap.size) ∧ Blk W X1 24 #[.int .i64 xd, .slice A xt.length c]) ∧ Vr X5 (rd) A5 n5 c5 (rt) W) ∧ Vr X7 (xd) A7 n7 c7 (xt) W) ∧ Vr X11 (sd) A11 n11 c11 (st) W) ∧ Vr X13 (xd) A13 n13 c13 (xt) W)) _ _ HS_1.out ((Below.refl _ _).alloc (Nat.le_refl _) (.cells #[.int .i64 (od), .slice A15 n15 c15] 24))) (Vr.new (d := od) HO.out))
  obtain ⟨X15, hX⟩ : ∃ X, X = w119.heap.size := ⟨_, rfl⟩
  rw [← hX] at HS3 ⊢
  clear hX HS_1 HO HS
  generalize w119.alloc (.cells #[.int .i64 (od), .slice A15 n15 c15] 24) = W120 at *
  have HS := hide HS3.out
  clear HS3
  clear HS_0
  obtain ⟨x0, x1, _, _⟩ := (HS.out.1.1.1.1.1.2).two
  obtain ⟨u13, v13, _, _⟩ := (HS.out.1.2.1).two
  go_upto_region 20 with (first
   | (go_at_call 18; refine (lawSelf_any xd A13 n13 c13 A xt.length c xt W120.heap.size W120 (Rq.of (terms_own (HS.out.1.2.2))) (Rq.more (HP.out _ HS.out.1.1.1.1.1.1.1) HS.out.1.1.1.1.1.1.2) (Nat.le_refl _)).mono ?_; rintro e w121 ⟨rfl, hb⟩
      have HS_0 := hide (Kept.keep (S := fun W => (((((((Below w.heap.size w W ∧ w.heap.size ≤ W.heap.size) ∧ Blk W X1 24 #[.int .i64 xd, .slice A xt.length c]) ∧ Vr X5 (rd) A5 n5 c5 (rt) W) ∧ Vr X7 (xd) A7 n7 c7 (xt) W) ∧ Vr X11 (sd) A11 n11 c11 (st) W) ∧ Vr X13 (xd) A13 n13 c13 (xt) W) ∧ Vr X15 (od) A15 n15 c15 (ot) W)) _ _ HS.out hb)
      clear hb))
  clear u13 v13
  clear x0 x1
  have HS0 := hide HS_0.out
  clear HS
  have HS := hide HS0.out
  clear HS0
  have HBk := hide HS.out.1.1.1.1.1.1
  go_wp2_with (first
   | (go_at_call 11; refine (HK.out _ HBk.out.1).mono ?_; rintro e wz ⟨rfl, hbz⟩
      have HBe := hide (HBk.out.1.trans (hbz.mono HBk.out.2))
      clear hbz))
  all_goals
   go_ret
   exact ⟨rfl, HBe.out⟩
end Go.Proofs.YtfmnnceacdpbdaaGreatDoor
