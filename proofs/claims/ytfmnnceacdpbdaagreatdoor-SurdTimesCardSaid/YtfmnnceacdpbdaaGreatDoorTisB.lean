import Derived.Test.YtfmnnceacdpbdaaGreatDoorLayN
import Derived.Test.YtfmnnceacdpbdaaGreatDoorLawU
import Derived.Test.YtfmnnceacdpbdaaGreatDoorKnwAToKnwB
import Derived.Test.YtfmnnceacdpbdaaGreatDoorTimB
import Derived.Test.YtfmnnceacdpbdaaGreatDoorTimD
set_option linter.unusedVariables false
set_option linter.unusedSimpArgs false
namespace Go.Proofs.YtfmnnceacdpbdaaGreatDoor
open Go Go.RowKit
set_option maxHeartbeats 16000000 in
set_option maxRecDepth 100000 in
theorem times_any (xd : Int) (A : Option Addr) (n c : Nat) (xt : List (Int × Int)) (yd : Int) (A' : Option Addr) (n' c' : Nat) (yt : List (Int × Int)) (w : World) (hx : TermsQ w w.heap.size A n c xt) (hy : TermsQ w w.heap.size A' n' c' yt)
  (hE : ErrVars w) (hM : MaxV w) (htab : Lib.TabIs Tryz.prog w "internal/strconv.uint64pow10" .u64 Lib.pow10Tab) :
  Calls Tryz.prog 4 #[.agg #[.int .i64 xd, .slice A n c], .agg #[.int .i64 yd, .slice A' n' c']] w fun e w' => e = .returned (.bool true) ∧ Below w.heap.size w w' := by
 obtain ⟨gp, hgp⟩ := Option.isSome_iff_exists.1 Tryz.pow10g
 have HK : Hid (∀ W, Below w.heap.size w W → Calls Tryz.prog 11 #[] W fun e w' => e = .returned (.bool true) ∧ Below W.heap.size W w') := hide (fun W hW => known1_any W (hE.below hW (Nat.le_refl _)) (hM.below hW (Nat.le_refl _)) (TabIs_below_ hgp htab hW))
 have hl := hx.len
 subst hl
 have hl := hy.len
 subst hl
 have hmx := Rq.nmax hx
 have hmy := Rq.nmax hy
 have HPX := hide (fun W (hb : Below w.heap.size w W) => Rq.below hx hb)
 have HPY := hide (fun W (hb : Below w.heap.size w W) => Rq.below hy hb)
 have HLX := hide (fun W => long1_any xd A xt.length c W (by omega))
 have HLY := hide (fun W => long1_any yd A' yt.length c' W (by omega))
 clear hx hy hE hM htab hgp
 go_enter Tryz.func4, Tryz.ntmps4
 go_upto_region 1 with fail
 obtain ⟨X2, hX2⟩ : ∃ X, X = w.heap.size := ⟨_, rfl⟩
 obtain ⟨X3, hX3⟩ : ∃ X, X = w.heap.size + 1 := ⟨_, rfl⟩
 have HS : Hid (((Below w.heap.size w ((w.alloc (.cells #[.int .i64 xd, .slice A xt.length c] 24)).alloc (.cells #[.int .i64 yd, .slice A' yt.length c'] 24)) ∧ w.heap.size ≤ ((w.alloc (.cells #[.int .i64 xd, .slice A xt.length c] 24)).alloc (.cells #[.int .i64 yd, .slice A' yt.length c'] 24)).heap.size) ∧ Blk ((w.alloc (.cells #[.int .i64 xd, .slice A xt.length c] 24)).alloc (.cells #[.int .i64 yd, .slice A' yt.length c'] 24)) X2 24 #[.int .i64 xd, .slice A xt.length c]) ∧ Blk ((w.alloc (.cells #[.int .i64 xd, .slice A xt.length c] 24)).alloc (.cells #[.int .i64 yd, .slice A' yt.length c'] 24)) X3 24 #[.int .i64 yd, .slice A' yt.length c']) :=
  hide ⟨⟨⟨((Below.refl _ _).alloc (Nat.le_refl _) _).alloc (by simp) _, by simp; omega⟩, hX2 ▸ (Blk.new w _ _).alloc _⟩, by rw [hX3, ← World.size_alloc]; exact Blk.new _ _ _⟩
 rw [← hX3, ← hX2] at ⊢
 clear hX2 hX3
 generalize (w.alloc (.cells #[.int .i64 xd, .slice A xt.length c] 24)).alloc (.cells #[.int .i64 yd, .slice A' yt.length c'] 24) = W1 at *
 have HLX1 := hide (HLX.out W1)
 obtain ⟨x0, x1, _, _⟩ := HS.out.1.2.two
 obtain ⟨y0, y1, _, _⟩ := HS.out.2.two
 by_cases h8 : 8 < xt.length
 case' pos =>
  rw [decide_eq_true h8] at HLX1
  clear HPX HPY HLX HLY y0 y1 hmx hmy
  go_wp2_with (first
   | (go_at_call 10; refine HLX1.out.mono ?_; rintro e w1 ⟨rfl, hb1⟩
      have HB1 := hide (HS.out.1.1.1.trans (hb1.mono HS.out.1.1.2)); have hz1 := HB1.out.size
      clear hb1)
   | (go_at_call 11; refine (HK.out _ HB1.out).mono ?_; rintro e wz ⟨rfl, hbz⟩
      have HBe := hide (HB1.out.trans (hbz.mono hz1))
      clear hbz))
  all_goals
   go_ret
   exact ⟨rfl, HBe.out⟩
 rw [decide_eq_false h8] at HLX1
 by_cases h9 : 8 < yt.length
 case' pos =>
  have HLY1 := hide (fun W => (decide_eq_true h9 ▸ HLY.out W : Calls Tryz.prog 10 #[.agg #[.int .i64 yd, .slice A' yt.length c']] W fun e w' => e = .returned (.bool true) ∧ Below W.heap.size W w'))
  clear y0 y1
  go_upto_region 2 with (first
   | (go_at_call 10; refine (HLX1.out).mono ?_; rintro e w101 ⟨rfl, hb⟩
      have HS_0 := hide (Kept.keep (S := fun W => (((Below w.heap.size w W ∧ w.heap.size ≤ W.heap.size) ∧ Blk W X2 24 #[.int .i64 xd, .slice A xt.length c]) ∧ Blk W X3 24 #[.int .i64 yd, .slice A' yt.length c'])) _ _ HS.out hb)
      obtain ⟨y0, y1, _, _⟩ := HS_0.out.2.two
      clear hb)
   | (go_at_call 10; refine (HLY1.out w101).mono ?_; rintro e w102 ⟨rfl, hb⟩
      have HS_1 := hide (Kept.keep (S := fun W => (((Below w.heap.size w W ∧ w.heap.size ≤ W.heap.size) ∧ Blk W X2 24 #[.int .i64 xd, .slice A xt.length c]) ∧ Blk W X3 24 #[.int .i64 yd, .slice A' yt.length c'])) _ _ HS_0.out hb)
      clear hb))
  have HS0 := hide HS_1.out
  clear HS
  have HS := hide HS0.out
  clear HS0
  clear HS_0
  have HBk := hide HS.out.1.1
  go_wp2_with (first
   | (go_at_call 11; refine (HK.out _ HBk.out.1).mono ?_; rintro e wz ⟨rfl, hbz⟩
      have HBe := hide (HBk.out.1.trans (hbz.mono HBk.out.2))
      clear hbz))
  all_goals
   go_ret
   exact ⟨rfl, HBe.out⟩
 have HLY1 := hide (fun W => (decide_eq_false h9 ▸ HLY.out W : Calls Tryz.prog 10 #[.agg #[.int .i64 yd, .slice A' yt.length c']] W fun e w' => e = .returned (.bool false) ∧ Below W.heap.size W w'))
 have HOX := hide (fun W (hb : Below w.heap.size w W) (hB : w.heap.size ≤ W.heap.size) => own1_any xd A xt.length c w.heap.size xt W (HPX.out W hb) hB (by omega))
 have HOY := hide (fun W (hb : Below w.heap.size w W) (hB : w.heap.size ≤ W.heap.size) => own1_any yd A' yt.length c' w.heap.size yt W (HPY.out W hb) hB (by omega))
 clear HLX HLY h8 h9 y0 y1
 go_upto_region 3 with (first
  | (go_at_call 10; refine (HLX1.out).mono ?_; rintro e w101 ⟨rfl, hb⟩
     have HS_0 := hide (Kept.keep (S := fun W => (((Below w.heap.size w W ∧ w.heap.size ≤ W.heap.size) ∧ Blk W X2 24 #[.int .i64 xd, .slice A xt.length c]) ∧ Blk W X3 24 #[.int .i64 yd, .slice A' yt.length c'])) _ _ HS.out hb)
     obtain ⟨y0, y1, _, _⟩ := HS_0.out.2.two
     clear hb)
  | (go_at_call 10; refine (HLY1.out w101).mono ?_; rintro e w102 ⟨rfl, hb⟩
     have HS_1 := hide (Kept.keep (S := fun W => (((Below w.heap.size w W ∧ w.heap.size ≤ W.heap.size) ∧ Blk W X2 24 #[.int .i64 xd, .slice A xt.length c]) ∧ Blk W X3 24 #[.int .i64 yd, .slice A' yt.length c'])) _ _ HS_0.out hb)
     clear hb))
 clear x0 x1 HLX1 HLY1
 have HS0 := hide HS_1.out
 clear HS
 have HS := hide HS0.out
 clear HS0
 clear HS_0
 obtain ⟨u2, v2, _, _⟩ := (HS.out.1.2).two
 have h2 : X2 < w102.heap.size := (HS.out.1.2).lt
 obtain ⟨u3, v3, _, _⟩ := (HS.out.2).two
 have h3 : X3 < w102.heap.size := (HS.out.2).lt
 refine join_region [22, 23, 24, 25, 5, 6] (fun v W => ∃ (X5 X6 : Nat) (x5 x6 : Sl), v 5 = .pointer (some ⟨X5, 0, none⟩) ∧ v 6 = .pointer (some ⟨X6, 0, none⟩) ∧ (((((Below w.heap.size w W ∧ w.heap.size ≤ W.heap.size) ∧ Blk W X2 24 #[.int .i64 xd, .slice A xt.length c]) ∧ Blk W X3 24 #[.int .i64 yd, .slice A' yt.length c']) ∧ Vr X5 (xd) x5.1 x5.2.1 x5.2.2 (xt) W) ∧ Vr X6 (yd) x6.1 x6.2.1 x6.2.2 (yt) W)) (fun v W hR => ?_) ?_
 rotate_left 1
 focus
  intro HJ
  have HGd : Hid ((((Below w.heap.size w w102.drew ∧ w.heap.size ≤ w102.drew.heap.size) ∧ Blk w102.drew X2 24 #[.int .i64 xd, .slice A xt.length c]) ∧ Blk w102.drew X3 24 #[.int .i64 yd, .slice A' yt.length c']) ∧ (Below w102.heap.size w102 w102.drew ∧ w102.heap.size ≤ w102.drew.heap.size)) := hide ⟨Kept.keep (S := fun W => (((Below w.heap.size w W ∧ w.heap.size ≤ W.heap.size) ∧ Blk W X2 24 #[.int .i64 xd, .slice A xt.length c]) ∧ Blk W X3 24 #[.int .i64 yd, .slice A' yt.length c'])) _ _ HS.out (Below.drew (Below.refl _ _)), Below.drew (Below.refl _ _), Nat.le_refl _⟩
  refine wp_region_flow 6 (fun W' => Below w102.heap.size w102 W') (fun _ v W' => MadeN w102.heap.size v W') [4, 5] (fun W' => (((Below w.heap.size w W' ∧ w.heap.size ≤ W'.heap.size) ∧ Blk W' X2 24 #[.int .i64 xd, .slice A xt.length c]) ∧ Blk W' X3 24 #[.int .i64 yd, .slice A' yt.length c']) ∧ (Below w102.heap.size w102 W' ∧ w102.heap.size ≤ W'.heap.size)) (by kernel_rfl)
   (Floats.of2 (by decide +kernel) (fun c a d v w => by cases d <;> exact Iff.rfl) (by
    intro i hi a W' hF
    have hi2 : i = 4 ∨ i = 5 := by simpa using hi
    rcases hi2 with rfl | rfl
    all_goals
     refine wpOp_step rfl (fun K' hK0 => ?_)
     have hK := hide hK0
     clear hK0
     go_simp
     exact hK.out _ _ ⟨_, rfl, ⟨_, rfl, hF.size, Blk.new _ _ _⟩, (Below.refl _ _).alloc (Nat.le_refl _) _, fun _ _ _ _ h => h.fresh rfl⟩)
    (fun i v W W' ⟨X, h1, h2, h3⟩ hb => ⟨X, h1, h2, h3.below hb h3.lt⟩))
   (fun _ _ _ h => h) (by decide) HGd.out (fun W h => h.2.1) (fun HFL => ?_)
  refine Safe.take 0 (v := ?_) rfl rfl HFL (by decide +kernel) (fun W h => h.2.1) (by rfl) (fun W hF => ?_) ?_
  rotate_left 1
  focus (have hF := hF (by decide +kernel); have e1 := (hF.cell (p := ⟨X2, 0, none⟩) h2).trans u2; have e2 := (hF.cell (p := ⟨X2, 1, none⟩) h2).trans v2; clear hF; go_simp; first | done | with_reducible rfl)
  (try simp only [Act.put, List.setIfInBounds_toArray, List.set_cons_zero, List.set_cons_succ])
  refine Safe.take 2 (v := ?_) rfl rfl HFL (by decide +kernel) (fun W h => h.2.1) (by rfl) (fun W hF => ?_) ?_
  rotate_left 1
  focus (have hF := hF (by decide +kernel); have e1 := (hF.cell (p := ⟨X3, 0, none⟩) h3).trans u3; have e2 := (hF.cell (p := ⟨X3, 1, none⟩) h3).trans v3; clear hF; go_simp; first | done | with_reducible rfl)
  (try simp only [Act.put, List.setIfInBounds_toArray, List.set_cons_zero, List.set_cons_succ])
  refine Safe.on 1 (fun x : Sl => .agg #[.int .i64 (xd), .slice x.1 x.2.1 x.2.2]) (fun x W => OwnN 0 x (xt) W) rfl rfl HFL (by decide +kernel) (fun W h => h.2.1) (fun W hG K' hK => ?_) (fun x1 hF1 => ?_)
  focus
   have HC := hide (HOX.out W (hG.1.1.1.1) (hG.1.1.1.2))
   clear hG
   go_simp
   go_wp2_with (first
    | (go_at_call 14; refine HC.out.mono ?_; rintro e w6 ⟨A, n, c, rfl, ho, hb⟩
       have HO := hide (own_le ho (Nat.zero_le _)); have HBB := hide hb; clear ho hb))
   exact hK.out (A, n, c) _ HO.out HBB.out
  (try simp only [Act.put, List.setIfInBounds_toArray, List.set_cons_zero, List.set_cons_succ])
  refine Safe.on 3 (fun x : Sl => .agg #[.int .i64 (yd), .slice x.1 x.2.1 x.2.2]) (fun x W => OwnN 0 x (yt) W) rfl rfl HFL (by decide +kernel) hF1 (fun W hG K' hK => ?_) (fun x3 hF3 => ?_)
  focus
   have HC := hide (HOY.out W (hG.1.1.1.1.1) (hG.1.1.1.1.2))
   clear hG
   go_simp
   go_wp2_with (first
    | (go_at_call 14; refine HC.out.mono ?_; rintro e w6 ⟨A, n, c, rfl, ho, hb⟩
       have HO := hide (own_le ho (Nat.zero_le _)); have HBB := hide hb; clear ho hb))
   exact hK.out (A, n, c) _ HO.out HBB.out
  (try simp only [Act.put, List.setIfInBounds_toArray, List.set_cons_zero, List.set_cons_succ])
  refine Safe.force2 (some 5) HFL (by decide +kernel) rfl hF3 (fun vf => ?_)
  (try simp only [Act.put, List.setIfInBounds_toArray, List.set_cons_zero, List.set_cons_succ])
  refine Safe.last (d := some 6) (by decide +kernel) rfl (fun W h => hF3 W h.1) (fun vg W103 hG hN hHeld => ?_) (fun W103 hG hHeld => ?_)
  ·obtain ⟨hG, X5, rfl, hX, hB⟩ := hG
   obtain ⟨⟨X6, rfl, hX', hB'⟩, hne⟩ := hN
   have HL := hide (Lay.two (W0 := w102) (W := W103) (R := [(x1, xt), (x3, yt)]) hG.1.1.2.1 (rows_two hG.1.2 hG.2) 5 6 hX hB hX' hB' hne)
   clear hG HFL hF1 hF3 HGd u2 v2 h2 u3 v3 h3 hX hB hX' hB' hne
   (try simp only [Act.put, List.setIfInBounds_toArray, List.set_cons_zero, List.set_cons_succ])
   refine wpTill_one 6 rfl (by decide +kernel) (fun K hK => ?_)
   obtain ⟨q0, q1, qf0, qf1⟩ := (HL.out.blk 5 (X := X5) rfl rfl).two
   go_simp
   refine hK.out _ _ ⟨trivial, fun h => absurd h (by decide +kernel), fun _ => trivial⟩ (fun hHeld => ?_)
   clear hK K q0 q1 qf0 qf1
   (try simp only [Act.put, List.setIfInBounds_toArray, List.set_cons_zero, List.set_cons_succ])
   have HL1 := hide (HL.out.put 5 X5 rfl rfl (.int .i64 (xd)) (.slice x1.1 x1.2.1 x1.2.2))
   clear HL
   generalize (W103.setCell ⟨X5, 0, none⟩ (.int .i64 (xd))).setCell ⟨X5, 1, none⟩ (.slice x1.1 x1.2.1 x1.2.2) = W104 at HL1 hHeld ⊢
   have HL := hide HL1.out
   clear HL1
   refine wpTill_one 7 rfl (by decide +kernel) (fun K hK => ?_)
   obtain ⟨q0, q1, qf0, qf1⟩ := (HL.out.blk 6 (X := X6) rfl rfl).two
   go_simp
   refine hK.out _ _ ⟨trivial, fun h => absurd h (by decide +kernel), fun _ => trivial⟩ (fun hHeld => ?_)
   clear hK K q0 q1 qf0 qf1
   (try simp only [Act.put, List.setIfInBounds_toArray, List.set_cons_zero, List.set_cons_succ])
   have HL1 := hide (HL.out.put 6 X6 rfl rfl (.int .i64 (yd)) (.slice x3.1 x3.2.1 x3.2.2))
   clear HL
   generalize (W104.setCell ⟨X6, 0, none⟩ (.int .i64 (yd))).setCell ⟨X6, 1, none⟩ (.slice x3.1 x3.2.1 x3.2.2) = W105 at HL1 hHeld ⊢
   have HL := hide HL1.out
   clear HL1
   refine wpTill_done (by decide +kernel) ?_
   exact HJ.out _ _ ⟨X5, X6, x1, x3, rfl, rfl, ⟨⟨HL.out.keep (S := fun W => (((Below w.heap.size w W ∧ w.heap.size ≤ W.heap.size) ∧ Blk W X2 24 #[.int .i64 xd, .slice A xt.length c]) ∧ Blk W X3 24 #[.int .i64 yd, .slice A' yt.length c'])) HS.out, HL.out.var 5 rfl rfl (by simp)⟩, HL.out.var 6 rfl rfl (by simp)⟩⟩ (by kernel_rfl)
  ·obtain ⟨hG, X5, rfl, hX, hB⟩ := hG
   have HL := hide (Lay.one (W0 := w102) (W := W103) (R := [(x1, xt), (x3, yt)]) hG.1.1.2.1 (rows_two hG.1.2 hG.2) 5 hX hB)
   clear hG HFL hF1 hF3 HGd u2 v2 h2 u3 v3 h3 hX hB
   (try simp only [Act.put, List.setIfInBounds_toArray, List.set_cons_zero, List.set_cons_succ])
   refine wpTill_one 5 rfl (by decide +kernel) (fun K hK => ?_)
   go_simp
   refine hK.out _ _ ⟨trivial, fun _ => (HL.out.alloc 6 #[.int .i64 0, .slice none 0 0]).1, fun _ => trivial⟩ (fun hHeld => ?_)
   clear hK K
   (try simp only [Act.put, List.setIfInBounds_toArray, List.set_cons_zero, List.set_cons_succ])
   have HL1 := hide (HL.out.alloc 6 #[.int .i64 0, .slice none 0 0])
   clear HL
   obtain ⟨X6, hX⟩ : ∃ X, X = W103.heap.size := ⟨_, rfl⟩
   rw [← hX] at HL1 ⊢
   clear hX
   generalize W103.alloc (.cells #[.int .i64 0, .slice none 0 0] 24) = W106 at HL1 hHeld ⊢
   have HL := hide HL1.out
   clear HL1
   refine wpTill_one 6 rfl (by decide +kernel) (fun K hK => ?_)
   obtain ⟨q0, q1, qf0, qf1⟩ := (HL.out.blk 5 (X := X5) rfl rfl).two
   go_simp
   refine hK.out _ _ ⟨trivial, fun h => absurd h (by decide +kernel), fun _ => trivial⟩ (fun hHeld => ?_)
   clear hK K q0 q1 qf0 qf1
   (try simp only [Act.put, List.setIfInBounds_toArray, List.set_cons_zero, List.set_cons_succ])
   have HL1 := hide (HL.out.put 5 X5 rfl rfl (.int .i64 (xd)) (.slice x1.1 x1.2.1 x1.2.2))
   clear HL
   generalize (W106.setCell ⟨X5, 0, none⟩ (.int .i64 (xd))).setCell ⟨X5, 1, none⟩ (.slice x1.1 x1.2.1 x1.2.2) = W107 at HL1 hHeld ⊢
   have HL := hide HL1.out
   clear HL1
   refine wpTill_one 7 rfl (by decide +kernel) (fun K hK => ?_)
   obtain ⟨q0, q1, qf0, qf1⟩ := (HL.out.blk 6 (X := X6) rfl rfl).two
   go_simp
   refine hK.out _ _ ⟨trivial, fun h => absurd h (by decide +kernel), fun _ => trivial⟩ (fun hHeld => ?_)
   clear hK K q0 q1 qf0 qf1
   (try simp only [Act.put, List.setIfInBounds_toArray, List.set_cons_zero, List.set_cons_succ])
   have HL1 := hide (HL.out.put 6 X6 rfl rfl (.int .i64 (yd)) (.slice x3.1 x3.2.1 x3.2.2))
   clear HL
   generalize (W107.setCell ⟨X6, 0, none⟩ (.int .i64 (yd))).setCell ⟨X6, 1, none⟩ (.slice x3.1 x3.2.1 x3.2.2) = W108 at HL1 hHeld ⊢
   have HL := hide HL1.out
   clear HL1
   refine wpTill_done (by decide +kernel) ?_
   exact HJ.out _ _ ⟨X5, X6, x1, x3, rfl, rfl, ⟨⟨HL.out.keep (S := fun W => (((Below w.heap.size w W ∧ w.heap.size ≤ W.heap.size) ∧ Blk W X2 24 #[.int .i64 xd, .slice A xt.length c]) ∧ Blk W X3 24 #[.int .i64 yd, .slice A' yt.length c'])) HS.out, HL.out.var 5 rfl rfl (by simp)⟩, HL.out.var 6 rfl rfl (by simp)⟩⟩ (by kernel_rfl)
 obtain ⟨X5, X6, ⟨A5, n5, c5⟩, ⟨A6, n6, c6⟩, hv1, hv2, hR⟩ := hR
 have HS1 := hide hR
 clear hR HS u2 v2 h2 u3 v3 h3
 dsimp only at HS1
 simp only [List.foldl_cons, List.foldl_nil, Act.put, List.setIfInBounds_toArray, List.set_cons_zero, List.set_cons_succ, hv1, hv2]
 clear hv1 hv2
 have HS := hide HS1.out
 clear HS1
 generalize W = W109 at *
 obtain ⟨p, hp⟩ : ∃ p, mulS xd xt yd yt = p := ⟨_, rfl⟩
 obtain ⟨q, hq⟩ : ∃ q, quoS xd xt yd yt = q := ⟨_, rfl⟩
 have HEQ := hide (And.intro hp hq)
 clear hp hq
 obtain ⟨u5, v5, _, _⟩ := (HS.out.1.2.1).two
 obtain ⟨u6, v6, _, _⟩ := (HS.out.2.1).two
 go_upto_region 5 with (first
  | (go_at_call 19; refine ((HEQ.out.1 ▸ mul_flat xd A5 n5 c5 xt yd A6 n6 c6 yt W109.heap.size W109 (terms_own (HS.out.1.2.2)) (terms_own (HS.out.2.2)) (Nat.le_refl _))).mono ?_; rintro e w110 ⟨A7, n7, c7, rfl, ho, hb⟩
     have HS_0 := hide (Kept.keep (S := fun W => (((((Below w.heap.size w W ∧ w.heap.size ≤ W.heap.size) ∧ Blk W X2 24 #[.int .i64 xd, .slice A xt.length c]) ∧ Blk W X3 24 #[.int .i64 yd, .slice A' yt.length c']) ∧ Vr X5 (xd) A5 n5 c5 (xt) W) ∧ Vr X6 (yd) A6 n6 c6 (yt) W)) _ _ HS.out hb)
     have HO := hide (own_le ho (Nat.zero_le _))
     clear ho
     clear hb))
 clear u5 v5 u6 v6
 have HS3 := hide (And.intro (Kept.keep (S := fun W => (((((Below w.heap.size w W ∧ w.heap.size ≤ W.heap.size) ∧ Blk W X2 24 #[.int .i64 xd, .slice A xt.length c]) ∧ Blk W X3 24 #[.int .i64 yd, .slice A' yt.length c']) ∧ Vr X5 (xd) A5 n5 c5 (xt) W) ∧ Vr X6 (yd) A6 n6 c6 (yt) W)) _ _ HS_0.out ((Below.refl _ _).alloc (Nat.le_refl _) (.cells #[.int .i64 (p.1), .slice A7 n7 c7] 24))) (Vr.new (d := p.1) HO.out))
 obtain ⟨X7, hX⟩ : ∃ X, X = w110.heap.size := ⟨_, rfl⟩
 rw [← hX] at HS3  ⊢
 clear hX HS_0 HO HS
 generalize w110.alloc (.cells #[.int .i64 (p.1), .slice A7 n7 c7] 24) = W111 at *
 have HS := hide HS3.out
 clear HS3
 try clear HS_0
 obtain ⟨u5, v5, _, _⟩ := (HS.out.1.1.2.1).two
 obtain ⟨u6, v6, _, _⟩ := (HS.out.1.2.1).two
 go_upto_region 6 with (first
  | (go_at_call 20; refine ((HEQ.out.2 ▸ quo_flat xd A5 n5 c5 xt yd A6 n6 c6 yt W111.heap.size W111 (terms_own (HS.out.1.1.2.2)) (terms_own (HS.out.1.2.2)) (Nat.le_refl _))).mono ?_; rintro e w112 ⟨A9, n9, c9, rfl, ho, hb⟩
     have HS_0 := hide (Kept.keep (S := fun W => ((((((Below w.heap.size w W ∧ w.heap.size ≤ W.heap.size) ∧ Blk W X2 24 #[.int .i64 xd, .slice A xt.length c]) ∧ Blk W X3 24 #[.int .i64 yd, .slice A' yt.length c']) ∧ Vr X5 (xd) A5 n5 c5 (xt) W) ∧ Vr X6 (yd) A6 n6 c6 (yt) W) ∧ Vr X7 (p.1) A7 n7 c7 (p.2.1) W)) _ _ HS.out hb)
     have HO := hide (own_le ho (Nat.zero_le _))
     clear ho
     clear hb))
 clear u5 v5 u6 v6
 have HS3 := hide (And.intro (Kept.keep (S := fun W => ((((((Below w.heap.size w W ∧ w.heap.size ≤ W.heap.size) ∧ Blk W X2 24 #[.int .i64 xd, .slice A xt.length c]) ∧ Blk W X3 24 #[.int .i64 yd, .slice A' yt.length c']) ∧ Vr X5 (xd) A5 n5 c5 (xt) W) ∧ Vr X6 (yd) A6 n6 c6 (yt) W) ∧ Vr X7 (p.1) A7 n7 c7 (p.2.1) W)) _ _ HS_0.out ((Below.refl _ _).alloc (Nat.le_refl _) (.cells #[.int .i64 (q.1), .slice A9 n9 c9] 24))) (Vr.new (d := q.1) HO.out))
 obtain ⟨X9, hX⟩ : ∃ X, X = w112.heap.size := ⟨_, rfl⟩
 rw [← hX] at HS3  ⊢
 clear hX HS_0 HO HS
 generalize w112.alloc (.cells #[.int .i64 (q.1), .slice A9 n9 c9] 24) = W113 at *
 have HS := hide HS3.out
 clear HS3
 try clear HS_0
 obtain ⟨x0, x1, _, _⟩ := (HS.out.1.1.1.1.1.2).two
 obtain ⟨y0, y1, _, _⟩ := (HS.out.1.1.1.1.2).two
 go_upto_region 7 with (first
  | (go_at_call 21; refine ((HEQ.out.1 ▸ refTimes_any xd A xt.length c xt yd A' yt.length c' yt w.heap.size W113 (HPX.out _ HS.out.1.1.1.1.1.1.1) (HPY.out _ HS.out.1.1.1.1.1.1.1) HS.out.1.1.1.1.1.1.2)).mono ?_; rintro e w114 ⟨A11, n11, c11, rfl, ho, hb⟩
     have HS_0 := hide (Kept.keep (S := fun W => (((((((Below w.heap.size w W ∧ w.heap.size ≤ W.heap.size) ∧ Blk W X2 24 #[.int .i64 xd, .slice A xt.length c]) ∧ Blk W X3 24 #[.int .i64 yd, .slice A' yt.length c']) ∧ Vr X5 (xd) A5 n5 c5 (xt) W) ∧ Vr X6 (yd) A6 n6 c6 (yt) W) ∧ Vr X7 (p.1) A7 n7 c7 (p.2.1) W) ∧ Vr X9 (q.1) A9 n9 c9 (q.2.1) W)) _ _ HS.out hb)
     have HO := hide (own_le ho (Nat.zero_le _))
     clear ho
     clear hb))
 have HS3 := hide (And.intro (Kept.keep (S := fun W => (((((((Below w.heap.size w W ∧ w.heap.size ≤ W.heap.size) ∧ Blk W X2 24 #[.int .i64 xd, .slice A xt.length c]) ∧ Blk W X3 24 #[.int .i64 yd, .slice A' yt.length c']) ∧ Vr X5 (xd) A5 n5 c5 (xt) W) ∧ Vr X6 (yd) A6 n6 c6 (yt) W) ∧ Vr X7 (p.1) A7 n7 c7 (p.2.1) W) ∧ Vr X9 (q.1) A9 n9 c9 (q.2.1) W)) _ _ HS_0.out ((Below.refl _ _).alloc (Nat.le_refl _) (.cells #[.int .i64 (p.1), .slice A11 n11 c11] 24))) (Vr.new (d := p.1) HO.out))
 obtain ⟨X11, hX⟩ : ∃ X, X = w114.heap.size := ⟨_, rfl⟩
 rw [← hX] at HS3  ⊢
 clear hX HS_0 HO HS
 generalize w114.alloc (.cells #[.int .i64 (p.1), .slice A11 n11 c11] 24) = W115 at *
 have HS := hide HS3.out
 clear HS3
 try clear HS_0
 clear x0 x1 y0 y1
 obtain ⟨x0, x1, _, _⟩ := (HS.out.1.1.1.1.1.1.2).two
 obtain ⟨y0, y1, _, _⟩ := (HS.out.1.1.1.1.1.2).two
 go_upto_region 8 with (first
  | (go_at_call 22; refine ((HEQ.out.2 ▸ refOver_any xd A xt.length c xt yd A' yt.length c' yt w.heap.size W115 (HPX.out _ HS.out.1.1.1.1.1.1.1.1) (HPY.out _ HS.out.1.1.1.1.1.1.1.1) HS.out.1.1.1.1.1.1.1.2)).mono ?_; rintro e w116 ⟨A13, n13, c13, rfl, ho, hb⟩
     have HS_0 := hide (Kept.keep (S := fun W => ((((((((Below w.heap.size w W ∧ w.heap.size ≤ W.heap.size) ∧ Blk W X2 24 #[.int .i64 xd, .slice A xt.length c]) ∧ Blk W X3 24 #[.int .i64 yd, .slice A' yt.length c']) ∧ Vr X5 (xd) A5 n5 c5 (xt) W) ∧ Vr X6 (yd) A6 n6 c6 (yt) W) ∧ Vr X7 (p.1) A7 n7 c7 (p.2.1) W) ∧ Vr X9 (q.1) A9 n9 c9 (q.2.1) W) ∧ Vr X11 (p.1) A11 n11 c11 (p.2.1) W)) _ _ HS.out hb)
     have HO := hide (own_le ho (Nat.zero_le _))
     clear ho
     clear hb))
 have HS3 := hide (And.intro (Kept.keep (S := fun W => ((((((((Below w.heap.size w W ∧ w.heap.size ≤ W.heap.size) ∧ Blk W X2 24 #[.int .i64 xd, .slice A xt.length c]) ∧ Blk W X3 24 #[.int .i64 yd, .slice A' yt.length c']) ∧ Vr X5 (xd) A5 n5 c5 (xt) W) ∧ Vr X6 (yd) A6 n6 c6 (yt) W) ∧ Vr X7 (p.1) A7 n7 c7 (p.2.1) W) ∧ Vr X9 (q.1) A9 n9 c9 (q.2.1) W) ∧ Vr X11 (p.1) A11 n11 c11 (p.2.1) W)) _ _ HS_0.out ((Below.refl _ _).alloc (Nat.le_refl _) (.cells #[.int .i64 (q.1), .slice A13 n13 c13] 24))) (Vr.new (d := q.1) HO.out))
 obtain ⟨X13, hX⟩ : ∃ X, X = w116.heap.size := ⟨_, rfl⟩
 rw [← hX] at HS3  ⊢
 clear hX HS_0 HO HS
 generalize w116.alloc (.cells #[.int .i64 (q.1), .slice A13 n13 c13] 24) = W117 at *
 have HS := hide HS3.out
 clear HS3
 try clear HS_0
 clear x0 x1 y0 y1
 obtain ⟨x0, x1, _, _⟩ := (HS.out.1.1.1.1.1.1.1.2).two
 obtain ⟨y0, y1, _, _⟩ := (HS.out.1.1.1.1.1.1.2).two
 obtain ⟨u5, v5, _, _⟩ := (HS.out.1.1.1.1.1.2.1).two
 obtain ⟨u6, v6, _, _⟩ := (HS.out.1.1.1.1.2.1).two
 obtain ⟨u7, v7, _, _⟩ := (HS.out.1.1.1.2.1).two
 obtain ⟨u9, v9, _, _⟩ := (HS.out.1.1.2.1).two
 obtain ⟨u11, v11, _, _⟩ := (HS.out.1.2.1).two
 obtain ⟨u13, v13, _, _⟩ := (HS.out.2.1).two
 go_wp2_with (first
  | (go_at_call 11; refine (HK.out _ HS_3.out.1.1.1.1.1.1.1.1.1).mono ?_; rintro e wz ⟨rfl, hbz⟩
     have HBe := hide (HS_3.out.1.1.1.1.1.1.1.1.1.trans (hbz.mono HS_3.out.1.1.1.1.1.1.1.1.2))
     clear hbz)
  | (go_at_call 18; refine (lawSelf_any (q.1) A9 n9 c9 A13 n13 c13 (q.2.1) w120.heap.size w120 (Rq.of (terms_own (HS_2.out.1.1.2.2))) (Rq.of (terms_own (HS_2.out.2.2))) (Nat.le_refl _)).mono ?_; rintro e w121 ⟨rfl, hb⟩
     have HS_3 := hide (Kept.keep (S := fun W => (((((((((Below w.heap.size w W ∧ w.heap.size ≤ W.heap.size) ∧ Blk W X2 24 #[.int .i64 xd, .slice A xt.length c]) ∧ Blk W X3 24 #[.int .i64 yd, .slice A' yt.length c']) ∧ Vr X5 (xd) A5 n5 c5 (xt) W) ∧ Vr X6 (yd) A6 n6 c6 (yt) W) ∧ Vr X7 (p.1) A7 n7 c7 (p.2.1) W) ∧ Vr X9 (q.1) A9 n9 c9 (q.2.1) W) ∧ Vr X11 (p.1) A11 n11 c11 (p.2.1) W) ∧ Vr X13 (q.1) A13 n13 c13 (q.2.1) W)) _ _ HS_2.out hb)
     clear x0 x1 y0 y1 u5 v5 u6 v6 u7 v7 u9 v9 u11 v11 u13 v13
     obtain ⟨x0, x1, _, _⟩ := (HS_3.out.1.1.1.1.1.1.1.2).two
     obtain ⟨y0, y1, _, _⟩ := (HS_3.out.1.1.1.1.1.1.2).two
     obtain ⟨u5, v5, _, _⟩ := (HS_3.out.1.1.1.1.1.2.1).two
     obtain ⟨u6, v6, _, _⟩ := (HS_3.out.1.1.1.1.2.1).two
     obtain ⟨u7, v7, _, _⟩ := (HS_3.out.1.1.1.2.1).two
     obtain ⟨u9, v9, _, _⟩ := (HS_3.out.1.1.2.1).two
     obtain ⟨u11, v11, _, _⟩ := (HS_3.out.1.2.1).two
     obtain ⟨u13, v13, _, _⟩ := (HS_3.out.2.1).two
     clear hb)
  | (go_at_call 18; refine (lawSelf_any (p.1) A7 n7 c7 A11 n11 c11 (p.2.1) w119.heap.size w119 (Rq.of (terms_own (HS_1.out.1.1.1.2.2))) (Rq.of (terms_own (HS_1.out.1.2.2))) (Nat.le_refl _)).mono ?_; rintro e w120 ⟨rfl, hb⟩
     have HS_2 := hide (Kept.keep (S := fun W => (((((((((Below w.heap.size w W ∧ w.heap.size ≤ W.heap.size) ∧ Blk W X2 24 #[.int .i64 xd, .slice A xt.length c]) ∧ Blk W X3 24 #[.int .i64 yd, .slice A' yt.length c']) ∧ Vr X5 (xd) A5 n5 c5 (xt) W) ∧ Vr X6 (yd) A6 n6 c6 (yt) W) ∧ Vr X7 (p.1) A7 n7 c7 (p.2.1) W) ∧ Vr X9 (q.1) A9 n9 c9 (q.2.1) W) ∧ Vr X11 (p.1) A11 n11 c11 (p.2.1) W) ∧ Vr X13 (q.1) A13 n13 c13 (q.2.1) W)) _ _ HS_1.out hb)
     clear x0 x1 y0 y1 u5 v5 u6 v6 u7 v7 u9 v9 u11 v11 u13 v13
     obtain ⟨x0, x1, _, _⟩ := (HS_2.out.1.1.1.1.1.1.1.2).two
     obtain ⟨y0, y1, _, _⟩ := (HS_2.out.1.1.1.1.1.1.2).two
     obtain ⟨u5, v5, _, _⟩ := (HS_2.out.1.1.1.1.1.2.1).two
     obtain ⟨u6, v6, _, _⟩ := (HS_2.out.1.1.1.1.2.1).two
     obtain ⟨u7, v7, _, _⟩ := (HS_2.out.1.1.1.2.1).two
     obtain ⟨u9, v9, _, _⟩ := (HS_2.out.1.1.2.1).two
     obtain ⟨u11, v11, _, _⟩ := (HS_2.out.1.2.1).two
     obtain ⟨u13, v13, _, _⟩ := (HS_2.out.2.1).two
     clear hb)
  | (go_at_call 18; refine (lawSelf_any (yd) A6 n6 c6 A' yt.length c' (yt) w118.heap.size w118 (Rq.of (terms_own (HS_0.out.1.1.1.1.2.2))) (Rq.more (HPY.out _ HS_0.out.1.1.1.1.1.1.1.1.1) HS_0.out.1.1.1.1.1.1.1.1.2) (Nat.le_refl _)).mono ?_; rintro e w119 ⟨rfl, hb⟩
     have HS_1 := hide (Kept.keep (S := fun W => (((((((((Below w.heap.size w W ∧ w.heap.size ≤ W.heap.size) ∧ Blk W X2 24 #[.int .i64 xd, .slice A xt.length c]) ∧ Blk W X3 24 #[.int .i64 yd, .slice A' yt.length c']) ∧ Vr X5 (xd) A5 n5 c5 (xt) W) ∧ Vr X6 (yd) A6 n6 c6 (yt) W) ∧ Vr X7 (p.1) A7 n7 c7 (p.2.1) W) ∧ Vr X9 (q.1) A9 n9 c9 (q.2.1) W) ∧ Vr X11 (p.1) A11 n11 c11 (p.2.1) W) ∧ Vr X13 (q.1) A13 n13 c13 (q.2.1) W)) _ _ HS_0.out hb)
     clear x0 x1 y0 y1 u5 v5 u6 v6 u7 v7 u9 v9 u11 v11 u13 v13
     obtain ⟨x0, x1, _, _⟩ := (HS_1.out.1.1.1.1.1.1.1.2).two
     obtain ⟨y0, y1, _, _⟩ := (HS_1.out.1.1.1.1.1.1.2).two
     obtain ⟨u5, v5, _, _⟩ := (HS_1.out.1.1.1.1.1.2.1).two
     obtain ⟨u6, v6, _, _⟩ := (HS_1.out.1.1.1.1.2.1).two
     obtain ⟨u7, v7, _, _⟩ := (HS_1.out.1.1.1.2.1).two
     obtain ⟨u9, v9, _, _⟩ := (HS_1.out.1.1.2.1).two
     obtain ⟨u11, v11, _, _⟩ := (HS_1.out.1.2.1).two
     obtain ⟨u13, v13, _, _⟩ := (HS_1.out.2.1).two
     clear hb)
  | (go_at_call 18; refine (lawSelf_any (xd) A5 n5 c5 A xt.length c (xt) W117.heap.size W117 (Rq.of (terms_own (HS.out.1.1.1.1.1.2.2))) (Rq.more (HPX.out _ HS.out.1.1.1.1.1.1.1.1.1) HS.out.1.1.1.1.1.1.1.1.2) (Nat.le_refl _)).mono ?_; rintro e w118 ⟨rfl, hb⟩
     have HS_0 := hide (Kept.keep (S := fun W => (((((((((Below w.heap.size w W ∧ w.heap.size ≤ W.heap.size) ∧ Blk W X2 24 #[.int .i64 xd, .slice A xt.length c]) ∧ Blk W X3 24 #[.int .i64 yd, .slice A' yt.length c']) ∧ Vr X5 (xd) A5 n5 c5 (xt) W) ∧ Vr X6 (yd) A6 n6 c6 (yt) W) ∧ Vr X7 (p.1) A7 n7 c7 (p.2.1) W) ∧ Vr X9 (q.1) A9 n9 c9 (q.2.1) W) ∧ Vr X11 (p.1) A11 n11 c11 (p.2.1) W) ∧ Vr X13 (q.1) A13 n13 c13 (q.2.1) W)) _ _ HS.out hb)
     clear x0 x1 y0 y1 u5 v5 u6 v6 u7 v7 u9 v9 u11 v11 u13 v13
     obtain ⟨x0, x1, _, _⟩ := (HS_0.out.1.1.1.1.1.1.1.2).two
     obtain ⟨y0, y1, _, _⟩ := (HS_0.out.1.1.1.1.1.1.2).two
     obtain ⟨u5, v5, _, _⟩ := (HS_0.out.1.1.1.1.1.2.1).two
     obtain ⟨u6, v6, _, _⟩ := (HS_0.out.1.1.1.1.2.1).two
     obtain ⟨u7, v7, _, _⟩ := (HS_0.out.1.1.1.2.1).two
     obtain ⟨u9, v9, _, _⟩ := (HS_0.out.1.1.2.1).two
     obtain ⟨u11, v11, _, _⟩ := (HS_0.out.1.2.1).two
     obtain ⟨u13, v13, _, _⟩ := (HS_0.out.2.1).two
     clear hb))
 all_goals
  go_ret
  exact ⟨rfl, HBe.out⟩
end Go.Proofs.YtfmnnceacdpbdaaGreatDoor
