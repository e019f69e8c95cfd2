import Derived.Test.YtfmnnceacdpbdaaGreatDoorFieAToBetA
import Derived.Test.YtfmnnceacdpbdaaGreatDoorThrA
import Derived.Test.YtfmnnceacdpbdaaGreatDoorLayN
import Derived.Test.YtfmnnceacdpbdaaGreatDoorKnwAToKnwB
set_option linter.unusedVariables false
set_option linter.unusedSimpArgs false
namespace Go.Proofs.YtfmnnceacdpbdaaGreatDoor
open Go Go.RowKit
set_option maxHeartbeats 32000000 in
set_option maxRecDepth 100000 in
theorem order_any (xd : Int) (xA : Option Addr) (xn xc : Nat) (xt : List (Int × Int)) (yd : Int) (yA : Option Addr) (yn yc : Nat) (yt : List (Int × Int)) (zd : Int) (zA : Option Addr) (zn zc : Nat) (zt : List (Int × Int)) (w : World) (hx : TermsQ w w.heap.size xA xn xc xt) (hy : TermsQ w w.heap.size yA yn yc yt) (hz : TermsQ w w.heap.size zA zn zc zt)
  (hE : ErrVars w) (hM : MaxV w) (htab : Lib.TabIs Tryz.prog w "internal/strconv.uint64pow10" .u64 Lib.pow10Tab) :
  Calls Tryz.prog 9 #[.agg #[.int .i64 xd, .slice xA xn xc, .int .i64 yd, .slice yA yn yc, .int .i64 zd, .slice zA zn zc]] w fun e w' => e = .returned (.bool true) ∧ Below w.heap.size w w' := by
 obtain ⟨gp, hgp⟩ := Option.isSome_iff_exists.1 Tryz.pow10g
 have HK : Hid (∀ W, Below w.heap.size w W → Calls Tryz.prog 11 #[] W fun e w' => e = .returned (.bool true) ∧ Below W.heap.size W w') := hide (fun W hW => known1_any W (hE.below hW (Nat.le_refl _)) (hM.below hW (Nat.le_refl _)) (TabIs_below_ hgp htab hW))
 have hl := hx.len
 subst hl
 have hmx := Rq.nmax hx
 have HPx := hide (fun W (hb : Below w.heap.size w W) => Rq.below hx hb)
 have hl := hy.len
 subst hl
 have hmy := Rq.nmax hy
 have HPy := hide (fun W (hb : Below w.heap.size w W) => Rq.below hy hb)
 have hl := hz.len
 subst hl
 have hmz := Rq.nmax hz
 have HPz := hide (fun W (hb : Below w.heap.size w W) => Rq.below hz hb)
 clear hx hy hz hE hM htab hgp
 go_enter Tryz.func9, Tryz.ntmps9
 go_upto_region 1 with fail
 obtain ⟨X1, hX1⟩ : ∃ X, X = w.heap.size := ⟨_, rfl⟩
 have HS : Hid ((Below w.heap.size w (w.alloc (.cells #[.int .i64 xd, .slice xA xt.length xc, .int .i64 yd, .slice yA yt.length yc, .int .i64 zd, .slice zA zt.length zc] 48)) ∧ w.heap.size ≤ (w.alloc (.cells #[.int .i64 xd, .slice xA xt.length xc, .int .i64 yd, .slice yA yt.length yc, .int .i64 zd, .slice zA zt.length zc] 48)).heap.size) ∧ Blk (w.alloc (.cells #[.int .i64 xd, .slice xA xt.length xc, .int .i64 yd, .slice yA yt.length yc, .int .i64 zd, .slice zA zt.length zc] 48)) X1 48 #[.int .i64 xd, .slice xA xt.length xc, .int .i64 yd, .slice yA yt.length yc, .int .i64 zd, .slice zA zt.length zc]) := hide ⟨⟨(Below.refl _ _).alloc (Nat.le_refl _) _, by simp⟩, hX1 ▸ Blk.new w _ _⟩
 rw [← hX1] at ⊢
 clear hX1
 generalize w.alloc (.cells #[.int .i64 xd, .slice xA xt.length xc, .int .i64 yd, .slice yA yt.length yc, .int .i64 zd, .slice zA zt.length zc] 48) = W1 at *
 obtain ⟨u0, u1, u2, u3, u4, u5⟩ := HS.out.2.six
 have hokc0 := fun W (hb : Below w.heap.size w W) (hB : w.heap.size ≤ W.heap.size) => threeOk_any xd xA xt.length xc xt yd yA yt.length yc yt zd zA zt.length zc zt W (Rq.more (HPx.out W hb) hB) (Rq.more (HPy.out W hb) hB) (Rq.more (HPz.out W hb) hB)
 cases hok : okThree xd yd zd xt yt zt
 ·rw [hok] at hokc0
  have hokc := hide hokc0
  clear hokc0
  go_upto_region 2 with (first
   | (go_at_call 31; refine (hokc.out W1 HS.out.1.1 HS.out.1.2).mono ?_; rintro e w101 ⟨rfl, hb⟩
      have HS_0 := hide (Kept.keep (S := fun W => ((Below w.heap.size w W ∧ w.heap.size ≤ W.heap.size) ∧ Blk W X1 48 #[.int .i64 xd, .slice xA xt.length xc, .int .i64 yd, .slice yA yt.length yc, .int .i64 zd, .slice zA zt.length zc])) _ _ HS.out hb)
      clear hb))
  clear u0 u1 u2 u3 u4 u5
  have HS0 := hide HS_0.out
  clear HS
  have HS := hide HS0.out
  clear HS0
  clear HPx HPy HPz
  have HBk := hide HS.out.1
  go_wp2_with (first
   | (go_at_call 11; refine (HK.out _ HBk.out.1).mono ?_; rintro e wz ⟨rfl, hbz⟩
      have HBe := hide (HBk.out.1.trans (hbz.mono HBk.out.2))
      clear hbz))
  all_goals
   go_ret
   exact ⟨rfl, HBe.out⟩
 rw [hok] at hokc0
 have hokc := hide hokc0
 clear hokc0
 obtain ⟨hlx, hly, hlz, hx, hy, hz⟩ := okThree_all hok
 have HOx := hide (fun W (hb : Below w.heap.size w W) (hB : w.heap.size ≤ W.heap.size) => own1_any xd xA xt.length xc w.heap.size xt W (HPx.out W hb) hB (by omega))
 have HOy := hide (fun W (hb : Below w.heap.size w W) (hB : w.heap.size ≤ W.heap.size) => own1_any yd yA yt.length yc w.heap.size yt W (HPy.out W hb) hB (by omega))
 have HOz := hide (fun W (hb : Below w.heap.size w W) (hB : w.heap.size ≤ W.heap.size) => own1_any zd zA zt.length zc w.heap.size zt W (HPz.out W hb) hB (by omega))
 clear hok hlx hly hlz
 go_upto_region 3 with (first
  | (go_at_call 31; refine (hokc.out W1 HS.out.1.1 HS.out.1.2).mono ?_; rintro e w101 ⟨rfl, hb⟩
     have HS_0 := hide (Kept.keep (S := fun W => ((Below w.heap.size w W ∧ w.heap.size ≤ W.heap.size) ∧ Blk W X1 48 #[.int .i64 xd, .slice xA xt.length xc, .int .i64 yd, .slice yA yt.length yc, .int .i64 zd, .slice zA zt.length zc])) _ _ HS.out hb)
     clear hb))
 clear u0 u1 u2 u3 u4 u5 hokc
 have HS0 := hide HS_0.out
 clear HS
 have HS := hide HS0.out
 clear HS0
 obtain ⟨u0_, u1_, u2_, u3_, u4_, u5_⟩ := (HS.out.2).six
 have h_ : X1 < w101.heap.size := (HS.out.2).lt
 have HGd : Hid (((Below w.heap.size w w101.drew ∧ w.heap.size ≤ w101.drew.heap.size) ∧ Blk w101.drew X1 48 #[.int .i64 xd, .slice xA xt.length xc, .int .i64 yd, .slice yA yt.length yc, .int .i64 zd, .slice zA zt.length zc]) ∧ (Below w101.heap.size w101 w101.drew ∧ w101.heap.size ≤ w101.drew.heap.size)) := hide ⟨Kept.keep (S := fun W => ((Below w.heap.size w W ∧ w.heap.size ≤ W.heap.size) ∧ Blk W X1 48 #[.int .i64 xd, .slice xA xt.length xc, .int .i64 yd, .slice yA yt.length yc, .int .i64 zd, .slice zA zt.length zc])) _ _ HS.out (Below.drew (Below.refl _ _)), Below.drew (Below.refl _ _), Nat.le_refl _⟩
 refine wp_region_flow 10 (fun W' => Below w101.heap.size w101 W') (fun _ _ _ => True) [] (fun W' => ((Below w.heap.size w W' ∧ w.heap.size ≤ W'.heap.size) ∧ Blk W' X1 48 #[.int .i64 xd, .slice xA xt.length xc, .int .i64 yd, .slice yA yt.length yc, .int .i64 zd, .slice zA zt.length zc]) ∧ (Below w101.heap.size w101 W' ∧ w101.heap.size ≤ W'.heap.size)) (by kernel_rfl)
  (Floats.of (by decide +kernel) (fun c a d v w => by cases d <;> exact Iff.rfl) (by intro i hi; cases hi) (fun _ _ _ _ _ _ => trivial))
  (fun _ _ _ h => h) (by decide) HGd.out (fun W h => h.2.1) (fun HFL => ?_)
 refine Safe.take 0 (v := ?_) rfl rfl HFL (by decide +kernel) (fun W h => h.2.1) (by rfl) (fun W hF => ?_) ?_
 rotate_left 1
 focus (clear hF; go_simp; first | done | with_reducible rfl)
 (try simp only [Act.put, List.setIfInBounds_toArray, List.set_cons_zero, List.set_cons_succ])
 refine Safe.take 1 (v := ?_) rfl rfl HFL (by decide +kernel) (fun W h => h.2.1) (by rfl) (fun W hF => ?_) ?_
 rotate_left 1
 focus (have hF := hF (by decide +kernel); have e1 := (hF.cell (p := ⟨X1, 0, none⟩) h_).trans u0_; have e2 := (hF.cell (p := ⟨X1, 1, none⟩) h_).trans u1_; clear hF; go_simp; first | done | with_reducible rfl)
 (try simp only [Act.put, List.setIfInBounds_toArray, List.set_cons_zero, List.set_cons_succ])
 refine Safe.take 3 (v := ?_) rfl rfl HFL (by decide +kernel) (fun W h => h.2.1) (by rfl) (fun W hF => ?_) ?_
 rotate_left 1
 focus (clear hF; go_simp; first | done | with_reducible rfl)
 (try simp only [Act.put, List.setIfInBounds_toArray, List.set_cons_zero, List.set_cons_succ])
 refine Safe.take 4 (v := ?_) rfl rfl HFL (by decide +kernel) (fun W h => h.2.1) (by rfl) (fun W hF => ?_) ?_
 rotate_left 1
 focus (have hF := hF (by decide +kernel); have e1 := (hF.cell (p := ⟨X1, 2, none⟩) h_).trans u2_; have e2 := (hF.cell (p := ⟨X1, 3, none⟩) h_).trans u3_; clear hF; go_simp; first | done | with_reducible rfl)
 (try simp only [Act.put, List.setIfInBounds_toArray, List.set_cons_zero, List.set_cons_succ])
 refine Safe.on 2 (fun x : Sl => .agg #[.int .i64 (xd), .slice x.1 x.2.1 x.2.2]) (fun x W => OwnN 0 x (xt) W) rfl rfl HFL (by decide +kernel) (fun W h => h.2.1) (fun W hG K' hK => ?_) (fun x2 hF2 => ?_)
 focus
  have HC := hide (HOx.out W (hG.1.1.1) (hG.1.1.2))
  clear hG
  go_simp
  go_wp2_with (first
   | (go_at_call 14; refine HC.out.mono ?_; rintro e w6 ⟨A, n, c, rfl, ho, hb⟩
      have HO := hide (own_le ho (Nat.zero_le _)); have HBB := hide hb; clear ho hb))
  exact hK.out (A, n, c) _ HO.out HBB.out
 (try simp only [Act.put, List.setIfInBounds_toArray, List.set_cons_zero, List.set_cons_succ])
 refine Safe.on 5 (fun x : Sl => .agg #[.int .i64 (yd), .slice x.1 x.2.1 x.2.2]) (fun x W => OwnN 0 x (yt) W) rfl rfl HFL (by decide +kernel) hF2 (fun W hG K' hK => ?_) (fun x5 hF5 => ?_)
 focus
  have HC := hide (HOy.out W (hG.1.1.1.1) (hG.1.1.1.2))
  clear hG
  go_simp
  go_wp2_with (first
   | (go_at_call 14; refine HC.out.mono ?_; rintro e w6 ⟨A, n, c, rfl, ho, hb⟩
      have HO := hide (own_le ho (Nat.zero_le _)); have HBB := hide hb; clear ho hb))
  exact hK.out (A, n, c) _ HO.out HBB.out
 (try simp only [Act.put, List.setIfInBounds_toArray, List.set_cons_zero, List.set_cons_succ])
 refine Safe.on 6 (fun x : Int × Int => .tuple #[.int .i64 x.1, .int .i64 x.2]) (fun x W => (fun p cp => CmpRes xd xt yd yt p cp) x.1 x.2) rfl rfl HFL (by decide +kernel) hF5 (fun W hG K' hK => ?_) (fun x6 hF6 => ?_)
 focus
  have HC := hide (compare_flat (xd) x2.1 x2.2.1 x2.2.2 (xt) (yd) x5.1 x5.2.1 x5.2.2 (yt)  W.heap.size W (terms_own (hG.1.2)) (terms_own (hG.2)) (Nat.le_refl _) )
  clear hG
  go_simp
  go_wp2_with (first
   | (go_at_call 25; refine HC.out.mono ?_; rintro e w6 ⟨q1, q2, rfl, hr, hb⟩
      have HQ := hide hr; clear hr
      have HBB := hide hb; clear hb))
  exact hK.out (q1, q2) _ HQ.out HBB.out
 (try simp only [Act.put, List.setIfInBounds_toArray, List.set_cons_zero, List.set_cons_succ])
 refine Safe.fin rfl hF6 (fun W102 hG hHeld => ?_)
 have HS0 := hide (hG.1.1.1.1)
 have HR := hide hG.2
 clear hG HGd HFL hF2 hF5 hF6 HS  u0_ u1_ u2_ u3_ u4_ u5_ h_
 have HS := hide HS0.out
 clear HS0
 refine wpTill_take 7 rfl (by decide +kernel) (fun c a w h => by first | exact h | (cases h; done)) (by rfl) (v := ?_) ?_ hHeld (fun hHeld' => ?_)
 rotate_left 1
 focus (intro w' hSw; obtain ⟨hC, hF, hG⟩ := hSw; clear hG; clear hF; go_simp; first | done | with_reducible rfl)
 clear hHeld
 rename Till _ _ _ _ _ _ _ => hHeld
 (try simp only [Act.put, List.setIfInBounds_toArray, List.set_cons_zero, List.set_cons_succ])
 refine wpTill_take 8 rfl (by decide +kernel) (fun c a w h => by first | exact h | (cases h; done)) (by rfl) (v := ?_) ?_ hHeld (fun hHeld' => ?_)
 rotate_left 1
 focus (intro w' hSw; obtain ⟨hC, hF, hG⟩ := hSw; clear hG; clear hF; go_simp; first | done | with_reducible rfl)
 clear hHeld
 rename Till _ _ _ _ _ _ _ => hHeld
 (try simp only [Act.put, List.setIfInBounds_toArray, List.set_cons_zero, List.set_cons_succ])
 refine wpTill_take 9 rfl (by decide +kernel) (fun c a w h => by first | exact h | (cases h; done)) (by rfl) (v := ?_) ?_ hHeld (fun hHeld' => ?_)
 rotate_left 1
 focus (intro w' hSw; obtain ⟨hC, hF, hG⟩ := hSw; clear hG; clear hF; go_simp; first | done | with_reducible rfl)
 clear hHeld
 rename Till _ _ _ _ _ _ _ => hHeld
 (try simp only [Act.put, List.setIfInBounds_toArray, List.set_cons_zero, List.set_cons_succ])
 refine wpTill_one 10 rfl (by decide +kernel) (fun K hK => ?_)
 go_simp
 refine hK.out _ _ ⟨trivial, fun h => absurd h (by decide +kernel), fun _ => trivial⟩ (fun hHeld => ?_)
 clear hK K
 (try simp only [Act.put, List.setIfInBounds_toArray, List.set_cons_zero, List.set_cons_succ])
 refine wpTill_take 11 rfl (by decide +kernel) (fun c a w h => by first | exact h | (cases h; done)) (by rfl) (v := ?_) ?_ hHeld (fun hHeld' => ?_)
 rotate_left 1
 focus (intro w' hSw; obtain ⟨hC, hF, hG⟩ := hSw; clear hG; clear hF; go_simp; first | done | with_reducible rfl)
 clear hHeld
 rename Till _ _ _ _ _ _ _ => hHeld
 (try simp only [Act.put, List.setIfInBounds_toArray, List.set_cons_zero, List.set_cons_succ])
 refine wpTill_done (by decide +kernel) ?_
 clear hHeld
 try clear hHeld
 obtain ⟨n, c1⟩ := x6
 dsimp only at HR
 have HC1 := hide HR
 clear HR
 go_upto_region 4 with fail
 obtain ⟨u0_, u1_, u2_, u3_, u4_, u5_⟩ := (HS.out.2).six
 have h_ : X1 < W102.heap.size := (HS.out.2).lt
 have HGd : Hid (((Below w.heap.size w W102.drew ∧ w.heap.size ≤ W102.drew.heap.size) ∧ Blk W102.drew X1 48 #[.int .i64 xd, .slice xA xt.length xc, .int .i64 yd, .slice yA yt.length yc, .int .i64 zd, .slice zA zt.length zc]) ∧ (Below W102.heap.size W102 W102.drew ∧ W102.heap.size ≤ W102.drew.heap.size)) := hide ⟨Kept.keep (S := fun W => ((Below w.heap.size w W ∧ w.heap.size ≤ W.heap.size) ∧ Blk W X1 48 #[.int .i64 xd, .slice xA xt.length xc, .int .i64 yd, .slice yA yt.length yc, .int .i64 zd, .slice zA zt.length zc])) _ _ HS.out (Below.drew (Below.refl _ _)), Below.drew (Below.refl _ _), Nat.le_refl _⟩
 refine wp_region_flow 10 (fun W' => Below W102.heap.size W102 W') (fun _ _ _ => True) [] (fun W' => ((Below w.heap.size w W' ∧ w.heap.size ≤ W'.heap.size) ∧ Blk W' X1 48 #[.int .i64 xd, .slice xA xt.length xc, .int .i64 yd, .slice yA yt.length yc, .int .i64 zd, .slice zA zt.length zc]) ∧ (Below W102.heap.size W102 W' ∧ W102.heap.size ≤ W'.heap.size)) (by kernel_rfl)
  (Floats.of (by decide +kernel) (fun c a d v w => by cases d <;> exact Iff.rfl) (by intro i hi; cases hi) (fun _ _ _ _ _ _ => trivial))
  (fun _ _ _ h => h) (by decide) HGd.out (fun W h => h.2.1) (fun HFL => ?_)
 refine Safe.take 0 (v := ?_) rfl rfl HFL (by decide +kernel) (fun W h => h.2.1) (by rfl) (fun W hF => ?_) ?_
 rotate_left 1
 focus (clear hF; go_simp; first | done | with_reducible rfl)
 (try simp only [Act.put, List.setIfInBounds_toArray, List.set_cons_zero, List.set_cons_succ])
 refine Safe.take 1 (v := ?_) rfl rfl HFL (by decide +kernel) (fun W h => h.2.1) (by rfl) (fun W hF => ?_) ?_
 rotate_left 1
 focus (have hF := hF (by decide +kernel); have e1 := (hF.cell (p := ⟨X1, 2, none⟩) h_).trans u2_; have e2 := (hF.cell (p := ⟨X1, 3, none⟩) h_).trans u3_; clear hF; go_simp; first | done | with_reducible rfl)
 (try simp only [Act.put, List.setIfInBounds_toArray, List.set_cons_zero, List.set_cons_succ])
 refine Safe.take 3 (v := ?_) rfl rfl HFL (by decide +kernel) (fun W h => h.2.1) (by rfl) (fun W hF => ?_) ?_
 rotate_left 1
 focus (clear hF; go_simp; first | done | with_reducible rfl)
 (try simp only [Act.put, List.setIfInBounds_toArray, List.set_cons_zero, List.set_cons_succ])
 refine Safe.take 4 (v := ?_) rfl rfl HFL (by decide +kernel) (fun W h => h.2.1) (by rfl) (fun W hF => ?_) ?_
 rotate_left 1
 focus (have hF := hF (by decide +kernel); have e1 := (hF.cell (p := ⟨X1, 0, none⟩) h_).trans u0_; have e2 := (hF.cell (p := ⟨X1, 1, none⟩) h_).trans u1_; clear hF; go_simp; first | done | with_reducible rfl)
 (try simp only [Act.put, List.setIfInBounds_toArray, List.set_cons_zero, List.set_cons_succ])
 refine Safe.on 2 (fun x : Sl => .agg #[.int .i64 (yd), .slice x.1 x.2.1 x.2.2]) (fun x W => OwnN 0 x (yt) W) rfl rfl HFL (by decide +kernel) (fun W h => h.2.1) (fun W hG K' hK => ?_) (fun x2 hF2 => ?_)
 focus
  have HC := hide (HOy.out W (hG.1.1.1) (hG.1.1.2))
  clear hG
  go_simp
  go_wp2_with (first
   | (go_at_call 14; refine HC.out.mono ?_; rintro e w6 ⟨A, n, c, rfl, ho, hb⟩
      have HO := hide (own_le ho (Nat.zero_le _)); have HBB := hide hb; clear ho hb))
  exact hK.out (A, n, c) _ HO.out HBB.out
 (try simp only [Act.put, List.setIfInBounds_toArray, List.set_cons_zero, List.set_cons_succ])
 refine Safe.on 5 (fun x : Sl => .agg #[.int .i64 (xd), .slice x.1 x.2.1 x.2.2]) (fun x W => OwnN 0 x (xt) W) rfl rfl HFL (by decide +kernel) hF2 (fun W hG K' hK => ?_) (fun x5 hF5 => ?_)
 focus
  have HC := hide (HOx.out W (hG.1.1.1.1) (hG.1.1.1.2))
  clear hG
  go_simp
  go_wp2_with (first
   | (go_at_call 14; refine HC.out.mono ?_; rintro e w6 ⟨A, n, c, rfl, ho, hb⟩
      have HO := hide (own_le ho (Nat.zero_le _)); have HBB := hide hb; clear ho hb))
  exact hK.out (A, n, c) _ HO.out HBB.out
 (try simp only [Act.put, List.setIfInBounds_toArray, List.set_cons_zero, List.set_cons_succ])
 refine Safe.on 6 (fun x : Int × Int => .tuple #[.int .i64 x.1, .int .i64 x.2]) (fun x W => (fun p cp => CmpRes yd yt xd xt p cp) x.1 x.2) rfl rfl HFL (by decide +kernel) hF5 (fun W hG K' hK => ?_) (fun x6 hF6 => ?_)
 focus
  have HC := hide (compare_flat (yd) x2.1 x2.2.1 x2.2.2 (yt) (xd) x5.1 x5.2.1 x5.2.2 (xt)  W.heap.size W (terms_own (hG.1.2)) (terms_own (hG.2)) (Nat.le_refl _) )
  clear hG
  go_simp
  go_wp2_with (first
   | (go_at_call 25; refine HC.out.mono ?_; rintro e w6 ⟨q1, q2, rfl, hr, hb⟩
      have HQ := hide hr; clear hr
      have HBB := hide hb; clear hb))
  exact hK.out (q1, q2) _ HQ.out HBB.out
 (try simp only [Act.put, List.setIfInBounds_toArray, List.set_cons_zero, List.set_cons_succ])
 refine Safe.fin rfl hF6 (fun W103 hG hHeld => ?_)
 have HS0 := hide (hG.1.1.1.1)
 have HR := hide hG.2
 clear hG HGd HFL hF2 hF5 hF6 HS  u0_ u1_ u2_ u3_ u4_ u5_ h_
 have HS := hide HS0.out
 clear HS0
 refine wpTill_take 7 rfl (by decide +kernel) (fun c a w h => by first | exact h | (cases h; done)) (by rfl) (v := ?_) ?_ hHeld (fun hHeld' => ?_)
 rotate_left 1
 focus (intro w' hSw; obtain ⟨hC, hF, hG⟩ := hSw; clear hG; clear hF; go_simp; first | done | with_reducible rfl)
 clear hHeld
 rename Till _ _ _ _ _ _ _ => hHeld
 (try simp only [Act.put, List.setIfInBounds_toArray, List.set_cons_zero, List.set_cons_succ])
 refine wpTill_take 8 rfl (by decide +kernel) (fun c a w h => by first | exact h | (cases h; done)) (by rfl) (v := ?_) ?_ hHeld (fun hHeld' => ?_)
 rotate_left 1
 focus (intro w' hSw; obtain ⟨hC, hF, hG⟩ := hSw; clear hG; clear hF; go_simp; first | done | with_reducible rfl)
 clear hHeld
 rename Till _ _ _ _ _ _ _ => hHeld
 (try simp only [Act.put, List.setIfInBounds_toArray, List.set_cons_zero, List.set_cons_succ])
 refine wpTill_take 9 rfl (by decide +kernel) (fun c a w h => by first | exact h | (cases h; done)) (by rfl) (v := ?_) ?_ hHeld (fun hHeld' => ?_)
 rotate_left 1
 focus (intro w' hSw; obtain ⟨hC, hF, hG⟩ := hSw; clear hG; clear hF; go_simp; first | done | with_reducible rfl)
 clear hHeld
 rename Till _ _ _ _ _ _ _ => hHeld
 (try simp only [Act.put, List.setIfInBounds_toArray, List.set_cons_zero, List.set_cons_succ])
 refine wpTill_one 10 rfl (by decide +kernel) (fun K hK => ?_)
 go_simp
 refine hK.out _ _ ⟨trivial, fun h => absurd h (by decide +kernel), fun _ => trivial⟩ (fun hHeld => ?_)
 clear hK K
 (try simp only [Act.put, List.setIfInBounds_toArray, List.set_cons_zero, List.set_cons_succ])
 refine wpTill_take 11 rfl (by decide +kernel) (fun c a w h => by first | exact h | (cases h; done)) (by rfl) (v := ?_) ?_ hHeld (fun hHeld' => ?_)
 rotate_left 1
 focus (intro w' hSw; obtain ⟨hC, hF, hG⟩ := hSw; clear hG; clear hF; go_simp; first | done | with_reducible rfl)
 clear hHeld
 rename Till _ _ _ _ _ _ _ => hHeld
 (try simp only [Act.put, List.setIfInBounds_toArray, List.set_cons_zero, List.set_cons_succ])
 refine wpTill_done (by decide +kernel) ?_
 clear hHeld
 try clear hHeld
 obtain ⟨m, c2⟩ := x6
 dsimp only at HR
 have HC2 := hide HR
 clear HR
 obtain ⟨rfl, rfl, hnm⟩ := order_anti hx hy HC1.out HC2.out
 have HNM := hide hnm
 clear hnm
 go_upto_region 5 with fail
 obtain ⟨u0_, u1_, u2_, u3_, u4_, u5_⟩ := (HS.out.2).six
 have h_ : X1 < W103.heap.size := (HS.out.2).lt
 have HGd : Hid (((Below w.heap.size w W103.drew ∧ w.heap.size ≤ W103.drew.heap.size) ∧ Blk W103.drew X1 48 #[.int .i64 xd, .slice xA xt.length xc, .int .i64 yd, .slice yA yt.length yc, .int .i64 zd, .slice zA zt.length zc]) ∧ (Below W103.heap.size W103 W103.drew ∧ W103.heap.size ≤ W103.drew.heap.size)) := hide ⟨Kept.keep (S := fun W => ((Below w.heap.size w W ∧ w.heap.size ≤ W.heap.size) ∧ Blk W X1 48 #[.int .i64 xd, .slice xA xt.length xc, .int .i64 yd, .slice yA yt.length yc, .int .i64 zd, .slice zA zt.length zc])) _ _ HS.out (Below.drew (Below.refl _ _)), Below.drew (Below.refl _ _), Nat.le_refl _⟩
 refine wp_region_flow 10 (fun W' => Below W103.heap.size W103 W') (fun _ _ _ => True) [] (fun W' => ((Below w.heap.size w W' ∧ w.heap.size ≤ W'.heap.size) ∧ Blk W' X1 48 #[.int .i64 xd, .slice xA xt.length xc, .int .i64 yd, .slice yA yt.length yc, .int .i64 zd, .slice zA zt.length zc]) ∧ (Below W103.heap.size W103 W' ∧ W103.heap.size ≤ W'.heap.size)) (by kernel_rfl)
  (Floats.of (by decide +kernel) (fun c a d v w => by cases d <;> exact Iff.rfl) (by intro i hi; cases hi) (fun _ _ _ _ _ _ => trivial))
  (fun _ _ _ h => h) (by decide) HGd.out (fun W h => h.2.1) (fun HFL => ?_)
 refine Safe.take 0 (v := ?_) rfl rfl HFL (by decide +kernel) (fun W h => h.2.1) (by rfl) (fun W hF => ?_) ?_
 rotate_left 1
 focus (clear hF; go_simp; first | done | with_reducible rfl)
 (try simp only [Act.put, List.setIfInBounds_toArray, List.set_cons_zero, List.set_cons_succ])
 refine Safe.take 1 (v := ?_) rfl rfl HFL (by decide +kernel) (fun W h => h.2.1) (by rfl) (fun W hF => ?_) ?_
 rotate_left 1
 focus (have hF := hF (by decide +kernel); have e1 := (hF.cell (p := ⟨X1, 2, none⟩) h_).trans u2_; have e2 := (hF.cell (p := ⟨X1, 3, none⟩) h_).trans u3_; clear hF; go_simp; first | done | with_reducible rfl)
 (try simp only [Act.put, List.setIfInBounds_toArray, List.set_cons_zero, List.set_cons_succ])
 refine Safe.take 3 (v := ?_) rfl rfl HFL (by decide +kernel) (fun W h => h.2.1) (by rfl) (fun W hF => ?_) ?_
 rotate_left 1
 focus (clear hF; go_simp; first | done | with_reducible rfl)
 (try simp only [Act.put, List.setIfInBounds_toArray, List.set_cons_zero, List.set_cons_succ])
 refine Safe.take 4 (v := ?_) rfl rfl HFL (by decide +kernel) (fun W h => h.2.1) (by rfl) (fun W hF => ?_) ?_
 rotate_left 1
 focus (have hF := hF (by decide +kernel); have e1 := (hF.cell (p := ⟨X1, 4, none⟩) h_).trans u4_; have e2 := (hF.cell (p := ⟨X1, 5, none⟩) h_).trans u5_; clear hF; go_simp; first | done | with_reducible rfl)
 (try simp only [Act.put, List.setIfInBounds_toArray, List.set_cons_zero, List.set_cons_succ])
 refine Safe.on 2 (fun x : Sl => .agg #[.int .i64 (yd), .slice x.1 x.2.1 x.2.2]) (fun x W => OwnN 0 x (yt) W) rfl rfl HFL (by decide +kernel) (fun W h => h.2.1) (fun W hG K' hK => ?_) (fun x2 hF2 => ?_)
 focus
  have HC := hide (HOy.out W (hG.1.1.1) (hG.1.1.2))
  clear hG
  go_simp
  go_wp2_with (first
   | (go_at_call 14; refine HC.out.mono ?_; rintro e w6 ⟨A, n, c, rfl, ho, hb⟩
      have HO := hide (own_le ho (Nat.zero_le _)); have HBB := hide hb; clear ho hb))
  exact hK.out (A, n, c) _ HO.out HBB.out
 (try simp only [Act.put, List.setIfInBounds_toArray, List.set_cons_zero, List.set_cons_succ])
 refine Safe.on 5 (fun x : Sl => .agg #[.int .i64 (zd), .slice x.1 x.2.1 x.2.2]) (fun x W => OwnN 0 x (zt) W) rfl rfl HFL (by decide +kernel) hF2 (fun W hG K' hK => ?_) (fun x5 hF5 => ?_)
 focus
  have HC := hide (HOz.out W (hG.1.1.1.1) (hG.1.1.1.2))
  clear hG
  go_simp
  go_wp2_with (first
   | (go_at_call 14; refine HC.out.mono ?_; rintro e w6 ⟨A, n, c, rfl, ho, hb⟩
      have HO := hide (own_le ho (Nat.zero_le _)); have HBB := hide hb; clear ho hb))
  exact hK.out (A, n, c) _ HO.out HBB.out
 (try simp only [Act.put, List.setIfInBounds_toArray, List.set_cons_zero, List.set_cons_succ])
 refine Safe.on 6 (fun x : Int × Int => .tuple #[.int .i64 x.1, .int .i64 x.2]) (fun x W => (fun p cp => CmpRes yd yt zd zt p cp) x.1 x.2) rfl rfl HFL (by decide +kernel) hF5 (fun W hG K' hK => ?_) (fun x6 hF6 => ?_)
 focus
  have HC := hide (compare_flat (yd) x2.1 x2.2.1 x2.2.2 (yt) (zd) x5.1 x5.2.1 x5.2.2 (zt)  W.heap.size W (terms_own (hG.1.2)) (terms_own (hG.2)) (Nat.le_refl _) )
  clear hG
  go_simp
  go_wp2_with (first
   | (go_at_call 25; refine HC.out.mono ?_; rintro e w6 ⟨q1, q2, rfl, hr, hb⟩
      have HQ := hide hr; clear hr
      have HBB := hide hb; clear hb))
  exact hK.out (q1, q2) _ HQ.out HBB.out
 (try simp only [Act.put, List.setIfInBounds_toArray, List.set_cons_zero, List.set_cons_succ])
 refine Safe.fin rfl hF6 (fun W104 hG hHeld => ?_)
 have HS0 := hide (hG.1.1.1.1)
 have HR := hide hG.2
 clear hG HGd HFL hF2 hF5 hF6 HS  u0_ u1_ u2_ u3_ u4_ u5_ h_
 have HS := hide HS0.out
 clear HS0
 refine wpTill_take 7 rfl (by decide +kernel) (fun c a w h => by first | exact h | (cases h; done)) (by rfl) (v := ?_) ?_ hHeld (fun hHeld' => ?_)
 rotate_left 1
 focus (intro w' hSw; obtain ⟨hC, hF, hG⟩ := hSw; clear hG; clear hF; go_simp; first | done | with_reducible rfl)
 clear hHeld
 rename Till _ _ _ _ _ _ _ => hHeld
 (try simp only [Act.put, List.setIfInBounds_toArray, List.set_cons_zero, List.set_cons_succ])
 refine wpTill_take 8 rfl (by decide +kernel) (fun c a w h => by first | exact h | (cases h; done)) (by rfl) (v := ?_) ?_ hHeld (fun hHeld' => ?_)
 rotate_left 1
 focus (intro w' hSw; obtain ⟨hC, hF, hG⟩ := hSw; clear hG; clear hF; go_simp; first | done | with_reducible rfl)
 clear hHeld
 rename Till _ _ _ _ _ _ _ => hHeld
 (try simp only [Act.put, List.setIfInBounds_toArray, List.set_cons_zero, List.set_cons_succ])
 refine wpTill_take 9 rfl (by decide +kernel) (fun c a w h => by first | exact h | (cases h; done)) (by rfl) (v := ?_) ?_ hHeld (fun hHeld' => ?_)
 rotate_left 1
 focus (intro w' hSw; obtain ⟨hC, hF, hG⟩ := hSw; clear hG; clear hF; go_simp; first | done | with_reducible rfl)
 clear hHeld
 rename Till _ _ _ _ _ _ _ => hHeld
 (try simp only [Act.put, List.setIfInBounds_toArray, List.set_cons_zero, List.set_cons_succ])
 refine wpTill_one 10 rfl (by decide +kernel) (fun K hK => ?_)
 go_simp
 refine hK.out _ _ ⟨trivial, fun h => absurd h (by decide +kernel), fun _ => trivial⟩ (fun hHeld => ?_)
 clear hK K
 (try simp only [Act.put, List.setIfInBounds_toArray, List.set_cons_zero, List.set_cons_succ])
 refine wpTill_take 11 rfl (by decide +kernel) (fun c a w h => by first | exact h | (cases h; done)) (by rfl) (v := ?_) ?_ hHeld (fun hHeld' => ?_)
 rotate_left 1
 focus (intro w' hSw; obtain ⟨hC, hF, hG⟩ := hSw; clear hG; clear hF; go_simp; first | done | with_reducible rfl)
 clear hHeld
 rename Till _ _ _ _ _ _ _ => hHeld
 (try simp only [Act.put, List.setIfInBounds_toArray, List.set_cons_zero, List.set_cons_succ])
 refine wpTill_done (by decide +kernel) ?_
 clear hHeld
 try clear hHeld
 obtain ⟨k, c3⟩ := x6
 dsimp only at HR
 have HC3 := hide HR
 clear HR
 obtain ⟨rfl, -⟩ := cmp_ok hy hz HC3.out
 go_upto_region 6 with fail
 obtain ⟨u0_, u1_, u2_, u3_, u4_, u5_⟩ := (HS.out.2).six
 have h_ : X1 < W104.heap.size := (HS.out.2).lt
 have HGd : Hid (((Below w.heap.size w W104.drew ∧ w.heap.size ≤ W104.drew.heap.size) ∧ Blk W104.drew X1 48 #[.int .i64 xd, .slice xA xt.length xc, .int .i64 yd, .slice yA yt.length yc, .int .i64 zd, .slice zA zt.length zc]) ∧ (Below W104.heap.size W104 W104.drew ∧ W104.heap.size ≤ W104.drew.heap.size)) := hide ⟨Kept.keep (S := fun W => ((Below w.heap.size w W ∧ w.heap.size ≤ W.heap.size) ∧ Blk W X1 48 #[.int .i64 xd, .slice xA xt.length xc, .int .i64 yd, .slice yA yt.length yc, .int .i64 zd, .slice zA zt.length zc])) _ _ HS.out (Below.drew (Below.refl _ _)), Below.drew (Below.refl _ _), Nat.le_refl _⟩
 refine wp_region_flow 10 (fun W' => Below W104.heap.size W104 W') (fun _ _ _ => True) [] (fun W' => ((Below w.heap.size w W' ∧ w.heap.size ≤ W'.heap.size) ∧ Blk W' X1 48 #[.int .i64 xd, .slice xA xt.length xc, .int .i64 yd, .slice yA yt.length yc, .int .i64 zd, .slice zA zt.length zc]) ∧ (Below W104.heap.size W104 W' ∧ W104.heap.size ≤ W'.heap.size)) (by kernel_rfl)
  (Floats.of (by decide +kernel) (fun c a d v w => by cases d <;> exact Iff.rfl) (by intro i hi; cases hi) (fun _ _ _ _ _ _ => trivial))
  (fun _ _ _ h => h) (by decide) HGd.out (fun W h => h.2.1) (fun HFL => ?_)
 refine Safe.take 0 (v := ?_) rfl rfl HFL (by decide +kernel) (fun W h => h.2.1) (by rfl) (fun W hF => ?_) ?_
 rotate_left 1
 focus (clear hF; go_simp; first | done | with_reducible rfl)
 (try simp only [Act.put, List.setIfInBounds_toArray, List.set_cons_zero, List.set_cons_succ])
 refine Safe.take 1 (v := ?_) rfl rfl HFL (by decide +kernel) (fun W h => h.2.1) (by rfl) (fun W hF => ?_) ?_
 rotate_left 1
 focus (have hF := hF (by decide +kernel); have e1 := (hF.cell (p := ⟨X1, 0, none⟩) h_).trans u0_; have e2 := (hF.cell (p := ⟨X1, 1, none⟩) h_).trans u1_; clear hF; go_simp; first | done | with_reducible rfl)
 (try simp only [Act.put, List.setIfInBounds_toArray, List.set_cons_zero, List.set_cons_succ])
 refine Safe.take 3 (v := ?_) rfl rfl HFL (by decide +kernel) (fun W h => h.2.1) (by rfl) (fun W hF => ?_) ?_
 rotate_left 1
 focus (clear hF; go_simp; first | done | with_reducible rfl)
 (try simp only [Act.put, List.setIfInBounds_toArray, List.set_cons_zero, List.set_cons_succ])
 refine Safe.take 4 (v := ?_) rfl rfl HFL (by decide +kernel) (fun W h => h.2.1) (by rfl) (fun W hF => ?_) ?_
 rotate_left 1
 focus (have hF := hF (by decide +kernel); have e1 := (hF.cell (p := ⟨X1, 4, none⟩) h_).trans u4_; have e2 := (hF.cell (p := ⟨X1, 5, none⟩) h_).trans u5_; clear hF; go_simp; first | done | with_reducible rfl)
 (try simp only [Act.put, List.setIfInBounds_toArray, List.set_cons_zero, List.set_cons_succ])
 refine Safe.on 2 (fun x : Sl => .agg #[.int .i64 (xd), .slice x.1 x.2.1 x.2.2]) (fun x W => OwnN 0 x (xt) W) rfl rfl HFL (by decide +kernel) (fun W h => h.2.1) (fun W hG K' hK => ?_) (fun x2 hF2 => ?_)
 focus
  have HC := hide (HOx.out W (hG.1.1.1) (hG.1.1.2))
  clear hG
  go_simp
  go_wp2_with (first
   | (go_at_call 14; refine HC.out.mono ?_; rintro e w6 ⟨A, n, c, rfl, ho, hb⟩
      have HO := hide (own_le ho (Nat.zero_le _)); have HBB := hide hb; clear ho hb))
  exact hK.out (A, n, c) _ HO.out HBB.out
 (try simp only [Act.put, List.setIfInBounds_toArray, List.set_cons_zero, List.set_cons_succ])
 refine Safe.on 5 (fun x : Sl => .agg #[.int .i64 (zd), .slice x.1 x.2.1 x.2.2]) (fun x W => OwnN 0 x (zt) W) rfl rfl HFL (by decide +kernel) hF2 (fun W hG K' hK => ?_) (fun x5 hF5 => ?_)
 focus
  have HC := hide (HOz.out W (hG.1.1.1.1) (hG.1.1.1.2))
  clear hG
  go_simp
  go_wp2_with (first
   | (go_at_call 14; refine HC.out.mono ?_; rintro e w6 ⟨A, n, c, rfl, ho, hb⟩
      have HO := hide (own_le ho (Nat.zero_le _)); have HBB := hide hb; clear ho hb))
  exact hK.out (A, n, c) _ HO.out HBB.out
 (try simp only [Act.put, List.setIfInBounds_toArray, List.set_cons_zero, List.set_cons_succ])
 refine Safe.on 6 (fun x : Int × Int => .tuple #[.int .i64 x.1, .int .i64 x.2]) (fun x W => (fun p cp => CmpRes xd xt zd zt p cp) x.1 x.2) rfl rfl HFL (by decide +kernel) hF5 (fun W hG K' hK => ?_) (fun x6 hF6 => ?_)
 focus
  have HC := hide (compare_flat (xd) x2.1 x2.2.1 x2.2.2 (xt) (zd) x5.1 x5.2.1 x5.2.2 (zt)  W.heap.size W (terms_own (hG.1.2)) (terms_own (hG.2)) (Nat.le_refl _) )
  clear hG
  go_simp
  go_wp2_with (first
   | (go_at_call 25; refine HC.out.mono ?_; rintro e w6 ⟨q1, q2, rfl, hr, hb⟩
      have HQ := hide hr; clear hr
      have HBB := hide hb; clear hb))
  exact hK.out (q1, q2) _ HQ.out HBB.out
 (try simp only [Act.put, List.setIfInBounds_toArray, List.set_cons_zero, List.set_cons_succ])
 refine Safe.fin rfl hF6 (fun W105 hG hHeld => ?_)
 have HS0 := hide (hG.1.1.1.1)
 have HR := hide hG.2
 clear hG HGd HFL hF2 hF5 hF6 HS  u0_ u1_ u2_ u3_ u4_ u5_ h_
 have HS := hide HS0.out
 clear HS0
 refine wpTill_take 7 rfl (by decide +kernel) (fun c a w h => by first | exact h | (cases h; done)) (by rfl) (v := ?_) ?_ hHeld (fun hHeld' => ?_)
 rotate_left 1
 focus (intro w' hSw; obtain ⟨hC, hF, hG⟩ := hSw; clear hG; clear hF; go_simp; first | done | with_reducible rfl)
 clear hHeld
 rename Till _ _ _ _ _ _ _ => hHeld
 (try simp only [Act.put, List.setIfInBounds_toArray, List.set_cons_zero, List.set_cons_succ])
 refine wpTill_take 8 rfl (by decide +kernel) (fun c a w h => by first | exact h | (cases h; done)) (by rfl) (v := ?_) ?_ hHeld (fun hHeld' => ?_)
 rotate_left 1
 focus (intro w' hSw; obtain ⟨hC, hF, hG⟩ := hSw; clear hG; clear hF; go_simp; first | done | with_reducible rfl)
 clear hHeld
 rename Till _ _ _ _ _ _ _ => hHeld
 (try simp only [Act.put, List.setIfInBounds_toArray, List.set_cons_zero, List.set_cons_succ])
 refine wpTill_take 9 rfl (by decide +kernel) (fun c a w h => by first | exact h | (cases h; done)) (by rfl) (v := ?_) ?_ hHeld (fun hHeld' => ?_)
 rotate_left 1
 focus (intro w' hSw; obtain ⟨hC, hF, hG⟩ := hSw; clear hG; clear hF; go_simp; first | done | with_reducible rfl)
 clear hHeld
 rename Till _ _ _ _ _ _ _ => hHeld
 (try simp only [Act.put, List.setIfInBounds_toArray, List.set_cons_zero, List.set_cons_succ])
 refine wpTill_one 10 rfl (by decide +kernel) (fun K hK => ?_)
 go_simp
 refine hK.out _ _ ⟨trivial, fun h => absurd h (by decide +kernel), fun _ => trivial⟩ (fun hHeld => ?_)
 clear hK K
 (try simp only [Act.put, List.setIfInBounds_toArray, List.set_cons_zero, List.set_cons_succ])
 refine wpTill_take 11 rfl (by decide +kernel) (fun c a w h => by first | exact h | (cases h; done)) (by rfl) (v := ?_) ?_ hHeld (fun hHeld' => ?_)
 rotate_left 1
 focus (intro w' hSw; obtain ⟨hC, hF, hG⟩ := hSw; clear hG; clear hF; go_simp; first | done | with_reducible rfl)
 clear hHeld
 rename Till _ _ _ _ _ _ _ => hHeld
 (try simp only [Act.put, List.setIfInBounds_toArray, List.set_cons_zero, List.set_cons_succ])
 refine wpTill_done (by decide +kernel) ?_
 clear hHeld
 try clear hHeld
 obtain ⟨j, c4⟩ := x6
 dsimp only at HR
 have HC4 := hide HR
 clear HR
 obtain ⟨rfl, -⟩ := cmp_ok hx hz HC4.out
 go_upto_region 7 with fail
 rename (∀ (a : Act) (w : World), Code.wp _ _ _ a w → (_ : Act → World → Prop) a w) => hK0
 have HK0 := And.intro trivial hK0
 clear hK0
 rename (∀ (a : Act) (w : World), Code.wp _ _ _ a w → (_ : Act → World → Prop) a w) => hK1
 refine join_at [64, 65, 66, 67, 68, 69, 70, 71, 72, 73, 74, 75, 76, 77, 78, 79, 80, 81, 82, 83, 84, 85, 86, 87, 88, 89, 90, 91, 92, 93, 94, 95, 96, 97, 98, 99, 100, 101, 102, 103, 104, 105, 106, 107, 108, 109, 110, 111] (fun W => ((Below w.heap.size w W ∧ w.heap.size ≤ W.heap.size) ∧ Blk W X1 48 #[.int .i64 xd, .slice xA xt.length xc, .int .i64 yd, .slice yA yt.length yc, .int .i64 zd, .slice zA zt.length zc])) hK1 (fun v W hR => ?_) (fun HJ => ?_)
 rotate_left 1
 focus
  have hK0 := HK0.2
  clear HK0 hK1
  obtain ⟨u0, u1, u2, u3, u4, u5⟩ := (HS.out.2).six
  obtain ⟨hnm, hrg, hz0⟩ := HNM.out
  have hwm : IntKind.i64.wrap (-m) = n := by rw [IntKind.wrap_i64]; omega
  have hn1 : ¬ n < -1 := by omega
  have hn2 : ¬ 1 < n := by omega
  have hsame : (decide (xd = yd) && decide (xt = yt)) = (n == 0) := by
   rw [Bool.eq_iff_iff]
   simp only [Bool.and_eq_true, decide_eq_true_eq, beq_iff_eq]
   exact hz0.symm
  have hsc := lawSame1_any xd xA xt.length xc xt yd yA yt.length yc yt w.heap.size W105 (HPx.out _ HS.out.1.1) (HPy.out _ HS.out.1.1) HS.out.1.2
  rw [hsame] at hsc
  have HSM := hide hsc
  clear hsc hsame hnm hrg hz0
  by_cases hk : n = k
  ·have hj := order_trans hx hy hz HC1.out HC3.out HC4.out hk
   clear HC1 HC2 HC3 HC4 HNM
   subst hk hj
   go_wp2_with (first
    | (go_at_call 18; refine (HSM.out).mono ?_; rintro e w106 ⟨rfl, hb⟩
       have HS_0 := hide (Kept.keep (S := fun W => ((Below w.heap.size w W ∧ w.heap.size ≤ W.heap.size) ∧ Blk W X1 48 #[.int .i64 xd, .slice xA xt.length xc, .int .i64 yd, .slice yA yt.length yc, .int .i64 zd, .slice zA zt.length zc])) _ _ HS.out hb)
       clear hb))
   all_goals
    exact HJ.out _ _ HS_0.out (by kernel_rfl)
  ·have hkb : (n == k) = false := by simpa using hk
   clear HC1 HC2 HC3 HC4 HNM hk
   go_wp2_with (first
    | (go_at_call 18; refine (HSM.out).mono ?_; rintro e w106 ⟨rfl, hb⟩
       have HS_0 := hide (Kept.keep (S := fun W => ((Below w.heap.size w W ∧ w.heap.size ≤ W.heap.size) ∧ Blk W X1 48 #[.int .i64 xd, .slice xA xt.length xc, .int .i64 yd, .slice yA yt.length yc, .int .i64 zd, .slice zA zt.length zc])) _ _ HS.out hb)
       clear hb))
   all_goals
    exact HJ.out _ _ HS_0.out (by kernel_rfl)
 have HS1 := hide hR
 clear HK0 hK1 hR HS HC2 HC3 HC4
 have HS := hide HS1.out
 clear HS1
 simp only [List.foldl_cons, List.foldl_nil, Act.put, List.setIfInBounds_toArray, List.set_cons_zero, List.set_cons_succ]
 generalize W = W106 at *
 have hrg := HNM.out.2.1
 have HNR := hide hrg
 clear hrg HNM
 go_upto_region 9 with fail
 obtain ⟨a1, t1, ca, hq⟩ : ∃ a b d, plusS xd xt zd zt 1 = (a, b, d) := ⟨_, _, _, rfl⟩
 have HQ1 := hide hq
 clear hq
 obtain ⟨b1, s1, cb, hq⟩ : ∃ a b d, plusS yd yt zd zt 1 = (a, b, d) := ⟨_, _, _, rfl⟩
 have HQ2 := hide hq
 clear hq
 obtain ⟨u0_, u1_, u2_, u3_, u4_, u5_⟩ := (HS.out.2).six
 have h_ : X1 < W106.heap.size := (HS.out.2).lt
 have HGd : Hid (((Below w.heap.size w W106.drew ∧ w.heap.size ≤ W106.drew.heap.size) ∧ Blk W106.drew X1 48 #[.int .i64 xd, .slice xA xt.length xc, .int .i64 yd, .slice yA yt.length yc, .int .i64 zd, .slice zA zt.length zc]) ∧ (Below W106.heap.size W106 W106.drew ∧ W106.heap.size ≤ W106.drew.heap.size)) := hide ⟨Kept.keep (S := fun W => ((Below w.heap.size w W ∧ w.heap.size ≤ W.heap.size) ∧ Blk W X1 48 #[.int .i64 xd, .slice xA xt.length xc, .int .i64 yd, .slice yA yt.length yc, .int .i64 zd, .slice zA zt.length zc])) _ _ HS.out (Below.drew (Below.refl _ _)), Below.drew (Below.refl _ _), Nat.le_refl _⟩
 refine wp_region_flow 11 (fun W' => Below W106.heap.size W106 W') (fun _ v W' => MadeN W106.heap.size v W') [10] (fun W' => ((Below w.heap.size w W' ∧ w.heap.size ≤ W'.heap.size) ∧ Blk W' X1 48 #[.int .i64 xd, .slice xA xt.length xc, .int .i64 yd, .slice yA yt.length yc, .int .i64 zd, .slice zA zt.length zc]) ∧ (Below W106.heap.size W106 W' ∧ W106.heap.size ≤ W'.heap.size)) (by kernel_rfl)
  (Floats.of (by decide +kernel) (fun c a d v w => by cases d <;> exact Iff.rfl) (by
   intro i hi a W' hF
   obtain rfl : i = 10 := by simpa using hi
   refine wpOp_step rfl (fun K' hK0 => ?_)
   have hK := hide hK0
   clear hK0
   go_simp
   exact hK.out _ _ ⟨_, rfl, ⟨_, rfl, hF.size, Blk.new _ _ _⟩, (Below.refl _ _).alloc (Nat.le_refl _) _⟩) (fun i v W W' ⟨X, h1, h2, h3⟩ hb => ⟨X, h1, h2, h3.below hb h3.lt⟩))
  (fun _ _ _ h => h) (by decide) HGd.out (fun W h => h.2.1) (fun HFL => ?_)
 refine Safe.take 0 (v := ?_) rfl rfl HFL (by decide +kernel) (fun W h => h.2.1) (by rfl) (fun W hF => ?_) ?_
 rotate_left 1
 focus (clear hF; go_simp; first | done | with_reducible rfl)
 (try simp only [Act.put, List.setIfInBounds_toArray, List.set_cons_zero, List.set_cons_succ])
 refine Safe.take 1 (v := ?_) rfl rfl HFL (by decide +kernel) (fun W h => h.2.1) (by rfl) (fun W hF => ?_) ?_
 rotate_left 1
 focus (have hF := hF (by decide +kernel); have e1 := (hF.cell (p := ⟨X1, 0, none⟩) h_).trans u0_; have e2 := (hF.cell (p := ⟨X1, 1, none⟩) h_).trans u1_; clear hF; go_simp; first | done | with_reducible rfl)
 (try simp only [Act.put, List.setIfInBounds_toArray, List.set_cons_zero, List.set_cons_succ])
 refine Safe.take 3 (v := ?_) rfl rfl HFL (by decide +kernel) (fun W h => h.2.1) (by rfl) (fun W hF => ?_) ?_
 rotate_left 1
 focus (clear hF; go_simp; first | done | with_reducible rfl)
 (try simp only [Act.put, List.setIfInBounds_toArray, List.set_cons_zero, List.set_cons_succ])
 refine Safe.take 4 (v := ?_) rfl rfl HFL (by decide +kernel) (fun W h => h.2.1) (by rfl) (fun W hF => ?_) ?_
 rotate_left 1
 focus (have hF := hF (by decide +kernel); have e1 := (hF.cell (p := ⟨X1, 4, none⟩) h_).trans u4_; have e2 := (hF.cell (p := ⟨X1, 5, none⟩) h_).trans u5_; clear hF; go_simp; first | done | with_reducible rfl)
 (try simp only [Act.put, List.setIfInBounds_toArray, List.set_cons_zero, List.set_cons_succ])
 refine Safe.on 2 (fun x : Sl => .agg #[.int .i64 (xd), .slice x.1 x.2.1 x.2.2]) (fun x W => OwnN 0 x (xt) W) rfl rfl HFL (by decide +kernel) (fun W h => h.2.1) (fun W hG K' hK => ?_) (fun x2 hF2 => ?_)
 focus
  have HC := hide (HOx.out W (hG.1.1.1) (hG.1.1.2))
  clear hG
  go_simp
  go_wp2_with (first
   | (go_at_call 14; refine HC.out.mono ?_; rintro e w6 ⟨A, n, c, rfl, ho, hb⟩
      have HO := hide (own_le ho (Nat.zero_le _)); have HBB := hide hb; clear ho hb))
  exact hK.out (A, n, c) _ HO.out HBB.out
 (try simp only [Act.put, List.setIfInBounds_toArray, List.set_cons_zero, List.set_cons_succ])
 refine Safe.on 5 (fun x : Sl => .agg #[.int .i64 (zd), .slice x.1 x.2.1 x.2.2]) (fun x W => OwnN 0 x (zt) W) rfl rfl HFL (by decide +kernel) hF2 (fun W hG K' hK => ?_) (fun x5 hF5 => ?_)
 focus
  have HC := hide (HOz.out W (hG.1.1.1.1) (hG.1.1.1.2))
  clear hG
  go_simp
  go_wp2_with (first
   | (go_at_call 14; refine HC.out.mono ?_; rintro e w6 ⟨A, n, c, rfl, ho, hb⟩
      have HO := hide (own_le ho (Nat.zero_le _)); have HBB := hide hb; clear ho hb))
  exact hK.out (A, n, c) _ HO.out HBB.out
 (try simp only [Act.put, List.setIfInBounds_toArray, List.set_cons_zero, List.set_cons_succ])
 refine Safe.on 6 (fun x : Sl => .tuple #[.agg #[.int .i64 (a1), .slice x.1 x.2.1 x.2.2], .int .i64 (ca)]) (fun x W => OwnN 0 x (t1) W) rfl rfl HFL (by decide +kernel) hF5 (fun W hG K' hK => ?_) (fun x6 hF6 => ?_)
 focus
  have HC := hide (add_flat (xd) x2.1 x2.2.1 x2.2.2 (xt) (zd) x5.1 x5.2.1 x5.2.2 (zt)  W.heap.size W (terms_own (hG.1.2)) (terms_own (hG.2)) (Nat.le_refl _) )
  rw [HQ1.out] at HC
  clear hG
  go_simp
  go_wp2_with (first
   | (go_at_call 26; refine HC.out.mono ?_; rintro e w6 ⟨A, n, c, rfl, ho, hb⟩
      have HO := hide (own_le ho (Nat.zero_le _)); clear ho
      have HBB := hide hb; clear hb))
  exact hK.out (A, n, c) _ HO.out HBB.out
 (try simp only [Act.put, List.setIfInBounds_toArray, List.set_cons_zero, List.set_cons_succ])
 refine Safe.take 7 (v := ?_) rfl rfl HFL (by decide +kernel) hF6 (by rfl) (fun W hF => ?_) ?_
 rotate_left 1
 focus (clear hF; go_simp; first | done | with_reducible rfl)
 (try simp only [Act.put, List.setIfInBounds_toArray, List.set_cons_zero, List.set_cons_succ])
 refine Safe.take 8 (v := ?_) rfl rfl HFL (by decide +kernel) hF6 (by rfl) (fun W hF => ?_) ?_
 rotate_left 1
 focus (clear hF; go_simp; first | done | with_reducible rfl)
 (try simp only [Act.put, List.setIfInBounds_toArray, List.set_cons_zero, List.set_cons_succ])
 refine Safe.take 9 (v := ?_) rfl rfl HFL (by decide +kernel) hF6 (by rfl) (fun W hF => ?_) ?_
 rotate_left 1
 focus (clear hF; go_simp; first | done | with_reducible rfl)
 (try simp only [Act.put, List.setIfInBounds_toArray, List.set_cons_zero, List.set_cons_succ])
 refine Safe.force (some 11) HFL (by decide +kernel) rfl hF6 (fun vf => ?_)
 (try simp only [Act.put, List.setIfInBounds_toArray, List.set_cons_zero, List.set_cons_succ])
 refine Safe.fin rfl (fun W h => hF6 W h.1) (fun W107 hG hHeld => ?_)
 obtain ⟨hG, X11, rfl, hX, hN⟩ := hG
 have HS1 := hide (Vr.made (S := fun W => ((Below w.heap.size w W ∧ w.heap.size ≤ W.heap.size) ∧ Blk W X1 48 #[.int .i64 xd, .slice xA xt.length xc, .int .i64 yd, .slice yA yt.length yc, .int .i64 zd, .slice zA zt.length zc])) (d := a1) HS.out hG.1.1.1.2.1 hX hN hG.2)
 obtain ⟨q0, q1, qf0, qf1⟩ := hN.two
 clear hG HFL hF2 hF5 hF6 hX hN HGd HS  u0_ u1_ u2_ u3_ u4_ u5_ h_
 refine wpTill_one 11 rfl (by decide +kernel) (fun K hK => ?_)
 go_simp
 refine hK.out _ _ ⟨trivial, fun h => absurd h (by decide +kernel), fun _ => trivial⟩ (fun hHeld => ?_)
 clear hK K
 (try simp only [Act.put, List.setIfInBounds_toArray, List.set_cons_zero, List.set_cons_succ])
 refine wpTill_take 12 rfl (by decide +kernel) (fun c a w h => by first | exact h | (cases h; done)) (by rfl) (v := ?_) ?_ hHeld (fun hHeld' => ?_)
 rotate_left 1
 focus (intro w' hSw; obtain ⟨hC, hF, hG⟩ := hSw; clear hG; clear hF; go_simp; first | done | with_reducible rfl)
 clear hHeld
 rename Till _ _ _ _ _ _ _ => hHeld
 (try simp only [Act.put, List.setIfInBounds_toArray, List.set_cons_zero, List.set_cons_succ])
 refine wpTill_done (by decide +kernel) ?_
 clear hHeld
 clear q0 q1 qf0 qf1
 generalize (W107.setCell ⟨X11, 0, none⟩ (.int .i64 (a1))).setCell ⟨X11, 1, none⟩ (.slice x6.1 x6.2.1 x6.2.2) = W108 at *
 obtain ⟨A11, n11, c11⟩ := x6
 dsimp only at HS1
 have HS := hide HS1.out
 clear HS1
 go_upto_region 10 with fail
 obtain ⟨u0_, u1_, u2_, u3_, u4_, u5_⟩ := (HS.out.1.2).six
 have h_ : X1 < W108.heap.size := (HS.out.1.2).lt
 have HGd : Hid ((((Below w.heap.size w W108.drew ∧ w.heap.size ≤ W108.drew.heap.size) ∧ Blk W108.drew X1 48 #[.int .i64 xd, .slice xA xt.length xc, .int .i64 yd, .slice yA yt.length yc, .int .i64 zd, .slice zA zt.length zc]) ∧ Vr X11 (a1) A11 n11 c11 (t1) W108.drew) ∧ (Below W108.heap.size W108 W108.drew ∧ W108.heap.size ≤ W108.drew.heap.size)) := hide ⟨Kept.keep (S := fun W => (((Below w.heap.size w W ∧ w.heap.size ≤ W.heap.size) ∧ Blk W X1 48 #[.int .i64 xd, .slice xA xt.length xc, .int .i64 yd, .slice yA yt.length yc, .int .i64 zd, .slice zA zt.length zc]) ∧ Vr X11 (a1) A11 n11 c11 (t1) W)) _ _ HS.out (Below.drew (Below.refl _ _)), Below.drew (Below.refl _ _), Nat.le_refl _⟩
 refine wp_region_flow 11 (fun W' => Below W108.heap.size W108 W') (fun _ v W' => MadeN W108.heap.size v W') [10] (fun W' => (((Below w.heap.size w W' ∧ w.heap.size ≤ W'.heap.size) ∧ Blk W' X1 48 #[.int .i64 xd, .slice xA xt.length xc, .int .i64 yd, .slice yA yt.length yc, .int .i64 zd, .slice zA zt.length zc]) ∧ Vr X11 (a1) A11 n11 c11 (t1) W') ∧ (Below W108.heap.size W108 W' ∧ W108.heap.size ≤ W'.heap.size)) (by kernel_rfl)
  (Floats.of (by decide +kernel) (fun c a d v w => by cases d <;> exact Iff.rfl) (by
   intro i hi a W' hF
   obtain rfl : i = 10 := by simpa using hi
   refine wpOp_step rfl (fun K' hK0 => ?_)
   have hK := hide hK0
   clear hK0
   go_simp
   exact hK.out _ _ ⟨_, rfl, ⟨_, rfl, hF.size, Blk.new _ _ _⟩, (Below.refl _ _).alloc (Nat.le_refl _) _⟩) (fun i v W W' ⟨X, h1, h2, h3⟩ hb => ⟨X, h1, h2, h3.below hb h3.lt⟩))
  (fun _ _ _ h => h) (by decide) HGd.out (fun W h => h.2.1) (fun HFL => ?_)
 refine Safe.take 0 (v := ?_) rfl rfl HFL (by decide +kernel) (fun W h => h.2.1) (by rfl) (fun W hF => ?_) ?_
 rotate_left 1
 focus (clear hF; go_simp; first | done | with_reducible rfl)
 (try simp only [Act.put, List.setIfInBounds_toArray, List.set_cons_zero, List.set_cons_succ])
 refine Safe.take 1 (v := ?_) rfl rfl HFL (by decide +kernel) (fun W h => h.2.1) (by rfl) (fun W hF => ?_) ?_
 rotate_left 1
 focus (have hF := hF (by decide +kernel); have e1 := (hF.cell (p := ⟨X1, 2, none⟩) h_).trans u2_; have e2 := (hF.cell (p := ⟨X1, 3, none⟩) h_).trans u3_; clear hF; go_simp; first | done | with_reducible rfl)
 (try simp only [Act.put, List.setIfInBounds_toArray, List.set_cons_zero, List.set_cons_succ])
 refine Safe.take 3 (v := ?_) rfl rfl HFL (by decide +kernel) (fun W h => h.2.1) (by rfl) (fun W hF => ?_) ?_
 rotate_left 1
 focus (clear hF; go_simp; first | done | with_reducible rfl)
 (try simp only [Act.put, List.setIfInBounds_toArray, List.set_cons_zero, List.set_cons_succ])
 refine Safe.take 4 (v := ?_) rfl rfl HFL (by decide +kernel) (fun W h => h.2.1) (by rfl) (fun W hF => ?_) ?_
 rotate_left 1
 focus (have hF := hF (by decide +kernel); have e1 := (hF.cell (p := ⟨X1, 4, none⟩) h_).trans u4_; have e2 := (hF.cell (p := ⟨X1, 5, none⟩) h_).trans u5_; clear hF; go_simp; first | done | with_reducible rfl)
 (try simp only [Act.put, List.setIfInBounds_toArray, List.set_cons_zero, List.set_cons_succ])
 refine Safe.on 2 (fun x : Sl => .agg #[.int .i64 (yd), .slice x.1 x.2.1 x.2.2]) (fun x W => OwnN 0 x (yt) W) rfl rfl HFL (by decide +kernel) (fun W h => h.2.1) (fun W hG K' hK => ?_) (fun x2 hF2 => ?_)
 focus
  have HC := hide (HOy.out W (hG.1.1.1.1) (hG.1.1.1.2))
  clear hG
  go_simp
  go_wp2_with (first
   | (go_at_call 14; refine HC.out.mono ?_; rintro e w6 ⟨A, n, c, rfl, ho, hb⟩
      have HO := hide (own_le ho (Nat.zero_le _)); have HBB := hide hb; clear ho hb))
  exact hK.out (A, n, c) _ HO.out HBB.out
 (try simp only [Act.put, List.setIfInBounds_toArray, List.set_cons_zero, List.set_cons_succ])
 refine Safe.on 5 (fun x : Sl => .agg #[.int .i64 (zd), .slice x.1 x.2.1 x.2.2]) (fun x W => OwnN 0 x (zt) W) rfl rfl HFL (by decide +kernel) hF2 (fun W hG K' hK => ?_) (fun x5 hF5 => ?_)
 focus
  have HC := hide (HOz.out W (hG.1.1.1.1.1) (hG.1.1.1.1.2))
  clear hG
  go_simp
  go_wp2_with (first
   | (go_at_call 14; refine HC.out.mono ?_; rintro e w6 ⟨A, n, c, rfl, ho, hb⟩
      have HO := hide (own_le ho (Nat.zero_le _)); have HBB := hide hb; clear ho hb))
  exact hK.out (A, n, c) _ HO.out HBB.out
 (try simp only [Act.put, List.setIfInBounds_toArray, List.set_cons_zero, List.set_cons_succ])
 refine Safe.on 6 (fun x : Sl => .tuple #[.agg #[.int .i64 (b1), .slice x.1 x.2.1 x.2.2], .int .i64 (cb)]) (fun x W => OwnN 0 x (s1) W) rfl rfl HFL (by decide +kernel) hF5 (fun W hG K' hK => ?_) (fun x6 hF6 => ?_)
 focus
  have HC := hide (add_flat (yd) x2.1 x2.2.1 x2.2.2 (yt) (zd) x5.1 x5.2.1 x5.2.2 (zt)  W.heap.size W (terms_own (hG.1.2)) (terms_own (hG.2)) (Nat.le_refl _) )
  rw [HQ2.out] at HC
  clear hG
  go_simp
  go_wp2_with (first
   | (go_at_call 26; refine HC.out.mono ?_; rintro e w6 ⟨A, n, c, rfl, ho, hb⟩
      have HO := hide (own_le ho (Nat.zero_le _)); clear ho
      have HBB := hide hb; clear hb))
  exact hK.out (A, n, c) _ HO.out HBB.out
 (try simp only [Act.put, List.setIfInBounds_toArray, List.set_cons_zero, List.set_cons_succ])
 refine Safe.take 7 (v := ?_) rfl rfl HFL (by decide +kernel) hF6 (by rfl) (fun W hF => ?_) ?_
 rotate_left 1
 focus (clear hF; go_simp; first | done | with_reducible rfl)
 (try simp only [Act.put, List.setIfInBounds_toArray, List.set_cons_zero, List.set_cons_succ])
 refine Safe.take 8 (v := ?_) rfl rfl HFL (by decide +kernel) hF6 (by rfl) (fun W hF => ?_) ?_
 rotate_left 1
 focus (clear hF; go_simp; first | done | with_reducible rfl)
 (try simp only [Act.put, List.setIfInBounds_toArray, List.set_cons_zero, List.set_cons_succ])
 refine Safe.take 9 (v := ?_) rfl rfl HFL (by decide +kernel) hF6 (by rfl) (fun W hF => ?_) ?_
 rotate_left 1
 focus (clear hF; go_simp; first | done | with_reducible rfl)
 (try simp only [Act.put, List.setIfInBounds_toArray, List.set_cons_zero, List.set_cons_succ])
 refine Safe.force (some 12) HFL (by decide +kernel) rfl hF6 (fun vf => ?_)
 (try simp only [Act.put, List.setIfInBounds_toArray, List.set_cons_zero, List.set_cons_succ])
 refine Safe.fin rfl (fun W h => hF6 W h.1) (fun W109 hG hHeld => ?_)
 obtain ⟨hG, X12, rfl, hX, hN⟩ := hG
 have HS1 := hide (Vr.made (S := fun W => (((Below w.heap.size w W ∧ w.heap.size ≤ W.heap.size) ∧ Blk W X1 48 #[.int .i64 xd, .slice xA xt.length xc, .int .i64 yd, .slice yA yt.length yc, .int .i64 zd, .slice zA zt.length zc]) ∧ Vr X11 (a1) A11 n11 c11 (t1) W)) (d := b1) HS.out hG.1.1.1.2.1 hX hN hG.2)
 obtain ⟨q0, q1, qf0, qf1⟩ := hN.two
 clear hG HFL hF2 hF5 hF6 hX hN HGd HS  u0_ u1_ u2_ u3_ u4_ u5_ h_
 refine wpTill_one 11 rfl (by decide +kernel) (fun K hK => ?_)
 go_simp
 refine hK.out _ _ ⟨trivial, fun h => absurd h (by decide +kernel), fun _ => trivial⟩ (fun hHeld => ?_)
 clear hK K
 (try simp only [Act.put, List.setIfInBounds_toArray, List.set_cons_zero, List.set_cons_succ])
 refine wpTill_take 12 rfl (by decide +kernel) (fun c a w h => by first | exact h | (cases h; done)) (by rfl) (v := ?_) ?_ hHeld (fun hHeld' => ?_)
 rotate_left 1
 focus (intro w' hSw; obtain ⟨hC, hF, hG⟩ := hSw; clear hG; clear hF; go_simp; first | done | with_reducible rfl)
 clear hHeld
 rename Till _ _ _ _ _ _ _ => hHeld
 (try simp only [Act.put, List.setIfInBounds_toArray, List.set_cons_zero, List.set_cons_succ])
 refine wpTill_done (by decide +kernel) ?_
 clear hHeld
 clear q0 q1 qf0 qf1
 generalize (W109.setCell ⟨X12, 0, none⟩ (.int .i64 (b1))).setCell ⟨X12, 1, none⟩ (.slice x6.1 x6.2.1 x6.2.2) = W110 at *
 obtain ⟨A12, n12, c12⟩ := x6
 dsimp only at HS1
 have HS := hide HS1.out
 clear HS1
 go_upto_region 11 with fail
 rename (∀ (a : Act) (w : World), Code.wp _ _ _ a w → (_ : Act → World → Prop) a w) => hK0
 have HK0 := And.intro trivial hK0
 clear hK0
 rename (∀ (a : Act) (w : World), Code.wp _ _ _ a w → (_ : Act → World → Prop) a w) => hK1
 refine join_at [132, 133, 134, 135, 136, 137, 138, 139, 140, 141, 142, 143, 144, 145, 146, 147, 148, 149, 150, 13, 14] (fun W => ((((Below w.heap.size w W ∧ w.heap.size ≤ W.heap.size) ∧ Blk W X1 48 #[.int .i64 xd, .slice xA xt.length xc, .int .i64 yd, .slice yA yt.length yc, .int .i64 zd, .slice zA zt.length zc]) ∧ Vr X11 (a1) A11 n11 c11 (t1) W) ∧ Vr X12 (b1) A12 n12 c12 (s1) W)) hK1 (fun v W hR => ?_) (fun HJ => ?_)
 rotate_left 1
 focus
  have hK0 := HK0.2
  clear HK0 hK1
  by_cases hca : ca = 0
  rotate_left 1
  ·have hca2 : (ca == 0) = false := by simpa using hca
   clear hca
   go_wp2
   exact HJ.out _ _ HS.out (by kernel_rfl)
  subst hca
  by_cases hcb : cb = 0
  rotate_left 1
  ·have hcb2 : (cb == 0) = false := by simpa using hcb
   clear hcb
   go_wp2
   exact HJ.out _ _ HS.out (by kernel_rfl)
  subst hcb
  obtain ⟨u11, v11, _, _⟩ := (HS.out.1.2.1).two
  obtain ⟨u12, v12, _, _⟩ := (HS.out.2.1).two
  go_wp2_with (first
   | (go_at_call 25; refine (compare_flat a1 A11 n11 c11 t1 b1 A12 n12 c12 s1 W110.heap.size W110 (terms_own (HS.out.1.2.2)) (terms_own (HS.out.2.2)) (Nat.le_refl _)).mono ?_; rintro e w111 ⟨i, ci, rfl, hr, hb⟩
      have HS_0 := hide (Kept.keep (S := fun W => ((((Below w.heap.size w W ∧ w.heap.size ≤ W.heap.size) ∧ Blk W X1 48 #[.int .i64 xd, .slice xA xt.length xc, .int .i64 yd, .slice yA yt.length yc, .int .i64 zd, .slice zA zt.length zc]) ∧ Vr X11 (a1) A11 n11 c11 (t1) W) ∧ Vr X12 (b1) A12 n12 c12 (s1) W)) _ _ HS.out hb)
      obtain ⟨rfl, rfl⟩ := order_add hx hy hz HC1.out HQ1.out HQ2.out hr
      clear hr
      clear hb))
  all_goals
   exact HJ.out _ _ HS_0.out (by kernel_rfl)
 have HS1 := hide hR
 clear HK0 hK1 hR HS HQ1 HQ2
 have HS := hide HS1.out
 clear HS1
 simp only [List.foldl_cons, List.foldl_nil, Act.put, List.setIfInBounds_toArray, List.set_cons_zero, List.set_cons_succ]
 generalize W = W111 at *
 go_upto_region 15 with fail
 obtain ⟨u0, u1, u2, u3, u4, u5⟩ := (HS.out.1.1.2).six
 go_upto_region 16 with (first
  | (go_at_call 14; refine (HOz.out W111 HS.out.1.1.1.1 HS.out.1.1.1.2).mono ?_; rintro e w112 ⟨A9, n9, c9, rfl, ho, hb⟩
     have HS_0 := hide (Kept.keep (S := fun W => ((((Below w.heap.size w W ∧ w.heap.size ≤ W.heap.size) ∧ Blk W X1 48 #[.int .i64 xd, .slice xA xt.length xc, .int .i64 yd, .slice yA yt.length yc, .int .i64 zd, .slice zA zt.length zc]) ∧ Vr X11 (a1) A11 n11 c11 (t1) W) ∧ Vr X12 (b1) A12 n12 c12 (s1) W)) _ _ HS.out hb)
     have HC := hide (sign_flat zd A9 n9 c9 zt w112.heap.size w112 (Rd.of_own ho) (Nat.le_refl _))
     clear ho
     clear hb)
  | (go_at_call 29; refine (HC.out).mono ?_; rintro e w113 ⟨sg, cs, rfl, hr, hb⟩
     have HS_1 := hide (Kept.keep (S := fun W => ((((Below w.heap.size w W ∧ w.heap.size ≤ W.heap.size) ∧ Blk W X1 48 #[.int .i64 xd, .slice xA xt.length xc, .int .i64 yd, .slice yA yt.length yc, .int .i64 zd, .slice zA zt.length zc]) ∧ Vr X11 (a1) A11 n11 c11 (t1) W) ∧ Vr X12 (b1) A12 n12 c12 (s1) W)) _ _ HS_0.out hb)
     have HSG := hide hr
     obtain ⟨rfl, -⟩ := sign_ok_ hz hr
     clear hr HC
     clear hb))
 clear u0 u1 u2 u3 u4 u5
 have HS0 := hide HS_1.out
 clear HS
 have HS := hide HS0.out
 clear HS0
 clear HS_0
 obtain ⟨a2, t2, cc, hq⟩ : ∃ a b d, mulS xd xt zd zt = (a, b, d) := ⟨_, _, _, rfl⟩
 have HQ1 := hide hq
 clear hq
 obtain ⟨b2, s2, cd, hq⟩ : ∃ a b d, mulS yd yt zd zt = (a, b, d) := ⟨_, _, _, rfl⟩
 have HQ2 := hide hq
 clear hq
 obtain ⟨u0_, u1_, u2_, u3_, u4_, u5_⟩ := (HS.out.1.1.2).six
 have h_ : X1 < w113.heap.size := (HS.out.1.1.2).lt
 have HGd : Hid (((((Below w.heap.size w w113.drew ∧ w.heap.size ≤ w113.drew.heap.size) ∧ Blk w113.drew X1 48 #[.int .i64 xd, .slice xA xt.length xc, .int .i64 yd, .slice yA yt.length yc, .int .i64 zd, .slice zA zt.length zc]) ∧ Vr X11 (a1) A11 n11 c11 (t1) w113.drew) ∧ Vr X12 (b1) A12 n12 c12 (s1) w113.drew) ∧ (Below w113.heap.size w113 w113.drew ∧ w113.heap.size ≤ w113.drew.heap.size)) := hide ⟨Kept.keep (S := fun W => ((((Below w.heap.size w W ∧ w.heap.size ≤ W.heap.size) ∧ Blk W X1 48 #[.int .i64 xd, .slice xA xt.length xc, .int .i64 yd, .slice yA yt.length yc, .int .i64 zd, .slice zA zt.length zc]) ∧ Vr X11 (a1) A11 n11 c11 (t1) W) ∧ Vr X12 (b1) A12 n12 c12 (s1) W)) _ _ HS.out (Below.drew (Below.refl _ _)), Below.drew (Below.refl _ _), Nat.le_refl _⟩
 refine wp_region_flow 11 (fun W' => Below w113.heap.size w113 W') (fun _ v W' => MadeN w113.heap.size v W') [10] (fun W' => ((((Below w.heap.size w W' ∧ w.heap.size ≤ W'.heap.size) ∧ Blk W' X1 48 #[.int .i64 xd, .slice xA xt.length xc, .int .i64 yd, .slice yA yt.length yc, .int .i64 zd, .slice zA zt.length zc]) ∧ Vr X11 (a1) A11 n11 c11 (t1) W') ∧ Vr X12 (b1) A12 n12 c12 (s1) W') ∧ (Below w113.heap.size w113 W' ∧ w113.heap.size ≤ W'.heap.size)) (by kernel_rfl)
  (Floats.of (by decide +kernel) (fun c a d v w => by cases d <;> exact Iff.rfl) (by
   intro i hi a W' hF
   obtain rfl : i = 10 := by simpa using hi
   refine wpOp_step rfl (fun K' hK0 => ?_)
   have hK := hide hK0
   clear hK0
   go_simp
   exact hK.out _ _ ⟨_, rfl, ⟨_, rfl, hF.size, Blk.new _ _ _⟩, (Below.refl _ _).alloc (Nat.le_refl _) _⟩) (fun i v W W' ⟨X, h1, h2, h3⟩ hb => ⟨X, h1, h2, h3.below hb h3.lt⟩))
  (fun _ _ _ h => h) (by decide) HGd.out (fun W h => h.2.1) (fun HFL => ?_)
 refine Safe.take 0 (v := ?_) rfl rfl HFL (by decide +kernel) (fun W h => h.2.1) (by rfl) (fun W hF => ?_) ?_
 rotate_left 1
 focus (clear hF; go_simp; first | done | with_reducible rfl)
 (try simp only [Act.put, List.setIfInBounds_toArray, List.set_cons_zero, List.set_cons_succ])
 refine Safe.take 1 (v := ?_) rfl rfl HFL (by decide +kernel) (fun W h => h.2.1) (by rfl) (fun W hF => ?_) ?_
 rotate_left 1
 focus (have hF := hF (by decide +kernel); have e1 := (hF.cell (p := ⟨X1, 0, none⟩) h_).trans u0_; have e2 := (hF.cell (p := ⟨X1, 1, none⟩) h_).trans u1_; clear hF; go_simp; first | done | with_reducible rfl)
 (try simp only [Act.put, List.setIfInBounds_toArray, List.set_cons_zero, List.set_cons_succ])
 refine Safe.take 3 (v := ?_) rfl rfl HFL (by decide +kernel) (fun W h => h.2.1) (by rfl) (fun W hF => ?_) ?_
 rotate_left 1
 focus (clear hF; go_simp; first | done | with_reducible rfl)
 (try simp only [Act.put, List.setIfInBounds_toArray, List.set_cons_zero, List.set_cons_succ])
 refine Safe.take 4 (v := ?_) rfl rfl HFL (by decide +kernel) (fun W h => h.2.1) (by rfl) (fun W hF => ?_) ?_
 rotate_left 1
 focus (have hF := hF (by decide +kernel); have e1 := (hF.cell (p := ⟨X1, 4, none⟩) h_).trans u4_; have e2 := (hF.cell (p := ⟨X1, 5, none⟩) h_).trans u5_; clear hF; go_simp; first | done | with_reducible rfl)
 (try simp only [Act.put, List.setIfInBounds_toArray, List.set_cons_zero, List.set_cons_succ])
 refine Safe.on 2 (fun x : Sl => .agg #[.int .i64 (xd), .slice x.1 x.2.1 x.2.2]) (fun x W => OwnN 0 x (xt) W) rfl rfl HFL (by decide +kernel) (fun W h => h.2.1) (fun W hG K' hK => ?_) (fun x2 hF2 => ?_)
 focus
  have HC := hide (HOx.out W (hG.1.1.1.1.1) (hG.1.1.1.1.2))
  clear hG
  go_simp
  go_wp2_with (first
   | (go_at_call 14; refine HC.out.mono ?_; rintro e w6 ⟨A, n, c, rfl, ho, hb⟩
      have HO := hide (own_le ho (Nat.zero_le _)); have HBB := hide hb; clear ho hb))
  exact hK.out (A, n, c) _ HO.out HBB.out
 (try simp only [Act.put, List.setIfInBounds_toArray, List.set_cons_zero, List.set_cons_succ])
 refine Safe.on 5 (fun x : Sl => .agg #[.int .i64 (zd), .slice x.1 x.2.1 x.2.2]) (fun x W => OwnN 0 x (zt) W) rfl rfl HFL (by decide +kernel) hF2 (fun W hG K' hK => ?_) (fun x5 hF5 => ?_)
 focus
  have HC := hide (HOz.out W (hG.1.1.1.1.1.1) (hG.1.1.1.1.1.2))
  clear hG
  go_simp
  go_wp2_with (first
   | (go_at_call 14; refine HC.out.mono ?_; rintro e w6 ⟨A, n, c, rfl, ho, hb⟩
      have HO := hide (own_le ho (Nat.zero_le _)); have HBB := hide hb; clear ho hb))
  exact hK.out (A, n, c) _ HO.out HBB.out
 (try simp only [Act.put, List.setIfInBounds_toArray, List.set_cons_zero, List.set_cons_succ])
 refine Safe.on 6 (fun x : Sl => .tuple #[.agg #[.int .i64 (a2), .slice x.1 x.2.1 x.2.2], .int .i64 (cc)]) (fun x W => OwnN 0 x (t2) W) rfl rfl HFL (by decide +kernel) hF5 (fun W hG K' hK => ?_) (fun x6 hF6 => ?_)
 focus
  have HC := hide (mul_flat (xd) x2.1 x2.2.1 x2.2.2 (xt) (zd) x5.1 x5.2.1 x5.2.2 (zt)  W.heap.size W (terms_own (hG.1.2)) (terms_own (hG.2)) (Nat.le_refl _) )
  rw [HQ1.out] at HC
  clear hG
  go_simp
  go_wp2_with (first
   | (go_at_call 19; refine HC.out.mono ?_; rintro e w6 ⟨A, n, c, rfl, ho, hb⟩
      have HO := hide (own_le ho (Nat.zero_le _)); clear ho
      have HBB := hide hb; clear hb))
  exact hK.out (A, n, c) _ HO.out HBB.out
 (try simp only [Act.put, List.setIfInBounds_toArray, List.set_cons_zero, List.set_cons_succ])
 refine Safe.take 7 (v := ?_) rfl rfl HFL (by decide +kernel) hF6 (by rfl) (fun W hF => ?_) ?_
 rotate_left 1
 focus (clear hF; go_simp; first | done | with_reducible rfl)
 (try simp only [Act.put, List.setIfInBounds_toArray, List.set_cons_zero, List.set_cons_succ])
 refine Safe.take 8 (v := ?_) rfl rfl HFL (by decide +kernel) hF6 (by rfl) (fun W hF => ?_) ?_
 rotate_left 1
 focus (clear hF; go_simp; first | done | with_reducible rfl)
 (try simp only [Act.put, List.setIfInBounds_toArray, List.set_cons_zero, List.set_cons_succ])
 refine Safe.take 9 (v := ?_) rfl rfl HFL (by decide +kernel) hF6 (by rfl) (fun W hF => ?_) ?_
 rotate_left 1
 focus (clear hF; go_simp; first | done | with_reducible rfl)
 (try simp only [Act.put, List.setIfInBounds_toArray, List.set_cons_zero, List.set_cons_succ])
 refine Safe.force (some 16) HFL (by decide +kernel) rfl hF6 (fun vf => ?_)
 (try simp only [Act.put, List.setIfInBounds_toArray, List.set_cons_zero, List.set_cons_succ])
 refine Safe.fin rfl (fun W h => hF6 W h.1) (fun W114 hG hHeld => ?_)
 obtain ⟨hG, X16, rfl, hX, hN⟩ := hG
 have HS1 := hide (Vr.made (S := fun W => ((((Below w.heap.size w W ∧ w.heap.size ≤ W.heap.size) ∧ Blk W X1 48 #[.int .i64 xd, .slice xA xt.length xc, .int .i64 yd, .slice yA yt.length yc, .int .i64 zd, .slice zA zt.length zc]) ∧ Vr X11 (a1) A11 n11 c11 (t1) W) ∧ Vr X12 (b1) A12 n12 c12 (s1) W)) (d := a2) HS.out hG.1.1.1.2.1 hX hN hG.2)
 obtain ⟨q0, q1, qf0, qf1⟩ := hN.two
 clear hG HFL hF2 hF5 hF6 hX hN HGd HS  u0_ u1_ u2_ u3_ u4_ u5_ h_
 refine wpTill_one 11 rfl (by decide +kernel) (fun K hK => ?_)
 go_simp
 refine hK.out _ _ ⟨trivial, fun h => absurd h (by decide +kernel), fun _ => trivial⟩ (fun hHeld => ?_)
 clear hK K
 (try simp only [Act.put, List.setIfInBounds_toArray, List.set_cons_zero, List.set_cons_succ])
 refine wpTill_take 12 rfl (by decide +kernel) (fun c a w h => by first | exact h | (cases h; done)) (by rfl) (v := ?_) ?_ hHeld (fun hHeld' => ?_)
 rotate_left 1
 focus (intro w' hSw; obtain ⟨hC, hF, hG⟩ := hSw; clear hG; clear hF; go_simp; first | done | with_reducible rfl)
 clear hHeld
 rename Till _ _ _ _ _ _ _ => hHeld
 (try simp only [Act.put, List.setIfInBounds_toArray, List.set_cons_zero, List.set_cons_succ])
 refine wpTill_done (by decide +kernel) ?_
 clear hHeld
 clear q0 q1 qf0 qf1
 generalize (W114.setCell ⟨X16, 0, none⟩ (.int .i64 (a2))).setCell ⟨X16, 1, none⟩ (.slice x6.1 x6.2.1 x6.2.2) = W115 at *
 obtain ⟨A16, n16, c16⟩ := x6
 dsimp only at HS1
 have HS := hide HS1.out
 clear HS1
 go_upto_region 17 with fail
 obtain ⟨u0_, u1_, u2_, u3_, u4_, u5_⟩ := (HS.out.1.1.1.2).six
 have h_ : X1 < W115.heap.size := (HS.out.1.1.1.2).lt
 have HGd : Hid ((((((Below w.heap.size w W115.drew ∧ w.heap.size ≤ W115.drew.heap.size) ∧ Blk W115.drew X1 48 #[.int .i64 xd, .slice xA xt.length xc, .int .i64 yd, .slice yA yt.length yc, .int .i64 zd, .slice zA zt.length zc]) ∧ Vr X11 (a1) A11 n11 c11 (t1) W115.drew) ∧ Vr X12 (b1) A12 n12 c12 (s1) W115.drew) ∧ Vr X16 (a2) A16 n16 c16 (t2) W115.drew) ∧ (Below W115.heap.size W115 W115.drew ∧ W115.heap.size ≤ W115.drew.heap.size)) := hide ⟨Kept.keep (S := fun W => (((((Below w.heap.size w W ∧ w.heap.size ≤ W.heap.size) ∧ Blk W X1 48 #[.int .i64 xd, .slice xA xt.length xc, .int .i64 yd, .slice yA yt.length yc, .int .i64 zd, .slice zA zt.length zc]) ∧ Vr X11 (a1) A11 n11 c11 (t1) W) ∧ Vr X12 (b1) A12 n12 c12 (s1) W) ∧ Vr X16 (a2) A16 n16 c16 (t2) W)) _ _ HS.out (Below.drew (Below.refl _ _)), Below.drew (Below.refl _ _), Nat.le_refl _⟩
 refine wp_region_flow 11 (fun W' => Below W115.heap.size W115 W') (fun _ v W' => MadeN W115.heap.size v W') [10] (fun W' => (((((Below w.heap.size w W' ∧ w.heap.size ≤ W'.heap.size) ∧ Blk W' X1 48 #[.int .i64 xd, .slice xA xt.length xc, .int .i64 yd, .slice yA yt.length yc, .int .i64 zd, .slice zA zt.length zc]) ∧ Vr X11 (a1) A11 n11 c11 (t1) W') ∧ Vr X12 (b1) A12 n12 c12 (s1) W') ∧ Vr X16 (a2) A16 n16 c16 (t2) W') ∧ (Below W115.heap.size W115 W' ∧ W115.heap.size ≤ W'.heap.size)) (by kernel_rfl)
  (Floats.of (by decide +kernel) (fun c a d v w => by cases d <;> exact Iff.rfl) (by
   intro i hi a W' hF
   obtain rfl : i = 10 := by simpa using hi
   refine wpOp_step rfl (fun K' hK0 => ?_)
   have hK := hide hK0
   clear hK0
   go_simp
   exact hK.out _ _ ⟨_, rfl, ⟨_, rfl, hF.size, Blk.new _ _ _⟩, (Below.refl _ _).alloc (Nat.le_refl _) _⟩) (fun i v W W' ⟨X, h1, h2, h3⟩ hb => ⟨X, h1, h2, h3.below hb h3.lt⟩))
  (fun _ _ _ h => h) (by decide) HGd.out (fun W h => h.2.1) (fun HFL => ?_)
 refine Safe.take 0 (v := ?_) rfl rfl HFL (by decide +kernel) (fun W h => h.2.1) (by rfl) (fun W hF => ?_) ?_
 rotate_left 1
 focus (clear hF; go_simp; first | done | with_reducible rfl)
 (try simp only [Act.put, List.setIfInBounds_toArray, List.set_cons_zero, List.set_cons_succ])
 refine Safe.take 1 (v := ?_) rfl rfl HFL (by decide +kernel) (fun W h => h.2.1) (by rfl) (fun W hF => ?_) ?_
 rotate_left 1
 focus (have hF := hF (by decide +kernel); have e1 := (hF.cell (p := ⟨X1, 2, none⟩) h_).trans u2_; have e2 := (hF.cell (p := ⟨X1, 3, none⟩) h_).trans u3_; clear hF; go_simp; first | done | with_reducible rfl)
 (try simp only [Act.put, List.setIfInBounds_toArray, List.set_cons_zero, List.set_cons_succ])
 refine Safe.take 3 (v := ?_) rfl rfl HFL (by decide +kernel) (fun W h => h.2.1) (by rfl) (fun W hF => ?_) ?_
 rotate_left 1
 focus (clear hF; go_simp; first | done | with_reducible rfl)
 (try simp only [Act.put, List.setIfInBounds_toArray, List.set_cons_zero, List.set_cons_succ])
 refine Safe.take 4 (v := ?_) rfl rfl HFL (by decide +kernel) (fun W h => h.2.1) (by rfl) (fun W hF => ?_) ?_
 rotate_left 1
 focus (have hF := hF (by decide +kernel); have e1 := (hF.cell (p := ⟨X1, 4, none⟩) h_).trans u4_; have e2 := (hF.cell (p := ⟨X1, 5, none⟩) h_).trans u5_; clear hF; go_simp; first | done | with_reducible rfl)
 (try simp only [Act.put, List.setIfInBounds_toArray, List.set_cons_zero, List.set_cons_succ])
 refine Safe.on 2 (fun x : Sl => .agg #[.int .i64 (yd), .slice x.1 x.2.1 x.2.2]) (fun x W => OwnN 0 x (yt) W) rfl rfl HFL (by decide +kernel) (fun W h => h.2.1) (fun W hG K' hK => ?_) (fun x2 hF2 => ?_)
 focus
  have HC := hide (HOy.out W (hG.1.1.1.1.1.1) (hG.1.1.1.1.1.2))
  clear hG
  go_simp
  go_wp2_with (first
   | (go_at_call 14; refine HC.out.mono ?_; rintro e w6 ⟨A, n, c, rfl, ho, hb⟩
      have HO := hide (own_le ho (Nat.zero_le _)); have HBB := hide hb; clear ho hb))
  exact hK.out (A, n, c) _ HO.out HBB.out
 (try simp only [Act.put, List.setIfInBounds_toArray, List.set_cons_zero, List.set_cons_succ])
 refine Safe.on 5 (fun x : Sl => .agg #[.int .i64 (zd), .slice x.1 x.2.1 x.2.2]) (fun x W => OwnN 0 x (zt) W) rfl rfl HFL (by decide +kernel) hF2 (fun W hG K' hK => ?_) (fun x5 hF5 => ?_)
 focus
  have HC := hide (HOz.out W (hG.1.1.1.1.1.1.1) (hG.1.1.1.1.1.1.2))
  clear hG
  go_simp
  go_wp2_with (first
   | (go_at_call 14; refine HC.out.mono ?_; rintro e w6 ⟨A, n, c, rfl, ho, hb⟩
      have HO := hide (own_le ho (Nat.zero_le _)); have HBB := hide hb; clear ho hb))
  exact hK.out (A, n, c) _ HO.out HBB.out
 (try simp only [Act.put, List.setIfInBounds_toArray, List.set_cons_zero, List.set_cons_succ])
 refine Safe.on 6 (fun x : Sl => .tuple #[.agg #[.int .i64 (b2), .slice x.1 x.2.1 x.2.2], .int .i64 (cd)]) (fun x W => OwnN 0 x (s2) W) rfl rfl HFL (by decide +kernel) hF5 (fun W hG K' hK => ?_) (fun x6 hF6 => ?_)
 focus
  have HC := hide (mul_flat (yd) x2.1 x2.2.1 x2.2.2 (yt) (zd) x5.1 x5.2.1 x5.2.2 (zt)  W.heap.size W (terms_own (hG.1.2)) (terms_own (hG.2)) (Nat.le_refl _) )
  rw [HQ2.out] at HC
  clear hG
  go_simp
  go_wp2_with (first
   | (go_at_call 19; refine HC.out.mono ?_; rintro e w6 ⟨A, n, c, rfl, ho, hb⟩
      have HO := hide (own_le ho (Nat.zero_le _)); clear ho
      have HBB := hide hb; clear hb))
  exact hK.out (A, n, c) _ HO.out HBB.out
 (try simp only [Act.put, List.setIfInBounds_toArray, List.set_cons_zero, List.set_cons_succ])
 refine Safe.take 7 (v := ?_) rfl rfl HFL (by decide +kernel) hF6 (by rfl) (fun W hF => ?_) ?_
 rotate_left 1
 focus (clear hF; go_simp; first | done | with_reducible rfl)
 (try simp only [Act.put, List.setIfInBounds_toArray, List.set_cons_zero, List.set_cons_succ])
 refine Safe.take 8 (v := ?_) rfl rfl HFL (by decide +kernel) hF6 (by rfl) (fun W hF => ?_) ?_
 rotate_left 1
 focus (clear hF; go_simp; first | done | with_reducible rfl)
 (try simp only [Act.put, List.setIfInBounds_toArray, List.set_cons_zero, List.set_cons_succ])
 refine Safe.take 9 (v := ?_) rfl rfl HFL (by decide +kernel) hF6 (by rfl) (fun W hF => ?_) ?_
 rotate_left 1
 focus (clear hF; go_simp; first | done | with_reducible rfl)
 (try simp only [Act.put, List.setIfInBounds_toArray, List.set_cons_zero, List.set_cons_succ])
 refine Safe.force (some 17) HFL (by decide +kernel) rfl hF6 (fun vf => ?_)
 (try simp only [Act.put, List.setIfInBounds_toArray, List.set_cons_zero, List.set_cons_succ])
 refine Safe.fin rfl (fun W h => hF6 W h.1) (fun W116 hG hHeld => ?_)
 obtain ⟨hG, X17, rfl, hX, hN⟩ := hG
 have HS1 := hide (Vr.made (S := fun W => (((((Below w.heap.size w W ∧ w.heap.size ≤ W.heap.size) ∧ Blk W X1 48 #[.int .i64 xd, .slice xA xt.length xc, .int .i64 yd, .slice yA yt.length yc, .int .i64 zd, .slice zA zt.length zc]) ∧ Vr X11 (a1) A11 n11 c11 (t1) W) ∧ Vr X12 (b1) A12 n12 c12 (s1) W) ∧ Vr X16 (a2) A16 n16 c16 (t2) W)) (d := b2) HS.out hG.1.1.1.2.1 hX hN hG.2)
 obtain ⟨q0, q1, qf0, qf1⟩ := hN.two
 clear hG HFL hF2 hF5 hF6 hX hN HGd HS  u0_ u1_ u2_ u3_ u4_ u5_ h_
 refine wpTill_one 11 rfl (by decide +kernel) (fun K hK => ?_)
 go_simp
 refine hK.out _ _ ⟨trivial, fun h => absurd h (by decide +kernel), fun _ => trivial⟩ (fun hHeld => ?_)
 clear hK K
 (try simp only [Act.put, List.setIfInBounds_toArray, List.set_cons_zero, List.set_cons_succ])
 refine wpTill_take 12 rfl (by decide +kernel) (fun c a w h => by first | exact h | (cases h; done)) (by rfl) (v := ?_) ?_ hHeld (fun hHeld' => ?_)
 rotate_left 1
 focus (intro w' hSw; obtain ⟨hC, hF, hG⟩ := hSw; clear hG; clear hF; go_simp; first | done | with_reducible rfl)
 clear hHeld
 rename Till _ _ _ _ _ _ _ => hHeld
 (try simp only [Act.put, List.setIfInBounds_toArray, List.set_cons_zero, List.set_cons_succ])
 refine wpTill_done (by decide +kernel) ?_
 clear hHeld
 clear q0 q1 qf0 qf1
 generalize (W116.setCell ⟨X17, 0, none⟩ (.int .i64 (b2))).setCell ⟨X17, 1, none⟩ (.slice x6.1 x6.2.1 x6.2.2) = W117 at *
 obtain ⟨A17, n17, c17⟩ := x6
 dsimp only at HS1
 have HS := hide HS1.out
 clear HS1
 go_upto_region 20 with fail
 by_cases hcc : cc = 0
 rotate_left 1
 ·have hcc2 : (cc == 0) = false := by simpa using hcc
  clear hcc
  have HBk := hide HS.out.1.1.1.1.1
  go_wp2_with (first
   | (go_at_call 11; refine (HK.out _ HBk.out.1).mono ?_; rintro e wz ⟨rfl, hbz⟩
      have HBe := hide (HBk.out.1.trans (hbz.mono HBk.out.2))
      clear hbz))
  all_goals
   go_ret
   exact ⟨rfl, HBe.out⟩
 subst hcc
 by_cases hcd : cd = 0
 rotate_left 1
 ·have hcd2 : (cd == 0) = false := by simpa using hcd
  clear hcd
  have HBk := hide HS.out.1.1.1.1.1
  go_wp2_with (first
   | (go_at_call 11; refine (HK.out _ HBk.out.1).mono ?_; rintro e wz ⟨rfl, hbz⟩
      have HBe := hide (HBk.out.1.trans (hbz.mono HBk.out.2))
      clear hbz))
  all_goals
   go_ret
   exact ⟨rfl, HBe.out⟩
 subst hcd
 obtain ⟨u16, v16, _, _⟩ := (HS.out.1.2.1).two
 obtain ⟨u17, v17, _, _⟩ := (HS.out.2.1).two
 have hsr := (sign_ok_ hz HSG.out).2.sg.range
 have hmb := mul_bd (a := n) (b := sg) (A := 1) (B := 1) (by have := HNR.out; omega) (by omega)
 have hwm : IntKind.i64.wrap (n * sg) = n * sg := by rw [IntKind.wrap_i64]; omega
 clear hsr hmb
 go_upto_region 24 with (first
  | (go_at_call 25; refine (compare_flat a2 A16 n16 c16 t2 b2 A17 n17 c17 s2 W117.heap.size W117 (terms_own (HS.out.1.2.2)) (terms_own (HS.out.2.2)) (Nat.le_refl _)).mono ?_; rintro e w118 ⟨i, ci, rfl, hr, hb⟩
     have HS_0 := hide (Kept.keep (S := fun W => ((((((Below w.heap.size w W ∧ w.heap.size ≤ W.heap.size) ∧ Blk W X1 48 #[.int .i64 xd, .slice xA xt.length xc, .int .i64 yd, .slice yA yt.length yc, .int .i64 zd, .slice zA zt.length zc]) ∧ Vr X11 (a1) A11 n11 c11 (t1) W) ∧ Vr X12 (b1) A12 n12 c12 (s1) W) ∧ Vr X16 (a2) A16 n16 c16 (t2) W) ∧ Vr X17 (b2) A17 n17 c17 (s2) W)) _ _ HS.out hb)
     obtain ⟨rfl, rfl⟩ := order_mul hx hy hz HC1.out HSG.out HQ1.out HQ2.out hr
     clear hr
     clear hb))
 clear u16 v16 u17 v17
 have HS0 := hide HS_0.out
 clear HS
 have HS := hide HS0.out
 clear HS0
 have HBk := hide HS.out.1.1.1.1.1
 go_wp2_with (first
  | (go_at_call 11; refine (HK.out _ HBk.out.1).mono ?_; rintro e wz ⟨rfl, hbz⟩
     have HBe := hide (HBk.out.1.trans (hbz.mono HBk.out.2))
     clear hbz))
 all_goals
  go_ret
  exact ⟨rfl, HBe.out⟩
end Go.Proofs.YtfmnnceacdpbdaaGreatDoor
