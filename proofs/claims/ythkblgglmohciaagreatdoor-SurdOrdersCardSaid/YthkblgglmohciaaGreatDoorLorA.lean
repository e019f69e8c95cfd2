import Derived.Test.YthkblgglmohciaaGreatDoorLesAToBelR
import Derived.Test.YthkblgglmohciaaGreatDoorFloAToFmtA
import Derived.Test.YthkblgglmohciaaGreatDoorVarNToLayN
import Derived.Test.YthkblgglmohciaaGreatDoorLawU
import Derived.Test.YthkblgglmohciaaGreatDoorKnwAToKnwB
set_option linter.unusedVariables false
set_option linter.unusedSimpArgs false
namespace Go.Proofs.YthkblgglmohciaaGreatDoor
open Go Go.RowKit
theorem SignOf.uniq {ts : List (Int × Int)} {s s' : Int} (h : SignOf ts s) (h' : SignOf ts s') : s' = s := h'.unique h
theorem BelowRes.uniq {xd f l l' : Int} {xt : List (Int × Int)} (hx : numOK xd xt = true) (h : BelowRes xd xt f l) (h' : BelowRes xd xt f l') : l' = l := LowOf.unique (IsN.self hx).pos ((IsN.self hx).low h') ((IsN.self hx).low h)
theorem orders_bad {xd yd n ce m cf k g : Int} {xt yt : List (Int × Int)} (hx : numOK xd xt = false) (h1 : SignRes xd xt n ce) (h2 : CmpRes xd xt yd yt m cf) (h3 : FloorRes xd xt k g) : (n = 0 ∧ ce = 2) ∧ (m = 0 ∧ cf = 2) ∧ k = 0 ∧ g = 2 := by
 refine ⟨?_, ?_, ?_⟩
 ·rcases h1 with ⟨h, _⟩ | ⟨_, h⟩
  ·rw [hx] at h; cases h
  ·exact h
 ·rcases h2 with ⟨h, _⟩ | ⟨_, h⟩
  ·rw [hx] at h; cases h
  ·exact h
 ·rcases h3 with ⟨_, h⟩ | ⟨h, _⟩
  ·exact h
  ·rw [hx] at h; cases h
theorem floor_ok {xd k g : Int} {xt : List (Int × Int)} (hx : numOK xd xt = true) (h : FloorRes xd xt k g) : g = 0 ∧ BelowRes xd xt 1 k := by
 rcases h with ⟨h, _⟩ | ⟨_, h⟩
 ·rw [hx] at h; cases h
 ·exact h
theorem cmp_bad {xd yd m cf : Int} {xt yt : List (Int × Int)} (hy : numOK yd yt = false) (h : CmpRes xd xt yd yt m cf) : m = 0 ∧ cf = 2 := by
 rcases h with ⟨h, _⟩ | ⟨_, h⟩
 ·rw [hy] at h; simp at h
 ·exact h
set_option maxHeartbeats 16000000 in
set_option maxRecDepth 100000 in
theorem orders_any (xd : Int) (A : Option Addr) (n c : Nat) (xt : List (Int × Int)) (yd : Int) (A' : Option Addr) (n' c' : Nat) (yt : List (Int × Int)) (w : World) (hx : TermsQ w w.heap.size A n c xt) (hy : TermsQ w w.heap.size A' n' c' yt)
  (hE : ErrVars w) (hM : MaxV w) (htab : Lib.TabIs Tryz.prog w "internal/strconv.uint64pow10" .u64 Lib.pow10Tab) :
  Calls Tryz.prog 7 #[.agg #[.int .i64 xd, .slice A n c], .agg #[.int .i64 yd, .slice A' n' c']] w fun e w' => e = .returned (.bool true) ∧ Below w.heap.size w w' := by
 obtain ⟨gp, hgp⟩ := Option.isSome_iff_exists.1 Tryz.pow10g
 have HK : Hid (∀ W, Below w.heap.size w W → Calls Tryz.prog 9 #[] W fun e w' => e = .returned (.bool true) ∧ Below W.heap.size W w') := hide (fun W hW => known1_any W (hE.below hW (Nat.le_refl _)) (hM.below hW (Nat.le_refl _)) (TabIs_below_ hgp htab hW))
 have hl := hx.len
 subst hl
 have hl := hy.len
 subst hl
 have hmx := Rq.nmax hx
 have hmy := Rq.nmax hy
 have HPX := hide (fun W (hb : Below w.heap.size w W) => Rq.below hx hb)
 have HPY := hide (fun W (hb : Below w.heap.size w W) => Rq.below hy hb)
 have HLX := hide (fun W => long1_any xd A xt.length c W (by omega))
 have HLY := hide (fun W => long1_any yd A' yt.length c' W (by omega))
 clear hx hy hE hM htab hgp
 go_enter Tryz.func7, Tryz.ntmps7
 go_upto_region 1 with fail
 obtain ⟨X2, hX2⟩ : ∃ X, X = w.heap.size := ⟨_, rfl⟩
 obtain ⟨X3, hX3⟩ : ∃ X, X = w.heap.size + 1 := ⟨_, rfl⟩
 have HS : Hid (((Below w.heap.size w ((w.alloc (.cells #[.int .i64 xd, .slice A xt.length c] 24)).alloc (.cells #[.int .i64 yd, .slice A' yt.length c'] 24)) ∧ w.heap.size ≤ ((w.alloc (.cells #[.int .i64 xd, .slice A xt.length c] 24)).alloc (.cells #[.int .i64 yd, .slice A' yt.length c'] 24)).heap.size) ∧ Blk ((w.alloc (.cells #[.int .i64 xd, .slice A xt.length c] 24)).alloc (.cells #[.int .i64 yd, .slice A' yt.length c'] 24)) X2 24 #[.int .i64 xd, .slice A xt.length c]) ∧ Blk ((w.alloc (.cells #[.int .i64 xd, .slice A xt.length c] 24)).alloc (.cells #[.int .i64 yd, .slice A' yt.length c'] 24)) X3 24 #[.int .i64 yd, .slice A' yt.length c']) :=
  hide ⟨⟨⟨((Below.refl _ _).alloc (Nat.le_refl _) _).alloc (by simp) _, by simp; omega⟩, hX2 ▸ (Blk.new w _ _).alloc _⟩, by rw [hX3, ← World.size_alloc]; exact Blk.new _ _ _⟩
 rw [← hX3, ← hX2] at ⊢
 clear hX2 hX3
 generalize (w.alloc (.cells #[.int .i64 xd, .slice A xt.length c] 24)).alloc (.cells #[.int .i64 yd, .slice A' yt.length c'] 24) = W1 at *
 have HLX1 := hide (HLX.out W1)
 obtain ⟨x0, x1, _, _⟩ := HS.out.1.2.two
 obtain ⟨y0, y1, _, _⟩ := HS.out.2.two
 by_cases h8 : 8 < xt.length
 case' pos =>
  rw [decide_eq_true h8] at HLX1
  clear HPX HPY HLX HLY y0 y1 hmx hmy
  go_wp2_with (first
   | (go_at_call 8; refine HLX1.out.mono ?_; rintro e w1 ⟨rfl, hb1⟩
      have HB1 := hide (HS.out.1.1.1.trans (hb1.mono HS.out.1.1.2)); have hz1 := HB1.out.size
      clear hb1)
   | (go_at_call 9; refine (HK.out _ HB1.out).mono ?_; rintro e wz ⟨rfl, hbz⟩
      have HBe := hide (HB1.out.trans (hbz.mono hz1))
      clear hbz))
  all_goals
   go_ret
   exact ⟨rfl, HBe.out⟩
 rw [decide_eq_false h8] at HLX1
 by_cases h9 : 8 < yt.length
 case' pos =>
  have HLY1 := hide (fun W => (decide_eq_true h9 ▸ HLY.out W : Calls Tryz.prog 8 #[.agg #[.int .i64 yd, .slice A' yt.length c']] W fun e w' => e = .returned (.bool true) ∧ Below W.heap.size W w'))
  clear y0 y1
  go_upto_region 2 with (first
   | (go_at_call 8; refine (HLX1.out).mono ?_; rintro e w101 ⟨rfl, hb⟩
      have HS_0 := hide (Kept.keep (S := fun W => (((Below w.heap.size w W ∧ w.heap.size ≤ W.heap.size) ∧ Blk W X2 24 #[.int .i64 xd, .slice A xt.length c]) ∧ Blk W X3 24 #[.int .i64 yd, .slice A' yt.length c'])) _ _ HS.out hb)
      obtain ⟨y0, y1, _, _⟩ := HS_0.out.2.two
      clear hb)
   | (go_at_call 8; refine (HLY1.out w101).mono ?_; rintro e w102 ⟨rfl, hb⟩
      have HS_1 := hide (Kept.keep (S := fun W => (((Below w.heap.size w W ∧ w.heap.size ≤ W.heap.size) ∧ Blk W X2 24 #[.int .i64 xd, .slice A xt.length c]) ∧ Blk W X3 24 #[.int .i64 yd, .slice A' yt.length c'])) _ _ HS_0.out hb)
      clear hb))
  have HS0 := hide HS_1.out
  clear HS
  have HS := hide HS0.out
  clear HS0
  clear HS_0
  have HBk := hide HS.out.1.1
  go_wp2_with (first
   | (go_at_call 9; refine (HK.out _ HBk.out.1).mono ?_; rintro e wz ⟨rfl, hbz⟩
      have HBe := hide (HBk.out.1.trans (hbz.mono HBk.out.2))
      clear hbz))
  all_goals
   go_ret
   exact ⟨rfl, HBe.out⟩
 have HLY1 := hide (fun W => (decide_eq_false h9 ▸ HLY.out W : Calls Tryz.prog 8 #[.agg #[.int .i64 yd, .slice A' yt.length c']] W fun e w' => e = .returned (.bool false) ∧ Below W.heap.size W w'))
 have HOX := hide (fun W (hb : Below w.heap.size w W) (hB : w.heap.size ≤ W.heap.size) => own1_any xd A xt.length c w.heap.size xt W (HPX.out W hb) hB (by omega))
 have HOY := hide (fun W (hb : Below w.heap.size w W) (hB : w.heap.size ≤ W.heap.size) => own1_any yd A' yt.length c' w.heap.size yt W (HPY.out W hb) hB (by omega))
 clear HLX HLY h8 h9 y0 y1
 go_upto_region 3 with (first
  | (go_at_call 8; refine (HLX1.out).mono ?_; rintro e w101 ⟨rfl, hb⟩
     have HS_0 := hide (Kept.keep (S := fun W => (((Below w.heap.size w W ∧ w.heap.size ≤ W.heap.size) ∧ Blk W X2 24 #[.int .i64 xd, .slice A xt.length c]) ∧ Blk W X3 24 #[.int .i64 yd, .slice A' yt.length c'])) _ _ HS.out hb)
     obtain ⟨y0, y1, _, _⟩ := HS_0.out.2.two
     clear hb)
  | (go_at_call 8; refine (HLY1.out w101).mono ?_; rintro e w102 ⟨rfl, hb⟩
     have HS_1 := hide (Kept.keep (S := fun W => (((Below w.heap.size w W ∧ w.heap.size ≤ W.heap.size) ∧ Blk W X2 24 #[.int .i64 xd, .slice A xt.length c]) ∧ Blk W X3 24 #[.int .i64 yd, .slice A' yt.length c'])) _ _ HS_0.out hb)
     clear hb))
 clear x0 x1 HLX1 HLY1
 have HS0 := hide HS_1.out
 clear HS
 have HS := hide HS0.out
 clear HS0
 clear HS_0
 obtain ⟨x0, x1, _, _⟩ := (HS.out.1.2).two
 go_upto_region 4 with (first
  | (go_at_call 11; refine (HOX.out w102 HS.out.1.1.1 HS.out.1.1.2).mono ?_; rintro e w103 ⟨A9, n9, c9, rfl, ho, hb⟩
     have HS_0 := hide (Kept.keep (S := fun W => (((Below w.heap.size w W ∧ w.heap.size ≤ W.heap.size) ∧ Blk W X2 24 #[.int .i64 xd, .slice A xt.length c]) ∧ Blk W X3 24 #[.int .i64 yd, .slice A' yt.length c'])) _ _ HS.out hb)
     have HC := hide (sign_flat xd A9 n9 c9 xt w103.heap.size w103 (Rd.of_own ho) (Nat.le_refl _))
     clear ho
     clear hb)
  | (go_at_call 24; refine (HC.out).mono ?_; rintro e w104 ⟨n, ce, rfl, hr, hb⟩
     have HS_1 := hide (Kept.keep (S := fun W => (((Below w.heap.size w W ∧ w.heap.size ≤ W.heap.size) ∧ Blk W X2 24 #[.int .i64 xd, .slice A xt.length c]) ∧ Blk W X3 24 #[.int .i64 yd, .slice A' yt.length c'])) _ _ HS_0.out hb)
     have HR1 := hide hr
     clear hr
     clear HC
     clear hb))
 clear x0 x1
 have HS0 := hide HS_1.out
 clear HS
 have HS := hide HS0.out
 clear HS0
 try clear HS_0
 obtain ⟨u2, v2, _, _⟩ := (HS.out.1.2).two
 have h2 : X2 < w104.heap.size := (HS.out.1.2).lt
 have HN2 := hide trivial
 obtain ⟨u3, v3, _, _⟩ := (HS.out.2).two
 have h3 : X3 < w104.heap.size := (HS.out.2).lt
 have HN3 := hide trivial
 have HGd : Hid ((((Below w.heap.size w w104.drew ∧ w.heap.size ≤ w104.drew.heap.size) ∧ Blk w104.drew X2 24 #[.int .i64 xd, .slice A xt.length c]) ∧ Blk w104.drew X3 24 #[.int .i64 yd, .slice A' yt.length c']) ∧ (Below w104.heap.size w104 w104.drew ∧ w104.heap.size ≤ w104.drew.heap.size)) := hide ⟨Kept.keep (S := fun W => (((Below w.heap.size w W ∧ w.heap.size ≤ W.heap.size) ∧ Blk W X2 24 #[.int .i64 xd, .slice A xt.length c]) ∧ Blk W X3 24 #[.int .i64 yd, .slice A' yt.length c'])) _ _ HS.out (Below.drew (Below.refl _ _)), Below.drew (Below.refl _ _), Nat.le_refl _⟩
 refine wp_region_flow 8 (fun W' => Below w104.heap.size w104 W') (fun _ _ _ => True) [] (fun W' => (((Below w.heap.size w W' ∧ w.heap.size ≤ W'.heap.size) ∧ Blk W' X2 24 #[.int .i64 xd, .slice A xt.length c]) ∧ Blk W' X3 24 #[.int .i64 yd, .slice A' yt.length c']) ∧ (Below w104.heap.size w104 W' ∧ w104.heap.size ≤ W'.heap.size)) (by kernel_rfl)
  (Floats.of (by decide +kernel) (fun c a d v w => by cases d <;> exact Iff.rfl) (by intro i hi; cases hi) (fun _ _ _ _ _ _ => trivial))
  (fun _ _ _ h => h) (by decide) HGd.out (fun W h => h.2.1) (fun HFL => ?_)
 refine Safe.take 0 (v := ?_) rfl rfl HFL (by decide +kernel) (fun W h => h.2.1) (by rfl) (fun W hF => ?_) ?_
 rotate_left 1
 focus (have hF := hF (by decide +kernel); have e1 := (hF.cell (p := ⟨X2, 0, none⟩) h2).trans u2; have e2 := (hF.cell (p := ⟨X2, 1, none⟩) h2).trans v2; clear hF; go_simp; first | done | with_reducible rfl)
 (try simp only [Act.put, lA, lB, lC])
 refine Safe.take 2 (v := ?_) rfl rfl HFL (by decide +kernel) (fun W h => h.2.1) (by rfl) (fun W hF => ?_) ?_
 rotate_left 1
 focus (have hF := hF (by decide +kernel); have e1 := (hF.cell (p := ⟨X3, 0, none⟩) h3).trans u3; have e2 := (hF.cell (p := ⟨X3, 1, none⟩) h3).trans v3; clear hF; go_simp; first | done | with_reducible rfl)
 (try simp only [Act.put, lA, lB, lC])
 refine Safe.on 1 (fun x : Sl => .agg #[.int .i64 (xd), .slice x.1 x.2.1 x.2.2]) (fun x W => OwnN 0 x (xt) W) rfl rfl HFL (by decide +kernel) (fun W h => h.2.1) (fun W hG K' hK => ?_) (fun x1 hF1 => ?_)
 focus
  have HC := hide (HOX.out W (hG.1.1.1.1) (hG.1.1.1.2))
  clear hG
  go_simp
  go_wp2_with (first
   | (go_at_call 11; refine HC.out.mono ?_; rintro e w6 ⟨A, n, c, rfl, ho, hb⟩
      have HO := hide (own_le ho (Nat.zero_le _)); have HBB := hide hb; clear ho hb))
  exact hK.out (A, n, c) _ HO.out HBB.out
 (try simp only [Act.put, lA, lB, lC])
 refine Safe.on 3 (fun x : Sl => .agg #[.int .i64 (yd), .slice x.1 x.2.1 x.2.2]) (fun x W => OwnN 0 x (yt) W) rfl rfl HFL (by decide +kernel) hF1 (fun W hG K' hK => ?_) (fun x3 hF3 => ?_)
 focus
  have HC := hide (HOY.out W (hG.1.1.1.1.1) (hG.1.1.1.1.2))
  clear hG
  go_simp
  go_wp2_with (first
   | (go_at_call 11; refine HC.out.mono ?_; rintro e w6 ⟨A, n, c, rfl, ho, hb⟩
      have HO := hide (own_le ho (Nat.zero_le _)); have HBB := hide hb; clear ho hb))
  exact hK.out (A, n, c) _ HO.out HBB.out
 (try simp only [Act.put, lA, lB, lC])
 refine Safe.on 4 (fun x : Int × Int => .tuple #[.int .i64 x.1, .int .i64 x.2]) (fun x W => (fun p cp => CmpRes xd xt yd yt p cp) x.1 x.2) rfl rfl HFL (by decide +kernel) hF3 (fun W hG K' hK => ?_) (fun x4 hF4 => ?_)
 focus
  have HC := hide (compare_flat (xd) x1.1 x1.2.1 x1.2.2 (xt) (yd) x3.1 x3.2.1 x3.2.2 (yt)  W.heap.size W (terms_own (hG.1.2)) (terms_own (hG.2)) (Nat.le_refl _) )
  clear hG
  go_simp
  go_wp2_with (first
   | (go_at_call 25; refine HC.out.mono ?_; rintro e w6 ⟨q1, q2, rfl, hr, hb⟩
      have HQ := hide hr; clear hr
      have HBB := hide hb; clear hb))
  exact hK.out (q1, q2) _ HQ.out HBB.out
 (try simp only [Act.put, lA, lB, lC])
 refine Safe.fin rfl hF4 (fun W105 hG hHeld => ?_)
 have HS0 := hide (hG.1.1.1.1)
 have HR := hide hG.2
 clear hG HGd HFL hF1 hF3 hF4 HS u2 v2 h2 HN2 u3 v3 h3 HN3
 have HS := hide HS0.out
 clear HS0
 refine wpTill_take 5 rfl (by decide +kernel) (fun c a w h => by first | exact h | (cases h; done)) (by rfl) (v := ?_) ?_ hHeld (fun hHeld' => ?_)
 rotate_left 1
 focus (intro w' hSw; clear hSw; go_simp; first | done | with_reducible rfl)
 clear hHeld
 rename Till _ _ _ _ _ _ _ => hHeld
 (try simp only [Act.put, lA, lB, lC])
 refine wpTill_take 6 rfl (by decide +kernel) (fun c a w h => by first | exact h | (cases h; done)) (by rfl) (v := ?_) ?_ hHeld (fun hHeld' => ?_)
 rotate_left 1
 focus (intro w' hSw; clear hSw; go_simp; first | done | with_reducible rfl)
 clear hHeld
 rename Till _ _ _ _ _ _ _ => hHeld
 (try simp only [Act.put, lA, lB, lC])
 refine wpTill_take 7 rfl (by decide +kernel) (fun c a w h => by first | exact h | (cases h; done)) (by rfl) (v := ?_) ?_ hHeld (fun hHeld' => ?_)
 rotate_left 1
 focus (intro w' hSw; clear hSw; go_simp; first | done | with_reducible rfl)
 clear hHeld
 rename Till _ _ _ _ _ _ _ => hHeld
 (try simp only [Act.put, lA, lB, lC])
 refine wpTill_one 8 rfl (by decide +kernel) (fun K hK => ?_)
 go_simp
 refine hK.out _ _ ⟨trivial, fun h => absurd h (by decide +kernel), fun _ => trivial⟩ (fun hHeld => ?_)
 clear hK K
 (try simp only [Act.put, lA, lB, lC])
 refine wpTill_take 9 rfl (by decide +kernel) (fun c a w h => by first | exact h | (cases h; done)) (by rfl) (v := ?_) ?_ hHeld (fun hHeld' => ?_)
 rotate_left 1
 focus (intro w' hSw; clear hSw; go_simp; first | done | with_reducible rfl)
 clear hHeld
 rename Till _ _ _ _ _ _ _ => hHeld
 (try simp only [Act.put, lA, lB, lC])
 refine wpTill_done (by decide +kernel) ?_
 clear hHeld
 try clear hHeld
 obtain ⟨m, cf⟩ := x4
 dsimp only at HR
 have HR2 := hide HR
 clear HR
 go_upto_region 5 with fail
 obtain ⟨x0, x1, _, _⟩ := (HS.out.1.2).two
 go_upto_region 6 with (first
  | (go_at_call 11; refine (HOX.out W105 HS.out.1.1.1 HS.out.1.1.2).mono ?_; rintro e w106 ⟨A9, n9, c9, rfl, ho, hb⟩
     have HS_0 := hide (Kept.keep (S := fun W => (((Below w.heap.size w W ∧ w.heap.size ≤ W.heap.size) ∧ Blk W X2 24 #[.int .i64 xd, .slice A xt.length c]) ∧ Blk W X3 24 #[.int .i64 yd, .slice A' yt.length c'])) _ _ HS.out hb)
     have HC := hide (floor_flat xd A9 n9 c9 xt w106.heap.size w106 (Rd.of_own ho) (Nat.le_refl _))
     clear ho
     clear hb)
  | (go_at_call 26; refine (HC.out).mono ?_; rintro e w107 ⟨k, g, rfl, hr, hb⟩
     have HS_1 := hide (Kept.keep (S := fun W => (((Below w.heap.size w W ∧ w.heap.size ≤ W.heap.size) ∧ Blk W X2 24 #[.int .i64 xd, .slice A xt.length c]) ∧ Blk W X3 24 #[.int .i64 yd, .slice A' yt.length c'])) _ _ HS_0.out hb)
     have HR3 := hide hr
     clear hr
     clear HC
     clear hb))
 clear x0 x1
 have HS0 := hide HS_1.out
 clear HS
 have HS := hide HS0.out
 clear HS0
 try clear HS_0
 have HNM := hide (refNumber_any xd A xt.length c w.heap.size xt w107 (HPX.out _ HS.out.1.1.1) HS.out.1.1.2)
 obtain ⟨x0, x1, _, _⟩ := (HS.out.1.2).two
 cases hn : numOK xd xt
 ·rw [hn] at HNM
  obtain ⟨⟨rfl, rfl⟩, ⟨rfl, rfl⟩, rfl, rfl⟩ := orders_bad hn HR1.out HR2.out HR3.out
  clear HR1 HR2 HR3 hn
  go_wp2_with (first
   | (go_at_call 9; refine (HK.out _ HS_0.out.1.1.1).mono ?_; rintro e wz ⟨rfl, hbz⟩
      have HBe := hide (HS_0.out.1.1.1.trans (hbz.mono HS_0.out.1.1.2))
      clear hbz)
   | (go_at_call 15; refine HNM.out.mono ?_; rintro e wn ⟨rfl, hb⟩
      have HS_0 := hide (Kept.keep (S := fun W => (((Below w.heap.size w W ∧ w.heap.size ≤ W.heap.size) ∧ Blk W X2 24 #[.int .i64 xd, .slice A xt.length c]) ∧ Blk W X3 24 #[.int .i64 yd, .slice A' yt.length c'])) _ _ HS.out hb)
      clear hb))
  all_goals
   go_ret
   exact ⟨rfl, HBe.out⟩
 rw [hn] at HNM
 obtain ⟨rfl, hsg⟩ := sign_ok_ hn HR1.out
 have HSG := hide hsg
 obtain ⟨rfl, hbl⟩ := floor_ok hn HR3.out
 have HBL := hide hbl
 clear HR1 HR3 hsg hbl
 go_upto_region 8 with (first
  | (go_at_call 15; refine (HNM.out).mono ?_; rintro e w108 ⟨rfl, hb⟩
     have HS_0 := hide (Kept.keep (S := fun W => (((Below w.heap.size w W ∧ w.heap.size ≤ W.heap.size) ∧ Blk W X2 24 #[.int .i64 xd, .slice A xt.length c]) ∧ Blk W X3 24 #[.int .i64 yd, .slice A' yt.length c'])) _ _ HS.out hb)
     clear hb))
 clear x0 x1 HNM
 have HS0 := hide HS_0.out
 clear HS
 have HS := hide HS0.out
 clear HS0
 try clear HS_0
 obtain ⟨xdn, hxdn⟩ := Int.eq_ofNat_of_zero_le (show 0 ≤ xd by have := (numOK_parts hn).1; omega)
 have HBW := hide (fun W (hb : Below w.heap.size w W) (hB : w.heap.size ≤ W.heap.size) => (show Calls Tryz.prog 16 #[.agg #[.int .i64 xd, .slice A xt.length c], .int .i64 1] W fun e w' => ∃ r, e = .returned (.int .i64 r) ∧ BelowRes xd xt 1 r ∧ Below W.heap.size W w' by
  subst hxdn
  exact refBelow_any xdn A xt.length c xt 1 w.heap.size W (HPX.out W hb) hB hn (by omega) (by omega)))
 have HSI := hide (fun W (hb : Below w.heap.size w W) (hB : w.heap.size ≤ W.heap.size) => sign10_any A xt.length c w.heap.size xt W (HPX.out W hb) hB (fun t ht => by have := ((numOK_parts hn).2.2.2 t ht).1.2.2.2; omega) (numOK_roots hn).1 (numOK_roots hn).2 (by have := (numOK_parts hn).2.2.1; omega))
 clear hxdn
 obtain ⟨x0, x1, _, _⟩ := (HS.out.1.2).two
 go_upto_region 10 with (first
  | (go_at_call 27; refine (HSI.out w108 HS.out.1.1.1 HS.out.1.1.2).mono ?_; rintro e w109 ⟨s, rfl, hs, hb⟩
     have HS_0 := hide (Kept.keep (S := fun W => (((Below w.heap.size w W ∧ w.heap.size ≤ W.heap.size) ∧ Blk W X2 24 #[.int .i64 xd, .slice A xt.length c]) ∧ Blk W X3 24 #[.int .i64 yd, .slice A' yt.length c'])) _ _ HS.out hb)
     obtain rfl := SignOf.uniq HSG.out hs
     clear hs
     clear x0 x1
     obtain ⟨x0, x1, _, _⟩ := (HS_0.out.1.2).two
     clear hb)
  | (go_at_call 16; refine (HBW.out w109 HS_0.out.1.1.1 HS_0.out.1.1.2).mono ?_; rintro e w110 ⟨r, rfl, hr, hb⟩
     have HS_1 := hide (Kept.keep (S := fun W => (((Below w.heap.size w W ∧ w.heap.size ≤ W.heap.size) ∧ Blk W X2 24 #[.int .i64 xd, .slice A xt.length c]) ∧ Blk W X3 24 #[.int .i64 yd, .slice A' yt.length c'])) _ _ HS_0.out hb)
     obtain rfl := BelowRes.uniq hn HBL.out hr
     clear hr
     clear hb))
 clear x0 x1
 have HS0 := hide HS_1.out
 clear HS
 have HS := hide HS0.out
 clear HS0
 try clear HS_0
 clear HSI HBW HSG HBL
 have HNY := hide (refNumber_any yd A' yt.length c' w.heap.size yt w110 (HPY.out _ HS.out.1.1.1) HS.out.1.1.2)
 obtain ⟨y0, y1, _, _⟩ := (HS.out.2).two
 cases hy : numOK yd yt
 ·rw [hy] at HNY
  obtain ⟨rfl, rfl⟩ := cmp_bad hy HR2.out
  clear HR2 hn hy
  go_wp2_with (first
   | (go_at_call 9; refine (HK.out _ HS_0.out.1.1.1).mono ?_; rintro e wz ⟨rfl, hbz⟩
      have HBe := hide (HS_0.out.1.1.1.trans (hbz.mono HS_0.out.1.1.2))
      clear hbz)
   | (go_at_call 15; refine HNY.out.mono ?_; rintro e wn ⟨rfl, hb⟩
      have HS_0 := hide (Kept.keep (S := fun W => (((Below w.heap.size w W ∧ w.heap.size ≤ W.heap.size) ∧ Blk W X2 24 #[.int .i64 xd, .slice A xt.length c]) ∧ Blk W X3 24 #[.int .i64 yd, .slice A' yt.length c'])) _ _ HS.out hb)
      clear hb))
  all_goals
   go_ret
   exact ⟨rfl, HBe.out⟩
 rw [hy] at HNY
 obtain ⟨rfl, hcm⟩ := cmp_ok hn hy HR2.out
 have HCM := hide hcm
 clear HR2 hcm
 go_upto_region 12 with (first
  | (go_at_call 15; refine (HNY.out).mono ?_; rintro e w111 ⟨rfl, hb⟩
     have HS_0 := hide (Kept.keep (S := fun W => (((Below w.heap.size w W ∧ w.heap.size ≤ W.heap.size) ∧ Blk W X2 24 #[.int .i64 xd, .slice A xt.length c]) ∧ Blk W X3 24 #[.int .i64 yd, .slice A' yt.length c'])) _ _ HS.out hb)
     clear hb))
 clear y0 y1 HNY
 have HS0 := hide HS_0.out
 clear HS
 have HS := hide HS0.out
 clear HS0
 try clear HS_0
 have HCP := hide (refCompare_any xd A xt.length c xt yd A' yt.length c' yt w.heap.size w111 (HPX.out _ HS.out.1.1.1) (HPY.out _ HS.out.1.1.1) HS.out.1.1.2 hn hy)
 clear hn hy
 obtain ⟨x0, x1, _, _⟩ := (HS.out.1.2).two
 obtain ⟨y0, y1, _, _⟩ := (HS.out.2).two
 go_wp2_with (first
  | (go_at_call 9; refine (HK.out _ HS_0.out.1.1.1).mono ?_; rintro e wz ⟨rfl, hbz⟩
     have HBe := hide (HS_0.out.1.1.1.trans (hbz.mono HS_0.out.1.1.2))
     clear hbz)
  | (go_at_call 28; refine HCP.out.mono ?_; rintro e wn ⟨s, rfl, hs, hb⟩
     obtain rfl := SignOf.uniq HCM.out hs
     have HS_0 := hide (Kept.keep (S := fun W => (((Below w.heap.size w W ∧ w.heap.size ≤ W.heap.size) ∧ Blk W X2 24 #[.int .i64 xd, .slice A xt.length c]) ∧ Blk W X3 24 #[.int .i64 yd, .slice A' yt.length c'])) _ _ HS.out hb)
     clear hb hs))
 all_goals
  go_ret
  exact ⟨rfl, HBe.out⟩
end Go.Proofs.YthkblgglmohciaaGreatDoor
