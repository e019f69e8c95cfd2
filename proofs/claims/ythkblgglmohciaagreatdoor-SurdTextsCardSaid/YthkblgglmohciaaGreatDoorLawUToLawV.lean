import Derived.Test.YthkblgglmohciaaGreatDoorWeakRToAppQ
import Derived.Test.YthkblgglmohciaaGreatDoorCom
import Derived.Test.YthkblgglmohciaaGreatDoorFlowToNumK
set_option linter.unusedVariables false
set_option linter.unusedSimpArgs false
namespace Go.Proofs.YthkblgglmohciaaGreatDoor
open Go.RowKit
set_option maxHeartbeats 2000000 in
set_option maxRecDepth 100000 in
theorem terms1_any (A : Option Addr) (n c B : Nat) (ts : List (Int × Int)) (w : World) (hq : TermsQ w B A n c ts) (hB : B ≤ w.heap.size) (hn : n ≤ 1000) :
  Calls Tryz.prog 34 #[.slice A n c] w fun e w' => ∃ (A' : Option Addr) (c' : Nat), e = .returned (.slice A' n c') ∧ w'.ownsRow w.heap.size 52 2 (.slice A' n c') n (cellsT ts) ∧ Below w.heap.size w w' := by
 obtain rfl := hq.len
 obtain ⟨i1, hi1, hy0, hy1, hy2⟩ := info_parts Tryz.infoTerm
 have HL0 := hide (World.ownsRow_lit (base := w.heap.size) (e := 52) (size := 2) w #[] 0 (Nat.le_refl _) (by unfold maxLen; omega) rfl)
 have HQ1 := hide (Rq.alloc hq hB (.cells #[] 52))
 have HB1 := hide ((Below.refl w.heap.size w).alloc (Nat.le_refl _) (.cells #[] 52))
 clear hq
 go_enter Tryz.func34, Tryz.ntmps34
 go_wp2_with (first
  | (at_builtin; refine wpList_append_q rfl _ _ 22 rfl w.heap.size 52 i1 (.agg #[.int .i64 0, .int .i64 0]) 2 16 Tryz.underlying22 hi1 hy0 hy1 hy2 rfl (by decide) (.slice (some ⟨w.heap.size, 0, none⟩) 0 0) 0 [] rfl HL0.out A ts.length c B (cellsT ts) rfl HQ1.out (cellsT_one ts) (by unfold maxLen; omega) (by omega) (by simp) ?_
     intro A3 c3 w3 ho3 hg3
     have HO3 : Hid (w3.ownsRow w.heap.size 52 2 (.slice A3 ts.length c3) ts.length (cellsT ts)) := hide (by simpa using ho3)
     have HB3 := hide (HB1.out.grown hg3 (by simp) (fun j e => (HL0.out.lt j e).1))
     rw [Nat.zero_add]
     clear ho3 hg3))
 go_ret
 exact ⟨A3, c3, rfl, HO3.out, HB3.out⟩
set_option maxHeartbeats 2000000 in
set_option maxRecDepth 100000 in
theorem own1_any (d : Int) (A : Option Addr) (n c B : Nat) (ts : List (Int × Int)) (w : World) (hq : TermsQ w B A n c ts) (hB : B ≤ w.heap.size) (hn : n ≤ 1000) :
  Calls Tryz.prog 11 #[.agg #[.int .i64 d, .slice A n c]] w (ValPost w (d, ts)) := by
 obtain rfl := hq.len
 obtain ⟨w0, hw0⟩ : ∃ w0, w0 = (w.alloc (.cells #[.int .i64 d, .slice A ts.length c] 24)).alloc (.cells #[.int .i64 0, .slice none 0 0] 24) := ⟨_, rfl⟩
 have hz0 : w0.heap.size = w.heap.size + 2 := by rw [hw0]; simp
 have HX0 : Hid (Blk w0 w.heap.size 24 #[.int .i64 d, .slice A ts.length c]) := hide (by rw [hw0]; exact (Blk.new w _ _).alloc _)
 have HR0 : Hid (Blk w0 (w.heap.size + 1) 24 #[.int .i64 0, .slice none 0 0]) := hide (by
  rw [hw0]
  have h := Blk.new (w.alloc (.cells #[.int .i64 d, .slice A ts.length c] 24)) 24 #[.int .i64 0, .slice none 0 0]
  rwa [World.size_alloc] at h)
 have HB0 : Hid (Below w.heap.size w w0) := hide (by rw [hw0]; exact ((Below.refl _ _).alloc (Nat.le_refl _) _).alloc (by simp) _)
 have HQ : Hid (∀ W, Below w0.heap.size w0 W → TermsQ W B A ts.length c ts) := hide (fun W hb => Rq.below (Rq.below hq (HB0.out.mono hB)) (hb.mono (by omega)))
 clear hq
 go_enter Tryz.func11, Tryz.ntmps11
 go_upto_region 1 with fail
 rw [← hw0]
 clear hw0
 obtain ⟨x0, x1, _, _⟩ := HX0.out.two
 have h0 : w.heap.size < w0.heap.size := by omega
 have HGd : Hid ((Blk w0.drew w.heap.size 24 #[.int .i64 d, .slice A ts.length c] ∧ Blk w0.drew (w.heap.size + 1) 24 #[.int .i64 0, .slice none 0 0]) ∧ (Below w0.heap.size w0 w0.drew ∧ w0.heap.size ≤ w0.drew.heap.size)) := hide ⟨Kept.keep (S := fun W => (Blk W w.heap.size 24 #[.int .i64 d, .slice A ts.length c] ∧ Blk W (w.heap.size + 1) 24 #[.int .i64 0, .slice none 0 0])) _ _ ⟨HX0.out, HR0.out⟩ (Below.drew (Below.refl _ _)), Below.drew (Below.refl _ _), Nat.le_refl _⟩
 refine wp_region_flow 6 (fun W' => Below w0.heap.size w0 W') (fun _ _ _ => True) [] (fun W' => (Blk W' w.heap.size 24 #[.int .i64 d, .slice A ts.length c] ∧ Blk W' (w.heap.size + 1) 24 #[.int .i64 0, .slice none 0 0]) ∧ (Below w0.heap.size w0 W' ∧ w0.heap.size ≤ W'.heap.size)) (by kernel_rfl)
  (Floats.of (by decide +kernel) (fun c a d v w => by cases d <;> exact Iff.rfl) (by intro i hi; cases hi) (fun _ _ _ _ _ _ => trivial))
  (fun _ _ _ h => h) (by decide) HGd.out (fun W h => h.2.1) (fun HFL => ?_)
 refine Safe.take 0 (v := ?_) rfl rfl HFL (by decide +kernel) (fun W h => h.2.1) (by rfl) (fun W hF => ?_) ?_
 rotate_left 1
 focus (clear hF; go_simp; first | done | with_reducible rfl)
 (try simp only [Act.put, lA, lB, lC])
 refine Safe.take 1 (v := ?_) rfl rfl HFL (by decide +kernel) (fun W h => h.2.1) (by rfl) (fun W hF => ?_) ?_
 rotate_left 1
 focus (have hF := hF (by decide +kernel); have e1 := (hF.cell (p := ⟨w.heap.size, 0, none⟩) h0).trans x0; clear hF; go_simp; first | done | with_reducible rfl)
 (try simp only [Act.put, lA, lB, lC])
 refine Safe.take 2 (v := ?_) rfl rfl HFL (by decide +kernel) (fun W h => h.2.1) (by rfl) (fun W hF => ?_) ?_
 rotate_left 1
 focus (clear hF; go_simp; first | done | with_reducible rfl)
 (try simp only [Act.put, lA, lB, lC])
 refine Safe.take 3 (v := ?_) rfl rfl HFL (by decide +kernel) (fun W h => h.2.1) (by rfl) (fun W hF => ?_) ?_
 rotate_left 1
 focus (have hF := hF (by decide +kernel); have e1 := (hF.cell (p := ⟨w.heap.size, 1, none⟩) h0).trans x1; clear hF; go_simp; first | done | with_reducible rfl)
 (try simp only [Act.put, lA, lB, lC])
 refine Safe.on 4 (fun x : Option Addr × Nat => .slice x.1 ts.length x.2) (fun x W => W.ownsRow w.heap.size 52 2 (.slice x.1 ts.length x.2) ts.length (cellsT ts)) rfl rfl HFL (by decide +kernel) (fun W h => h.2.1) (fun W hG K' hK => ?_) (fun x4 hF4 => ?_)
 focus
  have hz := hG.2.2
  have HC := hide (terms1_any A ts.length c B ts W (HQ.out W hG.2.1) (by omega) hn)
  clear hG
  go_simp
  go_wp2_with (first
   | (go_at_call 34; refine HC.out.mono ?_; rintro e w6 ⟨A3, c3, rfl, ho, hb⟩
      have HO := hide (own_le ho (show w.heap.size ≤ W.heap.size by omega)); have HBB := hide hb; clear ho hb))
  exact hK.out (A3, c3) _ HO.out HBB.out
 (try simp only [Act.put, lA, lB, lC])
 refine Safe.fin rfl hF4 (fun W1 hG hHeld => ?_)
 have HN := hide hG.1.1.2
 have HB1 := hide (HB0.out.trans (hG.1.2.1.mono (by omega)))
 have HO1 := hide hG.2
 have hz1 := hG.1.2.2
 clear hG HGd HFL hF4 x0 x1
 obtain ⟨q0, q1, qf0, qf1⟩ := HN.out.two
 refine wpTill_take 5 rfl (by decide +kernel) (fun c a w h => by first | exact h | (cases h; done)) (by rfl) (v := ?_) ?_ hHeld (fun hHeld' => ?_)
 rotate_left 1
 focus (intro w' hSw; clear hSw; go_simp; first | done | with_reducible rfl)
 clear hHeld
 rename Till _ _ _ _ _ _ _ => hHeld
 (try simp only [Act.put, lA, lB, lC])
 refine wpTill_one 6 rfl (by decide +kernel) (fun K hK => ?_)
 go_simp
 refine hK.out _ _ ⟨trivial, fun h => absurd h (by decide +kernel), fun _ => trivial⟩ (fun hHeld => ?_)
 clear hK K
 (try simp only [Act.put, lA, lB, lC])
 refine wpTill_done (by decide +kernel) ?_
 clear hHeld
 obtain ⟨A3, c3⟩ := x4
 dsimp only at HO1
 go_wp2
 refine bodyPost_cell (p := 2) (ty := 24) rfl rfl ((HN.out.set_ 0 _).set_ 1 _) (d := _) rfl Tryz.underlying24 Tryz.sizeNumber rfl ?_
 exact ⟨A3, ts.length, c3, rfl, own_set (own_set HO1.out HN.out (i := 0) (u := .int .i64 d) (by decide)) (HN.out.set_ 0 (.int .i64 d)) (i := 1) (u := .slice A3 ts.length c3) (by decide),
  (HB1.out.setCell (p := ⟨w.heap.size + 1, 0, none⟩) (by show w.heap.size ≤ w.heap.size + 1; omega) _).setCell (p := ⟨w.heap.size + 1, 1, none⟩) (by show w.heap.size ≤ w.heap.size + 1; omega) _⟩
set_option maxHeartbeats 2000000 in
set_option maxRecDepth 100000 in
theorem lawSame1_any (xd : Int) (A : Option Addr) (n c : Nat) (xt : List (Int × Int)) (yd : Int) (A2 : Option Addr) (n2 c2 : Nat) (yt : List (Int × Int)) (B : Nat) (w : World) (hx : TermsQ w B A n c xt) (hy : TermsQ w B A2 n2 c2 yt) (hB : B ≤ w.heap.size) :
  Calls Tryz.prog 13 #[.agg #[.int .i64 xd, .slice A n c], .agg #[.int .i64 yd, .slice A2 n2 c2]] w fun e w' => e = .returned (.bool (decide (xd = yd) && decide (xt = yt))) ∧ Below w.heap.size w w' := by
 have hlx := hx.len
 have hly := hy.len
 subst hlx
 subst hly
 have hnx := Rq.nmax hx
 have hny := Rq.nmax hy
 obtain ⟨w0, hw0⟩ : ∃ w0, w0 = (w.alloc (.cells #[.int .i64 xd, .slice A xt.length c] 24)).alloc (.cells #[.int .i64 yd, .slice A2 yt.length c2] 24) := ⟨_, rfl⟩
 have hz0 : w0.heap.size = w.heap.size + 2 := by rw [hw0]; simp
 have h01 : Below w.heap.size w w0 := by rw [hw0]; exact ((Below.refl _ _).alloc (Nat.le_refl _) _).alloc (by simp) _
 have HX0 : Hid (Blk w0 w.heap.size 24 #[.int .i64 xd, .slice A xt.length c]) := hide (by rw [hw0]; exact (Blk.new w _ _).alloc _)
 have HY0 : Hid (Blk w0 (w.heap.size + 1) 24 #[.int .i64 yd, .slice A2 yt.length c2]) := hide (by
  rw [hw0]
  have h := Blk.new (w.alloc (.cells #[.int .i64 xd, .slice A xt.length c] 24)) 24 #[.int .i64 yd, .slice A2 yt.length c2]
  rwa [World.size_alloc] at h)
 have HTX := hide (Rq.below hx (h01.mono hB)); have HTY := hide (Rq.below hy (h01.mono hB))
 have HB0 := hide h01
 clear hx hy h01
 go_enter Tryz.func13, Tryz.ntmps13
 go_upto_region 1 with fail
 rw [← hw0]
 clear hw0
 obtain ⟨x0, x1, _, _⟩ := HX0.out.two
 obtain ⟨y0, y1, _, _⟩ := HY0.out.two
 by_cases hd : xd = yd
 ·by_cases hl : (xt.length : Int) = (yt.length : Int)
  ·go_wp2
   go_loopw [5] (fun i W => ∃ (k : Nat), k ≤ xt.length ∧ i = .int .i64 k ∧ xt.take k = yt.take k ∧ ∃ q, W = w0.drewN q) (fun i _ => xt.length - (intOf i).toNat)
   case atStart => exact ⟨0, by omega, rfl, rfl, 0, rfl⟩
   case round =>
    obtain ⟨k, hk, rfl, hpre, q, rfl⟩ := hrel
    have HPRE := hide hpre
    have HX := hide (HX0.out.drewN q); have HY := hide (HY0.out.drewN q)
    have HTXq : Hid (TermsQ (w0.drewN q) B A xt.length c xt) := hide HTX.out
    have HTYq : Hid (TermsQ (w0.drewN q) B A2 yt.length c2 yt) := hide HTY.out
    have HBq : Hid (Below w.heap.size w (w0.drewN q)) := hide ⟨HB0.out.os, HB0.out.tape, HB0.out.output, HB0.out.size, HB0.out.block⟩
    have HDD := hide (fun p => dd w0 q p)
    clear hpre x0 x1 y0 y1
    generalize w0.drewN q = W at *
    obtain ⟨x0, x1, _, _⟩ := HX.out.two
    obtain ⟨y0, y1, _, _⟩ := HY.out.two
    by_cases hkl : (k : Int) < (xt.length : Int)
    ·have hk1 : k < xt.length := by omega
     have hk2 : k < yt.length := by omega
     obtain ⟨ad, rfl, -, ha0, ha1⟩ := HTXq.out.at_ hk1
     obtain ⟨ad2, rfl, -, hb0, hb1⟩ := HTYq.out.at_ hk2
     have hky : (k : Int) < (yt.length : Int) := by omega
     go_wp2
     have hnq := fun W => neq_term xt[k].1 xt[k].2 yt[k].1 yt[k].2 W
     have hgt := Tryz.guardTerm
     have htk1 := List.take_succ_eq_append_getElem hk1
     have htk2 := List.take_succ_eq_append_getElem hk2
     by_cases heq : xt[k] = yt[k]
     ·have h1 : xt[k].1 = yt[k].1 := by rw [heq]
      have h2 : xt[k].2 = yt[k].2 := by rw [heq]
      have HTK : Hid (xt.take (k + 1) = yt.take (k + 1)) := hide (by rw [htk1, htk2, HPRE.out, heq])
      rw [h1] at ha0
      rw [h2] at ha1
      simp only [h1, h2] at hnq
      clear htk1 htk2 heq h1 h2
      go_quiet (fail)
      go_wp2
      obtain ⟨q2, hq2⟩ := HDD.out nq
      exact ⟨⟨k + 1, by omega, by go_num, HTK.out, q2, hq2⟩, by simp [intOf]; omega⟩
     ·have hne : ¬ xt = yt := fun e => heq (by simp only [e])
      have hd2 : (decide ((xt[k].1, xt[k].2) = (yt[k].1, yt[k].2))) = false := decide_eq_false heq
      simp only [hd2] at hnq
      have HNE := hide hne
      clear htk1 htk2 heq hne hd2
      go_quiet (fail)
      go_wp2
      go_ret
      exact ⟨by simp [HNE.out], ⟨HBq.out.os, HBq.out.tape, HBq.out.output, HBq.out.size, HBq.out.block⟩⟩
    ·obtain rfl : k = xt.length := by omega
     go_wp2
     go_ret
     have hpre := HPRE.out
     rw [List.take_of_length_le (Nat.le_refl _), List.take_of_length_le (by omega)] at hpre
     exact ⟨by simp [hd, hpre], HBq.out⟩
  ·go_wp2
   go_ret
   have hne : ¬ xt = yt := fun e => hl (by rw [e])
   exact ⟨by simp [hd, hne], HB0.out⟩
 ·go_wp2
  go_ret
  exact ⟨by simp [hd], HB0.out⟩
theorem long1_any (d : Int) (A : Option Addr) (n c : Nat) (w : World) (hn : n ≤ 9223372036854775807) : Calls Tryz.prog 8 #[.agg #[.int .i64 d, .slice A n c]] w fun e w' => e = .returned (.bool (decide (8 < n))) ∧ Below w.heap.size w w' := by
 have HX := hide (Blk.new w 24 #[.int .i64 d, .slice A n c])
 have HB := hide ((Below.refl w.heap.size w).alloc (Nat.le_refl _) (.cells #[.int .i64 d, .slice A n c] 24))
 obtain ⟨x0, x1, _, _⟩ := HX.out.two
 go_enter Tryz.func8, Tryz.ntmps8
 go_wp2
 go_ret
 refine ⟨?_, HB.out⟩
 have : ((8 : Int) < (n : Int)) ↔ 8 < n := by omega
 simp [this]
theorem lawSelf_any (d : Int) (A : Option Addr) (n c : Nat) (A2 : Option Addr) (n2 c2 : Nat) (ts : List (Int × Int)) (B : Nat) (w : World) (hx : TermsQ w B A n c ts) (hy : TermsQ w B A2 n2 c2 ts) (hB : B ≤ w.heap.size) :
  Calls Tryz.prog 13 #[.agg #[.int .i64 d, .slice A n c], .agg #[.int .i64 d, .slice A2 n2 c2]] w fun e w' => e = .returned (.bool true) ∧ Below w.heap.size w w' := by
 refine (lawSame1_any d A n c ts d A2 n2 c2 ts B w hx hy hB).mono ?_
 rintro e w' ⟨rfl, hb⟩
 exact ⟨by simp, hb⟩
end Go.Proofs.YthkblgglmohciaaGreatDoor
namespace Go.Proofs.YthkblgglmohciaaGreatDoor
open Go.RowKit
theorem none1_any (d : Int) (A : Option Addr) (n c : Nat) (w : World) (hn : n ≤ 9223372036854775807) : Calls Tryz.prog 22 #[.agg #[.int .i64 d, .slice A n c]] w fun e w' => e = .returned (.bool (decide (d = 0 ∧ n = 0))) ∧ Below w.heap.size w w' := by
 have HX := hide (Blk.new w 24 #[.int .i64 d, .slice A n c])
 have HB := hide ((Below.refl w.heap.size w).alloc (Nat.le_refl _) (.cells #[.int .i64 d, .slice A n c] 24))
 obtain ⟨x0, x1, _, _⟩ := HX.out.two
 by_cases hd : d = 0
 ·subst hd
  go_enter Tryz.func22, Tryz.ntmps22
  go_wp2
  go_ret
  refine ⟨?_, HB.out⟩
  by_cases hn : n = 0 <;> simp [hn]
 ·go_enter Tryz.func22, Tryz.ntmps22
  go_wp2
  go_ret
  exact ⟨by simp [hd], HB.out⟩
end Go.Proofs.YthkblgglmohciaaGreatDoor
