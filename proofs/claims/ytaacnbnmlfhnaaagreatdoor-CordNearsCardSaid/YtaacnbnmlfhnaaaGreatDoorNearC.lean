/-
  cord.Records.
-/
import Derived.Test.YtaacnbnmlfhnaaaGreatDoorCordPToCordQ
set_option linter.unusedVariables false
set_option linter.unusedSimpArgs false
namespace Go.Proofs.YtaacnbnmlfhnaaaGreatDoor
open Go.RowKit
attribute [local go_sem] Oper.semAt_some

theorem recF_len (n : Int) : ∀ (k : Nat) (d : Int) (best : Int × Int), (recF n k d best).length ≤ k
  | 0, _, _ => by simp [recF]
  | k + 1, d, best => by
    unfold recF
    split
    · have := recF_len n k (d + 1) best; omega
    · have := recF_len n k (d + 1) (numR (4 * n * d * d), d); simp only [List.length_cons]; omega
def dens (l : List (Int × Int)) : List Value := l.map fun x => .int .i64 x.2
def RecI (w : World) (pre : List (Int × Int)) (W : World) : Prop := ∃ v, Box W w.heap.size 66 v ∧ W.ownsRow (w.heap.size + 6) 3 1 v pre.length (dens pre) ∧ Below w.heap.size w W
/-- The denominators, and the code. -/
def recordsS (n most : Int) : List Int × Int := if (inB n 1 1000 && inB most 1 3000) = true then ((recS n most).map (·.2), 0) else ([], 3)

set_option maxHeartbeats 2000000 in
set_option maxRecDepth 100000 in
theorem cordRecords_any (n most : Int) (w : World) : Calls Tryz.prog 48 #[.int .i64 n, .int .i64 most] w fun e w' => ∃ (A : Option Addr) (c : Nat),
    e = .returned (.tuple #[.slice A (recordsS n most).1.length c, .int .i64 (recordsS n most).2]) ∧ Ints w' w'.heap.size A (recordsS n most).1.length c (recordsS n most).1 ∧ Below w.heap.size w w' := by
  obtain ⟨i0, hi0, hz0', hz1, hz2⟩ := info_parts Tryz.infoInt
  have HA := hide (fun m W => (callsIn_wide (n := m)).2 (isAsked_any n most W))
  have HRC := hide (fun m W => (callsIn_wide (n := m)).2 (records_any n most W))
  unfold recordsS
  refine (callsIn_wide (n := 0)).1 ?_
  refine callsIn_of_wp_marks Tryz.func48 rfl trivial ?_ rfl
  simp only [Tryz.ntmps48, List.size_toArray, List.length_cons, List.length_nil, Nat.reduceAdd, Nat.reduceSub, Array.replicate_succ, Array.replicate_zero, List.push_toArray, List.append_toArray, List.nil_append, List.cons_append]
  cases hin : (inB n 1 1000 && inB most 1 3000)
  · rw [hin] at HA
    gi_wp2_with fail
    refine ⟨trivial, rfl, CallsIn.mono (HA.out _ _) ?_⟩
    rintro e w1 ⟨rfl, hw1⟩
    subst w1
    gi_wp2
    exact ⟨_, results_tmp2 rfl _ _ _, none, 0, rfl, Rd.nil_ _ _ _, Below.refl _ _⟩
  · rw [hin] at HA
    have hn : 1 ≤ n ∧ n ≤ 1000 := by
      have := (Bool.and_eq_true _ _ ▸ hin : _ ∧ _).1; simpa [inB] using this
    have hm : 1 ≤ most ∧ most ≤ 3000 := by
      have := (Bool.and_eq_true _ _ ▸ hin : _ ∧ _).2; simpa [inB] using this
    have HX0 := hide (Box.new w 66 (.slice none 0 0))
    have HB0 := hide ((Below.refl w.heap.size w).alloc (Nat.le_refl _) (.cells #[.slice none 0 0] 66))
    obtain ⟨w0, hw0⟩ : ∃ w0, w0 = w.alloc (.cells #[.slice none 0 0] 66) := ⟨_, rfl⟩
    have hz0 : w0.heap.size = w.heap.size + 1 := by rw [hw0]; simp
    rw [← hw0] at HX0 HB0
    have HX0 := hide HX0.out
    have hg := records1_gives (w.heap.size + 2) (w.heap.size + 1) n most ((w0.alloc (.cells #[.int .i64 n] 3)).alloc (.cells #[.int .i64 most] 3)) (by
      have := (Box.new (w0.alloc (.cells #[.int .i64 n] 3)) 3 (.int .i64 most)).cell
      rw [World.size_alloc, hz0] at this
      exact this) (by
      have := ((Box.new w0 3 (.int .i64 n)).alloc (.cells #[.int .i64 most] 3)).cell
      rw [hz0] at this
      exact this) hn hm
    have HG := hide hg
    clear hg
    have HLEN := hide (show ∀ pre : List (Int × Int), (∃ rest, pre ++ rest = recS n most) → pre.length ≤ 3000 from fun pre ⟨rest, h⟩ => by
      have h1 := recF_len n most.toNat 1 (0, 0)
      have h2 : (recS n most).length ≤ most.toNat := h1
      rw [← h, List.length_append] at h2
      omega)
    gi_wp2_with fail
    refine ⟨trivial, rfl, CallsIn.mono (HA.out _ _) ?_⟩
    rintro e w1 ⟨rfl, hw1⟩
    subst w1
    gi_wp2_with fail
    rw [← hw0]
    clear hw0
    refine ⟨trivial, rfl, CallsIn.mono (HRC.out _ _) ?_⟩
    rintro e w1 ⟨rfl, hw1⟩
    subst w1
    rw [hz0]
    have hbR : Below w.heap.size w ((w0.alloc (.cells #[.int .i64 n] 3)).alloc (.cells #[.int .i64 most] 3)) := (HB0.out.alloc (by omega) _).alloc (by simp; omega) _
    gi_wp2_with fail
    refine wp_range (gf := 153) (lb := #[.pointer (some ⟨w.heap.size + 2, 0, none⟩), .pointer (some ⟨w.heap.size + 1, 0, none⟩)]) rfl enters_records HG.out (Below.refl _ _) ?_ (fun _ => rfl) (fun pre W => RecI w pre W) (fun _ _ _ => False) ?_ ?_ ?_ ?_ ?_ ?_
    · rintro b (rfl | rfl) <;> simp <;> omega
    · rintro s A B row ⟨v, h1, h2, h3⟩ hg hr
      simp only [World.size_alloc, hz0] at hr
      refine ⟨v, h1.grown hg (fun e => by have := hr _ e; omega), h2.kept hg ?_, h3.grown hg h3.size (fun j e => by have := hr j e; omega)⟩
      by_cases hv : v.ownBlock = none
      · exact .inl hv
      · refine .inr (fun e => ?_)
        cases hrow : row with
        | none => rw [hrow] at e; exact hv e
        | some j => have h5 := hr j hrow; rw [hrow] at e; have := (h2.lt j e).1; omega
    · rintro _ _ _ _ _ h; exact h.elim
    · exact ⟨_, (HX0.out.alloc _).alloc _, World.ownsRow_nil _ _ _ _, hbR⟩
    · rintro pre x W hsp ⟨v, h1, h2, h3⟩ hsz
      have hlen := HLEN.out _ hsp
      simp only [List.length_append, List.length_cons, List.length_nil] at hlen
      simp only [World.size_alloc, hz0] at hsz ⊢
      obtain ⟨xa, xb⟩ := x
      have HX1 := hide h1
      have HO1 := hide h2
      have HB1 := hide h3
      clear h1 h2 h3 hsp
      simp only [encN]
      gi_wp2
      refine ⟨(KeepB.refl _ _).alloc (by rintro b ((rfl | rfl) | h) <;> omega) _, ?_⟩
      intro W2 hg2 hzz
      have HX2 := hide ((HX1.out.alloc _).grown hg2 (by simp; omega))
      have HO2 := hide ((HO1.out.alloc (.cells #[.int .i64 xa, .int .i64 xb] 140)).kept hg2 (by
        by_cases hv : v.ownBlock = none
        · exact .inl hv
        · refine .inr (fun e => ?_)
          have := (HO1.out.lt _ e).1
          omega))
      have HN2 := hide ((Blk.new W 140 #[.int .i64 xa, .int .i64 xb]).grown hg2 (by simp; omega))
      have HB2 := hide ((HB1.out.alloc HB1.out.size _).grown hg2 (by simp; omega) (fun j e => by cases e; omega))
      obtain ⟨Z, hZ⟩ : ∃ Z, Z = W.heap.size := ⟨_, rfl⟩
      simp only [World.size_alloc] at hzz
      rw [← hZ] at HN2 hzz ⊢
      clear hg2 HX1 HO1 HB1
      have hsz2 : w.heap.size + 6 ≤ W2.heap.size := by omega
      have hZW : Z < W2.heap.size := HN2.out.lt
      have hZ6 : w.heap.size + 6 ≤ Z := by omega
      clear hZ hzz hsz
      obtain ⟨n0, n1, nf0, nf1⟩ := HN2.out.two
      have x0 := HX2.out.cell
      have xf := HX2.out.free
      have hlt0 := HX2.out.lt
      gi_wp2_with (first
        | (gi_at_builtin; refine wpListIn_append_own _ rfl _ _ 66 rfl (w.heap.size + 6) 3 i0 (.int .i64 0) 1 8 Tryz.underlying66 hi0 hz0' hz1 hz2 rfl (by decide) v pre.length _ rfl (HO2.out.alloc _) ⟨W2.heap.size, 0, none⟩ 1 1 [.int .i64 xb] rfl rfl (cell_new1 _ _ _) (by simp [Value.oneCell']) (by unfold maxLen; omega) (by omega) (by simp; omega) ?_; intro v' w3 hown' hgrow _; obtain ⟨A', c', rfl⟩ := own_shape hown'; have hne := own_base_ne HO2.out (b := w.heap.size) (by omega); have hx3 := (HX2.out.alloc (.cells #[.int .i64 xb] 3)).grown hgrow hne; have hcx3 := hx3.cell; have hfx3 := hx3.free; have HO3 := hide hown'; have HX3 := hide hx3; have HG3 := hide hgrow; clear hown' hgrow hne hx3))
      have hR : ∀ b, ((b = w.heap.size + 2 ∨ b = w.heap.size + 1) ∨ (w.heap.size + 1 + 1 + 1 ≤ b ∧ b < w.heap.size + 1 + 1 + 1 + 2 + 1)) → b < W2.heap.size ∧ w.heap.size < b ∧ b < w.heap.size + 6 := by
        rintro b ((h | h) | h) <;> omega
      have hkp := ((KeepB.refl (fun b => (b = w.heap.size + 2 ∨ b = w.heap.size + 1) ∨ (w.heap.size + 1 + 1 + 1 ≤ b ∧ b < w.heap.size + 1 + 1 + 1 + 2 + 1)) W2).alloc (fun b hb => (hR b hb).1) (.cells #[.int .i64 xb] 3)).trans (KeepB.of_grown HG3.out (fun b hb => by have := (hR b hb).1; simp; omega) (fun b hb h => by have h1 := (HO2.out.lt b hb).1; have := (hR b h).2.2; omega))
      refine ⟨hkp.setCell (p := ⟨w.heap.size, 0, none⟩) (fun h => by have := (hR _ h).2.1; exact absurd this (Nat.lt_irrefl _)) _, _, HX3.out.set_ _, ?_, ?_⟩
      · have h5 := ownsRow_setCell_other HO3.out (a := ⟨w.heap.size, 0, none⟩) (own_base_ne HO3.out (show w.heap.size < _ by omega)) (.slice A' (pre.length + 1) c')
        have e5 : dens (pre ++ [(xa, xb)]) = dens pre ++ [.int .i64 xb] := by simp [dens]
        rw [e5, List.length_append, List.length_singleton]
        exact h5
      · refine (((HB2.out.alloc HB2.out.size _).grown HG3.out (by have := HB2.out.size; simp; omega) (fun j e => by have := (HO2.out.lt j e).1; omega))).setCell (p := ⟨w.heap.size, 0, none⟩) (Nat.le_refl _) _
    · rintro xs V rfl ⟨v, h1, h2, h3⟩ hD
      simp only [World.size_alloc, hz0] at hD ⊢
      obtain ⟨A, c, rfl⟩ := own_shape h2
      have x0 := h1.cell
      have HO := hide h2
      have HX := hide h1
      have HB := hide h3
      have HD := hide hD
      clear h1 h2 h3 hD
      gi_wp2
      refine ⟨by simp, .inl ⟨_, _, rfl, run_takeDeferred HD.out, ?_⟩⟩
      refine ⟨_, results_tmp2 rfl _ _ _, A, c, by simp, ?_, ?_⟩
      · have h1 := HO.out.kept (grown_put (w.heap.size + 1 + 1 + 1) (.deferred none)) (.inr (by
          intro e
          have := (HO.out.lt _ e).1
          omega))
        have h2 := Rd.of_own h1
        have e5 : dens (recS n most) = ((recS n most).map (·.2)).map (Value.int .i64) := by simp [dens]
        rw [e5] at h2
        exact h2
      · exact HB.out.grown (grown_put _ _) HB.out.size (fun j e => by cases e; omega)
    · rintro _ _ _ _ h; exact h.elim
end Go.Proofs.YtaacnbnmlfhnaaaGreatDoor
