import Derived.Test.YthkblgglmohciaaGreatDoorPrtAToPrtB
set_option linter.unusedVariables false
set_option linter.unusedSimpArgs false
namespace Go.Proofs.YthkblgglmohciaaGreatDoor
open Go.RowKit
attribute [local go_sem] Oper.semAt_some
set_option maxHeartbeats 8000000 in
set_option maxRecDepth 100000 in
theorem surdParse_any (s : List UInt8) (w : World) (ha : AsciiT s) (hE : ErrVars w) (hM : MaxV w) (htab : Lib.TabIs Tryz.prog w "internal/strconv.uint64pow10" .u64 Lib.pow10Tab) :
  Calls Tryz.prog 19 #[.string ⟨s.toArray⟩] w (NumPost w (parseN s)) := by
 obtain ⟨w0, hw0⟩ : ∃ w0, w0 = (w.alloc (.cells #[.int .i64 0, .slice none 0 0] 24)).alloc (.cells #[.int .i64 0] 27) := ⟨_, rfl⟩
 have HX0 := hide (show Blk w0 w.heap.size 24 #[.int .i64 0, .slice none 0 0] by rw [hw0]; exact (Blk.new w _ _).alloc _)
 have HY0 := hide (show Box w0 (w.heap.size + 1) 27 (.int .i64 0) by
  rw [hw0]
  have h := Box.new (w.alloc (.cells #[.int .i64 0, .slice none 0 0] 24)) 27 (.int .i64 0)
  rw [World.size_alloc] at h
  exact h)
 have HB0 := hide (show Below w.heap.size w w0 by rw [hw0]; exact ((Below.refl w.heap.size w).alloc (Nat.le_refl _) _).alloc (by simp) _)
 have hz0 : w0.heap.size = w.heap.size + 2 := by rw [hw0]; simp
 have HE0 := hide (hE.below HB0.out (Nat.le_refl _))
 have HM0 := hide (hM.below HB0.out (Nat.le_refl _))
 refine (callsIn_wide (n := 0)).1 ?_
 refine callsIn_of_wp_marks Tryz.func19 rfl trivial ?_ rfl
 simp only [Tryz.ntmps19, List.size_toArray, List.length_cons, List.length_nil, Nat.reduceAdd, Nat.reduceSub, Array.replicate_succ, Array.replicate_zero, List.push_toArray, List.append_toArray, List.nil_append, List.cons_append]
 by_cases hsz : 64 < (s.length : Int)
 ·have HV : Hid (parseN s = (0, [], 5)) := hide (by unfold parseN; rw [if_pos (by omega)])
  obtain ⟨x0, x1, xf0, xf1⟩ := HX0.out.two
  have hcc := HY0.out.cell
  have hcf := HY0.out.free
  gi_upto_region 1 with fail
  rw [← hw0]
  clear hw0
  gi_wp2
  rw [HV.out]
  have hB := Below.setCell (Below.setCell (Below.setCell HB0.out (p := ⟨w.heap.size, 0, none⟩) (by simp) (.int .i64 0)) (p := ⟨w.heap.size, 1, none⟩) (by simp) (.slice none 0 0)) (p := ⟨w.heap.size + 1, 0, none⟩) (by simp) (.int .i64 5)
  exact ⟨_, results_two rfl rfl rfl (((HX0.out.set_ 0 _).set_ 1 _).far (by simp) _) (((HY0.out.far (by simp) _).far (by simp) _).set_ _), none, 0, 0, rfl, ⟨rfl, .inl ⟨rfl, rfl⟩⟩, hB⟩
 ·have hsz2 : s.length ≤ 64 := by omega
  gi_upto_region 3 with fail
  rw [← hw0]
  clear hw0
  gi_upto_region 4 with fail
  obtain ⟨W1, hW1⟩ : ∃ W1, W1 = w0.alloc (.cells #[.int .i64 1, .slice none 0 0] 24) := ⟨_, rfl⟩
  have HQ1 : Hid (∀ base, QState w base W1 1 none 0 []) := hide (fun base => by
   have h := Blk.new w0 24 #[.int .i64 1, .slice none 0 0]
   rw [hz0] at h
   rw [hW1]
   exact ⟨HX0.out.alloc _, HY0.out.alloc _, h, ⟨rfl, .inl ⟨rfl, rfl⟩⟩, HB0.out.alloc (by omega) _⟩)
  have hz1 : w.heap.size + 3 ≤ W1.heap.size := by rw [hW1]; simp; omega
  rw [← hW1]
  have HC := hide (fun n => (callsIn_wide (n := n)).2 (cut_any s [47] W1 (by omega) (hM.below (HQ1.out 0).below (Nat.le_refl _))))
  have HPS : Hid (AsciiT (Lib.trimS (Lib.cut s [47]).1 [40, 41]) ∧ (Lib.trimS (Lib.cut s [47]).1 [40, 41]).length ≤ 64 ∧ (Lib.cut s [47]).1.length ≤ 64 ∧ (Lib.cut s [47]).2.1.length ≤ 64) := hide
   ⟨ha.sub ((trimS_sub _ _).trans (cut_sub _ _)), Nat.le_trans ((trimS_sub _ _).trans (cut_sub _ _)).length_le hsz2, Nat.le_trans (cut_sub _ _).length_le hsz2, Nat.le_trans (cut_len2 _ _) hsz2⟩
  have HRES : Hid (parseN s = if okP (partsP (Lib.trimS (Lib.cut s [47]).1 [40, 41])) = false then (0, [], 4)
   else if numOK (if (Lib.cut s [47]).2.2 = true then (digS (Lib.cut s [47]).2.1).1 else 1) (tsP (partsP (Lib.trimS (Lib.cut s [47]).1 [40, 41]))) = true ∧ numT (if (Lib.cut s [47]).2.2 = true then (digS (Lib.cut s [47]).2.1).1 else 1) (tsP (partsP (Lib.trimS (Lib.cut s [47]).1 [40, 41]))) = s then ((if (Lib.cut s [47]).2.2 = true then (digS (Lib.cut s [47]).2.1).1 else 1), tsP (partsP (Lib.trimS (Lib.cut s [47]).1 [40, 41])), 0) else (0, [], 4)) := hide (by
   unfold parseN; rw [if_neg (by omega)]; rfl)
  generalize Lib.cut s [47] = cr at *
  obtain ⟨a, b, has⟩ := cr
  dsimp only at HC HPS HRES
  have hcz : [40, 41].length ≤ 100 := by decide
  have HTR := hide (fun n W => (callsIn_wide (n := n)).2 (trim_any a [40, 41] W (by have := HPS.out.2.2.1; omega) (by decide) (by decide)))
  have HDB := hide (fun n W hb => (callsIn_wide (n := n)).2 (digits_any b W (by have := HPS.out.2.2.2; omega) (hE.below hb (Nat.le_refl _))))
  have HPA := hide (fun n t W => (callsIn_wide (n := n)).2 (partsFn_any t W))
  clear hW1 hcz
  gi_upto_region 5 with (first
   | (refine ⟨trivial, rfl, CallsIn.mono (HC.out _) ?_⟩
      rintro e W2 ⟨rfl, hb⟩
      have HQ2 := hide (fun base => (HQ1.out base).below_ hb)
      have hz2 := Nat.le_trans hz1 hb.size
      clear hb))
  clear HQ1 hz1 HC
  have HTM := hide (fun n (p : List UInt8) V (hp : p.length ≤ 1000) (hb : Below w.heap.size w V) => (callsIn_wide (n := n)).2 (term_any p V hp (hE.below hb (Nat.le_refl _)) (hM.below hb (Nat.le_refl _))))
  obtain ⟨i1, hi1, hy0, hy1, hy2⟩ := info_parts Tryz.infoTerm
  cases has
  ·simp only [Bool.false_eq_true, if_false] at HRES
   obtain ⟨den, hden⟩ : ∃ den : Int, den = 1 := ⟨_, rfl⟩
   rw [← hden] at HQ2 HRES
   gi_wp2_with (first
    | (refine ⟨trivial, rfl, CallsIn.mono (HTR.out _ _) ?_⟩
       rintro e V ⟨rfl, hb⟩
       have HQ3 := hide (fun base => (HQ2.out base).below_ hb)
       have hz3 := Nat.le_trans hz2 hb.size
       clear hb)
    | (refine ⟨trivial, rfl, CallsIn.mono (HPA.out _ _ _) ?_⟩
       rintro e w1 ⟨rfl, hw1⟩
       subst w1))
   clear HQ2 hz2 hden HTR HPA HDB
   obtain ⟨l, hl⟩ : ∃ l, Lib.trimS a [40, 41] = l := ⟨_, rfl⟩
   rw [hl] at HPS HRES
   rw [hl]
   clear hl
   obtain ⟨hla, hll, _, _⟩ := HPS.out
   clear HPS
   have HG := hide (parts1_gives V.heap.size l (V.alloc (.cells #[.string ⟨l.toArray⟩] 9)) (Box.new _ _ _) (by omega) hla)
   have HPB := hide (partsP_bd l)
   clear hla
   refine wp_rangeP (gf := 88) (lb := #[.pointer (some ⟨V.heap.size, 0, none⟩)]) rfl enters_parts HG.out (Below.refl _ _) (fun b e => by rw [show b = _ from e, World.size_alloc]; omega) (fun b e => by rw [show b = _ from e, World.size_alloc]; omega) (fun _ => rfl)
    (fun pre W => okP pre = true ∧ ∃ A c, QState w (V.heap.size + 3) W den A c (tsP pre))
    (fun c pre W => c = .ret ∧ okP pre = false ∧ Blk W w.heap.size 24 #[.int .i64 0, .slice none 0 0] ∧ Box W (w.heap.size + 1) 27 (.int .i64 4) ∧ Below w.heap.size w W) ?_ ?_ ?_ ?_ ?_ ?_
   ·rintro pre W W' row ⟨h1, A, c, h2⟩ hg hr
    simp only [World.size_alloc] at hr
    exact ⟨h1, A, c, h2.grown hg (fun b e => by have := hr b e; omega)⟩
   ·rintro c pre W W' row ⟨h1, h2, h3, h4, h5⟩ hg hr
    simp only [World.size_alloc] at hr
    exact ⟨h1, h2, h3.grown hg (fun e => by have := hr _ e; omega), h4.grown hg (fun e => by have := hr _ e; omega), h5.grown hg h5.size (fun j e => by have := hr j e; omega)⟩
   ·exact ⟨rfl, none, 0, (HQ3.out _).grown (World.grownBy_alloc V _ none) (by simp)⟩
   ·rintro pre p W ⟨rest, hsp⟩ ⟨hok, A, c, hst⟩ hsz
    simp only [World.size_alloc] at hsz ⊢
    have hpl : pre.length ≤ 63 ∧ p.length ≤ 64 := by
     have h := congrArg List.length hsp
     simp only [List.length_append, List.length_cons, List.length_nil] at h
     have h2 := HPB.out.2 p (by rw [← hsp]; simp)
     have := HPB.out.1
     omega
    have htl := tsP_len pre
    have HST := hide hst
    clear hst hsp HQ3
    simp only [encL]
    gi_wp2
    refine ⟨KeepB.refl _ _, ?_⟩
    intro W2 hg2 hzz
    have HS2 := hide (HST.out.grown hg2 (fun b e => by cases e; omega))
    have hz4 : V.heap.size + 3 ≤ W2.heap.size := by omega
    clear HST hg2 hzz hsz
    have HTP := hide (fun n => HTM.out n p W2 (by omega) HS2.out.below)
    have HOK := hide (okP_snoc pre p)
    have HT0 := hide (fun h => tsP_zero pre (p := p) h)
    have HT1 := hide (fun h => tsP_snoc pre (p := p) h)
    generalize termP p = tp at *
    obtain ⟨⟨tc, tr⟩, tb⟩ := tp
    gi_upto_region 10 with (first
     | (refine ⟨trivial, rfl, CallsIn.mono (HTP.out _) ?_⟩
        rintro e W3 ⟨rfl, hb⟩
        have HS3 := hide (HS2.out.below_ hb)
        have HB3 := hide hb
        have hz5 := Nat.le_trans hz4 hb.size
        clear hb HTP))
    obtain ⟨W4, hW4⟩ : ∃ W4, W4 = W3.alloc (.cells #[.int .i64 tc, .int .i64 tr] 52) := ⟨_, rfl⟩
    have HT9 := hide (show Blk W4 W3.heap.size 52 #[.int .i64 tc, .int .i64 tr] by rw [hW4]; exact Blk.new W3 _ _)
    have HS4 : Hid (QState w (V.heap.size + 3) W4 den A c (tsP pre)) := hide (by rw [hW4]; exact HS3.out.grown (World.grownBy_alloc W3 _ none) (by simp))
    have HK4 : Hid (W2.heap.size ≤ W4.heap.size ∧ ∀ b, b < W2.heap.size → W4.heap[b]? = W2.heap[b]?) := hide (by
     have h := HB3.out.size
     rw [hW4]
     exact ⟨by simp; omega, fun b hb => (Below.heap_alloc W3 _ b (by omega)).trans (HB3.out.block b hb)⟩)
    have hz6 : W3.heap.size < W4.heap.size := by rw [hW4]; simp
    rw [← hW4]
    clear hW4 HS3 HB3 HS2
    obtain ⟨t0, t1, tf0, tf1⟩ := HT9.out.two
    cases tb
    ·have HOKf : Hid (okP (pre ++ [p]) = false) := hide (by rw [HOK.out, hok]; rfl)
     obtain ⟨x0, x1, xf0, xf1⟩ := HS4.out.res.two
     have hcc := HS4.out.code.cell
     have hcf := HS4.out.code.free
     gi_wp2
     refine ⟨⟨by simpa using HK4.out.1, fun b hb => ?_⟩, rfl, HOKf.out, ((HS4.out.res.set_ 0 _).set_ 1 _).far (by simp) _, ((HS4.out.code.far (by simp) _).far (by simp) _).set_ _,
      Below.setCell (Below.setCell (Below.setCell HS4.out.below (p := ⟨w.heap.size, 0, none⟩) (by simp) (.int .i64 0)) (p := ⟨w.heap.size, 1, none⟩) (by simp) (.slice none 0 0)) (p := ⟨w.heap.size + 1, 0, none⟩) (by simp) (.int .i64 4)⟩
     have hb2 : V.heap.size ≤ b ∧ b < V.heap.size + 3 := by rcases hb with rfl | hb <;> omega
     rw [Below.heap_setCell _ _ _ b (by show b ≠ w.heap.size + 1; omega), Below.heap_setCell _ _ _ b (by show b ≠ w.heap.size; omega), Below.heap_setCell _ _ _ b (by show b ≠ w.heap.size; omega)]
     exact HK4.out.2 b (by omega)
    ·have HOKt : Hid (okP (pre ++ [p]) = true) := hide (by rw [HOK.out, hok]; rfl)
     by_cases h0 : tc = 0
     ·subst h0
      by_cases h1 : tr = 1
      ·subst h1
       gi_wp2
       refine ⟨⟨HK4.out.1, fun b hb => HK4.out.2 b (by rcases hb with rfl | hb <;> omega)⟩, HOKt.out, ?_⟩
       have h0 : tsP (pre ++ [p]) = tsP pre := by
        have h := HT0.out
        first | exact h rfl | exact h rfl rfl | simpa using h
       rw [h0]
       exact ⟨A, c, HS4.out⟩
      ·have hne : (tr == 1) = false := by simpa using h1
       obtain ⟨z0, z1, zf0, zf1⟩ := HS4.out.own.two
       gi_wp2_with (first
        | (gi_at_builtin; refine wpListIn_append_own _ rfl _ _ 22 rfl (V.heap.size + 3) 52 i1 (.agg #[.int .i64 0, .int .i64 0]) 2 16 Tryz.underlying22 hi1 hy0 hy1 hy2 rfl (by decide) (.slice A (tsP pre).length c) (tsP pre).length _ rfl (HS4.out.row.alloc _) ⟨W4.heap.size, 0, none⟩ 1 1 [.int .i64 0, .int .i64 tr] rfl rfl (cell_new2 _ _ _ _) (by simp [Value.oneCell']) (by unfold maxLen; omega) (by omega) (by have := HK4.out.1; simp; omega) ?_
           intro v' w3 hown' hgrow _
           obtain ⟨gg, cap, rfl, hgb, hgl⟩ := World.ownsRow.form hown' (by omega)
           have HP3 := hide (HS4.out.push (t := (0, tr)) (by omega) hown' hgrow)
           have HG3 := hide hgrow
           have hx3 := (HS4.out.own.alloc (.cells #[.int .i64 0, .int .i64 tr] 52)).grown hgrow (fun e => by have := (HS4.out.row.lt _ e).1; omega)
           obtain ⟨y0, y1, yf0, yf1⟩ := hx3.two
           clear hown' hgrow hx3))
       have hsz3 := HG3.out.size
       rw [World.size_alloc] at hsz3
       refine ⟨⟨by have := HK4.out.1; simp; omega, fun b hb => ?_⟩, HOKt.out, ?_⟩
       ·have hb2 : V.heap.size ≤ b ∧ b < V.heap.size + 3 := by rcases hb with rfl | hb <;> omega
        have hb3 : b < W4.heap.size := by have := HK4.out.1; omega
        rw [Below.heap_setCell _ _ _ b (by show b ≠ w.heap.size + 2; omega), HG3.out.block b (by simp; omega) (fun e => by have := (HS4.out.row.lt b e.symm).1; omega), Below.heap_alloc W4 _ b hb3]
        exact HK4.out.2 b (by omega)
       ·have h0 : tsP (pre ++ [p]) = tsP pre ++ [(0, tr)] := HT1.out (by simp; omega)
        rw [h0]
        have hP := HP3.out
        rw [show (tsP pre).length + 1 = (tsP pre ++ [((0 : Int), (tr : Int))]).length by simp] at hP ⊢
        exact ⟨_, _, hP⟩
     ·have hne : (tc == 0) = false := by simpa using h0
      obtain ⟨z0, z1, zf0, zf1⟩ := HS4.out.own.two
      gi_wp2_with (first
       | (gi_at_builtin; refine wpListIn_append_own _ rfl _ _ 22 rfl (V.heap.size + 3) 52 i1 (.agg #[.int .i64 0, .int .i64 0]) 2 16 Tryz.underlying22 hi1 hy0 hy1 hy2 rfl (by decide) (.slice A (tsP pre).length c) (tsP pre).length _ rfl (HS4.out.row.alloc _) ⟨W4.heap.size, 0, none⟩ 1 1 [.int .i64 tc, .int .i64 tr] rfl rfl (cell_new2 _ _ _ _) (by simp [Value.oneCell']) (by unfold maxLen; omega) (by omega) (by have := HK4.out.1; simp; omega) ?_
          intro v' w3 hown' hgrow _
          obtain ⟨gg, cap, rfl, hgb, hgl⟩ := World.ownsRow.form hown' (by omega)
          have HP3 := hide (HS4.out.push (t := (tc, tr)) (by omega) hown' hgrow)
          have HG3 := hide hgrow
          have hx3 := (HS4.out.own.alloc (.cells #[.int .i64 tc, .int .i64 tr] 52)).grown hgrow (fun e => by have := (HS4.out.row.lt _ e).1; omega)
          obtain ⟨y0, y1, yf0, yf1⟩ := hx3.two
          clear hown' hgrow hx3))
      have hsz3 := HG3.out.size
      rw [World.size_alloc] at hsz3
      refine ⟨⟨by have := HK4.out.1; simp; omega, fun b hb => ?_⟩, HOKt.out, ?_⟩
      ·have hb2 : V.heap.size ≤ b ∧ b < V.heap.size + 3 := by rcases hb with rfl | hb <;> omega
       have hb3 : b < W4.heap.size := by have := HK4.out.1; omega
       rw [Below.heap_setCell _ _ _ b (by show b ≠ w.heap.size + 2; omega), HG3.out.block b (by simp; omega) (fun e => by have := (HS4.out.row.lt b e.symm).1; omega), Below.heap_alloc W4 _ b hb3]
       exact HK4.out.2 b (by omega)
      ·have h0 : tsP (pre ++ [p]) = tsP pre ++ [(tc, tr)] := HT1.out (by simp; omega)
       rw [h0]
       have hP := HP3.out
       rw [show (tsP pre).length + 1 = (tsP pre ++ [((tc : Int), (tr : Int))]).length by simp] at hP ⊢
       exact ⟨_, _, hP⟩
   ·rintro xs V2 rfl ⟨hok, A, c, hst⟩ hD
    simp only [World.size_alloc] at hD ⊢
    have HST := hide hst
    have HD := hide hD
    have hzV := lt_of_block hD
    have hz7 := hst.below.size
    rw [if_neg (by rw [hok]; decide)] at HRES
    have hTS : Terms V2 V2.heap.size A (tsP (partsP l)).length c (tsP (partsP l)) := terms_own hst.row
    have HVL := hide (fun n => (callsIn_wide (n := n)).2 (valid1_any ⟨den, A, (tsP (partsP l)).length, c, tsP (partsP l)⟩ V2.heap.size V2 hTS (Nat.le_refl _)))
    obtain ⟨gp, hgp⟩ := Option.isSome_iff_exists.1 Tryz.pow10g
    have HFM := hide (fun n W (hb : Below V2.heap.size V2 W) (hn : numOK den (tsP (partsP l)) = true) => (callsIn_wide (n := n)).2 (format_any1 den A _ c (tsP (partsP l)) V2.heap.size W (Rd.below hTS hb) hb.size hn (TabIs_below_ hgp htab (hst.below.trans (hb.mono hz7)))))
    have hNV : (⟨den, A, (tsP (partsP l)).length, c, tsP (partsP l)⟩ : NumV).ok = numOK den (tsP (partsP l)) := rfl
    rw [hNV] at HVL
    obtain ⟨v0, v1, vf0, vf1⟩ := hst.own.two
    clear hst hD hTS hNV
    have HQV : Hid (∀ W', Below V2.heap.size V2 W' → QState w (V.heap.size + 3) W' den A c (tsP (partsP l))) := hide (fun W' hb => HST.out.below_ hb)
    generalize tsP (partsP l) = ts at *
    cases hn : numOK den ts
    ·rw [hn] at HVL HRES
     have HV : Hid (parseN s = (0, [], 4)) := hide (HRES.out.trans (if_neg (by simp)))
     gi_wp2_with (first
      | (refine ⟨trivial, rfl, CallsIn.mono (HVL.out _) ?_⟩
         rintro e V3 ⟨rfl, hb3⟩
         have HQ4 := hide (HQV.out _ hb3)
         have HD3 := hide ((hb3.block _ hzV).trans HD.out)
         obtain ⟨x0, x1, xf0, xf1⟩ := HQ4.out.res.two
         have hcc := HQ4.out.code.cell
         have hcf := HQ4.out.code.free
         clear hb3))
     refine ⟨trivial, ?_⟩
     gi_wp2
     have hX := (((HQ4.out.res.set_ 0 (.int .i64 0)).set_ 1 (.slice none 0 0)).far (p := ⟨w.heap.size + 1, 0, none⟩) (by simp) (.int .i64 4))
     have hY := (((HQ4.out.code.far (p := ⟨w.heap.size, 0, none⟩) (by simp) (.int .i64 0)).far (p := ⟨w.heap.size, 1, none⟩) (by simp) (.slice none 0 0)).set_ (.int .i64 4))
     have hB := Below.setCell (Below.setCell (Below.setCell HQ4.out.below (p := ⟨w.heap.size, 0, none⟩) (by simp) (.int .i64 0)) (p := ⟨w.heap.size, 1, none⟩) (by simp) (.slice none 0 0)) (p := ⟨w.heap.size + 1, 0, none⟩) (by simp) (.int .i64 4)
     have hE1 := (Below.heap_setCell _ ⟨w.heap.size + 1, 0, none⟩ (.int .i64 4) (V.heap.size + 1) (by show _ ≠ w.heap.size + 1; omega)).trans ((Below.heap_setCell _ ⟨w.heap.size, 1, none⟩ (.slice none 0 0) (V.heap.size + 1) (by show _ ≠ w.heap.size; omega)).trans ((Below.heap_setCell _ ⟨w.heap.size, 0, none⟩ (.int .i64 0) (V.heap.size + 1) (by show _ ≠ w.heap.size; omega)).trans HD3.out))
     refine ⟨by simp, .inl ⟨_, _, rfl, run_takeDeferred hE1, ?_⟩⟩
     refine ⟨_, results_two rfl rfl rfl (Blk.of_block hX (World.putObj_heap_other (by omega))) (Box.of_block hY (World.putObj_heap_other (by omega))), ?_⟩
     rw [HV.out]
     exact ⟨none, 0, 0, rfl, ⟨rfl, .inl ⟨rfl, rfl⟩⟩, hB.grown (grown_put _ _) hB.size (fun j e => by cases e; omega)⟩
    ·rw [hn] at HVL
     have HFM1 := hide (fun n W hb => HFM.out n W hb hn)
     clear HFM
     generalize hnt : numT den ts = nt at *
     by_cases heq : nt = s
     ·have HV : Hid (parseN s = (den, ts, 0)) := hide (HRES.out.trans (if_pos ⟨hn, heq⟩))
      subst heq
      gi_wp2_with (first
       | (refine ⟨trivial, rfl, CallsIn.mono (HVL.out _) ?_⟩
          rintro e V3 ⟨rfl, hb3⟩
          have HB3 := hide hb3
          have HQ3 := hide (HQV.out _ hb3)
          obtain ⟨u0, u1, uf0, uf1⟩ := HQ3.out.own.two
          clear hb3)
       | (refine ⟨trivial, rfl, CallsIn.mono (HFM1.out _ _ HB3.out) ?_⟩
          rintro e V4 ⟨rfl, hb4⟩
          have hb5 := HB3.out.trans (hb4.mono HB3.out.size)
          have HQ4 := hide (HQV.out _ hb5)
          have HD3 := hide ((hb5.block _ hzV).trans HD.out)
          obtain ⟨x0, x1, xf0, xf1⟩ := HQ4.out.res.two
          have hcc := HQ4.out.code.cell
          have hcf := HQ4.out.code.free
          obtain ⟨s0, s1, sf0, sf1⟩ := HQ4.out.own.two
          clear hb4 hb5 u0 u1 uf0 uf1))
      have hX := (((HQ4.out.res.set_ 0 (.int .i64 den)).set_ 1 (.slice A ts.length c)).far (p := ⟨w.heap.size + 1, 0, none⟩) (by simp) (.int .i64 0))
      have hY := (((HQ4.out.code.far (p := ⟨w.heap.size, 0, none⟩) (by simp) (.int .i64 den)).far (p := ⟨w.heap.size, 1, none⟩) (by simp) (.slice A ts.length c)).set_ (.int .i64 0))
      have hB := Below.setCell (Below.setCell (Below.setCell HQ4.out.below (p := ⟨w.heap.size, 0, none⟩) (by simp) (.int .i64 den)) (p := ⟨w.heap.size, 1, none⟩) (by simp) (.slice A ts.length c)) (p := ⟨w.heap.size + 1, 0, none⟩) (by simp) (.int .i64 0)
      have hR1 := ownsRow_setCell_below HQ4.out.row (a := ⟨w.heap.size, 0, none⟩) (by show w.heap.size < _; omega) (.int .i64 den)
      have hR2 := ownsRow_setCell_below hR1 (a := ⟨w.heap.size, 1, none⟩) (by show w.heap.size < _; omega) (.slice A ts.length c)
      have hR := ownsRow_setCell_below hR2 (a := ⟨w.heap.size + 1, 0, none⟩) (by show w.heap.size + 1 < _; omega) (.int .i64 0)
      have hE1 := (Below.heap_setCell _ ⟨w.heap.size + 1, 0, none⟩ (.int .i64 0) (V.heap.size + 1) (by show _ ≠ w.heap.size + 1; omega)).trans ((Below.heap_setCell _ ⟨w.heap.size, 1, none⟩ (.slice A ts.length c) (V.heap.size + 1) (by show _ ≠ w.heap.size; omega)).trans ((Below.heap_setCell _ ⟨w.heap.size, 0, none⟩ (.int .i64 den) (V.heap.size + 1) (by show _ ≠ w.heap.size; omega)).trans HD3.out))
      refine ⟨by simp, .inl ⟨_, _, rfl, run_takeDeferred hE1, ?_⟩⟩
      refine ⟨_, results_two rfl rfl rfl (Blk.of_block hX (World.putObj_heap_other (by omega))) (Box.of_block hY (World.putObj_heap_other (by omega))), ?_⟩
      rw [HV.out]
      exact ⟨A, _, c, rfl, own_le (own_kept_of hR (grown_put (V.heap.size + 1) _) (fun g e1 e2 => by have := (hR.lt g e1).1; cases e2; omega)) (by omega), hB.grown (grown_put _ _) hB.size (fun j e => by cases e; omega)⟩
     ·have HV : Hid (parseN s = (0, [], 4)) := hide (HRES.out.trans (if_neg (fun h => heq h.2)))
      have hn1 : (nt == s) = false := by simpa using heq
      have hn2 : ¬ (⟨nt.toArray⟩ : ByteArray) = ⟨s.toArray⟩ := fun h => heq (by have := congrArg (fun b => b.data.toList) h; simpa using this)
      gi_wp2_with (first
       | (refine ⟨trivial, rfl, CallsIn.mono (HVL.out _) ?_⟩
          rintro e V3 ⟨rfl, hb3⟩
          have HB3 := hide hb3
          have HQ3 := hide (HQV.out _ hb3)
          obtain ⟨u0, u1, uf0, uf1⟩ := HQ3.out.own.two
          clear hb3)
       | (refine ⟨trivial, rfl, CallsIn.mono (HFM1.out _ _ HB3.out) ?_⟩
          rintro e V4 ⟨rfl, hb4⟩
          have hb5 := HB3.out.trans (hb4.mono HB3.out.size)
          have HQ4 := hide (HQV.out _ hb5)
          have HD3 := hide ((hb5.block _ hzV).trans HD.out)
          obtain ⟨x0, x1, xf0, xf1⟩ := HQ4.out.res.two
          have hcc := HQ4.out.code.cell
          have hcf := HQ4.out.code.free
          obtain ⟨s0, s1, sf0, sf1⟩ := HQ4.out.own.two
          clear hb4 hb5 u0 u1 uf0 uf1))
      gi_wp2
      have hX := (((HQ4.out.res.set_ 0 (.int .i64 0)).set_ 1 (.slice none 0 0)).far (p := ⟨w.heap.size + 1, 0, none⟩) (by simp) (.int .i64 4))
      have hY := (((HQ4.out.code.far (p := ⟨w.heap.size, 0, none⟩) (by simp) (.int .i64 0)).far (p := ⟨w.heap.size, 1, none⟩) (by simp) (.slice none 0 0)).set_ (.int .i64 4))
      have hB := Below.setCell (Below.setCell (Below.setCell HQ4.out.below (p := ⟨w.heap.size, 0, none⟩) (by simp) (.int .i64 0)) (p := ⟨w.heap.size, 1, none⟩) (by simp) (.slice none 0 0)) (p := ⟨w.heap.size + 1, 0, none⟩) (by simp) (.int .i64 4)
      have hE1 := (Below.heap_setCell _ ⟨w.heap.size + 1, 0, none⟩ (.int .i64 4) (V.heap.size + 1) (by show _ ≠ w.heap.size + 1; omega)).trans ((Below.heap_setCell _ ⟨w.heap.size, 1, none⟩ (.slice none 0 0) (V.heap.size + 1) (by show _ ≠ w.heap.size; omega)).trans ((Below.heap_setCell _ ⟨w.heap.size, 0, none⟩ (.int .i64 0) (V.heap.size + 1) (by show _ ≠ w.heap.size; omega)).trans HD3.out))
      refine ⟨by simp, .inl ⟨_, _, rfl, run_takeDeferred hE1, ?_⟩⟩
      refine ⟨_, results_two rfl rfl rfl (Blk.of_block hX (World.putObj_heap_other (by omega))) (Box.of_block hY (World.putObj_heap_other (by omega))), ?_⟩
      rw [HV.out]
      exact ⟨none, 0, 0, rfl, ⟨rfl, .inl ⟨rfl, rfl⟩⟩, hB.grown (grown_put _ _) hB.size (fun j e => by cases e; omega)⟩
   ·rintro cd pre W2 ⟨rest, hsp⟩ ⟨rfl, hok, hb1, hb2, hB⟩ hD
    have hbad : okP (partsP l) = false := by rw [← hsp]; exact okP_pre hok
    have HV : Hid (parseN s = (0, [], 4)) := hide (HRES.out.trans (if_pos hbad))
    simp only [World.size_alloc] at hD ⊢
    have hzV := lt_of_block hD
    have HX := hide hb1; have HY := hide hb2; have HB := hide hB; have HD := hide hD
    clear hb1 hb2 hB hD hok hsp HRES
    gi_wp2
    refine ⟨by simp, .inl ⟨_, _, rfl, run_takeDeferred HD.out, ?_⟩⟩
    refine ⟨_, results_two rfl rfl rfl (Blk.of_block HX.out (World.putObj_heap_other (by omega))) (Box.of_block HY.out (World.putObj_heap_other (by omega))), ?_⟩
    rw [HV.out]
    exact ⟨none, 0, 0, rfl, ⟨rfl, .inl ⟨rfl, rfl⟩⟩, HB.out.grown (grown_put _ _) HB.out.size (fun j e => by cases e; omega)⟩
  ·simp only [if_true] at HRES
   generalize digS b = db at *
   obtain ⟨den, dok⟩ := db
   dsimp only at HRES HDB
   obtain ⟨q0, q1, qf0, qf1⟩ := (HQ2.out 0).own.two
   gi_upto_region 7 with (first
    | (refine ⟨trivial, rfl, CallsIn.mono (HDB.out _ _ (HQ2.out 0).below) ?_⟩
       rintro e W3 ⟨rfl, hb⟩
       have HQ5 := hide (fun base => (HQ2.out base).below_ hb)
       have hz5 := Nat.le_trans hz2 hb.size
       clear hb q0 q1 qf0 qf1
       obtain ⟨q0, q1, qf0, qf1⟩ := (HQ5.out 0).own.two))
   have HQ6 : Hid (∀ base, QState w base (W3.setCell ⟨w.heap.size + 2, 0, none⟩ (.int .i64 den)) den none 0 []) := hide (fun base => by
    have h := (HQ5.out (w.heap.size + 3)).den_ (by omega) den
    exact ⟨h.res, h.code, h.own, ⟨rfl, .inl ⟨rfl, rfl⟩⟩, h.below⟩)
   have hz6 : w.heap.size + 3 ≤ (W3.setCell ⟨w.heap.size + 2, 0, none⟩ (.int .i64 den)).heap.size := by simp; omega
   clear HQ2 hz2 HQ5 hz5 q0 q1 qf0 qf1
   generalize W3.setCell ⟨w.heap.size + 2, 0, none⟩ (.int .i64 den) = W4 at *
   have HQ2 := hide HQ6.out
   have hz2 := hz6
   clear HQ6 hz6
   have hden : True := trivial
   gi_wp2_with (first
    | (refine ⟨trivial, rfl, CallsIn.mono (HTR.out _ _) ?_⟩
       rintro e V ⟨rfl, hb⟩
       have HQ3 := hide (fun base => (HQ2.out base).below_ hb)
       have hz3 := Nat.le_trans hz2 hb.size
       clear hb)
    | (refine ⟨trivial, rfl, CallsIn.mono (HPA.out _ _ _) ?_⟩
       rintro e w1 ⟨rfl, hw1⟩
       subst w1))
   clear HQ2 hz2 hden HTR HPA HDB
   obtain ⟨l, hl⟩ : ∃ l, Lib.trimS a [40, 41] = l := ⟨_, rfl⟩
   rw [hl] at HPS HRES
   rw [hl]
   clear hl
   obtain ⟨hla, hll, _, _⟩ := HPS.out
   clear HPS
   have HG := hide (parts1_gives V.heap.size l (V.alloc (.cells #[.string ⟨l.toArray⟩] 9)) (Box.new _ _ _) (by omega) hla)
   have HPB := hide (partsP_bd l)
   clear hla
   refine wp_rangeP (gf := 88) (lb := #[.pointer (some ⟨V.heap.size, 0, none⟩)]) rfl enters_parts HG.out (Below.refl _ _) (fun b e => by rw [show b = _ from e, World.size_alloc]; omega) (fun b e => by rw [show b = _ from e, World.size_alloc]; omega) (fun _ => rfl)
    (fun pre W => okP pre = true ∧ ∃ A c, QState w (V.heap.size + 3) W den A c (tsP pre))
    (fun c pre W => c = .ret ∧ okP pre = false ∧ Blk W w.heap.size 24 #[.int .i64 0, .slice none 0 0] ∧ Box W (w.heap.size + 1) 27 (.int .i64 4) ∧ Below w.heap.size w W) ?_ ?_ ?_ ?_ ?_ ?_
   ·rintro pre W W' row ⟨h1, A, c, h2⟩ hg hr
    simp only [World.size_alloc] at hr
    exact ⟨h1, A, c, h2.grown hg (fun b e => by have := hr b e; omega)⟩
   ·rintro c pre W W' row ⟨h1, h2, h3, h4, h5⟩ hg hr
    simp only [World.size_alloc] at hr
    exact ⟨h1, h2, h3.grown hg (fun e => by have := hr _ e; omega), h4.grown hg (fun e => by have := hr _ e; omega), h5.grown hg h5.size (fun j e => by have := hr j e; omega)⟩
   ·exact ⟨rfl, none, 0, (HQ3.out _).grown (World.grownBy_alloc V _ none) (by simp)⟩
   ·rintro pre p W ⟨rest, hsp⟩ ⟨hok, A, c, hst⟩ hsz
    simp only [World.size_alloc] at hsz ⊢
    have hpl : pre.length ≤ 63 ∧ p.length ≤ 64 := by
     have h := congrArg List.length hsp
     simp only [List.length_append, List.length_cons, List.length_nil] at h
     have h2 := HPB.out.2 p (by rw [← hsp]; simp)
     have := HPB.out.1
     omega
    have htl := tsP_len pre
    have HST := hide hst
    clear hst hsp HQ3
    simp only [encL]
    gi_wp2
    refine ⟨KeepB.refl _ _, ?_⟩
    intro W2 hg2 hzz
    have HS2 := hide (HST.out.grown hg2 (fun b e => by cases e; omega))
    have hz4 : V.heap.size + 3 ≤ W2.heap.size := by omega
    clear HST hg2 hzz hsz
    have HTP := hide (fun n => HTM.out n p W2 (by omega) HS2.out.below)
    have HOK := hide (okP_snoc pre p)
    have HT0 := hide (fun h => tsP_zero pre (p := p) h)
    have HT1 := hide (fun h => tsP_snoc pre (p := p) h)
    generalize termP p = tp at *
    obtain ⟨⟨tc, tr⟩, tb⟩ := tp
    gi_upto_region 10 with (first
     | (refine ⟨trivial, rfl, CallsIn.mono (HTP.out _) ?_⟩
        rintro e W3 ⟨rfl, hb⟩
        have HS3 := hide (HS2.out.below_ hb)
        have HB3 := hide hb
        have hz5 := Nat.le_trans hz4 hb.size
        clear hb HTP))
    obtain ⟨W4, hW4⟩ : ∃ W4, W4 = W3.alloc (.cells #[.int .i64 tc, .int .i64 tr] 52) := ⟨_, rfl⟩
    have HT9 := hide (show Blk W4 W3.heap.size 52 #[.int .i64 tc, .int .i64 tr] by rw [hW4]; exact Blk.new W3 _ _)
    have HS4 : Hid (QState w (V.heap.size + 3) W4 den A c (tsP pre)) := hide (by rw [hW4]; exact HS3.out.grown (World.grownBy_alloc W3 _ none) (by simp))
    have HK4 : Hid (W2.heap.size ≤ W4.heap.size ∧ ∀ b, b < W2.heap.size → W4.heap[b]? = W2.heap[b]?) := hide (by
     have h := HB3.out.size
     rw [hW4]
     exact ⟨by simp; omega, fun b hb => (Below.heap_alloc W3 _ b (by omega)).trans (HB3.out.block b hb)⟩)
    have hz6 : W3.heap.size < W4.heap.size := by rw [hW4]; simp
    rw [← hW4]
    clear hW4 HS3 HB3 HS2
    obtain ⟨t0, t1, tf0, tf1⟩ := HT9.out.two
    cases tb
    ·have HOKf : Hid (okP (pre ++ [p]) = false) := hide (by rw [HOK.out, hok]; rfl)
     obtain ⟨x0, x1, xf0, xf1⟩ := HS4.out.res.two
     have hcc := HS4.out.code.cell
     have hcf := HS4.out.code.free
     gi_wp2
     refine ⟨⟨by simpa using HK4.out.1, fun b hb => ?_⟩, rfl, HOKf.out, ((HS4.out.res.set_ 0 _).set_ 1 _).far (by simp) _, ((HS4.out.code.far (by simp) _).far (by simp) _).set_ _,
      Below.setCell (Below.setCell (Below.setCell HS4.out.below (p := ⟨w.heap.size, 0, none⟩) (by simp) (.int .i64 0)) (p := ⟨w.heap.size, 1, none⟩) (by simp) (.slice none 0 0)) (p := ⟨w.heap.size + 1, 0, none⟩) (by simp) (.int .i64 4)⟩
     have hb2 : V.heap.size ≤ b ∧ b < V.heap.size + 3 := by rcases hb with rfl | hb <;> omega
     rw [Below.heap_setCell _ _ _ b (by show b ≠ w.heap.size + 1; omega), Below.heap_setCell _ _ _ b (by show b ≠ w.heap.size; omega), Below.heap_setCell _ _ _ b (by show b ≠ w.heap.size; omega)]
     exact HK4.out.2 b (by omega)
    ·have HOKt : Hid (okP (pre ++ [p]) = true) := hide (by rw [HOK.out, hok]; rfl)
     by_cases h0 : tc = 0
     ·subst h0
      by_cases h1 : tr = 1
      ·subst h1
       gi_wp2
       refine ⟨⟨HK4.out.1, fun b hb => HK4.out.2 b (by rcases hb with rfl | hb <;> omega)⟩, HOKt.out, ?_⟩
       have h0 : tsP (pre ++ [p]) = tsP pre := by
        have h := HT0.out
        first | exact h rfl | exact h rfl rfl | simpa using h
       rw [h0]
       exact ⟨A, c, HS4.out⟩
      ·have hne : (tr == 1) = false := by simpa using h1
       obtain ⟨z0, z1, zf0, zf1⟩ := HS4.out.own.two
       gi_wp2_with (first
        | (gi_at_builtin; refine wpListIn_append_own _ rfl _ _ 22 rfl (V.heap.size + 3) 52 i1 (.agg #[.int .i64 0, .int .i64 0]) 2 16 Tryz.underlying22 hi1 hy0 hy1 hy2 rfl (by decide) (.slice A (tsP pre).length c) (tsP pre).length _ rfl (HS4.out.row.alloc _) ⟨W4.heap.size, 0, none⟩ 1 1 [.int .i64 0, .int .i64 tr] rfl rfl (cell_new2 _ _ _ _) (by simp [Value.oneCell']) (by unfold maxLen; omega) (by omega) (by have := HK4.out.1; simp; omega) ?_
           intro v' w3 hown' hgrow _
           obtain ⟨gg, cap, rfl, hgb, hgl⟩ := World.ownsRow.form hown' (by omega)
           have HP3 := hide (HS4.out.push (t := (0, tr)) (by omega) hown' hgrow)
           have HG3 := hide hgrow
           have hx3 := (HS4.out.own.alloc (.cells #[.int .i64 0, .int .i64 tr] 52)).grown hgrow (fun e => by have := (HS4.out.row.lt _ e).1; omega)
           obtain ⟨y0, y1, yf0, yf1⟩ := hx3.two
           clear hown' hgrow hx3))
       have hsz3 := HG3.out.size
       rw [World.size_alloc] at hsz3
       refine ⟨⟨by have := HK4.out.1; simp; omega, fun b hb => ?_⟩, HOKt.out, ?_⟩
       ·have hb2 : V.heap.size ≤ b ∧ b < V.heap.size + 3 := by rcases hb with rfl | hb <;> omega
        have hb3 : b < W4.heap.size := by have := HK4.out.1; omega
        rw [Below.heap_setCell _ _ _ b (by show b ≠ w.heap.size + 2; omega), HG3.out.block b (by simp; omega) (fun e => by have := (HS4.out.row.lt b e.symm).1; omega), Below.heap_alloc W4 _ b hb3]
        exact HK4.out.2 b (by omega)
       ·have h0 : tsP (pre ++ [p]) = tsP pre ++ [(0, tr)] := HT1.out (by simp; omega)
        rw [h0]
        have hP := HP3.out
        rw [show (tsP pre).length + 1 = (tsP pre ++ [((0 : Int), (tr : Int))]).length by simp] at hP ⊢
        exact ⟨_, _, hP⟩
     ·have hne : (tc == 0) = false := by simpa using h0
      obtain ⟨z0, z1, zf0, zf1⟩ := HS4.out.own.two
      gi_wp2_with (first
       | (gi_at_builtin; refine wpListIn_append_own _ rfl _ _ 22 rfl (V.heap.size + 3) 52 i1 (.agg #[.int .i64 0, .int .i64 0]) 2 16 Tryz.underlying22 hi1 hy0 hy1 hy2 rfl (by decide) (.slice A (tsP pre).length c) (tsP pre).length _ rfl (HS4.out.row.alloc _) ⟨W4.heap.size, 0, none⟩ 1 1 [.int .i64 tc, .int .i64 tr] rfl rfl (cell_new2 _ _ _ _) (by simp [Value.oneCell']) (by unfold maxLen; omega) (by omega) (by have := HK4.out.1; simp; omega) ?_
          intro v' w3 hown' hgrow _
          obtain ⟨gg, cap, rfl, hgb, hgl⟩ := World.ownsRow.form hown' (by omega)
          have HP3 := hide (HS4.out.push (t := (tc, tr)) (by omega) hown' hgrow)
          have HG3 := hide hgrow
          have hx3 := (HS4.out.own.alloc (.cells #[.int .i64 tc, .int .i64 tr] 52)).grown hgrow (fun e => by have := (HS4.out.row.lt _ e).1; omega)
          obtain ⟨y0, y1, yf0, yf1⟩ := hx3.two
          clear hown' hgrow hx3))
      have hsz3 := HG3.out.size
      rw [World.size_alloc] at hsz3
      refine ⟨⟨by have := HK4.out.1; simp; omega, fun b hb => ?_⟩, HOKt.out, ?_⟩
      ·have hb2 : V.heap.size ≤ b ∧ b < V.heap.size + 3 := by rcases hb with rfl | hb <;> omega
       have hb3 : b < W4.heap.size := by have := HK4.out.1; omega
       rw [Below.heap_setCell _ _ _ b (by show b ≠ w.heap.size + 2; omega), HG3.out.block b (by simp; omega) (fun e => by have := (HS4.out.row.lt b e.symm).1; omega), Below.heap_alloc W4 _ b hb3]
       exact HK4.out.2 b (by omega)
      ·have h0 : tsP (pre ++ [p]) = tsP pre ++ [(tc, tr)] := HT1.out (by simp; omega)
       rw [h0]
       have hP := HP3.out
       rw [show (tsP pre).length + 1 = (tsP pre ++ [((tc : Int), (tr : Int))]).length by simp] at hP ⊢
       exact ⟨_, _, hP⟩
   ·rintro xs V2 rfl ⟨hok, A, c, hst⟩ hD
    simp only [World.size_alloc] at hD ⊢
    have HST := hide hst
    have HD := hide hD
    have hzV := lt_of_block hD
    have hz7 := hst.below.size
    rw [if_neg (by rw [hok]; decide)] at HRES
    have hTS : Terms V2 V2.heap.size A (tsP (partsP l)).length c (tsP (partsP l)) := terms_own hst.row
    have HVL := hide (fun n => (callsIn_wide (n := n)).2 (valid1_any ⟨den, A, (tsP (partsP l)).length, c, tsP (partsP l)⟩ V2.heap.size V2 hTS (Nat.le_refl _)))
    obtain ⟨gp, hgp⟩ := Option.isSome_iff_exists.1 Tryz.pow10g
    have HFM := hide (fun n W (hb : Below V2.heap.size V2 W) (hn : numOK den (tsP (partsP l)) = true) => (callsIn_wide (n := n)).2 (format_any1 den A _ c (tsP (partsP l)) V2.heap.size W (Rd.below hTS hb) hb.size hn (TabIs_below_ hgp htab (hst.below.trans (hb.mono hz7)))))
    have hNV : (⟨den, A, (tsP (partsP l)).length, c, tsP (partsP l)⟩ : NumV).ok = numOK den (tsP (partsP l)) := rfl
    rw [hNV] at HVL
    obtain ⟨v0, v1, vf0, vf1⟩ := hst.own.two
    clear hst hD hTS hNV
    have HQV : Hid (∀ W', Below V2.heap.size V2 W' → QState w (V.heap.size + 3) W' den A c (tsP (partsP l))) := hide (fun W' hb => HST.out.below_ hb)
    generalize tsP (partsP l) = ts at *
    cases hn : numOK den ts
    ·rw [hn] at HVL HRES
     have HV : Hid (parseN s = (0, [], 4)) := hide (HRES.out.trans (if_neg (by simp)))
     gi_wp2_with (first
      | (refine ⟨trivial, rfl, CallsIn.mono (HVL.out _) ?_⟩
         rintro e V3 ⟨rfl, hb3⟩
         have HQ4 := hide (HQV.out _ hb3)
         have HD3 := hide ((hb3.block _ hzV).trans HD.out)
         obtain ⟨x0, x1, xf0, xf1⟩ := HQ4.out.res.two
         have hcc := HQ4.out.code.cell
         have hcf := HQ4.out.code.free
         clear hb3))
     refine ⟨trivial, ?_⟩
     gi_wp2
     have hX := (((HQ4.out.res.set_ 0 (.int .i64 0)).set_ 1 (.slice none 0 0)).far (p := ⟨w.heap.size + 1, 0, none⟩) (by simp) (.int .i64 4))
     have hY := (((HQ4.out.code.far (p := ⟨w.heap.size, 0, none⟩) (by simp) (.int .i64 0)).far (p := ⟨w.heap.size, 1, none⟩) (by simp) (.slice none 0 0)).set_ (.int .i64 4))
     have hB := Below.setCell (Below.setCell (Below.setCell HQ4.out.below (p := ⟨w.heap.size, 0, none⟩) (by simp) (.int .i64 0)) (p := ⟨w.heap.size, 1, none⟩) (by simp) (.slice none 0 0)) (p := ⟨w.heap.size + 1, 0, none⟩) (by simp) (.int .i64 4)
     have hE1 := (Below.heap_setCell _ ⟨w.heap.size + 1, 0, none⟩ (.int .i64 4) (V.heap.size + 1) (by show _ ≠ w.heap.size + 1; omega)).trans ((Below.heap_setCell _ ⟨w.heap.size, 1, none⟩ (.slice none 0 0) (V.heap.size + 1) (by show _ ≠ w.heap.size; omega)).trans ((Below.heap_setCell _ ⟨w.heap.size, 0, none⟩ (.int .i64 0) (V.heap.size + 1) (by show _ ≠ w.heap.size; omega)).trans HD3.out))
     refine ⟨by simp, .inl ⟨_, _, rfl, run_takeDeferred hE1, ?_⟩⟩
     refine ⟨_, results_two rfl rfl rfl (Blk.of_block hX (World.putObj_heap_other (by omega))) (Box.of_block hY (World.putObj_heap_other (by omega))), ?_⟩
     rw [HV.out]
     exact ⟨none, 0, 0, rfl, ⟨rfl, .inl ⟨rfl, rfl⟩⟩, hB.grown (grown_put _ _) hB.size (fun j e => by cases e; omega)⟩
    ·rw [hn] at HVL
     have HFM1 := hide (fun n W hb => HFM.out n W hb hn)
     clear HFM
     generalize hnt : numT den ts = nt at *
     by_cases heq : nt = s
     ·have HV : Hid (parseN s = (den, ts, 0)) := hide (HRES.out.trans (if_pos ⟨hn, heq⟩))
      subst heq
      gi_wp2_with (first
       | (refine ⟨trivial, rfl, CallsIn.mono (HVL.out _) ?_⟩
          rintro e V3 ⟨rfl, hb3⟩
          have HB3 := hide hb3
          have HQ3 := hide (HQV.out _ hb3)
          obtain ⟨u0, u1, uf0, uf1⟩ := HQ3.out.own.two
          clear hb3)
       | (refine ⟨trivial, rfl, CallsIn.mono (HFM1.out _ _ HB3.out) ?_⟩
          rintro e V4 ⟨rfl, hb4⟩
          have hb5 := HB3.out.trans (hb4.mono HB3.out.size)
          have HQ4 := hide (HQV.out _ hb5)
          have HD3 := hide ((hb5.block _ hzV).trans HD.out)
          obtain ⟨x0, x1, xf0, xf1⟩ := HQ4.out.res.two
          have hcc := HQ4.out.code.cell
          have hcf := HQ4.out.code.free
          obtain ⟨s0, s1, sf0, sf1⟩ := HQ4.out.own.two
          clear hb4 hb5 u0 u1 uf0 uf1))
      have hX := (((HQ4.out.res.set_ 0 (.int .i64 den)).set_ 1 (.slice A ts.length c)).far (p := ⟨w.heap.size + 1, 0, none⟩) (by simp) (.int .i64 0))
      have hY := (((HQ4.out.code.far (p := ⟨w.heap.size, 0, none⟩) (by simp) (.int .i64 den)).far (p := ⟨w.heap.size, 1, none⟩) (by simp) (.slice A ts.length c)).set_ (.int .i64 0))
      have hB := Below.setCell (Below.setCell (Below.setCell HQ4.out.below (p := ⟨w.heap.size, 0, none⟩) (by simp) (.int .i64 den)) (p := ⟨w.heap.size, 1, none⟩) (by simp) (.slice A ts.length c)) (p := ⟨w.heap.size + 1, 0, none⟩) (by simp) (.int .i64 0)
      have hR1 := ownsRow_setCell_below HQ4.out.row (a := ⟨w.heap.size, 0, none⟩) (by show w.heap.size < _; omega) (.int .i64 den)
      have hR2 := ownsRow_setCell_below hR1 (a := ⟨w.heap.size, 1, none⟩) (by show w.heap.size < _; omega) (.slice A ts.length c)
      have hR := ownsRow_setCell_below hR2 (a := ⟨w.heap.size + 1, 0, none⟩) (by show w.heap.size + 1 < _; omega) (.int .i64 0)
      have hE1 := (Below.heap_setCell _ ⟨w.heap.size + 1, 0, none⟩ (.int .i64 0) (V.heap.size + 1) (by show _ ≠ w.heap.size + 1; omega)).trans ((Below.heap_setCell _ ⟨w.heap.size, 1, none⟩ (.slice A ts.length c) (V.heap.size + 1) (by show _ ≠ w.heap.size; omega)).trans ((Below.heap_setCell _ ⟨w.heap.size, 0, none⟩ (.int .i64 den) (V.heap.size + 1) (by show _ ≠ w.heap.size; omega)).trans HD3.out))
      refine ⟨by simp, .inl ⟨_, _, rfl, run_takeDeferred hE1, ?_⟩⟩
      refine ⟨_, results_two rfl rfl rfl (Blk.of_block hX (World.putObj_heap_other (by omega))) (Box.of_block hY (World.putObj_heap_other (by omega))), ?_⟩
      rw [HV.out]
      exact ⟨A, _, c, rfl, own_le (own_kept_of hR (grown_put (V.heap.size + 1) _) (fun g e1 e2 => by have := (hR.lt g e1).1; cases e2; omega)) (by omega), hB.grown (grown_put _ _) hB.size (fun j e => by cases e; omega)⟩
     ·have HV : Hid (parseN s = (0, [], 4)) := hide (HRES.out.trans (if_neg (fun h => heq h.2)))
      have hn1 : (nt == s) = false := by simpa using heq
      have hn2 : ¬ (⟨nt.toArray⟩ : ByteArray) = ⟨s.toArray⟩ := fun h => heq (by have := congrArg (fun b => b.data.toList) h; simpa using this)
      gi_wp2_with (first
       | (refine ⟨trivial, rfl, CallsIn.mono (HVL.out _) ?_⟩
          rintro e V3 ⟨rfl, hb3⟩
          have HB3 := hide hb3
          have HQ3 := hide (HQV.out _ hb3)
          obtain ⟨u0, u1, uf0, uf1⟩ := HQ3.out.own.two
          clear hb3)
       | (refine ⟨trivial, rfl, CallsIn.mono (HFM1.out _ _ HB3.out) ?_⟩
          rintro e V4 ⟨rfl, hb4⟩
          have hb5 := HB3.out.trans (hb4.mono HB3.out.size)
          have HQ4 := hide (HQV.out _ hb5)
          have HD3 := hide ((hb5.block _ hzV).trans HD.out)
          obtain ⟨x0, x1, xf0, xf1⟩ := HQ4.out.res.two
          have hcc := HQ4.out.code.cell
          have hcf := HQ4.out.code.free
          obtain ⟨s0, s1, sf0, sf1⟩ := HQ4.out.own.two
          clear hb4 hb5 u0 u1 uf0 uf1))
      gi_wp2
      have hX := (((HQ4.out.res.set_ 0 (.int .i64 0)).set_ 1 (.slice none 0 0)).far (p := ⟨w.heap.size + 1, 0, none⟩) (by simp) (.int .i64 4))
      have hY := (((HQ4.out.code.far (p := ⟨w.heap.size, 0, none⟩) (by simp) (.int .i64 0)).far (p := ⟨w.heap.size, 1, none⟩) (by simp) (.slice none 0 0)).set_ (.int .i64 4))
      have hB := Below.setCell (Below.setCell (Below.setCell HQ4.out.below (p := ⟨w.heap.size, 0, none⟩) (by simp) (.int .i64 0)) (p := ⟨w.heap.size, 1, none⟩) (by simp) (.slice none 0 0)) (p := ⟨w.heap.size + 1, 0, none⟩) (by simp) (.int .i64 4)
      have hE1 := (Below.heap_setCell _ ⟨w.heap.size + 1, 0, none⟩ (.int .i64 4) (V.heap.size + 1) (by show _ ≠ w.heap.size + 1; omega)).trans ((Below.heap_setCell _ ⟨w.heap.size, 1, none⟩ (.slice none 0 0) (V.heap.size + 1) (by show _ ≠ w.heap.size; omega)).trans ((Below.heap_setCell _ ⟨w.heap.size, 0, none⟩ (.int .i64 0) (V.heap.size + 1) (by show _ ≠ w.heap.size; omega)).trans HD3.out))
      refine ⟨by simp, .inl ⟨_, _, rfl, run_takeDeferred hE1, ?_⟩⟩
      refine ⟨_, results_two rfl rfl rfl (Blk.of_block hX (World.putObj_heap_other (by omega))) (Box.of_block hY (World.putObj_heap_other (by omega))), ?_⟩
      rw [HV.out]
      exact ⟨none, 0, 0, rfl, ⟨rfl, .inl ⟨rfl, rfl⟩⟩, hB.grown (grown_put _ _) hB.size (fun j e => by cases e; omega)⟩
   ·rintro cd pre W2 ⟨rest, hsp⟩ ⟨rfl, hok, hb1, hb2, hB⟩ hD
    have hbad : okP (partsP l) = false := by rw [← hsp]; exact okP_pre hok
    have HV : Hid (parseN s = (0, [], 4)) := hide (HRES.out.trans (if_pos hbad))
    simp only [World.size_alloc] at hD ⊢
    have hzV := lt_of_block hD
    have HX := hide hb1; have HY := hide hb2; have HB := hide hB; have HD := hide hD
    clear hb1 hb2 hB hD hok hsp HRES
    gi_wp2
    refine ⟨by simp, .inl ⟨_, _, rfl, run_takeDeferred HD.out, ?_⟩⟩
    refine ⟨_, results_two rfl rfl rfl (Blk.of_block HX.out (World.putObj_heap_other (by omega))) (Box.of_block HY.out (World.putObj_heap_other (by omega))), ?_⟩
    rw [HV.out]
    exact ⟨none, 0, 0, rfl, ⟨rfl, .inl ⟨rfl, rfl⟩⟩, HB.out.grown (grown_put _ _) HB.out.size (fun j e => by cases e; omega)⟩
end Go.Proofs.YthkblgglmohciaaGreatDoor
