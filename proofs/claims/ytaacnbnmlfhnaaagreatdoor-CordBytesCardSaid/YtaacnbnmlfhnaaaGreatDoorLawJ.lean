/-
  chitilaw02.CordBytes returns true.
-/
import Derived.Test.YtaacnbnmlfhnaaaGreatDoorLawI
import Derived.Test.YtaacnbnmlfhnaaaGreatDoorTextB
import Derived.Test.YtaacnbnmlfhnaaaGreatDoorKnown
set_option linter.unusedVariables false
set_option linter.unusedSimpArgs false
namespace Go.Proofs.YtaacnbnmlfhnaaaGreatDoor
open Go.RowKit

theorem itoa_len4 : ∀ m : Nat, m < 1001 → (Lib.itoa (m : Int)).length ≤ 4 := by decide +kernel
theorem itoa_lenI {m : Int} (h : 0 ≤ m ∧ m ≤ 1000) : (Lib.itoa m).length ≤ 4 := by
  obtain ⟨k, rfl⟩ := Int.eq_ofNat_of_zero_le h.1
  exact itoa_len4 k (by omega)
theorem pieceT_len : ∀ (ms : List Int) (ld : List UInt8), ld.length ≤ 3 → (∀ m ∈ ms, 0 ≤ m ∧ m ≤ 1000) → (pieceT ld ms).length ≤ 7 * ms.length
  | [], _, _, _ => by simp [pieceT]
  | m :: ms, ld, hl, hm => by
    rw [pieceT_cons, List.length_append, List.length_append, List.length_cons]
    have h1 := itoa_lenI (hm m (by simp))
    have h2 := pieceT_len ms [42] (by decide) (fun x hx => hm x (by simp [hx]))
    omega
theorem flatT_len : ∀ (l : List (Bool × List Int)), (∀ p ∈ l, pieceOK p = true) → (flatT l).length ≤ 42 * l.length
  | [], _ => by simp [flatT]
  | p :: l, h => by
    have h2 := flatT_len l (fun q hq => h q (by simp [hq]))
    have h3 := pieceT_len p.2 (leadT p.1) (by cases p.1 <;> decide) (pieceOK_mem (h p (by simp))).2
    have h4 : p.2.length ≤ 6 := by
      have h5 := h p (by simp)
      simp only [pieceOK, Bool.and_eq_true, inB, decide_eq_true_eq] at h5
      omega
    have e : flatT (p :: l) = pieceT (leadT p.1) p.2 ++ flatT l := by unfold flatT; rw [List.flatMap_cons]
    rw [e, List.length_append, List.length_cons]
    omega
theorem textS_len {wh : Int} {l : List (Bool × List Int)} (h : oldOK wh l = true) : (textS wh l).length ≤ 1000 := by
  obtain ⟨hw, h8, hp⟩ := oldOK_split h
  have h1 := itoa_lenI hw
  have h2 := flatT_len l hp
  have e : textS wh l = Lib.itoa wh ++ flatT l := rfl
  rw [e, List.length_append]
  omega
/-- A text less its byte at a place. -/
def cutB (t : ByteArray) (k : Nat) : ByteArray := t.extract 0 k ++ t.extract (k + 1) t.size
theorem cutB_size {t : ByteArray} {k : Nat} (h : k < t.size) : (cutB t k).size + 1 = t.size := by
  unfold cutB
  rw [ByteArray.size_append, ByteArray.size_extract, ByteArray.size_extract]
  omega
theorem oldOK_small {wh : Int} {l : List PieceV} (h : oldOK wh (l.map PieceV.flat) = true) : l.length ≤ 1000 ∧ ∀ p ∈ l, p.ms.length ≤ 1000 := by
  obtain ⟨_, h2, h3⟩ := oldOK_parts h
  rw [List.length_map] at h2
  refine ⟨by omega, fun p hp => ?_⟩
  have h4 : p.ms.length ≤ 6 := (h3 p.flat (List.mem_map_of_mem hp)).2.1
  omega
theorem large_small {l : List PieceV} (h : largeS (l.map PieceV.flat) = false) : l.length ≤ 1000 ∧ ∀ p ∈ l, p.ms.length ≤ 1000 := by
  obtain ⟨h2, h3⟩ := largeS_not h
  rw [List.length_map] at h2
  refine ⟨by omega, fun p hp => ?_⟩
  have h4 : p.ms.length ≤ 10 := h3 p.flat (List.mem_map_of_mem hp)
  omega

set_option maxHeartbeats 8000000 in
set_option maxRecDepth 100000 in
theorem bytes_any (wh : Int) (A : Option Addr) (n c : Nat) (l : List PieceV) (s : ByteArray) (at_ : Int) (w : World) (hp : PiecesQ w w.heap.size A n c l) (hwh : -9223372036854775808 ≤ wh ∧ wh ≤ 9223372036854775807)
    (hms : ∀ p ∈ l, ∀ m ∈ p.ms, -9223372036854775808 ≤ m ∧ m ≤ 9223372036854775807) (hs : s.size ≤ maxLen) (hat : 0 ≤ at_ ∧ at_ ≤ 65535)
    (hE : ErrVars w) (htab : Lib.TabIs Tryz.prog w "internal/strconv.uint64pow10" .u64 Lib.pow10Tab) :
    Calls Tryz.prog 5 #[.agg #[.int .i64 wh, .slice A n c], .string s, .int .u16 at_] w fun e w' => e = .returned (.bool true) ∧ Below w.heap.size w w' := by
  obtain ⟨gp, hgp⟩ := Option.isSome_iff_exists.1 Tryz.pow10g
  have HK : Hid (∀ W, Below w.heap.size w W → Calls Tryz.prog 17 #[] W fun e w' => e = .returned (.bool true) ∧ Below W.heap.size W w') := hide (fun W hW => known_any W (hE.below hW (Nat.le_refl _)) (TabIs_below_ hgp htab hW))
  have HPAR := hide (fun (t : ByteArray) W (hb : Below w.heap.size w W) => parse_any t W (hE.below hb (Nat.le_refl _)) (TabIs_below_ hgp htab hb))
  have HTB := hide (fun W (hb : Below w.heap.size w W) => TabIs_below_ hgp htab hb)
  have hl := hp.len
  subst hl
  unfold maxLen at hs
  obtain ⟨w0, hw0⟩ : ∃ w0, w0 = w.alloc (.cells #[.int .i64 wh, .slice A l.length c] 24) := ⟨_, rfl⟩
  have hz0 : w0.heap.size = w.heap.size + 1 := by rw [hw0]; simp
  have HX0 : Hid (Blk w0 w.heap.size 24 #[.int .i64 wh, .slice A l.length c]) := hide (by rw [hw0]; exact Blk.new w _ _)
  have HB0 : Hid (Below w.heap.size w w0) := hide (by rw [hw0]; exact (Below.refl _ _).alloc (Nat.le_refl _) _)
  have HP := hide (fun W (hb : Below w.heap.size w W) => hp.below hb)
  clear hp hE htab hgp hms
  have HLG := hide (fun W hb hB => large_any wh A l.length c w.heap.size l W (HP.out W hb) hB)
  cases hlg : largeS (l.map PieceV.flat)
  · rw [hlg] at HLG
    by_cases h400 : 400 < (s.size : Int)
    · go_enter Tryz.func5, Tryz.ntmps5
      go_upto_region 1 with fail
      rw [← hw0]
      clear hw0
      obtain ⟨x0, x1, _, _⟩ := HX0.out.two
      go_wp2_with (first
        | (go_at_call 16; refine (HLG.out _ HB0.out (by omega)).mono ?_; rintro e w1 ⟨rfl, hb1⟩
           have HB1 := hide (HB0.out.trans (hb1.mono (by omega))); have hz1 := HB1.out.size
           clear hb1)
        | (go_at_call 17; refine (HK.out _ HB1.out).mono ?_; rintro e wz ⟨rfl, hbz⟩
           have HBe := hide (HB1.out.trans (hbz.mono hz1))
           clear hbz))
      all_goals
        go_ret
        exact ⟨rfl, HBe.out⟩
    · obtain ⟨hl8, hm8⟩ := large_small hlg
      have HOLD := hide (fun W hb hB => old_any wh A l.length c w.heap.size l W (HP.out W hb) hB hl8 hm8)
      clear hlg
      cases hok : oldOK wh (l.map PieceV.flat)
      · have HFM := hide (fun W A' n' c' B (L : List PieceV) hL (hf : L.map PieceV.flat = l.map PieceV.flat) hB hT => by
          have h := format_any wh A' n' c' B L W hL hB hT
          rw [hf, hok] at h
          exact h)
        clear hok
        go_enter Tryz.func5, Tryz.ntmps5
        go_upto_region 1 with fail
        rw [← hw0]
        clear hw0
        obtain ⟨x0, x1, _, _⟩ := HX0.out.two
        go_upto_region 12 with (first
          | (go_at_call 16; refine (HLG.out _ HB0.out (by omega)).mono ?_; rintro e w1 ⟨rfl, hb1⟩
             have HB1 := hide (HB0.out.trans (hb1.mono (by omega))); have HX1 := hide (HX0.out.below hb1 (by omega)); have hz1 := hb1.size
             obtain ⟨x0, x1, _, _⟩ := HX1.out.two
             clear hb1)
          | (go_at_call 18; refine (HOLD.out _ HB1.out (by omega)).mono ?_; rintro e w2 ⟨A2, c2, L2, rfl, hP2, hf2, hb2⟩
             have HB2 := hide (HB1.out.trans (hb2.mono (by omega))); have HX2 := hide (HX1.out.below hb2 (by omega)); have hz2 := hb2.size
             have HF2 := hide (HFM.out _ _ _ _ _ _ hP2 hf2 (Nat.le_refl _) (HTB.out _ HB2.out))
             obtain ⟨x0, x1, _, _⟩ := HX2.out.two
             clear hb2 hP2 hf2)
          | (go_at_call 20; refine HF2.out.mono ?_; rintro e w3 ⟨rfl, hb3⟩
             simp only [argE, if_true, Bool.false_eq_true, if_false]
             have HB3 := hide (HB2.out.trans (hb3.mono (by omega))); have HX3 := hide (HX2.out.below hb3 (by omega)); have hz3 := hb3.size
             obtain ⟨x0, x1, _, _⟩ := HX3.out.two
             clear hb3))
        obtain ⟨ws, ls, es, hps⟩ : ∃ ws ls es, parseS s = (ws, ls, es) := ⟨_, _, _, rfl⟩
        have HPS := hide (HPAR.out s _ HB3.out)
        rw [hps] at HPS
        have hzS := HB3.out.size
        by_cases hes : es = 0
        · subst hes
          have hpb := parse_back hps
          obtain ⟨hoks, htxt⟩ : oldOK ws ls = true ∧ (⟨(textS ws ls).toArray⟩ : ByteArray) = s := by
            rcases hpb with ⟨_, h2, h3⟩ | ⟨_, _, h3⟩
            · exact ⟨h2, h3⟩
            · omega
          have HFS := hide (fun W A' n' c' B (L : List PieceV) hL (hf : L.map PieceV.flat = ls) hB hT => by
            have h := format_any ws A' n' c' B L W hL hB hT
            rw [hf, hoks, if_pos rfl, htxt] at h
            exact h)
          have HSM := hide (fun (L : List PieceV) (hf : L.map PieceV.flat = ls) => oldOK_small (wh := ws) (l := L) (by rw [hf]; exact hoks))
          clear hpb htxt hoks hps
          go_wp2_with (first
            | (go_at_call 27; refine HPS.out.mono ?_; rintro e w7 ⟨A7, n7, c7, L7, rfl, hP7, hf7, -, hb7⟩
               obtain rfl := hP7.len
               have HB7 := hide (HB3.out.trans (hb7.mono hzS)); have hz7 := HB7.out.size
               have HP7 := hide (PiecesQ.of hP7); have HF7 := hide hf7
               have HB8 := hide (HB7.out.alloc hz7 (.cells #[.int .i64 ws, .slice A7 L7.length c7] 24))
               obtain ⟨s0, s1, _, _⟩ := (Blk.new w7 24 #[.int .i64 ws, .slice A7 L7.length c7]).two
               have HO7 := hide (old_any ws A7 L7.length c7 w7.heap.size L7 (w7.alloc (.cells #[.int .i64 ws, .slice A7 L7.length c7] 24)) (HP7.out.alloc (Nat.le_refl _) _) (by simp) (HSM.out L7 hf7).1 (HSM.out L7 hf7).2)
               clear hb7 hP7 hf7)
            | (go_at_call 18; refine HO7.out.mono ?_; rintro e w8 ⟨A8, c8, L8, rfl, hP8, hf8, hb8⟩
               have HB9 := hide (HB8.out.trans (hb8.mono (by simp; omega))); have hz9 := HB9.out.size
               have HF8 := hide (HFS.out w8 A8 L7.length c8 w8.heap.size L8 hP8 (hf8.trans HF7.out) (Nat.le_refl _) (HTB.out _ HB9.out))
               clear hb8 hP8 hf8)
            | (go_at_call 20; refine HF8.out.mono ?_; rintro e w9 ⟨rfl, hb9⟩
               simp only [argE, if_true]
               have HBz := hide (HB9.out.trans (hb9.mono hz9)); have hzz := HBz.out.size
               clear hb9)
            | (go_at_call 17; refine (HK.out _ HBz.out).mono ?_; rintro e wz ⟨rfl, hbz⟩
               have HBe := hide (HBz.out.trans (hbz.mono hzz))
               clear hbz))
          all_goals
            go_ret
            exact ⟨rfl, HBe.out⟩
        · have hes2 : (es == 0) = false := beq_eq_false_iff_ne.2 hes
          go_wp2_with (first
            | (go_at_call 27; refine HPS.out.mono ?_; rintro e w7 ⟨A7, n7, c7, L7, rfl, hP7, hf7, -, hb7⟩
               have HB7 := hide (HB3.out.trans (hb7.mono hzS)); have hz7 := HB7.out.size
               have HBz := hide (HB7.out.alloc hz7 (.cells #[.int .i64 ws, .slice A7 n7 c7] 24)); have hzz := HBz.out.size
               clear hb7 hP7 hf7)
            | (go_at_call 17; refine (HK.out _ HBz.out).mono ?_; rintro e wz ⟨rfl, hbz⟩
               have HBe := hide (HBz.out.trans (hbz.mono hzz))
               clear hbz))
          all_goals
            go_ret
            exact ⟨rfl, HBe.out⟩
      · go_enter Tryz.func5, Tryz.ntmps5
        go_upto_region 1 with fail
        rw [← hw0]
        clear hw0
        obtain ⟨x0, x1, _, _⟩ := HX0.out.two
        have hpt := parse_text hok
        have htp := textS_pos wh (l.map PieceV.flat) hok
        obtain ⟨tb, htb⟩ : ∃ tb : ByteArray, tb = ⟨(textS wh (l.map PieceV.flat)).toArray⟩ := ⟨_, rfl⟩
        have hts : tb.size = (textS wh (l.map PieceV.flat)).length := by rw [htb]; exact size_list _
        have htl := textS_len hok
        rw [← htb, ← hts] at hpt
        rw [← hts] at htp htl
        have HFM := hide (fun W A' n' c' B (L : List PieceV) hL (hf : L.map PieceV.flat = l.map PieceV.flat) hB hT => by
          have h := format_any wh A' n' c' B L W hL hB hT
          rw [hf, hok, if_pos rfl, ← htb] at h
          exact h)
        have HBK := hide (show ∀ (t : ByteArray) (wh' : Int) (l' : List (Bool × List Int)), parseS t = (wh', l', 0) → wh' = wh → l' = l.map PieceV.flat → t = tb from fun t wh' l' h e1 e2 => by
          subst e1
          subst e2
          rcases parse_back h with ⟨_, _, h3⟩ | ⟨_, _, h3⟩
          · rw [htb, h3]
          · omega)
        have hne0 : ((tb.size : Int) == 0) = false := beq_eq_false_iff_ne.2 (by omega)
        clear hts htb hok
        go_upto_region 5 with (first
          | (go_at_call 16; refine (HLG.out _ HB0.out (by omega)).mono ?_; rintro e w1 ⟨rfl, hb1⟩
             have HB1 := hide (HB0.out.trans (hb1.mono (by omega))); have HX1 := hide (HX0.out.below hb1 (by omega)); have hz1 := hb1.size
             obtain ⟨x0, x1, _, _⟩ := HX1.out.two
             clear hb1)
          | (go_at_call 18; refine (HOLD.out _ HB1.out (by omega)).mono ?_; rintro e w2 ⟨A2, c2, L2, rfl, hP2, hf2, hb2⟩
             have HB2 := hide (HB1.out.trans (hb2.mono (by omega))); have HX2 := hide (HX1.out.below hb2 (by omega)); have hz2 := hb2.size
             have HF2 := hide (HFM.out _ _ _ _ _ _ hP2 hf2 (Nat.le_refl _) (HTB.out _ HB2.out))
             obtain ⟨x0, x1, _, _⟩ := HX2.out.two
             clear hb2 hP2 hf2)
          | (go_at_call 20; refine HF2.out.mono ?_; rintro e w3 ⟨rfl, hb3⟩
             simp only [argE, if_true, Bool.false_eq_true, if_false]
             have HB3 := hide (HB2.out.trans (hb3.mono (by omega))); have HX3 := hide (HX2.out.below hb3 (by omega)); have hz3 := hb3.size
             obtain ⟨x0, x1, _, _⟩ := HX3.out.two
             clear hb3))
        have HPT := hide (HPAR.out tb _ HB3.out)
        by_cases h300 : 300 < tb.size
        · rw [if_pos h300] at hpt
          rw [hpt] at HPT
          go_upto_region 9 with (first
            | (go_at_call 27; refine HPT.out.mono ?_; rintro e w4 ⟨A4, n4, c4, L4, rfl, hP4, hf4, -, hb4⟩
               obtain rfl := hP4.len
               have HB4 := hide (HB3.out.trans (hb4.mono (by omega))); have HX4 := hide (HX3.out.below hb4 (by omega)); have hz4 := hb4.size
               have HX5 := hide (HX4.out.alloc (.cells #[.int .i64 0, .slice A4 L4.length c4] 24))
               obtain ⟨x0, x1, _, _⟩ := HX5.out.two
               clear hb4 hP4 hf4))
          have HB5 := hide (HB4.out.alloc (by omega) (.cells #[.int .i64 0, .slice A4 L4.length c4] 24))
          have HX6 := hide HX5.out
          clear HX4 HB4 HX5 x0 x1
          generalize w4.alloc (.cells #[.int .i64 0, .slice A4 L4.length c4] 24) = w5 at *
          obtain ⟨x0, x1, _, _⟩ := HX6.out.two
          obtain ⟨k, hk, hkt, hk6⟩ : ∃ k : Nat, at_ % (tb.size : Int) = (k : Int) ∧ k < tb.size ∧ k ≤ 65535 :=
            ⟨at_.toNat % tb.size, by rw [Int.natCast_emod, Int.toNat_of_nonneg hat.1], Nat.mod_lt _ (by omega), Nat.le_trans (Nat.mod_le _ _) (by omega)⟩
          rw [hk]
          clear hk
          have hk1 : k ≤ tb.size := by omega
          have hk2 : ((k + 1 : Nat) : Int) ≤ (tb.size : Int) := by omega
          have hk3 : (0 : Int) ≤ (k : Int) + 1 := by omega
          have hk4 : (k : Int) + 1 ≤ (tb.size : Int) := by omega
          have hk5 : ¬ 9223372036854775807 < k + (tb.size - (k + 1)) := by omega
          have hkw : IntKind.i64.wrap ((k : Int) + 1) = ((k + 1 : Nat) : Int) := by rw [IntKind.wrap_i64]; omega
          refine wp_region_till (fun _ => True) 13 (fun _ => True) 13 (fun _ => True) (by kernel_rfl) ⟨trivial, fun _ => trivial, fun _ => trivial⟩ (fun hHeld => ?_)
          refine wpTill_take 0 rfl (by decide +kernel) (fun _ _ _ h => h) (by rfl) (v := ?_) ?_ hHeld (fun hHeld' => ?_)
          rotate_left 1
          focus (intro w' hSw; obtain ⟨hC, hF, hG⟩ := hSw; clear hF; clear hG; clear hC; go_simp; first | done | with_reducible rfl)
          clear hHeld
          rename Till _ _ _ _ _ _ _ => hHeld
          simp only [Act.put, List.setIfInBounds_toArray, List.set_cons_zero, List.set_cons_succ]
          refine wpTill_take 1 rfl (by decide +kernel) (fun _ _ _ h => h) (by rfl) (v := ?_) ?_ hHeld (fun hHeld' => ?_)
          rotate_left 1
          focus (intro w' hSw; obtain ⟨hC, hF, hG⟩ := hSw; clear hF; clear hG; clear hC; go_simp; first | done | with_reducible rfl)
          clear hHeld
          rename Till _ _ _ _ _ _ _ => hHeld
          simp only [Act.put, List.setIfInBounds_toArray, List.set_cons_zero, List.set_cons_succ]
          refine wpTill_take 2 rfl (by decide +kernel) (fun _ _ _ h => h) (by rfl) (v := ?_) ?_ hHeld (fun hHeld' => ?_)
          rotate_left 1
          focus (intro w' hSw; obtain ⟨hC, hF, hG⟩ := hSw; clear hF; clear hG; clear hC; go_simp; first | done | with_reducible rfl)
          clear hHeld
          rename Till _ _ _ _ _ _ _ => hHeld
          simp only [Act.put, List.setIfInBounds_toArray, List.set_cons_zero, List.set_cons_succ]
          refine wpTill_take 3 rfl (by decide +kernel) (fun _ _ _ h => h) (by rfl) (v := ?_) ?_ hHeld (fun hHeld' => ?_)
          rotate_left 1
          focus (intro w' hSw; obtain ⟨hC, hF, hG⟩ := hSw; clear hF; clear hG; clear hC; go_simp; first | done | with_reducible rfl)
          clear hHeld
          rename Till _ _ _ _ _ _ _ => hHeld
          simp only [Act.put, List.setIfInBounds_toArray, List.set_cons_zero, List.set_cons_succ]
          refine wpTill_take 4 rfl (by decide +kernel) (fun _ _ _ h => h) (by rfl) (v := ?_) ?_ hHeld (fun hHeld' => ?_)
          rotate_left 1
          focus (intro w' hSw; obtain ⟨hC, hF, hG⟩ := hSw; clear hF; clear hG; clear hC; go_simp; first | done | with_reducible rfl)
          clear hHeld
          rename Till _ _ _ _ _ _ _ => hHeld
          simp only [Act.put, List.setIfInBounds_toArray, List.set_cons_zero, List.set_cons_succ]
          refine wpTill_take 5 rfl (by decide +kernel) (fun _ _ _ h => h) (by rfl) (v := ?_) ?_ hHeld (fun hHeld' => ?_)
          rotate_left 1
          focus (intro w' hSw; obtain ⟨hC, hF, hG⟩ := hSw; clear hF; clear hG; clear hC; go_simp; first | done | with_reducible rfl)
          clear hHeld
          rename Till _ _ _ _ _ _ _ => hHeld
          simp only [Act.put, List.setIfInBounds_toArray, List.set_cons_zero, List.set_cons_succ]
          refine wpTill_take 6 rfl (by decide +kernel) (fun _ _ _ h => h) (by rfl) (v := ?_) ?_ hHeld (fun hHeld' => ?_)
          rotate_left 1
          focus (intro w' hSw; obtain ⟨hC, hF, hG⟩ := hSw; clear hF; clear hG; clear hC; go_simp; first | done | with_reducible rfl)
          clear hHeld
          rename Till _ _ _ _ _ _ _ => hHeld
          simp only [Act.put, List.setIfInBounds_toArray, List.set_cons_zero, List.set_cons_succ]
          refine wpTill_take 7 rfl (by decide +kernel) (fun _ _ _ h => h) (by rfl) (v := ?_) ?_ hHeld (fun hHeld' => ?_)
          rotate_left 1
          focus (intro w' hSw; obtain ⟨hC, hF, hG⟩ := hSw; clear hF; clear hG; clear hC; go_simp; first | done | with_reducible rfl)
          clear hHeld
          rename Till _ _ _ _ _ _ _ => hHeld
          simp only [Act.put, List.setIfInBounds_toArray, List.set_cons_zero, List.set_cons_succ]
          have hcs := cutB_size hkt
          have hcb := HBK.out (cutB tb k)
          unfold cutB at hcs hcb
          generalize tb.extract 0 k ++ tb.extract (k + 1) tb.size = tc at *
          obtain ⟨wh', l', e', hpc⟩ : ∃ wh' l' e', parseS tc = (wh', l', e') := ⟨_, _, _, rfl⟩
          have hz5s := HB5.out.size
          have HPA := hide (HPAR.out tc _ (below_drewN HB5.out 1))
          have HPB := hide (HPAR.out tc _ (Below.drew (HB5.out.alloc hz5s (.cells #[.int .i64 0, .slice none 0 0] 24))))
          rw [hpc] at HPA HPB
          have HOB := hide (show e' = 0 → (decide (wh' = wh) && decide (l' = l.map PieceV.flat)) = false from fun h0 => by
            subst h0
            rcases Decidable.em (wh' = wh ∧ l' = l.map PieceV.flat) with ⟨h1, h2⟩ | h
            · have h3 := hcb wh' l' hpc h1 h2
              rw [h3] at hcs
              omega
            · rw [← Bool.decide_and]; exact decide_eq_false h)
          clear hcs hcb hpc hk1 hk2 hk3 hk4 hk5 hkw
          refine wpTill_two 8 12 rfl rfl (by decide +kernel) (fun K hK => ?_) (fun K hK => ?_)
          focus
            go_simp
            go_wp2_with (first
              | (go_at_call 27; refine HPA.out.mono ?_; rintro e w6 ⟨A6, n6, c6, L6, rfl, hP6, hf6, ho6, hb6⟩
                 obtain rfl := hP6.len
                 have HB6 := hide ((below_drewN HB5.out 1).trans (hb6.mono hz5s)); have hz6 := HB6.out.size
                 have HX7 := hide ((HX6.out.drewN 1).below hb6 (by have := HX6.out.lt; exact this))
                 clear hb6))
            refine hK.out _ _ ⟨trivial, fun _ => trivial, fun _ => trivial⟩ (fun hHeld => ?_)
            clear hK K
            (try simp only [Act.put, List.setIfInBounds_toArray, List.set_cons_zero, List.set_cons_succ])
            refine wpTill_take 9 rfl (by decide +kernel) (fun _ _ _ h => h) (by rfl) (v := ?_) ?_ hHeld (fun hHeld' => ?_)
            rotate_left 1
            focus (intro w' hSw; obtain ⟨hC, hF, hG⟩ := hSw; clear hF; clear hG; clear hC; go_simp; first | done | with_reducible rfl)
            clear hHeld
            rename Till _ _ _ _ _ _ _ => hHeld
            simp only [Act.put, List.setIfInBounds_toArray, List.set_cons_zero, List.set_cons_succ]
            refine wpTill_take 10 rfl (by decide +kernel) (fun _ _ _ h => h) (by rfl) (v := ?_) ?_ hHeld (fun hHeld' => ?_)
            rotate_left 1
            focus (intro w' hSw; obtain ⟨hC, hF, hG⟩ := hSw; clear hF; clear hG; clear hC; go_simp; first | done | with_reducible rfl)
            clear hHeld
            rename Till _ _ _ _ _ _ _ => hHeld
            simp only [Act.put, List.setIfInBounds_toArray, List.set_cons_zero, List.set_cons_succ]
            refine wpTill_take 11 rfl (by decide +kernel) (fun _ _ _ h => h) (by rfl) (v := ?_) ?_ hHeld (fun hHeld' => ?_)
            rotate_left 1
            focus (intro w' hSw; obtain ⟨hC, hF, hG⟩ := hSw; clear hF; clear hG; clear hC; go_simp; first | done | with_reducible rfl)
            clear hHeld
            rename Till _ _ _ _ _ _ _ => hHeld
            simp only [Act.put, List.setIfInBounds_toArray, List.set_cons_zero, List.set_cons_succ]
            refine wpTill_one 12 rfl (by decide +kernel) (fun K hK => ?_)
            go_simp
            refine hK.out _ _ ⟨trivial, fun _ => trivial, fun _ => trivial⟩ (fun hHeld => ?_)
            clear hK K
            (try simp only [Act.put, List.setIfInBounds_toArray, List.set_cons_zero, List.set_cons_succ])
            have HNN := hide (Blk.new w6 24 #[.int .i64 0, .slice none 0 0])
            obtain ⟨n0, n1, nf0, nf1⟩ := HNN.out.two
            refine wpTill_one 13 rfl (by decide +kernel) (fun K hK => ?_)
            go_simp
            refine hK.out _ _ ⟨trivial, fun _ => trivial, fun _ => trivial⟩ (fun hHeld => ?_)
            clear hK K n0 n1 nf0 nf1
            (try simp only [Act.put, List.setIfInBounds_toArray, List.set_cons_zero, List.set_cons_succ])
            refine wpTill_take 14 rfl (by decide +kernel) (fun _ _ _ h => h) (by rfl) (v := ?_) ?_ hHeld (fun hHeld' => ?_)
            rotate_left 1
            focus (intro w' hSw; obtain ⟨hC, hF, hG⟩ := hSw; clear hF; clear hG; clear hC; go_simp; first | done | with_reducible rfl)
            clear hHeld
            rename Till _ _ _ _ _ _ _ => hHeld
            simp only [Act.put, List.setIfInBounds_toArray, List.set_cons_zero, List.set_cons_succ]
            refine wpTill_done (by decide +kernel) ?_
            clear hHeld
            have HN9 := hide (Blk.new w6 24 #[.int .i64 wh', .slice A6 L6.length c6])
            have HP9 := hide (PiecesQ.of ((hP6.alloc (Nat.le_refl _) (.cells #[.int .i64 wh', .slice A6 L6.length c6] 24)).more (show w6.heap.size ≤ (w6.alloc (.cells #[.int .i64 wh', .slice A6 L6.length c6] 24)).heap.size by simp)))
            have HF9 : Hid (L6.map PieceV.flat = l') := hide hf6
            have HX9 := hide (HX7.out.alloc (.cells #[.int .i64 wh', .slice A6 L6.length c6] 24))
            have HB9 := hide (HB6.out.alloc hz6 (.cells #[.int .i64 wh', .slice A6 L6.length c6] 24))
            clear HNN
            obtain ⟨X, hX⟩ : ∃ X, X = w6.heap.size := ⟨_, rfl⟩
            rw [← hX] at HN9 ⊢
            clear hP6 hf6 ho6 HX7 HB6 hz6 hX HPA HPB
            generalize w6.alloc (.cells #[.int .i64 wh', .slice A6 L6.length c6] 24) = W9 at *
          rotate_left 1
          focus
            go_simp
            refine hK.out _ _ ⟨trivial, fun _ => trivial, fun _ => trivial⟩ (fun hHeld => ?_)
            clear hK K
            (try simp only [Act.put, List.setIfInBounds_toArray, List.set_cons_zero, List.set_cons_succ])
            refine wpTill_one 8 rfl (by decide +kernel) (fun K hK => ?_)
            go_simp
            go_wp2_with (first
              | (go_at_call 27; refine HPB.out.mono ?_; rintro e w6 ⟨A6, n6, c6, L6, rfl, hP6, hf6, ho6, hb6⟩
                 obtain rfl := hP6.len
                 have HB6 := hide ((Below.drew (HB5.out.alloc hz5s (.cells #[.int .i64 0, .slice none 0 0] 24))).trans (hb6.mono (by show _ ≤ (w5.alloc _).heap.size; rw [World.size_alloc]; omega))); have hz6 := HB6.out.size
                 have HX7 := hide ((HX6.out.alloc (.cells #[.int .i64 0, .slice none 0 0] 24)).drew.below hb6 (by have := HX6.out.lt; show _ < (w5.alloc _).heap.size; rw [World.size_alloc]; omega))
                 have HNN := hide ((Blk.new w5 24 #[.int .i64 0, .slice none 0 0]).drew.below hb6 (by show _ < (w5.alloc _).heap.size; rw [World.size_alloc]; omega))
                 clear hb6))
            refine hK.out _ _ ⟨trivial, fun _ => trivial, fun _ => trivial⟩ (fun hHeld => ?_)
            clear hK K
            (try simp only [Act.put, List.setIfInBounds_toArray, List.set_cons_zero, List.set_cons_succ])
            refine wpTill_take 9 rfl (by decide +kernel) (fun _ _ _ h => h) (by rfl) (v := ?_) ?_ hHeld (fun hHeld' => ?_)
            rotate_left 1
            focus (intro w' hSw; obtain ⟨hC, hF, hG⟩ := hSw; clear hF; clear hG; clear hC; go_simp; first | done | with_reducible rfl)
            clear hHeld
            rename Till _ _ _ _ _ _ _ => hHeld
            simp only [Act.put, List.setIfInBounds_toArray, List.set_cons_zero, List.set_cons_succ]
            refine wpTill_take 10 rfl (by decide +kernel) (fun _ _ _ h => h) (by rfl) (v := ?_) ?_ hHeld (fun hHeld' => ?_)
            rotate_left 1
            focus (intro w' hSw; obtain ⟨hC, hF, hG⟩ := hSw; clear hF; clear hG; clear hC; go_simp; first | done | with_reducible rfl)
            clear hHeld
            rename Till _ _ _ _ _ _ _ => hHeld
            simp only [Act.put, List.setIfInBounds_toArray, List.set_cons_zero, List.set_cons_succ]
            refine wpTill_take 11 rfl (by decide +kernel) (fun _ _ _ h => h) (by rfl) (v := ?_) ?_ hHeld (fun hHeld' => ?_)
            rotate_left 1
            focus (intro w' hSw; obtain ⟨hC, hF, hG⟩ := hSw; clear hF; clear hG; clear hC; go_simp; first | done | with_reducible rfl)
            clear hHeld
            rename Till _ _ _ _ _ _ _ => hHeld
            simp only [Act.put, List.setIfInBounds_toArray, List.set_cons_zero, List.set_cons_succ]
            obtain ⟨n0, n1, nf0, nf1⟩ := HNN.out.two
            refine wpTill_one 13 rfl (by decide +kernel) (fun K hK => ?_)
            go_simp
            refine hK.out _ _ ⟨trivial, fun _ => trivial, fun _ => trivial⟩ (fun hHeld => ?_)
            clear hK K n0 n1 nf0 nf1
            (try simp only [Act.put, List.setIfInBounds_toArray, List.set_cons_zero, List.set_cons_succ])
            refine wpTill_take 14 rfl (by decide +kernel) (fun _ _ _ h => h) (by rfl) (v := ?_) ?_ hHeld (fun hHeld' => ?_)
            rotate_left 1
            focus (intro w' hSw; obtain ⟨hC, hF, hG⟩ := hSw; clear hF; clear hG; clear hC; go_simp; first | done | with_reducible rfl)
            clear hHeld
            rename Till _ _ _ _ _ _ _ => hHeld
            simp only [Act.put, List.setIfInBounds_toArray, List.set_cons_zero, List.set_cons_succ]
            refine wpTill_done (by decide +kernel) ?_
            clear hHeld
            have hlt5 := HX6.out.lt
            have HN9 : Hid (Blk ((w6.setCell ⟨w5.heap.size, 0, none⟩ (.int .i64 wh')).setCell ⟨w5.heap.size, 1, none⟩ (.slice A6 L6.length c6)) w5.heap.size 24 #[.int .i64 wh', .slice A6 L6.length c6]) := hide ((HNN.out.set_ 0 (.int .i64 wh')).set_ 1 (.slice A6 L6.length c6))
            have hoX := ho6 w5.heap.size (by show _ < (w5.alloc _).heap.size; rw [World.size_alloc]; omega)
            have HP9 : Hid (PiecesQ ((w6.setCell ⟨w5.heap.size, 0, none⟩ (.int .i64 wh')).setCell ⟨w5.heap.size, 1, none⟩ (.slice A6 L6.length c6)) ((w6.setCell ⟨w5.heap.size, 0, none⟩ (.int .i64 wh')).setCell ⟨w5.heap.size, 1, none⟩ (.slice A6 L6.length c6)).heap.size A6 L6.length c6 L6) := hide (PiecesQ.of (((hP6.off_set (i := 0) hoX (.int .i64 wh')).off_set (i := 1) hoX (.slice A6 L6.length c6)).more (by simp)))
            have HF9 : Hid (L6.map PieceV.flat = l') := hide hf6
            have HX9 := hide ((HX7.out.far (p := ⟨w5.heap.size, 0, none⟩) (by show w.heap.size ≠ w5.heap.size; omega) (.int .i64 wh')).far (p := ⟨w5.heap.size, 1, none⟩) (by show w.heap.size ≠ w5.heap.size; omega) (.slice A6 L6.length c6))
            have HB9 := hide ((HB6.out.setCell (p := ⟨w5.heap.size, 0, none⟩) hz5s (.int .i64 wh')).setCell (p := ⟨w5.heap.size, 1, none⟩) hz5s (.slice A6 L6.length c6))
            clear HNN hoX
            clear hP6 hf6 ho6 HX7 HB6 hz6 HPA HPB
            generalize (w6.setCell ⟨w5.heap.size, 0, none⟩ (.int .i64 wh')).setCell ⟨w5.heap.size, 1, none⟩ (.slice A6 L6.length c6) = W9 at *
            obtain ⟨X, hX⟩ : ∃ X, X = w5.heap.size := ⟨_, rfl⟩
            rw [← hX] at HN9 ⊢
            clear hX hlt5
          all_goals
            obtain ⟨v0, v1, _, _⟩ := HN9.out.two
            obtain ⟨y0, y1, _, _⟩ := HX9.out.two
            have hz9 := HB9.out.size
            by_cases he : e' = 0
            · subst he
              have HOB2 := hide (HOB.out rfl)
              clear HOB
              go_upto_region 12 with (first
                | (go_at_call 22; refine (olds_any wh' A6 L6.length c6 L6 wh A l.length c l W9.heap.size W9 HP9.out ((HP.out _ HB9.out).more hz9) (Nat.le_refl _)).mono ?_; rintro e wa ⟨rfl, hba⟩
                   rw [HF9.out, HOB2.out]
                   have HBa := hide (HB9.out.trans (hba.mono hz9))
                   clear hba))
              obtain ⟨ws, ls, es, hps⟩ : ∃ ws ls es, parseS s = (ws, ls, es) := ⟨_, _, _, rfl⟩
              have HPS := hide (HPAR.out s _ HBa.out)
              rw [hps] at HPS
              have hzS := HBa.out.size
              by_cases hes : es = 0
              · subst hes
                have hpb := parse_back hps
                obtain ⟨hoks, htxt⟩ : oldOK ws ls = true ∧ (⟨(textS ws ls).toArray⟩ : ByteArray) = s := by
                  rcases hpb with ⟨_, h2, h3⟩ | ⟨_, _, h3⟩
                  · exact ⟨h2, h3⟩
                  · omega
                have HFS := hide (fun W A' n' c' B (L : List PieceV) hL (hf : L.map PieceV.flat = ls) hB hT => by
                  have h := format_any ws A' n' c' B L W hL hB hT
                  rw [hf, hoks, if_pos rfl, htxt] at h
                  exact h)
                have HSM := hide (fun (L : List PieceV) (hf : L.map PieceV.flat = ls) => oldOK_small (wh := ws) (l := L) (by rw [hf]; exact hoks))
                clear hpb htxt hoks hps
                go_wp2_with (first
                  | (go_at_call 27; refine HPS.out.mono ?_; rintro e w7 ⟨A7, n7, c7, L7, rfl, hP7, hf7, -, hb7⟩
                     obtain rfl := hP7.len
                     have HB7 := hide (HBa.out.trans (hb7.mono hzS)); have hz7 := HB7.out.size
                     have HP7 := hide (PiecesQ.of hP7); have HF7 := hide hf7
                     have HB8 := hide (HB7.out.alloc hz7 (.cells #[.int .i64 ws, .slice A7 L7.length c7] 24))
                     obtain ⟨s0, s1, _, _⟩ := (Blk.new w7 24 #[.int .i64 ws, .slice A7 L7.length c7]).two
                     have HO7 := hide (old_any ws A7 L7.length c7 w7.heap.size L7 (w7.alloc (.cells #[.int .i64 ws, .slice A7 L7.length c7] 24)) (HP7.out.alloc (Nat.le_refl _) _) (by simp) (HSM.out L7 hf7).1 (HSM.out L7 hf7).2)
                     clear hb7 hP7 hf7)
                  | (go_at_call 18; refine HO7.out.mono ?_; rintro e w8 ⟨A8, c8, L8, rfl, hP8, hf8, hb8⟩
                     have HB9 := hide (HB8.out.trans (hb8.mono (by simp; omega))); have hz9 := HB9.out.size
                     have HF8 := hide (HFS.out w8 A8 L7.length c8 w8.heap.size L8 hP8 (hf8.trans HF7.out) (Nat.le_refl _) (HTB.out _ HB9.out))
                     clear hb8 hP8 hf8)
                  | (go_at_call 20; refine HF8.out.mono ?_; rintro e w9 ⟨rfl, hb9⟩
                     simp only [argE, if_true]
                     have HBz := hide (HB9.out.trans (hb9.mono hz9)); have hzz := HBz.out.size
                     clear hb9)
                  | (go_at_call 17; refine (HK.out _ HBz.out).mono ?_; rintro e wz ⟨rfl, hbz⟩
                     have HBe := hide (HBz.out.trans (hbz.mono hzz))
                     clear hbz))
                all_goals
                  go_ret
                  exact ⟨rfl, HBe.out⟩
              · have hes2 : (es == 0) = false := beq_eq_false_iff_ne.2 hes
                go_wp2_with (first
                  | (go_at_call 27; refine HPS.out.mono ?_; rintro e w7 ⟨A7, n7, c7, L7, rfl, hP7, hf7, -, hb7⟩
                     have HB7 := hide (HBa.out.trans (hb7.mono hzS)); have hz7 := HB7.out.size
                     have HBz := hide (HB7.out.alloc hz7 (.cells #[.int .i64 ws, .slice A7 n7 c7] 24)); have hzz := HBz.out.size
                     clear hb7 hP7 hf7)
                  | (go_at_call 17; refine (HK.out _ HBz.out).mono ?_; rintro e wz ⟨rfl, hbz⟩
                     have HBe := hide (HBz.out.trans (hbz.mono hzz))
                     clear hbz))
                all_goals
                  go_ret
                  exact ⟨rfl, HBe.out⟩
            · have hen : (e' == 0) = false := beq_eq_false_iff_ne.2 he
              go_upto_region 12 with fail
              obtain ⟨ws, ls, es, hps⟩ : ∃ ws ls es, parseS s = (ws, ls, es) := ⟨_, _, _, rfl⟩
              have HPS := hide (HPAR.out s _ HB9.out)
              rw [hps] at HPS
              have hzS := HB9.out.size
              by_cases hes : es = 0
              · subst hes
                have hpb := parse_back hps
                obtain ⟨hoks, htxt⟩ : oldOK ws ls = true ∧ (⟨(textS ws ls).toArray⟩ : ByteArray) = s := by
                  rcases hpb with ⟨_, h2, h3⟩ | ⟨_, _, h3⟩
                  · exact ⟨h2, h3⟩
                  · omega
                have HFS := hide (fun W A' n' c' B (L : List PieceV) hL (hf : L.map PieceV.flat = ls) hB hT => by
                  have h := format_any ws A' n' c' B L W hL hB hT
                  rw [hf, hoks, if_pos rfl, htxt] at h
                  exact h)
                have HSM := hide (fun (L : List PieceV) (hf : L.map PieceV.flat = ls) => oldOK_small (wh := ws) (l := L) (by rw [hf]; exact hoks))
                clear hpb htxt hoks hps
                go_wp2_with (first
                  | (go_at_call 27; refine HPS.out.mono ?_; rintro e w7 ⟨A7, n7, c7, L7, rfl, hP7, hf7, -, hb7⟩
                     obtain rfl := hP7.len
                     have HB7 := hide (HB9.out.trans (hb7.mono hzS)); have hz7 := HB7.out.size
                     have HP7 := hide (PiecesQ.of hP7); have HF7 := hide hf7
                     have HB8 := hide (HB7.out.alloc hz7 (.cells #[.int .i64 ws, .slice A7 L7.length c7] 24))
                     obtain ⟨s0, s1, _, _⟩ := (Blk.new w7 24 #[.int .i64 ws, .slice A7 L7.length c7]).two
                     have HO7 := hide (old_any ws A7 L7.length c7 w7.heap.size L7 (w7.alloc (.cells #[.int .i64 ws, .slice A7 L7.length c7] 24)) (HP7.out.alloc (Nat.le_refl _) _) (by simp) (HSM.out L7 hf7).1 (HSM.out L7 hf7).2)
                     clear hb7 hP7 hf7)
                  | (go_at_call 18; refine HO7.out.mono ?_; rintro e w8 ⟨A8, c8, L8, rfl, hP8, hf8, hb8⟩
                     have HB9 := hide (HB8.out.trans (hb8.mono (by simp; omega))); have hz9 := HB9.out.size
                     have HF8 := hide (HFS.out w8 A8 L7.length c8 w8.heap.size L8 hP8 (hf8.trans HF7.out) (Nat.le_refl _) (HTB.out _ HB9.out))
                     clear hb8 hP8 hf8)
                  | (go_at_call 20; refine HF8.out.mono ?_; rintro e w9 ⟨rfl, hb9⟩
                     simp only [argE, if_true]
                     have HBz := hide (HB9.out.trans (hb9.mono hz9)); have hzz := HBz.out.size
                     clear hb9)
                  | (go_at_call 17; refine (HK.out _ HBz.out).mono ?_; rintro e wz ⟨rfl, hbz⟩
                     have HBe := hide (HBz.out.trans (hbz.mono hzz))
                     clear hbz))
                all_goals
                  go_ret
                  exact ⟨rfl, HBe.out⟩
              · have hes2 : (es == 0) = false := beq_eq_false_iff_ne.2 hes
                go_wp2_with (first
                  | (go_at_call 27; refine HPS.out.mono ?_; rintro e w7 ⟨A7, n7, c7, L7, rfl, hP7, hf7, -, hb7⟩
                     have HB7 := hide (HB9.out.trans (hb7.mono hzS)); have hz7 := HB7.out.size
                     have HBz := hide (HB7.out.alloc hz7 (.cells #[.int .i64 ws, .slice A7 n7 c7] 24)); have hzz := HBz.out.size
                     clear hb7 hP7 hf7)
                  | (go_at_call 17; refine (HK.out _ HBz.out).mono ?_; rintro e wz ⟨rfl, hbz⟩
                     have HBe := hide (HBz.out.trans (hbz.mono hzz))
                     clear hbz))
                all_goals
                  go_ret
                  exact ⟨rfl, HBe.out⟩
        · rw [if_neg h300] at hpt
          rw [hpt] at HPT
          go_upto_region 9 with (first
            | (go_at_call 27; refine HPT.out.mono ?_; rintro e w4 ⟨A4, n4, c4, L4, rfl, hP4, hf4, -, hb4⟩
               obtain rfl := hP4.len
               have HB4 := hide (HB3.out.trans (hb4.mono (by omega))); have HX4 := hide (HX3.out.below hb4 (by omega)); have hz4 := hb4.size
               have HP4 := hide (PiecesQ.of hP4); have HF4 := hide hf4
               have HN4 := hide (Blk.new w4 24 #[.int .i64 wh, .slice A4 L4.length c4])
               have HX5 := hide (HX4.out.alloc (.cells #[.int .i64 wh, .slice A4 L4.length c4] 24))
               obtain ⟨x0, x1, _, _⟩ := HX5.out.two
               obtain ⟨z0, z1, _, _⟩ := HN4.out.two
               clear hb4 hP4 hf4)
            | (go_at_call 22; refine (olds_any wh A4 L4.length c4 L4 wh A l.length c l w4.heap.size (w4.alloc _) (HP4.out.alloc (Nat.le_refl _) _) ((HP.out _ (HB4.out.alloc (by omega) _)).more (by omega)) (by simp)).mono ?_; rintro e w5 ⟨rfl, hb5⟩
               rw [decide_eq_true (rfl : wh = wh), decide_eq_true HF4.out]
               have HB5 := hide ((HB4.out.alloc (by omega) _).trans (hb5.mono (by simp; omega))); have HX6 := hide (HX5.out.below hb5 (by simp; omega)); have hz5 := hb5.size
               obtain ⟨x0, x1, _, _⟩ := HX6.out.two
               clear hb5))
          obtain ⟨k, hk, hkt, hk6⟩ : ∃ k : Nat, at_ % (tb.size : Int) = (k : Int) ∧ k < tb.size ∧ k ≤ 65535 :=
            ⟨at_.toNat % tb.size, by rw [Int.natCast_emod, Int.toNat_of_nonneg hat.1], Nat.mod_lt _ (by omega), Nat.le_trans (Nat.mod_le _ _) (by omega)⟩
          rw [hk]
          clear hk
          have hk1 : k ≤ tb.size := by omega
          have hk2 : ((k + 1 : Nat) : Int) ≤ (tb.size : Int) := by omega
          have hk3 : (0 : Int) ≤ (k : Int) + 1 := by omega
          have hk4 : (k : Int) + 1 ≤ (tb.size : Int) := by omega
          have hk5 : ¬ 9223372036854775807 < k + (tb.size - (k + 1)) := by omega
          have hkw : IntKind.i64.wrap ((k : Int) + 1) = ((k + 1 : Nat) : Int) := by rw [IntKind.wrap_i64]; omega
          refine wp_region_till (fun _ => True) 13 (fun _ => True) 13 (fun _ => True) (by kernel_rfl) ⟨trivial, fun _ => trivial, fun _ => trivial⟩ (fun hHeld => ?_)
          refine wpTill_take 0 rfl (by decide +kernel) (fun _ _ _ h => h) (by rfl) (v := ?_) ?_ hHeld (fun hHeld' => ?_)
          rotate_left 1
          focus (intro w' hSw; obtain ⟨hC, hF, hG⟩ := hSw; clear hF; clear hG; clear hC; go_simp; first | done | with_reducible rfl)
          clear hHeld
          rename Till _ _ _ _ _ _ _ => hHeld
          simp only [Act.put, List.setIfInBounds_toArray, List.set_cons_zero, List.set_cons_succ]
          refine wpTill_take 1 rfl (by decide +kernel) (fun _ _ _ h => h) (by rfl) (v := ?_) ?_ hHeld (fun hHeld' => ?_)
          rotate_left 1
          focus (intro w' hSw; obtain ⟨hC, hF, hG⟩ := hSw; clear hF; clear hG; clear hC; go_simp; first | done | with_reducible rfl)
          clear hHeld
          rename Till _ _ _ _ _ _ _ => hHeld
          simp only [Act.put, List.setIfInBounds_toArray, List.set_cons_zero, List.set_cons_succ]
          refine wpTill_take 2 rfl (by decide +kernel) (fun _ _ _ h => h) (by rfl) (v := ?_) ?_ hHeld (fun hHeld' => ?_)
          rotate_left 1
          focus (intro w' hSw; obtain ⟨hC, hF, hG⟩ := hSw; clear hF; clear hG; clear hC; go_simp; first | done | with_reducible rfl)
          clear hHeld
          rename Till _ _ _ _ _ _ _ => hHeld
          simp only [Act.put, List.setIfInBounds_toArray, List.set_cons_zero, List.set_cons_succ]
          refine wpTill_take 3 rfl (by decide +kernel) (fun _ _ _ h => h) (by rfl) (v := ?_) ?_ hHeld (fun hHeld' => ?_)
          rotate_left 1
          focus (intro w' hSw; obtain ⟨hC, hF, hG⟩ := hSw; clear hF; clear hG; clear hC; go_simp; first | done | with_reducible rfl)
          clear hHeld
          rename Till _ _ _ _ _ _ _ => hHeld
          simp only [Act.put, List.setIfInBounds_toArray, List.set_cons_zero, List.set_cons_succ]
          refine wpTill_take 4 rfl (by decide +kernel) (fun _ _ _ h => h) (by rfl) (v := ?_) ?_ hHeld (fun hHeld' => ?_)
          rotate_left 1
          focus (intro w' hSw; obtain ⟨hC, hF, hG⟩ := hSw; clear hF; clear hG; clear hC; go_simp; first | done | with_reducible rfl)
          clear hHeld
          rename Till _ _ _ _ _ _ _ => hHeld
          simp only [Act.put, List.setIfInBounds_toArray, List.set_cons_zero, List.set_cons_succ]
          refine wpTill_take 5 rfl (by decide +kernel) (fun _ _ _ h => h) (by rfl) (v := ?_) ?_ hHeld (fun hHeld' => ?_)
          rotate_left 1
          focus (intro w' hSw; obtain ⟨hC, hF, hG⟩ := hSw; clear hF; clear hG; clear hC; go_simp; first | done | with_reducible rfl)
          clear hHeld
          rename Till _ _ _ _ _ _ _ => hHeld
          simp only [Act.put, List.setIfInBounds_toArray, List.set_cons_zero, List.set_cons_succ]
          refine wpTill_take 6 rfl (by decide +kernel) (fun _ _ _ h => h) (by rfl) (v := ?_) ?_ hHeld (fun hHeld' => ?_)
          rotate_left 1
          focus (intro w' hSw; obtain ⟨hC, hF, hG⟩ := hSw; clear hF; clear hG; clear hC; go_simp; first | done | with_reducible rfl)
          clear hHeld
          rename Till _ _ _ _ _ _ _ => hHeld
          simp only [Act.put, List.setIfInBounds_toArray, List.set_cons_zero, List.set_cons_succ]
          refine wpTill_take 7 rfl (by decide +kernel) (fun _ _ _ h => h) (by rfl) (v := ?_) ?_ hHeld (fun hHeld' => ?_)
          rotate_left 1
          focus (intro w' hSw; obtain ⟨hC, hF, hG⟩ := hSw; clear hF; clear hG; clear hC; go_simp; first | done | with_reducible rfl)
          clear hHeld
          rename Till _ _ _ _ _ _ _ => hHeld
          simp only [Act.put, List.setIfInBounds_toArray, List.set_cons_zero, List.set_cons_succ]
          have hcs := cutB_size hkt
          have hcb := HBK.out (cutB tb k)
          unfold cutB at hcs hcb
          generalize tb.extract 0 k ++ tb.extract (k + 1) tb.size = tc at *
          obtain ⟨wh', l', e', hpc⟩ : ∃ wh' l' e', parseS tc = (wh', l', e') := ⟨_, _, _, rfl⟩
          have hz5s := HB5.out.size
          have HPA := hide (HPAR.out tc _ (below_drewN HB5.out 1))
          have HPB := hide (HPAR.out tc _ (Below.drew (HB5.out.alloc hz5s (.cells #[.int .i64 0, .slice none 0 0] 24))))
          rw [hpc] at HPA HPB
          have HOB := hide (show e' = 0 → (decide (wh' = wh) && decide (l' = l.map PieceV.flat)) = false from fun h0 => by
            subst h0
            rcases Decidable.em (wh' = wh ∧ l' = l.map PieceV.flat) with ⟨h1, h2⟩ | h
            · have h3 := hcb wh' l' hpc h1 h2
              rw [h3] at hcs
              omega
            · rw [← Bool.decide_and]; exact decide_eq_false h)
          clear hcs hcb hpc hk1 hk2 hk3 hk4 hk5 hkw
          refine wpTill_two 8 12 rfl rfl (by decide +kernel) (fun K hK => ?_) (fun K hK => ?_)
          focus
            go_simp
            go_wp2_with (first
              | (go_at_call 27; refine HPA.out.mono ?_; rintro e w6 ⟨A6, n6, c6, L6, rfl, hP6, hf6, ho6, hb6⟩
                 obtain rfl := hP6.len
                 have HB6 := hide ((below_drewN HB5.out 1).trans (hb6.mono hz5s)); have hz6 := HB6.out.size
                 have HX7 := hide ((HX6.out.drewN 1).below hb6 (by have := HX6.out.lt; exact this))
                 clear hb6))
            refine hK.out _ _ ⟨trivial, fun _ => trivial, fun _ => trivial⟩ (fun hHeld => ?_)
            clear hK K
            (try simp only [Act.put, List.setIfInBounds_toArray, List.set_cons_zero, List.set_cons_succ])
            refine wpTill_take 9 rfl (by decide +kernel) (fun _ _ _ h => h) (by rfl) (v := ?_) ?_ hHeld (fun hHeld' => ?_)
            rotate_left 1
            focus (intro w' hSw; obtain ⟨hC, hF, hG⟩ := hSw; clear hF; clear hG; clear hC; go_simp; first | done | with_reducible rfl)
            clear hHeld
            rename Till _ _ _ _ _ _ _ => hHeld
            simp only [Act.put, List.setIfInBounds_toArray, List.set_cons_zero, List.set_cons_succ]
            refine wpTill_take 10 rfl (by decide +kernel) (fun _ _ _ h => h) (by rfl) (v := ?_) ?_ hHeld (fun hHeld' => ?_)
            rotate_left 1
            focus (intro w' hSw; obtain ⟨hC, hF, hG⟩ := hSw; clear hF; clear hG; clear hC; go_simp; first | done | with_reducible rfl)
            clear hHeld
            rename Till _ _ _ _ _ _ _ => hHeld
            simp only [Act.put, List.setIfInBounds_toArray, List.set_cons_zero, List.set_cons_succ]
            refine wpTill_take 11 rfl (by decide +kernel) (fun _ _ _ h => h) (by rfl) (v := ?_) ?_ hHeld (fun hHeld' => ?_)
            rotate_left 1
            focus (intro w' hSw; obtain ⟨hC, hF, hG⟩ := hSw; clear hF; clear hG; clear hC; go_simp; first | done | with_reducible rfl)
            clear hHeld
            rename Till _ _ _ _ _ _ _ => hHeld
            simp only [Act.put, List.setIfInBounds_toArray, List.set_cons_zero, List.set_cons_succ]
            refine wpTill_one 12 rfl (by decide +kernel) (fun K hK => ?_)
            go_simp
            refine hK.out _ _ ⟨trivial, fun _ => trivial, fun _ => trivial⟩ (fun hHeld => ?_)
            clear hK K
            (try simp only [Act.put, List.setIfInBounds_toArray, List.set_cons_zero, List.set_cons_succ])
            have HNN := hide (Blk.new w6 24 #[.int .i64 0, .slice none 0 0])
            obtain ⟨n0, n1, nf0, nf1⟩ := HNN.out.two
            refine wpTill_one 13 rfl (by decide +kernel) (fun K hK => ?_)
            go_simp
            refine hK.out _ _ ⟨trivial, fun _ => trivial, fun _ => trivial⟩ (fun hHeld => ?_)
            clear hK K n0 n1 nf0 nf1
            (try simp only [Act.put, List.setIfInBounds_toArray, List.set_cons_zero, List.set_cons_succ])
            refine wpTill_take 14 rfl (by decide +kernel) (fun _ _ _ h => h) (by rfl) (v := ?_) ?_ hHeld (fun hHeld' => ?_)
            rotate_left 1
            focus (intro w' hSw; obtain ⟨hC, hF, hG⟩ := hSw; clear hF; clear hG; clear hC; go_simp; first | done | with_reducible rfl)
            clear hHeld
            rename Till _ _ _ _ _ _ _ => hHeld
            simp only [Act.put, List.setIfInBounds_toArray, List.set_cons_zero, List.set_cons_succ]
            refine wpTill_done (by decide +kernel) ?_
            clear hHeld
            have HN9 := hide (Blk.new w6 24 #[.int .i64 wh', .slice A6 L6.length c6])
            have HP9 := hide (PiecesQ.of ((hP6.alloc (Nat.le_refl _) (.cells #[.int .i64 wh', .slice A6 L6.length c6] 24)).more (show w6.heap.size ≤ (w6.alloc (.cells #[.int .i64 wh', .slice A6 L6.length c6] 24)).heap.size by simp)))
            have HF9 : Hid (L6.map PieceV.flat = l') := hide hf6
            have HX9 := hide (HX7.out.alloc (.cells #[.int .i64 wh', .slice A6 L6.length c6] 24))
            have HB9 := hide (HB6.out.alloc hz6 (.cells #[.int .i64 wh', .slice A6 L6.length c6] 24))
            clear HNN
            obtain ⟨X, hX⟩ : ∃ X, X = w6.heap.size := ⟨_, rfl⟩
            rw [← hX] at HN9 ⊢
            clear hP6 hf6 ho6 HX7 HB6 hz6 hX HPA HPB
            generalize w6.alloc (.cells #[.int .i64 wh', .slice A6 L6.length c6] 24) = W9 at *
          rotate_left 1
          focus
            go_simp
            refine hK.out _ _ ⟨trivial, fun _ => trivial, fun _ => trivial⟩ (fun hHeld => ?_)
            clear hK K
            (try simp only [Act.put, List.setIfInBounds_toArray, List.set_cons_zero, List.set_cons_succ])
            refine wpTill_one 8 rfl (by decide +kernel) (fun K hK => ?_)
            go_simp
            go_wp2_with (first
              | (go_at_call 27; refine HPB.out.mono ?_; rintro e w6 ⟨A6, n6, c6, L6, rfl, hP6, hf6, ho6, hb6⟩
                 obtain rfl := hP6.len
                 have HB6 := hide ((Below.drew (HB5.out.alloc hz5s (.cells #[.int .i64 0, .slice none 0 0] 24))).trans (hb6.mono (by show _ ≤ (w5.alloc _).heap.size; rw [World.size_alloc]; omega))); have hz6 := HB6.out.size
                 have HX7 := hide ((HX6.out.alloc (.cells #[.int .i64 0, .slice none 0 0] 24)).drew.below hb6 (by have := HX6.out.lt; show _ < (w5.alloc _).heap.size; rw [World.size_alloc]; omega))
                 have HNN := hide ((Blk.new w5 24 #[.int .i64 0, .slice none 0 0]).drew.below hb6 (by show _ < (w5.alloc _).heap.size; rw [World.size_alloc]; omega))
                 clear hb6))
            refine hK.out _ _ ⟨trivial, fun _ => trivial, fun _ => trivial⟩ (fun hHeld => ?_)
            clear hK K
            (try simp only [Act.put, List.setIfInBounds_toArray, List.set_cons_zero, List.set_cons_succ])
            refine wpTill_take 9 rfl (by decide +kernel) (fun _ _ _ h => h) (by rfl) (v := ?_) ?_ hHeld (fun hHeld' => ?_)
            rotate_left 1
            focus (intro w' hSw; obtain ⟨hC, hF, hG⟩ := hSw; clear hF; clear hG; clear hC; go_simp; first | done | with_reducible rfl)
            clear hHeld
            rename Till _ _ _ _ _ _ _ => hHeld
            simp only [Act.put, List.setIfInBounds_toArray, List.set_cons_zero, List.set_cons_succ]
            refine wpTill_take 10 rfl (by decide +kernel) (fun _ _ _ h => h) (by rfl) (v := ?_) ?_ hHeld (fun hHeld' => ?_)
            rotate_left 1
            focus (intro w' hSw; obtain ⟨hC, hF, hG⟩ := hSw; clear hF; clear hG; clear hC; go_simp; first | done | with_reducible rfl)
            clear hHeld
            rename Till _ _ _ _ _ _ _ => hHeld
            simp only [Act.put, List.setIfInBounds_toArray, List.set_cons_zero, List.set_cons_succ]
            refine wpTill_take 11 rfl (by decide +kernel) (fun _ _ _ h => h) (by rfl) (v := ?_) ?_ hHeld (fun hHeld' => ?_)
            rotate_left 1
            focus (intro w' hSw; obtain ⟨hC, hF, hG⟩ := hSw; clear hF; clear hG; clear hC; go_simp; first | done | with_reducible rfl)
            clear hHeld
            rename Till _ _ _ _ _ _ _ => hHeld
            simp only [Act.put, List.setIfInBounds_toArray, List.set_cons_zero, List.set_cons_succ]
            obtain ⟨n0, n1, nf0, nf1⟩ := HNN.out.two
            refine wpTill_one 13 rfl (by decide +kernel) (fun K hK => ?_)
            go_simp
            refine hK.out _ _ ⟨trivial, fun _ => trivial, fun _ => trivial⟩ (fun hHeld => ?_)
            clear hK K n0 n1 nf0 nf1
            (try simp only [Act.put, List.setIfInBounds_toArray, List.set_cons_zero, List.set_cons_succ])
            refine wpTill_take 14 rfl (by decide +kernel) (fun _ _ _ h => h) (by rfl) (v := ?_) ?_ hHeld (fun hHeld' => ?_)
            rotate_left 1
            focus (intro w' hSw; obtain ⟨hC, hF, hG⟩ := hSw; clear hF; clear hG; clear hC; go_simp; first | done | with_reducible rfl)
            clear hHeld
            rename Till _ _ _ _ _ _ _ => hHeld
            simp only [Act.put, List.setIfInBounds_toArray, List.set_cons_zero, List.set_cons_succ]
            refine wpTill_done (by decide +kernel) ?_
            clear hHeld
            have hlt5 := HX6.out.lt
            have HN9 : Hid (Blk ((w6.setCell ⟨w5.heap.size, 0, none⟩ (.int .i64 wh')).setCell ⟨w5.heap.size, 1, none⟩ (.slice A6 L6.length c6)) w5.heap.size 24 #[.int .i64 wh', .slice A6 L6.length c6]) := hide ((HNN.out.set_ 0 (.int .i64 wh')).set_ 1 (.slice A6 L6.length c6))
            have hoX := ho6 w5.heap.size (by show _ < (w5.alloc _).heap.size; rw [World.size_alloc]; omega)
            have HP9 : Hid (PiecesQ ((w6.setCell ⟨w5.heap.size, 0, none⟩ (.int .i64 wh')).setCell ⟨w5.heap.size, 1, none⟩ (.slice A6 L6.length c6)) ((w6.setCell ⟨w5.heap.size, 0, none⟩ (.int .i64 wh')).setCell ⟨w5.heap.size, 1, none⟩ (.slice A6 L6.length c6)).heap.size A6 L6.length c6 L6) := hide (PiecesQ.of (((hP6.off_set (i := 0) hoX (.int .i64 wh')).off_set (i := 1) hoX (.slice A6 L6.length c6)).more (by simp)))
            have HF9 : Hid (L6.map PieceV.flat = l') := hide hf6
            have HX9 := hide ((HX7.out.far (p := ⟨w5.heap.size, 0, none⟩) (by show w.heap.size ≠ w5.heap.size; omega) (.int .i64 wh')).far (p := ⟨w5.heap.size, 1, none⟩) (by show w.heap.size ≠ w5.heap.size; omega) (.slice A6 L6.length c6))
            have HB9 := hide ((HB6.out.setCell (p := ⟨w5.heap.size, 0, none⟩) hz5s (.int .i64 wh')).setCell (p := ⟨w5.heap.size, 1, none⟩) hz5s (.slice A6 L6.length c6))
            clear HNN hoX
            clear hP6 hf6 ho6 HX7 HB6 hz6 HPA HPB
            generalize (w6.setCell ⟨w5.heap.size, 0, none⟩ (.int .i64 wh')).setCell ⟨w5.heap.size, 1, none⟩ (.slice A6 L6.length c6) = W9 at *
            obtain ⟨X, hX⟩ : ∃ X, X = w5.heap.size := ⟨_, rfl⟩
            rw [← hX] at HN9 ⊢
            clear hX hlt5
          all_goals
            obtain ⟨v0, v1, _, _⟩ := HN9.out.two
            obtain ⟨y0, y1, _, _⟩ := HX9.out.two
            have hz9 := HB9.out.size
            by_cases he : e' = 0
            · subst he
              have HOB2 := hide (HOB.out rfl)
              clear HOB
              go_upto_region 12 with (first
                | (go_at_call 22; refine (olds_any wh' A6 L6.length c6 L6 wh A l.length c l W9.heap.size W9 HP9.out ((HP.out _ HB9.out).more hz9) (Nat.le_refl _)).mono ?_; rintro e wa ⟨rfl, hba⟩
                   rw [HF9.out, HOB2.out]
                   have HBa := hide (HB9.out.trans (hba.mono hz9))
                   clear hba))
              obtain ⟨ws, ls, es, hps⟩ : ∃ ws ls es, parseS s = (ws, ls, es) := ⟨_, _, _, rfl⟩
              have HPS := hide (HPAR.out s _ HBa.out)
              rw [hps] at HPS
              have hzS := HBa.out.size
              by_cases hes : es = 0
              · subst hes
                have hpb := parse_back hps
                obtain ⟨hoks, htxt⟩ : oldOK ws ls = true ∧ (⟨(textS ws ls).toArray⟩ : ByteArray) = s := by
                  rcases hpb with ⟨_, h2, h3⟩ | ⟨_, _, h3⟩
                  · exact ⟨h2, h3⟩
                  · omega
                have HFS := hide (fun W A' n' c' B (L : List PieceV) hL (hf : L.map PieceV.flat = ls) hB hT => by
                  have h := format_any ws A' n' c' B L W hL hB hT
                  rw [hf, hoks, if_pos rfl, htxt] at h
                  exact h)
                have HSM := hide (fun (L : List PieceV) (hf : L.map PieceV.flat = ls) => oldOK_small (wh := ws) (l := L) (by rw [hf]; exact hoks))
                clear hpb htxt hoks hps
                go_wp2_with (first
                  | (go_at_call 27; refine HPS.out.mono ?_; rintro e w7 ⟨A7, n7, c7, L7, rfl, hP7, hf7, -, hb7⟩
                     obtain rfl := hP7.len
                     have HB7 := hide (HBa.out.trans (hb7.mono hzS)); have hz7 := HB7.out.size
                     have HP7 := hide (PiecesQ.of hP7); have HF7 := hide hf7
                     have HB8 := hide (HB7.out.alloc hz7 (.cells #[.int .i64 ws, .slice A7 L7.length c7] 24))
                     obtain ⟨s0, s1, _, _⟩ := (Blk.new w7 24 #[.int .i64 ws, .slice A7 L7.length c7]).two
                     have HO7 := hide (old_any ws A7 L7.length c7 w7.heap.size L7 (w7.alloc (.cells #[.int .i64 ws, .slice A7 L7.length c7] 24)) (HP7.out.alloc (Nat.le_refl _) _) (by simp) (HSM.out L7 hf7).1 (HSM.out L7 hf7).2)
                     clear hb7 hP7 hf7)
                  | (go_at_call 18; refine HO7.out.mono ?_; rintro e w8 ⟨A8, c8, L8, rfl, hP8, hf8, hb8⟩
                     have HB9 := hide (HB8.out.trans (hb8.mono (by simp; omega))); have hz9 := HB9.out.size
                     have HF8 := hide (HFS.out w8 A8 L7.length c8 w8.heap.size L8 hP8 (hf8.trans HF7.out) (Nat.le_refl _) (HTB.out _ HB9.out))
                     clear hb8 hP8 hf8)
                  | (go_at_call 20; refine HF8.out.mono ?_; rintro e w9 ⟨rfl, hb9⟩
                     simp only [argE, if_true]
                     have HBz := hide (HB9.out.trans (hb9.mono hz9)); have hzz := HBz.out.size
                     clear hb9)
                  | (go_at_call 17; refine (HK.out _ HBz.out).mono ?_; rintro e wz ⟨rfl, hbz⟩
                     have HBe := hide (HBz.out.trans (hbz.mono hzz))
                     clear hbz))
                all_goals
                  go_ret
                  exact ⟨rfl, HBe.out⟩
              · have hes2 : (es == 0) = false := beq_eq_false_iff_ne.2 hes
                go_wp2_with (first
                  | (go_at_call 27; refine HPS.out.mono ?_; rintro e w7 ⟨A7, n7, c7, L7, rfl, hP7, hf7, -, hb7⟩
                     have HB7 := hide (HBa.out.trans (hb7.mono hzS)); have hz7 := HB7.out.size
                     have HBz := hide (HB7.out.alloc hz7 (.cells #[.int .i64 ws, .slice A7 n7 c7] 24)); have hzz := HBz.out.size
                     clear hb7 hP7 hf7)
                  | (go_at_call 17; refine (HK.out _ HBz.out).mono ?_; rintro e wz ⟨rfl, hbz⟩
                     have HBe := hide (HBz.out.trans (hbz.mono hzz))
                     clear hbz))
                all_goals
                  go_ret
                  exact ⟨rfl, HBe.out⟩
            · have hen : (e' == 0) = false := beq_eq_false_iff_ne.2 he
              go_upto_region 12 with fail
              obtain ⟨ws, ls, es, hps⟩ : ∃ ws ls es, parseS s = (ws, ls, es) := ⟨_, _, _, rfl⟩
              have HPS := hide (HPAR.out s _ HB9.out)
              rw [hps] at HPS
              have hzS := HB9.out.size
              by_cases hes : es = 0
              · subst hes
                have hpb := parse_back hps
                obtain ⟨hoks, htxt⟩ : oldOK ws ls = true ∧ (⟨(textS ws ls).toArray⟩ : ByteArray) = s := by
                  rcases hpb with ⟨_, h2, h3⟩ | ⟨_, _, h3⟩
                  · exact ⟨h2, h3⟩
                  · omega
                have HFS := hide (fun W A' n' c' B (L : List PieceV) hL (hf : L.map PieceV.flat = ls) hB hT => by
                  have h := format_any ws A' n' c' B L W hL hB hT
                  rw [hf, hoks, if_pos rfl, htxt] at h
                  exact h)
                have HSM := hide (fun (L : List PieceV) (hf : L.map PieceV.flat = ls) => oldOK_small (wh := ws) (l := L) (by rw [hf]; exact hoks))
                clear hpb htxt hoks hps
                go_wp2_with (first
                  | (go_at_call 27; refine HPS.out.mono ?_; rintro e w7 ⟨A7, n7, c7, L7, rfl, hP7, hf7, -, hb7⟩
                     obtain rfl := hP7.len
                     have HB7 := hide (HB9.out.trans (hb7.mono hzS)); have hz7 := HB7.out.size
                     have HP7 := hide (PiecesQ.of hP7); have HF7 := hide hf7
                     have HB8 := hide (HB7.out.alloc hz7 (.cells #[.int .i64 ws, .slice A7 L7.length c7] 24))
                     obtain ⟨s0, s1, _, _⟩ := (Blk.new w7 24 #[.int .i64 ws, .slice A7 L7.length c7]).two
                     have HO7 := hide (old_any ws A7 L7.length c7 w7.heap.size L7 (w7.alloc (.cells #[.int .i64 ws, .slice A7 L7.length c7] 24)) (HP7.out.alloc (Nat.le_refl _) _) (by simp) (HSM.out L7 hf7).1 (HSM.out L7 hf7).2)
                     clear hb7 hP7 hf7)
                  | (go_at_call 18; refine HO7.out.mono ?_; rintro e w8 ⟨A8, c8, L8, rfl, hP8, hf8, hb8⟩
                     have HB9 := hide (HB8.out.trans (hb8.mono (by simp; omega))); have hz9 := HB9.out.size
                     have HF8 := hide (HFS.out w8 A8 L7.length c8 w8.heap.size L8 hP8 (hf8.trans HF7.out) (Nat.le_refl _) (HTB.out _ HB9.out))
                     clear hb8 hP8 hf8)
                  | (go_at_call 20; refine HF8.out.mono ?_; rintro e w9 ⟨rfl, hb9⟩
                     simp only [argE, if_true]
                     have HBz := hide (HB9.out.trans (hb9.mono hz9)); have hzz := HBz.out.size
                     clear hb9)
                  | (go_at_call 17; refine (HK.out _ HBz.out).mono ?_; rintro e wz ⟨rfl, hbz⟩
                     have HBe := hide (HBz.out.trans (hbz.mono hzz))
                     clear hbz))
                all_goals
                  go_ret
                  exact ⟨rfl, HBe.out⟩
              · have hes2 : (es == 0) = false := beq_eq_false_iff_ne.2 hes
                go_wp2_with (first
                  | (go_at_call 27; refine HPS.out.mono ?_; rintro e w7 ⟨A7, n7, c7, L7, rfl, hP7, hf7, -, hb7⟩
                     have HB7 := hide (HB9.out.trans (hb7.mono hzS)); have hz7 := HB7.out.size
                     have HBz := hide (HB7.out.alloc hz7 (.cells #[.int .i64 ws, .slice A7 n7 c7] 24)); have hzz := HBz.out.size
                     clear hb7 hP7 hf7)
                  | (go_at_call 17; refine (HK.out _ HBz.out).mono ?_; rintro e wz ⟨rfl, hbz⟩
                     have HBe := hide (HBz.out.trans (hbz.mono hzz))
                     clear hbz))
                all_goals
                  go_ret
                  exact ⟨rfl, HBe.out⟩
  · rw [hlg] at HLG
    go_enter Tryz.func5, Tryz.ntmps5
    go_upto_region 1 with fail
    rw [← hw0]
    clear hw0
    obtain ⟨x0, x1, _, _⟩ := HX0.out.two
    go_wp2_with (first
      | (go_at_call 16; refine (HLG.out _ HB0.out (by omega)).mono ?_; rintro e w1 ⟨rfl, hb1⟩
         have HB1 := hide (HB0.out.trans (hb1.mono (by omega))); have hz1 := HB1.out.size
         clear hb1)
      | (go_at_call 17; refine (HK.out _ HB1.out).mono ?_; rintro e wz ⟨rfl, hbz⟩
         have HBe := hide (HB1.out.trans (hbz.mono hz1))
         clear hbz))
    all_goals
      go_ret
      exact ⟨rfl, HBe.out⟩
end Go.Proofs.YtaacnbnmlfhnaaaGreatDoor
