import Derived.Test.YtaacnbnmlfhnaaaGreatDoorRefIToRefJ
import Derived.Test.YtaacnbnmlfhnaaaGreatDoorTextAToTextC
import Derived.Test.YtaacnbnmlfhnaaaGreatDoorLawFToTiny
import Derived.Laws.Concat
import Derived.Test.YtaacnbnmlfhnaaaGreatDoorKnown
set_option linter.unusedVariables false
set_option linter.unusedSimpArgs false
namespace Go.Proofs.YtaacnbnmlfhnaaaGreatDoor
open Go.RowKit
theorem dig10 : ∀ k : Nat, k < 10 → (⟨#[48, 49, 50, 51, 52, 53, 54, 55, 56, 57]⟩ : ByteArray).extract k (k + 1) = ⟨(Lib.itoa (k : Int)).toArray⟩ := by decide +kernel
theorem itoa_split : ∀ k : Nat, k < 1001 → 10 ≤ k → Lib.itoa ((k / 10 : Nat) : Int) ++ Lib.itoa ((k % 10 : Nat) : Int) = Lib.itoa (k : Int) := by decide +kernel
set_option maxHeartbeats 1000000 in
set_option maxRecDepth 100000 in
theorem digits_nat : ∀ (f k : Nat) (w : World), k < f → k ≤ 1000 → Calls Tryz.prog 76 #[.int .i64 (k : Int)] w fun e w' => e = .returned (.string ⟨(Lib.itoa (k : Int)).toArray⟩) ∧ w' = w
 | 0, k, w, h, _ => by omega
 | f + 1, k, w, hf, hk => by
  by_cases h10 : (k : Int) < 10
  ·have HD := hide (dig10 k (by omega))
   have e1 : (0 : Int) ≤ (k : Int) + 1 := by omega
   have e2 : (k : Int) + 1 ≤ 10 := by omega
   have e3 : k + 1 ≤ 10 := by omega
   go_enter Tryz.func76, Tryz.ntmps76
   go_wp2
   go_ret
   exact ⟨by rw [← HD.out]; rfl, rfl⟩
  ·have HQ : Hid (∀ W, Calls Tryz.prog 76 #[.int .i64 ((k : Int) / 10)] W fun e w' => e = .returned (.string ⟨(Lib.itoa ((k / 10 : Nat) : Int)).toArray⟩) ∧ w' = W) := hide (fun W => by
    have h := digits_nat f (k / 10) W (by omega) (by omega)
    rwa [Int.natCast_ediv] at h)
   have HR : Hid (∀ W, Calls Tryz.prog 76 #[.int .i64 ((k : Int) % 10)] W fun e w' => e = .returned (.string ⟨(Lib.itoa ((k % 10 : Nat) : Int)).toArray⟩) ∧ w' = W) := hide (fun W => by
    have h := digits_nat f (k % 10) W (by omega) (by omega)
    rwa [Int.natCast_emod] at h)
   have HS := hide (itoa_split k (by omega) (by omega))
   obtain ⟨a, ha⟩ : ∃ a : ByteArray, a = ⟨(Lib.itoa ((k / 10 : Nat) : Int)).toArray⟩ := ⟨_, rfl⟩
   obtain ⟨b, hb⟩ : ∃ b : ByteArray, b = ⟨(Lib.itoa ((k % 10 : Nat) : Int)).toArray⟩ := ⟨_, rfl⟩
   have hA : a.size ≤ 4 := by rw [ha, size_list]; exact (itoa_val (by omega)).2.1
   have hB : b.size ≤ 4 := by rw [hb, size_list]; exact (itoa_val (by omega)).2.1
   rw [← ha] at HQ
   rw [← hb] at HR
   have HE : Hid (a ++ b = ⟨(Lib.itoa (k : Int)).toArray⟩) := hide (by rw [ha, hb, str_append, HS.out])
   clear ha hb HS
   have hov : ¬ 9223372036854775807 < a.size + b.size := by omega
   have hw1 : IntKind.i64.wrap ((k : Int) / 10) = (k : Int) / 10 := by rw [IntKind.wrap_i64]; omega
   go_enter Tryz.func76, Tryz.ntmps76
   go_wp2_with (first
    | (go_at_call 76; refine (HQ.out _).mono ?_; rintro e w1 ⟨rfl, hw1⟩; subst w1; clear HQ)
    | (go_at_call 76; refine (HR.out _).mono ?_; rintro e w1 ⟨rfl, hw1⟩; subst w1))
   go_ret
   exact ⟨by rw [HE.out]; rfl, rfl⟩
theorem digits_any (m : Int) (w : World) (hm : 0 ≤ m ∧ m ≤ 1000) : Calls Tryz.prog 76 #[.int .i64 m] w fun e w' => e = .returned (.string ⟨(Lib.itoa m).toArray⟩) ∧ w' = w := by
 obtain ⟨k, rfl⟩ := Int.eq_ofNat_of_zero_le hm.1
 exact digits_nat (k + 1) k w (by omega) (by omega)
theorem pieceT_lead {ld : List UInt8} {ms : List Int} (h : ms ≠ []) : ld ++ pieceT [] ms = pieceT ld ms := by
 obtain ⟨m, t, rfl⟩ := List.exists_cons_of_ne_nil h
 rw [pieceT_cons, pieceT_cons]; simp
theorem pieceT_drop {ld : List UInt8} {ms : List Int} {k : Nat} (h : k < ms.length) : pieceT ld (ms.drop k) = ld ++ Lib.itoa ms[k] ++ pieceT [42] (ms.drop (k + 1)) := by
 rw [List.drop_eq_getElem_cons h, pieceT_cons]
theorem flatT_drop {l : List PieceV} {k : Nat} (h : k < l.length) : flatT ((l.drop k).map PieceV.flat) = pieceT (leadT l[k].flat.1) l[k].flat.2 ++ flatT ((l.drop (k + 1)).map PieceV.flat) := by
 rw [List.drop_eq_getElem_cons h, List.map_cons, flatT_cons]
theorem pieceT_nil (ld : List UInt8) : pieceT ld [] = [] := rfl
theorem flatT_nil : flatT [] = [] := rfl
theorem lead_join {S ld R T : List UInt8} {ms : List Int} (h : S ++ (pieceT ld ms ++ R) = T) (hne : ms ≠ []) : (S ++ ld) ++ (pieceT (if 0 = 0 then [] else [42]) (ms.drop 0) ++ R) = T := by
 rw [if_pos rfl, List.drop_zero, ← h, ← pieceT_lead (ld := ld) hne]; simp
theorem mark_join {S R T : List UInt8} {ms : List Int} {j : Nat} {m : Int} (hj : j < ms.length) (hm : m = ms[j]) (h : S ++ (pieceT (if j = 0 then [] else [42]) (ms.drop j) ++ R) = T) :
  (S ++ (if j = 0 then [] else [42]) ++ Lib.itoa m) ++ (pieceT (if j + 1 = 0 then [] else [42]) (ms.drop (j + 1)) ++ R) = T := by
 rw [if_neg (Nat.succ_ne_zero j), ← h, pieceT_drop hj, hm]; simp
set_option maxHeartbeats 2000000 in
set_option maxRecDepth 100000 in
theorem refText_any (wh : Int) (A : Option Addr) (n c B : Nat) (l : List PieceV) (w : World) (hp : PiecesQ w B A n c l) (hB : B ≤ w.heap.size) (hok : oldOK wh (l.map PieceV.flat) = true) :
  Calls Tryz.prog 26 #[.agg #[.int .i64 wh, .slice A n c]] w fun e w' => e = .returned (.string ⟨(textS wh (l.map PieceV.flat)).toArray⟩) ∧ Below w.heap.size w w' := by
 have hl := hp.len
 subst hl
 have hn := hp.1.nmax
 obtain ⟨w0, hw0⟩ : ∃ w0, w0 = w.alloc (.cells #[.int .i64 wh, .slice A l.length c] 24) := ⟨_, rfl⟩
 have HX0 : Hid (Blk w0 w.heap.size 24 #[.int .i64 wh, .slice A l.length c]) := hide (by rw [hw0]; exact Blk.new w _ _)
 have HB0 : Hid (Below w.heap.size w w0) := hide (by rw [hw0]; exact (Below.refl _ _).alloc (Nat.le_refl _) _)
 have HP := hide (hp.below (HB0.out.mono hB))
 clear hp
 obtain ⟨hwb, _, hpk⟩ := oldOK_split hok
 have HPK := hide (show ∀ k (hk : k < l.length), l[k].ms ≠ [] ∧ ∀ m ∈ l[k].ms, 0 ≤ m ∧ m ≤ 1000 from fun k hk => pieceOK_mem (hpk l[k].flat (List.mem_map_of_mem (List.getElem_mem hk))))
 have htl := textS_len hok
 obtain ⟨T, hT⟩ : ∃ T, textS wh (l.map PieceV.flat) = T := ⟨_, rfl⟩
 have HT : Hid (Lib.itoa wh ++ flatT (l.map PieceV.flat) = T) := hide hT
 rw [hT] at htl ⊢
 have hti : (Lib.itoa wh).length ≤ 1000 := by have := (itoa_val hwb).2.1; omega
 have HDW := hide (fun W => digits_any wh W hwb)
 obtain ⟨b0, hb0⟩ : ∃ b0 : ByteArray, b0 = ⟨(Lib.itoa wh).toArray⟩ := ⟨_, rfl⟩
 rw [← hb0] at HDW
 have HB00 := hide hb0
 clear hpk hok hT hb0
 go_enter Tryz.func26, Tryz.ntmps26
 go_upto_region 1 with fail
 rw [← hw0]
 clear hw0
 obtain ⟨x0, x1, _, _⟩ := HX0.out.two
 go_wp2_with (first
  | (go_at_call 76; refine (HDW.out _).mono ?_; rintro e w1 ⟨rfl, hw1⟩; subst w1))
 go_loopw [3, 4] (fun s i W => ∃ (k : Nat) (b : ByteArray) (S : List UInt8), k ≤ l.length ∧ i = .int .i64 k ∧ s = .string b ∧ b = ⟨S.toArray⟩ ∧ S ++ flatT ((l.drop k).map PieceV.flat) = T ∧ W = w0) (fun _ i _ => l.length - (intOf i).toNat)
 case atStart => exact ⟨0, b0, Lib.itoa wh, by omega, rfl, rfl, HB00.out, HT.out, rfl⟩
 case round =>
  obtain ⟨k, b, S, hk, rfl, rfl, hb, hS, rfl⟩ := hrel
  have hbs : b.size ≤ 1000 := by
   rw [hb, size_list]
   have := congrArg List.length hS
   rw [List.length_append] at this
   omega
  have HBB := hide hb; have HSS := hide hS
  clear hb hS
  by_cases hkl : (k : Int) < (l.length : Int)
  ·have hk1 : k < l.length := by omega
   obtain ⟨ad, rfl, -, ha0, ha1⟩ := HP.out.at_ hk1
   have hpi := HP.out.2 l[k] (List.getElem_mem hk1)
   have hmk := HPK.out k hk1
   have hfd := flatT_drop hk1
   obtain ⟨p, hpe⟩ : ∃ p, p = l[k] := ⟨_, rfl⟩
   rw [← hpe] at ha0 ha1 hpi hmk hfd
   clear hpe
   obtain ⟨mi, Ap, np, cp, ms⟩ := p
   dsimp only [PieceV.flat] at ha0 ha1 hpi hmk hfd
   have hnp := hpi.len
   subst hnp
   have hmx := Rq.nmax hpi
   have HPI := hide hpi
   obtain ⟨hmne, hmb⟩ := hmk
   have HMB := hide hmb
   obtain ⟨R, hR⟩ : ∃ R, flatT ((l.drop (k + 1)).map PieceV.flat) = R := ⟨_, rfl⟩
   have HRR := hide hR
   have HSP : Hid (S ++ (pieceT (leadT mi) ms ++ R) = T) := hide (by rw [← hR, ← hfd]; exact HSS.out)
   have HLD := hide (pieceT_lead (ld := leadT mi) hmne)
   clear hpi hmb hfd hR HSS
   have HNE := hide hmne
   clear hmne HLD
   have hov : ¬ 9223372036854775807 < b.size + 3 := by omega
   cases mi
   all_goals
    go_wp2
    go_loopw [3, 5] (fun s j W => ∃ (j2 : Nat) (b2 : ByteArray) (S2 : List UInt8), j2 ≤ ms.length ∧ j = .int .i64 j2 ∧ s = .string b2 ∧ b2 = ⟨S2.toArray⟩ ∧ S2 ++ (pieceT (if j2 = 0 then [] else [42]) (ms.drop j2) ++ R) = T ∧ W = wr) (fun _ j _ => ms.length - (intOf j).toNat)
    case atStart => first | exact ⟨0, _, S ++ [45, 49, 47], by omega, rfl, rfl, by rw [HBB.out]; exact str_append S [45, 49, 47], lead_join (ld := [45, 49, 47]) HSP.out HNE.out, rfl⟩ | exact ⟨0, _, S ++ [43, 49, 47], by omega, rfl, rfl, by rw [HBB.out]; exact str_append S [43, 49, 47], lead_join (ld := [43, 49, 47]) HSP.out HNE.out, rfl⟩
    case round =>
     obtain ⟨j, b2, S2, hj, rfl, rfl, hb2, hS2, hwq⟩ := hrel
     have hbs2 : b2.size ≤ 1000 := by
      rw [hb2, size_list]
      have := congrArg List.length hS2
      rw [List.length_append] at this
      omega
     have HB2 := hide hb2; have HS2 := hide hS2
     clear hb2 hS2
     subst hwq
     by_cases hjl : (j : Int) < (ms.length : Int)
     ·have hj1 : j < ms.length := by omega
      obtain ⟨ad2, rfl, -, hc0⟩ := HPI.out.at_ hj1
      have hmj := HMB.out ms[j] (List.getElem_mem hj1)
      have HMJ := hide (fun m (hm : m = ms[j]) => mark_join hj1 hm HS2.out)
      obtain ⟨m, hm⟩ : ∃ m, m = ms[j] := ⟨_, rfl⟩
      have HMK := hide (HMJ.out m hm)
      rw [← hm] at hc0 hmj
      clear hm HMJ
      have HDG := hide (fun W => digits_any m W hmj)
      obtain ⟨d, hd⟩ : ∃ d : ByteArray, d = ⟨(Lib.itoa m).toArray⟩ := ⟨_, rfl⟩
      have hds : d.size ≤ 4 := by rw [hd, size_list]; exact (itoa_val hmj).2.1
      rw [← hd] at HDG
      have HD := hide hd
      clear hd
      by_cases hj0 : 0 < (j : Int)
      ·have hov1 : ¬ 9223372036854775807 < b2.size + 1 := by omega
       have hov2 : ¬ 9223372036854775807 < b2.size + 1 + d.size := by omega
       go_wp2_with (first
        | (go_at_call 76; refine (HDG.out _).mono ?_; rintro e w1 ⟨rfl, hw1⟩; subst w1))
       have hmk := HMK.out
       rw [if_neg (show ¬ j = 0 by omega)] at hmk
       exact ⟨⟨j + 1, _, S2 ++ [42] ++ Lib.itoa m, by omega, by go_num, rfl, by rw [← str_append, ← str_append, ← HB2.out, ← HD.out], hmk, by trivial⟩, by simp [intOf]; omega⟩
      ·have hov2 : ¬ 9223372036854775807 < b2.size + d.size := by omega
       go_wp2_with (first
        | (go_at_call 76; refine (HDG.out _).mono ?_; rintro e w1 ⟨rfl, hw1⟩; subst w1))
       have hmk := HMK.out
       rw [if_pos (show j = 0 by omega), List.append_nil] at hmk
       exact ⟨⟨j + 1, _, S2 ++ Lib.itoa m, by omega, by go_num, rfl, by rw [← str_append, ← HB2.out, ← HD.out], hmk, by trivial⟩, by simp [intOf]; omega⟩
     ·obtain rfl : j = ms.length := by omega
      have hS2 := HS2.out
      rw [List.drop_length, pieceT_nil, List.nil_append, ← HRR.out] at hS2
      have HS3 := hide hS2
      clear hS2
      go_wp2
      exact ⟨⟨k + 1, b2, S2, by omega, by go_num, rfl, HB2.out, HS3.out, by trivial⟩, by simp [intOf]; omega⟩
  ·obtain rfl : k = l.length := by omega
   have hST := HSS.out
   rw [List.drop_length, List.map_nil, flatT_nil, List.append_nil] at hST
   have HST := hide hST
   clear hST
   go_wp2
   go_ret
   exact ⟨by rw [HBB.out, HST.out]; rfl, HB0.out⟩
end Go.Proofs.YtaacnbnmlfhnaaaGreatDoor
namespace Go.Proofs.YtaacnbnmlfhnaaaGreatDoor
open Go.RowKit
theorem get_idx {s : ByteArray} {i : Nat} (h : i < s.size) : s.get! i = s[i]'h := getElem!_pos s.data i h
theorem isDig_idx {s : ByteArray} {i : Nat} (h : i < s.size) : isDig (s.get! i) = true ↔ (48 : Int) ≤ ((s[i]'h).toNat : Int) ∧ ((s[i]'h).toNat : Int) ≤ 57 := by
 rw [get_idx h]
 unfold isDig
 rw [decide_eq_true_iff]
 omega
theorem numP_stop {s : ByteArray} {k i : Nat} {v : Int} (h : ¬ (i < s.size ∧ isDig (s.get! i) = true)) : numP s k i v = (v, i) := by
 cases k with
 | zero => rfl
 | succ k => unfold numP; rw [if_neg h]
theorem numP_go {s : ByteArray} {k i : Nat} {v : Int} (h : i < s.size) (hd : isDig (s.get! i) = true) : numP s (k + 1) i v = numP s k (i + 1) (10 * v + (((s[i]'h).toNat : Int) - 48)) := by
 rw [numP, if_pos ⟨h, hd⟩, get_idx h]
theorem numP_bd : ∀ (k i : Nat) (v : Int) (s : ByteArray), i ≤ (numP s k i v).2 ∧ (numP s k i v).2 ≤ max i s.size
 | 0, i, v, s => ⟨Nat.le_refl _, Nat.le_max_left _ _⟩
 | k + 1, i, v, s => by
  by_cases h : i < s.size ∧ isDig (s.get! i) = true
  ·rw [numP_go h.1 h.2]
   have := numP_bd k (i + 1) (10 * v + (((s[i]'h.1).toNat : Int) - 48)) s
   have h1 := h.1
   omega
  ·rw [numP_stop h]
   exact ⟨Nat.le_refl _, Nat.le_max_left _ _⟩
def DigB (k : Nat) (v : Int) : Prop := 0 ≤ v ∧ v < 10 ^ k
theorem DigB.le {k : Nat} {v : Int} (h : DigB k v) (hk : k ≤ 4) : 0 ≤ v ∧ v ≤ 9999 := by
 have h5 : k = 0 ∨ k = 1 ∨ k = 2 ∨ k = 3 ∨ k = 4 := by omega
 obtain ⟨h0, h1⟩ := h
 refine ⟨h0, ?_⟩
 rcases h5 with rfl | rfl | rfl | rfl | rfl <;> simp at h1 <;> omega
theorem DigB.next {k : Nat} {v d : Int} (h : DigB k v) (hd : 0 ≤ d ∧ d ≤ 9) : DigB (k + 1) (10 * v + d) := by
 obtain ⟨h0, h1⟩ := h
 refine ⟨by omega, ?_⟩
 rw [Int.pow_succ]
 generalize (10 : Int) ^ k = p at *
 omega
set_option maxHeartbeats 2000000 in
set_option maxRecDepth 100000 in
theorem number_any (s : ByteArray) (at_ : Nat) (w : World) (hs : s.size ≤ 1000) (hat : at_ ≤ 2000) :
  Calls Tryz.prog 78 #[.string s, .int .i64 (at_ : Int)] w fun e w' => e = .returned (.tuple #[.int .i64 (numP s 4 at_ 0).1, .int .i64 ((numP s 4 at_ 0).2 : Int), .bool (decide (at_ < (numP s 4 at_ 0).2))]) ∧ w' = w := by
 obtain ⟨R, hR⟩ : ∃ R, numP s 4 at_ 0 = R := ⟨_, rfl⟩
 have HR := hide hR
 rw [hR]
 clear hR
 go_enter Tryz.func78, Tryz.ntmps78
 go_wp2
 go_loopw [4, 5] (fun n t W => ∃ (i : Nat) (v : Int), at_ ≤ i ∧ i ≤ at_ + 4 ∧ n = .int .i64 v ∧ t = .int .i64 (i : Int) ∧ DigB (i - at_) v ∧ numP s (at_ + 4 - i) i v = R ∧ W = w) (fun _ t _ => (at_ + 4) - (intOf t).toNat)
 case atStart => exact ⟨at_, 0, Nat.le_refl _, by omega, rfl, rfl, by rw [Nat.sub_self]; exact ⟨by omega, by decide⟩, by rw [Nat.add_sub_cancel_left]; exact HR.out, rfl⟩
 case round =>
  obtain ⟨i, v, hi1, hi2, rfl, rfl, hvb, hv, rfl⟩ := hrel
  have HVB := hide hvb
  have HV := hide hv
  have hvl := hvb.le (by omega)
  clear hvb hv HR
  by_cases h1 : (i : Int) < (s.size : Int)
  ·have hi : i < s.size := by omega
   by_cases h2 : (i : Int) < (at_ : Int) + 4
   ·by_cases h3 : (48 : Int) ≤ ((s[i]'hi).toNat : Int)
    ·by_cases h4 : ((s[i]'hi).toNat : Int) ≤ 57
     ·have HD := hide ((isDig_idx hi).2 ⟨h3, h4⟩)
      have HV2 : Hid (numP s (at_ + 4 - (i + 1)) (i + 1) (10 * v + (((s[i]'hi).toNat : Int) - 48)) = R) := hide (by
       rw [← HV.out, show at_ + 4 - i = (at_ + 4 - (i + 1)) + 1 by omega, numP_go hi HD.out])
      have HN : Hid (DigB (i + 1 - at_) (10 * v + (((s[i]'hi).toNat : Int) - 48))) := hide (by
       have h := HVB.out.next (d := ((s[i]'hi).toNat : Int) - 48) (by omega)
       rwa [show i - at_ + 1 = i + 1 - at_ by omega] at h)
      go_wp2
      exact ⟨⟨i + 1, _, by omega, by omega, rfl, by go_num, HN.out, HV2.out, by trivial⟩, by simp [intOf]; omega⟩
     ·have HE : Hid (R = (v, i)) := hide (by rw [← HV.out]; exact numP_stop (fun h => h4 ((isDig_idx hi).1 h.2).2))
      go_wp2
      go_ret3
      exact ⟨by rw [HE.out]; rfl, by trivial⟩
    ·have HE : Hid (R = (v, i)) := hide (by rw [← HV.out]; exact numP_stop (fun h => h3 ((isDig_idx hi).1 h.2).1))
     go_wp2
     go_ret3
     exact ⟨by rw [HE.out]; rfl, by trivial⟩
   ·have HE : Hid (R = (v, i)) := hide (by rw [← HV.out, show at_ + 4 - i = 0 by omega]; rfl)
    go_wp2
    go_ret3
    exact ⟨by rw [HE.out]; rfl, by trivial⟩
  ·have HE : Hid (R = (v, i)) := hide (by rw [← HV.out]; exact numP_stop (fun h => h1 (by have := h.1; omega)))
   go_wp2
   go_ret3
   exact ⟨by rw [HE.out]; rfl, by trivial⟩
theorem marks_step {s : ByteArray} {f i j' : Nat} {n : Int} {ms : List Int} {Rm : List Int × Nat × Bool} {ob bm : Bool} (h : marksP s (f + 1) i ms = Rm) (hn : numP s 4 (i + 1) 0 = (n, j')) (hob : decide (i + 1 < j') = ob) (hbm : decide (j' < s.size ∧ s.get! j' = 42) = bm) :
  (ob = true → bm = true → marksP s f j' (ms ++ [n]) = Rm) ∧ (ob = false → (ms ++ [n], j', false) = Rm) ∧ (ob = true → bm = false → (ms ++ [n], j', true) = Rm) := by
 rw [marksP, hn] at h
 dsimp only at h
 subst hob
 subst hbm
 refine ⟨fun h1 h2 => ?_, fun h1 => ?_, fun h1 h2 => ?_⟩
 ·have h1 := of_decide_eq_true h1
  rw [if_neg (by omega), if_pos (of_decide_eq_true h2)] at h
  exact h
 ·have h1 := of_decide_eq_false h1
  rw [if_pos (by omega)] at h
  exact h
 ·have h1 := of_decide_eq_true h1
  rw [if_neg (by omega), if_neg (of_decide_eq_false h2)] at h
  exact h
theorem piecesP_step {s : ByteArray} {f i : Nat} {l : List (Bool × List Int)} {R : List (Bool × List Int) × Bool} {ms : List Int} {j : Nat} {ob mi : Bool} (h : piecesP s (f + 1) i l = R) (hi : i < s.size) (hm : marksP s (s.size + 1) (i + 2) [] = (ms, j, ob)) (hmi : decide (s.get! i = 45) = mi) :
  if ob = true then piecesP s f j (l ++ [(mi, ms)]) = R else (l ++ [(mi, ms)], false) = R := by
 rw [piecesP, if_pos hi, hm, hmi] at h
 dsimp only at h
 cases ob
 ·rw [if_neg (by decide)] at h ⊢
  exact h
 ·rw [if_pos rfl] at h ⊢
  exact h
theorem piecesP_end {s : ByteArray} {f i : Nat} {l : List (Bool × List Int)} (hi : ¬ i < s.size) : piecesP s f i l = (l, true) := by
 cases f with
 | zero => rfl
 | succ f => rw [piecesP, if_neg hi]
end Go.Proofs.YtaacnbnmlfhnaaaGreatDoor
namespace Go.Proofs.YtaacnbnmlfhnaaaGreatDoor
open Go.RowKit
structure ParI (w W : World) (wh : Int) (A : Option Addr) (c : Nat) (L : List PieceV) : Prop where
 r : Blk W w.heap.size 24 #[.int .i64 0, .slice none 0 0]
 o : Blk W (w.heap.size + 1) 24 #[.int .i64 wh, .slice A L.length c]
 row : W.ownsRow (w.heap.size + 2) 94 2 (.slice A L.length c) L.length (cells2 (L.map PieceV.enc))
 marks : ∀ p ∈ L, W.ownsRow (w.heap.size + 2) 3 1 (.slice p.A p.n p.c) p.n (p.ms.map (Value.int .i64))
 below : Below w.heap.size w W
theorem ParI.under {w W W' : World} {wh : Int} {A : Option Addr} {c : Nat} {L : List PieceV} (h : ParI w W wh A c L) (hb : Below W.heap.size W W') : ParI w W' wh A c L :=
 ⟨h.r.below hb h.r.lt, h.o.below hb h.o.lt, own_below h.row hb, fun p hp => own_below (h.marks p hp) hb, h.below.trans (hb.mono h.below.size)⟩
theorem ParI.pieces {w W : World} {wh : Int} {A : Option Addr} {c : Nat} {L : List PieceV} (h : ParI w W wh A c L) : PiecesQ W W.heap.size A L.length c L :=
 PiecesQ.of ⟨Rd.of_own h.row, fun p hp => Rd.of_own (h.marks p hp)⟩
structure MarkI (V W : World) (mi : Bool) (A : Option Addr) (c : Nat) (ms : List Int) : Prop where
 p : Blk W V.heap.size 94 #[.bool mi, .slice A ms.length c]
 row : W.ownsRow (V.heap.size + 1) 3 1 (.slice A ms.length c) ms.length (ms.map (Value.int .i64))
 below : Below V.heap.size V W
theorem MarkI.start (V : World) (mi : Bool) : MarkI V (V.alloc (.cells #[.bool mi, .slice none 0 0] 94)) mi none 0 [] :=
 ⟨Blk.new V _ _, World.ownsRow_nil _ _ _ _, (Below.refl _ _).alloc (Nat.le_refl _) _⟩
theorem MarkI.next {V W w3 : World} {mi : Bool} {A A' : Option Addr} {c c' : Nat} {ms : List Int} {n : Int} (h : MarkI V W mi A c ms)
  (ho : w3.ownsRow (V.heap.size + 1) 3 1 (.slice A' (ms.length + 1) c') (ms.length + 1) (ms.map (Value.int .i64) ++ [.int .i64 n])) (hg : (W.alloc (.cells #[.int .i64 n] 3)).grownBy w3 (Value.slice A ms.length c).ownBlock) :
  MarkI V (w3.setCell ⟨V.heap.size, 1, none⟩ (.slice A' (ms.length + 1) c')) mi A' c' (ms ++ [n]) := by
 have hs := h.below.size
 have hne : ∀ j, (Value.slice A ms.length c).ownBlock = some j → V.heap.size + 1 ≤ j := fun j e => (h.row.lt j e).1
 have hb3 := (h.below.alloc hs (.cells #[.int .i64 n] 3)).grown hg (by simp; omega) (fun j e => by have := hne j e; omega)
 have hl : (ms ++ [n]).length = ms.length + 1 := by simp
 refine ⟨?_, ?_, hb3.setCell (Nat.le_refl _) _⟩
 ·rw [hl]
  exact ((h.p.alloc _).grown hg (fun e => by have := hne _ e; omega)).set_ 1 (.slice A' (ms.length + 1) c')
 ·rw [hl, List.map_append]
  exact ownsRow_setCell_below ho (by show V.heap.size < V.heap.size + 1; omega) _
theorem ParI.next {w W w3 : World} {wh : Int} {A A' mA : Option Addr} {c c' mc : Nat} {L : List PieceV} {mi : Bool} {ms : List Int} (h : ParI w W wh A c L)
  (hm : W.ownsRow (w.heap.size + 2) 3 1 (.slice mA ms.length mc) ms.length (ms.map (Value.int .i64)))
  (ho : w3.ownsRow (w.heap.size + 2) 94 2 (.slice A' (L.length + 1) c') (L.length + 1) (cells2 (L.map PieceV.enc) ++ [.bool mi, .slice mA ms.length mc]))
  (hg : (W.alloc (.cells #[.bool mi, .slice mA ms.length mc] 94)).grownBy w3 (Value.slice A L.length c).ownBlock) :
  ParI w (w3.setCell ⟨w.heap.size + 1, 1, none⟩ (.slice A' (L.length + 1) c')) wh A' c' (L ++ [⟨mi, mA, ms.length, mc, ms⟩]) := by
 have hs := h.below.size
 have hne : ∀ j, (Value.slice A L.length c).ownBlock = some j → w.heap.size + 2 ≤ j := fun j e => (h.row.lt j e).1
 have hl : (L ++ [(⟨mi, mA, ms.length, mc, ms⟩ : PieceV)]).length = L.length + 1 := by simp
 have kp : ∀ {n : Nat} {v : Value} {xs : List Value}, W.ownsRow (w.heap.size + 2) 3 1 v n xs → (w3.setCell ⟨w.heap.size + 1, 1, none⟩ (.slice A' (L.length + 1) c')).ownsRow (w.heap.size + 2) 3 1 v n xs := fun x =>
  ownsRow_setCell_below (own_kept_of (x.alloc _) hg (fun g e1 e2 => own_own_ne h.row x (by decide) e2 e1)) (by show w.heap.size + 1 < w.heap.size + 2; omega) _
 refine ⟨?_, ?_, ?_, fun p hp => ?_, ?_⟩
 ·exact ((h.r.alloc _).grown hg (fun e => by have := hne _ e; omega)).far (by simp) _
 ·rw [hl]
  exact ((h.o.alloc _).grown hg (fun e => by have := hne _ e; omega)).set_ 1 (.slice A' (L.length + 1) c')
 ·rw [hl, cells2_snoc]
  exact ownsRow_setCell_below ho (by show w.heap.size + 1 < w.heap.size + 2; omega) _
 ·rcases List.mem_append.1 hp with hp | hp
  ·exact kp (h.marks p hp)
  ·rw [List.mem_singleton.1 hp]
   exact kp hm
 ·exact ((h.below.alloc hs _).grown hg (by simp; omega) (fun j e => by have := hne j e; omega)).setCell (by show w.heap.size ≤ w.heap.size + 1; omega) _
theorem ParI.put {w W : World} {wh : Int} {A : Option Addr} {c : Nat} {L : List PieceV} (h : ParI w W wh A c L) (u v : Value) : PiecesQ ((W.setCell ⟨w.heap.size, 0, none⟩ u).setCell ⟨w.heap.size, 1, none⟩ v) ((W.setCell ⟨w.heap.size, 0, none⟩ u).setCell ⟨w.heap.size, 1, none⟩ v).heap.size A L.length c L := by
 have kp : ∀ {s n : Nat} {e : TypeId} {x : Value} {xs : List Value}, W.ownsRow (w.heap.size + 2) e s x n xs → ((W.setCell ⟨w.heap.size, 0, none⟩ u).setCell ⟨w.heap.size, 1, none⟩ v).ownsRow (w.heap.size + 2) e s x n xs := fun x =>
  ownsRow_setCell_below (ownsRow_setCell_below x (by show w.heap.size < w.heap.size + 2; omega) _) (by show w.heap.size < w.heap.size + 2; omega) _
 exact PiecesQ.of ⟨Rd.of_own (kp h.row), fun p hp => Rd.of_own (kp (h.marks p hp))⟩
theorem u8_45 (x : UInt8) : ((x.toNat : Int) == 45) = decide (x = 45) := by
 rw [Bool.eq_iff_iff, beq_iff_eq, decide_eq_true_iff]
 constructor
 ·intro h; exact UInt8.toNat_inj.1 (show x.toNat = 45 by omega)
 ·rintro rfl; rfl
theorem u8_42 (x : UInt8) : ((x.toNat : Int) == 42) = decide (x = 42) := by
 rw [Bool.eq_iff_iff, beq_iff_eq, decide_eq_true_iff]
 constructor
 ·intro h; exact UInt8.toNat_inj.1 (show x.toNat = 42 by omega)
 ·rintro rfl; rfl
theorem pq_nil (w : World) (B : Nat) : PiecesQ w B none 0 0 [] := ⟨Rq.empty _ _ _ _, fun _ h => by cases h⟩
def RefParPost (w : World) (res : Int × List (Bool × List Int) × Int) (e : Ending) (w' : World) : Prop :=
 ∃ (A : Option Addr) (c : Nat) (l : List PieceV), e = .returned (.tuple #[.agg #[.int .i64 res.1, .slice A l.length c], .int .i64 res.2.2]) ∧ PiecesQ w' w'.heap.size A l.length c l ∧ l.map PieceV.flat = res.2.1 ∧ Below w.heap.size w w'
set_option maxHeartbeats 8000000 in
set_option maxRecDepth 100000 in
theorem refParse_any (s : ByteArray) (w : World) (hs : s.size ≤ 400) : Calls Tryz.prog 28 #[.string s] w (RefParPost w (refParS s)) := by
 obtain ⟨i0, hi0, hz0, hz1, hz2⟩ := info_parts Tryz.infoInt
 obtain ⟨i1, hi1, hy0, hy1, hy2⟩ := info_parts Tryz.infoPiece
 obtain ⟨res, hres⟩ : ∃ res, refParS s = res := ⟨_, rfl⟩
 rw [hres]
 have hpost : ∀ (W : World) (a : Act) (x : Int) (A : Option Addr) (c : Nat) (l : List PieceV) (y : Int), res = (x, l.map PieceV.flat, y) → PiecesQ W W.heap.size A l.length c l → Below w.heap.size w W → Blk W w.heap.size 24 #[.int .i64 x, .slice A l.length c] →
   a.tmps.getD 2 undef = .pointer (some ⟨w.heap.size, 0, none⟩) → a.tmps.getD 3 undef = .int .i64 y → a.defers = [] → bodyPost Tryz.prog Tryz.f28 (RefParPost w res) .ret a W := by
  intro W a x A c l y e1 e2 e3 e4 e5 e6 e7
  refine bodyPost_cell_tmp (p := 2) (u := 3) (ty := 24) rfl e5 e4 Tryz.underlying24 rfl Tryz.sizeOld e7 ?_
  rw [e6, e1]
  exact ⟨A, c, l, rfl, e2, rfl, e3⟩
 have HPOST := hide hpost
 clear hpost
 unfold refParS at hres
 have HX0 := hide (Blk.new w 24 #[.int .i64 0, .slice none 0 0])
 have HB0 := hide ((Below.refl w.heap.size w).alloc (Nat.le_refl _) (.cells #[.int .i64 0, .slice none 0 0] 24))
 by_cases h300 : 300 < (s.size : Int)
 ·rw [if_pos (by omega)] at hres
  have HV := hide hres.symm
  clear hres
  obtain ⟨r0, r1, rf0, rf1⟩ := HX0.out.two
  go_enter Tryz.func28, Tryz.ntmps28
  go_wp2
  exact HPOST.out _ _ 0 none 0 [] 5 HV.out (pq_nil _ _) HB0.out HX0.out rfl rfl rfl
 rw [if_neg (by omega)] at hres
 have HRES := hide hres
 clear hres
 have HN0 := hide (fun W => number_any s 0 W (by omega) (by omega))
 obtain ⟨wh, j0, hn0⟩ : ∃ wh j0, numP s 4 0 0 = (wh, j0) := ⟨_, _, rfl⟩
 have hjb := numP_bd 4 0 0 s
 rw [hn0] at HN0 hjb
 dsimp only at HN0 hjb
 have HRD : Hid (readP s = if j0 = 0 then (wh, [], false) else (wh, piecesP s (s.size + 1) j0 [])) := hide (by unfold readP; rw [hn0])
 clear hn0
 obtain ⟨b0, hb0⟩ : ∃ b0, decide (0 < j0) = b0 := ⟨_, rfl⟩
 rw [hb0] at HN0
 obtain ⟨R, hR⟩ : ∃ R : List (Bool × List Int) × Bool, (if b0 = true then piecesP s (s.size + 1) j0 [] = R else (([] : List (Bool × List Int)), false) = R) ∧ readP s = (wh, R) := by
  cases b0
  ·exact ⟨([], false), by rw [if_neg (by decide)], by
    have h := of_decide_eq_false hb0
    rw [HRD.out, if_pos (by omega)]⟩
  ·exact ⟨_, by rw [if_pos rfl], by
    have h := of_decide_eq_true hb0
    rw [HRD.out, if_neg (by omega)]⟩
 obtain ⟨hR1, hR2⟩ := hR
 have HR1 := hide hR1
 have HRES2 : Hid ((if R.2 = true ∧ oldOK wh R.1 = true ∧ (⟨(textS wh R.1).toArray⟩ : ByteArray) = s then (wh, R.1, 0) else (0, [], 4)) = res) := hide (by
  have h := HRES.out
  rw [hR2] at h
  exact h)
 clear hR1 hR2 HRD HRES hb0
 obtain ⟨W0, hW0⟩ : ∃ W0, W0 = (w.alloc (.cells #[.int .i64 0, .slice none 0 0] 24)).alloc (.cells #[.int .i64 wh, .slice none 0 0] 24) := ⟨_, rfl⟩
 have HI0 : Hid (ParI w W0 wh none 0 []) := hide (by
  rw [hW0]
  have h := Blk.new (w.alloc (.cells #[.int .i64 0, .slice none 0 0] 24)) 24 #[.int .i64 wh, .slice none 0 0]
  rw [World.size_alloc] at h
  exact ⟨HX0.out.alloc _, h, World.ownsRow_nil _ _ _ _, (fun p hp => by cases hp), HB0.out.alloc (by simp) _⟩)
 go_enter Tryz.func28, Tryz.ntmps28
 go_upto_region 6 with (first
  | (go_at_call 78; refine (HN0.out _).mono ?_; rintro e w1 ⟨rfl, hw1⟩; subst w1))
 rw [← hW0]
 clear hW0 HX0 HB0 HN0
 go_loopw [6, 7] (fun t b W => ∃ (i : Nat) (bk : Bool) (A : Option Addr) (c : Nat) (L : List PieceV) (f : Nat), t = .int .i64 (i : Int) ∧ b = .bool bk ∧ ParI w W wh A c L ∧ i ≤ s.size + 2 ∧ L.length ≤ i ∧
  (if bk = true then piecesP s f i (L.map PieceV.flat) = R else (L.map PieceV.flat, false) = R) ∧ (bk = true → s.size < i + f)) (fun t _ _ => s.size + 20 - (intOf t).toNat)
 case atStart => exact ⟨j0, b0, none, 0, [], s.size + 1, rfl, rfl, HI0.out, by omega, by simp, HR1.out, fun _ => by omega⟩
 case round =>
  obtain ⟨i, bk, A, c, L, f, rfl, rfl, hI, hib, hL, hR, hf⟩ := hrel
  have HI := hide hI
  have HRR := hide hR
  clear hI hR HI0 HR1 hjb
  by_cases hgo : bk = true ∧ i < s.size
  ·obtain ⟨rfl, hi⟩ := hgo
   rw [if_pos rfl] at HRR
   have hf1 := hf rfl
   obtain ⟨f, rfl⟩ : ∃ f', f = f' + 1 := ⟨f - 1, by omega⟩
   have hii : (i : Int) < (s.size : Int) := by omega
   obtain ⟨mi, hmi⟩ : ∃ mi, decide (s.get! i = 45) = mi := ⟨_, rfl⟩
   have hmi2 : (((s[i]'hi).toNat : Int) == 45) = mi := by rw [u8_45, ← get_idx hi, hmi]
   obtain ⟨Rm, hRm⟩ : ∃ Rm, marksP s (s.size + 1) (i + 2) [] = Rm := ⟨_, rfl⟩
   obtain ⟨rms, rj, rb⟩ := Rm
   have HST := hide (piecesP_step HRR.out hi hRm hmi)
   have HRM := hide hRm
   obtain ⟨V, hV⟩ : ∃ V, V = wr := ⟨_, rfl⟩
   subst hV
   have HM0 := hide (MarkI.start V mi)
   clear hf HRR hRm hmi
   go_wp2
   go_loopw [6, 7, 9] (fun t b m W => ∃ (j : Nat) (bk bm : Bool) (mA : Option Addr) (mc : Nat) (ms : List Int) (fm : Nat), t = .int .i64 (j : Int) ∧ b = .bool bk ∧ m = .bool bm ∧ MarkI V W mi mA mc ms ∧ i + 2 ≤ j ∧ j ≤ s.size + 2 ∧ ms.length ≤ j ∧
    (bk = true → bm = true → marksP s fm j ms = (rms, rj, rb) ∧ 1 ≤ fm ∧ s.size < j + fm ∧ j ≤ s.size + 1) ∧ (bk = false → (ms, j, false) = (rms, rj, rb) ∧ i + 3 ≤ j) ∧ (bk = true → bm = false → (ms, j, true) = (rms, rj, rb) ∧ i + 3 ≤ j)) (fun t _ _ _ => s.size + 20 - (intOf t).toNat)
   case atStart => exact ⟨i + 2, true, true, none, 0, [], s.size + 1, by go_num, rfl, rfl, HM0.out, by omega, by omega, by simp, fun _ _ => ⟨HRM.out, by omega, by omega, by omega⟩, (fun h => by cases h), (fun _ h => by cases h)⟩
   case round =>
    obtain ⟨j, bk, bm, mA, mc, ms, fm, rfl, rfl, rfl, hM, hj1, hj2, hml, hc1, hc2, hc3⟩ := hrel
    clear HM0 HRM hmi2
    cases bk
    ·obtain ⟨he, hj3⟩ := hc2 rfl
     injection he with e1 he
     injection he with e2 e3
     subst e1
     subst e2
     subst e3
     have hst := HST.out
     rw [if_neg (by decide)] at hst
     have HST2 := hide hst
     have HIj := hide (HI.out.under hM.below)
     have HMR := hide (own_le hM.row (show w.heap.size + 2 ≤ V.heap.size + 1 by have := HI.out.o.lt; omega))
     have hVz := hM.below.size
     have hwz : w.heap.size + 2 ≤ wr.heap.size := by have := HIj.out.o.lt; omega
     obtain ⟨p0, p1, _, _⟩ := hM.p.two
     obtain ⟨o0, o1, _, _⟩ := HIj.out.o.two
     clear hst hM HST hc1 hc2 hc3
     go_wp2_with (first
      | (at_builtin; refine wpList_append_own _ rfl _ _ 22 rfl (w.heap.size + 2) 94 i1 (.agg #[.bool false, .slice none 0 0]) 2 32 Tryz.underlying22 hi1 hy0 hy1 hy2 rfl (by decide) (.slice A L.length c) L.length _ rfl (World.ownsRow.alloc HIj.out.row _) ⟨wr.heap.size, 0, none⟩ 1 1 [.bool mi, .slice mA ms.length mc] rfl rfl (cell_new2 _ _ _ _) (by simp [Value.oneCell']) (by unfold maxLen; omega) (by omega) (by simp; omega) ?_; intro v' w3 ho3 hg3 _; obtain ⟨A3, c3, rfl⟩ := own_shape ho3; have HN := hide (HIj.out.next HMR.out ho3 hg3); obtain ⟨q0, q1, qf0, qf1⟩ := ((HIj.out.o.alloc _).grown hg3 (fun e => by have := (HIj.out.row.lt _ e).1; omega)).two; clear ho3 hg3))
     exact ⟨⟨j, false, A3, c3, L ++ [⟨mi, mA, ms.length, mc, ms⟩], f, rfl, rfl, HN.out, by omega, by simp; omega, by rw [List.map_append]; rw [if_neg (by decide)]; exact HST2.out, fun _ => by omega⟩, by simp [intOf]; omega⟩
    ·cases bm
     ·obtain ⟨he, hj3⟩ := hc3 rfl rfl
      injection he with e1 he
      injection he with e2 e3
      subst e1
      subst e2
      subst e3
      have hst := HST.out
      rw [if_pos rfl] at hst
      have HST2 := hide hst
      have HIj := hide (HI.out.under hM.below)
      have HMR := hide (own_le hM.row (show w.heap.size + 2 ≤ V.heap.size + 1 by have := HI.out.o.lt; omega))
      have hVz := hM.below.size
      have hwz : w.heap.size + 2 ≤ wr.heap.size := by have := HIj.out.o.lt; omega
      obtain ⟨p0, p1, _, _⟩ := hM.p.two
      obtain ⟨o0, o1, _, _⟩ := HIj.out.o.two
      clear hst hM HST hc1 hc2 hc3
      go_wp2_with (first
       | (at_builtin; refine wpList_append_own _ rfl _ _ 22 rfl (w.heap.size + 2) 94 i1 (.agg #[.bool false, .slice none 0 0]) 2 32 Tryz.underlying22 hi1 hy0 hy1 hy2 rfl (by decide) (.slice A L.length c) L.length _ rfl (World.ownsRow.alloc HIj.out.row _) ⟨wr.heap.size, 0, none⟩ 1 1 [.bool mi, .slice mA ms.length mc] rfl rfl (cell_new2 _ _ _ _) (by simp [Value.oneCell']) (by unfold maxLen; omega) (by omega) (by simp; omega) ?_; intro v' w3 ho3 hg3 _; obtain ⟨A3, c3, rfl⟩ := own_shape ho3; have HN := hide (HIj.out.next HMR.out ho3 hg3); obtain ⟨q0, q1, qf0, qf1⟩ := ((HIj.out.o.alloc _).grown hg3 (fun e => by have := (HIj.out.row.lt _ e).1; omega)).two; clear ho3 hg3))
      exact ⟨⟨j, true, A3, c3, L ++ [⟨mi, mA, ms.length, mc, ms⟩], f, rfl, rfl, HN.out, by omega, by simp; omega, by rw [List.map_append]; rw [if_pos rfl]; exact HST2.out, fun _ => by omega⟩, by simp [intOf]; omega⟩
     ·obtain ⟨hm, hfm, hfs, hj3⟩ := hc1 rfl rfl
      obtain ⟨fm, rfl⟩ : ∃ fm', fm = fm' + 1 := ⟨fm - 1, by omega⟩
      have HM := hide hM
      have hVz := hM.below.size
      obtain ⟨n, j2, hn⟩ : ∃ n j2, numP s 4 (j + 1) 0 = (n, j2) := ⟨_, _, rfl⟩
      have hjb := numP_bd 4 (j + 1) 0 s
      rw [hn] at hjb
      dsimp only at hjb
      obtain ⟨ob, hob⟩ : ∃ ob, decide (j + 1 < j2) = ob := ⟨_, rfl⟩
      have HNU : Hid (∀ W, Calls Tryz.prog 78 #[.string s, .int .i64 ((j : Int) + 1)] W fun e w' => e = .returned (.tuple #[.int .i64 n, .int .i64 (j2 : Int), .bool ob]) ∧ w' = W) := hide (fun W => by
       have h := number_any s (j + 1) W (by omega) (by omega)
       rw [hn] at h
       dsimp only at h
       rw [show (((j + 1 : Nat)) : Int) = (j : Int) + 1 by omega, hob] at h
       exact h)
      have HS := hide (fun bm (hbm : decide (j2 < s.size ∧ s.get! j2 = 42) = bm) => marks_step hm hn hob hbm)
      have HOB := hide hob
      obtain ⟨p0, p1, pf0, pf1⟩ := hM.p.two
      clear hm hn hob hM hc1 hc2 hc3
      by_cases h1 : (j2 : Int) < (s.size : Int)
      ·have hi2 : j2 < s.size := by omega
       obtain ⟨bm, hbm⟩ : ∃ bm, decide (s.get! j2 = 42) = bm := ⟨_, rfl⟩
       have hb2 : (((s[j2]'hi2).toNat : Int) == 42) = bm := by rw [u8_42, ← get_idx hi2, hbm]
       have HS2 := hide (HS.out bm (by rw [← hbm]; simp [hi2]))
       clear HS hbm
       go_wp2_with (first
        | (go_at_call 78; refine (HNU.out _).mono ?_; rintro e w1 ⟨rfl, hw1⟩; subst w1)
        | (at_builtin; refine wpList_append_own _ rfl _ _ 66 rfl (V.heap.size + 1) 3 i0 (.int .i64 0) 1 8 Tryz.underlying66 hi0 hz0 hz1 hz2 rfl (by decide) (.slice mA ms.length mc) ms.length _ rfl (World.ownsRow.alloc HM.out.row _) ⟨wr.heap.size, 0, none⟩ 1 1 [.int .i64 n] rfl rfl (cell_new1 _ _ _) (by simp [Value.oneCell']) (by unfold maxLen; omega) (by omega) (by simp; omega) ?_; intro v' w3 ho3 hg3 _; obtain ⟨A3, c3, rfl⟩ := own_shape ho3; have HN := hide (HM.out.next ho3 hg3); obtain ⟨q0, q1, qf0, qf1⟩ := ((HM.out.p.alloc _).grown hg3 (fun e => by have := (HM.out.row.lt _ e).1; omega)).two; clear ho3 hg3))
       exact ⟨⟨j2, ob, bm, A3, c3, ms ++ [n], fm, rfl, rfl, rfl, HN.out, by omega, by omega, by simp; omega, fun k1 k2 => ⟨HS2.out.1 k1 k2, by have := of_decide_eq_true (HOB.out.trans k1); omega, by have := of_decide_eq_true (HOB.out.trans k1); omega, by omega⟩, fun k1 => ⟨HS2.out.2.1 k1, by omega⟩, fun k1 k2 => ⟨HS2.out.2.2 k1 k2, by omega⟩⟩, by simp [intOf]; omega⟩
      ·have HS2 := hide (HS.out false (decide_eq_false (fun h => h1 (by have := h.1; omega))))
       clear HS
       go_wp2_with (first
        | (go_at_call 78; refine (HNU.out _).mono ?_; rintro e w1 ⟨rfl, hw1⟩; subst w1)
        | (at_builtin; refine wpList_append_own _ rfl _ _ 66 rfl (V.heap.size + 1) 3 i0 (.int .i64 0) 1 8 Tryz.underlying66 hi0 hz0 hz1 hz2 rfl (by decide) (.slice mA ms.length mc) ms.length _ rfl (World.ownsRow.alloc HM.out.row _) ⟨wr.heap.size, 0, none⟩ 1 1 [.int .i64 n] rfl rfl (cell_new1 _ _ _) (by simp [Value.oneCell']) (by unfold maxLen; omega) (by omega) (by simp; omega) ?_; intro v' w3 ho3 hg3 _; obtain ⟨A3, c3, rfl⟩ := own_shape ho3; have HN := hide (HM.out.next ho3 hg3); obtain ⟨q0, q1, qf0, qf1⟩ := ((HM.out.p.alloc _).grown hg3 (fun e => by have := (HM.out.row.lt _ e).1; omega)).two; clear ho3 hg3))
       exact ⟨⟨j2, ob, false, A3, c3, ms ++ [n], fm, rfl, rfl, rfl, HN.out, by omega, by omega, by simp; omega, (fun _ k2 => absurd k2 (by decide)), fun k1 => ⟨HS2.out.2.1 k1, by omega⟩, fun k1 _ => ⟨HS2.out.2.2 k1 (by simp), by omega⟩⟩, by simp [intOf]; omega⟩
  ·cases bk
   ·rw [if_neg (by decide)] at HRR
    have HV : Hid (res = (0, [], 4)) := hide (by rw [← HRES2.out, ← HRR.out]; exact if_neg (fun h => by cases h.1))
    obtain ⟨r0, r1, rf0, rf1⟩ := HI.out.r.two
    clear hgo
    go_wp2
    exact HPOST.out _ _ 0 none 0 [] 4 HV.out (pq_nil _ _) (Below.setCell (Below.setCell HI.out.below (p := ⟨w.heap.size, 0, none⟩) (Nat.le_refl _) _) (p := ⟨w.heap.size, 1, none⟩) (Nat.le_refl _) _) ((HI.out.r.set_ 0 _).set_ 1 _) rfl rfl rfl
   ·have hni : ¬ i < s.size := fun h => hgo ⟨rfl, h⟩
    have hnii : ¬ (i : Int) < (s.size : Int) := by omega
    rw [if_pos rfl, piecesP_end hni] at HRR
    have HRES3 : Hid ((if oldOK wh (L.map PieceV.flat) = true ∧ (⟨(textS wh (L.map PieceV.flat)).toArray⟩ : ByteArray) = s then (wh, L.map PieceV.flat, 0) else (0, [], 4)) = res) := hide (by
     have h := HRES2.out
     rw [← HRR.out] at h
     simpa using h)
    have HOLD := hide (refOld_any wh A L.length c wr.heap.size L wr HI.out.pieces (Nat.le_refl _))
    obtain ⟨o0, o1, _, _⟩ := HI.out.o.two
    clear hgo HRR HRES2
    cases hok : oldOK wh (L.map PieceV.flat)
    ·have HV : Hid (res = (0, [], 4)) := hide (by rw [← HRES3.out]; exact if_neg (fun h => by rw [hok] at h; cases h.1))
     rw [hok] at HOLD
     have HTXT : Hid (∀ (W : World) (_ : PiecesQ W W.heap.size A L.length c L), True) := hide (fun _ _ => trivial)
     clear hok
     go_wp2_with (first
      | (go_at_call 23; refine HOLD.out.mono ?_; rintro e w2 ⟨rfl, hb2⟩
         have HI2 := hide (HI.out.under hb2)
         obtain ⟨r0, r1, rf0, rf1⟩ := HI2.out.r.two
         obtain ⟨o0, o1, _, _⟩ := HI2.out.o.two
         have HTX := hide (HTXT.out w2 HI2.out.pieces)
         clear hb2))
     exact HPOST.out _ _ 0 none 0 [] 4 HV.out (pq_nil _ _) (Below.setCell (Below.setCell HI2.out.below (p := ⟨w.heap.size, 0, none⟩) (Nat.le_refl _) _) (p := ⟨w.heap.size, 1, none⟩) (Nat.le_refl _) _) ((HI2.out.r.set_ 0 _).set_ 1 _) rfl rfl rfl
    ·rw [hok] at HOLD
     obtain ⟨tb, htb⟩ : ∃ tb : ByteArray, tb = ⟨(textS wh (L.map PieceV.flat)).toArray⟩ := ⟨_, rfl⟩
     have HTXT := hide (fun (W : World) (h : PiecesQ W W.heap.size A L.length c L) => refText_any wh A L.length c W.heap.size L W h (Nat.le_refl _) hok)
     rw [hok, ← htb] at HRES3
     rw [← htb] at HTXT
     clear hok htb
     by_cases hts : tb = s
     ·subst hts
      have HV : Hid (res = (wh, L.map PieceV.flat, 0)) := hide (by rw [← HRES3.out]; exact if_pos ⟨rfl, rfl⟩)
      clear HRES3
      go_wp2_with (first
       | (go_at_call 23; refine HOLD.out.mono ?_; rintro e w2 ⟨rfl, hb2⟩
          have HI2 := hide (HI.out.under hb2)
          obtain ⟨r0, r1, rf0, rf1⟩ := HI2.out.r.two
          obtain ⟨o0, o1, _, _⟩ := HI2.out.o.two
          have HTX := hide (HTXT.out w2 HI2.out.pieces)
          clear hb2)
       | (go_at_call 26; refine HTX.out.mono ?_; rintro e w3 ⟨rfl, hb3⟩
          have HI3 := hide (HI2.out.under hb3)
          obtain ⟨r0, r1, rf0, rf1⟩ := HI3.out.r.two
          obtain ⟨o0, o1, _, _⟩ := HI3.out.o.two
          clear hb3))
      exact HPOST.out _ _ wh A c L 0 HV.out (HI3.out.put _ _) (Below.setCell (Below.setCell HI3.out.below (p := ⟨w.heap.size, 0, none⟩) (Nat.le_refl _) _) (p := ⟨w.heap.size, 1, none⟩) (Nat.le_refl _) _) ((HI3.out.r.set_ 0 _).set_ 1 _) rfl rfl rfl
     ·have HV : Hid (res = (0, [], 4)) := hide (by rw [← HRES3.out]; exact if_neg (fun h => hts h.2))
      have hne : (tb.toList == s.toList) = false := beq_eq_false_iff_ne.2 (fun h => hts (by
       have h1 : tb.data.toList = s.data.toList := by rw [← ByteArray.toList_eq, ← ByteArray.toList_eq, h]
       exact ByteArray.ext (Array.toList_inj.1 h1)))
      clear HRES3 hts
      go_wp2_with (first
       | (go_at_call 23; refine HOLD.out.mono ?_; rintro e w2 ⟨rfl, hb2⟩
          have HI2 := hide (HI.out.under hb2)
          obtain ⟨r0, r1, rf0, rf1⟩ := HI2.out.r.two
          obtain ⟨o0, o1, _, _⟩ := HI2.out.o.two
          have HTX := hide (HTXT.out w2 HI2.out.pieces)
          clear hb2)
       | (go_at_call 26; refine HTX.out.mono ?_; rintro e w3 ⟨rfl, hb3⟩
          have HI3 := hide (HI2.out.under hb3)
          obtain ⟨r0, r1, rf0, rf1⟩ := HI3.out.r.two
          obtain ⟨o0, o1, _, _⟩ := HI3.out.o.two
          clear hb3))
      exact HPOST.out _ _ 0 none 0 [] 4 HV.out (pq_nil _ _) (Below.setCell (Below.setCell HI3.out.below (p := ⟨w.heap.size, 0, none⟩) (Nat.le_refl _) _) (p := ⟨w.heap.size, 1, none⟩) (Nat.le_refl _) _) ((HI3.out.r.set_ 0 _).set_ 1 _) rfl rfl rfl
end Go.Proofs.YtaacnbnmlfhnaaaGreatDoor
namespace Go.Proofs.YtaacnbnmlfhnaaaGreatDoor
open Go.RowKit
theorem olds_same (xw : Int) (A : Option Addr) (n c : Nat) (xl : List PieceV) (A2 : Option Addr) (n2 c2 : Nat) (yl : List PieceV) (B B2 : Nat) (w : World) (hx : PiecesQ w B A n c xl) (hy : PiecesQ w B2 A2 n2 c2 yl) (hB : B ≤ w.heap.size) (hB2 : B2 ≤ w.heap.size) (hf : xl.map PieceV.flat = yl.map PieceV.flat) :
  Calls Tryz.prog 22 #[.agg #[.int .i64 xw, .slice A n c], .agg #[.int .i64 xw, .slice A2 n2 c2]] w fun e w' => e = .returned (.bool true) ∧ Below w.heap.size w w' :=
 (olds_any xw A n c xl xw A2 n2 c2 yl w.heap.size w (hx.more hB) (hy.more hB2) (Nat.le_refl _)).mono fun e w' ⟨h1, h2⟩ => ⟨by rw [h1, hf]; simp, h2⟩
theorem same_true (xd : Int) (A : Option Addr) (n c : Nat) (xt : List (Int × Int)) (A2 : Option Addr) (n2 c2 : Nat) (B B2 : Nat) (w : World) (hx : Terms w B A n c xt) (hy : Terms w B2 A2 n2 c2 xt) (hB : B ≤ w.heap.size) (hB2 : B2 ≤ w.heap.size) :
  Calls Tryz.prog 24 #[.agg #[.int .i64 xd, .slice A n c], .agg #[.int .i64 xd, .slice A2 n2 c2]] w fun e w' => e = .returned (.bool true) ∧ Below w.heap.size w w' :=
 (lawSame_any xd A n c xt xd A2 n2 c2 xt w.heap.size w (Rd.more hx hB) (Rd.more hy hB2) (Nat.le_refl _)).mono fun e w' ⟨h1, h2⟩ => ⟨by rw [h1]; simp, h2⟩
theorem terms_nil (w : World) (B : Nat) : Terms w B none 0 0 [] := ⟨by simp [cellsT, cells2], Nat.le_refl _, by omega, .inl ⟨rfl, rfl⟩⟩
structure OldsS (w W : World) (wh : Int) (A : Option Addr) (l : List PieceV) (c : Nat) (Y2 : Nat) (A2 : Option Addr) (c2 : Nat) (L2 : List PieceV) (Y5 : Nat) (x5 : Int) (A5 : Option Addr) (n5 c5 : Nat) (t5 : List (Int × Int)) : Prop where
 o : Blk W w.heap.size 24 #[.int .i64 wh, .slice A l.length c]
 i : Blk W Y2 24 #[.int .i64 wh, .slice A2 l.length c2]
 x : Blk W Y5 34 #[.int .i64 x5, .slice A5 n5 c5]
 po : PiecesQ W W.heap.size A l.length c l
 pi : PiecesQ W W.heap.size A2 l.length c2 L2
 tx : Terms W W.heap.size A5 n5 c5 t5
 below : Below w.heap.size w W
section
variable {w W W' : World} {wh : Int} {A : Option Addr} {l : List PieceV} {c Y2 : Nat} {A2 : Option Addr} {c2 : Nat} {L2 : List PieceV} {Y5 : Nat} {x5 : Int} {A5 : Option Addr} {n5 c5 : Nat} {t5 : List (Int × Int)}
theorem OldsS.under (h : OldsS w W wh A l c Y2 A2 c2 L2 Y5 x5 A5 n5 c5 t5) (hb : Below W.heap.size W W') : OldsS w W' wh A l c Y2 A2 c2 L2 Y5 x5 A5 n5 c5 t5 :=
 ⟨h.o.below hb h.o.lt, h.i.below hb h.i.lt, h.x.below hb h.x.lt, (h.po.below hb).more hb.size, (h.pi.below hb).more hb.size, Rd.more (Rd.below h.tx hb) hb.size, h.below.trans (hb.mono h.below.size)⟩
theorem OldsS.alloc (h : OldsS w W wh A l c Y2 A2 c2 L2 Y5 x5 A5 n5 c5 t5) (ob : Obj) : OldsS w (W.alloc ob) wh A l c Y2 A2 c2 L2 Y5 x5 A5 n5 c5 t5 := h.under ((Below.refl _ _).alloc (Nat.le_refl _) ob)
end
set_option maxHeartbeats 8000000 in
set_option maxRecDepth 100000 in
theorem olds_law_any (wh : Int) (A : Option Addr) (n c : Nat) (l : List PieceV) (s : ByteArray) (w : World) (hp : PiecesQ w w.heap.size A n c l) (hwh : -9223372036854775808 ≤ wh ∧ wh ≤ 9223372036854775807)
  (hms : ∀ p ∈ l, ∀ m ∈ p.ms, -9223372036854775808 ≤ m ∧ m ≤ 9223372036854775807) (hs : s.size ≤ maxLen)
  (hE : ErrVars w) (htab : Lib.TabIs Tryz.prog w "internal/strconv.uint64pow10" .u64 Lib.pow10Tab) :
  Calls Tryz.prog 3 #[.agg #[.int .i64 wh, .slice A n c], .string s] w fun e w' => e = .returned (.bool true) ∧ Below w.heap.size w w' := by
 obtain ⟨gp, hgp⟩ := Option.isSome_iff_exists.1 Tryz.pow10g
 have HK : Hid (∀ W, Below w.heap.size w W → Calls Tryz.prog 17 #[] W fun e w' => e = .returned (.bool true) ∧ Below W.heap.size W w') := hide (fun W hW => known_any W (hE.below hW (Nat.le_refl _)) (TabIs_below_ hgp htab hW))
 have HPAR := hide (fun (t : ByteArray) W (hb : Below w.heap.size w W) => parse_any t W (hE.below hb (Nat.le_refl _)) (TabIs_below_ hgp htab hb))
 have HTB := hide (fun W (hb : Below w.heap.size w W) => TabIs_below_ hgp htab hb)
 have hl := hp.len
 subst hl
 unfold maxLen at hs
 obtain ⟨w0, hw0⟩ : ∃ w0, w0 = w.alloc (.cells #[.int .i64 wh, .slice A l.length c] 24) := ⟨_, rfl⟩
 have hz0 : w0.heap.size = w.heap.size + 1 := by rw [hw0]; simp
 have HX0 : Hid (Blk w0 w.heap.size 24 #[.int .i64 wh, .slice A l.length c]) := hide (by rw [hw0]; exact Blk.new w _ _)
 have HB0 : Hid (Below w.heap.size w w0) := hide (by rw [hw0]; exact (Below.refl _ _).alloc (Nat.le_refl _) _)
 have HP := hide (fun W (hb : Below w.heap.size w W) => hp.below hb)
 clear hp hE htab hgp hms hwh
 have HLG := hide (fun W hb hB => large_any wh A l.length c w.heap.size l W (HP.out W hb) hB)
 cases hlg : largeS (l.map PieceV.flat)
 case' true =>
  rw [hlg] at HLG
  clear hlg
  go_enter Tryz.func3, Tryz.ntmps3
  go_upto_region 1 with fail
  rw [← hw0]
  clear hw0
  obtain ⟨x0, x1, _, _⟩ := HX0.out.two
  go_wp2_with (first
   | (go_at_call 16; refine (HLG.out _ HB0.out (by omega)).mono ?_; rintro e w1 ⟨rfl, hb1⟩
      have HB1 := hide (HB0.out.trans (hb1.mono (by omega))); have hz1 := HB1.out.size
      clear hb1)
   | (go_at_call 17; refine (HK.out _ HB1.out).mono ?_; rintro e wz ⟨rfl, hbz⟩
      have HBe := hide (HB1.out.trans (hbz.mono hz1))
      clear hbz))
  all_goals
   go_ret
   exact ⟨rfl, HBe.out⟩
 rw [hlg] at HLG
 by_cases h400 : 400 < (s.size : Int)
 ·clear hlg
  go_enter Tryz.func3, Tryz.ntmps3
  go_upto_region 1 with fail
  rw [← hw0]
  clear hw0
  obtain ⟨x0, x1, _, _⟩ := HX0.out.two
  go_wp2_with (first
   | (go_at_call 16; refine (HLG.out _ HB0.out (by omega)).mono ?_; rintro e w1 ⟨rfl, hb1⟩
      have HB1 := hide (HB0.out.trans (hb1.mono (by omega))); have hz1 := HB1.out.size
      clear hb1)
   | (go_at_call 17; refine (HK.out _ HB1.out).mono ?_; rintro e wz ⟨rfl, hbz⟩
      have HBe := hide (HB1.out.trans (hbz.mono hz1))
      clear hbz))
  all_goals
   go_ret
   exact ⟨rfl, HBe.out⟩
 ·obtain ⟨hl8, hm8⟩ := large_small hlg
  have HOLD := hide (fun W hb hB => old_any wh A l.length c w.heap.size l W (HP.out W hb) hB hl8 hm8)
  clear hlg hl8 hm8
  go_enter Tryz.func3, Tryz.ntmps3
  go_upto_region 1 with fail
  rw [← hw0]
  clear hw0
  obtain ⟨x0, x1, _, _⟩ := HX0.out.two
  go_upto_region 4 with (first
   | (go_at_call 16; refine (HLG.out _ HB0.out (by omega)).mono ?_; rintro e w1 ⟨rfl, hb1⟩
      have HB1 := hide (HB0.out.trans (hb1.mono (by omega))); have HX1 := hide (HX0.out.below hb1 (by omega)); have hz1 := hb1.size
      obtain ⟨x0, x1, _, _⟩ := HX1.out.two
      clear hb1)
   | (go_at_call 18; refine (HOLD.out _ HB1.out (by omega)).mono ?_; rintro e w2 ⟨A2, c2, L2, rfl, hP2, hf2, hb2⟩
      have hz2 := hb2.size
      have HX2 := hide ((HX1.out.below hb2 (by omega)).alloc (.cells #[.int .i64 wh, .slice A2 l.length c2] 24))
      have HN2 := hide (Blk.new w2 24 #[.int .i64 wh, .slice A2 l.length c2])
      have HP2 := hide ((hP2.alloc (Nat.le_refl _) (.cells #[.int .i64 wh, .slice A2 l.length c2] 24)).more (show w2.heap.size ≤ (w2.alloc (.cells #[.int .i64 wh, .slice A2 l.length c2] 24)).heap.size by simp))
      have HF2 := hide hf2
      have HB2 := hide ((HB1.out.trans (hb2.mono (by omega))).alloc (by omega) (.cells #[.int .i64 wh, .slice A2 l.length c2] 24))
      clear hb2 hP2 hf2))
  obtain ⟨Y2, hY2⟩ : ∃ Y2, Y2 = w2.heap.size := ⟨_, rfl⟩
  rw [← hY2] at HN2 ⊢
  clear hY2 x0 x1 HLG HOLD HX0 HX1 HB0 HB1 hz0 hz1 hz2
  generalize w2.alloc (.cells #[.int .i64 wh, .slice A2 l.length c2] 24) = W2 at *
  obtain ⟨x0, x1, _, _⟩ := HX2.out.two
  obtain ⟨i0, i1, _, _⟩ := HN2.out.two
  obtain ⟨xd, xt, xc, hv⟩ : ∃ a b c, valueS wh (l.map PieceV.flat) = (a, b, c) := ⟨_, _, _, rfl⟩
  obtain ⟨tb, htb⟩ : ∃ tb : ByteArray, tb = ⟨(if oldOK wh (l.map PieceV.flat) = true then textS wh (l.map PieceV.flat) else []).toArray⟩ := ⟨_, rfl⟩
  have HCK := hide (cordCheck_any wh A2 l.length c2 W2.heap.size L2 W2 HP2.out (Nat.le_refl _))
  have HFM := hide (fun W hL hB hT => format_any wh A2 l.length c2 W2.heap.size L2 W hL hB hT)
  have HVL := hide (fun W hL hB => value_any wh A2 l.length c2 W2.heap.size L2 W hL hB)
  rw [HF2.out] at HCK HFM HVL
  rw [← htb] at HFM
  rw [hv] at HVL
  have HTQ := hide htb
  clear htb
  cases hok : oldOK wh (l.map PieceV.flat)
  ·rw [hok] at HCK HFM
   simp only [argE, Bool.false_eq_true, if_false] at HCK HFM
   go_upto_region 7 with (first
    | (go_at_call 19; refine HCK.out.mono ?_; rintro e w3 ⟨rfl, hb3⟩
       have HX3 := hide (HX2.out.below hb3 HX2.out.lt); have HN3 := hide (HN2.out.below hb3 HN2.out.lt)
       have HP3 := hide (HP2.out.below hb3); have hz3 := hb3.size
       have HB3 := hide (HB2.out.trans (hb3.mono HB2.out.size))
       have HFM3 := hide (HFM.out w3 HP3.out hz3 (HTB.out _ HB3.out))
       obtain ⟨i0, i1, _, _⟩ := HN3.out.two
       clear hb3)
    | (go_at_call 20; refine HFM3.out.mono ?_; rintro e w4 ⟨rfl, hb4⟩
       have HX4 := hide (HX3.out.below hb4 HX3.out.lt); have HN4 := hide (HN3.out.below hb4 HN3.out.lt)
       have HP4 := hide (HP3.out.below (hb4.mono hz3)); have hz4 := Nat.le_trans hz3 hb4.size
       have HB4 := hide (HB3.out.trans (hb4.mono HB3.out.size))
       have HVL4 := hide (HVL.out w4 HP4.out hz4)
       obtain ⟨i0, i1, _, _⟩ := HN4.out.two
       clear hb4)
    | (go_at_call 21; refine HVL4.out.mono ?_; rintro e w5 ⟨A5, n5, c5, rfl, ho5, hb5⟩
       have hz5 := hb5.size
       have hg5 : w5.heap.size ≤ (w5.alloc (.cells #[.int .i64 xd, .slice A5 n5 c5] 34)).heap.size := by simp
       have HS5 := hide ((⟨(HX4.out.below hb5 HX4.out.lt).alloc _, (HN4.out.below hb5 HN4.out.lt).alloc _, Blk.new w5 _ _,
        (((HP.out _ HB4.out).below (hb5.mono HB4.out.size)).alloc (Nat.le_trans HB4.out.size hz5) _).more (Nat.le_trans (Nat.le_trans HB4.out.size hz5) hg5),
        (((PiecesQ.of HP4.out).below (hb5.mono hz4)).alloc (Nat.le_trans hz4 hz5) _).more (Nat.le_trans (Nat.le_trans hz4 hz5) hg5),
        Rd.of_own (ho5.alloc _), (HB4.out.trans (hb5.mono HB4.out.size)).alloc (Nat.le_trans HB4.out.size hz5) _⟩ :
        OldsS w (w5.alloc (.cells #[.int .i64 xd, .slice A5 n5 c5] 34)) wh A l c Y2 A2 c2 L2 w5.heap.size xd A5 n5 c5 xt))
       clear hb5 ho5 hg5))
   obtain ⟨Y5, hY5⟩ : ∃ Y5, Y5 = w5.heap.size := ⟨_, rfl⟩
   rw [← hY5] at HS5 ⊢
   clear hY5 x0 x1 i0 i1 HCK HFM HVL HX2 HX3 HX4 HN2 HN3 HN4 HP2 HP3 HP4 HB2 HB3 HB4 HFM3 HVL4 hz3 hz4 hz5 HTB
   generalize w5.alloc (.cells #[.int .i64 xd, .slice A5 n5 c5] 34) = W5 at *
   obtain ⟨x0, x1, _, _⟩ := HS5.out.o.two
   obtain ⟨i0, i1, _, _⟩ := HS5.out.i.two
   have HO6 := hide (olds_same wh A2 l.length c2 L2 A l.length c l W5.heap.size W5.heap.size W5 HS5.out.pi HS5.out.po (Nat.le_refl _) (Nat.le_refl _) HF2.out)
   go_upto_region 9 with (first
    | (go_at_call 22; refine HO6.out.mono ?_; rintro e w6 ⟨rfl, hb6⟩
       have HS6 := hide (HS5.out.under hb6)
       clear hb6))
   clear x0 x1 i0 i1 HO6 HS5
   obtain ⟨x0, x1, _, _⟩ := HS6.out.o.two
   have HO7 := hide (refOld_any wh A l.length c w6.heap.size l w6 HS6.out.po (Nat.le_refl _))
   rw [hok] at HO7
   have htb2 : tb = ⟨#[]⟩ := by rw [HTQ.out, hok]; rfl
   subst htb2
   have hv2 : xd = 0 ∧ xt = [] ∧ xc = 2 := by
    unfold valueS at hv
    rw [hok, if_neg (by decide)] at hv
    injection hv with h1 h2
    injection h2 with h2 h3
    exact ⟨h1.symm, h2.symm, h3.symm⟩
   obtain ⟨rfl, rfl, rfl⟩ := hv2
   clear hv HTQ hok
   go_upto_region 10 with (first
    | (go_at_call 23; refine HO7.out.mono ?_; rintro e w7 ⟨rfl, hb7⟩
       have HS7 := hide (HS6.out.under hb7)
       clear hb7))
   clear x0 x1 HO7 HS6
   obtain ⟨x0, x1, _, _⟩ := HS7.out.x.two
   have HO8 := hide (same_true 0 A5 n5 c5 [] none 0 0 w7.heap.size w7.heap.size w7 HS7.out.tx (terms_nil _ _) (Nat.le_refl _) (Nat.le_refl _))
   go_upto_region 15 with (first
    | (go_at_call 24; refine HO8.out.mono ?_; rintro e w8 ⟨rfl, hb8⟩
       have HB8 := hide (HS7.out.under hb8).below
       clear hb8))
   clear x0 x1 HO8 HS7
   obtain ⟨ws, ls, es, hps⟩ : ∃ ws ls es, parseS s = (ws, ls, es) := ⟨_, _, _, rfl⟩
   have HPS := hide (HPAR.out s _ HB8.out)
   have HRP := hide (fun W => refParse_any s W (by omega))
   rw [refParS_eq] at HRP
   rw [hps] at HPS HRP
   clear hps
   go_upto_region 16 with (first
    | (go_at_call 27; refine HPS.out.mono ?_; rintro e w11 ⟨A7, n7, c7, L7, rfl, hP7, hf7, -, hb7⟩
       obtain rfl := hP7.len
       have HB11 := hide ((HB8.out.trans (hb7.mono HB8.out.size)).alloc (Nat.le_trans HB8.out.size hb7.size) (.cells #[.int .i64 ws, .slice A7 L7.length c7] 24))
       have HN11 := hide (Blk.new w11 24 #[.int .i64 ws, .slice A7 L7.length c7])
       have HP11 := hide (((PiecesQ.of hP7).alloc (Nat.le_refl _) (.cells #[.int .i64 ws, .slice A7 L7.length c7] 24)).more (show w11.heap.size ≤ (w11.alloc (.cells #[.int .i64 ws, .slice A7 L7.length c7] 24)).heap.size by simp))
       have HF11 : Hid (L7.map PieceV.flat = ls) := hide hf7
       clear hb7 hP7 hf7))
   obtain ⟨Y7, hY7⟩ : ∃ Y7, Y7 = w11.heap.size := ⟨_, rfl⟩
   rw [← hY7] at HN11 ⊢
   clear hY7 HPS HB8
   generalize w11.alloc (.cells #[.int .i64 ws, .slice A7 L7.length c7] 24) = W11 at *
   go_upto_region 17 with (first
    | (go_at_call 28; refine (HRP.out _).mono ?_; rintro e w12 ⟨A8, c8, L8, rfl, hP8, hf8, hb8⟩
       have hg8 : w12.heap.size ≤ (w12.alloc (.cells #[.int .i64 ws, .slice A8 L8.length c8] 24)).heap.size := by simp
       have HB12 := hide ((HB11.out.trans (hb8.mono HB11.out.size)).alloc (Nat.le_trans HB11.out.size hb8.size) (.cells #[.int .i64 ws, .slice A8 L8.length c8] 24))
       have HM12 := hide ((HN11.out.below hb8 HN11.out.lt).alloc (.cells #[.int .i64 ws, .slice A8 L8.length c8] 24))
       have HQ12 := hide (((HP11.out.below hb8).alloc hb8.size (.cells #[.int .i64 ws, .slice A8 L8.length c8] 24)).more (Nat.le_trans hb8.size hg8))
       have HN12 := hide (Blk.new w12 24 #[.int .i64 ws, .slice A8 L8.length c8])
       have HP12 := hide ((hP8.alloc (Nat.le_refl _) (.cells #[.int .i64 ws, .slice A8 L8.length c8] 24)).more hg8)
       have HF12 : Hid (L8.map PieceV.flat = ls) := hide hf8
       clear hb8 hP8 hf8 hg8))
   obtain ⟨Y8, hY8⟩ : ∃ Y8, Y8 = w12.heap.size := ⟨_, rfl⟩
   rw [← hY8] at HN12 ⊢
   clear hY8 HRP HN11 HP11 HB11
   generalize w12.alloc (.cells #[.int .i64 ws, .slice A8 L8.length c8] 24) = W12 at *
   obtain ⟨p0, p1, _, _⟩ := HM12.out.two
   obtain ⟨q0, q1, _, _⟩ := HN12.out.two
   have HO12 := hide (olds_same ws A7 L7.length c7 L7 A8 L8.length c8 L8 W12.heap.size W12.heap.size W12 HQ12.out HP12.out (Nat.le_refl _) (Nat.le_refl _) (HF11.out.trans HF12.out.symm))
   have hes : (es == es) = true := by simp
   go_wp2_with (first
    | (go_at_call 22; refine HO12.out.mono ?_; rintro e w13 ⟨rfl, hb13⟩
       have HB13 := hide (HB12.out.trans (hb13.mono HB12.out.size))
       clear hb13)
    | (go_at_call 17; refine (HK.out _ HB13.out).mono ?_; rintro e wz ⟨rfl, hbz⟩
       have HBe := hide (HB13.out.trans (hbz.mono HB13.out.size))
       clear hbz))
   all_goals
    go_ret
    exact ⟨rfl, HBe.out⟩
  ·rw [hok] at HCK HFM
   simp only [argE, if_true] at HCK HFM
   go_upto_region 7 with (first
    | (go_at_call 19; refine HCK.out.mono ?_; rintro e w3 ⟨rfl, hb3⟩
       have HX3 := hide (HX2.out.below hb3 HX2.out.lt); have HN3 := hide (HN2.out.below hb3 HN2.out.lt)
       have HP3 := hide (HP2.out.below hb3); have hz3 := hb3.size
       have HB3 := hide (HB2.out.trans (hb3.mono HB2.out.size))
       have HFM3 := hide (HFM.out w3 HP3.out hz3 (HTB.out _ HB3.out))
       obtain ⟨i0, i1, _, _⟩ := HN3.out.two
       clear hb3)
    | (go_at_call 20; refine HFM3.out.mono ?_; rintro e w4 ⟨rfl, hb4⟩
       have HX4 := hide (HX3.out.below hb4 HX3.out.lt); have HN4 := hide (HN3.out.below hb4 HN3.out.lt)
       have HP4 := hide (HP3.out.below (hb4.mono hz3)); have hz4 := Nat.le_trans hz3 hb4.size
       have HB4 := hide (HB3.out.trans (hb4.mono HB3.out.size))
       have HVL4 := hide (HVL.out w4 HP4.out hz4)
       obtain ⟨i0, i1, _, _⟩ := HN4.out.two
       clear hb4)
    | (go_at_call 21; refine HVL4.out.mono ?_; rintro e w5 ⟨A5, n5, c5, rfl, ho5, hb5⟩
       have hz5 := hb5.size
       have hg5 : w5.heap.size ≤ (w5.alloc (.cells #[.int .i64 xd, .slice A5 n5 c5] 34)).heap.size := by simp
       have HS5 := hide ((⟨(HX4.out.below hb5 HX4.out.lt).alloc _, (HN4.out.below hb5 HN4.out.lt).alloc _, Blk.new w5 _ _,
        (((HP.out _ HB4.out).below (hb5.mono HB4.out.size)).alloc (Nat.le_trans HB4.out.size hz5) _).more (Nat.le_trans (Nat.le_trans HB4.out.size hz5) hg5),
        (((PiecesQ.of HP4.out).below (hb5.mono hz4)).alloc (Nat.le_trans hz4 hz5) _).more (Nat.le_trans (Nat.le_trans hz4 hz5) hg5),
        Rd.of_own (ho5.alloc _), (HB4.out.trans (hb5.mono HB4.out.size)).alloc (Nat.le_trans HB4.out.size hz5) _⟩ :
        OldsS w (w5.alloc (.cells #[.int .i64 xd, .slice A5 n5 c5] 34)) wh A l c Y2 A2 c2 L2 w5.heap.size xd A5 n5 c5 xt))
       clear hb5 ho5 hg5))
   obtain ⟨Y5, hY5⟩ : ∃ Y5, Y5 = w5.heap.size := ⟨_, rfl⟩
   rw [← hY5] at HS5 ⊢
   clear hY5 x0 x1 i0 i1 HCK HFM HVL HX2 HX3 HX4 HN2 HN3 HN4 HP2 HP3 HP4 HB2 HB3 HB4 HFM3 HVL4 hz3 hz4 hz5 HTB
   generalize w5.alloc (.cells #[.int .i64 xd, .slice A5 n5 c5] 34) = W5 at *
   obtain ⟨x0, x1, _, _⟩ := HS5.out.o.two
   obtain ⟨i0, i1, _, _⟩ := HS5.out.i.two
   have HO6 := hide (olds_same wh A2 l.length c2 L2 A l.length c l W5.heap.size W5.heap.size W5 HS5.out.pi HS5.out.po (Nat.le_refl _) (Nat.le_refl _) HF2.out)
   go_upto_region 9 with (first
    | (go_at_call 22; refine HO6.out.mono ?_; rintro e w6 ⟨rfl, hb6⟩
       have HS6 := hide (HS5.out.under hb6)
       clear hb6))
   clear x0 x1 i0 i1 HO6 HS5
   obtain ⟨x0, x1, _, _⟩ := HS6.out.o.two
   have HO7 := hide (refOld_any wh A l.length c w6.heap.size l w6 HS6.out.po (Nat.le_refl _))
   rw [hok] at HO7
   have htb := HTQ.out
   rw [hok, if_pos rfl] at htb
   have HVR := hide (fun W hQ => refValue_any wh A l.length c W.heap.size l W hQ (Nat.le_refl _) hok)
   have HTR := hide (fun W hQ => refText_any wh A l.length c W.heap.size l W hQ (Nat.le_refl _) hok)
   rw [hv] at HVR
   rw [← htb] at HTR
   clear hv htb HTQ hok
   go_upto_region 12 with (first
    | (go_at_call 23; refine HO7.out.mono ?_; rintro e w7 ⟨rfl, hb7⟩
       have HS7 := hide (HS6.out.under hb7)
       clear hb7))
   clear x0 x1 HO7 HS6
   obtain ⟨x0, x1, _, _⟩ := HS7.out.o.two
   go_upto_region 13 with (first
    | (go_at_call 25; refine (HVR.out _ HS7.out.po).mono ?_; rintro e w9 ⟨A9, n9, c9, rfl, ho9, hb9⟩
       have HS9 := hide ((HS7.out.under hb9).alloc (.cells #[.int .i64 xd, .slice A9 n9 c9] 34))
       have HN9 := hide (Blk.new w9 34 #[.int .i64 xd, .slice A9 n9 c9])
       have HT9 : Hid (Terms (w9.alloc (.cells #[.int .i64 xd, .slice A9 n9 c9] 34)) (w9.alloc (.cells #[.int .i64 xd, .slice A9 n9 c9] 34)).heap.size A9 n9 c9 xt) := hide (Rd.of_own (ho9.alloc _))
       clear hb9 ho9))
   obtain ⟨Y9, hY9⟩ : ∃ Y9, Y9 = w9.heap.size := ⟨_, rfl⟩
   rw [← hY9] at HN9 ⊢
   clear hY9 x0 x1 HVR HS7
   generalize w9.alloc (.cells #[.int .i64 xd, .slice A9 n9 c9] 34) = W9 at *
   obtain ⟨x0, x1, _, _⟩ := HS9.out.o.two
   have HTR9 := hide (HTR.out W9 HS9.out.po)
   have hself : (xc != xc) = false := by simp
   have hself2 : (tb.toList == tb.toList) = true := by simp
   go_upto_region 15 with (first
    | (go_at_call 26; refine HTR9.out.mono ?_; rintro e w10 ⟨rfl, hb10⟩
       have HS10 := hide (HS9.out.under hb10)
       have HN10 := hide (HN9.out.below hb10 HN9.out.lt)
       have HO10 := hide (same_true xd A5 n5 c5 xt A9 n9 c9 w10.heap.size w10.heap.size w10 HS10.out.tx (Rd.more (Rd.below HT9.out hb10) hb10.size) (Nat.le_refl _) (Nat.le_refl _))
       obtain ⟨y0, y1, _, _⟩ := HS10.out.x.two
       obtain ⟨z0, z1, _, _⟩ := HN10.out.two
       clear hb10)
    | (go_at_call 24; refine HO10.out.mono ?_; rintro e w8 ⟨rfl, hb8⟩
       have HB8 := hide (HS10.out.under hb8).below
       clear hb8))
   clear x0 x1 HTR9 HTR HS9 HN9 HT9 hself2
   obtain ⟨ws, ls, es, hps⟩ : ∃ ws ls es, parseS s = (ws, ls, es) := ⟨_, _, _, rfl⟩
   have HPS := hide (HPAR.out s _ HB8.out)
   have HRP := hide (fun W => refParse_any s W (by omega))
   rw [refParS_eq] at HRP
   rw [hps] at HPS HRP
   clear hps
   go_upto_region 16 with (first
    | (go_at_call 27; refine HPS.out.mono ?_; rintro e w11 ⟨A7, n7, c7, L7, rfl, hP7, hf7, -, hb7⟩
       obtain rfl := hP7.len
       have HB11 := hide ((HB8.out.trans (hb7.mono HB8.out.size)).alloc (Nat.le_trans HB8.out.size hb7.size) (.cells #[.int .i64 ws, .slice A7 L7.length c7] 24))
       have HN11 := hide (Blk.new w11 24 #[.int .i64 ws, .slice A7 L7.length c7])
       have HP11 := hide (((PiecesQ.of hP7).alloc (Nat.le_refl _) (.cells #[.int .i64 ws, .slice A7 L7.length c7] 24)).more (show w11.heap.size ≤ (w11.alloc (.cells #[.int .i64 ws, .slice A7 L7.length c7] 24)).heap.size by simp))
       have HF11 : Hid (L7.map PieceV.flat = ls) := hide hf7
       clear hb7 hP7 hf7))
   obtain ⟨Y7, hY7⟩ : ∃ Y7, Y7 = w11.heap.size := ⟨_, rfl⟩
   rw [← hY7] at HN11 ⊢
   clear hY7 HPS HB8
   generalize w11.alloc (.cells #[.int .i64 ws, .slice A7 L7.length c7] 24) = W11 at *
   go_upto_region 17 with (first
    | (go_at_call 28; refine (HRP.out _).mono ?_; rintro e w12 ⟨A8, c8, L8, rfl, hP8, hf8, hb8⟩
       have hg8 : w12.heap.size ≤ (w12.alloc (.cells #[.int .i64 ws, .slice A8 L8.length c8] 24)).heap.size := by simp
       have HB12 := hide ((HB11.out.trans (hb8.mono HB11.out.size)).alloc (Nat.le_trans HB11.out.size hb8.size) (.cells #[.int .i64 ws, .slice A8 L8.length c8] 24))
       have HM12 := hide ((HN11.out.below hb8 HN11.out.lt).alloc (.cells #[.int .i64 ws, .slice A8 L8.length c8] 24))
       have HQ12 := hide (((HP11.out.below hb8).alloc hb8.size (.cells #[.int .i64 ws, .slice A8 L8.length c8] 24)).more (Nat.le_trans hb8.size hg8))
       have HN12 := hide (Blk.new w12 24 #[.int .i64 ws, .slice A8 L8.length c8])
       have HP12 := hide ((hP8.alloc (Nat.le_refl _) (.cells #[.int .i64 ws, .slice A8 L8.length c8] 24)).more hg8)
       have HF12 : Hid (L8.map PieceV.flat = ls) := hide hf8
       clear hb8 hP8 hf8 hg8))
   obtain ⟨Y8, hY8⟩ : ∃ Y8, Y8 = w12.heap.size := ⟨_, rfl⟩
   rw [← hY8] at HN12 ⊢
   clear hY8 HRP HN11 HP11 HB11
   generalize w12.alloc (.cells #[.int .i64 ws, .slice A8 L8.length c8] 24) = W12 at *
   obtain ⟨p0, p1, _, _⟩ := HM12.out.two
   obtain ⟨q0, q1, _, _⟩ := HN12.out.two
   have HO12 := hide (olds_same ws A7 L7.length c7 L7 A8 L8.length c8 L8 W12.heap.size W12.heap.size W12 HQ12.out HP12.out (Nat.le_refl _) (Nat.le_refl _) (HF11.out.trans HF12.out.symm))
   have hes : (es == es) = true := by simp
   go_wp2_with (first
    | (go_at_call 22; refine HO12.out.mono ?_; rintro e w13 ⟨rfl, hb13⟩
       have HB13 := hide (HB12.out.trans (hb13.mono HB12.out.size))
       clear hb13)
    | (go_at_call 17; refine (HK.out _ HB13.out).mono ?_; rintro e wz ⟨rfl, hbz⟩
       have HBe := hide (HB13.out.trans (hbz.mono HB13.out.size))
       clear hbz))
   all_goals
    go_ret
    exact ⟨rfl, HBe.out⟩
end Go.Proofs.YtaacnbnmlfhnaaaGreatDoor
