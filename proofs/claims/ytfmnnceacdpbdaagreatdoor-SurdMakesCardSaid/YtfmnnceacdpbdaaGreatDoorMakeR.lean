import Derived.Test.YtfmnnceacdpbdaaGreatDoorMakeA
import Derived.Test.YtfmnnceacdpbdaaGreatDoorRefGToRefH
set_option linter.unusedVariables false
set_option linter.unusedSimpArgs false
namespace Go.Proofs.YtfmnnceacdpbdaaGreatDoor
open Go.RowKit
theorem any_at {ts : List (Int × Int)} {k : Nat} (hk : k < ts.length) (h : badT ts[k] = true) : ts.any badT = true := List.any_eq_true.2 ⟨_, List.getElem_mem hk, h⟩
theorem any_snoc {ts : List (Int × Int)} {k : Nat} (hk : k < ts.length) (h : (ts.take k).any badT = false) (h' : badT ts[k] = false) : (ts.take (k + 1)).any badT = false := by
 rw [take_snoc _ k hk, List.any_append, h]
 simp [h']
set_option maxHeartbeats 4000000 in
set_option maxRecDepth 100000 in
theorem refMake_any (den : Int) (A : Option Addr) (n c B : Nat) (ts : List (Int × Int)) (w : World) (hR : TermsQ w B A n c ts) (hB : B ≤ w.heap.size) :
  Calls Tryz.prog 16 #[.int .i64 den, .slice A n c] w (NumPost w (makeS den ts)) := by
 have hm := Rq.nmax hR
 have hl := hR.len
 subst hl
 obtain ⟨w0, hw0⟩ : ∃ w0, w0 = w.alloc (.cells #[.int .i64 0, .slice none 0 0] 24) := ⟨_, rfl⟩
 have hz0 : w0.heap.size = w.heap.size + 1 := by rw [hw0]; simp
 have HX0 : Hid (Blk w0 w.heap.size 24 #[.int .i64 0, .slice none 0 0]) := hide (by rw [hw0]; exact Blk.new w _ _)
 have HB0 : Hid (Below w.heap.size w w0) := hide (by rw [hw0]; exact (Below.refl _ _).alloc (Nat.le_refl _) _)
 have HT0 : Hid (TermsQ w0 B A ts.length c ts) := hide (Rq.below hR (HB0.out.mono hB))
 obtain ⟨res, hres⟩ : ∃ res, makeS den ts = res := ⟨_, rfl⟩
 rw [hres]
 have hpost : ∀ (W : World) (a : Act) (A' : Option Addr) (n' c' : Nat) (x y : Int) (l : List (Int × Int)), res = (x, l, y) → W.ownsRow w.heap.size 34 2 (.slice A' n' c') n' (cellsT l) → Below w.heap.size w W → Blk W w.heap.size 24 #[.int .i64 x, .slice A' n' c'] →
   a.tmps.getD 4 undef = .pointer (some ⟨w.heap.size, 0, none⟩) → a.tmps.getD 5 undef = .int .i64 y → a.defers = [] → bodyPost Tryz.prog Tryz.f16 (NumPost w res) .ret a W := by
  intro W a A' n' c' x y l e1 e2 e3 e4 e5 e6 e7
  refine bodyPost_cell_tmp (p := 4) (u := 5) (ty := 24) rfl e5 e4 Tryz.underlying24 rfl Tryz.sizeNumber e7 ?_
  rw [e1, e6]
  exact ⟨A', n', c', rfl, e2, e3⟩
 have HPOST := hide hpost
 have HW := hide (fun W => refIn_any den 1 100000 W)
 unfold makeS at hres
 clear hR hpost
 obtain ⟨r0, r1, rf0, rf1⟩ := HX0.out.two
 go_enter Tryz.func16, Tryz.ntmps16
 go_upto_region 1 with fail
 rw [← hw0]
 clear hw0
 by_cases h16 : 16 < (ts.length : Int)
 ·rw [if_pos (by omega)] at hres
  have HV := hide hres.symm
  clear hres HW
  go_wp2
  exact HPOST.out _ _ none 0 0 0 5 [] HV.out ⟨rfl, .inl ⟨rfl, rfl⟩⟩ (Below.setCell (Below.setCell HB0.out (p := ⟨w.heap.size, 0, none⟩) (Nat.le_refl _) _) (p := ⟨w.heap.size, 1, none⟩) (Nat.le_refl _) _) ((HX0.out.set_ 0 _).set_ 1 _) rfl rfl rfl
 rw [if_neg (by omega)] at hres
 cases hd : inB den 1 100000
 ·rw [if_pos (.inl hd)] at hres
  rw [hd] at HW
  have HV := hide hres.symm
  clear hres hd
  go_wp2_with (first
   | (go_at_call 42; refine (HW.out _).mono ?_; rintro e w1 ⟨rfl, hw1⟩; subst w1))
  exact HPOST.out _ _ none 0 0 0 2 [] HV.out ⟨rfl, .inl ⟨rfl, rfl⟩⟩ (Below.setCell (Below.setCell HB0.out (p := ⟨w.heap.size, 0, none⟩) (Nat.le_refl _) _) (p := ⟨w.heap.size, 1, none⟩) (Nat.le_refl _) _) ((HX0.out.set_ 0 _).set_ 1 _) rfl rfl rfl
 rw [hd] at HW
 have hdb : 1 ≤ den ∧ den ≤ 100000 := by simpa [inB] using hd
 have HBAD := hide (show ts.any badT = true → res = (0, [], 2) from fun h => by rw [← hres, if_pos (.inr h)])
 have HGOOD := hide (show ts.any badT = false → res = partsR den ts from fun h => by rw [← hres, if_neg (by rintro (h' | h'); rw [hd] at h'; cases h'; rw [h] at h'; cases h')]; rfl)
 clear hres hd
 go_wp2_with (first
  | (go_at_call 42; refine (HW.out _).mono ?_; rintro e w1 ⟨rfl, hw1⟩; subst w1))
 go_loopw [6] (fun i W => ∃ k : Nat, k ≤ ts.length ∧ i = .int .i64 k ∧ (ts.take k).any badT = false ∧ W = w0) (fun i _ => ts.length - (intOf i).toNat)
 case atStart => exact ⟨0, by omega, rfl, rfl, rfl⟩
 case round =>
  obtain ⟨k, hk, rfl, hnb, rfl⟩ := hrel
  by_cases hkl : (k : Int) < (ts.length : Int)
  ·have hk1 : k < ts.length := by omega
   obtain ⟨ad, rfl, had, ha0, ha1⟩ := TermsQ.at_ HT0.out hk1
   have HB1 := hide (fun h => HBAD.out (any_at hk1 h))
   have HB2 := hide (any_snoc hk1 hnb)
   clear hnb
   generalize ts[k] = t at *
   obtain ⟨co, ro⟩ := t
   dsimp only at ha0 ha1
   have HC := hide (fun W => refIn_any co (-100000) 100000 W)
   have HR := hide (fun W => refIn_any ro 0 1000 W)
   have HV : Hid (badT (co, ro) = (!(inB co (-100000) 100000) || !(inB ro 0 1000))) := hide rfl
   cases hc : inB co (-100000) 100000
   ·rw [hc] at HC HV
    have HV2 := hide (HB1.out (by rw [HV.out]; rfl))
    go_wp2_with (first
     | (go_at_call_of 42 co; refine (HC.out _).mono ?_; rintro e w1 ⟨rfl, hw1⟩; subst w1))
    exact HPOST.out _ _ none 0 0 0 2 [] HV2.out ⟨rfl, .inl ⟨rfl, rfl⟩⟩ (Below.setCell (Below.setCell HB0.out (p := ⟨w.heap.size, 0, none⟩) (Nat.le_refl _) _) (p := ⟨w.heap.size, 1, none⟩) (Nat.le_refl _) _) ((HX0.out.set_ 0 _).set_ 1 _) rfl rfl rfl
   rw [hc] at HC HV
   cases hr : inB ro 0 1000
   ·rw [hr] at HR HV
    have HV2 := hide (HB1.out (by rw [HV.out]; rfl))
    go_wp2_with (first
     | (go_at_call_of 42 co; refine (HC.out _).mono ?_; rintro e w1 ⟨rfl, hw1⟩; subst w1)
     | (go_at_call_of 42 ro; refine (HR.out _).mono ?_; rintro e w1 ⟨rfl, hw1⟩; subst w1))
    exact HPOST.out _ _ none 0 0 0 2 [] HV2.out ⟨rfl, .inl ⟨rfl, rfl⟩⟩ (Below.setCell (Below.setCell HB0.out (p := ⟨w.heap.size, 0, none⟩) (Nat.le_refl _) _) (p := ⟨w.heap.size, 1, none⟩) (Nat.le_refl _) _) ((HX0.out.set_ 0 _).set_ 1 _) rfl rfl rfl
   rw [hr] at HR HV
   have HV2 := hide (HB2.out (by rw [HV.out]; rfl))
   go_wp2_with (first
    | (go_at_call_of 42 co; refine (HC.out _).mono ?_; rintro e w1 ⟨rfl, hw1⟩; subst w1)
    | (go_at_call_of 42 ro; refine (HR.out _).mono ?_; rintro e w1 ⟨rfl, hw1⟩; subst w1))
   exact ⟨⟨k + 1, by omega, by go_num, HV2.out, trivial⟩, by simp [intOf]; omega⟩
  ·obtain rfl : k = ts.length := by omega
   rw [List.take_length] at hnb
   have PT := hide (fun t (ht : t ∈ ts) => (show badT t = false by
    have h := List.any_eq_false.1 hnb t ht
    simpa using h))
   have HV := hide (HGOOD.out hnb)
   have HPP := hide (refParts_any den 100000000 A ts.length c B ts wr HT0.out (by omega) (by omega) (by omega) (by omega) (fun t ht => by have := badT_not (PT.out t ht); omega) (by decide) (fun t ht => by have := makeTerm (PT.out t ht); rwa [Int.mul_one] at this) (by omega))
   rw [← HV.out] at HPP
   clear HV HGOOD HBAD PT
   obtain ⟨s1, s2, s3⟩ := res
   go_wp2_with (first
    | (go_at_call 43; refine HPP.out.mono ?_; rintro e w5 ⟨A5, n5, c5, rfl, ho5, hb5⟩
       have hz5 := hb5.size
       have HR5 := hide (HX0.out.below hb5 (by omega)); have HB5 := hide (HB0.out.trans (hb5.mono (by omega))); have HO5 := hide ho5
       obtain ⟨q0, q1, qf0, qf1⟩ := HR5.out.two
       clear hb5 ho5))
   exact HPOST.out _ _ A5 n5 c5 s1 s3 s2 rfl (own_le (ownsRow_setCell_below (ownsRow_setCell_below HO5.out (by show w.heap.size < _; omega) _) (by show w.heap.size < _; omega) _) (by omega))
    (Below.setCell (Below.setCell HB5.out (p := ⟨w.heap.size, 0, none⟩) (Nat.le_refl _) _) (p := ⟨w.heap.size, 1, none⟩) (Nat.le_refl _) _) ((HR5.out.set_ 0 _).set_ 1 _) rfl rfl rfl
end Go.Proofs.YtfmnnceacdpbdaaGreatDoor
