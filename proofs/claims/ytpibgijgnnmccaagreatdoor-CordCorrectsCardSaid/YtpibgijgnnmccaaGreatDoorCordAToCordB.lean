import Derived.Test.YtpibgijgnnmccaaGreatDoorRootA
import Derived.Laws.EntriesVeiled
set_option linter.unusedVariables false
set_option linter.unusedSimpArgs false
namespace Go.Proofs.YtpibgijgnnmccaaGreatDoor
open Go.RowKit
structure PieceV where
 minus : Bool
 A : Option Addr
 n : Nat
 c : Nat
 ms : List Int
def PieceV.enc (p : PieceV) : Value × Value := (.bool p.minus, .slice p.A p.n p.c)
def PieceV.At (p : PieceV) (w : World) (B : Nat) : Prop := Ints w B p.A p.n p.c p.ms
def markOK (m : Int) : Bool := inB m 2 1000
def PieceV.ok (p : PieceV) : Bool := inB p.ms.length 1 6 && p.ms.all markOK
def Pieces (w : World) (B : Nat) (A : Option Addr) (n c : Nat) (l : List PieceV) : Prop := Rd w B 2 A n c (cells2 (l.map PieceV.enc)) ∧ ∀ p ∈ l, p.At w B
def PieceV.flat (p : PieceV) : Bool × List Int := (p.minus, p.ms)
def pieceOK (p : Bool × List Int) : Bool := inB p.2.length 1 6 && p.2.all markOK
def oldOK (wh : Int) (l : List (Bool × List Int)) : Bool := inB wh 0 1000 && decide (l.length ≤ 8) && l.all pieceOK
section
variable {w w' : World} {B B' n c : Nat} {A : Option Addr} {l : List PieceV}
theorem Pieces.len (h : Pieces w B A n c l) : l.length = n := by have := cells2_len h.1; simpa using this
theorem Pieces.below (h : Pieces w B A n c l) (hb : Below B w w') : Pieces w' B A n c l := ⟨h.1.below hb, fun p hp => Rd.below (h.2 p hp) hb⟩
theorem Pieces.more (h : Pieces w B A n c l) (hB : B ≤ B') : Pieces w B' A n c l := ⟨h.1.more hB, fun p hp => Rd.more (h.2 p hp) hB⟩
theorem Pieces.alloc (h : Pieces w B A n c l) (hB : B ≤ w.heap.size) (o : Obj) : Pieces (w.alloc o) B A n c l := ⟨h.1.alloc hB o, fun p hp => Rd.alloc (h.2 p hp) hB o⟩
theorem Pieces.at_ (h : Pieces w B A n c l) {i : Nat} (hi : i < l.length) : ∃ ad : Addr, A = some ad ∧ w.cell? (ad.add (i * 2)) = some (.bool l[i].minus) ∧ w.cell? ⟨(ad.add (i * 2)).block, (ad.add (i * 2)).off + 1, none⟩ = some (.slice l[i].A l[i].n l[i].c) := by
 obtain ⟨ad, e, h1, h2⟩ := rd2_at h.1 (i := i) (by simpa using hi)
 simp only [List.getElem_map] at h1 h2
 exact ⟨ad, e, h1, h2⟩
end
set_option maxHeartbeats 400000 in
theorem cord_within_any (a b c : Int) (w : World) : Calls Tryz.prog 80 #[.int .i64 a, .int .i64 b, .int .i64 c] w fun e w' => e = .returned (.bool (inB a b c)) ∧ w' = w := by
 unfold inB
 go_enter Tryz.func80, Tryz.ntmps80
 go_wp2
 all_goals go_ret
 ·simp [*]
 ·have h : ¬ b ≤ a := by omega
  simp [h]
set_option maxHeartbeats 400000 in
theorem check1_any (m : Int) (w : World) : Calls Tryz.prog 137 #[.int .i64 m] w fun e w' => e = .returned (.bool (markOK m)) ∧ w' = w := by
 have HW := hide (cord_within_any m 2 1000 w)
 unfold markOK
 generalize inB m 2 1000 = r at *
 go_enter Tryz.func137, Tryz.ntmps137
 go_wp2_with fail
 refine HW.out.mono ?_
 rintro e w1 ⟨rfl, hw⟩
 subst w1
 go_wp2
 go_ret
 exact ⟨rfl, rfl⟩
set_option maxHeartbeats 1000000 in
set_option maxRecDepth 100000 in
theorem indexFunc_int (A : Option Addr) (n c B gf : Nat) (lb : Array Value) (l : List Int) (p : Int → Bool) (w : World) (hR : Ints w B A n c l) (hB : B ≤ w.heap.size)
  (eg : ∀ args w, (callFunc gf args).run Tryz.prog w = .ok (.enter gf args) w)
  (hp : ∀ W x, x ∈ l → Below w.heap.size w W → Calls Tryz.prog gf (#[.int .i64 x] ++ lb) W fun e W' => e = .returned (.bool (p x)) ∧ Below W.heap.size W W') :
  Calls Tryz.prog 189 #[.slice A n c, .func (.func gf) #[] lb] w fun e w' => e = .returned (.int .i64 (idxP l p)) ∧ Below w.heap.size w w' := by
 have hm := hR.nmax
 obtain rfl : l.length = n := hR.len
 have HP := hide hp; clear hp
 have HR := hide hR; clear hR
 go_enter Tryz.func189, Tryz.ntmps189
 go_wp2
 go_loopw [8] (fun i W => ∃ k : Nat, k ≤ l.length ∧ i = .int .i64 (k : Int) ∧ (∀ j (h : j < l.length), j < k → p l[j] = false) ∧ Below w.heap.size w W) (fun i _ => l.length - (intOf i).toNat)
 case atStart => exact ⟨0, by omega, rfl, fun j _ h => by omega, Below.refl _ _⟩
 case round =>
  obtain ⟨k, hk, rfl, hno, hbl⟩ := hrel
  have HNO := hide hno; clear hno
  have HB := hide hbl; clear hbl
  by_cases hlt : k < l.length
  ·obtain ⟨ad, rfl, hc0⟩ := (show Ints wr B A l.length c l from HR.out.below (HB.out.mono hB)).at_ hlt
   have HC := hide (HP.out wr l[k] (by simp) HB.out)
   clear hB
   generalize hx : l[k] = x at *
   have HX := hide hx; clear hx
   cases hpx : p x
   ·have HPX := hide hpx; clear hpx
    go_wp2_with (first
     | (refine (HC.out).mono ?_; rintro e w1 ⟨rfl, hb1⟩; rw [HPX.out]; have HB1 := hide hb1; clear hb1))
    go_roundw
    case rel => exact ⟨k + 1, by omega, by go_num, fun j h hj => by
     rcases Nat.lt_or_ge j k with h1 | h1
     ·exact HNO.out j h h1
     ·obtain rfl : j = k := by omega
      rw [HX.out]; exact HPX.out, below_add HB.out HB1.out HB.out.size⟩
    case measure => simp [intOf]; omega
   ·have HPX := hide hpx; clear hpx
    go_wp2_with (first
     | (refine (HC.out).mono ?_; rintro e w1 ⟨rfl, hb1⟩; rw [HPX.out]; have HB1 := hide hb1; clear hb1))
    go_ret
    exact ⟨ret_int (idxP_some hlt (by rw [HX.out]; exact HPX.out) (fun j h => HNO.out j (by omega) h)).symm, below_add HB.out HB1.out HB.out.size⟩
  ·obtain rfl : k = l.length := by omega
   go_wp2
   go_ret
   exact ⟨ret_int (idxP_none (fun j h => HNO.out j h h)).symm, HB.out⟩
set_option maxHeartbeats 400000 in
theorem containsFunc_int (A : Option Addr) (n c B gf : Nat) (lb : Array Value) (l : List Int) (p : Int → Bool) (w : World) (hR : Ints w B A n c l) (hB : B ≤ w.heap.size)
  (eg : ∀ args w, (callFunc gf args).run Tryz.prog w = .ok (.enter gf args) w)
  (hp : ∀ W x, x ∈ l → Below w.heap.size w W → Calls Tryz.prog gf (#[.int .i64 x] ++ lb) W fun e W' => e = .returned (.bool (p x)) ∧ Below W.heap.size W W') :
  Calls Tryz.prog 139 #[.slice A n c, .func (.func gf) #[] lb] w fun e w' => e = .returned (.bool (l.any p)) ∧ Below w.heap.size w w' := by
 have H := hide (indexFunc_int A n c B gf lb l p w hR hB eg hp)
 have HI := hide (idxP_any l p)
 clear hR hB eg hp
 generalize idxP l p = i at *
 generalize l.any p = r at *
 go_enter Tryz.func139, Tryz.ntmps139
 go_wp2_with fail
 refine H.out.mono ?_
 rintro e w' ⟨rfl, hb⟩
 have HB := hide hb; clear hb
 go_wp2
 all_goals go_ret
 all_goals refine ⟨?_, HB.out⟩
 all_goals rw [← HI.out]; rfl
end Go.Proofs.YtpibgijgnnmccaaGreatDoor
namespace Go.Proofs.YtpibgijgnnmccaaGreatDoor
open Go.RowKit
set_option maxHeartbeats 400000 in
theorem check21_any (m : Int) (b : Nat) (w : World) (hc : w.cell? ⟨b, 0, none⟩ = some (.func (.func 137) #[] #[])) :
  Calls Tryz.prog 140 #[.int .i64 m, .pointer (some ⟨b, 0, none⟩)] w fun e w' => e = .returned (.bool (!markOK m)) ∧ w' = w := by
 have HC := hide (check1_any m w)
 generalize markOK m = r at *
 go_enter Tryz.func140, Tryz.ntmps140
 go_wp2_with fail
 refine HC.out.mono ?_
 rintro e w1 ⟨rfl, hw⟩
 subst w1
 go_wp2
 go_ret
 exact ⟨rfl, rfl⟩
set_option maxHeartbeats 1000000 in
set_option maxRecDepth 100000 in
theorem check2_any (p : PieceV) (b B : Nat) (w : World) (hp : p.At w B) (hB : B ≤ w.heap.size) (hc : w.cell? ⟨b, 0, none⟩ = some (.func (.func 137) #[] #[])) (hb : b < w.heap.size) :
  Calls Tryz.prog 138 #[.agg #[.bool p.minus, .slice p.A p.n p.c], .pointer (some ⟨b, 0, none⟩)] w fun e w' => e = .returned (.bool (!p.ok)) ∧ Below w.heap.size w w' := by
 obtain ⟨mi, A, n, c, ms⟩ := p
 have hl : ms.length = n := Ints.len hp
 subst hl
 have hcm := Rd.nmax hp
 have HCF := hide (containsFunc_int A ms.length c B 140 #[.pointer (some ⟨b, 0, none⟩)] ms (fun m => !markOK m) (w.alloc (.cells #[.bool mi, .slice A ms.length c] 96)) (Rd.alloc hp hB _) (by simp; omega)
  (fun args w => enters_of Tryz.func140 (by kernel_rfl) rfl args w) (fun W x _ hW => (check21_any x b W ((hW.cell (p := ⟨b, 0, none⟩) (by simp; omega)).trans ((World.cell?_alloc_lt _ _ _ hb).trans hc))).mono (by rintro e w1 ⟨rfl, h⟩; subst h; exact ⟨rfl, Below.refl _ _⟩)))
 have HAN := hide (show (ms.any fun m => !markOK m) = !ms.all markOK by rw [List.all_eq_not_any_not]; simp)
 have HOK : Hid (PieceV.ok ⟨mi, A, ms.length, c, ms⟩ = (inB ms.length 1 6 && ms.all markOK)) := hide rfl
 have HW := hide (fun W => cord_within_any ms.length 1 6 W)
 have HBL := hide ((Below.refl w.heap.size w).alloc (Nat.le_refl _) (.cells #[.bool mi, .slice A ms.length c] 96))
 rw [HAN.out] at HCF
 clear hp HAN
 generalize ms.all markOK = r at *
 cases hin : inB ms.length 1 6
 ·rw [hin] at HW HOK
  clear hin HCF
  go_enter Tryz.func138, Tryz.ntmps138
  go_wp2_with (first
   | (go_at_call 80; refine (HW.out _).mono ?_; rintro e w1 ⟨rfl, hw⟩; subst w1))
  go_ret
  exact ⟨by rw [HOK.out]; rfl, HBL.out⟩
 ·rw [hin] at HW HOK
  clear hin
  go_enter Tryz.func138, Tryz.ntmps138
  go_wp2_with (first
   | (go_at_call 80; refine (HW.out _).mono ?_; rintro e w1 ⟨rfl, hw⟩; subst w1)
   | (go_at_call 139; refine HCF.out.mono ?_; rintro e w1 ⟨rfl, hb1⟩; have HB1 := hide hb1; clear hb1))
  go_ret
  exact ⟨by rw [HOK.out]; cases r <;> rfl, HBL.out.trans (HB1.out.mono (by simp))⟩
set_option maxHeartbeats 2000000 in
set_option maxRecDepth 100000 in
theorem cordCheck_any (wh : Int) (A : Option Addr) (n c B : Nat) (l : List PieceV) (w : World) (hp : Pieces w B A n c l) (hB : B ≤ w.heap.size) :
  Calls Tryz.prog 79 #[.agg #[.int .i64 wh, .slice A n c]] w fun e w' => e = .returned (.int .i64 (argE (oldOK wh (l.map PieceV.flat)))) ∧ Below w.heap.size w w' := by
 have hl := hp.len
 subst hl
 have hnm := hp.1.nmax
 have HBa : Hid (Below w.heap.size w ((w.alloc (.cells #[.int .i64 wh, .slice A l.length c] 24)).alloc (.cells #[.func (.func 137) #[] #[]] 141))) := hide (((Below.refl w.heap.size w).alloc (Nat.le_refl _) _).alloc (by simp) _)
 have HCF := hide (containsFunc_Piece PieceV.enc A l.length c B 138 #[.pointer (some ⟨w.heap.size + 1, 0, none⟩)] l (fun p => !p.ok) ((w.alloc (.cells #[.int .i64 wh, .slice A l.length c] 24)).alloc (.cells #[.func (.func 137) #[] #[]] 141))
  ((hp.1.alloc hB _).alloc (by simp; omega) _) (by simp; omega) (fun args w => enters_of Tryz.func138 (by kernel_rfl) rfl args w) (fun W x hx hW => by
   have h1 := Box.new (w.alloc (.cells #[.int .i64 wh, .slice A l.length c] 24)) 141 (.func (.func 137) #[] #[])
   rw [World.size_alloc] at h1
   have hz := hW.size
   simp only [World.size_alloc] at hz hW
   exact check2_any x (w.heap.size + 1) B W (Rd.below (Rd.alloc (Rd.alloc (hp.2 x hx) hB _) (by simp; omega) _) (hW.mono (by omega))) (by omega) (h1.below hW (by omega)).cell (by omega)))
 have HAN := hide (show (l.any fun p => !p.ok) = !(l.map PieceV.flat).all pieceOK by
  rw [List.all_eq_not_any_not, List.any_map]; simp [Function.comp_def, PieceV.ok, pieceOK, PieceV.flat])
 rw [HAN.out] at HCF
 have HOK : Hid (oldOK wh (l.map PieceV.flat) = (inB wh 0 1000 && decide (l.length ≤ 8) && (l.map PieceV.flat).all pieceOK)) := hide (by unfold oldOK; rw [List.length_map])
 have HW := hide (fun W => cord_within_any wh 0 1000 W)
 clear hp HAN
 generalize (l.map PieceV.flat).all pieceOK = r at *
 cases hin : inB wh 0 1000
 ·rw [hin] at HW HOK
  clear hin HCF
  go_enter Tryz.func79, Tryz.ntmps79
  go_wp2_with (first
   | (go_at_call 80; refine (HW.out _).mono ?_; rintro e w1 ⟨rfl, hw⟩; subst w1))
  go_ret
  exact ⟨by rw [HOK.out]; rfl, HBa.out⟩
 ·rw [hin] at HW HOK
  clear hin
  by_cases h8 : l.length ≤ 8
  ·have h8' : decide (8 < (l.length : Int)) = false := by simp; omega
   rw [decide_eq_true h8] at HOK
   go_enter Tryz.func79, Tryz.ntmps79
   go_wp2_with (first
    | (go_at_call 80; refine (HW.out _).mono ?_; rintro e w1 ⟨rfl, hw⟩; subst w1)
    | (go_at_call 84; refine HCF.out.mono ?_; rintro e w1 ⟨rfl, hb1⟩; have HB1 := hide hb1; clear hb1))
   all_goals go_ret
   all_goals refine ⟨?_, HBa.out.trans (HB1.out.mono (by simp; omega))⟩
   all_goals rw [HOK.out]
   all_goals (cases r <;> simp_all [argE])
  ·have h8' : (8 : Int) < (l.length : Int) := by omega
   rw [decide_eq_false h8] at HOK
   clear HCF
   go_enter Tryz.func79, Tryz.ntmps79
   go_wp2_with (first
    | (go_at_call 80; refine (HW.out _).mono ?_; rintro e w1 ⟨rfl, hw⟩; subst w1))
   go_ret
   exact ⟨by rw [HOK.out]; rfl, HBa.out⟩
end Go.Proofs.YtpibgijgnnmccaaGreatDoor
