import Derived.Test.YtloegjlknpioeaaGreatDoorRuleToSqr
import Derived.Test.YtloegjlknpioeaaGreatDoorMovAToMovD
import Derived.Test.YtloegjlknpioeaaGreatDoorLawBToLawC
set_option linter.unusedVariables false
set_option linter.unusedSimpArgs false
namespace Go.Proofs.YtloegjlknpioeaaGreatDoor
open Go.RowKit
def CircleRes (x lo hi : Num) (den low high c : Int) : Prop :=
 ∃ r, ChkRes x.1 x.2 lo.1 lo.2 hi.1 hi.2 r ∧ ((r ≠ 0 ∧ low = 0 ∧ high = 0 ∧ c = r) ∨
  (r = 0 ∧ RuleRes x ([(fun x y => mulS x.1 x.2 y.1 y.2), (fun x _ => quoS x.1 x.2 (wholeN 4).1 (wholeN 4).2)] ++ [fun x _ => plusS x.1 x.2 (wholeN 1).1 (wholeN 1).2 (-1)]) lo hi den low high c))
set_option maxHeartbeats 8000000 in
set_option maxRecDepth 100000 in
theorem circling_any (xd : Int) (A0 : Option Addr) (n0 c0 : Nat) (xt : List (Int × Int)) (ld : Int) (A : Option Addr) (n c : Nat) (lt : List (Int × Int)) (hd : Int) (A2 : Option Addr) (n2 c2 : Nat) (ht : List (Int × Int)) (den : Int) (B : Nat) (w : World)
  (hz : Terms w B A0 n0 c0 xt) (hx : Terms w B A n c lt) (hy : Terms w B A2 n2 c2 ht) (hB : B ≤ w.heap.size) :
  Calls Tryz.prog 27 #[.agg #[.int .i64 xd, .slice A0 n0 c0], .agg #[.int .i64 ld, .slice A n c, .int .i64 hd, .slice A2 n2 c2], .int .i64 den] w fun e w' =>
   ∃ low high cc, e = .returned (.tuple #[.int .i64 low, .int .i64 high, .int .i64 cc]) ∧ CircleRes (xd, xt) (ld, lt) (hd, ht) den low high cc ∧ Below w.heap.size w w' := by
 obtain ⟨w0, hw0⟩ : ∃ w0, w0 = (w.alloc (.cells #[.int .i64 xd, .slice A0 n0 c0] 33)).alloc (.cells #[.int .i64 ld, .slice A n c, .int .i64 hd, .slice A2 n2 c2] 46) := ⟨_, rfl⟩
 have hz0 : w0.heap.size = w.heap.size + 2 := by rw [hw0]; simp
 have h01 : Below w.heap.size w w0 := by rw [hw0]; exact ((Below.refl _ _).alloc (Nat.le_refl _) _).alloc (by simp) _
 have HX0 : Hid (Blk w0 w.heap.size 33 #[.int .i64 xd, .slice A0 n0 c0]) := hide (by rw [hw0]; exact (Blk.new w _ _).alloc _)
 have HP0 : Hid (Blk w0 (w.heap.size + 1) 46 #[.int .i64 ld, .slice A n c, .int .i64 hd, .slice A2 n2 c2]) := hide (by
  rw [hw0]
  have h := Blk.new (w.alloc (.cells #[.int .i64 xd, .slice A0 n0 c0] 33)) 46 #[.int .i64 ld, .slice A n c, .int .i64 hd, .slice A2 n2 c2]
  rwa [World.size_alloc] at h)
 have HZ := hide (Rd.below hz (h01.mono hB)); have HX := hide (Rd.below hx (h01.mono hB)); have HY := hide (Rd.below hy (h01.mono hB))
 have HB0 := hide h01
 have HCK := hide (cordCheckR_any xd A0 n0 c0 xt ld A n c lt hd A2 n2 c2 ht B w0 HZ.out HX.out HY.out (by omega))
 clear hz hx hy h01
 go_enter Tryz.func27, Tryz.ntmps27
 go_wp2_with fail
 rw [← hw0]
 clear hw0
 obtain ⟨x0, x1, _, _⟩ := HX0.out.two
 obtain ⟨y0, y1, y2, y3⟩ := HP0.out.four
 go_wp2_with (first
  | (go_at_call 65; refine HCK.out.mono ?_; rintro e w1 ⟨r, rfl, hcr, hb1⟩
     have HX1 := hide (HX0.out.below hb1 (by omega)); have HP1 := hide (HP0.out.below hb1 (by omega)); have HB1 := hide (HB0.out.trans (hb1.mono (by omega)))
     have HBW := hide hb1
     have hz1 := hb1.size
     obtain ⟨u0, u1, _, _⟩ := HX1.out.two
     obtain ⟨v0, v1, v2, v3⟩ := HP1.out.four
     have HCR := hide hcr
     clear hb1 hcr HCK x0 x1 y0 y1 y2 y3))
 ·have h3 : r ≠ 0 := by simpa using ‹(r != 0) = true›
  go_ret3
  exact ⟨_, _, _, rfl, ⟨r, HCR.out, .inl ⟨h3, rfl, rfl, rfl⟩⟩, HB1.out⟩
 ·have h3 : r = 0 := by simpa using ‹(r != 0) = false›
  have hbd : Hid (Below w1.heap.size w1 w1.drew) := hide (Below.drew (Below.refl _ _))
  obtain ⟨lb, hlb⟩ : ∃ lb : Array Value, lb = #[.pointer (some ⟨w1.heap.size, 0, none⟩), .pointer (some ⟨w1.heap.size + 1, 0, none⟩)] := ⟨_, rfl⟩
  obtain ⟨w2, hw2⟩ : ∃ w2, w2 = (w1.drew.alloc (.cells #[.func (.func 23) #[] #[]] 113)).alloc (.cells #[.int .i64 4] 3) := ⟨_, rfl⟩
  have hz2 : w2.heap.size = w1.heap.size + 2 := by rw [hw2]; simp
  have hb2 : Below w1.heap.size w1 w2 := by rw [hw2]; exact ((Below.drew (Below.refl _ _)).alloc (by simp) _).alloc (by simp) _
  obtain ⟨V, hV⟩ : ∃ V, V = w2.alloc (.cells #[.func (.func 21) #[] #[], .func (.func 116) #[] lb] 113) := ⟨_, rfl⟩
  have hbV : Below w1.heap.size w1 V := by rw [hV]; exact hb2.alloc (by omega) _
  have hrow : V.ownsRow w2.heap.size 113 1 (.slice (some ⟨w2.heap.size, 0, none⟩) 2 2) 2 [.func (.func 21) #[] #[], .func (.func 116) #[] lb] := by
   rw [hV]
   exact World.ownsRow_lit (base := w2.heap.size) (e := 113) (size := 1) w2 #[.func (.func 21) #[] #[], .func (.func 116) #[] lb] 2 (Nat.le_refl _) (by unfold maxLen; omega) rfl
  have hzV : V.heap.size = w2.heap.size + 1 := by rw [hV]; simp
  have hc1 : V.cell? ⟨w1.heap.size, 0, none⟩ = some (.func (.func 23) #[] #[]) := by
   rw [hV, hw2]; exact (((Blk.new w1.drew 113 #[.func (.func 23) #[] #[]]).alloc _).alloc _).cell 0
  have hc2 : V.cell? ⟨w1.heap.size + 1, 0, none⟩ = some (.int .i64 4) := by
   rw [hV, hw2]
   have h := ((Blk.new (w1.drew.alloc (.cells #[.func (.func 23) #[] #[]] 113)) 3 #[.int .i64 4]).alloc (.cells #[.func (.func 21) #[] #[], .func (.func 116) #[] lb] 113)).cell 0
   simpa using h
  have HRL := hide (rule_any xd A0 n0 c0 xt ld A n c lt hd A2 n2 c2 ht den (.slice (some ⟨w2.heap.size, 0, none⟩) 2 2) [.func (.func 21) #[] #[], .func (.func 116) #[] lb] [(fun x y => mulS x.1 x.2 y.1 y.2), (fun x _ => quoS x.1 x.2 (wholeN 4).1 (wholeN 4).2)] B w2.heap.size V
   (Rd.below HZ.out ((HBW.out.trans (hbV.mono hz1)).mono (by omega))) (Rd.below HX.out ((HBW.out.trans (hbV.mono hz1)).mono (by omega))) (Rd.below HY.out ((HBW.out.trans (hbV.mono hz1)).mono (by omega))) (by omega) hrow (by omega) (by omega)
   (fun b => b = w1.heap.size ∨ b = w1.heap.size + 1) (by rintro b (rfl | rfl) <;> exact ⟨by omega, fun e => by simp [Value.ownBlock] at e; omega⟩) rfl (by simp) (by simp [Value.oneCell']) (by
    intro i v g h1 h2
    match i, h1, h2 with
    | 0, h1, h2 =>
     simp only [List.getElem?_cons_zero, Option.some.injEq] at h1 h2
     subst h1; subst h2
     exact StepFn.of_num numFn_mul V _
    | 1, h1, h2 =>
     simp only [List.getElem?_cons_succ, List.getElem?_cons_zero, Option.some.injEq] at h1 h2
     subst h1; subst h2
     subst hlb
     exact StepFn.of_by numFn_quo hc1 hc2
    | i + 2, h1, h2 => simp at h1))
  have HX2 := hide (HX1.out.below hb2 HX1.out.lt); have HP2 := hide (HP1.out.below hb2 HP1.out.lt)
  obtain ⟨p0, p1, _, _⟩ := HX2.out.two
  obtain ⟨q0, q1, q2, q3⟩ := HP2.out.four
  have pa0 : ∀ o, (w2.alloc o).cell? ⟨w.heap.size, 0, none⟩ = some (.int .i64 xd) := fun o => (HX2.out.alloc o).cell 0
  have pa1 : ∀ o, (w2.alloc o).cell? ⟨w.heap.size, 1, none⟩ = some (.slice A0 n0 c0) := fun o => (HX2.out.alloc o).cell 1
  have qa0 : ∀ o, (w2.alloc o).cell? ⟨w.heap.size + 1, 0, none⟩ = some (.int .i64 ld) := fun o => (HP2.out.alloc o).cell 0
  have qa1 : ∀ o, (w2.alloc o).cell? ⟨w.heap.size + 1, 1, none⟩ = some (.slice A n c) := fun o => (HP2.out.alloc o).cell 1
  have qa2 : ∀ o, (w2.alloc o).cell? ⟨w.heap.size + 1, 2, none⟩ = some (.int .i64 hd) := fun o => (HP2.out.alloc o).cell 2
  have qa3 : ∀ o, (w2.alloc o).cell? ⟨w.heap.size + 1, 3, none⟩ = some (.slice A2 n2 c2) := fun o => (HP2.out.alloc o).cell 3
  have HBF : Hid (∀ w', V.grownBy w' (some w2.heap.size) → Below w.heap.size w w') := hide (fun w' hg => (HB1.out.trans (hbV.mono HB1.out.size)).grown hg (by have := HB1.out.size; omega) (fun j e => by cases e; have := HB1.out.size; omega))
  have HW2 := hide hw2
  have HBB2 := hide hb2
  have HBV5 : Hid (∀ w', V.grownBy w' (some w2.heap.size) → Below w1.heap.size w1 w') := hide (fun w' hg => hbV.grown hg (by omega) (fun j e => by cases e; omega))
  subst hV
  subst hlb
  clear hrow hc1 hc2 hzV hbV hb2 hw2 hz2 HX HY HZ HX0 HP0 HB0
  have HS : Hid (∀ W, Below w1.heap.size w1 W → (W.cell? ⟨w.heap.size, 0, none⟩ = some (.int .i64 xd) ∧ W.cell? ⟨w.heap.size, 1, none⟩ = some (.slice A0 n0 c0) ∧ W.cell? ⟨w.heap.size + 1, 0, none⟩ = some (.int .i64 ld) ∧ W.cell? ⟨w.heap.size + 1, 1, none⟩ = some (.slice A n c) ∧ W.cell? ⟨w.heap.size + 1, 2, none⟩ = some (.int .i64 hd) ∧ W.cell? ⟨w.heap.size + 1, 3, none⟩ = some (.slice A2 n2 c2))) := hide (fun W hb => ⟨(HX1.out.below hb HX1.out.lt).cell 0, (HX1.out.below hb HX1.out.lt).cell 1, (HP1.out.below hb HP1.out.lt).cell 0, (HP1.out.below hb HP1.out.lt).cell 1, (HP1.out.below hb HP1.out.lt).cell 2, (HP1.out.below hb HP1.out.lt).cell 3⟩)
  have HS1 := hide (HS.out _ hbd.out)
  have HS2 := hide (HS.out _ HBB2.out)
  have HS3 := hide (fun o => HS.out (w2.alloc o) (HBB2.out.alloc HBB2.out.size o))
  clear p0 p1 q0 q1 q2 q3 pa0 pa1 qa0 qa1 qa2 qa3 u0 u1 v0 v1 v2 v3
  go_region_held3 (fun w' => w'.cell? ⟨w.heap.size, 0, none⟩ = some (.int .i64 xd) ∧ w'.cell? ⟨w.heap.size, 1, none⟩ = some (.slice A0 n0 c0) ∧ w'.cell? ⟨w.heap.size + 1, 0, none⟩ = some (.int .i64 ld) ∧ w'.cell? ⟨w.heap.size + 1, 1, none⟩ = some (.slice A n c) ∧ w'.cell? ⟨w.heap.size + 1, 2, none⟩ = some (.int .i64 hd) ∧ w'.cell? ⟨w.heap.size + 1, 3, none⟩ = some (.slice A2 n2 c2)) (first | with_reducible exact HS1.out | with_reducible exact HS2.out | with_reducible exact HS3.out _ | with_reducible exact HS5.out) (first
   | (go_at_call 67; refine (by_any 23 4 _).mono ?_; rintro e w3 ⟨rfl, hw3⟩; obtain rfl : w3 = w2 := hw3.trans HW2.out.symm; clear hw3)
   | (go_at_call 66; refine HRL.out.mono ?_; rintro e w5 ⟨low, high, cc, rfl, hrr, hg5⟩; have HRR := hide hrr; have HG5 := hide hg5; have HS5 := hide (HS.out w5 (HBV5.out _ hg5)); clear hrr hg5))
  all_goals
   go_wp2
   go_ret3
   exact ⟨_, _, _, rfl, ⟨r, HCR.out, .inr ⟨h3, HRR.out⟩⟩, HBF.out _ HG5.out⟩
end Go.Proofs.YtloegjlknpioeaaGreatDoor
namespace Go.Proofs.YtloegjlknpioeaaGreatDoor
def RQ (x : Num) (v w : Int) : Prop := 0 < w ∧ ∃ c, x.2 = ratT c ∧ numOK x.1 (ratT c) = true ∧ c * w = v * x.1
theorem RQ.of_eq {x : Num} {v w v' w' : Int} (h : RQ x v w) (hw : 0 < w') (he : v * w' = v' * w) : RQ x v' w' := by
 obtain ⟨h0, c, h1, h2, h3⟩ := h
 refine ⟨hw, c, h1, h2, Int.eq_of_mul_eq_mul_right (show w ≠ 0 by omega) ?_⟩
 have e1 : c * w' * w = c * w * w' := Int.mul_right_comm _ _ _
 have e2 : v' * x.1 * w = v' * w * x.1 := Int.mul_right_comm _ _ _
 rw [e1, h3, e2, ← he]
 exact Int.mul_right_comm _ _ _
theorem norm_RQ {v den : Int} (hd : 0 < den) : (normQ v den).2.2 = 10 ∨ ((normQ v den).2.2 = 0 ∧ RQ (numOf (normQ v den)) v den) := by
 rcases normQ_code v den with h | h
 ·right
  refine ⟨h, hd, ?_⟩
  obtain ⟨d, ts, c, he⟩ : ∃ d ts c, normQ v den = (d, ts, c) := ⟨_, _, _, rfl⟩
  rw [he] at h ⊢
  dsimp only at h
  subst h
  obtain ⟨c, h1, h2, h3⟩ := normQ_ok hd he
  exact ⟨c, h1, h3, h2⟩
 ·rw [h]; exact .inl rfl
theorem prod_rat (a b : Int) : prodS [] (ratT a) (ratT b) = [(1, a * b)] ∨ (prodS [] (ratT a) (ratT b) = [] ∧ a * b = 0) := by
 by_cases ha : a = 0
 ·subst ha; right; exact ⟨rfl, Int.zero_mul b⟩
 ·by_cases hb : b = 0
  ·subst hb; right; rw [ratT_some ha]; exact ⟨rfl, Int.mul_zero a⟩
  ·left
   rw [ratT_some ha, ratT_some hb]
   show addS [] (mulK (a, 1) (b, 1)) (mulC (a, 1) (b, 1)) = _
   have e1 : mulK (a, 1) (b, 1) = 1 := by
    show (((1 : Int).toNat / gcdL [(1 : Int), 1] * ((1 : Int).toNat / gcdL [(1 : Int), 1]) : Nat) : Int) = 1
    decide +kernel
   have e2 : gcdL [(1 : Int), 1] = 1 := by decide +kernel
   rw [e1]
   unfold mulC
   dsimp only
   rw [e2]
   simp [addS]
theorem mul_RQ {x y : Num} {v w v' w' : Int} (hx : RQ x v w) (hy : RQ y v' w') : (mulS x.1 x.2 y.1 y.2).2.2 = 10 ∨ ((mulS x.1 x.2 y.1 y.2).2.2 = 0 ∧ RQ (numOf (mulS x.1 x.2 y.1 y.2)) (v * v') (w * w')) := by
 obtain ⟨hw, c, h1, h2, h3⟩ := hx
 obtain ⟨hw', c', h1', h2', h3'⟩ := hy
 have hd := numOK_pos h2; have hd' := numOK_pos h2'
 have e : mulS x.1 x.2 y.1 y.2 = normQ (c * c') (x.1 * y.1) := by
  unfold mulS
  rw [h1, h1', h2, h2']
  simp only [Bool.and_self, if_true]
  exact over_kv (prod_rat c c') (Int.mul_pos hd hd')
 rw [e]
 rcases norm_RQ (v := c * c') (den := x.1 * y.1) (Int.mul_pos hd hd') with h | ⟨h, hr⟩
 ·exact .inl h
 ·refine .inr ⟨h, hr.of_eq (Int.mul_pos hw hw') ?_⟩
  have k1 : c * c' * (w * w') = (c * w) * (c' * w') := by grind
  rw [k1, h3, h3']
  grind
theorem quo_RQ {x y : Num} {v w v' w' : Int} (hx : RQ x v w) (hy : RQ y v' w') (hp : 0 < v') : (quoS x.1 x.2 y.1 y.2).2.2 = 10 ∨ ((quoS x.1 x.2 y.1 y.2).2.2 = 0 ∧ RQ (numOf (quoS x.1 x.2 y.1 y.2)) (v * w') (w * v')) := by
 obtain ⟨hw, c, h1, h2, h3⟩ := hx
 obtain ⟨hw', c', h1', h2', h3'⟩ := hy
 have hd := numOK_pos h2; have hd' := numOK_pos h2'
 have hc' : 0 < c' := by
  rcases Int.lt_or_le 0 c' with h | h
  ·exact h
  ·have g1 := Int.mul_nonneg (show 0 ≤ -c' by omega) (Int.le_of_lt hw')
   have g2 := Int.mul_pos hp hd'
   rw [Int.neg_mul] at g1; omega
 have hden : 0 < x.1 * (c' * c') := Int.mul_pos hd (Int.mul_pos hc' hc')
 have e : quoS x.1 x.2 y.1 y.2 = normQ (c * (c' * y.1)) (x.1 * (c' * c')) := by
  unfold quoS
  rw [h1, h1', h2, h2']
  have et : ratT c' = [(c', 1)] := ratT_some (by omega)
  simp only [Bool.and_self, if_true]
  rw [et, if_neg (by simp), if_neg (by simp)]
  have e1 : turnL y.1 [(c', 1)] = ratT (c' * y.1) := by
   rw [ratT_some (by have := Int.mul_pos hc' hd'; omega)]
   simp [turnL, sgnK]
  have e2 : normL [(c', 1)] = c' * c' := by simp [normL, sgnK]
  rw [e1, e2]
  exact over_kv (prod_rat c (c' * y.1)) hden
 rw [e]
 rcases norm_RQ (v := c * (c' * y.1)) hden with h | ⟨h, hr⟩
 ·exact .inl h
 ·refine .inr ⟨h, hr.of_eq (Int.mul_pos hw hp) ?_⟩
  have k1 : c * (c' * y.1) * (w * v') = (c * w) * (v' * y.1) * c' := by grind
  have k2 : v * w' * (x.1 * (c' * c')) = (v * x.1) * (c' * w') * c' := by grind
  rw [k1, k2, h3, h3']
theorem plus_RQ {x y : Num} {v w v' w' m : Int} (hx : RQ x v w) (hy : RQ y v' w') : (plusS x.1 x.2 y.1 y.2 m).2.2 = 10 ∨ ((plusS x.1 x.2 y.1 y.2 m).2.2 = 0 ∧ RQ (numOf (plusS x.1 x.2 y.1 y.2 m)) (v * w' + m * v' * w) (w * w')) := by
 obtain ⟨hw, c, h1, h2, h3⟩ := hx
 obtain ⟨hw', c', h1', h2', h3'⟩ := hy
 have hd := numOK_pos h2; have hd' := numOK_pos h2'
 rw [h1, h1', plus_ratS h2 h2']
 rcases norm_RQ (v := c * y.1 + c' * (m * x.1)) (den := x.1 * y.1) (Int.mul_pos hd hd') with h | ⟨h, hr⟩
 ·exact .inl h
 ·refine .inr ⟨h, hr.of_eq (Int.mul_pos hw hw') ?_⟩
  have k1 : (c * y.1 + c' * (m * x.1)) * (w * w') = (c * w) * y.1 * w' + (c' * w') * m * x.1 * w := by grind
  rw [k1, h3, h3']
  grind
theorem make_RQ {num D d : Int} {ts : List (Int × Int)} (hn : 0 ≤ num ∧ num ≤ 100000) (hD : 1 ≤ D ∧ D ≤ 100000) : (makeS D [(num, 1)]).2.2 = 0 ∧ RQ (numOf (makeS D [(num, 1)])) num D := by
 obtain ⟨h1, h2⟩ := make_ratS hn hD
 rw [h1]
 rcases norm_RQ (v := num) (den := D) (by omega) with h | h
 ·rw [h2] at h; omega
 ·exact h
def FL (f V W l : Int) : Prop := l * W ≤ f * V ∧ f * V < (l + 1) * W
def CL (f V W h : Int) : Prop := (h - 1) * W < f * V ∧ f * V ≤ h * W
theorem ge_int {z : Int} (h : Ge fun k => z * bits k) : 0 ≤ z := by
 rcases Int.lt_or_le z 0 with h1 | h1
 ·exact (h.not_lt (Grows.congr (fun k => by rw [Int.neg_mul]) (grows_bits (c := -z) (by omega)))).elim
 ·exact h1
theorem lt_int {z : Int} (h : Lt fun k => z * bits k) : z < 0 := by
 rcases Int.lt_or_le z 0 with h1 | h1
 ·exact h1
 ·exact ((ge_bits h1).not_lt h).elim
theorem bounds_RQ {x : Num} {f V W l h c : Int} (hx : RQ x V W) (hf : 1 ≤ f ∧ f ≤ 65536) (hb : BoundsRes x.1 x.2 f l h c) : c = 0 ∧ FL f V W l ∧ CL f V W h := by
 obtain ⟨hW, q, h1, h2, h3⟩ := hx
 have hd := numOK_pos h2
 have hin : inB f 1 1000000000 = true := by simp [inB]; omega
 rw [h1] at hb
 have hN : IsN x.1 (fun k => q * bits k) x.1 (ratT q) := ⟨h2, 1, by omega, by omega, Near.of_eq fun k => by (try dsimp only); rw [linT_rat, Int.one_mul]⟩
 rcases hb with ⟨hb, _⟩ | ⟨_, hb, _⟩ | ⟨_, _, hc, hbl, hh⟩
 ·rw [h2] at hb; cases hb
 ·rw [hin] at hb; cases hb
 ·obtain ⟨g1, g2⟩ := hN.low hbl
  have k1 := ge_int (z := f * q - x.1 * l) (g1.near (Near.of_eq fun k => by (try dsimp only); grind))
  have k2 := lt_int (z := f * q - x.1 * (l + 1)) (g2.near (Near.of_eq fun k => by (try dsimp only); grind))
  have k3 : (h - 1) * x.1 < f * q ∧ f * q ≤ h * x.1 := by
   rcases hh with ⟨⟨s, s1, s2⟩, rfl⟩ | ⟨s2, rfl⟩
   ·have g3 := (hN.sg s2).one s1
    have g4 : 0 < f * q - x.1 * l := by
     rcases Int.lt_or_le 0 (f * q - x.1 * l) with hz | hz
     ·exact hz
     ·exact (Grows.not_nonpos g3 (fun k => by
       have := Int.mul_nonneg (show 0 ≤ -(f * q - x.1 * l) by omega) (Int.le_of_lt (bitsI_pos k))
       (try dsimp only)
       have e : f * (q * bits k) - x.1 * l * bits k = (f * q - x.1 * l) * bits k := by grind
       rw [Int.neg_mul] at this
       omega)).elim
    rw [show l + 1 - 1 = l by omega, Int.mul_comm l, Int.mul_comm (l + 1)]
    omega
   ·have g4 : f * q - x.1 * h = 0 := by
     rcases hN.sg s2 with ⟨e, _⟩ | ⟨e, _⟩ | ⟨_, e⟩
     ·omega
     ·omega
     ·rcases Int.lt_or_le 0 (f * q - x.1 * h) with hz | hz
      ·exact (Grows.not_bdd (grows_bits hz) (e.congr fun k => by (try dsimp only); grind)).elim
      ·omega
    rw [Int.sub_mul, Int.mul_comm h]
    omega
  refine ⟨hc, ⟨?_, ?_⟩, ?_, ?_⟩
  ·have := Int.mul_le_mul_of_nonneg_right (show l * x.1 ≤ f * q by rw [Int.mul_comm l]; omega) (Int.le_of_lt hW)
   refine Int.le_of_mul_le_mul_right (a := x.1) ?_ hd
   have e1 : f * q * W = f * V * x.1 := by rw [Int.mul_assoc, h3, Int.mul_assoc]
   have e2 : l * x.1 * W = l * W * x.1 := Int.mul_right_comm _ _ _
   omega
  ·have := Int.mul_lt_mul_of_pos_right (show f * q < (l + 1) * x.1 by rw [Int.mul_comm (l + 1)]; omega) hW
   refine Int.lt_of_mul_lt_mul_right (a := x.1) ?_ (Int.le_of_lt hd)
   have e1 : f * q * W = f * V * x.1 := by rw [Int.mul_assoc, h3, Int.mul_assoc]
   have e2 : (l + 1) * x.1 * W = (l + 1) * W * x.1 := Int.mul_right_comm _ _ _
   omega
  ·have := Int.mul_lt_mul_of_pos_right k3.1 hW
   refine Int.lt_of_mul_lt_mul_right (a := x.1) ?_ (Int.le_of_lt hd)
   have e1 : f * q * W = f * V * x.1 := by rw [Int.mul_assoc, h3, Int.mul_assoc]
   have e2 : (h - 1) * x.1 * W = (h - 1) * W * x.1 := Int.mul_right_comm _ _ _
   omega
  ·have := Int.mul_le_mul_of_nonneg_right k3.2 (Int.le_of_lt hW)
   refine Int.le_of_mul_le_mul_right (a := x.1) ?_ hd
   have e1 : f * q * W = f * V * x.1 := by rw [Int.mul_assoc, h3, Int.mul_assoc]
   have e2 : h * x.1 * W = h * W * x.1 := Int.mul_right_comm _ _ _
   omega
end Go.Proofs.YtloegjlknpioeaaGreatDoor
namespace Go.Proofs.YtloegjlknpioeaaGreatDoor
theorem whole_RQ {n : Int} (h : 0 ≤ n ∧ n ≤ 1000) : RQ (wholeN n) n 1 := by
 rw [wholeN_rat]
 exact ⟨by omega, n, rfl, numOK_rat.2 ⟨by omega, by omega, gcdL_one _⟩, by omega⟩
theorem RQ.sign {x : Num} {v w s c : Int} (hx : RQ x v w) (hv : 0 < v) (h : SignRes x.1 x.2 s c) : c = 0 ∧ s = 1 := by
 obtain ⟨hw, q, h1, h2, h3⟩ := hx
 rw [h1] at h
 have hd := numOK_pos h2
 obtain ⟨hc, hs⟩ := sign_rat h2 h
 refine ⟨hc, ?_⟩
 have hq : 0 < q := by
  rcases Int.lt_or_le 0 q with g | g
  ·exact g
  ·have g1 := Int.mul_nonneg (show 0 ≤ -q by omega) (Int.le_of_lt hw)
   have g2 := Int.mul_pos hv hd
   rw [Int.neg_mul] at g1; omega
 omega
theorem RQ.le {x y : Num} {v w v' w' s c : Int} (hx : RQ x v w) (hy : RQ y v' w') (hle : v * w' ≤ v' * w) (h : CmpRes x.1 x.2 y.1 y.2 s c) : c = 0 ∧ s ≤ 0 := by
 obtain ⟨hw, q, h1, h2, h3⟩ := hx
 obtain ⟨hw', q', h1', h2', h3'⟩ := hy
 rw [h1, h1'] at h
 have hd := numOK_pos h2; have hd' := numOK_pos h2'
 obtain ⟨hc, hs⟩ := cmp_rat h2 h2' h
 refine ⟨hc, ?_⟩
 have hqq : q * y.1 ≤ q' * x.1 := by
  refine Int.le_of_mul_le_mul_right (a := w * w') ?_ (Int.mul_pos hw hw')
  have k1 : q * y.1 * (w * w') = (q * w) * (y.1 * w') := by grind
  have k2 : q' * x.1 * (w * w') = (q' * w') * (x.1 * w) := by grind
  rw [k1, k2, h3, h3']
  have k3 := Int.mul_le_mul_of_nonneg_right hle (Int.le_of_lt (Int.mul_pos hd hd'))
  have k4 : v * w' * (x.1 * y.1) = v * x.1 * (y.1 * w') := by grind
  have k5 : v' * w * (x.1 * y.1) = v' * y.1 * (x.1 * w) := by grind
  omega
 omega
theorem chk_RQ {x lo hi : Num} {v w v1 w1 v2 w2 r : Int} (hx : RQ x v w) (hv : 0 < v) (h1 : RQ lo v1 w1) (hv1 : 0 < v1) (h2 : RQ hi v2 w2) (hle : v1 * w2 ≤ v2 * w1) (h : ChkRes x.1 x.2 lo.1 lo.2 hi.1 hi.2 r) : r = 0 := by
 obtain ⟨s, e, hs, h⟩ := h
 obtain ⟨he, hs1⟩ := hx.sign hv hs
 rcases h with ⟨h, _⟩ | ⟨_, p, hp, hr⟩
 ·exact absurd he h
 ·obtain ⟨o, e1, s2, f2, hc, hsg, hpe⟩ := hp
  obtain ⟨g1, g2⟩ := h1.le h2 hle hc
  obtain ⟨g3, g4⟩ := h1.sign hv1 hsg
  subst g1; subst g3; subst g4; subst hs1
  have : p = true := by rw [hpe]; simp [g2]
  rw [hr, this]
  simp
def RuleP (f V1 W1 V2 W2 low high c : Int) : Prop := c = 10 ∨ (c = 0 ∧ FL f V1 W1 low ∧ CL f V2 W2 high)
theorem steps_RQ {g1 g2 g3 : StepS} {a b lo hi : Num} {va wa vb wb : Int} (ha : RQ a va wa) (hb : RQ b vb wb)
  {pa qa pb qb ra sa rb sb ta ua tb ub : Int}
  (h1 : ∀ x, RQ x va wa → (g1 x lo).2.2 = 10 ∨ ((g1 x lo).2.2 = 0 ∧ RQ (numOf (g1 x lo)) pa qa)) (h1' : ∀ x, RQ x vb wb → (g1 x hi).2.2 = 10 ∨ ((g1 x hi).2.2 = 0 ∧ RQ (numOf (g1 x hi)) pb qb))
  (h2 : ∀ x, RQ x pa qa → (g2 x lo).2.2 = 10 ∨ ((g2 x lo).2.2 = 0 ∧ RQ (numOf (g2 x lo)) ra sa)) (h2' : ∀ x, RQ x pb qb → (g2 x hi).2.2 = 10 ∨ ((g2 x hi).2.2 = 0 ∧ RQ (numOf (g2 x hi)) rb sb))
  (h3 : ∀ x, RQ x ra sa → (g3 x lo).2.2 = 10 ∨ ((g3 x lo).2.2 = 0 ∧ RQ (numOf (g3 x lo)) ta ua)) (h3' : ∀ x, RQ x rb sb → (g3 x hi).2.2 = 10 ∨ ((g3 x hi).2.2 = 0 ∧ RQ (numOf (g3 x hi)) tb ub)) :
  (stepsF [g1, g2, g3] a b lo hi).2.2 = 10 ∨ ((stepsF [g1, g2, g3] a b lo hi).2.2 = 0 ∧ RQ (stepsF [g1, g2, g3] a b lo hi).1 ta ua ∧ RQ (stepsF [g1, g2, g3] a b lo hi).2.1 tb ub) := by
 unfold stepsF
 rcases h1 a ha with e | ⟨e, k1⟩
 ·left; rw [if_pos (by omega)]; exact e
 rw [if_neg (by omega)]
 rcases h1' b hb with e | ⟨e, k1'⟩
 ·left; rw [if_pos (by omega)]; exact e
 rw [if_neg (by omega)]
 unfold stepsF
 rcases h2 _ k1 with e | ⟨e, k2⟩
 ·left; rw [if_pos (by omega)]; exact e
 rw [if_neg (by omega)]
 rcases h2' _ k1' with e | ⟨e, k2'⟩
 ·left; rw [if_pos (by omega)]; exact e
 rw [if_neg (by omega)]
 unfold stepsF
 rcases h3 _ k2 with e | ⟨e, k3⟩
 ·left; rw [if_pos (by omega)]; exact e
 rw [if_neg (by omega)]
 rcases h3' _ k2' with e | ⟨e, k3'⟩
 ·left; rw [if_pos (by omega)]; exact e
 rw [if_neg (by omega)]
 unfold stepsF
 exact .inr ⟨rfl, k3, k3'⟩
theorem rule_RQ {x lo hi : Num} {gs : List StepS} {v w ta ua tb ub f low high c : Int} (hx : RQ x v w) (hf : 1 ≤ f ∧ f ≤ 65536)
  (hs : ∀ a, RQ a (v * v) (w * w) → (stepsF gs a a lo hi).2.2 = 10 ∨ ((stepsF gs a a lo hi).2.2 = 0 ∧ RQ (stepsF gs a a lo hi).1 ta ua ∧ RQ (stepsF gs a a lo hi).2.1 tb ub))
  (h : RuleRes x gs lo hi f low high c) : RuleP f ta ua tb ub low high c := by
 rcases mul_RQ hx hx with e | ⟨e, hq⟩
 ·rcases h with ⟨_, _, _, hc⟩ | ⟨h0, _⟩
  ·exact .inl (by omega)
  ·omega
 ·rcases h with ⟨h0, _⟩ | ⟨_, r, hr, h⟩
  ·exact absurd e h0
  ·rcases hs _ hq with e2 | ⟨e2, k1, k2⟩
   ·rw [hr] at e2
    rcases h with ⟨_, _, _, hc⟩ | ⟨h0, _⟩
    ·exact .inl (by omega)
    ·omega
   ·rw [hr] at e2 k1 k2
    rcases h with ⟨h0, _⟩ | ⟨_, l1, h1, c1, hb1, h⟩
    ·exact absurd e2 h0
    ·obtain ⟨g1, g2, g3⟩ := bounds_RQ k1 hf hb1
     rcases h with ⟨h0, _⟩ | ⟨_, l2, hb2, hl⟩
     ·exact absurd g1 h0
     ·obtain ⟨g4, g5, g6⟩ := bounds_RQ k2 hf hb2
      exact .inr ⟨g4, by rw [hl]; exact g2, g6⟩
theorem circ_RQ {x lo hi : Num} {v w v1 w1 v2 w2 f low high c : Int} (hx : RQ x v w) (hv : 0 < v) (h1 : RQ lo v1 w1) (hv1 : 0 < v1) (h2 : RQ hi v2 w2) (hle : v1 * w2 ≤ v2 * w1) (hf : 1 ≤ f ∧ f ≤ 65536) (h : CircleRes x lo hi f low high c) :
  RuleP f (v * v * v1 - w * w * w1 * 4) (w * w * w1 * 4) (v * v * v2 - w * w * w2 * 4) (w * w * w2 * 4) low high c := by
 obtain ⟨r, hr, h⟩ := h
 have hr0 := chk_RQ hx hv h1 hv1 h2 hle hr
 rcases h with ⟨h, _⟩ | ⟨_, h⟩
 ·exact absurd hr0 h
 ·have hw := hx.1; have hw1 := h1.1; have hw2 := h2.1
  have p1 : 0 < w * w * w1 * 4 := Int.mul_pos (Int.mul_pos (Int.mul_pos hw hw) hw1) (by omega)
  have p2 : 0 < w * w * w2 * 4 := Int.mul_pos (Int.mul_pos (Int.mul_pos hw hw) hw2) (by omega)
  refine rule_RQ hx hf (fun a ha => ?_) h
  refine steps_RQ (pa := v * v * v1) (qa := w * w * w1) (pb := v * v * v2) (qb := w * w * w2) (ra := v * v * v1) (sa := w * w * w1 * 4) (rb := v * v * v2) (sb := w * w * w2 * 4) ha ha
   (fun y hy => mul_RQ hy h1) (fun y hy => mul_RQ hy h2)
   (fun y hy => (quo_RQ hy (whole_RQ (n := 4) (by omega)) (by omega)).imp id (fun ⟨e, g⟩ => ⟨e, g.of_eq p1 (by grind)⟩)) (fun y hy => (quo_RQ hy (whole_RQ (n := 4) (by omega)) (by omega)).imp id (fun ⟨e, g⟩ => ⟨e, g.of_eq p2 (by grind)⟩))
   (fun y hy => (plus_RQ (m := -1) hy (whole_RQ (n := 1) (by omega))).imp id (fun ⟨e, g⟩ => ⟨e, g.of_eq p1 (by grind)⟩)) (fun y hy => (plus_RQ (m := -1) hy (whole_RQ (n := 1) (by omega))).imp id (fun ⟨e, g⟩ => ⟨e, g.of_eq p2 (by grind)⟩))
theorem square_RQ {x lo hi : Num} {v w v1 w1 v2 w2 f low high c : Int} (hx : RQ x v w) (hv : 0 < v) (h1 : RQ lo v1 w1) (hv1 : 0 < v1) (h2 : RQ hi v2 w2) (hv2 : 0 < v2) (hle : v1 * w2 ≤ v2 * w1) (hf : 1 ≤ f ∧ f ≤ 65536) (h : SquareRes x lo hi f low high c) :
  RuleP f (v * v * 4 * w2 - w * w * v2) (w * w * v2) (v * v * 4 * w1 - w * w * v1) (w * w * v1) low high c := by
 obtain ⟨r, hr, h⟩ := h
 have hr0 := chk_RQ hx hv h1 hv1 h2 hle hr
 rcases h with ⟨h, _⟩ | ⟨_, h⟩
 ·exact absurd hr0 h
 ·have hw := hx.1; have hw1 := h1.1; have hw2 := h2.1
  have p0 : 0 < w * w := Int.mul_pos hw hw
  have p1 : 0 < w * w * v1 := Int.mul_pos p0 hv1
  have p2 : 0 < w * w * v2 := Int.mul_pos p0 hv2
  refine rule_RQ hx hf (fun a ha => ?_) h
  refine steps_RQ (pa := v * v * 4) (qa := w * w) (pb := v * v * 4) (qb := w * w) (ra := v * v * 4 * w2) (sa := w * w * v2) (rb := v * v * 4 * w1) (sb := w * w * v1) ha ha
   (fun y hy => (mul_RQ hy (whole_RQ (n := 4) (by omega))).imp id (fun ⟨e, g⟩ => ⟨e, g.of_eq p0 (by grind)⟩)) (fun y hy => (mul_RQ hy (whole_RQ (n := 4) (by omega))).imp id (fun ⟨e, g⟩ => ⟨e, g.of_eq p0 (by grind)⟩))
   (fun y hy => quo_RQ hy h2 hv2) (fun y hy => quo_RQ hy h1 hv1)
   (fun y hy => (plus_RQ (m := -1) hy (whole_RQ (n := 1) (by omega))).imp id (fun ⟨e, g⟩ => ⟨e, g.of_eq p2 (by grind)⟩)) (fun y hy => (plus_RQ (m := -1) hy (whole_RQ (n := 1) (by omega))).imp id (fun ⟨e, g⟩ => ⟨e, g.of_eq p1 (by grind)⟩))
end Go.Proofs.YtloegjlknpioeaaGreatDoor
namespace Go.Proofs.YtloegjlknpioeaaGreatDoor
theorem FL.nonpos {f V W l : Int} (h : FL f V W l) (hW : 0 < W) (hf : 0 ≤ f) (hV : V ≤ 0) : l ≤ 0 := by
 rcases Int.lt_or_le 0 l with h1 | h1
 ·have g1 := Int.mul_pos h1 hW
  have g2 := Int.mul_nonneg hf (show 0 ≤ -V by omega)
  rw [Int.mul_neg] at g2
  have := h.1; omega
 ·exact h1
theorem FL.mono {f V V' W l l' : Int} (h : FL f V W l) (h' : FL f V' W l') (hW : 0 < W) (hf : 0 ≤ f) (hV : V ≤ V') : l ≤ l' := by
 have g := Int.mul_le_mul_of_nonneg_left hV hf
 have g2 : l * W < (l' + 1) * W := by have := h.1; have := h'.2; omega
 have := Int.lt_of_mul_lt_mul_right g2 (Int.le_of_lt hW)
 omega
theorem CL.mono {f V V' W l l' : Int} (h : CL f V W l) (h' : CL f V' W l') (hW : 0 < W) (hf : 0 ≤ f) (hV : V ≤ V') : l ≤ l' := by
 have g := Int.mul_le_mul_of_nonneg_left hV hf
 have g2 : (l - 1) * W < l' * W := by have := h.1; have := h'.2; omega
 have := Int.lt_of_mul_lt_mul_right g2 (Int.le_of_lt hW)
 omega
theorem CL.nonneg {f V W l : Int} (h : CL f V W l) (hW : 0 < W) (hf : 0 ≤ f) (hV : 0 ≤ V) : 0 ≤ l := by
 rcases Int.lt_or_le l 0 with h1 | h1
 ·have g1 := Int.mul_pos (show 0 < -l by omega) hW
  have g2 := Int.mul_nonneg hf hV
  rw [Int.neg_mul] at g1
  have := h.2; omega
 ·exact h1
theorem FL.zero {f W l : Int} (h : FL f 0 W l) (hW : 0 < W) : l = 0 := by
 obtain ⟨h1, h2⟩ := h
 rw [Int.mul_zero] at h1 h2
 have g1 : l ≤ 0 := by
  rcases Int.lt_or_le 0 l with g | g
  ·have := Int.mul_pos g hW; omega
  ·exact g
 have g2 : 0 ≤ l := by
  rcases Int.lt_or_le l 0 with g | g
  ·have := Int.mul_nonneg (show 0 ≤ -(l + 1) by omega) (Int.le_of_lt hW)
   rw [Int.neg_mul] at this; omega
  ·exact g
 omega
theorem FL.le_CL {f V V' W l h : Int} (hl : FL f V W l) (hh : CL f V' W h) (hW : 0 < W) (hf : 0 ≤ f) (hV : V ≤ V') : l ≤ h := by
 have g := Int.mul_le_mul_of_nonneg_left hV hf
 exact Int.le_of_mul_le_mul_right (show l * W ≤ h * W by have := hl.1; have := hh.2; omega) hW
theorem FL.ge {f V W l : Int} (h : FL f V W l) (hW : 0 < W) (hf : 0 ≤ f) (hV : -W ≤ V) : -f ≤ l := by
 have g := Int.mul_le_mul_of_nonneg_left hV hf
 rw [Int.mul_neg] at g
 have g2 : (-f) * W < (l + 1) * W := by rw [Int.neg_mul]; have := h.2; omega
 have := Int.lt_of_mul_lt_mul_right g2 (Int.le_of_lt hW)
 omega
theorem CL.le {f V W l K : Int} (h : CL f V W l) (hW : 1 ≤ W) (hf : 0 ≤ f) (hK : 0 ≤ K) (hV : V ≤ K) : l ≤ f * K := by
 have g := Int.mul_le_mul_of_nonneg_left hV hf
 have g1 : f * K ≤ f * K * W := by
  have := Int.mul_le_mul_of_nonneg_left hW (Int.mul_nonneg hf hK)
  omega
 have g2 : (l - 1) * W < f * K * W := by have := h.1; omega
 have := Int.lt_of_mul_lt_mul_right g2 (by omega)
 omega
theorem sq_bd {a : Int} {M : Int} (h : 1 ≤ a ∧ a ≤ M) : 1 ≤ a * a ∧ a * a ≤ M * M :=
 ⟨by have := Int.mul_le_mul_of_nonneg_left h.1 (show 0 ≤ a by omega); omega, by
  have g1 := Int.mul_le_mul_of_nonneg_left h.2 (show 0 ≤ a by omega)
  have g2 := Int.mul_le_mul_of_nonneg_right h.2 (show 0 ≤ M by omega)
  omega⟩
theorem exact_first {a b t o f x y u v m n : Int} (ha : 1 ≤ a ∧ a ≤ 40) (hb : 1 ≤ b ∧ b ≤ 40) (ht : 0 ≤ t) (ho : 0 ≤ o) (hf : 1 ≤ f) (hL : 0 < 40 * (b * b) - 1 - t)
  (h1 : FL f (a * a * (40 * (b * b) - 1 - t) - b * b * (a * a * 10) * 4) (b * b * (a * a * 10) * 4) x) (h1' : CL f (a * a * (40 * (b * b) + o) - b * b * (a * a * 10) * 4) (b * b * (a * a * 10) * 4) y)
  (h2 : FL f (a * a * (4 * (b * b)) - b * b * (a * a) * 4) (b * b * (a * a) * 4) u) (h2' : CL f (a * a * (40 * (b * b) + o) - b * b * (a * a * 10) * 4) (b * b * (a * a * 10) * 4) v)
  (h3 : FL f (b * b * 4 * (a * a * 10) - a * a * (40 * (b * b) + o)) (a * a * (40 * (b * b) + o)) m) (h3' : CL f (b * b * 4 * (a * a * 10) - a * a * (40 * (b * b) - 1 - t)) (a * a * (40 * (b * b) - 1 - t)) n) :
  x ≤ 0 ∧ 0 ≤ y ∧ u = 0 ∧ 0 ≤ v ∧ v ≤ y ∧ m ≤ 0 ∧ 0 ≤ n := by
 have hA := sq_bd ha; have hB := sq_bd hb
 generalize a * a = A at *
 generalize b * b = B at *
 have hAB : 0 < A * B := Int.mul_pos (by omega) (by omega)
 have hW : 0 < B * (A * 10) * 4 := by rw [show B * (A * 10) * 4 = 40 * (A * B) by grind]; omega
 have hAt : 0 ≤ A * (1 + t) := Int.mul_nonneg (by omega) (by omega)
 have hAo : 0 ≤ A * o := Int.mul_nonneg (by omega) ho
 have e1 : A * (40 * B - 1 - t) - B * (A * 10) * 4 = -(A * (1 + t)) := by grind
 have e2 : A * (40 * B + o) - B * (A * 10) * 4 = A * o := by grind
 have e3 : A * (4 * B) - B * A * 4 = 0 := by grind
 have e4 : B * 4 * (A * 10) - A * (40 * B + o) = -(A * o) := by grind
 have e5 : B * 4 * (A * 10) - A * (40 * B - 1 - t) = A * (1 + t) := by grind
 rw [e1] at h1
 rw [e2] at h1' h2'
 rw [e3] at h2
 rw [e4] at h3
 rw [e5] at h3'
 have hW2 : 0 < B * A * 4 := by rw [show B * A * 4 = 4 * (A * B) by grind]; omega
 refine ⟨h1.nonpos hW (by omega) (by omega), h1'.nonneg hW (by omega) hAo, h2.zero hW2, h2'.nonneg hW (by omega) hAo, h2'.mono h1' hW (by omega) (Int.le_refl _), h3.nonpos (Int.mul_pos (by omega) (by omega)) (by omega) (by omega), h3'.nonneg (Int.mul_pos (by omega) hL) (by omega) hAt⟩
theorem exact_second {a b t o f x y v p q : Int} (ha : 1 ≤ a ∧ a ≤ 40) (hb : 1 ≤ b ∧ b ≤ 40) (ht : 0 ≤ t ∧ t ≤ 19) (ho : 0 ≤ o ∧ o ≤ 255) (hf : 1 ≤ f ∧ f ≤ 65536) (hL : 0 < 40 * (b * b) - 1 - t)
  (h1 : FL f (a * a * (40 * (b * b) - 1 - t) - b * b * (a * a * 10) * 4) (b * b * (a * a * 10) * 4) x) (h1' : CL f (a * a * (40 * (b * b) + o) - b * b * (a * a * 10) * 4) (b * b * (a * a * 10) * 4) y)
  (h2' : CL f (a * a * (40 * (b * b) + o) - b * b * (a * a * 10) * 4) (b * b * (a * a * 10) * 4) v) (hv : 0 ≤ v)
  (h4 : FL f ((a + b) * (a + b) * (40 * (b * b) - 1 - t) - b * b * (a * a * 10) * 4) (b * b * (a * a * 10) * 4) p) (h4' : CL f ((a + b) * (a + b) * (40 * (b * b) + o) - b * b * (a * a * 10) * 4) (b * b * (a * a * 10) * 4) q) :
  x ≤ p ∧ y ≤ q ∧ (nearS 0 v p q).2 = 0 ∧ ((nearS 0 v p q).1 = -1 ∨ (p ≤ q ∧ max 0 p ≤ v)) ∧ p ≤ q ∧ (-65536 ≤ p ∧ q ≤ 50000000000000) ∧ v ≤ 50000000000000 := by
 have hA := sq_bd ha; have hB := sq_bd hb; have hC := sq_bd (a := a + b) (M := 80) (by omega)
 have hAC : a * a ≤ (a + b) * (a + b) := by
  have := Int.mul_nonneg (show 0 ≤ a by omega) (show 0 ≤ b by omega)
  have : 0 ≤ b * b := by omega
  have e : (a + b) * (a + b) = a * a + 2 * (a * b) + b * b := by grind
  omega
 generalize (a + b) * (a + b) = C at *
 generalize a * a = A at *
 generalize b * b = B at *
 have hAB : 0 < A * B := Int.mul_pos (by omega) (by omega)
 have hW : 0 < B * (A * 10) * 4 := by rw [show B * (A * 10) * 4 = 40 * (A * B) by grind]; omega
 have k1 : A * (40 * B - 1 - t) ≤ C * (40 * B - 1 - t) := Int.mul_le_mul_of_nonneg_right hAC (Int.le_of_lt hL)
 have k2 : A * (40 * B + o) ≤ C * (40 * B + o) := Int.mul_le_mul_of_nonneg_right hAC (by omega)
 have k3 : C * (40 * B - 1 - t) ≤ C * (40 * B + o) := Int.mul_le_mul_of_nonneg_left (by omega) (by omega)
 have k4 : C * (40 * B + o) ≤ 6400 * 64255 := by
  have g1 := Int.mul_le_mul_of_nonneg_right hC.2 (show 0 ≤ 40 * B + o by omega)
  have g2 : (80 * 80 : Int) * (40 * B + o) ≤ 6400 * 64255 := by omega
  omega
 have k5 : 0 ≤ C * (40 * B - 1 - t) := Int.mul_nonneg (by omega) (Int.le_of_lt hL)
 have g1 := h1.mono h4 hW (by omega) (by omega)
 have g2 := h1'.mono h4' hW (by omega) (by omega)
 have g3 := h4.le_CL h4' hW (by omega) (by omega)
 have g4 := h4.ge hW (by omega) (by omega)
 have g5 := h4'.le (K := 6400 * 64255) (by omega) (by omega) (by omega) (by omega)
 have g6 := h2'.mono h4' hW (by omega) (by omega)
 have g7 : f * (6400 * 64255) ≤ 50000000000000 := by omega
 have s1 : sizeOK 0 v = true := by unfold sizeOK; simp; omega
 have s2 : sizeOK p q = true := by unfold sizeOK; simp; omega
 refine ⟨g1, g2, ?_, ?_, g3, ⟨by omega, by omega⟩, by omega⟩
 ·unfold nearS
  rw [s1, s2]
  simp only [Bool.and_self, Bool.true_eq_false, if_false]
  split
  ·rfl
  ·split <;> rfl
 ·unfold nearS
  rw [s1, s2]
  simp only [Bool.and_self, Bool.true_eq_false, if_false]
  split
  ·exact .inl rfl
  ·rename_i hn
   right
   unfold mostS2 leastS at hn
   omega
end Go.Proofs.YtloegjlknpioeaaGreatDoor
namespace Go.Proofs.YtloegjlknpioeaaGreatDoor
open Go.RowKit
def Vr (X : Nat) (d : Int) (A : Option Addr) (n c : Nat) (ts : List (Int × Int)) (W : World) : Prop := Blk W X 33 #[.int .i64 d, .slice A n c] ∧ OwnN 0 (A, n, c) ts W
instance {X : Nat} {d : Int} {A : Option Addr} {n c : Nat} {ts : List (Int × Int)} : Kept (Vr X d A n c ts) := ⟨fun _ _ h hb => ⟨h.1.below hb h.1.lt, own_below h.2 hb⟩⟩
theorem Vr.new {W : World} {d : Int} {A : Option Addr} {n c : Nat} {ts : List (Int × Int)} (h : OwnN 0 (A, n, c) ts W) : Vr W.heap.size d A n c ts (W.alloc (.cells #[.int .i64 d, .slice A n c] 33)) := ⟨Blk.new W _ _, World.ownsRow.alloc h _⟩
theorem Vr.small {W : World} {X : Nat} {d : Int} {A : Option Addr} {n c : Nat} {v : Int} (h : Vr X d A n c (ratT v) W) : n ≤ 1000 := by
 have h1 := (terms_own (A := A) (n := n) (c := c) h.2).len
 have h2 : (ratT v).length ≤ 1 := by unfold ratT; split <;> simp
 omega
theorem RQ.rat {d : Int} {ts : List (Int × Int)} {v w : Int} (h : RQ (d, ts) v w) : ∃ q, ts = ratT q ∧ numOK d (ratT q) = true := by
 obtain ⟨_, q, h1, h2, _⟩ := h
 exact ⟨q, h1, h2⟩
theorem make_rat {num D : Int} (hn : 0 ≤ num ∧ num ≤ 100000) (hD : 1 ≤ D ∧ D ≤ 100000) : ∃ d q, makeS D [(num, 1)] = (d, ratT q, 0) ∧ RQ (d, ratT q) num D ∧ numOK d (ratT q) = true ∧ d ≤ D ∧ 0 ≤ q ∧ q ≤ num ∧ q * D = num * d := by
 obtain ⟨h1, h2⟩ := make_ratS hn hD
 obtain ⟨d, ts, c, he⟩ : ∃ d ts c, normQ num D = (d, ts, c) := ⟨_, _, _, rfl⟩
 rw [he] at h1 h2
 dsimp only at h2
 subst h2
 obtain ⟨q, rfl, e1, e2⟩ := normQ_ok (by omega) he
 obtain ⟨_, k1, k2, k3, _⟩ := norm_le hn.1 (by omega) he
 exact ⟨d, q, h1, ⟨by omega, q, rfl, e2, e1⟩, e2, k1, k2, k3, e1⟩
theorem plus_one {xd xc : Int} (hx : numOK xd (ratT xc) = true) (h1 : xd ≤ 1000) (h2 : 0 ≤ xc ∧ xc ≤ 20000) : plusS xd (ratT xc) 1 [(1, 1)] 1 = (xd, ratT (xc + xd), 0) ∧ numOK xd (ratT (xc + xd)) = true := by
 have hd := numOK_pos hx
 have hg := (numOK_rat.1 hx).2.2
 have hn : numOK xd (ratT (xc + xd)) = true := by
  refine numOK_rat.2 ⟨by omega, by omega, ?_⟩
  obtain ⟨C, rfl⟩ := Int.eq_ofNat_of_zero_le h2.1
  obtain ⟨X, rfl⟩ := Int.eq_ofNat_of_zero_le (Int.le_of_lt hd)
  rw [gcdL_two] at hg ⊢
  rw [show ((C : Int) + (X : Int)) = ((C + 1 * X : Nat) : Int) by simp]
  rw [Int.natAbs_natCast, Int.natAbs_natCast] at hg ⊢
  rw [Nat.gcd_add_mul_right_right]
  exact hg
 refine ⟨?_, hn⟩
 have h3 : numOK 1 (ratT 1) = true := by decide +kernel
 show plusS xd (ratT xc) 1 (ratT 1) 1 = _
 rw [plus_ratS hx h3]
 exact normQ_eq (by omega) hn (by grind)
end Go.Proofs.YtloegjlknpioeaaGreatDoor
