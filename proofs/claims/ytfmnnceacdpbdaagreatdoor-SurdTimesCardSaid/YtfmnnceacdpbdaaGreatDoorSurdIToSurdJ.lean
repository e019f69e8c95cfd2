import Derived.Test.YtfmnnceacdpbdaaGreatDoorSurdGToSurdH
set_option linter.unusedVariables false
set_option linter.unusedSimpArgs false
namespace Go.Proofs.YtfmnnceacdpbdaaGreatDoor
open Go.RowKit
structure NumV where
 den : Int
 A : Option Addr
 n : Nat
 c : Nat
 ts : List (Int × Int)
def NumV.val (x : NumV) : Value := .agg #[.int .i64 x.den, .slice x.A x.n x.c]
def NumV.enc (x : NumV) : Value × Value := (.int .i64 x.den, .slice x.A x.n x.c)
def NumV.ok (x : NumV) : Bool := numOK x.den x.ts
def NumV.At (x : NumV) (w : World) (B : Nat) : Prop := Terms w B x.A x.n x.c x.ts
theorem NumV.At.below {x : NumV} {w w' : World} {B : Nat} (h : x.At w B) (hb : Below B w w') : x.At w' B := Terms.below h hb
theorem NumV.At.more {x : NumV} {w : World} {B B' : Nat} (h : x.At w B) (hb : B ≤ B') : x.At w B' := Terms.more h hb
set_option maxHeartbeats 400000 in
theorem valid1_fun (x : NumV) (B : Nat) (w : World) (hR : x.At w B) (hB : B ≤ w.heap.size) :
  Calls Tryz.prog 71 #[.agg #[.int .i64 x.den, .slice x.A x.n x.c]] w fun e w' => e = .returned (.bool (!x.ok)) ∧ Below w.heap.size w w' := by
 obtain ⟨den, A, n, c, ts⟩ := x
 have HC := hide (check_any den A n c B ts (w.alloc (.cells #[.int .i64 den, .slice A n c] 24)) (Rd.alloc hR hB _) (by simp; omega))
 have hOK : Hid (NumV.ok ⟨den, A, n, c, ts⟩ = numOK den ts) := hide rfl
 clear hR
 generalize numOK den ts = r at *
 go_enter Tryz.func71, Tryz.ntmps71
 go_wp2_with (first
  | (go_at_call 13; refine HC.out.mono ?_; rintro e w1 ⟨rfl, hb⟩; have HB := hide hb; clear hb))
 go_ret
 exact ⟨by rw [hOK.out]; cases r <;> rfl, ((Below.refl _ _).alloc (Nat.le_refl _) _).trans (HB.out.mono (by simp))⟩
theorem valid_any (A : Option Addr) (n c B : Nat) (l : List NumV) (w : World) (hR : Rd w B 2 A n c (cells2 (l.map NumV.enc))) (hB : B ≤ w.heap.size) (hl : ∀ x ∈ l, x.At w B) :
  Calls Tryz.prog 46 #[.slice A n c] w fun e w' => e = .returned (.bool (l.all NumV.ok)) ∧ Below w.heap.size w w' := by
 have H := hide (containsFunc_Number NumV.enc A n c B 71 #[] l (fun x => !x.ok) w hR hB (fun args w => enters_of Tryz.func71 (by kernel_rfl) rfl args w) (fun W x hx hb =>
  valid1_fun x B W ((hl x hx).below (hb.mono hB)) (by have := hb.size; omega)))
 have HV := hide (show (l.any fun x => !x.ok) = !l.all NumV.ok by rw [List.all_eq_not_any_not]; simp)
 clear hR hl
 generalize (l.any fun x => !x.ok) = r at *
 generalize l.all NumV.ok = r2 at *
 go_enter Tryz.func46, Tryz.ntmps46
 go_wp2_with fail
 refine H.out.mono ?_
 rintro e w1 ⟨rfl, hb⟩
 have HB := hide hb; clear hb
 go_wp2
 go_ret
 exact ⟨by rw [HV.out]; simp, HB.out⟩
theorem valid1_any (x : NumV) (B : Nat) (w : World) (hx : x.At w B) (hB : B ≤ w.heap.size) :
  Calls Tryz.prog 46 #[.slice (some ⟨w.heap.size, 0, none⟩) 1 1] (w.alloc (.cells #[.int .i64 x.den, .slice x.A x.n x.c] 24)) fun e w' => e = .returned (.bool x.ok) ∧ Below w.heap.size w w' := by
 have h := valid_any (some ⟨w.heap.size, 0, none⟩) 1 1 (w.heap.size + 1) [x] (w.alloc (.cells #[.int .i64 x.den, .slice x.A x.n x.c] 24))
  ⟨rfl, Nat.le_refl _, by unfold maxLen; omega, .inr ⟨_, rfl, by simp, cell_new2 w _ _ _⟩⟩ (by simp) (by
   intro y hy
   rw [List.mem_singleton] at hy
   subst hy
   exact (Rd.alloc hx hB _).more (by omega))
 refine h.mono ?_
 rintro e w1 ⟨rfl, hb⟩
 exact ⟨by simp, ((Below.refl _ _).alloc (Nat.le_refl _) _).trans (hb.mono (by simp))⟩
theorem cell_new4 (w : World) (a b c d : Value) (t : TypeId) : ∀ j x, [a, b, c, d][j]? = some x → (w.alloc (.cells #[a, b, c, d] t)).cell? ((⟨w.heap.size, 0, none⟩ : Addr).add j) = some x := by
 have h := Blk.new w t #[a, b, c, d]
 have h0 := h.cell 0
 have h1 := h.cell 1
 have h2 := h.cell 2
 have h3 := h.cell 3
 intro j x hj
 match j, hj with
 | 0, hj => simp at hj; subst hj; exact h0
 | 1, hj => simp at hj; subst hj; exact h1
 | 2, hj => simp at hj; subst hj; exact h2
 | 3, hj => simp at hj; subst hj; exact h3
theorem valid2_any (x y : NumV) (B : Nat) (w : World) (hx : x.At w B) (hy : y.At w B) (hB : B ≤ w.heap.size) :
  Calls Tryz.prog 46 #[.slice (some ⟨w.heap.size, 0, none⟩) 2 2] (w.alloc (.cells #[.int .i64 x.den, .slice x.A x.n x.c, .int .i64 y.den, .slice y.A y.n y.c] 24)) fun e w' => e = .returned (.bool (x.ok && y.ok)) ∧ Below w.heap.size w w' := by
 have h := valid_any (some ⟨w.heap.size, 0, none⟩) 2 2 (w.heap.size + 1) [x, y] (w.alloc (.cells #[.int .i64 x.den, .slice x.A x.n x.c, .int .i64 y.den, .slice y.A y.n y.c] 24))
  ⟨rfl, Nat.le_refl _, by unfold maxLen; omega, .inr ⟨_, rfl, by simp, cell_new4 w _ _ _ _ _⟩⟩ (by simp) (by
   intro z hz
   simp only [List.mem_cons, List.not_mem_nil, or_false] at hz
   rcases hz with rfl | rfl
   ·exact (Rd.alloc hx hB _).more (by omega)
   ·exact (Rd.alloc hy hB _).more (by omega))
 refine h.mono ?_
 rintro e w1 ⟨rfl, hb⟩
 exact ⟨by simp, ((Below.refl _ _).alloc (Nat.le_refl _) _).trans (hb.mono (by simp))⟩
theorem valid1_flat (d : Int) (A : Option Addr) (n c : Nat) (ts : List (Int × Int)) (B : Nat) (w : World) (hx : Terms w B A n c ts) (hB : B ≤ w.heap.size) :
  Calls Tryz.prog 46 #[.slice (some ⟨w.heap.size, 0, none⟩) 1 1] (w.alloc (.cells #[.int .i64 d, .slice A n c] 24)) fun e w' => e = .returned (.bool (numOK d ts)) ∧ Below w.heap.size w w' :=
 valid1_any ⟨d, A, n, c, ts⟩ B w hx hB
theorem valid2_flat (d : Int) (A : Option Addr) (n c : Nat) (ts : List (Int × Int)) (d2 : Int) (A2 : Option Addr) (n2 c2 : Nat) (ts2 : List (Int × Int)) (B : Nat) (w : World) (hx : Terms w B A n c ts) (hy : Terms w B A2 n2 c2 ts2) (hB : B ≤ w.heap.size) :
  Calls Tryz.prog 46 #[.slice (some ⟨w.heap.size, 0, none⟩) 2 2] (w.alloc (.cells #[.int .i64 d, .slice A n c, .int .i64 d2, .slice A2 n2 c2] 24)) fun e w' => e = .returned (.bool (numOK d ts && numOK d2 ts2)) ∧ Below w.heap.size w w' :=
 valid2_any ⟨d, A, n, c, ts⟩ ⟨d2, A2, n2, c2, ts2⟩ B w hx hy hB
end Go.Proofs.YtfmnnceacdpbdaaGreatDoor
namespace Go.Proofs.YtfmnnceacdpbdaaGreatDoor
open Go.RowKit
theorem getS_addS : ∀ (kv : List (Int × Int)) (r c q : Int), getS (addS kv r c) q = getS kv q + if q = r then c else 0
 | [], r, c, q => by simp [addS, getS]
 | (a, x) :: t, r, c, q => by
  by_cases h : r = a
  ·subst h
   by_cases hq : q = r
   ·subst hq; simp [addS, getS]
   ·simp [addS, getS, hq]
  ·have ih := getS_addS t r c q
   by_cases hq : q = a
   ·subst hq
    have : ¬ q = r := fun e => h e.symm
    simp [addS, getS, h, this]
   ·simp [addS, getS, h, hq, ih]
theorem addS_len : ∀ (kv : List (Int × Int)) (r c : Int), (addS kv r c).length ≤ kv.length + 1
 | [], r, c => by simp [addS]
 | (a, x) :: t, r, c => by
  by_cases h : r = a
  ·simp [addS, h]
  ·have := addS_len t r c
   simp only [addS, if_neg h, List.length_cons]; omega
def SumB (kv : List (Int × Int)) (M : Int) : Prop := ∀ r, -M ≤ getS kv r ∧ getS kv r ≤ M
theorem SumB.nil : SumB [] 0 := fun r => by simp [getS]
theorem SumB.mono {kv : List (Int × Int)} {M N : Int} (h : SumB kv M) (hm : M ≤ N) : SumB kv N := fun r => by have := h r; omega
theorem SumB.addS {kv : List (Int × Int)} {M N : Int} (h : SumB kv M) {c : Int} (hc : -N ≤ c ∧ c ≤ N) (r : Int) : SumB (addS kv r c) (M + N) := fun q => by
 have := h q
 rw [getS_addS]
 split <;> omega
theorem SumB.addRoot {kv : List (Int × Int)} {M N : Int} (h : SumB kv M) {c r : Int} (hN : 0 ≤ N) (hc : -N ≤ c * ((splitN r.toNat).1 : Int) ∧ c * ((splitN r.toNat).1 : Int) ≤ N) : SumB (addRoot kv c r) (M + N) := by
 unfold Proofs.YtfmnnceacdpbdaaGreatDoor.addRoot
 split
 ·exact h.addS hc _
 ·exact h.mono (by omega)
theorem addRoot_len (kv : List (Int × Int)) (c r : Int) : (addRoot kv c r).length ≤ kv.length + 1 := by
 unfold addRoot
 split
 ·exact addS_len _ _ _
 ·omega
theorem getS_of_mem : ∀ {kv : List (Int × Int)}, (kv.map (·.1)).Nodup → ∀ p ∈ kv, getS kv p.1 = p.2
 | (a, x) :: t, hn, p, hp => by
  simp only [List.map_cons, List.nodup_cons] at hn
  rcases List.mem_cons.1 hp with rfl | hp
  ·simp [getS]
  ·have h1 : p.1 ≠ a := fun e => hn.1 (e ▸ List.mem_map_of_mem hp)
   simp only [getS, if_neg h1]
   exact getS_of_mem hn.2 p hp
theorem IsSum.keys {w : World} {b : Nat} {kv : List (Int × Int)} (h : IsSum w b kv) : (kv.map (·.1)).Nodup := by
 have := IsMap.nodup h
 rwa [encS_keys] at this
theorem over_get (b : Nat) (kv : List (Int × Int)) (den M : Int) (w : World) (h : IsSum w b kv) (hn : kv.length ≤ 1000) (hd : den ≠ 0) (hd1 : -9000000000000000000 ≤ den ∧ den ≤ 9000000000000000000)
  (hM : SumB kv M) (hM1 : M ≤ 9000000000000000000) :
  Calls Tryz.prog 41 #[.map (some b), .int .i64 den] w fun e w' => ∃ (A : Option Addr) (n c : Nat), e = .returned (.tuple #[.agg #[.int .i64 (overS kv den).1, .slice A n c], .int .i64 (overS kv den).2.2]) ∧
   w'.ownsRow w.heap.size 34 2 (.slice A n c) n (cellsT (overS kv den).2.1) ∧ w.grownBy w' (some b) :=
 over_any b kv den w h hn hd hd1 fun p hp => by
  have h1 := getS_of_mem h.keys p hp
  have h2 := hM p.1
  omega
def addAll (kv : List (Int × Int)) (l : List (Int × Int)) (m : Int) : List (Int × Int) := l.foldl (fun kv t => addRoot kv (t.1 * m) t.2) kv
theorem addAll_snoc (kv : List (Int × Int)) (l : List (Int × Int)) (m : Int) (t : Int × Int) : addAll kv (l ++ [t]) m = addRoot (addAll kv l m) (t.1 * m) t.2 := by
 simp [addAll, List.foldl_append]
theorem addAll_len : ∀ (l kv : List (Int × Int)) (m : Int), (addAll kv l m).length ≤ kv.length + l.length
 | [], kv, m => by simp [addAll]
 | t :: l, kv, m => by
  have h1 := addRoot_len kv (t.1 * m) t.2
  have h2 := addAll_len l (addRoot kv (t.1 * m) t.2) m
  simp only [addAll, List.foldl_cons, List.length_cons] at h2 ⊢
  omega
theorem addAll_bd {N m : Int} (hN : 0 ≤ N) : ∀ (l kv : List (Int × Int)) (M : Int), SumB kv M → (∀ t ∈ l, -N ≤ t.1 * m * ((splitN t.2.toNat).1 : Int) ∧ t.1 * m * ((splitN t.2.toNat).1 : Int) ≤ N) → SumB (addAll kv l m) (M + l.length * N)
 | [], kv, M, h, _ => by simpa [addAll] using h
 | t :: l, kv, M, h, hl => by
  have h1 := SumB.addRoot h hN (hl t (by simp))
  have h2 := addAll_bd hN l _ _ h1 (fun t ht => hl t (List.mem_cons_of_mem _ ht))
  simp only [addAll, List.foldl_cons, List.length_cons] at h2 ⊢
  refine h2.mono ?_
  rw [Int.natCast_add, Int.add_mul]
  simp
  omega
def TermB (t : Int × Int) : Prop := 1 ≤ t.2 ∧ t.2 ≤ 1000 ∧ t.1 ≠ 0 ∧ -100000 ≤ t.1 ∧ t.1 ≤ 100000
theorem chkT_terms : ∀ {ts : List (Int × Int)} {last : Int}, 0 ≤ last → chkT last ts = true → ∀ t ∈ ts, TermB t ∧ (splitN t.2.toNat).1 ≤ 1 ∧ last < t.2
 | t0 :: ts, last, hl, h, t, ht => by
  simp only [chkT, Bool.and_eq_true] at h
  obtain ⟨h1, h2⟩ := h
  unfold okT at h1
  simp only [Bool.and_eq_true, decide_eq_true_eq] at h1
  obtain ⟨⟨⟨⟨a1, a2⟩, a3⟩, a4⟩, a5⟩ := h1
  have a6 : -100000 ≤ t0.1 ∧ t0.1 ≤ 100000 := by simpa [inB] using a4
  rcases List.mem_cons.1 ht with rfl | ht
  ·exact ⟨⟨by omega, a2, a3, a6⟩, a5, a1⟩
  ·obtain ⟨b1, b2, b3⟩ := chkT_terms (last := t0.2) (by omega) h2 t ht
   exact ⟨b1, b2, by omega⟩
theorem numOK_parts {den : Int} {ts : List (Int × Int)} (h : numOK den ts = true) : 1 ≤ den ∧ den ≤ 100000 ∧ ts.length ≤ 4 ∧ ∀ t ∈ ts, TermB t ∧ (splitN t.2.toNat).1 ≤ 1 := by
 unfold numOK at h
 simp only [Bool.and_eq_true, decide_eq_true_eq] at h
 obtain ⟨⟨⟨h1, h2⟩, h3⟩, h4⟩ := h
 have h5 : 1 ≤ den ∧ den ≤ 100000 := by simpa [inB] using h1
 exact ⟨h5.1, h5.2, h2, fun t ht => ⟨(chkT_terms (by omega) h3 t ht).1, (chkT_terms (by omega) h3 t ht).2.1⟩⟩
theorem splitN_one_le (n : Nat) (hn : 1 ≤ n) : 1 ≤ (splitN n).1 := by
 have h := splitN_spec n hn
 rcases Nat.eq_zero_or_pos (splitN n).1 with h0 | h0
 ·have h1 := h.1
  rw [h0] at h1
  simp at h1
  omega
 ·exact h0
theorem mul_bd {a b A B : Int} (ha : -A ≤ a ∧ a ≤ A) (hb : -B ≤ b ∧ b ≤ B) : -(A * B) ≤ a * b ∧ a * b ≤ A * B := by
 have h1 : a.natAbs ≤ A.toNat := by omega
 have h2 : b.natAbs ≤ B.toNat := by omega
 have h3 : (a * b).natAbs ≤ A.toNat * B.toNat := by rw [Int.natAbs_mul]; exact Nat.mul_le_mul h1 h2
 have h4 : ((A.toNat * B.toNat : Nat) : Int) = A * B := by
  rw [Int.natCast_mul, Int.toNat_of_nonneg (by omega), Int.toNat_of_nonneg (by omega)]
 omega
def NumPost (w : World) (s : Int × List (Int × Int) × Int) (e : Ending) (w' : World) : Prop :=
 ∃ (A : Option Addr) (n c : Nat), e = .returned (.tuple #[.agg #[.int .i64 s.1, .slice A n c], .int .i64 s.2.2]) ∧ w'.ownsRow w.heap.size 34 2 (.slice A n c) n (cellsT s.2.1) ∧ Below w.heap.size w w'
def plusS (xd : Int) (xt : List (Int × Int)) (yd : Int) (yt : List (Int × Int)) (times : Int) : Int × List (Int × Int) × Int :=
 if (numOK xd xt && numOK yd yt) = true then overS (addAll (addAll [] xt yd) yt (times * xd)) (xd * yd) else (0, [], 2)
end Go.Proofs.YtfmnnceacdpbdaaGreatDoor
