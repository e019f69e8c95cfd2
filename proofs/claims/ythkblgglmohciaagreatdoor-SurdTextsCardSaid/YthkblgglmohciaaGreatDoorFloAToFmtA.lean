import Derived.Test.YthkblgglmohciaaGreatDoorOrdBToSgn
import Derived.Test.YthkblgglmohciaaGreatDoorRFToKVOps
import Derived.Test.YthkblgglmohciaaGreatDoorCom
set_option linter.unusedVariables false
set_option linter.unusedSimpArgs false
namespace Go.Proofs.YthkblgglmohciaaGreatDoor
open Go.RowKit
def FloorRes (xd : Int) (xt : List (Int × Int)) (low c : Int) : Prop := (numOK xd xt = false ∧ low = 0 ∧ c = 2) ∨ (numOK xd xt = true ∧ c = 0 ∧ BelowRes xd xt 1 low)
set_option maxHeartbeats 4000000 in
set_option maxRecDepth 100000 in
theorem floor_flat (xd : Int) (A : Option Addr) (n c : Nat) (xt : List (Int × Int)) (B : Nat) (w : World) (hx : Terms w B A n c xt) (hB : B ≤ w.heap.size) :
  Calls Tryz.prog 26 #[.agg #[.int .i64 xd, .slice A n c]] w fun e w' => ∃ low c, e = .returned (.tuple #[.int .i64 low, .int .i64 c]) ∧ FloorRes xd xt low c ∧ Below w.heap.size w w' := by
 have HV := hide (valid1_flat xd A n c xt B (w.alloc (.cells #[.int .i64 xd, .slice A n c] 24)) (Rd.alloc hx hB _) (by simp; omega))
 have HT0 := hide (Rd.alloc hx hB (.cells #[.int .i64 xd, .slice A n c] 24))
 have HX0 := hide (Blk.new w 24 #[.int .i64 xd, .slice A n c])
 have HB0 := hide ((Below.refl w.heap.size w).alloc (Nat.le_refl _) (.cells #[.int .i64 xd, .slice A n c] 24))
 simp only [World.size_alloc] at HV
 clear hx
 go_enter Tryz.func26, Tryz.ntmps26
 go_wp2_with fail
 refine HV.out.mono ?_
 rintro e w1 ⟨rfl, hb1⟩
 (try simp only [World.size_alloc] at hb1)
 have HX1 := hide (HX0.out.below hb1 (by omega))
 have HT1 := hide (HT0.out.below (hb1.mono (by omega)))
 have HB1 := hide (HB0.out.trans (hb1.mono (by omega)))
 have hz1 := hb1.size
 (try simp only [World.size_alloc] at hz1)
 obtain ⟨q1, q2, q3, q4⟩ := HX1.out.two
 clear HV HX0 HT0 HB0 hb1
 cases hok : numOK xd xt
 ·go_wp2
  go_ret2
  exact ⟨0, 2, rfl, .inl ⟨hok, rfl, rfl⟩, HB1.out⟩
 ·have HOK := hide hok
  clear hok
  obtain ⟨px1, _⟩ := numOK_parts HOK.out
  obtain ⟨xdn, rfl⟩ := Int.eq_ofNat_of_zero_le (show 0 ≤ xd by omega)
  have HBL := hide (below_any xdn A n c xt 1 B w1 HT1.out (by omega) HOK.out (by omega) (by omega))
  go_wp2_with (first
   | (go_at_call 39; refine HBL.out.mono ?_; rintro e w2 ⟨r, rfl, hr, hb⟩
      have HR := hide hr; have HB2 := hide (HB1.out.trans (hb.mono (by omega)))
      clear hr hb))
  go_ret2
  exact ⟨r, 0, rfl, .inr ⟨HOK.out, rfl, HR.out⟩, HB2.out⟩
end Go.Proofs.YthkblgglmohciaaGreatDoor
namespace Go.Proofs.YthkblgglmohciaaGreatDoor
open Go.RowKit
def GivesP {α : Type} (P : Program) (gf : Nat) (lb : Array Value) (encs : α → Array Value) (S Sp : List α → Prop) (R Pw : Nat → Prop) (k : Nat) (w0 : World) : Prop :=
 ∀ (l : Nat) (J Jx : List α → World → Prop) (W : World), Below w0.heap.size w0 W →
  (∀ s A B row, J s A → A.grownBy B row → (∀ b, row = some b → (W.heap.size ≤ b ∧ b < W.heap.size + k) ∨ Pw b) → J s B) →
  (∀ s A B row, Jx s A → A.grownBy B row → (∀ b, row = some b → (W.heap.size ≤ b ∧ b < W.heap.size + k) ∨ Pw b) → Jx s B) →
  (∀ pre x A, Sp (pre ++ [x]) → J pre A → W.heap.size + k ≤ A.heap.size → YieldAt Fence.wide 0 P l (encs x) A fun e A' =>
   (e = .returned (.bool true) ∧ J (pre ++ [x]) A' ∧ KeepB (fun b => R b ∨ (W.heap.size ≤ b ∧ b < W.heap.size + k)) A A') ∨ (e = .returned (.bool false) ∧ Jx (pre ++ [x]) A' ∧ KeepB (fun b => R b ∨ (W.heap.size ≤ b ∧ b < W.heap.size + k)) A A')) →
  J [] W →
  CallsIn Fence.wide 0 P gf (#[.func (.yield l) #[] #[]] ++ lb) W fun e W' => (∃ v, e = .returned v) ∧ ((∃ ys, S ys ∧ J ys W') ∨ (∃ pre, Sp pre ∧ Jx pre W'))
theorem wp_rangeP {α : Type} {P : Program} {g : Operand} {ps : Array Tmp} {assign body : Code} {Q : Exit → Act → World → Prop} {a : Act} {w : World} {gf : Nat} {lb : Array Value} {encs : α → Array Value}
    {S Sp : List α → Prop} {R Pw : Nat → Prop} {k : Nat} {w0 : World} (hg : a.eval g = .func (.func gf) #[] lb) (eg : ∀ args w, (callFunc gf args).run P w = .ok (.enter gf args) w)
    (hseq : GivesP P gf lb encs S Sp R Pw k w0) (hb0 : Below w0.heap.size w0 w) (hR : ∀ b, R b → b < w.heap.size) (hPw : ∀ b, Pw b → b < w.heap.size) (hps : ∀ x, (encs x).size = ps.size)
    (I : List α → World → Prop) (Ix : Code → List α → World → Prop)
    (hI : ∀ s A B row, I s A → A.grownBy B row → (∀ b, row = some b → (w.heap.size ≤ b ∧ b < w.heap.size + 2 + k) ∨ Pw b) → I s B)
    (hIx : ∀ c s A B row, Ix c s A → A.grownBy B row → (∀ b, row = some b → (w.heap.size ≤ b ∧ b < w.heap.size + 2 + k) ∨ Pw b) → Ix c s B) (h0 : I [] w)
    (hround : ∀ (pre : List α) (x : α) (W : World), Sp (pre ++ [x]) → I pre W → w.heap.size + 2 + k ≤ W.heap.size →
      assign.wpIn (Fence.wide.inRound (w.heap.size + 1)) 0 P (Exit.then (fun a₁ W₁ => KeepB (fun b => R b ∨ (w.heap.size ≤ b ∧ b < w.heap.size + 2 + k)) W W₁ ∧
          ∀ W₂, W₁.grownBy W₂ (some (w.heap.size + 1)) → W₂.heap.size = W₁.heap.size → body.wpIn (Fence.wide.inRound (w.heap.size + 1)) 0 P (roundEnd R w.heap.size k I Ix (pre ++ [x]) W₂) a₁ W₂) (fun _ _ _ => False))
        { tmps := (ps.zip (encs x)).foldl (fun t (p, v) => t.setIfInBounds p v) a.tmps, defers := [] } W)
    (hdone : ∀ (xs : List α) (W : World), S xs → I xs W → W.heap[w.heap.size]? = some (.deferred (some [])) → Q .normal { a with defers := { target := .collected w.heap.size, args := #[] } :: a.defers } W)
    (hstop : ∀ (c : Code) (pre : List α) (W : World), Sp pre → Ix c pre W → W.heap[w.heap.size]? = some (.deferred (some [])) → c.wpIn Fence.wide 0 P Q { a with defers := { target := .collected w.heap.size, args := #[] } :: a.defers } W) :
    (Code.rangeFunc g ps assign body).wpIn Fence.wide 0 P Q a w := by
  refine wpIn_rangeFunc ?_
  intro fn hfn
  obtain ⟨rec, hrec⟩ : ∃ rec : LoopState → Option Code → Loop, rec = fun st pe => { state := st, pending := pe, fn, tmps := a.tmps, params := ps, assign, body, defers := w.heap.size } := ⟨_, rfl⟩
  obtain ⟨W1, hW1⟩ : ∃ W1, (w.alloc (.deferred (some []))).alloc (.loop (rec .ready none)) = W1 := ⟨_, rfl⟩
  have hL1 : W1.heap[w.heap.size + 1]? = some (.loop (rec .ready none)) := by
    rw [← hW1]; have := World.alloc_heap_new (w.alloc (.deferred (some []))) (.loop (rec .ready none)); rwa [World.size_alloc] at this
  have hK1 : W1.heap[w.heap.size]? = some (.deferred (some [])) := by
    rw [← hW1]; exact (Below.heap_alloc _ _ _ (by simp)).trans (World.alloc_heap_new w _)
  have hz1 : W1.heap.size = w.heap.size + 2 := by rw [← hW1]; simp
  have hI1 : I [] W1 := by
    rw [← hW1]
    exact hI _ _ _ none (hI _ _ _ none h0 (World.grownBy_alloc _ _ _) (by simp)) (World.grownBy_alloc _ _ _) (by simp)
  have hb1 : Below w0.heap.size w0 W1 := by
    rw [← hW1]; exact hb0.trans ((((Below.refl _ w).alloc (Nat.le_refl _) _).alloc (by simp) _).mono hb0.size)
  refine ⟨w.heap.size + 1, [{ target := .collected w.heap.size, args := #[] }], W1, { target := .fn (.func gf) lb, args := #[.func (.yield (w.heap.size + 1)) #[] #[]] }, W1, gf,
    #[.func (.yield (w.heap.size + 1)) #[] #[]] ++ lb, W1, ?_, ?_, ?_, ?_, fun h => by simp [Fence.wide] at h, ?_⟩
  · rw [← hW1, hrec]; exact run_enterLoop_outer _ _ _ _ _
  · simp only [resolve, hg]
    simp [go_sem]
  · intro f' hf'; trivial
  · simp [invoke, go_sem, eg]
  · refine CallsIn.mono (hseq (w.heap.size + 1)
      (fun pre W => I pre W ∧ W.heap[w.heap.size + 1]? = some (.loop (rec .ready none)) ∧ W.heap[w.heap.size]? = some (.deferred (some [])))
      (fun pre W => ∃ c, Ix c pre W ∧ W.heap[w.heap.size + 1]? = some (.loop (rec .done (some c))) ∧ W.heap[w.heap.size]? = some (.deferred (some [])))
      W1 hb1 ?_ ?_ ?_ ⟨hI1, hL1, hK1⟩) ?_
    · rintro s A B row ⟨h1, h2, h3⟩ hg' hr
      rw [hz1] at hr
      have l2 := lt_of_block h2
      refine ⟨hI s A B row h1 hg' (fun b e => (hr b e).imp (fun h => by omega) id), (hg'.block _ l2 (fun e => ?_)).trans h2, (hg'.block _ (by omega) (fun e => ?_)).trans h3⟩
      · rcases hr _ e.symm with h | h; omega; have := hPw _ h; omega
      · rcases hr _ e.symm with h | h; omega; have := hPw _ h; omega
    · rintro s A B row ⟨c, h1, h2, h3⟩ hg' hr
      rw [hz1] at hr
      have l2 := lt_of_block h2
      refine ⟨c, hIx c s A B row h1 hg' (fun b e => (hr b e).imp (fun h => by omega) id), (hg'.block _ l2 (fun e => ?_)).trans h2, (hg'.block _ (by omega) (fun e => ?_)).trans h3⟩
      · rcases hr _ e.symm with h | h; omega; have := hPw _ h; omega
      · rcases hr _ e.symm with h | h; omega; have := hPw _ h; omega
    · rintro pre x W hsp ⟨hi, hl, hk⟩ hsz
      rw [hz1] at hsz
      have hlt : w.heap.size + 1 < W.heap.size := lt_of_block hl
      have hy := run_yield (P := P) (args := encs x) hl (by rw [hrec]; exact hps x)
      rw [hrec] at hy
      refine ⟨fn, _, assign, body, hy, roundIn_of_wpIn hfn (wpIn_mono (hround pre x W hsp hi hsz) ?_)⟩
      intro e a1 W₁ he
      cases e with
      | normal =>
        obtain ⟨hkb, hbody⟩ := he
        have hl1 : W₁.heap[w.heap.size + 1]? = some (.loop (rec .ready none)) := (hkb.same _ (.inr (by omega))).trans hl
        have hk1 : W₁.heap[w.heap.size]? = some (.deferred (some [])) := (hkb.same _ (.inr (by omega))).trans hk
        have hlt1 := lt_of_block hl1
        refine ⟨_, run_beginRound hl1 (by rw [hrec]), ?_⟩
        have hl2 : (W₁.putObj (w.heap.size + 1) (.loop { rec .ready none with state := .busy })).heap[w.heap.size + 1]? = some (.loop { rec .ready none with state := .busy }) := World.putObj_heap_same hlt1
        have hk2 : (W₁.putObj (w.heap.size + 1) (.loop { rec .ready none with state := .busy })).heap[w.heap.size]? = some (.deferred (some [])) := (World.putObj_heap_other (by omega)).trans hk1
        refine wpIn_mono (hbody _ (grown_put _ _) (by simp)) ?_
        have fin : ∀ (jump : Option Code) (W3 : World), KeepB (fun b => b = w.heap.size ∨ b = w.heap.size + 1) (W₁.putObj (w.heap.size + 1) (.loop { rec .ready none with state := .busy })) W3 →
            (Instr.endRound (w.heap.size + 1) jump).run P W3 = .ok (.bool jump.isNone) (W3.putObj (w.heap.size + 1) (.loop (rec (if jump.isNone then .ready else .done) jump))) ∧
            (W3.putObj (w.heap.size + 1) (.loop (rec (if jump.isNone then .ready else .done) jump))).heap[w.heap.size + 1]? = some (.loop (rec (if jump.isNone then .ready else .done) jump)) ∧
            (W3.putObj (w.heap.size + 1) (.loop (rec (if jump.isNone then .ready else .done) jump))).heap[w.heap.size]? = some (.deferred (some [])) := fun jump W3 hk3 => by
          have hl3 := (hk3.same _ (.inr rfl)).trans hl2
          have hd3 := (hk3.same _ (.inl rfl)).trans hk2
          have hre := run_endRound (P := P) jump hl3
          rw [hrec] at hre ⊢
          exact ⟨hre, World.putObj_heap_same (lt_of_block hl3), (World.putObj_heap_other (by omega)).trans hd3⟩
        have keep : ∀ (W3 : World) (o : Obj), KeepB (fun b => R b ∨ (w.heap.size ≤ b ∧ b < w.heap.size + 2 + k)) (W₁.putObj (w.heap.size + 1) (.loop { rec .ready none with state := .busy })) W3 →
            KeepB (fun b => R b ∨ (W1.heap.size ≤ b ∧ b < W1.heap.size + k)) W (W3.putObj (w.heap.size + 1) o) := fun W3 o hk3 => by
          rw [hz1]
          have t1 : KeepB (fun b => R b ∨ (w.heap.size + 2 ≤ b ∧ b < w.heap.size + 2 + k)) W W₁ := hkb.mono (by rintro b (h | h); exact .inl h; right; omega)
          have t2 : KeepB (fun b => R b ∨ (w.heap.size + 2 ≤ b ∧ b < w.heap.size + 2 + k)) W₁ (W₁.putObj (w.heap.size + 1) (.loop { rec .ready none with state := .busy })) :=
            ⟨by simp, fun b hb => World.putObj_heap_other (by rintro rfl; rcases hb with hb | hb; · have := hR _ hb; omega
                                                              · omega)⟩
          have t3 := hk3.mono (R' := fun b => R b ∨ (w.heap.size + 2 ≤ b ∧ b < w.heap.size + 2 + k)) (by rintro b (h | h); exact .inl h; right; omega)
          have t4 : KeepB (fun b => R b ∨ (w.heap.size + 2 ≤ b ∧ b < w.heap.size + 2 + k)) W3 (W3.putObj (w.heap.size + 1) o) :=
            ⟨by simp, fun b hb => World.putObj_heap_other (by rintro rfl; rcases hb with hb | hb; · have := hR _ hb; omega
                                                              · omega)⟩
          exact ((t1.trans t2).trans t3).trans t4
        rintro e a3 W3 hp
        cases e with
        | normal =>
          obtain ⟨hk3, hi3⟩ := hp
          obtain ⟨hr, hl4, hk4⟩ := fin none W3 (hk3.mono (by rintro b (rfl | rfl) <;> right <;> omega))
          exact ⟨_, _, hr, .inl ⟨rfl, ⟨hI _ _ _ _ hi3 (grown_put _ _) (fun b e => by cases e; left; omega), hl4, hk4⟩, keep _ _ hk3⟩⟩
        | ret =>
          obtain ⟨hk3, hi3⟩ := hp
          obtain ⟨hr, hl4, hk4⟩ := fin (some .ret) W3 (hk3.mono (by rintro b (rfl | rfl) <;> right <;> omega))
          exact ⟨_, _, hr, .inr ⟨rfl, ⟨.ret, hIx _ _ _ _ _ hi3 (grown_put _ _) (fun b e => by cases e; left; omega), hl4, hk4⟩, keep _ _ hk3⟩⟩
        | exit id =>
          obtain ⟨hk3, hi3⟩ := hp
          obtain ⟨hr, hl4, hk4⟩ := fin (some (.exit id)) W3 (hk3.mono (by rintro b (rfl | rfl) <;> right <;> omega))
          exact ⟨_, _, hr, .inr ⟨rfl, ⟨.exit id, hIx _ _ _ _ _ hi3 (grown_put _ _) (fun b e => by cases e; left; omega), hl4, hk4⟩, keep _ _ hk3⟩⟩
        | goto t =>
          obtain ⟨hk3, hi3⟩ := hp
          obtain ⟨hr, hl4, hk4⟩ := fin (some (.goto t)) W3 (hk3.mono (by rintro b (rfl | rfl) <;> right <;> omega))
          exact ⟨_, _, hr, .inr ⟨rfl, ⟨.goto t, hIx _ _ _ _ _ hi3 (grown_put _ _) (fun b e => by cases e; left; omega), hl4, hk4⟩, keep _ _ hk3⟩⟩
        | panic ch => exact hp.elim
        | outgrown => exact hp.elim
      | ret => exact he.elim
      | exit id => exact he.elim
      | goto t => exact he.elim
      | panic ch => exact he.elim
      | outgrown => exact he.elim
    · rintro e W2 ⟨⟨v, rfl⟩, (⟨xs, hS, hi, hl, hk⟩ | ⟨pre, hSp, c, hi, hl, hk⟩)⟩
      · refine ⟨none, _, by have := run_endLoop (P := P) hl (by rw [hrec]; simp); rw [hrec] at this; exact this, ?_⟩
        exact hdone xs _ hS (hI _ _ _ _ hi (grown_put _ _) (fun b e => by cases e; left; omega)) ((World.putObj_heap_other (by omega)).trans hk)
      · refine ⟨some c, _, by have := run_endLoop (P := P) hl (by rw [hrec]; simp); rw [hrec] at this; exact this, ?_⟩
        exact hstop c pre _ hSp (hIx _ _ _ _ _ hi (grown_put _ _) (fun b e => by cases e; left; omega)) ((World.putObj_heap_other (by omega)).trans hk)
end Go.Proofs.YthkblgglmohciaaGreatDoor
namespace Go.Proofs.YthkblgglmohciaaGreatDoor
open Go.RowKit
def coefT (c : Int) : List UInt8 := if c = 1 then [] else if c = -1 then [45] else Lib.itoa c
def termT (t : Int × Int) : List UInt8 := if t.2 = 1 then Lib.itoa t.1 else coefT t.1 ++ [114] ++ Lib.itoa t.2
def sumT : Bool → List (Int × Int) → List UInt8
 | _, [] => []
 | b, t :: ts => (if b = false ∧ 0 < t.1 then [43] else []) ++ termT t ++ sumT false ts
def numT (xd : Int) (xt : List (Int × Int)) : List UInt8 :=
 if xt = [] then [48] else if xd = 1 then sumT true xt else if 1 < xt.length then [40] ++ sumT true xt ++ [41, 47] ++ Lib.itoa xd else sumT true xt ++ [47] ++ Lib.itoa xd
theorem sumT_snoc : ∀ (ts : List (Int × Int)) (b : Bool) (t : Int × Int), sumT b (ts ++ [t]) = sumT b ts ++ ((if (b && ts.isEmpty) = false ∧ 0 < t.1 then [43] else []) ++ termT t)
 | [], b, t => by simp [sumT]
 | u :: ts, b, t => by
  rw [List.cons_append]
  unfold sumT
  rw [sumT_snoc ts false t]
  simp [List.append_assoc]
theorem itoa_pos_len (n : Int) : 0 < (Lib.itoa n).length := by
 rcases Int.lt_or_le n 0 with h | h
 ·unfold Lib.itoa
  simp [h]
 ·obtain ⟨m, rfl⟩ := Int.eq_ofNat_of_zero_le h
  rw [Lib.itoa_nonneg]
  unfold Lib.decDigits
  split <;> simp
theorem termT_ne (t : Int × Int) : termT t ≠ [] := by
 unfold termT
 split
 ·intro h
  have := itoa_pos_len t.1
  rw [h] at this; simp at this
 ·simp
theorem sumT_ne {ts : List (Int × Int)} (h : ts ≠ []) (b : Bool) : sumT b ts ≠ [] := by
 cases ts with
 | nil => exact absurd rfl h
 | cons t ts =>
  unfold sumT
  have := termT_ne t
  simp [this]
theorem trim_one : Lib.trimSuffix (Lib.itoa 1) [49] = [] := by decide +kernel
theorem trim_minus : Lib.trimSuffix (Lib.itoa (-1)) [49] = [45] := by decide +kernel
theorem itoa_len_any {n : Int} (h : -9000000000000000000 ≤ n ∧ n ≤ 9000000000000000000) : (Lib.itoa n).length ≤ 20 := by
 rcases Int.lt_or_le n 0 with h0 | h0
 ·unfold Lib.itoa
  simp only [h0, if_true, List.length_cons]
  have := dec_len 18 n.natAbs (by omega)
  omega
 ·obtain ⟨m, rfl⟩ := Int.eq_ofNat_of_zero_le h0
  rw [Lib.itoa_nonneg]
  have := dec_len 18 m (by omega)
  omega
set_option maxHeartbeats 2000000 in
set_option maxRecDepth 100000 in
theorem written_any (c r : Int) (w : World) (hc : -9000000000000000000 ≤ c ∧ c ≤ 9000000000000000000) (hr : -9000000000000000000 ≤ r ∧ r ≤ 9000000000000000000) (htab : Lib.TabIs Tryz.prog w "internal/strconv.uint64pow10" .u64 Lib.pow10Tab) :
  Calls Tryz.prog 83 #[.agg #[.int .i64 c, .int .i64 r]] w fun e w' => e = .returned (.string ⟨(termT (c, r)).toArray⟩) ∧ Below w.heap.size w w' := by
 obtain ⟨gv, hgv⟩ := Option.isSome_iff_exists.1 Tryz.pow10g
 have HX0 := hide (Blk.new w 52 #[.int .i64 c, .int .i64 r])
 have hb0 : Below w.heap.size w (w.alloc (.cells #[.int .i64 c, .int .i64 r] 52)) := (Below.refl _ _).alloc (Nat.le_refl _) _
 have HT := hide (fun W (hb : Below w.heap.size w W) => TabIs_below_ hgv htab hb)
 have HB0 := hide hb0
 have HI0 := hide (itoa_any c (w.alloc (.cells #[.int .i64 c, .int .i64 r] 52)) hc (HT.out _ hb0))
 have HR := hide (fun W (hb : Below w.heap.size w W) => itoa_any r W hr (HT.out W hb))
 have hlr := itoa_len_any hr
 have hlc := itoa_len_any hc
 clear hb0 htab hgv hc hr
 go_enter Tryz.func83, Tryz.ntmps83
 go_upto_region 2 with (first
  | (go_at_call 85; refine HI0.out.mono ?_; rintro e w1 ⟨rfl, hb⟩
     have HX1 := hide (HX0.out.below hb (by simp))
     have HB1 := hide (HB0.out.trans (hb.mono (by simp)))
     clear hb))
 obtain ⟨x0, x1, _, _⟩ := HX1.out.two
 by_cases hr1 : r = 1
 ·subst hr1
  go_wp2
  go_ret
  exact ⟨by simp [termT], HB1.out⟩
 by_cases hc1 : c = 1
 ·subst hc1
  have hts := Tryz.strings_TrimSuffix ⟨(Lib.itoa 1).toArray⟩ ⟨#[49]⟩ w1 (by decide +kernel)
  simp only [List.toList_toArray, trim_one] at hts
  have HTS := hide hts
  clear hts
  go_wp2_with (first
   | (go_at_call 118; refine HTS.out.mono ?_; rintro e w2 ⟨rfl, rfl⟩)
   | (go_at_call 85; refine (HR.out _ HB1.out).mono ?_; rintro e w3 ⟨rfl, hb⟩
      have HB3 := hide (HB1.out.trans (hb.mono HB1.out.size))
      clear hb))
  go_ret
  refine ⟨?_, HB3.out⟩
  have e : (⟨([] : List UInt8).toArray⟩ : ByteArray) ++ ⟨[114].toArray⟩ ++ ⟨(Lib.itoa r).toArray⟩ = ⟨(termT (1, r)).toArray⟩ := by rw [str_append, str_append]; simp [termT, coefT, hr1]
  exact congrArg (fun b => Ending.returned (.string b)) e
 by_cases hc2 : c = -1
 ·subst hc2
  have hts := Tryz.strings_TrimSuffix ⟨(Lib.itoa (-1)).toArray⟩ ⟨#[49]⟩ w1 (by decide +kernel)
  simp only [List.toList_toArray, trim_minus] at hts
  have HTS := hide hts
  clear hts
  go_wp2_with (first
   | (go_at_call 118; refine HTS.out.mono ?_; rintro e w2 ⟨rfl, rfl⟩)
   | (go_at_call 85; refine (HR.out _ HB1.out).mono ?_; rintro e w3 ⟨rfl, hb⟩
      have HB3 := hide (HB1.out.trans (hb.mono HB1.out.size))
      clear hb))
  go_ret
  refine ⟨?_, HB3.out⟩
  have e : (⟨[45].toArray⟩ : ByteArray) ++ ⟨[114].toArray⟩ ++ ⟨(Lib.itoa r).toArray⟩ = ⟨(termT (-1, r)).toArray⟩ := by rw [str_append, str_append]; simp [termT, coefT, hr1]
  exact congrArg (fun b => Ending.returned (.string b)) e
 have hb1 : (c == 1) = false := by simp [hc1]
 have hb2 : (c == -1) = false := by simp [hc2]
 go_wp2_with (first
  | (go_at_call 85; refine (HR.out _ HB1.out).mono ?_; rintro e w3 ⟨rfl, hb⟩
     have HB3 := hide (HB1.out.trans (hb.mono HB1.out.size))
     clear hb))
 go_ret
 refine ⟨?_, HB3.out⟩
 have e : (⟨(Lib.itoa c).toArray⟩ : ByteArray) ++ ⟨[114].toArray⟩ ++ ⟨(Lib.itoa r).toArray⟩ = ⟨(termT (c, r)).toArray⟩ := by rw [str_append, str_append]; simp [termT, coefT, hr1, hc1, hc2]
 exact congrArg (fun b => Ending.returned (.string b)) e
end Go.Proofs.YthkblgglmohciaaGreatDoor
