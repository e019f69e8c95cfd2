import Derived.Test.YthkblgglmohciaaGreatDoorSignMToSignB
import Derived.Test.YthkblgglmohciaaGreatDoorLinAToLinD
import Derived.Test.YthkblgglmohciaaGreatDoorSignDToOrdA
import Derived.Test.YthkblgglmohciaaGreatDoorProdAToProdM
set_option linter.unusedVariables false
set_option linter.unusedSimpArgs false
namespace Go.Proofs.YthkblgglmohciaaGreatDoor
theorem bits_ge (k : Nat) : k ≤ bits k := by
 induction k with
 | zero => omega
 | succ k ih => rw [bits_succ]; have := bits_pos k; omega
theorem bits_le {j k : Nat} (h : j ≤ k) : bits j ≤ bits k := by
 obtain ⟨i, rfl⟩ := Nat.le.dest h
 rw [bits_add]
 exact Nat.le_mul_of_pos_right _ (bits_pos i)
theorem bits_big (C : Int) : ∃ k0 : Nat, ∀ k, k0 ≤ k → C ≤ (bits k : Int) := ⟨C.toNat, fun k hk => by
 have := bits_ge C.toNat; have := bits_le hk; omega⟩
theorem bitsI_pos (k : Nat) : 0 < (bits k : Int) := by have := bits_pos k; omega
def Bdd (f : Nat → Int) : Prop := ∃ C : Int, ∀ k, -C ≤ f k ∧ f k ≤ C
def Near (f g : Nat → Int) : Prop := Bdd fun k => f k - g k
def Grows (f : Nat → Int) : Prop := ∃ (D : Int) (k0 : Nat), 0 < D ∧ ∀ k, k0 ≤ k → (bits k : Int) ≤ D * f k
theorem Bdd.nonneg {f : Nat → Int} (h : Bdd f) : ∃ C : Int, 0 ≤ C ∧ ∀ k, -C ≤ f k ∧ f k ≤ C := by
 obtain ⟨C, h⟩ := h
 exact ⟨C, by have := h 0; omega, h⟩
theorem mul_abs {a b A B : Int} (ha : -A ≤ a ∧ a ≤ A) (hb : -B ≤ b ∧ b ≤ B) : -(A * B) ≤ a * b ∧ a * b ≤ A * B := by
 have hA : 0 ≤ A := by omega
 have hB : 0 ≤ B := by omega
 rcases Int.le_total 0 a with h | h <;> rcases Int.le_total 0 b with h' | h'
 ·have := Int.mul_le_mul ha.2 hb.2 h' hA
  have := Int.mul_nonneg h h'
  omega
 ·have h1 := Int.mul_le_mul ha.2 (show -b ≤ B by omega) (by omega) hA
  have h2 := Int.mul_nonneg h (show 0 ≤ -b by omega)
  rw [Int.mul_neg] at h1 h2
  omega
 ·have h1 := Int.mul_le_mul (show -a ≤ A by omega) hb.2 h' hA
  have h2 := Int.mul_nonneg (show 0 ≤ -a by omega) h'
  rw [Int.neg_mul] at h1 h2
  omega
 ·have h1 := Int.mul_le_mul (show -a ≤ A by omega) (show -b ≤ B by omega) (by omega) hA
  have h2 := Int.mul_nonneg (show 0 ≤ -a by omega) (show 0 ≤ -b by omega)
  rw [Int.neg_mul_neg] at h1 h2
  omega
theorem Bdd.zero : Bdd fun _ => 0 := ⟨0, fun _ => by dsimp only; omega⟩
theorem Bdd.add {f g : Nat → Int} (hf : Bdd f) (hg : Bdd g) : Bdd fun k => f k + g k := by
 obtain ⟨C, hf⟩ := hf; obtain ⟨D, hg⟩ := hg
 exact ⟨C + D, fun k => by have := hf k; have := hg k; dsimp only; omega⟩
theorem Bdd.neg {f : Nat → Int} (hf : Bdd f) : Bdd fun k => -f k := by
 obtain ⟨C, hf⟩ := hf
 exact ⟨C, fun k => by have := hf k; dsimp only; omega⟩
theorem Bdd.smul {f : Nat → Int} (c : Int) (hf : Bdd f) : Bdd fun k => c * f k := by
 obtain ⟨C, hf⟩ := hf
 exact ⟨(c.natAbs : Int) * C, fun k => mul_abs (A := (c.natAbs : Int)) (by omega) (hf k)⟩
theorem Bdd.congr {f g : Nat → Int} (h : ∀ k, f k = g k) (hf : Bdd f) : Bdd g := by
 obtain ⟨C, hf⟩ := hf
 exact ⟨C, fun k => by have := hf k; rwa [h k] at this⟩
theorem Near.refl (f : Nat → Int) : Near f f := Bdd.zero.congr fun k => by (try dsimp only); omega
theorem Near.of_eq {f g : Nat → Int} (h : ∀ k, f k = g k) : Near f g := Bdd.zero.congr fun k => by (try dsimp only); rw [h k]; omega
theorem Near.symm {f g : Nat → Int} (h : Near f g) : Near g f := h.neg.congr fun k => by (try dsimp only); omega
theorem Near.trans {f g h : Nat → Int} (h1 : Near f g) (h2 : Near g h) : Near f h := (Bdd.add h1 h2).congr fun k => by (try dsimp only); omega
theorem Near.add {f g f' g' : Nat → Int} (h1 : Near f f') (h2 : Near g g') : Near (fun k => f k + g k) (fun k => f' k + g' k) := (Bdd.add h1 h2).congr fun k => by (try dsimp only); omega
theorem Near.sub {f g f' g' : Nat → Int} (h1 : Near f f') (h2 : Near g g') : Near (fun k => f k - g k) (fun k => f' k - g' k) := (Bdd.add h1 (Bdd.neg h2)).congr fun k => by (try dsimp only); omega
theorem Near.smul {f f' : Nat → Int} (c : Int) (h1 : Near f f') : Near (fun k => c * f k) (fun k => c * f' k) := (Bdd.smul c h1).congr fun k => by rw [Int.mul_sub]
theorem Near.neg {f f' : Nat → Int} (h1 : Near f f') : Near (fun k => -f k) (fun k => -f' k) := (Bdd.neg h1).congr fun k => by (try dsimp only); omega
theorem Grows.pos {f : Nat → Int} {D : Int} {k : Nat} (hD : 0 < D) (h : (bits k : Int) ≤ D * f k) : 0 < f k := by
 have := bitsI_pos k
 rcases Int.lt_or_le 0 (f k) with h1 | h1
 ·exact h1
 ·have := Int.mul_nonneg (Int.le_of_lt hD) (show 0 ≤ -f k by omega)
  rw [Int.mul_neg] at this
  omega
theorem Grows.congr {f g : Nat → Int} (h : ∀ k, f k = g k) (hf : Grows f) : Grows g := by
 obtain ⟨D, k0, hD, hf⟩ := hf
 exact ⟨D, k0, hD, fun k hk => by rw [← h k]; exact hf k hk⟩
theorem Grows.add {f g : Nat → Int} (hf : Grows f) (hg : Grows g) : Grows fun k => f k + g k := by
 obtain ⟨D, k0, hD, hf⟩ := hf; obtain ⟨E, j0, hE, hg⟩ := hg
 refine ⟨D, k0 + j0, hD, fun k hk => ?_⟩
 have h1 := hf k (by omega); have h2 := Grows.pos hE (hg k (by omega))
 have := Int.mul_nonneg (Int.le_of_lt hD) (Int.le_of_lt h2)
 rw [Int.mul_add]; omega
theorem Grows.near {f g : Nat → Int} (hf : Grows f) (h : Near f g) : Grows g := by
 obtain ⟨D, k0, hD, hf⟩ := hf
 obtain ⟨C, hC0, hC⟩ := h.nonneg
 obtain ⟨j0, hj⟩ := bits_big (2 * (D * C))
 refine ⟨2 * D, k0 + j0, by omega, fun k hk => ?_⟩
 have h1 := hf k (by omega); have h2 := hj k (by omega)
 have h3 := Int.mul_le_mul_of_nonneg_left (show f k ≤ g k + C by have := (hC k).2; omega) (Int.le_of_lt hD)
 rw [Int.mul_add] at h3
 rw [Int.mul_assoc]
 omega
theorem Grows.smul {f : Nat → Int} {c : Int} (hc : 0 < c) (hf : Grows f) : Grows fun k => c * f k := by
 obtain ⟨D, k0, hD, hf⟩ := hf
 refine ⟨D, k0, hD, fun k hk => ?_⟩
 have h1 := hf k hk
 have h2 := Grows.pos hD h1
 have h3 := Int.mul_le_mul_of_nonneg_left (Int.mul_le_mul_of_nonneg_right (show 1 ≤ c by omega) (Int.le_of_lt h2)) (Int.le_of_lt hD)
 rw [Int.one_mul] at h3
 dsimp only
 omega
theorem Grows.unsmul {f : Nat → Int} {c : Int} (hc : 0 < c) (hf : Grows fun k => c * f k) : Grows f := by
 obtain ⟨D, k0, hD, hf⟩ := hf
 refine ⟨D * c, k0, Int.mul_pos hD hc, fun k hk => ?_⟩
 rw [Int.mul_assoc]
 exact hf k hk
theorem Grows.not_bdd {f : Nat → Int} (hf : Grows f) (h : Bdd f) : False := by
 have h0 : Grows fun _ => (0 : Int) := hf.near (Bdd.congr (fun k => by (try dsimp only); omega) h)
 obtain ⟨D, k0, hD, h0⟩ := h0
 have := h0 k0 (Nat.le_refl _)
 have := bitsI_pos k0
 rw [Int.mul_zero] at *
 omega
theorem Grows.not_neg {f : Nat → Int} (hf : Grows f) (h : Grows fun k => -f k) : False :=
 (hf.add h).not_bdd (Bdd.zero.congr fun k => by (try dsimp only); omega)
def Sg (f : Nat → Int) (s : Int) : Prop := (s = 1 ∧ Grows f) ∨ (s = -1 ∧ Grows fun k => -f k) ∨ (s = 0 ∧ Bdd f)
theorem Sg.unique {f : Nat → Int} {s s' : Int} (h : Sg f s) (h' : Sg f s') : s = s' := by
 rcases h with ⟨rfl, h⟩ | ⟨rfl, h⟩ | ⟨rfl, h⟩ <;> rcases h' with ⟨rfl, h'⟩ | ⟨rfl, h'⟩ | ⟨rfl, h'⟩
 ·rfl
 ·exact (h.not_neg h').elim
 ·exact (h.not_bdd h').elim
 ·exact (h'.not_neg h).elim
 ·rfl
 ·exact (h.not_bdd h'.neg).elim
 ·exact (h'.not_bdd h).elim
 ·exact (h'.not_bdd h.neg).elim
 ·rfl
theorem Sg.near {f g : Nat → Int} {s : Int} (h : Sg f s) (hn : Near f g) : Sg g s := by
 rcases h with ⟨rfl, h⟩ | ⟨rfl, h⟩ | ⟨rfl, h⟩
 ·exact .inl ⟨rfl, h.near hn⟩
 ·exact .inr (.inl ⟨rfl, h.near hn.neg⟩)
 ·exact .inr (.inr ⟨rfl, (Bdd.add h hn.symm).congr fun k => by (try dsimp only); omega⟩)
theorem Sg.neg {f : Nat → Int} {s : Int} (h : Sg f s) : Sg (fun k => -f k) (-s) := by
 rcases h with ⟨rfl, h⟩ | ⟨rfl, h⟩ | ⟨rfl, h⟩
 ·exact .inr (.inl ⟨rfl, h.congr fun k => by (try dsimp only); omega⟩)
 ·exact .inl ⟨rfl, h⟩
 ·exact .inr (.inr ⟨rfl, h.neg⟩)
theorem Sg.smul {f : Nat → Int} {s c : Int} (hc : 0 < c) (h : Sg f s) : Sg (fun k => c * f k) s := by
 rcases h with ⟨rfl, h⟩ | ⟨rfl, h⟩ | ⟨rfl, h⟩
 ·exact .inl ⟨rfl, h.smul hc⟩
 ·exact .inr (.inl ⟨rfl, (h.smul hc).congr fun k => by rw [Int.mul_neg]⟩)
 ·exact .inr (.inr ⟨rfl, h.smul c⟩)
theorem Sg.unsmul {f : Nat → Int} {s c : Int} (hc : 0 < c) (h : Sg (fun k => c * f k) s) : Sg f s := by
 rcases h with ⟨rfl, h⟩ | ⟨rfl, h⟩ | ⟨rfl, h⟩
 ·exact .inl ⟨rfl, h.unsmul hc⟩
 ·exact .inr (.inl ⟨rfl, Grows.unsmul hc (h.congr fun k => by rw [Int.mul_neg])⟩)
 ·refine .inr (.inr ⟨rfl, ?_⟩)
  obtain ⟨C, hC0, hC⟩ := h.nonneg
  refine ⟨C, fun k => ?_⟩
  have h1 := hC k
  have h2 : ∀ x : Int, 0 ≤ x → x ≤ c * x := fun x hx => by
   have := Int.mul_le_mul_of_nonneg_right (show 1 ≤ c by omega) hx
   omega
  rcases Int.le_total 0 (f k) with h3 | h3
  ·have := h2 _ h3; omega
  ·have := h2 (-f k) (by omega); rw [Int.mul_neg] at this; omega
theorem Sg.add {f g : Nat → Int} {s t : Int} (hf : Sg f s) (hg : Sg g t) (h : 0 ≤ s) (h' : 0 ≤ t) : Sg (fun k => f k + g k) (max s t) := by
 rcases hf with ⟨rfl, hf⟩ | ⟨rfl, hf⟩ | ⟨rfl, hf⟩
 ·rcases hg with ⟨rfl, hg⟩ | ⟨rfl, hg⟩ | ⟨rfl, hg⟩
  ·exact .inl ⟨rfl, hf.add hg⟩
  ·omega
  ·exact .inl ⟨rfl, hf.near (Bdd.congr (fun k => by (try dsimp only); omega) hg.neg)⟩
 ·omega
 ·rcases hg with ⟨rfl, hg⟩ | ⟨rfl, hg⟩ | ⟨rfl, hg⟩
  ·exact .inl ⟨rfl, hg.near (Bdd.congr (fun k => by (try dsimp only); omega) hf.neg)⟩
  ·omega
  ·exact .inr (.inr ⟨rfl, hf.add hg⟩)
def OB (f : Nat → Int) : Prop := ∃ C : Int, ∀ k, -(C * bits k) ≤ f k ∧ f k ≤ C * bits k
def MulN (f g h : Nat → Int) : Prop := ∃ C : Int, ∀ k, -(C * bits k) ≤ f k * g k - bits k * h k ∧ f k * g k - bits k * h k ≤ C * bits k
theorem OB.of_bdd {f : Nat → Int} (h : Bdd f) : OB f := by
 obtain ⟨C, hC0, h⟩ := h.nonneg
 refine ⟨C, fun k => ?_⟩
 have := h k
 have := Int.mul_le_mul_of_nonneg_left (show 1 ≤ (bits k : Int) by have := bitsI_pos k; omega) hC0
 omega
theorem OB.add {f g : Nat → Int} (hf : OB f) (hg : OB g) : OB fun k => f k + g k := by
 obtain ⟨C, hf⟩ := hf; obtain ⟨D, hg⟩ := hg
 exact ⟨C + D, fun k => by have := hf k; have := hg k; dsimp only; rw [Int.add_mul]; omega⟩
theorem OB.smul {f : Nat → Int} (c : Int) (hf : OB f) : OB fun k => c * f k := by
 obtain ⟨C, hf⟩ := hf
 exact ⟨(c.natAbs : Int) * C, fun k => by rw [Int.mul_assoc]; exact mul_abs (A := (c.natAbs : Int)) (by omega) (hf k)⟩
theorem OB.near {f g : Nat → Int} (hf : OB f) (h : Near f g) : OB g := by
 have h1 := hf.add (OB.smul (-1) (OB.of_bdd h))
 obtain ⟨C, h1⟩ := h1
 exact ⟨C, fun k => by have := h1 k; dsimp only at this; omega⟩
theorem MulN.comm {f g h : Nat → Int} (H : MulN f g h) : MulN g f h := by
 obtain ⟨C, H⟩ := H
 exact ⟨C, fun k => by rw [Int.mul_comm (g k)]; exact H k⟩
theorem MulN.add {f g h g' h' : Nat → Int} (H : MulN f g h) (H' : MulN f g' h') : MulN f (fun k => g k + g' k) (fun k => h k + h' k) := by
 obtain ⟨C, H⟩ := H; obtain ⟨D, H'⟩ := H'
 exact ⟨C + D, fun k => by have := H k; have := H' k; dsimp only; rw [Int.mul_add, Int.mul_add, Int.add_mul]; omega⟩
theorem MulN.smul {f g h : Nat → Int} (c : Int) (H : MulN f g h) : MulN f (fun k => c * g k) (fun k => c * h k) := by
 obtain ⟨C, H⟩ := H
 refine ⟨(c.natAbs : Int) * C, fun k => ?_⟩
 have := mul_abs (A := (c.natAbs : Int)) (a := c) (by omega) (H k)
 rw [← Int.mul_assoc, Int.mul_sub] at this
 rw [Int.mul_left_comm (f k), Int.mul_left_comm (bits k : Int)]
 exact this
theorem MulN.near {f g h g' : Nat → Int} (H : MulN f g h) (hf : OB f) (hn : Near g g') : MulN f g' h := by
 obtain ⟨C, H⟩ := H; obtain ⟨D, hf⟩ := hf; obtain ⟨E, hn⟩ := hn
 refine ⟨C + D * E, fun k => ?_⟩
 have h1 := H k
 have h2 := mul_abs (hf k) (hn k)
 rw [Int.mul_sub, Int.mul_right_comm] at h2
 rw [Int.add_mul]
 omega
theorem MulN.near_r {f g h h' : Nat → Int} (H : MulN f g h) (hn : Near h h') : MulN f g h' := by
 obtain ⟨C, H⟩ := H; obtain ⟨E, hn⟩ := hn
 refine ⟨C + E, fun k => ?_⟩
 have h1 := H k
 have h2 := mul_abs (a := (bits k : Int)) (A := bits k) ⟨by have := bitsI_pos k; omega, Int.le_refl _⟩ (hn k)
 rw [Int.mul_sub, Int.mul_comm (bits k : Int) E] at h2
 rw [Int.add_mul]
 omega
theorem le_of_mul_bits {a C : Int} {k : Nat} (h : bits k * a ≤ C * bits k) : a ≤ C := by
 rw [Int.mul_comm] at h
 exact Int.le_of_mul_le_mul_right h (bitsI_pos k)
theorem MulN.unique {f g h h' : Nat → Int} (H : MulN f g h) (H' : MulN f g h') : Near h h' := by
 obtain ⟨C, H⟩ := H; obtain ⟨D, H'⟩ := H'
 refine ⟨C + D, fun k => ?_⟩
 have h1 := H k; have h2 := H' k
 constructor
 ·have := le_of_mul_bits (a := h' k - h k) (C := C + D) (k := k) (by rw [Int.mul_sub, Int.add_mul]; omega)
  dsimp only
  omega
 ·exact le_of_mul_bits (k := k) (by rw [Int.mul_sub, Int.add_mul]; omega)
theorem MulN.grows {f g h : Nat → Int} (H : MulN f g h) (hf : Grows f) (hg : Grows g) : Grows h := by
 obtain ⟨C, H⟩ := H; obtain ⟨D, k0, hD, hf⟩ := hf; obtain ⟨E, j0, hE, hg⟩ := hg
 have h1 : Grows fun k => h k + C := by
  refine ⟨D * E, k0 + j0, Int.mul_pos hD hE, fun k hk => ?_⟩
  have a1 := hf k (by omega); have a2 := hg k (by omega)
  have b := bitsI_pos k
  have a3 := Int.mul_le_mul a1 a2 (Int.le_of_lt b) (by omega)
  have a4 : D * f k * (E * g k) = D * E * (f k * g k) := by rw [Int.mul_assoc, Int.mul_assoc, Int.mul_left_comm (f k)]
  have a5 := Int.mul_le_mul_of_nonneg_left (show f k * g k ≤ bits k * (h k + C) by have := (H k).2; rw [Int.mul_add, Int.mul_comm (bits k : Int) C]; omega) (Int.le_of_lt (Int.mul_pos hD hE))
  rw [a4] at a3
  have a6 := Int.le_trans a3 a5
  rw [Int.mul_left_comm] at a6
  exact Int.le_of_mul_le_mul_left a6 b
 exact h1.near ⟨C.natAbs, fun k => by dsimp only; omega⟩
theorem MulN.neg {f g h : Nat → Int} (H : MulN f g h) : MulN f (fun k => -g k) (fun k => -h k) := by
 have := H.smul (-1)
 obtain ⟨C, this⟩ := this
 exact ⟨C, fun k => by have := this k; dsimp only at this ⊢; rwa [Int.neg_one_mul, Int.neg_one_mul] at this⟩
theorem MulN.bdd {f g h : Nat → Int} (H : MulN f g h) (hf : Bdd f) (hg : OB g) : Bdd h := by
 obtain ⟨C, H⟩ := H; obtain ⟨D, hf⟩ := hf; obtain ⟨E, hg⟩ := hg
 refine ⟨C + D * E, fun k => ?_⟩
 have h1 := H k
 have h2 := mul_abs (hf k) (hg k)
 rw [← Int.mul_assoc] at h2
 constructor
 ·have := le_of_mul_bits (a := -h k) (C := C + D * E) (k := k) (by rw [Int.mul_neg, Int.add_mul]; omega)
  omega
 ·exact le_of_mul_bits (k := k) (by rw [Int.add_mul]; omega)
theorem MulN.sg {f g h : Nat → Int} {s t : Int} (H : MulN f g h) (hf : Sg f s) (hg : Sg g t) (of : OB f) (og : OB g) : Sg h (s * t) := by
 rcases hf with ⟨rfl, hf⟩ | ⟨rfl, hf⟩ | ⟨rfl, hf⟩
 ·rcases hg with ⟨rfl, hg⟩ | ⟨rfl, hg⟩ | ⟨rfl, hg⟩
  ·exact .inl ⟨rfl, H.grows hf hg⟩
  ·exact .inr (.inl ⟨rfl, H.neg.grows hf hg⟩)
  ·exact .inr (.inr ⟨rfl, H.comm.bdd hg of⟩)
 ·rcases hg with ⟨rfl, hg⟩ | ⟨rfl, hg⟩ | ⟨rfl, hg⟩
  ·exact .inr (.inl ⟨rfl, H.comm.neg.grows hg hf⟩)
  ·exact .inl ⟨rfl, (H.neg.comm.neg.grows hg hf).congr fun k => by (try dsimp only); omega⟩
  ·exact .inr (.inr ⟨rfl, H.comm.bdd hg of⟩)
 ·exact .inr (.inr ⟨by omega, H.bdd hf og⟩)
theorem MulN.cancel {f f' g h : Nat → Int} (H : MulN f g h) (H' : MulN f' g h) (hg : Grows g) : Near f f' := by
 obtain ⟨C, H⟩ := H; obtain ⟨D, H'⟩ := H'
 obtain ⟨E, k0, hE, hg⟩ := hg
 have hCD : 0 ≤ C + D := by
  have := H 0; have := H' 0; have hb := bitsI_pos 0
  rcases Int.lt_or_le (C + D) 0 with h | h
  ·have := Int.mul_neg_of_neg_of_pos h hb
   rw [Int.add_mul] at this; omega
  ·exact h
 have hk : ∀ k, k0 ≤ k → -((C + D) * E) ≤ f k - f' k ∧ f k - f' k ≤ (C + D) * E := fun k hk => by
  have h1 := H k; have h2 := H' k; have h3 := hg k hk
  have hg0 := Grows.pos hE h3
  have h4 : (f k - f' k) * g k ≤ (C + D) * E * g k := by
   have := Int.mul_le_mul_of_nonneg_left h3 hCD
   rw [← Int.mul_assoc, Int.add_mul C D (bits k : Int)] at this
   rw [Int.sub_mul]; omega
  have h5 : (f' k - f k) * g k ≤ (C + D) * E * g k := by
   have := Int.mul_le_mul_of_nonneg_left h3 hCD
   rw [← Int.mul_assoc, Int.add_mul C D (bits k : Int)] at this
   rw [Int.sub_mul]; omega
  have := Int.le_of_mul_le_mul_right h4 hg0
  have := Int.le_of_mul_le_mul_right h5 hg0
  omega
 have fin : ∀ n : Nat, ∃ M : Int, ∀ k, k < n → -M ≤ f k - f' k ∧ f k - f' k ≤ M := fun n => by
  induction n with
  | zero => exact ⟨0, fun k hk => by omega⟩
  | succ n ih =>
   obtain ⟨M, ih⟩ := ih
   refine ⟨max M ((f n - f' n).natAbs : Int), fun k hk => ?_⟩
   rcases Nat.lt_or_ge k n with h | h
   ·have := ih k h; omega
   ·obtain rfl : k = n := by omega
    omega
 obtain ⟨M, fin⟩ := fin k0
 refine ⟨max M ((C + D) * E), fun k => ?_⟩
 rcases Nat.lt_or_ge k k0 with h | h
 ·have := fin k h; dsimp only; omega
 ·have := hk k h; dsimp only; omega
end Go.Proofs.YthkblgglmohciaaGreatDoor
namespace Go.Proofs.YthkblgglmohciaaGreatDoor
def rtA (r : Int) (k : Nat) : Int := (isq (r.toNat * (bits k * bits k)) : Int)
def linK (kv : List (Int × Int)) (k : Nat) : Int := (kv.map fun p => p.2 * rtA p.1 k).sum
def linT (ts : List (Int × Int)) (k : Nat) : Int := (ts.map fun t => t.1 * rtA t.2 k).sum
theorem linT_nil (k : Nat) : linT [] k = 0 := rfl
theorem linT_cons (t : Int × Int) (ts : List (Int × Int)) (k : Nat) : linT (t :: ts) k = t.1 * rtA t.2 k + linT ts k := by simp [linT]
theorem linK_nil (k : Nat) : linK [] k = 0 := rfl
theorem linK_cons (t : Int × Int) (ts : List (Int × Int)) (k : Nat) : linK (t :: ts) k = t.2 * rtA t.1 k + linK ts k := by simp [linK]
theorem linT_swap (kv : List (Int × Int)) (k : Nat) : linT (kv.map swapT) k = linK kv k := by
 induction kv with
 | nil => rfl
 | cons p t ih => rw [List.map_cons, linT_cons, linK_cons, ih]; rfl
theorem linK_addS : ∀ (kv : List (Int × Int)) (r c : Int) (k : Nat), linK (addS kv r c) k = linK kv k + c * rtA r k
 | [], r, c, k => by simp [addS, linK]
 | (a, x) :: t, r, c, k => by
  unfold addS
  split
  ·rename_i h
   subst h
   rw [linK_cons, linK_cons]
   dsimp only
   rw [Int.add_mul]; omega
  ·rw [linK_cons, linK_cons, linK_addS t r c k]; omega
theorem linK_addB : ∀ (l kv : List (Int × Int)) (m : Int) (k : Nat), linK (addB kv l m) k = linK kv k + m * linT l k
 | [], kv, m, k => by simp [addB, linT]
 | t :: l, kv, m, k => by
  have ih := linK_addB l (addS kv t.2 (t.1 * m)) m k
  simp only [addB, List.foldl_cons] at ih ⊢
  rw [ih, linK_addS, linT_cons, Int.mul_add, ← Int.mul_assoc, Int.mul_comm m t.1]; omega
theorem linT_lessT (xt : List (Int × Int)) (m : Int) (yt : List (Int × Int)) (j : Int) (k : Nat) : linT (lessT xt m yt j) k = m * linT xt k - j * linT yt k := by
 unfold lessT lessS
 rw [linT_swap, linK_addB, linK_addB, linK_nil, Int.neg_mul]; omega
theorem linK_filter (kv : List (Int × Int)) (k : Nat) : linK (kv.filter nz) k = linK kv k := by
 induction kv with
 | nil => rfl
 | cons p t ih =>
  rw [List.filter_cons]
  by_cases h : p.2 = 0
  ·have e : nz p = false := by simp [nz, h]
   rw [e, linK_cons, h, Int.zero_mul]
   simpa using ih
  ·have e : nz p = true := by simp [nz, h]
   rw [e, if_pos rfl, linK_cons, linK_cons, ih]
theorem isq_le_mul (r B : Nat) : isq (r * (B * B)) ≤ r * B := by
 have h := isq_le (r * (B * B))
 refine root_le h ?_
 have : r * (B * B) ≤ r * B * (r * B) := by
  rcases Nat.eq_zero_or_pos r with h0 | h0
  ·subst h0; simp
  ·calc r * (B * B) ≤ r * r * (B * B) := Nat.mul_le_mul_right _ (Nat.le_mul_of_pos_left r h0)
    _ = r * B * (r * B) := by rw [Nat.mul_mul_mul_comm]
 have h2 : r * B * (r * B) < (r * B + 1) * (r * B + 1) := Nat.mul_self_lt_mul_self (Nat.lt_succ_self (r * B))
 exact Nat.lt_of_le_of_lt this h2
theorem lt_of_sq {a b : Nat} (h : a * a < b * b) : a < b := by
 rcases Nat.lt_or_ge a b with h1 | h1
 ·exact h1
 ·have := Nat.mul_self_le_mul_self h1; omega
theorem rtA_nonneg (r : Int) (k : Nat) : 0 ≤ rtA r k := by unfold rtA; omega
theorem rtA_le (r : Int) (k : Nat) : rtA r k ≤ r.toNat * bits k := by
 unfold rtA
 have := isq_le_mul r.toNat (bits k)
 exact_mod_cast this
theorem rtA_OB (r : Int) : OB (rtA r) := ⟨(r.toNat : Int), fun k => by
 have h1 := rtA_nonneg r k; have h2 := rtA_le r k
 omega⟩
theorem linT_OB : ∀ (ts : List (Int × Int)), OB (linT ts)
 | [] => OB.of_bdd (Bdd.zero.congr fun k => rfl)
 | t :: ts => by
  obtain ⟨C, h⟩ := OB.add (OB.smul t.1 (rtA_OB t.2)) (linT_OB ts)
  exact ⟨C, fun k => by have := h k; rw [linT_cons]; exact this⟩
theorem rtA_split {n : Nat} (h : 1 ≤ n) : Near (rtA (n : Int)) (fun k => ((splitN n).1 : Int) * rtA ((splitN n).2 : Int) k) := by
 obtain ⟨h1, _, h3, _⟩ := splitN_spec n h
 refine ⟨((splitN n).1 : Int), fun k => ?_⟩
 dsimp only
 unfold rtA
 rw [Int.toNat_natCast, Int.toNat_natCast]
 generalize (splitN n).1 = s at *
 generalize (splitN n).2 = r at *
 generalize bits k = B
 have e : n * (B * B) = r * (B * B) * (s * s) := by rw [← h1]; simp only [Nat.mul_comm, Nat.mul_left_comm, Nat.mul_assoc]
 rw [e]
 have g1 := isq_scale (r * (B * B)) s
 have g2 : isq (r * (B * B) * (s * s)) ≤ s * isq (r * (B * B)) + s := by
  have := (isq_at (r * (B * B))).lt
  generalize isq (r * (B * B)) = q at *
  have h4 : r * (B * B) * (s * s) < ((q + 1) * s) * ((q + 1) * s) := by
   rw [Nat.mul_mul_mul_comm (q + 1) s (q + 1) s]
   exact Nat.mul_lt_mul_of_pos_right this (Nat.mul_pos h3 h3)
  have h5 := lt_of_sq (Nat.lt_of_le_of_lt (isq_le _) h4)
  have h6 : (q + 1) * s = s * q + s := by rw [Nat.add_mul, Nat.one_mul, Nat.mul_comm]
  rw [h6] at h5
  omega
 have c1 : ((isq (r * (B * B)) * s : Nat) : Int) = (s : Int) * (isq (r * (B * B)) : Int) := by rw [Int.natCast_mul, Int.mul_comm]
 have c2 : ((s * isq (r * (B * B)) : Nat) : Int) = (s : Int) * (isq (r * (B * B)) : Int) := Int.natCast_mul _ _
 generalize (s : Int) * (isq (r * (B * B)) : Int) = z at *
 omega
theorem linK_addRoot (kv : List (Int × Int)) (c r : Int) : Near (linK (addRoot kv c r)) (fun k => linK kv k + c * rtA r k) := by
 unfold addRoot
 split
 ·rename_i h
  obtain ⟨n, rfl⟩ := Int.eq_ofNat_of_zero_le (Int.le_of_lt h)
  have hn : 1 ≤ n := by omega
  rw [Int.toNat_natCast]
  exact (Near.of_eq (g := fun k => linK kv k + c * (((splitN n).1 : Int) * rtA ((splitN n).2 : Int) k)) fun k => by rw [linK_addS, Int.mul_assoc]).trans ((Near.refl (linK kv)).add ((rtA_split hn).symm.smul c))
 ·rename_i h
  refine Near.of_eq fun k => ?_
  have : r.toNat = 0 := by omega
  have e : isq 0 = 0 := isq_sq 0
  unfold rtA
  rw [this, Nat.zero_mul, e]; simp
theorem linK_addAll : ∀ (l kv : List (Int × Int)) (m : Int), Near (linK (addAll kv l m)) (fun k => linK kv k + m * linT l k)
 | [], kv, m => Near.of_eq fun k => by simp [addAll, linT]
 | t :: l, kv, m => by
  have ih := linK_addAll l (addRoot kv (t.1 * m) t.2) m
  simp only [addAll, List.foldl_cons] at ih ⊢
  refine ih.trans (((linK_addRoot kv (t.1 * m) t.2).add (Near.refl fun k => m * linT l k)).trans (Near.of_eq fun k => ?_))
  (try dsimp only)
  rw [linT_cons, Int.mul_add, ← Int.mul_assoc m, Int.mul_comm m t.1]; omega
theorem perm_sumI {l l' : List Int} (h : l.Perm l') : l.sum = l'.sum := by
 induction h with
 | nil => rfl
 | cons x _ ih => simp [ih]
 | swap x y l => simp only [List.sum_cons]; omega
 | trans _ _ ih1 ih2 => rw [ih1, ih2]
theorem linK_perm {kv kv' : List (Int × Int)} (h : kv.Perm kv') (k : Nat) : linK kv k = linK kv' k := perm_sumI (h.map _)
theorem getS_cons_ne {a x r : Int} {t : List (Int × Int)} (h : r ≠ a) : getS ((a, x) :: t) r = getS t r := if_neg h
theorem sum_keys : ∀ (kv : List (Int × Int)) (k : Nat), (kv.map (·.1)).Nodup → ((kv.map (·.1)).map fun r => getS kv r * rtA r k).sum = linK kv k
 | [], _, _ => rfl
 | (a, x) :: t, k, h => by
  rw [List.map_cons, List.nodup_cons] at h
  rw [linK_cons, List.map_cons, List.map_cons, List.sum_cons, ← sum_keys t k h.2]
  congr 1
  ·show (if a = a then x else _) * _ = _
   rw [if_pos rfl]
  ·congr 1
   refine List.map_congr_left fun r hr => ?_
   rw [getS_cons_ne (fun (e : r = a) => h.1 (by rw [← e]; exact hr))]
theorem overG_ne {kv : List (Int × Int)} {den : Int} (h : den ≠ 0) : overG kv den ≠ 0 := by
 have := gcdL_pos (l := (kv.filter nz).map (·.2) ++ [den]) (x := den) (by simp) h
 unfold overG
 split <;> omega
theorem overG_dvd {kv : List (Int × Int)} {den : Int} : overG kv den ∣ den ∧ ∀ p ∈ kv.filter nz, overG kv den ∣ p.2 := by
 have h1 := gcdL_dvd ((kv.filter nz).map (·.2) ++ [den])
 unfold overG
 constructor
 ·have := Int.natAbs_dvd_natAbs.1 (show ((gcdL ((kv.filter nz).map (·.2) ++ [den]) : Nat) : Int).natAbs ∣ den.natAbs by rw [Int.natAbs_natCast]; exact h1 den (by simp))
  split
  ·exact (Int.neg_dvd).2 this
  ·exact this
 ·intro p hp
  have := Int.natAbs_dvd_natAbs.1 (show ((gcdL ((kv.filter nz).map (·.2) ++ [den]) : Nat) : Int).natAbs ∣ p.2.natAbs by rw [Int.natAbs_natCast]; exact h1 p.2 (List.mem_append_left _ (List.mem_map_of_mem hp)))
  split
  ·exact (Int.neg_dvd).2 this
  ·exact this
theorem linT_overT {kv : List (Int × Int)} {den : Int} (hn : (kv.map (·.1)).Nodup) (k : Nat) : overG kv den * linT (overT kv den) k = linK kv k := by
 rw [← linK_filter kv k]
 have hn' : ((kv.filter nz).map (·.1)).Nodup := List.Nodup.sublist (List.filter_sublist.map _) hn
 rw [← sum_keys _ k hn']
 unfold overT termsG linT
 have hd := (overG_dvd (kv := kv) (den := den)).2
 generalize overG kv den = G at *
 generalize kv.filter nz = l at *
 have hp := perm_sumI ((sortI_perm (l.map (·.1))).map fun r => getS l r * rtA r k)
 rw [← hp]
 generalize sortI (l.map (·.1)) = rs
 rw [List.map_map]
 induction rs with
 | nil => simp
 | cons r rs ih =>
  rw [List.map_cons, List.map_cons, List.sum_cons, List.sum_cons, Int.mul_add, ih]
  congr 1
  show G * ((getS l r).tdiv G * rtA r k) = _
  rw [← Int.mul_assoc]
  congr 1
  have : G ∣ getS l r := by
   rcases getS_mem l r with h | h
   ·rw [h]; exact Int.dvd_zero G
   ·exact hd _ h
  exact Int.mul_tdiv_cancel' this
theorem overS_ok {kv : List (Int × Int)} {den d : Int} {ts : List (Int × Int)} (hn : (kv.map (·.1)).Nodup) (hd : den ≠ 0) (h : overS kv den = (d, ts, 0)) :
  ∃ G, G ≠ 0 ∧ (0 < den → 0 < G) ∧ den = d * G ∧ ∀ k, G * linT ts k = linK kv k := by
 unfold overS at h
 split at h
 ·injection h with _ h; injection h with _ h; cases h
 ·split at h
  ·injection h with _ h; injection h with _ h; cases h
  ·injection h with h1 h
   injection h with h2 _
   subst h1; subst h2
   refine ⟨overG kv den, overG_ne hd, fun hp => ?_, ?_, fun k => linT_overT hn k⟩
   ·have := overG_ne (kv := kv) hd
    unfold overG at this ⊢
    rw [if_neg (by omega)] at this ⊢
    omega
   ·exact (Int.tdiv_mul_cancel overG_dvd.1).symm
theorem addAll_nodup' : ∀ (l kv : List (Int × Int)) (m : Int), (kv.map (·.1)).Nodup → ((addAll kv l m).map (·.1)).Nodup
 | [], _, _, h => h
 | t :: l, kv, m, h => by
  have h1 : ((addRoot kv (t.1 * m) t.2).map (·.1)).Nodup := by
   unfold addRoot
   split
   ·rw [addS_keys]
    split
    ·exact h
    ·rename_i h2; exact List.nodup_append.2 ⟨h, by simp, fun a ha b hb => by simp at hb; subst hb; exact fun e => h2 (by rw [← e]; exact ha)⟩
   ·exact h
  exact addAll_nodup' l _ m h1
theorem plusS_lin {xd yd m d : Int} {xt yt ts : List (Int × Int)} (h : plusS xd xt yd yt m = (d, ts, 0)) : numOK xd xt = true ∧ numOK yd yt = true ∧ ∃ G, 0 < G ∧ xd * yd = d * G ∧ Near (fun k => G * linT ts k) (fun k => yd * linT xt k + m * xd * linT yt k) := by
 unfold plusS at h
 split at h
 ·rename_i hn
  rw [Bool.and_eq_true] at hn
  have hx := numOK_parts hn.1; have hy := numOK_parts hn.2
  have hp : 0 < xd * yd := Int.mul_pos (by omega) (by omega)
  obtain ⟨G, _, h2, h3, h4⟩ := overS_ok (addAll_nodup' yt _ _ (addAll_nodup' xt [] _ (by simp))) (by omega) h
  refine ⟨hn.1, hn.2, G, h2 hp, h3, (Near.of_eq h4).trans ((linK_addAll yt _ _).trans (((linK_addAll xt [] yd).add (Near.refl fun k => m * xd * linT yt k)).trans (Near.of_eq fun k => ?_)))⟩
  (try dsimp only)
  rw [linK_nil]; omega
 ·injection h with _ h; injection h with _ h; cases h
end Go.Proofs.YthkblgglmohciaaGreatDoor
namespace Go.Proofs.YthkblgglmohciaaGreatDoor
theorem rt_mul {r q : Nat} (hr : 1 ≤ r) (g a b : Nat) (h1 : r = a * g) (h2 : q = b * g) (hg : 1 ≤ g) : MulN (rtA (r : Int)) (rtA (q : Int)) (fun k => (g : Int) * rtA ((a * b : Nat) : Int) k) := by
 refine ⟨((r + q + g : Nat) : Int), fun k => ?_⟩
 dsimp only
 unfold rtA
 rw [Int.toNat_natCast, Int.toNat_natCast, Int.toNat_natCast]
 have hB := bits_pos k
 generalize bits k = B at *
 have l1 := isq_le_mul r B
 have l2 := isq_le_mul q B
 have e1 := isq_le (r * (B * B)); have e2 := isq_le (q * (B * B)); have e3 := isq_le (a * b * (B * B))
 have t1 := (isq_at (r * (B * B))).lt; have t2 := (isq_at (q * (B * B))).lt; have t3 := (isq_at (a * b * (B * B))).lt
 generalize isq (r * (B * B)) = x at *
 generalize isq (q * (B * B)) = y at *
 generalize isq (a * b * (B * B)) = z at *
 have hv : r * (B * B) * (q * (B * B)) = (B * g) * (B * g) * (a * b * (B * B)) := by
  rw [h1, h2]; simp only [Nat.mul_comm, Nat.mul_left_comm, Nat.mul_assoc]
 have u1 : (B * g * z) * (B * g * z) < ((x + 1) * (y + 1)) * ((x + 1) * (y + 1)) := by
  calc (B * g * z) * (B * g * z) = (B * g) * (B * g) * (z * z) := by rw [Nat.mul_mul_mul_comm]
   _ ≤ (B * g) * (B * g) * (a * b * (B * B)) := Nat.mul_le_mul_left _ e3
   _ = r * (B * B) * (q * (B * B)) := hv.symm
   _ < ((x + 1) * (x + 1)) * ((y + 1) * (y + 1)) := Nat.mul_lt_mul'' t1 t2
   _ = _ := by rw [Nat.mul_mul_mul_comm]
 have u2 : (x * y) * (x * y) < (B * g * (z + 1)) * (B * g * (z + 1)) := by
  calc (x * y) * (x * y) = (x * x) * (y * y) := by rw [Nat.mul_mul_mul_comm]
   _ ≤ r * (B * B) * (q * (B * B)) := Nat.mul_le_mul e1 e2
   _ = (B * g) * (B * g) * (a * b * (B * B)) := hv
   _ < (B * g) * (B * g) * ((z + 1) * (z + 1)) := Nat.mul_lt_mul_of_pos_left t3 (Nat.mul_pos (Nat.mul_pos hB hg) (Nat.mul_pos hB hg))
   _ = _ := by rw [Nat.mul_mul_mul_comm]
 have u3 := lt_of_sq u1
 have u4 := lt_of_sq u2
 have w1 : (x + 1) * (y + 1) = x * y + x + y + 1 := by rw [Nat.add_mul, Nat.mul_add]; omega
 have w2 : B * g * (z + 1) = B * g * z + g * B := by rw [Nat.mul_add, Nat.mul_one, Nat.mul_comm g B]
 have w3 : (r + q + g) * B = r * B + q * B + g * B := by rw [Nat.add_mul, Nat.add_mul]
 have c1 : (x : Int) * (y : Int) = ((x * y : Nat) : Int) := by simp
 have c2 : (B : Int) * ((g : Int) * (z : Int)) = ((B * g * z : Nat) : Int) := by simp only [Int.natCast_mul]; rw [Int.mul_assoc]
 have c3 : (((r + q + g : Nat) : Int) * (B : Int)) = (((r + q + g) * B : Nat) : Int) := by simp
 rw [c1, c2, c3]
 have hx0 : 1 ≤ g * B := Nat.mul_pos hg hB
 omega
def rowK (t : Int × Int) (b : List (Int × Int)) (k : Nat) : Int := (b.map fun u => mulC t u * rtA (mulK t u) k).sum
def tabK (a b : List (Int × Int)) (k : Nat) : Int := (a.map fun t => rowK t b k).sum
theorem linK_prodR : ∀ (b kv : List (Int × Int)) (t : Int × Int) (k : Nat), linK (prodR kv t b) k = linK kv k + rowK t b k
 | [], kv, t, k => by simp [prodR, rowK]
 | u :: b, kv, t, k => by
  have ih := linK_prodR b (addS kv (mulK t u) (mulC t u)) t k
  simp only [prodR, List.foldl_cons] at ih ⊢
  rw [ih, linK_addS]
  simp only [rowK, List.map_cons, List.sum_cons]
  omega
theorem linK_prodS : ∀ (a b kv : List (Int × Int)) (k : Nat), linK (prodS kv a b) k = linK kv k + tabK a b k
 | [], b, kv, k => by simp [prodS, tabK]
 | t :: a, b, kv, k => by
  have ih := linK_prodS a b (prodR kv t b) k
  simp only [prodS, List.foldl_cons] at ih ⊢
  rw [ih, linK_prodR]
  simp only [tabK, List.map_cons, List.sum_cons]
  omega
theorem mul_term {t u : Int × Int} (ht : 1 ≤ t.2) (hu : 1 ≤ u.2) : MulN (fun k => t.1 * rtA t.2 k) (fun k => u.1 * rtA u.2 k) (fun k => mulC t u * rtA (mulK t u) k) := by
 have hg1 := gcdL_dvd [t.2, u.2] t.2 (by simp)
 have hg2 := gcdL_dvd [t.2, u.2] u.2 (by simp)
 have hg3 := gcdL_pos (l := [t.2, u.2]) (x := t.2) (by simp) (by omega)
 unfold mulC mulK
 generalize gcdL [t.2, u.2] = g at *
 have e1 : t.2.toNat = t.2.natAbs := by omega
 have e2 : u.2.toNat = u.2.natAbs := by omega
 have h := rt_mul (r := t.2.toNat) (q := u.2.toNat) (by omega) g (t.2.toNat / g) (u.2.toNat / g) (by rw [e1]; exact (Nat.div_mul_cancel hg1).symm) (by rw [e2]; exact (Nat.div_mul_cancel hg2).symm) hg3
 rw [Int.toNat_of_nonneg (show 0 ≤ t.2 by omega), Int.toNat_of_nonneg (show 0 ≤ u.2 by omega)] at h
 have h2 := ((h.smul u.1).comm.smul t.1).comm
 obtain ⟨C, h2⟩ := h2
 refine ⟨C, fun k => ?_⟩
 have := h2 k
 dsimp only at this ⊢
 rw [show t.1 * u.1 * (g : Int) * rtA ((t.2.toNat / g * (u.2.toNat / g) : Nat) : Int) k = t.1 * (u.1 * ((g : Int) * rtA ((t.2.toNat / g * (u.2.toNat / g) : Nat) : Int) k)) by simp only [Int.mul_assoc]]
 exact this
theorem MulN.zero_r (f : Nat → Int) : MulN f (fun _ => 0) (fun _ => 0) := ⟨0, fun k => by dsimp only; rw [Int.mul_zero, Int.mul_zero]; omega⟩
theorem MulN.congr {f g h f' g' h' : Nat → Int} (H : MulN f g h) (e1 : ∀ k, f k = f' k) (e2 : ∀ k, g k = g' k) (e3 : ∀ k, h k = h' k) : MulN f' g' h' := by
 obtain ⟨C, H⟩ := H
 exact ⟨C, fun k => by rw [← e1, ← e2, ← e3]; exact H k⟩
theorem mul_row {t : Int × Int} (ht : 1 ≤ t.2) : ∀ (b : List (Int × Int)), (∀ u ∈ b, 1 ≤ u.2) → MulN (fun k => t.1 * rtA t.2 k) (linT b) (rowK t b)
 | [], _ => (MulN.zero_r _).congr (fun _ => rfl) (fun _ => rfl) (fun _ => rfl)
 | u :: b, h => ((mul_term ht (h u (by simp))).add (mul_row ht b (fun u hu => h u (List.mem_cons_of_mem _ hu)))).congr (fun _ => rfl) (fun k => (linT_cons u b k).symm) (fun k => by simp [rowK])
theorem mul_tab {b : List (Int × Int)} (hb : ∀ u ∈ b, 1 ≤ u.2) : ∀ (a : List (Int × Int)), (∀ t ∈ a, 1 ≤ t.2) → MulN (linT a) (linT b) (tabK a b)
 | [], _ => (MulN.zero_r _).comm.congr (fun _ => rfl) (fun _ => rfl) (fun _ => rfl)
 | t :: a, h => ((mul_row (h t (by simp)) b hb).comm.add (mul_tab hb a (fun u hu => h u (List.mem_cons_of_mem _ hu))).comm).comm.congr (fun k => (linT_cons t a k).symm) (fun _ => rfl) (fun k => by simp [tabK])
theorem addS_nodup' (kv : List (Int × Int)) (r c : Int) (h : (kv.map (·.1)).Nodup) : ((addS kv r c).map (·.1)).Nodup := by
 rw [addS_keys]
 split
 ·exact h
 ·rename_i h2; exact List.nodup_append.2 ⟨h, by simp, fun a ha b hb => by simp at hb; subst hb; exact fun e => h2 (by rw [← e]; exact ha)⟩
theorem prodR_nodup : ∀ (b kv : List (Int × Int)) (t : Int × Int), (kv.map (·.1)).Nodup → ((prodR kv t b).map (·.1)).Nodup
 | [], _, _, h => h
 | u :: b, kv, t, h => prodR_nodup b _ t (addS_nodup' kv (mulK t u) (mulC t u) h)
theorem prodS_nodup : ∀ (a b kv : List (Int × Int)), (kv.map (·.1)).Nodup → ((prodS kv a b).map (·.1)).Nodup
 | [], _, _, h => h
 | t :: a, b, kv, h => prodS_nodup a b _ (prodR_nodup b kv t h)
theorem numOK_ge {d : Int} {ts : List (Int × Int)} (h : numOK d ts = true) : ∀ t ∈ ts, 1 ≤ t.2 := fun t ht => ((numOK_roots h).1 t ht).1
theorem mulS_lin {xd yd d : Int} {xt yt ts : List (Int × Int)} (h : mulS xd xt yd yt = (d, ts, 0)) : numOK xd xt = true ∧ numOK yd yt = true ∧ ∃ G, 0 < G ∧ xd * yd = d * G ∧ MulN (linT xt) (linT yt) (fun k => G * linT ts k) := by
 unfold mulS at h
 split at h
 ·rename_i hn
  rw [Bool.and_eq_true] at hn
  have hx := numOK_parts hn.1; have hy := numOK_parts hn.2
  have hp : 0 < xd * yd := Int.mul_pos (by omega) (by omega)
  obtain ⟨G, _, h2, h3, h4⟩ := overS_ok (prodS_nodup xt yt [] (by simp)) (by omega) h
  refine ⟨hn.1, hn.2, G, h2 hp, h3, (mul_tab (numOK_ge hn.2) xt (numOK_ge hn.1)).congr (fun _ => rfl) (fun _ => rfl) (fun k => ?_)⟩
  rw [h4 k, linK_prodS, linK_nil]; omega
 ·injection h with _ h; injection h with _ h; cases h
theorem low_near (t : Int × Int) (k : Nat) : -(t.1.natAbs : Int) ≤ (lowT t k : Int) - t.1.natAbs * rtA t.2 k ∧ (lowT t k : Int) - t.1.natAbs * rtA t.2 k ≤ t.1.natAbs := by
 unfold lowT sqTk sqT rtA
 generalize t.1.natAbs = c
 generalize t.2.toNat = r
 generalize bits k = B
 have e : c * c * r * (B * B) = r * (B * B) * (c * c) := by simp only [Nat.mul_comm, Nat.mul_left_comm, Nat.mul_assoc]
 rw [e]
 have g1 := isq_scale (r * (B * B)) c
 have g2 : isq (r * (B * B) * (c * c)) ≤ c * isq (r * (B * B)) + c := by
  have := (isq_at (r * (B * B))).lt
  generalize isq (r * (B * B)) = q at *
  rcases Nat.eq_zero_or_pos c with h0 | h0
  ·subst h0
   have e0 : isq 0 = 0 := isq_sq 0
   simp [e0]
  ·have h4 : r * (B * B) * (c * c) < ((q + 1) * c) * ((q + 1) * c) := by
    rw [Nat.mul_mul_mul_comm (q + 1) c (q + 1) c]
    exact Nat.mul_lt_mul_of_pos_right this (Nat.mul_pos h0 h0)
   have h5 := lt_of_sq (Nat.lt_of_le_of_lt (isq_le _) h4)
   have h6 : (q + 1) * c = c * q + c := by rw [Nat.add_mul, Nat.one_mul, Nat.mul_comm]
   rw [h6] at h5
   omega
 have c1 : ((isq (r * (B * B)) * c : Nat) : Int) = (c : Int) * (isq (r * (B * B)) : Int) := by rw [Int.natCast_mul, Int.mul_comm]
 have c2 : ((c * isq (r * (B * B)) : Nat) : Int) = (c : Int) * (isq (r * (B * B)) : Int) := Int.natCast_mul _ _
 generalize (c : Int) * (isq (r * (B * B)) : Int) = z at *
 omega
def absS (ts : List (Int × Int)) : Int := (ts.map fun t => (t.1.natAbs : Int)).sum
theorem low_sum (k : Nat) : ∀ (ts : List (Int × Int)), -(absS ts) ≤ (aLow ts k : Int) - bLow ts k - linT ts k ∧ (aLow ts k : Int) - bLow ts k - linT ts k ≤ absS ts
 | [] => by simp [absS, aLow, bLow, linT]
 | t :: ts => by
  have ih := low_sum k ts
  have h := low_near t k
  rw [linT_cons]
  unfold aLow bLow absS at *
  simp only [List.map_cons, List.sum_cons]
  by_cases h0 : t.1 < 0
  ·rw [if_pos h0, if_pos h0]
   have e : (t.1.natAbs : Int) * rtA t.2 k = -(t.1 * rtA t.2 k) := by rw [show (t.1.natAbs : Int) = -t.1 by omega, Int.neg_mul]
   rw [e] at h
   omega
  ·rw [if_neg h0, if_neg h0]
   have e : (t.1.natAbs : Int) * rtA t.2 k = t.1 * rtA t.2 k := by rw [show (t.1.natAbs : Int) = t.1 by omega]
   rw [e] at h
   omega
theorem verdict_grows {ts : List (Int × Int)} {k : Nat} (h : verdict ts k = 1) : Grows (linT ts) := by
 have h1 := verdict_pos h
 have key : Grows fun j => linT ts j + absS ts := by
  refine ⟨(bits k : Int), k, bitsI_pos k, fun K hK => ?_⟩
  obtain ⟨j, rfl⟩ := Nat.le.dest hK
  have a1 := aLow_le ts k j
  have a2 := bTop_le ts k j
  have a3 := bLow_bTop ts (k + j)
  have a4 := low_sum (k + j) ts
  have b1 : bTop ts k * bits j + bits j ≤ aLow ts k * bits j := by
   have := Nat.mul_le_mul_right (bits j) (show bTop ts k + 1 ≤ aLow ts k by omega)
   rw [Nat.add_mul, Nat.one_mul] at this
   exact this
  have b2 : (bits j : Int) ≤ linT ts (k + j) + absS ts := by omega
  have b3 := Int.mul_le_mul_of_nonneg_left b2 (Int.le_of_lt (bitsI_pos k))
  rw [bits_add, Int.natCast_mul]
  exact b3
 exact key.near ⟨(absS ts).natAbs, fun k => by dsimp only; omega⟩
theorem verdict_neg' (ts : List (Int × Int)) (k : Nat) : verdict (ts.map fun t => (-t.1, t.2)) k = 1 → True := fun _ => trivial
theorem verdict_falls {ts : List (Int × Int)} {k : Nat} (h : verdict ts k = -1) : Grows fun k => -linT ts k := by
 have h1 := verdict_neg h
 have key : Grows fun j => -linT ts j + (absS ts) := by
  refine ⟨(bits k : Int), k, bitsI_pos k, fun K hK => ?_⟩
  obtain ⟨j, rfl⟩ := Nat.le.dest hK
  have a1 := bLow_le ts k j
  have a2 := aTop_le ts k j
  have a3 := aLow_aTop ts (k + j)
  have a4 := low_sum (k + j) ts
  have b1 : aTop ts k * bits j + bits j ≤ bLow ts k * bits j := by
   have := Nat.mul_le_mul_right (bits j) (show aTop ts k + 1 ≤ bLow ts k by omega)
   rw [Nat.add_mul, Nat.one_mul] at this
   exact this
  have b2 : (bits j : Int) ≤ -linT ts (k + j) + absS ts := by omega
  have b3 := Int.mul_le_mul_of_nonneg_left b2 (Int.le_of_lt (bitsI_pos k))
  rw [bits_add, Int.natCast_mul]
  exact b3
 exact key.near ⟨(absS ts).natAbs, fun k => by dsimp only; omega⟩
theorem linT_nz : ∀ (ts : List (Int × Int)) (k : Nat), linT (ts.filter nzT) k = linT ts k
 | [], _ => rfl
 | t :: ts, k => by
  rw [List.filter_cons]
  by_cases h : t.1 = 0
  ·have e : nzT t = false := by simp [nzT, h]
   rw [e, linT_cons, h, Int.zero_mul, Int.zero_add]
   simpa using linT_nz ts k
  ·have e : nzT t = true := by simp [nzT, h]
   rw [e, if_pos rfl, linT_cons, linT_cons, linT_nz ts k]
theorem SignOf.sg {ts : List (Int × Int)} {s : Int} (h : SignOf ts s) : Sg (linT ts) s := by
 rcases h with ⟨h1, rfl⟩ | ⟨_, h1, k, h2⟩
 ·refine .inr (.inr ⟨rfl, Bdd.zero.congr fun k => ?_⟩)
  rw [← linT_nz, h1]; rfl
 ·rcases verdict_range (ts.filter nzT) k with h3 | h3 | h3
  ·refine .inl ⟨by rw [← h2, h3], (verdict_grows h3).congr fun k => linT_nz ts k⟩
  ·refine .inr (.inl ⟨by rw [← h2, h3], (verdict_falls h3).congr fun k => by rw [linT_nz ts k]⟩)
  ·exact absurd (h2.symm.trans h3) h1
end Go.Proofs.YthkblgglmohciaaGreatDoor
namespace Go.Proofs.YthkblgglmohciaaGreatDoor
def cf (ts : List (Int × Int)) (r : Int) : Int := (ts.map fun t => if r = t.2 then t.1 else 0).sum
theorem cf_cons (t : Int × Int) (ts : List (Int × Int)) (r : Int) : cf (t :: ts) r = (if r = t.2 then t.1 else 0) + cf ts r := by simp [cf]
theorem cf_none : ∀ (ts : List (Int × Int)) (r : Int), (∀ t ∈ ts, t.2 ≠ r) → cf ts r = 0
 | [], _, _ => rfl
 | t :: ts, r, h => by rw [cf_cons, if_neg (fun e => h t (by simp) e.symm), cf_none ts r (fun u hu => h u (by simp [hu]))]; rfl
theorem getS_addB : ∀ (l kv : List (Int × Int)) (m r : Int), getS (addB kv l m) r = getS kv r + cf l r * m
 | [], kv, m, r => by simp [addB, cf]
 | t :: l, kv, m, r => by
  have ih := getS_addB l (addS kv t.2 (t.1 * m)) m r
  simp only [addB, List.foldl_cons] at ih ⊢
  rw [ih, getS_addS, cf_cons, Int.add_mul]
  split
  ·omega
  ·rw [Int.zero_mul]; omega
theorem chkT_gt : ∀ (ts : List (Int × Int)) (last : Int), chkT last ts = true → ∀ t ∈ ts, last < t.2 ∧ t.1 ≠ 0
 | [], _, _, _, h => by cases h
 | t :: ts, last, h, u, hu => by
  unfold chkT okT at h
  simp only [Bool.and_eq_true, decide_eq_true_eq] at h
  rcases List.mem_cons.1 hu with rfl | hu
  ·exact ⟨h.1.1.1.1.1, h.1.1.1.2⟩
  ·have := chkT_gt ts t.2 h.2 u hu
   exact ⟨by omega, this.2⟩
theorem chkT_tail {t : Int × Int} {ts : List (Int × Int)} {last : Int} (h : chkT last (t :: ts) = true) : chkT t.2 ts = true := by
 unfold chkT at h
 rw [Bool.and_eq_true] at h
 exact h.2
theorem cf_head {t : Int × Int} {ts : List (Int × Int)} {last : Int} (h : chkT last (t :: ts) = true) : cf (t :: ts) t.2 = t.1 := by
 rw [cf_cons, if_pos rfl, cf_none ts t.2 (fun u hu => by have := (chkT_gt ts t.2 (chkT_tail h) u hu).1; omega)]; omega
theorem cf_less {ts : List (Int × Int)} {last r : Int} (h : chkT last ts = true) (hr : r ≤ last) : cf ts r = 0 := cf_none ts r (fun u hu => by have := (chkT_gt ts last h u hu).1; omega)
theorem same_terms {p q : Int} (hp : p ≠ 0) (hq : q ≠ 0) : ∀ (xt yt : List (Int × Int)) (l l' : Int), chkT l xt = true → chkT l' yt = true → (∀ r, cf xt r * p = cf yt r * q) → xt.map (fun t => (t.1 * p, t.2)) = yt.map (fun t => (t.1 * q, t.2))
 | [], [], _, _, _, _, _ => rfl
 | [], u :: yt, _, _, _, h2, h => by
  have h3 := h u.2
  rw [cf_head h2] at h3
  have := (chkT_gt _ _ h2 u (by simp)).2
  rw [show cf [] u.2 = 0 from rfl, Int.zero_mul] at h3
  exact absurd h3.symm (Int.mul_ne_zero this hq)
 | t :: xt, [], _, _, h1, _, h => by
  have h3 := h t.2
  rw [cf_head h1] at h3
  have := (chkT_gt _ _ h1 t (by simp)).2
  rw [show cf [] t.2 = 0 from rfl, Int.zero_mul] at h3
  exact absurd h3 (Int.mul_ne_zero this hp)
 | t :: xt, u :: yt, l, l', h1, h2, h => by
  have n1 := (chkT_gt _ _ h1 t (by simp)).2
  have n2 := (chkT_gt _ _ h2 u (by simp)).2
  have e : t.2 = u.2 := by
   rcases Int.lt_trichotomy t.2 u.2 with h3 | h3 | h3
   ·have h4 := h t.2
    rw [cf_head h1, cf_cons, if_neg (by omega), cf_less (chkT_tail h2) (by omega)] at h4
    simp only [Int.add_zero, Int.zero_mul] at h4
    exact absurd h4 (Int.mul_ne_zero n1 hp)
   ·exact h3
   ·have h4 := h u.2
    rw [cf_head h2, cf_cons, if_neg (by omega), cf_less (chkT_tail h1) (by omega)] at h4
    simp only [Int.add_zero, Int.zero_mul] at h4
    exact absurd h4.symm (Int.mul_ne_zero n2 hq)
  have e2 : t.1 * p = u.1 * q := by
   have h4 := h t.2
   rw [cf_head h1, e, cf_head h2] at h4
   exact h4
  rw [List.map_cons, List.map_cons, e2, e]
  congr 1
  refine same_terms hp hq xt yt t.2 u.2 (chkT_tail h1) (chkT_tail h2) (fun r => ?_)
  have h4 := h r
  rw [cf_cons, cf_cons, Int.add_mul, Int.add_mul, e] at h4
  split at h4
  ·omega
  ·simp only [Int.zero_mul, Int.zero_add] at h4; exact h4
theorem gcdL_scale' (m : Nat) : ∀ (l : List Int) (g : Nat), (l.map fun x => x * (m : Int)).foldl (fun g x => Nat.gcd g x.natAbs) (g * m) = l.foldl (fun g x => Nat.gcd g x.natAbs) g * m
 | [], _ => rfl
 | x :: l, g => by
  rw [List.map_cons, List.foldl_cons, List.foldl_cons, Int.natAbs_mul, Int.natAbs_natCast, Nat.gcd_mul_right]
  exact gcdL_scale' m l _
theorem gcdL_scale (m : Nat) (l : List Int) : gcdL (l.map fun x => x * (m : Int)) = gcdL l * m := by
 have := gcdL_scale' m l 0
 rw [Nat.zero_mul] at this
 exact this
theorem numOK_chk {d : Int} {ts : List (Int × Int)} (h : numOK d ts = true) : chkT 0 ts = true ∧ gcdL (d :: ts.map (·.1)) = 1 := by
 unfold numOK at h
 simp only [Bool.and_eq_true, decide_eq_true_eq] at h
 exact ⟨h.1.2, h.2⟩
theorem same_cf {xd yd : Int} {xt yt : List (Int × Int)} (hx : numOK xd xt = true) (hy : numOK yd yt = true) (h : ∀ r, cf xt r * yd = cf yt r * xd) : xd = yd ∧ xt = yt := by
 have px := numOK_parts hx; have py := numOK_parts hy
 obtain ⟨cx, gx⟩ := numOK_chk hx; obtain ⟨cy, gy⟩ := numOK_chk hy
 have hs := same_terms (show yd ≠ 0 by omega) (show xd ≠ 0 by omega) xt yt 0 0 cx cy h
 have e : xd = yd := by
  have g1 := gcdL_scale yd.toNat (xd :: xt.map (·.1))
  have g2 := gcdL_scale xd.toNat (yd :: yt.map (·.1))
  rw [gx, Nat.one_mul] at g1
  rw [gy, Nat.one_mul] at g2
  have e1 : ((xd :: xt.map (·.1)).map fun x => x * (yd.toNat : Int)) = ((yd :: yt.map (·.1)).map fun x => x * (xd.toNat : Int)) := by
   rw [Int.toNat_of_nonneg (by omega), Int.toNat_of_nonneg (by omega), List.map_cons, List.map_cons, Int.mul_comm xd yd, List.map_map, List.map_map]
   congr 1
   have := congrArg (List.map (·.1)) hs
   rw [List.map_map, List.map_map] at this
   exact this
  rw [e1, g2] at g1
  omega
 refine ⟨e, ?_⟩
 subst e
 have hinj : ∀ (a b : List (Int × Int)), a.map (fun t => (t.1 * xd, t.2)) = b.map (fun t => (t.1 * xd, t.2)) → a = b := fun a => by
  induction a with
  | nil => intro b hb; cases b with
   | nil => rfl
   | cons u b => cases hb
  | cons t a ih =>
   intro b hb
   cases b with
   | nil => cases hb
   | cons u b =>
    rw [List.map_cons, List.map_cons] at hb
    injection hb with h1 h2
    injection h1 with h3 h4
    rw [ih b h2]
    congr 1
    exact Prod.ext (Int.eq_of_mul_eq_mul_right (show xd ≠ 0 by omega) h3) h4
 exact hinj xt yt hs
theorem less_zero {xd yd : Int} {xt yt : List (Int × Int)} (hx : numOK xd xt = true) (hy : numOK yd yt = true) (h : Near (fun k => yd * linT xt k) (fun k => xd * linT yt k)) : ∀ r, cf xt r * yd = cf yt r * xd := by
 have px := numOK_parts hx; have py := numOK_parts hy
 obtain ⟨rx, _⟩ := numOK_roots hx; obtain ⟨ry, _⟩ := numOK_roots hy
 obtain ⟨hk1, hk2⟩ := lessS_keys rx ry yd xd
 have hl := lessS_len xt yt yd xd
 have hbd := lessS_bd (N := 10000000000) (xt := xt) (yt := yt) (m := yd) (k := xd) (by omega) (fun t ht => by
   have := (px.2.2.2 t ht).1.2.2.2
   exact mul_bd this (b := yd) (B := 100000) ⟨by omega, by omega⟩) (fun t ht => by
   have := (py.2.2.2 t ht).1.2.2.2
   exact mul_bd this (b := xd) (B := 100000) ⟨by omega, by omega⟩)
 have hbd2 : SumB (lessS xt yd yt xd) 3200000000000000000 := hbd.mono (by omega)
 have hkeys : (lessT xt yd yt xd).map (·.2) = (lessS xt yd yt xd).map (·.1) := by simp [lessT, swapT, Function.comp_def]
 obtain ⟨K, _, hK⟩ := SignOf.exists_ (lessT xt yd yt xd) (by
  intro t ht
  obtain ⟨p, hpm, rfl⟩ := List.mem_map.1 ht
  have h1 := getS_of_mem hk1 p hpm
  have h2 := hbd2 p.1
  rw [h1] at h2
  show -_ ≤ p.2 ∧ p.2 ≤ _
  omega) (by
  intro t ht
  exact hk2 _ (by rw [← hkeys]; exact List.mem_map_of_mem ht)) (by
  rw [hkeys]; exact hk1) (by
  simp [lessT]; omega)
 have hz : (lessT xt yd yt xd).filter nzT = [] := by
  rcases hK with h1 | h1
  ·exact h1
  ·exfalso
   have hb : Bdd (linT (lessT xt yd yt xd)) := Bdd.congr (fun k => (linT_lessT xt yd yt xd k).symm) h
   rcases verdict_range ((lessT xt yd yt xd).filter nzT) K with h2 | h2 | h2
   ·exact (verdict_grows h2).not_bdd (hb.congr fun k => (linT_nz _ k).symm)
   ·exact (verdict_falls h2).not_bdd (hb.neg.congr fun k => by rw [linT_nz _ k])
   ·exact h1 h2
 intro r
 have h0 : getS (lessS xt yd yt xd) r = 0 := by
  rcases getS_mem (lessS xt yd yt xd) r with h1 | h1
  ·exact h1
  ·have h2 : (getS (lessS xt yd yt xd) r, r) ∈ lessT xt yd yt xd := List.mem_map.2 ⟨_, h1, rfl⟩
   rcases Decidable.em (getS (lessS xt yd yt xd) r = 0) with h3 | h3
   ·exact h3
   ·have h4 : (getS (lessS xt yd yt xd) r, r) ∈ (lessT xt yd yt xd).filter nzT := List.mem_filter.2 ⟨h2, by simp [nzT, h3]⟩
    rw [hz] at h4; cases h4
 unfold lessS at h0
 rw [getS_addB, getS_addB, Int.mul_neg] at h0
 simp only [getS] at h0
 omega
theorem same_near {xd yd : Int} {xt yt : List (Int × Int)} (hx : numOK xd xt = true) (hy : numOK yd yt = true) (h : Near (fun k => yd * linT xt k) (fun k => xd * linT yt k)) : xd = yd ∧ xt = yt :=
 same_cf hx hy (less_zero hx hy h)
end Go.Proofs.YthkblgglmohciaaGreatDoor
namespace Go.Proofs.YthkblgglmohciaaGreatDoor
theorem chk_map {f : Int → Int} : ∀ (rs : List Int) (last : Int), rs.Pairwise (fun a b => a < b) → (∀ r ∈ rs, last < r ∧ RootOK r ∧ f r ≠ 0 ∧ -100000 ≤ f r ∧ f r ≤ 100000) → chkT last (rs.map fun r => (f r, r)) = true
 | [], _, _, _ => rfl
 | r :: rs, last, hp, h => by
  obtain ⟨h1, h2, h3, h4⟩ := h r (by simp)
  rw [List.pairwise_cons] at hp
  rw [List.map_cons]
  unfold chkT
  rw [Bool.and_eq_true]
  refine ⟨?_, chk_map rs r hp.2 (fun q hq => ⟨hp.1 q hq, (h q (by simp [hq])).2⟩)⟩
  unfold okT
  simp only [Bool.and_eq_true, decide_eq_true_eq]
  have h5 := (splitN_free r.toNat (by have := h2.1; omega)).2 h2.2.2
  exact ⟨⟨⟨⟨h1, h2.2.1⟩, h3⟩, by simp [inB]; omega⟩, by omega⟩
theorem keys_getS {l : List (Int × Int)} (h : (l.map (·.1)).Nodup) : (l.map (·.1)).map (getS l) = l.map (·.2) := by
 rw [List.map_map]
 exact List.map_congr_left fun p hp => getS_of_mem h p hp
theorem tdiv_mul {a G : Int} (h : G ∣ a) : a.tdiv G * G = a := Int.tdiv_mul_cancel h
theorem getS_dvd {l : List (Int × Int)} {G r : Int} (h : ∀ p ∈ l, G ∣ p.2) : G ∣ getS l r := by
 rcases getS_mem l r with h1 | h1
 ·rw [h1]; exact Int.dvd_zero G
 ·exact h _ h1
theorem overS_numOK {kv : List (Int × Int)} {den d : Int} {ts : List (Int × Int)} (hn : (kv.map (·.1)).Nodup) (hr : ∀ r ∈ kv.map (·.1), RootOK r) (hd : 0 < den) (h : overS kv den = (d, ts, 0)) : numOK d ts = true := by
 have hG0 := overG_ne (kv := kv) (show den ≠ 0 by omega)
 have hGp : overG kv den = (gcdL ((kv.filter nz).map (·.2) ++ [den]) : Int) := by unfold overG; rw [if_neg (by omega)]
 obtain ⟨hd1, hd2⟩ := overG_dvd (kv := kv) (den := den)
 have hn' : ((kv.filter nz).map (·.1)).Nodup := List.Nodup.sublist (List.filter_sublist.map _) hn
 have hr' : ∀ r ∈ (kv.filter nz).map (·.1), RootOK r := fun r hm => by
  obtain ⟨p, hp, rfl⟩ := List.mem_map.1 hm
  exact hr _ (List.mem_map_of_mem (List.mem_filter.1 hp).1)
 have hz : ∀ p ∈ kv.filter nz, p.2 ≠ 0 := fun p hp => by have := (List.mem_filter.1 hp).2; simpa [nz] using this
 unfold overS at h
 split at h
 ·injection h with _ h; injection h with _ h; cases h
 ·rename_i hl
  split at h
  ·injection h with _ h; injection h with _ h; cases h
  ·rename_i hb
   injection h with h1 h
   injection h with h2 _
   simp only [Bool.or_eq_true, decide_eq_true_eq, List.any_eq_true, not_or, not_exists, not_and] at hb
   obtain ⟨hb1, hb2⟩ := hb
   have hG1 : 0 < overG kv den := by omega
   generalize hGe : overG kv den = G at *
   have hdm := tdiv_mul hd1
   have hdp : 1 ≤ den.tdiv G := by
    rcases Int.lt_or_le 0 (den.tdiv G) with h | h
    ·omega
    ·have := Int.mul_nonneg (show 0 ≤ -(den.tdiv G) by omega) (Int.le_of_lt hG1)
     rw [Int.neg_mul, hdm] at this; omega
   have hT : overT kv den = (sortI ((kv.filter nz).map (·.1))).map fun r => ((getS (kv.filter nz) r).tdiv G, r) := by unfold overT termsG; rw [hGe]
   rw [hT] at hl hb2 h2
   subst h1
   subst h2
   have hsp := sortI_perm ((kv.filter nz).map (·.1))
   have hss : (sortI ((kv.filter nz).map (·.1))).Pairwise (fun a b => a < b) := by
    have hnd : (sortI ((kv.filter nz).map (·.1))).Nodup := (hsp.nodup_iff).2 hn'
    exact (List.Pairwise.and (sortI_sorted _) hnd).imp (fun h => by omega)
   have hmem : ∀ r ∈ sortI ((kv.filter nz).map (·.1)), r ∈ (kv.filter nz).map (·.1) := fun r hm => hsp.mem_iff.1 hm
   unfold numOK
   simp only [Bool.and_eq_true, decide_eq_true_eq]
   refine ⟨⟨⟨by simp [inB]; omega, by omega⟩, ?_⟩, ?_⟩
   ·refine chk_map (f := fun r => (getS (kv.filter nz) r).tdiv G) _ 0 hss (fun r hm => ?_)
    have hro := hr' r (hmem r hm)
    have hbt : ¬ tooBig ((getS (kv.filter nz) r).tdiv G, r) = true := hb2 _ (List.mem_map_of_mem hm)
    obtain ⟨p, hp, hpe⟩ := List.mem_map.1 (hmem r hm)
    have hg := getS_of_mem hn' p hp
    rw [hpe] at hg
    have hc := tdiv_mul (getS_dvd (r := r) hd2)
    refine ⟨by have := hro.1; omega, hro, fun e => ?_, ?_⟩
    ·rw [e, Int.zero_mul, hg] at hc; exact hz p hp hc.symm
    ·unfold tooBig at hbt
     rw [Bool.or_eq_true, not_or] at hbt
     have := hbt.2
     simpa [inB] using this
   ·have hsc := gcdL_scale G.toNat (den.tdiv G :: ((sortI ((kv.filter nz).map (·.1))).map fun r => ((getS (kv.filter nz) r).tdiv G, r)).map (·.1))
    rw [Int.toNat_of_nonneg (Int.le_of_lt hG1), List.map_cons, hdm, List.map_map, List.map_map] at hsc
    have e1 : (sortI ((kv.filter nz).map (·.1))).map (((fun x => x * G) ∘ fun x : Int × Int => x.1) ∘ fun r => ((getS (kv.filter nz) r).tdiv G, r)) = (sortI ((kv.filter nz).map (·.1))).map (getS (kv.filter nz)) :=
     List.map_congr_left fun r _ => tdiv_mul (getS_dvd (r := r) hd2)
    rw [e1] at hsc
    have e2 : gcdL (den :: (sortI ((kv.filter nz).map (·.1))).map (getS (kv.filter nz))) = G.toNat := by
     have p1 : (den :: (sortI ((kv.filter nz).map (·.1))).map (getS (kv.filter nz))).Perm ((kv.filter nz).map (·.2) ++ [den]) := by
      refine ((hsp.map _).cons den).trans ?_
      rw [keys_getS hn']
      exact (List.perm_append_singleton den _).symm
     rw [gcdL_perm p1]
     omega
    rw [e2] at hsc
    have : 0 < G.toNat := by omega
    have h5 : 1 * G.toNat = gcdL (den.tdiv G :: ((sortI ((kv.filter nz).map (·.1))).map fun r => ((getS (kv.filter nz) r).tdiv G, r)).map (·.1)) * G.toNat := by omega
    exact (Nat.eq_of_mul_eq_mul_right this h5).symm
theorem tdiv_le {a G M : Int} (h : -M ≤ a ∧ a ≤ M) : -M ≤ a.tdiv G ∧ a.tdiv G ≤ M := by
 have : (a.tdiv G).natAbs ≤ a.natAbs := by rw [Int.natAbs_tdiv]; exact Nat.div_le_self _ _
 omega
theorem overS_small {kv : List (Int × Int)} {den : Int} (hn : (kv.map (·.1)).Nodup) (hl : kv.length ≤ 4) (hb : SumB kv 100000) (hr : ∀ r ∈ kv.map (·.1), r ≤ 1000) (hd : 1 ≤ den ∧ den ≤ 100000) : (overS kv den).2.2 = 0 := by
 have hlen : (overT kv den).length ≤ 4 := by
  unfold overT termsG
  rw [List.length_map, (sortI_perm _).length_eq, List.length_map]
  exact Nat.le_trans (List.length_filter_le _ _) hl
 unfold overS
 rw [if_neg (by omega), if_neg]
 intro h
 rw [Bool.or_eq_true, decide_eq_true_eq] at h
 rcases h with h | h
 ·have := (tdiv_le (a := den) (G := overG kv den) (M := 100000) (by omega)).2; omega
 ·obtain ⟨t, ht, hbt⟩ := List.any_eq_true.1 h
  unfold overT termsG at ht
  obtain ⟨r, hm, rfl⟩ := List.mem_map.1 ht
  have hm' := (sortI_perm _).mem_iff.1 hm
  obtain ⟨p, hp, rfl⟩ := List.mem_map.1 hm'
  have hn' : ((kv.filter nz).map (·.1)).Nodup := List.Nodup.sublist (List.filter_sublist.map _) hn
  have hg := getS_of_mem hn' p hp
  have hg2 := getS_of_mem hn p (List.mem_filter.1 hp).1
  have h1 := hb p.1
  rw [hg2, ← hg] at h1
  have h2 := tdiv_le (G := overG kv den) h1
  have h3 := hr p.1 (List.mem_map_of_mem (List.mem_filter.1 hp).1)
  unfold tooBig at hbt
  rw [Bool.or_eq_true, decide_eq_true_eq] at hbt
  rcases hbt with hbt | hbt
  ·dsimp only at hbt; omega
  ·have : inB ((getS (kv.filter nz) p.1).tdiv (overG kv den)) (-100000) 100000 = true := by simp [inB]; omega
   rw [this] at hbt; cases hbt
theorem addAll_keys : ∀ (l kv : List (Int × Int)) (m : Int), (∀ r ∈ kv.map (·.1), RootOK r) → (∀ t ∈ l, t.2 ≤ 1000) → ∀ r ∈ (addAll kv l m).map (·.1), RootOK r
 | [], _, _, h, _ => h
 | t :: l, kv, m, h, ht => by
  have h1 : ∀ r ∈ (addRoot kv (t.1 * m) t.2).map (·.1), RootOK r := by
   unfold addRoot
   split
   ·rename_i h0
    rw [addS_keys]
    split
    ·exact h
    ·intro r hr
     rcases List.mem_append.1 hr with h2 | h2
     ·exact h r h2
     ·simp only [List.mem_singleton] at h2
      subst h2
      have hn : 1 ≤ t.2.toNat := by omega
      obtain ⟨_, g2, _, g4⟩ := splitN_spec t.2.toNat hn
      have g5 := (splitN_le t.2.toNat hn).2
      have := ht t (by simp)
      exact ⟨by omega, by omega, by rw [Int.toNat_natCast]; exact g2⟩
   ·exact h
  exact addAll_keys l _ m h1 (fun u hu => ht u (by simp [hu]))
theorem numOK_le {d : Int} {ts : List (Int × Int)} (h : numOK d ts = true) : ∀ t ∈ ts, t.2 ≤ 1000 := fun t ht => ((numOK_roots h).1 t ht).2.1
theorem plusS_numOK {xd yd m d : Int} {xt yt ts : List (Int × Int)} (h : plusS xd xt yd yt m = (d, ts, 0)) : numOK d ts = true := by
 obtain ⟨h1, h2, _⟩ := plusS_lin h
 have hx := numOK_parts h1; have hy := numOK_parts h2
 unfold plusS at h
 rw [h1, h2] at h
 simp only [Bool.and_self, if_true] at h
 exact overS_numOK (addAll_nodup' yt _ _ (addAll_nodup' xt [] _ (by simp))) (addAll_keys yt _ _ (addAll_keys xt [] _ (by simp) (numOK_le h1)) (numOK_le h2)) (Int.mul_pos (by omega) (by omega)) h
end Go.Proofs.YthkblgglmohciaaGreatDoor
