import Derived.Test.YtloegjlknpioeaaGreatDoorCardAToCardB
set_option linter.unusedVariables false
set_option linter.unusedSimpArgs false
namespace Go.Proofs.YtloegjlknpioeaaGreatDoor
open Go.ChangeShapes Go.WideShapes Go.ChangeAt Go.RowKit Go.Joins Go.Deep
theorem array5 {α : Type} {cs : Array α} (h : cs.size = 5) : ∃ c0 c1 c2 c3 c4, cs = #[c0, c1, c2, c3, c4] := by
 obtain ⟨l⟩ := cs
 match l, h with
 | [c0, c1, c2, c3, c4], _ => exact ⟨c0, c1, c2, c3, c4, rfl⟩
section
variable {H : Type} {enc : TypeId × Value → H} {W : World} {spare : Nat → Bool} {held : Bool}
theorem open_agg5 {P : Program} {r : Reach} {b0 : Nat} {t : TypeId} {f0 f1 f2 f3 f4 : Field} {v : Value} {d : DataW H} {p : List MemPlace} (hs : P.underlying t = some (.struct #[f0, f1, f2, f3, f4])) (hone : oneCellFields P #[f0, f1, f2, f3, f4] = true) (hC : P.cellsOf t = 5)
  (hv : Value.okWide P W r b0 t v) (h : DataW.Trod enc P W 0 spare held t v d p) :
  ∃ (v0 v1 v2 v3 v4 : Value) (y0 y1 y2 y3 y4 : DataW H × List MemPlace) (n : Nat), v = .agg #[v0, v1, v2, v3, v4] ∧
   DataW.trod enc P W 0 spare held n f0.type [v0] = some y0 ∧ DataW.trod enc P W 0 spare held n f1.type [v1] = some y1 ∧ DataW.trod enc P W 0 spare held n f2.type [v2] = some y2 ∧ DataW.trod enc P W 0 spare held n f3.type [v3] = some y3 ∧ DataW.trod enc P W 0 spare held n f4.type [v4] = some y4 := by
 obtain ⟨cs, rfl, hsz⟩ := okWide_struct hs hv
 obtain ⟨c0, c1, c2, c3, c4, rfl⟩ := array5 (hsz.trans hC)
 obtain ⟨fuel, hf⟩ := h
 obtain ⟨xs, n, _, hx, hl, hlen, hf⟩ := DataW.trod_struct hs hf
 obtain ⟨o0, k0⟩ := hone_of hone 0 f0 rfl
 obtain ⟨o1, k1⟩ := hone_of hone 1 f1 rfl
 obtain ⟨o2, k2⟩ := hone_of hone 2 f2 rfl
 obtain ⟨o3, k3⟩ := hone_of hone 3 f3 rfl
 obtain ⟨o4, k4⟩ := hone_of hone 4 f4 rfl
 match xs, hlen, hf with
 | [y0, y1, y2, y3, y4], _, hf =>
  have h0 := hf 0 f0 rfl
  have h1 := hf 1 f1 rfl
  have h2 := hf 2 f2 rfl
  have h3 := hf 3 f3 rfl
  have h4 := hf 4 f4 rfl
  exact ⟨c0, c1, c2, c3, c4, y0, y1, y2, y3, y4, n, rfl, by simpa [Value.cells, o0, k0] using h0, by simpa [Value.cells, o1, k1] using h1, by simpa [Value.cells, o2, k2] using h2, by simpa [Value.cells, o3, k3] using h3, by simpa [Value.cells, o4, k4] using h4⟩
set_option maxRecDepth 100000 in
theorem open_drawn {r : Reach} {b0 : Nat} {v : Value} {d : DataW H} {p : List MemPlace} (hv : Value.okWide Tryz.prog W r b0 69 v) (h : DataW.Trod enc Tryz.prog W 0 spare held 69 v d p) :
  ∃ a b c e g : Int, v = .agg #[.int .u8 a, .int .u8 b, .int .u8 c, .int .u8 e, .int .u16 g] ∧ (Lit.int .u8 a).wf = true ∧ (Lit.int .u8 b).wf = true ∧ (Lit.int .u8 c).wf = true ∧ (Lit.int .u8 e).wf = true ∧ (Lit.int .u16 g).wf = true := by
 obtain ⟨v0, v1, v2, v3, v4, y0, y1, y2, y3, y4, m, rfl, h0, h1, h2, h3, h4⟩ := open_agg5 Tryz.underlying69 (by kernel_rfl) (by kernel_rfl) hv h
 obtain ⟨a, e0, -, w0⟩ := DataW.trod_int Tryz.underlying5 h0
 obtain ⟨b, e1, -, w1⟩ := DataW.trod_int Tryz.underlying5 h1
 obtain ⟨c, e2, -, w2⟩ := DataW.trod_int Tryz.underlying5 h2
 obtain ⟨e, e3, -, w3⟩ := DataW.trod_int Tryz.underlying5 h3
 obtain ⟨g, e4, -, w4⟩ := DataW.trod_int Tryz.underlying62 h4
 injection e0 with e0
 injection e1 with e1
 injection e2 with e2
 injection e3 with e3
 injection e4 with e4
 exact ⟨a, b, c, e, g, by rw [e0, e1, e2, e3, e4], w0, w1, w2, w3, w4⟩
end
end Go.Proofs.YtloegjlknpioeaaGreatDoor
