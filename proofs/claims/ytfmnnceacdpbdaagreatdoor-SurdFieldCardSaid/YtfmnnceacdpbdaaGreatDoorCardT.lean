import Derived.Test.YtfmnnceacdpbdaaGreatDoorCardNToMaxC
set_option linter.unusedVariables false
set_option linter.unusedSimpArgs false
namespace Go.Proofs.YtfmnnceacdpbdaaGreatDoor
open Go.ChangeShapes Go.WideShapes Go.ChangeAt Go.RowKit Go.Joins Go.Deep
section
variable {H : Type} {enc : TypeId × Value → H} {W : World} {spare : Nat → Bool} {held : Bool} {fuel : Nat}
theorem Tryz.cellsNum : Tryz.prog.cellsOf 24 = 2 := by kernel_rfl
theorem Tryz.cellsInt1 : Tryz.prog.cellsOf 3 = 1 := by kernel_rfl
theorem Tryz.cellsTerms : Tryz.prog.cellsOf 22 = 1 := by kernel_rfl
theorem Tryz.cellsThree : Tryz.prog.cellsOf 48 = 6 := by kernel_rfl
theorem open_numC {c0 c1 : Value} {x : DataW H × List MemPlace} (h : DataW.trod enc Tryz.prog W 0 spare held fuel 24 [c0, c1] = some x) :
  ∃ (den : Int) (A : Option Addr) (n c : Nat) (l : List (Int × Int)), c0 = .int .i64 den ∧ c1 = .slice A n c ∧ TermsQ W W.heap.size A n c l := by
 obtain ⟨y0, y1, m, -, -, h0, h1⟩ := trod_struct2 Tryz.underlying24 h
 have h0' : DataW.trod enc Tryz.prog W 0 spare held m 3 [c0] = some y0 := by rw [← h0, Tryz.cellsInt1]; rfl
 have h1' : DataW.trod enc Tryz.prog W 0 spare held m 22 [c1] = some y1 := by rw [← h1, Tryz.cellsTerms]; rfl
 obtain ⟨den, e0, -, -⟩ := DataW.trod_int Tryz.underlying3 h0'
 obtain ⟨A, n, c, l, e1, hP, -⟩ := open_termsQ h1'
 injection e0 with e0
 injection e1 with e1
 exact ⟨den, A, n, c, l, e0, e1, hP⟩
set_option maxRecDepth 100000 in
theorem open_three {r : Reach} {b0 : Nat} {v : Value} {d : DataW H} {p : List MemPlace} (hv : Value.okWide Tryz.prog W r b0 48 v) (h : DataW.Trod enc Tryz.prog W 0 spare held 48 v d p) :
  ∃ (xd : Int) (xA : Option Addr) (xn xc : Nat) (xt : List (Int × Int)) (yd : Int) (yA : Option Addr) (yn yc : Nat) (yt : List (Int × Int)) (zd : Int) (zA : Option Addr) (zn zc : Nat) (zt : List (Int × Int)),
   v = .agg #[.int .i64 xd, .slice xA xn xc, .int .i64 yd, .slice yA yn yc, .int .i64 zd, .slice zA zn zc] ∧ TermsQ W W.heap.size xA xn xc xt ∧ TermsQ W W.heap.size yA yn yc yt ∧ TermsQ W W.heap.size zA zn zc zt := by
 obtain ⟨cs, rfl, hsz⟩ := okWide_struct Tryz.underlying48 hv
 rw [Tryz.cellsThree] at hsz
 obtain ⟨c0, c1, c2, c3, c4, c5, rfl⟩ : ∃ c0 c1 c2 c3 c4 c5, cs = #[c0, c1, c2, c3, c4, c5] := by
  obtain ⟨l⟩ := cs
  match l, hsz with
  | [c0, c1, c2, c3, c4, c5], _ => exact ⟨c0, c1, c2, c3, c4, c5, rfl⟩
 obtain ⟨fuel, hf⟩ := h
 obtain ⟨y0, y1, y2, n, -, -, h0, h1, h2⟩ := trod_struct3 Tryz.underlying48 hf
 have h0' : DataW.trod enc Tryz.prog W 0 spare held n 24 [c0, c1] = some y0 := by rw [← h0, Tryz.cellsNum]; rfl
 have h1' : DataW.trod enc Tryz.prog W 0 spare held n 24 [c2, c3] = some y1 := by rw [← h1, Tryz.cellsNum]; rfl
 have h2' : DataW.trod enc Tryz.prog W 0 spare held n 24 [c4, c5] = some y2 := by rw [← h2, Tryz.cellsNum]; rfl
 obtain ⟨xd, xA, xn, xc, xt, rfl, rfl, hx⟩ := open_numC h0'
 obtain ⟨yd, yA, yn, yc, yt, rfl, rfl, hy⟩ := open_numC h1'
 obtain ⟨zd, zA, zn, zc, zt, rfl, rfl, hz⟩ := open_numC h2'
 exact ⟨xd, xA, xn, xc, xt, yd, yA, yn, yc, yt, zd, zA, zn, zc, zt, rfl, hx, hy, hz⟩
end
end Go.Proofs.YtfmnnceacdpbdaaGreatDoor
