import Derived.Test.YthkblgglmohciaaGreatDoorTxtAToVrqA
import Derived.Test.YthkblgglmohciaaGreatDoorWeakRToAppQ
import Derived.Test.YthkblgglmohciaaGreatDoorDigIToDgtI
set_option linter.unusedVariables false
set_option linter.unusedSimpArgs false
namespace Go.Proofs.YthkblgglmohciaaGreatDoor
open Go Go.RowKit
structure ReadI (w W : World) (X2 X4 X5 Y : Nat) (S : RdS) (A : Option Addr) (c : Nat) : Prop where
 r : Blk W X2 24 #[.int .i64 0, .slice none 0 0]
 x : Blk W X4 24 #[.int .i64 S.den, .slice A S.ts.length c]
 t : Blk W X5 52 #[.int .i64 S.co, .int .i64 S.ro]
 row : W.ownsRow Y 52 2 (.slice A S.ts.length c) S.ts.length (cellsT S.ts)
 b : Below w.heap.size w W
 sz : Y ≤ W.heap.size
structure ReadX (w : World) (X2 X4 X5 Y : Nat) : Prop where
 h2 : w.heap.size ≤ X2
 h4 : X2 < X4
 h5 : X4 < X5
 hY : X5 < Y
section
variable {w W : World} {X2 X4 X5 Y : Nat} {ts : List (Int × Int)} {den co ro sg : Int} {dg : Nat} {rt dn : Bool} {A : Option Addr} {c : Nat}
theorem ReadI.setDen (hx : ReadX w X2 X4 X5 Y) (h : ReadI w W X2 X4 X5 Y ⟨ts, den, co, ro, sg, dg, rt, dn⟩ A c) (v sg' : Int) (dg' : Nat) (rt' dn' : Bool) : ReadI w (W.setCell ⟨X4, 0, none⟩ (.int .i64 v)) X2 X4 X5 Y ⟨ts, v, co, ro, sg', dg', rt', dn'⟩ A c := by
 obtain ⟨a1, a2, a3, a4⟩ := hx
 exact ⟨h.r.far (by show X2 ≠ X4; omega) _, h.x.set_ 0 _, h.t.far (by show X5 ≠ X4; omega) _, own_far h.row (by show X4 < Y; omega) _, h.b.setCell (by show _ ≤ X4; omega) _, by rw [World.size_setCell]; exact h.sz⟩
theorem ReadI.setCo (hx : ReadX w X2 X4 X5 Y) (h : ReadI w W X2 X4 X5 Y ⟨ts, den, co, ro, sg, dg, rt, dn⟩ A c) (v sg' : Int) (dg' : Nat) (rt' dn' : Bool) : ReadI w (W.setCell ⟨X5, 0, none⟩ (.int .i64 v)) X2 X4 X5 Y ⟨ts, den, v, ro, sg', dg', rt', dn'⟩ A c := by
 obtain ⟨a1, a2, a3, a4⟩ := hx
 exact ⟨h.r.far (by show X2 ≠ X5; omega) _, h.x.far (by show X4 ≠ X5; omega) _, h.t.set_ 0 _, own_far h.row (by show X5 < Y; omega) _, h.b.setCell (by show _ ≤ X5; omega) _, by rw [World.size_setCell]; exact h.sz⟩
theorem ReadI.setRo (hx : ReadX w X2 X4 X5 Y) (h : ReadI w W X2 X4 X5 Y ⟨ts, den, co, ro, sg, dg, rt, dn⟩ A c) (v sg' : Int) (dg' : Nat) (rt' dn' : Bool) : ReadI w (W.setCell ⟨X5, 1, none⟩ (.int .i64 v)) X2 X4 X5 Y ⟨ts, den, co, v, sg', dg', rt', dn'⟩ A c := by
 obtain ⟨a1, a2, a3, a4⟩ := hx
 exact ⟨h.r.far (by show X2 ≠ X5; omega) _, h.x.far (by show X4 ≠ X5; omega) _, h.t.set_ 1 _, own_far h.row (by show X5 < Y; omega) _, h.b.setCell (by show _ ≤ X5; omega) _, by rw [World.size_setCell]; exact h.sz⟩
theorem ReadI.rest (h : ReadI w W X2 X4 X5 Y ⟨ts, den, co, ro, sg, dg, rt, dn⟩ A c) (sg' : Int) (dg' : Nat) (rt' dn' : Bool) : ReadI w W X2 X4 X5 Y ⟨ts, den, co, ro, sg', dg', rt', dn'⟩ A c := ⟨h.r, h.x, h.t, h.row, h.b, h.sz⟩
theorem ReadI.start (w : World) : ReadI w (((w.alloc (.cells #[.int .i64 0, .slice none 0 0] 24)).alloc (.cells #[.int .i64 1, .slice none 0 0] 24)).alloc (.cells #[.int .i64 0, .int .i64 1] 52)) w.heap.size (w.heap.size + 1) (w.heap.size + 2) (w.heap.size + 3) rdZero none 0 := by
 refine ⟨((Blk.new w _ _).alloc _).alloc _, ?_, ?_, World.ownsRow_nil _ _ _ _, (((Below.refl _ _).alloc (Nat.le_refl _) _).alloc (by simp) _).alloc (by simp; omega) _, by simp⟩
 ·have h := (Blk.new (w.alloc (.cells #[.int .i64 0, .slice none 0 0] 24)) 24 #[.int .i64 1, .slice none 0 0]).alloc (.cells #[.int .i64 0, .int .i64 1] 52)
  rw [World.size_alloc] at h
  exact h
 ·have h := Blk.new ((w.alloc (.cells #[.int .i64 0, .slice none 0 0] 24)).alloc (.cells #[.int .i64 1, .slice none 0 0] 24)) 52 #[.int .i64 0, .int .i64 1]
  rw [World.size_alloc, World.size_alloc] at h
  exact h
theorem ReadI.grow {w1 w3 : World} {v : Value} {A' : Option Addr} {c' : Nat} {p q : Int} (hx : ReadX w X2 X4 X5 Y) (h : ReadI w W X2 X4 X5 Y ⟨ts, den, co, ro, sg, dg, rt, dn⟩ A c) (hb : Below W.heap.size W w1) (hv : v = .slice A' (ts.length + 1) c')
  (hrow : w3.ownsRow Y 52 2 v (ts.length + 1) (cellsT ts ++ [.int .i64 p, .int .i64 q])) (hg : w1.grownBy w3 (Value.slice A ts.length c).ownBlock) :
  ReadI w (w3.setCell ⟨X4, 1, none⟩ (.slice A' (ts.length + 1) c')) X2 X4 X5 Y ⟨ts ++ [(p, q)], den, co, ro, sg, dg, rt, dn⟩ A' c' := by
 obtain ⟨a1, a2, a3, a4⟩ := hx
 subst hv
 have hb3 : Below Y W w3 := (hb.mono h.sz).grown hg (by have := hb.size; have := h.sz; omega) (fun j e => (h.row.lt j e).1)
 have hl : (ts ++ [(p, q)]).length = ts.length + 1 := by simp
 refine ⟨(h.r.below hb3 (by omega)).far (by show X2 ≠ X4; omega) _, ?_, (h.t.below hb3 (by omega)).far (by show X5 ≠ X4; omega) _, ?_, (h.b.trans (hb3.mono (by omega))).setCell (by show _ ≤ X4; omega) _, by rw [World.size_setCell]; have := hb3.size; have := h.sz; omega⟩
 ·dsimp only
  rw [hl]
  exact (h.x.below hb3 (by omega)).set_ 1 _
 ·dsimp only
  rw [hl, cellsT_snoc]
  exact own_far hrow (by show X4 < Y; omega) _
end
theorem byte_drop {l : List UInt8} {i : Nat} (h : i < l.length) : (byteN l ++ [0]).drop i = (l[i]).toNat :: (byteN l ++ [0]).drop (i + 1) := by
 have h1 : i < (byteN l ++ [0]).length := by simp [byteN]; omega
 rw [List.drop_eq_getElem_cons h1]
 congr 1
 rw [List.getElem_append_left (by simpa [byteN] using h)]
 simp [byteN]
theorem byte_last (l : List UInt8) : (byteN l ++ [0]).drop l.length = [0] := by
 have : (byteN l).length = l.length := by simp [byteN]
 rw [← this]; simp
theorem byte_end {l : List UInt8} {i : Nat} (h : i = l.length) : (byteN l ++ [0]).drop i = 0 :: (byteN l ++ [0]).drop (i + 1) := by
 subst h
 rw [byte_last]
 have : (byteN l ++ [0]).length = l.length + 1 := by simp [byteN]
 rw [List.drop_of_length_le (by omega)]
theorem byte_past {l : List UInt8} {i : Nat} (h : l.length < i) : (byteN l ++ [0]).drop i = [] := List.drop_of_length_le (by simp [byteN]; omega)
section
variable {f : Bool} {b : Nat} {S : RdS}
theorem step_bad_dig (hb : 48 ≤ b ∧ b ≤ 57) (h : 6 < S.dg + 1) : rdStep f b S = none := by unfold rdStep; rw [if_pos hb, if_pos h]
theorem step_dn (hb : 48 ≤ b ∧ b ≤ 57) (h : ¬ 6 < S.dg + 1) (h1 : S.dn = true) : rdStep f b S = some { S with den := addD S.den b, dg := S.dg + 1 } := by unfold rdStep; rw [if_pos hb, if_neg h, if_pos h1]
theorem step_rt (hb : 48 ≤ b ∧ b ≤ 57) (h : ¬ 6 < S.dg + 1) (h1 : S.dn = false) (h2 : S.rt = true) : rdStep f b S = some { S with ro := addD S.ro b, dg := S.dg + 1 } := by unfold rdStep; rw [if_pos hb, if_neg h, if_neg (by rw [h1]; decide), if_pos h2]
theorem step_co (hb : 48 ≤ b ∧ b ≤ 57) (h : ¬ 6 < S.dg + 1) (h1 : S.dn = false) (h2 : S.rt = false) : rdStep f b S = some { S with co := addD S.co b, dg := S.dg + 1 } := by unfold rdStep; rw [if_pos hb, if_neg h, if_neg (by rw [h1]; decide), if_neg (by rw [h2]; decide)]
theorem step_r (h1 : S.dn = false) (h2 : S.rt = false) : rdStep f 114 S = some { S with co := if S.dg = 0 then 1 else S.co, ro := 0, rt := true, dg := 0 } := by unfold rdStep; rw [if_neg (by decide), if_pos ⟨rfl, h1, h2⟩]
theorem step_open : rdStep true 40 S = some S := by unfold rdStep; rw [if_neg (by decide), if_neg (fun h => by have := h.1; omega), if_pos ⟨rfl, rfl⟩]
theorem step_none (h0 : ¬ (48 ≤ b ∧ b ≤ 57)) (h1 : ¬ (b = 114 ∧ S.dn = false ∧ S.rt = false)) (h2 : ¬ (b = 40 ∧ f = true)) (h3 : sepB b = false) : rdStep f b S = none := by unfold rdStep; rw [if_neg h0, if_neg h1, if_neg h2, if_neg (by rw [h3]; decide)]
theorem step_sep (hc : sepB b = true) : rdStep f b S = some ⟨endT S, if b = 47 then 0 else S.den, 0, 1, if b = 45 then -1 else 1, 0, false, S.dn || b == 47⟩ := by
 have hc2 : b = 41 ∨ b = 43 ∨ b = 45 ∨ b = 47 ∨ b = 0 := by
  unfold sepB at hc
  simp only [Bool.or_eq_true, beq_iff_eq] at hc
  omega
 unfold rdStep
 rw [if_neg (by omega), if_neg (by omega), if_neg (by omega), if_pos hc]
theorem endT_no (h : S.dn = true ∨ (S.rt = false ∧ S.dg = 0)) : endT S = S.ts := by
 unfold endT
 rw [if_neg]
 rintro ⟨h1, h2⟩
 rcases h with h | ⟨h, h3⟩
 ·rw [h] at h1; cases h1
 ·rcases h2 with h2 | h2
  ·omega
  ·rw [h] at h2; cases h2
theorem endT_zero {p : Int} (h1 : S.dn = false) (h2 : 0 < S.dg ∨ S.rt = true) (hp : wrap64 (S.co * S.sg) = p) (h : p = 0) : endT S = S.ts := by
 unfold endT; rw [if_pos ⟨h1, h2⟩, hp, if_pos h]
theorem endT_app {p : Int} (h1 : S.dn = false) (h2 : 0 < S.dg ∨ S.rt = true) (hp : wrap64 (S.co * S.sg) = p) (h : ¬ p = 0) : endT S = S.ts ++ [(p, S.ro)] := by
 unfold endT; rw [if_pos ⟨h1, h2⟩, hp, if_neg h]
end
def ReadPost (w : World) (res : Int × List (Int × Int) × Bool) (e : Ending) (w' : World) : Prop :=
 ∃ (A : Option Addr) (c : Nat), e = .returned (.tuple #[.agg #[.int .i64 res.1, .slice A res.2.1.length c], .bool res.2.2]) ∧ TermsQ w' w'.heap.size A res.2.1.length c res.2.1 ∧ Below w.heap.size w w'
set_option maxHeartbeats 32000000 in
set_option maxRecDepth 100000 in
theorem read10_any (l : List UInt8) (w : World) (hl : l.length ≤ 1000) : Calls Tryz.prog 21 #[.string ⟨l.toArray⟩] w (ReadPost w (readS l)) := by
 obtain ⟨i1, hi1, hy0, hy1, hy2⟩ := info_parts Tryz.infoTerm
 obtain ⟨s, hs⟩ : ∃ s : ByteArray, s = ⟨l.toArray⟩ := ⟨_, rfl⟩
 have hsz : s.size = l.length := str_of hs
 have hidx : ∀ i (h : i < l.length) (h2 : i < s.size), ((s[i]'h2).toNat : Int) = ((l[i]'h).toNat : Int) := fun i h h2 => by subst hs; rfl
 rw [← hs]
 have HIDX := hide hidx
 have HSL := hide hs
 have HST := hide (ReadI.start w)
 have HXX : Hid (ReadX w w.heap.size (w.heap.size + 1) (w.heap.size + 2) (w.heap.size + 3)) := hide ⟨by omega, by omega, by omega, by omega⟩
 obtain ⟨R, hR⟩ : ∃ R, R = rdRun true (byteN l ++ [0]) rdZero := ⟨_, rfl⟩
 have HRES := hide (show readS l = readO l R by rw [hR]; rfl)
 have HR := hide hR
 obtain ⟨res, hrs⟩ : ∃ res, readS l = res := ⟨_, rfl⟩
 rw [hrs] at HRES ⊢
 clear hs hidx hR hrs
 go_enter Tryz.func21, Tryz.ntmps21
 go_upto_region 3 with fail
 obtain ⟨X2, hX2⟩ : ∃ X, X = w.heap.size := ⟨_, rfl⟩
 obtain ⟨X4, hX4⟩ : ∃ X, X = w.heap.size + 1 := ⟨_, rfl⟩
 obtain ⟨X5, hX5⟩ : ∃ X, X = w.heap.size + 1 + 1 := ⟨_, rfl⟩
 obtain ⟨Y, hY⟩ : ∃ Y, Y = w.heap.size + 3 := ⟨_, rfl⟩
 have HST1 : Hid (ReadI w (((w.alloc (.cells #[.int .i64 0, .slice none 0 0] 24)).alloc (.cells #[.int .i64 1, .slice none 0 0] 24)).alloc (.cells #[.int .i64 0, .int .i64 1] 52)) X2 X4 X5 Y rdZero none 0) := hide (by rw [hX2, hX4, hX5, hY]; exact HST.out)
 have HX : Hid (ReadX w X2 X4 X5 Y) := hide (by rw [hX2, hX4, hX5, hY]; exact HXX.out)
 rw [← hX5, ← hX4, ← hX2]
 clear hX2 hX4 hX5 hY HST HXX
 have hpost : ∀ (W : World) (a : Act) (A : Option Addr) (c : Nat) (d : Int) (ts : List (Int × Int)) (ok : Bool), res = (d, ts, ok) → TermsQ W W.heap.size A ts.length c ts → Below w.heap.size w W → Blk W X2 24 #[.int .i64 d, .slice A ts.length c] →
   a.tmps.getD 2 undef = .pointer (some ⟨X2, 0, none⟩) → a.tmps.getD 3 undef = .bool ok → a.defers = [] → bodyPost Tryz.prog Tryz.f21 (ReadPost w res) .ret a W := by
  intro W a A c d ts ok e1 e2 e3 e4 e5 e6 e7
  refine bodyPost_cell_tmp (p := 2) (u := 3) (ty := 24) rfl e5 e4 Tryz.underlying24 rfl Tryz.sizeNumber e7 ?_
  rw [e6, e1]
  exact ⟨A, c, rfl, e2, e3⟩
 have HPOST := hide hpost
 have HX2w : Hid (w.heap.size ≤ X2) := hide HX.out.h2
 have HBADR : Hid (R = none → res = (0, [], false)) := hide (fun h => by rw [HRES.out, h]; rfl)
 have HRUN0 : Hid (rdRun (decide (0 = 0)) ((byteN l ++ [0]).drop 0) rdZero = R) := hide HR.out.symm
 clear hpost HR
 generalize ((w.alloc (.cells #[.int .i64 0, .slice none 0 0] 24)).alloc (.cells #[.int .i64 1, .slice none 0 0] 24)).alloc (.cells #[.int .i64 0, .int .i64 1] 52) = W0 at *
 go_loopw [6, 7, 8, 9, 10] (fun sgv dgv rtv dnv iv W => ∃ (i : Nat) (S : RdS) (A : Option Addr) (c : Nat), sgv = .int .i64 S.sg ∧ dgv = .int .i64 (S.dg : Int) ∧ rtv = .bool S.rt ∧ dnv = .bool S.dn ∧ iv = .int .i64 (i : Int) ∧ i ≤ l.length + 1 ∧ S.dg ≤ 6 ∧ S.ts.length ≤ i ∧ ReadI w W X2 X4 X5 Y S A c ∧ rdRun (decide (i = 0)) ((byteN l ++ [0]).drop i) S = R) (fun _ _ _ _ iv _ => l.length + 1 + 1 - (intOf iv).toNat)
 case atStart => exact ⟨0, rdZero, none, 0, rfl, rfl, rfl, rfl, rfl, by omega, by decide, by decide, HST1.out, HRUN0.out⟩
 case round =>
  obtain ⟨i, ⟨ts, den, co, ro, sg, dg, rt, dn⟩, A, c, rfl, rfl, rfl, rfl, rfl, hi, hdg, hts, hI, hrun⟩ := hrel
  dsimp only at hdg hts
  have HI := hide hI
  have HRUN1 := hide hrun
  clear hI hrun HST1 HRUN0
  obtain ⟨x0, x1, xf0, xf1⟩ := HI.out.x.two
  obtain ⟨t0, t1, tf0, tf1⟩ := HI.out.t.two
  dsimp only at x0 x1 t0 t1
  by_cases hin : (i : Int) ≤ (l.length : Int)
  ·by_cases hlt : (i : Int) < (l.length : Int)
   ·have hil : i < l.length := by omega
    have hdrop := byte_drop hil
    obtain ⟨b, hbe⟩ : ∃ b : Nat, (l[i]).toNat = b := ⟨_, rfl⟩
    have hb256 : b < 256 := by rw [← hbe]; exact UInt8.toNat_lt _
    have hix : ∀ h2, ((s[i]'h2).toNat : Int) = (b : Int) := fun h2 => by rw [HIDX.out i hil h2, hbe]
    rw [hbe] at hdrop
    have HRUN : Hid ((rdStep (decide (i = 0)) b ⟨ts, den, co, ro, sg, dg, rt, dn⟩).bind (rdRun false ((byteN l ++ [0]).drop (i + 1))) = R) := hide (by have h := HRUN1.out; rw [hdrop, rdRun_cons] at h; exact h)
    clear hdrop hbe HRUN1
    go_upto_region 9 with fail
    clear hix
    by_cases hd : 48 ≤ b ∧ b ≤ 57
    ·as_aux_lemma =>
      have hdi1 : (48 : Int) ≤ (b : Int) := by omega
      have hdi2 : (b : Int) ≤ 57 := by omega
      by_cases h6 : 6 < dg + 1
      ·have h6i : (6 : Int) < (dg : Int) + 1 := by omega
       have hbad := HBADR.out (by have h := HRUN.out; rw [step_bad_dig hd (by exact h6)] at h; exact h.symm)
       have HBAD := hide hbad
       obtain ⟨r0, r1, rf0, rf1⟩ := HI.out.r.two
       clear hbad HRUN HBADR
       go_wp2
       exact HPOST.out _ _ none 0 0 [] false HBAD.out (Rq.empty _ _ _ _) (Below.setCell (Below.setCell HI.out.b (p := ⟨X2, 0, none⟩) HX2w.out _) (p := ⟨X2, 1, none⟩) HX2w.out _) ((HI.out.r.set_ 0 _).set_ 1 _) rfl rfl rfl
      have h6i : ¬ (6 : Int) < (dg : Int) + 1 := by omega
      have hu8 : IntKind.u8.wrap ((b : Int) - 48) = (b : Int) - 48 := by rw [IntKind.wrap_u8]; omega
      cases dn
      ·cases rt
       ·obtain ⟨v, hv⟩ : ∃ v, addD co b = v := ⟨_, rfl⟩
        have HV := hide hv
        unfold addD at hv
        have HRUN2 := hide (show rdRun false ((byteN l ++ [0]).drop (i + 1)) ⟨ts, den, v, ro, sg, dg + 1, false, false⟩ = R by have h := HRUN.out; rw [show rdStep (decide (i = 0)) b ⟨ts, den, co, ro, sg, dg, false, false⟩ = some ⟨ts, den, v, ro, sg, dg + 1, false, false⟩ from (step_co hd (by exact h6) rfl rfl).trans (by rw [show addD co b = v from HV.out])] at h; exact h)
        have HIz := hide (HI.out.setCo HX.out v sg (dg + 1) false  false)
        go_wp2
        exact ⟨⟨i + 1, ⟨ts, den, v, ro, sg, dg + 1, false, false⟩, A, c, rfl, rfl, rfl, rfl, by go_num, by omega, (by dsimp only; omega), (by dsimp only; omega), HIz.out, by rw [decide_eq_false (by omega)]; exact HRUN2.out⟩, by simp only [intOf]; omega⟩
       ·obtain ⟨v, hv⟩ : ∃ v, addD ro b = v := ⟨_, rfl⟩
        have HV := hide hv
        unfold addD at hv
        have HRUN2 := hide (show rdRun false ((byteN l ++ [0]).drop (i + 1)) ⟨ts, den, co, v, sg, dg + 1, true, false⟩ = R by have h := HRUN.out; rw [show rdStep (decide (i = 0)) b ⟨ts, den, co, ro, sg, dg, true, false⟩ = some ⟨ts, den, co, v, sg, dg + 1, true, false⟩ from (step_rt hd (by exact h6) rfl rfl).trans (by rw [show addD ro b = v from HV.out])] at h; exact h)
        have HIz := hide (HI.out.setRo HX.out v sg (dg + 1) true  false)
        go_wp2
        exact ⟨⟨i + 1, ⟨ts, den, co, v, sg, dg + 1, true, false⟩, A, c, rfl, rfl, rfl, rfl, by go_num, by omega, (by dsimp only; omega), (by dsimp only; omega), HIz.out, by rw [decide_eq_false (by omega)]; exact HRUN2.out⟩, by simp only [intOf]; omega⟩
      ·obtain ⟨v, hv⟩ : ∃ v, addD den b = v := ⟨_, rfl⟩
       have HV := hide hv
       unfold addD at hv
       have HRUN2 := hide (show rdRun false ((byteN l ++ [0]).drop (i + 1)) ⟨ts, v, co, ro, sg, dg + 1, rt, true⟩ = R by have h := HRUN.out; rw [show rdStep (decide (i = 0)) b ⟨ts, den, co, ro, sg, dg, rt, true⟩ = some ⟨ts, v, co, ro, sg, dg + 1, rt, true⟩ from (step_dn hd (by exact h6) rfl).trans (by rw [show addD den b = v from HV.out])] at h; exact h)
       have HIz := hide (HI.out.setDen HX.out v sg (dg + 1) rt  true)
       go_wp2
       exact ⟨⟨i + 1, ⟨ts, v, co, ro, sg, dg + 1, rt, true⟩, A, c, rfl, rfl, rfl, rfl, by go_num, by omega, (by dsimp only; omega), (by dsimp only; omega), HIz.out, by rw [decide_eq_false (by omega)]; exact HRUN2.out⟩, by simp only [intOf]; omega⟩
    by_cases hb114 : b = 114
    ·as_aux_lemma =>
      subst hb114
      cases dn
      ·cases rt
       ·by_cases hdg0 : dg = 0
        ·subst hdg0
         have HRUN2 := hide (show rdRun false ((byteN l ++ [0]).drop (i + 1)) ⟨ts, den, 1, 0, sg, 0, true, false⟩ = R by have h := HRUN.out; rw [show rdStep (decide (i = 0)) 114 ⟨ts, den, co, ro, sg, 0, false, false⟩ = some ⟨ts, den, 1, 0, sg, 0, true, false⟩ from (step_r rfl rfl).trans rfl] at h; exact h)
         have HIz := hide ((HI.out.setCo HX.out 1 sg 0 false false).setRo HX.out 0 sg 0 true false)
         go_wp2
         exact ⟨⟨i + 1, ⟨ts, den, 1, 0, sg, 0, true, false⟩, A, c, rfl, rfl, rfl, rfl, by go_num, by omega, (by dsimp only; omega), (by dsimp only; omega), HIz.out, by rw [decide_eq_false (by omega)]; exact HRUN2.out⟩, by simp only [intOf]; omega⟩
        ·have hdgb : ((dg : Int) == 0) = false := beq_eq_false_iff_ne.2 (by omega)
         have HRUN2 := hide (show rdRun false ((byteN l ++ [0]).drop (i + 1)) ⟨ts, den, co, 0, sg, 0, true, false⟩ = R by have h := HRUN.out; rw [show rdStep (decide (i = 0)) 114 ⟨ts, den, co, ro, sg, dg, false, false⟩ = some ⟨ts, den, co, 0, sg, 0, true, false⟩ from (step_r rfl rfl).trans (by dsimp only; rw [if_neg hdg0])] at h; exact h)
         have HIz := hide (HI.out.setRo HX.out 0 sg 0 true false)
         go_wp2
         exact ⟨⟨i + 1, ⟨ts, den, co, 0, sg, 0, true, false⟩, A, c, rfl, rfl, rfl, rfl, by go_num, by omega, (by dsimp only; omega), (by dsimp only; omega), HIz.out, by rw [decide_eq_false (by omega)]; exact HRUN2.out⟩, by simp only [intOf]; omega⟩
       ·have hbad := HBADR.out (by have h := HRUN.out; rw [step_none (by decide) (fun h => by cases h.2.2) (fun h => by have := h.1; omega) rfl] at h; exact h.symm)
        have HBAD := hide hbad
        obtain ⟨r0, r1, rf0, rf1⟩ := HI.out.r.two
        clear hbad HRUN HBADR
        go_wp2
        exact HPOST.out _ _ none 0 0 [] false HBAD.out (Rq.empty _ _ _ _) (Below.setCell (Below.setCell HI.out.b (p := ⟨X2, 0, none⟩) HX2w.out _) (p := ⟨X2, 1, none⟩) HX2w.out _) ((HI.out.r.set_ 0 _).set_ 1 _) rfl rfl rfl
      ·have hbad := HBADR.out (by have h := HRUN.out; rw [step_none (by decide) (fun h => by cases h.2.1) (fun h => by have := h.1; omega) rfl] at h; exact h.symm)
       have HBAD := hide hbad
       obtain ⟨r0, r1, rf0, rf1⟩ := HI.out.r.two
       clear hbad HRUN HBADR
       go_wp2
       exact HPOST.out _ _ none 0 0 [] false HBAD.out (Rq.empty _ _ _ _) (Below.setCell (Below.setCell HI.out.b (p := ⟨X2, 0, none⟩) HX2w.out _) (p := ⟨X2, 1, none⟩) HX2w.out _) ((HI.out.r.set_ 0 _).set_ 1 _) rfl rfl rfl
    by_cases hb40 : b = 40
    ·subst hb40
     by_cases hi0 : i = 0
     ·subst hi0
      have HRUN2 := hide (show rdRun false ((byteN l ++ [0]).drop (0 + 1)) ⟨ts, den, co, ro, sg, dg, rt, dn⟩ = R by have h := HRUN.out; rw [show rdStep (decide (0 = 0)) 40 ⟨ts, den, co, ro, sg, dg, rt, dn⟩ = some ⟨ts, den, co, ro, sg, dg, rt, dn⟩ from step_open] at h; exact h)
      go_wp2
      exact ⟨⟨0 + 1, ⟨ts, den, co, ro, sg, dg, rt, dn⟩, A, c, rfl, rfl, rfl, rfl, by go_num, by omega, hdg, (by dsimp only; omega), HI.out, by rw [decide_eq_false (by omega)]; exact HRUN2.out⟩, by simp only [intOf]; omega⟩
     ·have hib : ((i : Int) == 0) = false := beq_eq_false_iff_ne.2 (by omega)
      have hbad := HBADR.out (by have h := HRUN.out; rw [step_none (by decide) (fun h => by have := h.1; omega) (fun h => by have := h.2; simp at this; exact hi0 this) rfl] at h; exact h.symm)
      have HBAD := hide hbad
      obtain ⟨r0, r1, rf0, rf1⟩ := HI.out.r.two
      clear hbad HRUN HBADR
      go_wp2
      exact HPOST.out _ _ none 0 0 [] false HBAD.out (Rq.empty _ _ _ _) (Below.setCell (Below.setCell HI.out.b (p := ⟨X2, 0, none⟩) HX2w.out _) (p := ⟨X2, 1, none⟩) HX2w.out _) ((HI.out.r.set_ 0 _).set_ 1 _) rfl rfl rfl
    by_cases hb47 : b = 47
    ·as_aux_lemma =>
      subst hb47
      cases dn
      ·cases rt
       ·by_cases hdg0 : (0 : Int) < (dg : Int)
        ·obtain ⟨p, hp⟩ : ∃ p, wrap64 (co * sg) = p := ⟨_, rfl⟩
         have HP := hide hp
         have HI1 := hide (HI.out.setCo HX.out p sg dg false false)
         by_cases hp0 : p = 0
         ·subst hp0
          have HRUN2 := hide (show rdRun false ((byteN l ++ [0]).drop (i + 1)) ⟨ts, 0, 0, 1, 1, 0, false, true⟩ = R by have h := HRUN.out; rw [show rdStep (decide (i = 0)) 47 ⟨ts, den, co, ro, sg, dg, false, false⟩ = some ⟨ts, 0, 0, 1, 1, 0, false, true⟩ from (step_sep (by rfl)).trans (by rw [endT_zero rfl (.inl (by show 0 < dg; omega)) (by exact HP.out) rfl]; rfl)] at h; exact h)
          have HIz := hide ((((HI1.out.setCo HX.out 0 1 0 false true).setRo HX.out 1 1 0 false true).setDen HX.out 0 1 0 false true))
          obtain ⟨z0, z1, zf0, zf1⟩ := ((HI1.out.setCo HX.out 0 1 0 false true).setRo HX.out 1 1 0 false true).x.two
          dsimp only at z0 z1
          go_wp2
          exact ⟨⟨i + 1, ⟨ts, 0, 0, 1, 1, 0, false, true⟩, A, c, rfl, rfl, rfl, rfl, by go_num, by omega, (by dsimp only; omega), (by dsimp only; omega), HIz.out, by rw [decide_eq_false (by omega)]; exact HRUN2.out⟩, by simp only [intOf]; omega⟩
         ·have hpb : (p != 0) = true := by simpa using hp0
          go_upto_region 28 with fail
          clear hp x0 x1 xf0 xf1 t0 t1 tf0 tf1
          generalize wr.setCell ⟨X5, 0, none⟩ (.int .i64 p) = V at *
          obtain ⟨x0, x1, xf0, xf1⟩ := HI1.out.x.two
          obtain ⟨t0, t1, tf0, tf1⟩ := HI1.out.t.two
          dsimp only at x0 x1 t0 t1
          have HROW := hide (HI1.out.row.alloc (.cells #[.int .i64 p, .int .i64 ro] 52))
          have HBV := hide ((Below.refl V.heap.size V).alloc (Nat.le_refl _) (.cells #[.int .i64 p, .int .i64 ro] 52))
          have hYV := HI1.out.sz
          go_upto_region 29 with (first
           | (at_builtin; refine wpList_append_lies _ rfl _ _ 22 rfl Y 52 i1 (.agg #[.int .i64 0, .int .i64 0]) 2 16 Tryz.underlying22 hi1 hy0 hy1 hy2 rfl (by decide) (.slice A ts.length c) ts.length _ rfl HROW.out ⟨V.heap.size, 0, none⟩ 1 1 [.int .i64 p, .int .i64 ro] rfl rfl (cell_new2 V _ _ _) (by simp [Value.oneCell']) (by decide) (by unfold maxLen; omega) (by omega) (by show _ ≤ (V.alloc _).heap.size; rw [World.size_alloc]; omega) (V.heap.size + 1) (by show (V.alloc _).heap.size = _; rw [World.size_alloc]) ?_; intro g3 cap3 w3 ho3 hg3 hat3 hlt3; have HIg := hide (HI1.out.grow HX.out HBV.out rfl ho3 hg3); have HB3 := hide (((HBV.out).mono hYV).grown hg3 (by show _ ≤ (V.alloc _).heap.size; rw [World.size_alloc]; omega) (fun j e => (HI1.out.row.lt j e).1)); obtain ⟨y0, y1, yf0, yf1⟩ := (HI1.out.x.below HB3.out (by have := HX.out.h5; have := HX.out.hY; omega)).two; clear ho3 hg3 hat3 hlt3))
          clear x0 x1 xf0 xf1 t0 t1 tf0 tf1 y0 y1 yf0 yf1
          generalize w3.setCell ⟨X4, 1, none⟩ (.slice (some ⟨g3, 0, none⟩) (ts.length + 1) cap3) = V2 at *
          obtain ⟨x0, x1, xf0, xf1⟩ := HIg.out.x.two
          obtain ⟨t0, t1, tf0, tf1⟩ := HIg.out.t.two
          dsimp only at x0 x1 t0 t1
          have hlen2 : (ts ++ [(p, ro)]).length = ts.length + 1 := by simp
          have HRUN2 := hide (show rdRun false ((byteN l ++ [0]).drop (i + 1)) ⟨ts ++ [(p, ro)], 0, 0, 1, 1, 0, false, true⟩ = R by have h := HRUN.out; rw [show rdStep (decide (i = 0)) 47 ⟨ts, den, co, ro, sg, dg, false, false⟩ = some ⟨ts ++ [(p, ro)], 0, 0, 1, 1, 0, false, true⟩ from (step_sep (by rfl)).trans (by rw [endT_app rfl (.inl (by show 0 < dg; omega)) (by exact HP.out) hp0]; rfl)] at h; exact h)
          have HIz := hide ((((HIg.out.setCo HX.out 0 1 0 false true).setRo HX.out 1 1 0 false true).setDen HX.out 0 1 0 false true))
          obtain ⟨z0, z1, zf0, zf1⟩ := ((HIg.out.setCo HX.out 0 1 0 false true).setRo HX.out 1 1 0 false true).x.two
          dsimp only at z0 z1
          go_wp2
          exact ⟨⟨i + 1, ⟨ts ++ [(p, ro)], 0, 0, 1, 1, 0, false, true⟩, (some ⟨g3, 0, none⟩), cap3, rfl, rfl, rfl, rfl, by go_num, by omega, (by dsimp only; omega), (by dsimp only; rw [hlen2]; omega), HIz.out, by rw [decide_eq_false (by omega)]; exact HRUN2.out⟩, by simp only [intOf]; omega⟩
        ·have HRUN2 := hide (show rdRun false ((byteN l ++ [0]).drop (i + 1)) ⟨ts, 0, 0, 1, 1, 0, false, true⟩ = R by have h := HRUN.out; rw [show rdStep (decide (i = 0)) 47 ⟨ts, den, co, ro, sg, dg, false, false⟩ = some ⟨ts, 0, 0, 1, 1, 0, false, true⟩ from (step_sep (by rfl)).trans (by rw [endT_no (.inr ⟨rfl, by show dg = 0; omega⟩)]; rfl)] at h; exact h)
         have HIz := hide ((((HI.out.setCo HX.out 0 1 0 false true).setRo HX.out 1 1 0 false true).setDen HX.out 0 1 0 false true))
         obtain ⟨z0, z1, zf0, zf1⟩ := ((HI.out.setCo HX.out 0 1 0 false true).setRo HX.out 1 1 0 false true).x.two
         dsimp only at z0 z1
         go_wp2
         exact ⟨⟨i + 1, ⟨ts, 0, 0, 1, 1, 0, false, true⟩, A, c, rfl, rfl, rfl, rfl, by go_num, by omega, (by dsimp only; omega), (by dsimp only; omega), HIz.out, by rw [decide_eq_false (by omega)]; exact HRUN2.out⟩, by simp only [intOf]; omega⟩
       ·by_cases hdg0 : (0 : Int) < (dg : Int)
        all_goals
         obtain ⟨p, hp⟩ : ∃ p, wrap64 (co * sg) = p := ⟨_, rfl⟩
         have HP := hide hp
         have HI1 := hide (HI.out.setCo HX.out p sg dg true false)
         by_cases hp0 : p = 0
         ·subst hp0
          have HRUN2 := hide (show rdRun false ((byteN l ++ [0]).drop (i + 1)) ⟨ts, 0, 0, 1, 1, 0, false, true⟩ = R by have h := HRUN.out; rw [show rdStep (decide (i = 0)) 47 ⟨ts, den, co, ro, sg, dg, true, false⟩ = some ⟨ts, 0, 0, 1, 1, 0, false, true⟩ from (step_sep (by rfl)).trans (by rw [endT_zero rfl (.inr rfl) (by exact HP.out) rfl]; rfl)] at h; exact h)
          have HIz := hide ((((HI1.out.setCo HX.out 0 1 0 false true).setRo HX.out 1 1 0 false true).setDen HX.out 0 1 0 false true))
          obtain ⟨z0, z1, zf0, zf1⟩ := ((HI1.out.setCo HX.out 0 1 0 false true).setRo HX.out 1 1 0 false true).x.two
          dsimp only at z0 z1
          go_wp2
          exact ⟨⟨i + 1, ⟨ts, 0, 0, 1, 1, 0, false, true⟩, A, c, rfl, rfl, rfl, rfl, by go_num, by omega, (by dsimp only; omega), (by dsimp only; omega), HIz.out, by rw [decide_eq_false (by omega)]; exact HRUN2.out⟩, by simp only [intOf]; omega⟩
         ·have hpb : (p != 0) = true := by simpa using hp0
          go_upto_region 28 with fail
          clear hp x0 x1 xf0 xf1 t0 t1 tf0 tf1
          generalize wr.setCell ⟨X5, 0, none⟩ (.int .i64 p) = V at *
          obtain ⟨x0, x1, xf0, xf1⟩ := HI1.out.x.two
          obtain ⟨t0, t1, tf0, tf1⟩ := HI1.out.t.two
          dsimp only at x0 x1 t0 t1
          have HROW := hide (HI1.out.row.alloc (.cells #[.int .i64 p, .int .i64 ro] 52))
          have HBV := hide ((Below.refl V.heap.size V).alloc (Nat.le_refl _) (.cells #[.int .i64 p, .int .i64 ro] 52))
          have hYV := HI1.out.sz
          go_upto_region 29 with (first
           | (at_builtin; refine wpList_append_lies _ rfl _ _ 22 rfl Y 52 i1 (.agg #[.int .i64 0, .int .i64 0]) 2 16 Tryz.underlying22 hi1 hy0 hy1 hy2 rfl (by decide) (.slice A ts.length c) ts.length _ rfl HROW.out ⟨V.heap.size, 0, none⟩ 1 1 [.int .i64 p, .int .i64 ro] rfl rfl (cell_new2 V _ _ _) (by simp [Value.oneCell']) (by decide) (by unfold maxLen; omega) (by omega) (by show _ ≤ (V.alloc _).heap.size; rw [World.size_alloc]; omega) (V.heap.size + 1) (by show (V.alloc _).heap.size = _; rw [World.size_alloc]) ?_; intro g3 cap3 w3 ho3 hg3 hat3 hlt3; have HIg := hide (HI1.out.grow HX.out HBV.out rfl ho3 hg3); have HB3 := hide (((HBV.out).mono hYV).grown hg3 (by show _ ≤ (V.alloc _).heap.size; rw [World.size_alloc]; omega) (fun j e => (HI1.out.row.lt j e).1)); obtain ⟨y0, y1, yf0, yf1⟩ := (HI1.out.x.below HB3.out (by have := HX.out.h5; have := HX.out.hY; omega)).two; clear ho3 hg3 hat3 hlt3))
          clear x0 x1 xf0 xf1 t0 t1 tf0 tf1 y0 y1 yf0 yf1
          generalize w3.setCell ⟨X4, 1, none⟩ (.slice (some ⟨g3, 0, none⟩) (ts.length + 1) cap3) = V2 at *
          obtain ⟨x0, x1, xf0, xf1⟩ := HIg.out.x.two
          obtain ⟨t0, t1, tf0, tf1⟩ := HIg.out.t.two
          dsimp only at x0 x1 t0 t1
          have hlen2 : (ts ++ [(p, ro)]).length = ts.length + 1 := by simp
          have HRUN2 := hide (show rdRun false ((byteN l ++ [0]).drop (i + 1)) ⟨ts ++ [(p, ro)], 0, 0, 1, 1, 0, false, true⟩ = R by have h := HRUN.out; rw [show rdStep (decide (i = 0)) 47 ⟨ts, den, co, ro, sg, dg, true, false⟩ = some ⟨ts ++ [(p, ro)], 0, 0, 1, 1, 0, false, true⟩ from (step_sep (by rfl)).trans (by rw [endT_app rfl (.inr rfl) (by exact HP.out) hp0]; rfl)] at h; exact h)
          have HIz := hide ((((HIg.out.setCo HX.out 0 1 0 false true).setRo HX.out 1 1 0 false true).setDen HX.out 0 1 0 false true))
          obtain ⟨z0, z1, zf0, zf1⟩ := ((HIg.out.setCo HX.out 0 1 0 false true).setRo HX.out 1 1 0 false true).x.two
          dsimp only at z0 z1
          go_wp2
          exact ⟨⟨i + 1, ⟨ts ++ [(p, ro)], 0, 0, 1, 1, 0, false, true⟩, (some ⟨g3, 0, none⟩), cap3, rfl, rfl, rfl, rfl, by go_num, by omega, (by dsimp only; omega), (by dsimp only; rw [hlen2]; omega), HIz.out, by rw [decide_eq_false (by omega)]; exact HRUN2.out⟩, by simp only [intOf]; omega⟩
      ·have HRUN2 := hide (show rdRun false ((byteN l ++ [0]).drop (i + 1)) ⟨ts, 0, 0, 1, 1, 0, false, true⟩ = R by have h := HRUN.out; rw [show rdStep (decide (i = 0)) 47 ⟨ts, den, co, ro, sg, dg, rt, true⟩ = some ⟨ts, 0, 0, 1, 1, 0, false, true⟩ from (step_sep (by rfl)).trans (by rw [endT_no (.inl rfl)]; rfl)] at h; exact h)
       have HIz := hide ((((HI.out.setCo HX.out 0 1 0 false true).setRo HX.out 1 1 0 false true).setDen HX.out 0 1 0 false true))
       obtain ⟨z0, z1, zf0, zf1⟩ := ((HI.out.setCo HX.out 0 1 0 false true).setRo HX.out 1 1 0 false true).x.two
       dsimp only at z0 z1
       go_wp2
       exact ⟨⟨i + 1, ⟨ts, 0, 0, 1, 1, 0, false, true⟩, A, c, rfl, rfl, rfl, rfl, by go_num, by omega, (by dsimp only; omega), (by dsimp only; omega), HIz.out, by rw [decide_eq_false (by omega)]; exact HRUN2.out⟩, by simp only [intOf]; omega⟩
    by_cases hb4 : b = 41 ∨ b = 43 ∨ b = 45 ∨ b = 0
    ·obtain ⟨b2, hb2⟩ : ∃ x, x = b := ⟨_, rfl⟩
     have HSB : Hid (sepB b2 = true) := hide (by rw [hb2]; rcases hb4 with rfl | rfl | rfl | rfl <;> rfl)
     have HN47 : Hid (¬ b2 = 47) := hide (by omega)
     have HB47 : Hid ((b2 == 47) = false) := hide (beq_eq_false_iff_ne.2 HN47.out)
     obtain ⟨sv, hsv⟩ : ∃ sv : Int, (if b2 = 45 then (-1 : Int) else 1) = sv := ⟨_, rfl⟩
     have HSV := hide hsv
     rw [← hb2] at HRUN
     have HB2 := hide hb2
     clear hb2 hsv
     rcases hb4 with rfl | rfl | rfl | rfl
     all_goals as_aux_lemma =>
      cases dn
      ·cases rt
       ·by_cases hdg0 : (0 : Int) < (dg : Int)
        ·obtain ⟨p, hp⟩ : ∃ p, wrap64 (co * sg) = p := ⟨_, rfl⟩
         have HP := hide hp
         have HI1 := hide (HI.out.setCo HX.out p sg dg false false)
         by_cases hp0 : p = 0
         ·subst hp0
          have HRUN2 := hide (show rdRun false ((byteN l ++ [0]).drop (i + 1)) ⟨ts, den, 0, 1, sv, 0, false, false⟩ = R by have h := HRUN.out; rw [show rdStep (decide (i = 0)) b2 ⟨ts, den, co, ro, sg, dg, false, false⟩ = some ⟨ts, den, 0, 1, sv, 0, false, false⟩ from (step_sep HSB.out).trans (by rw [endT_zero rfl (.inl (by show 0 < dg; omega)) (by exact HP.out) rfl, HSV.out, if_neg HN47.out, HB47.out]; rfl)] at h; exact h)
          have HIz := hide (((HI1.out.setCo HX.out 0 sv 0 false false).setRo HX.out 1 sv 0 false false))
          go_wp2
          exact ⟨⟨i + 1, ⟨ts, den, 0, 1, sv, 0, false, false⟩, A, c, (by rw [← HSV.out, HB2.out]; rfl), rfl, rfl, rfl, by go_num, by omega, (by dsimp only; omega), (by dsimp only; omega), HIz.out, by rw [decide_eq_false (by omega)]; exact HRUN2.out⟩, by simp only [intOf]; omega⟩
         ·have hpb : (p != 0) = true := by simpa using hp0
          go_upto_region 28 with fail
          clear hp x0 x1 xf0 xf1 t0 t1 tf0 tf1
          generalize wr.setCell ⟨X5, 0, none⟩ (.int .i64 p) = V at *
          obtain ⟨x0, x1, xf0, xf1⟩ := HI1.out.x.two
          obtain ⟨t0, t1, tf0, tf1⟩ := HI1.out.t.two
          dsimp only at x0 x1 t0 t1
          have HROW := hide (HI1.out.row.alloc (.cells #[.int .i64 p, .int .i64 ro] 52))
          have HBV := hide ((Below.refl V.heap.size V).alloc (Nat.le_refl _) (.cells #[.int .i64 p, .int .i64 ro] 52))
          have hYV := HI1.out.sz
          go_upto_region 29 with (first
           | (at_builtin; refine wpList_append_lies _ rfl _ _ 22 rfl Y 52 i1 (.agg #[.int .i64 0, .int .i64 0]) 2 16 Tryz.underlying22 hi1 hy0 hy1 hy2 rfl (by decide) (.slice A ts.length c) ts.length _ rfl HROW.out ⟨V.heap.size, 0, none⟩ 1 1 [.int .i64 p, .int .i64 ro] rfl rfl (cell_new2 V _ _ _) (by simp [Value.oneCell']) (by decide) (by unfold maxLen; omega) (by omega) (by show _ ≤ (V.alloc _).heap.size; rw [World.size_alloc]; omega) (V.heap.size + 1) (by show (V.alloc _).heap.size = _; rw [World.size_alloc]) ?_; intro g3 cap3 w3 ho3 hg3 hat3 hlt3; have HIg := hide (HI1.out.grow HX.out HBV.out rfl ho3 hg3); have HB3 := hide (((HBV.out).mono hYV).grown hg3 (by show _ ≤ (V.alloc _).heap.size; rw [World.size_alloc]; omega) (fun j e => (HI1.out.row.lt j e).1)); obtain ⟨y0, y1, yf0, yf1⟩ := (HI1.out.x.below HB3.out (by have := HX.out.h5; have := HX.out.hY; omega)).two; clear ho3 hg3 hat3 hlt3))
          clear x0 x1 xf0 xf1 t0 t1 tf0 tf1 y0 y1 yf0 yf1
          generalize w3.setCell ⟨X4, 1, none⟩ (.slice (some ⟨g3, 0, none⟩) (ts.length + 1) cap3) = V2 at *
          obtain ⟨x0, x1, xf0, xf1⟩ := HIg.out.x.two
          obtain ⟨t0, t1, tf0, tf1⟩ := HIg.out.t.two
          dsimp only at x0 x1 t0 t1
          have hlen2 : (ts ++ [(p, ro)]).length = ts.length + 1 := by simp
          have HRUN2 := hide (show rdRun false ((byteN l ++ [0]).drop (i + 1)) ⟨ts ++ [(p, ro)], den, 0, 1, sv, 0, false, false⟩ = R by have h := HRUN.out; rw [show rdStep (decide (i = 0)) b2 ⟨ts, den, co, ro, sg, dg, false, false⟩ = some ⟨ts ++ [(p, ro)], den, 0, 1, sv, 0, false, false⟩ from (step_sep HSB.out).trans (by rw [endT_app rfl (.inl (by show 0 < dg; omega)) (by exact HP.out) hp0, HSV.out, if_neg HN47.out, HB47.out]; rfl)] at h; exact h)
          have HIz := hide (((HIg.out.setCo HX.out 0 sv 0 false false).setRo HX.out 1 sv 0 false false))
          go_wp2
          exact ⟨⟨i + 1, ⟨ts ++ [(p, ro)], den, 0, 1, sv, 0, false, false⟩, (some ⟨g3, 0, none⟩), cap3, (by rw [← HSV.out, HB2.out]; rfl), rfl, rfl, rfl, by go_num, by omega, (by dsimp only; omega), (by dsimp only; rw [hlen2]; omega), HIz.out, by rw [decide_eq_false (by omega)]; exact HRUN2.out⟩, by simp only [intOf]; omega⟩
        ·have HRUN2 := hide (show rdRun false ((byteN l ++ [0]).drop (i + 1)) ⟨ts, den, 0, 1, sv, 0, false, false⟩ = R by have h := HRUN.out; rw [show rdStep (decide (i = 0)) b2 ⟨ts, den, co, ro, sg, dg, false, false⟩ = some ⟨ts, den, 0, 1, sv, 0, false, false⟩ from (step_sep HSB.out).trans (by rw [endT_no (.inr ⟨rfl, by show dg = 0; omega⟩), HSV.out, if_neg HN47.out, HB47.out]; rfl)] at h; exact h)
         have HIz := hide (((HI.out.setCo HX.out 0 sv 0 false false).setRo HX.out 1 sv 0 false false))
         go_wp2
         exact ⟨⟨i + 1, ⟨ts, den, 0, 1, sv, 0, false, false⟩, A, c, (by rw [← HSV.out, HB2.out]; rfl), rfl, rfl, rfl, by go_num, by omega, (by dsimp only; omega), (by dsimp only; omega), HIz.out, by rw [decide_eq_false (by omega)]; exact HRUN2.out⟩, by simp only [intOf]; omega⟩
       ·by_cases hdg0 : (0 : Int) < (dg : Int)
        all_goals
         obtain ⟨p, hp⟩ : ∃ p, wrap64 (co * sg) = p := ⟨_, rfl⟩
         have HP := hide hp
         have HI1 := hide (HI.out.setCo HX.out p sg dg true false)
         by_cases hp0 : p = 0
         ·subst hp0
          have HRUN2 := hide (show rdRun false ((byteN l ++ [0]).drop (i + 1)) ⟨ts, den, 0, 1, sv, 0, false, false⟩ = R by have h := HRUN.out; rw [show rdStep (decide (i = 0)) b2 ⟨ts, den, co, ro, sg, dg, true, false⟩ = some ⟨ts, den, 0, 1, sv, 0, false, false⟩ from (step_sep HSB.out).trans (by rw [endT_zero rfl (.inr rfl) (by exact HP.out) rfl, HSV.out, if_neg HN47.out, HB47.out]; rfl)] at h; exact h)
          have HIz := hide (((HI1.out.setCo HX.out 0 sv 0 false false).setRo HX.out 1 sv 0 false false))
          go_wp2
          exact ⟨⟨i + 1, ⟨ts, den, 0, 1, sv, 0, false, false⟩, A, c, (by rw [← HSV.out, HB2.out]; rfl), rfl, rfl, rfl, by go_num, by omega, (by dsimp only; omega), (by dsimp only; omega), HIz.out, by rw [decide_eq_false (by omega)]; exact HRUN2.out⟩, by simp only [intOf]; omega⟩
         ·have hpb : (p != 0) = true := by simpa using hp0
          go_upto_region 28 with fail
          clear hp x0 x1 xf0 xf1 t0 t1 tf0 tf1
          generalize wr.setCell ⟨X5, 0, none⟩ (.int .i64 p) = V at *
          obtain ⟨x0, x1, xf0, xf1⟩ := HI1.out.x.two
          obtain ⟨t0, t1, tf0, tf1⟩ := HI1.out.t.two
          dsimp only at x0 x1 t0 t1
          have HROW := hide (HI1.out.row.alloc (.cells #[.int .i64 p, .int .i64 ro] 52))
          have HBV := hide ((Below.refl V.heap.size V).alloc (Nat.le_refl _) (.cells #[.int .i64 p, .int .i64 ro] 52))
          have hYV := HI1.out.sz
          go_upto_region 29 with (first
           | (at_builtin; refine wpList_append_lies _ rfl _ _ 22 rfl Y 52 i1 (.agg #[.int .i64 0, .int .i64 0]) 2 16 Tryz.underlying22 hi1 hy0 hy1 hy2 rfl (by decide) (.slice A ts.length c) ts.length _ rfl HROW.out ⟨V.heap.size, 0, none⟩ 1 1 [.int .i64 p, .int .i64 ro] rfl rfl (cell_new2 V _ _ _) (by simp [Value.oneCell']) (by decide) (by unfold maxLen; omega) (by omega) (by show _ ≤ (V.alloc _).heap.size; rw [World.size_alloc]; omega) (V.heap.size + 1) (by show (V.alloc _).heap.size = _; rw [World.size_alloc]) ?_; intro g3 cap3 w3 ho3 hg3 hat3 hlt3; have HIg := hide (HI1.out.grow HX.out HBV.out rfl ho3 hg3); have HB3 := hide (((HBV.out).mono hYV).grown hg3 (by show _ ≤ (V.alloc _).heap.size; rw [World.size_alloc]; omega) (fun j e => (HI1.out.row.lt j e).1)); obtain ⟨y0, y1, yf0, yf1⟩ := (HI1.out.x.below HB3.out (by have := HX.out.h5; have := HX.out.hY; omega)).two; clear ho3 hg3 hat3 hlt3))
          clear x0 x1 xf0 xf1 t0 t1 tf0 tf1 y0 y1 yf0 yf1
          generalize w3.setCell ⟨X4, 1, none⟩ (.slice (some ⟨g3, 0, none⟩) (ts.length + 1) cap3) = V2 at *
          obtain ⟨x0, x1, xf0, xf1⟩ := HIg.out.x.two
          obtain ⟨t0, t1, tf0, tf1⟩ := HIg.out.t.two
          dsimp only at x0 x1 t0 t1
          have hlen2 : (ts ++ [(p, ro)]).length = ts.length + 1 := by simp
          have HRUN2 := hide (show rdRun false ((byteN l ++ [0]).drop (i + 1)) ⟨ts ++ [(p, ro)], den, 0, 1, sv, 0, false, false⟩ = R by have h := HRUN.out; rw [show rdStep (decide (i = 0)) b2 ⟨ts, den, co, ro, sg, dg, true, false⟩ = some ⟨ts ++ [(p, ro)], den, 0, 1, sv, 0, false, false⟩ from (step_sep HSB.out).trans (by rw [endT_app rfl (.inr rfl) (by exact HP.out) hp0, HSV.out, if_neg HN47.out, HB47.out]; rfl)] at h; exact h)
          have HIz := hide (((HIg.out.setCo HX.out 0 sv 0 false false).setRo HX.out 1 sv 0 false false))
          go_wp2
          exact ⟨⟨i + 1, ⟨ts ++ [(p, ro)], den, 0, 1, sv, 0, false, false⟩, (some ⟨g3, 0, none⟩), cap3, (by rw [← HSV.out, HB2.out]; rfl), rfl, rfl, rfl, by go_num, by omega, (by dsimp only; omega), (by dsimp only; rw [hlen2]; omega), HIz.out, by rw [decide_eq_false (by omega)]; exact HRUN2.out⟩, by simp only [intOf]; omega⟩
      ·have HRUN2 := hide (show rdRun false ((byteN l ++ [0]).drop (i + 1)) ⟨ts, den, 0, 1, sv, 0, false, true⟩ = R by have h := HRUN.out; rw [show rdStep (decide (i = 0)) b2 ⟨ts, den, co, ro, sg, dg, rt, true⟩ = some ⟨ts, den, 0, 1, sv, 0, false, true⟩ from (step_sep HSB.out).trans (by rw [endT_no (.inl rfl), HSV.out, if_neg HN47.out, HB47.out]; rfl)] at h; exact h)
       have HIz := hide (((HI.out.setCo HX.out 0 sv 0 false true).setRo HX.out 1 sv 0 false true))
       go_wp2
       exact ⟨⟨i + 1, ⟨ts, den, 0, 1, sv, 0, false, true⟩, A, c, (by rw [← HSV.out, HB2.out]; rfl), rfl, rfl, rfl, by go_num, by omega, (by dsimp only; omega), (by dsimp only; omega), HIz.out, by rw [decide_eq_false (by omega)]; exact HRUN2.out⟩, by simp only [intOf]; omega⟩
    have hb41 : ¬ b = 41 := fun h => hb4 (.inl h)
    have hb43 : ¬ b = 43 := fun h => hb4 (.inr (.inl h))
    have hb45 : ¬ b = 45 := fun h => hb4 (.inr (.inr (.inl h)))
    have hb0 : ¬ b = 0 := fun h => hb4 (.inr (.inr (.inr h)))
    have e0 : ((b : Int) == 0) = false := beq_eq_false_iff_ne.2 (by omega)
    have e40 : ((b : Int) == 40) = false := beq_eq_false_iff_ne.2 (by omega)
    have e41 : ((b : Int) == 41) = false := beq_eq_false_iff_ne.2 (by omega)
    have e43 : ((b : Int) == 43) = false := beq_eq_false_iff_ne.2 (by omega)
    have e45 : ((b : Int) == 45) = false := beq_eq_false_iff_ne.2 (by omega)
    have e47 : ((b : Int) == 47) = false := beq_eq_false_iff_ne.2 (by omega)
    have e114 : ((b : Int) == 114) = false := beq_eq_false_iff_ne.2 (by omega)
    have hsb : sepB b = false := by
     unfold sepB
     simp only [beq_eq_false_iff_ne.2 hb41, beq_eq_false_iff_ne.2 hb43, beq_eq_false_iff_ne.2 hb45, beq_eq_false_iff_ne.2 hb47, beq_eq_false_iff_ne.2 hb0, Bool.or_self]
    by_cases h48 : (48 : Int) ≤ (b : Int)
    ·have h57 : ¬ (b : Int) ≤ 57 := by omega
     have hbad := HBADR.out (by have h := HRUN.out; rw [step_none hd (fun h => hb114 h.1) (fun h => hb40 h.1) hsb] at h; exact h.symm)
     have HBAD := hide hbad
     obtain ⟨r0, r1, rf0, rf1⟩ := HI.out.r.two
     clear hbad HRUN HBADR
     go_wp2
     exact HPOST.out _ _ none 0 0 [] false HBAD.out (Rq.empty _ _ _ _) (Below.setCell (Below.setCell HI.out.b (p := ⟨X2, 0, none⟩) HX2w.out _) (p := ⟨X2, 1, none⟩) HX2w.out _) ((HI.out.r.set_ 0 _).set_ 1 _) rfl rfl rfl
    ·have hbad := HBADR.out (by have h := HRUN.out; rw [step_none hd (fun h => hb114 h.1) (fun h => hb40 h.1) hsb] at h; exact h.symm)
     have HBAD := hide hbad
     obtain ⟨r0, r1, rf0, rf1⟩ := HI.out.r.two
     clear hbad HRUN HBADR
     go_wp2
     exact HPOST.out _ _ none 0 0 [] false HBAD.out (Rq.empty _ _ _ _) (Below.setCell (Below.setCell HI.out.b (p := ⟨X2, 0, none⟩) HX2w.out _) (p := ⟨X2, 1, none⟩) HX2w.out _) ((HI.out.r.set_ 0 _).set_ 1 _) rfl rfl rfl
   ·as_aux_lemma =>
     have hie : i = l.length := by omega
     have HRUN : Hid ((rdStep (decide (i = 0)) 0 ⟨ts, den, co, ro, sg, dg, rt, dn⟩).bind (rdRun false ((byteN l ++ [0]).drop (i + 1))) = R) := hide (by have h := HRUN1.out; rw [byte_end hie, rdRun_cons] at h; exact h)
     clear hie HRUN1
     go_upto_region 9 with fail
     cases dn
     ·cases rt
      ·by_cases hdg0 : (0 : Int) < (dg : Int)
       ·obtain ⟨p, hp⟩ : ∃ p, wrap64 (co * sg) = p := ⟨_, rfl⟩
        have HP := hide hp
        have HI1 := hide (HI.out.setCo HX.out p sg dg false false)
        by_cases hp0 : p = 0
        ·subst hp0
         have HRUN2 := hide (show rdRun false ((byteN l ++ [0]).drop (i + 1)) ⟨ts, den, 0, 1, 1, 0, false, false⟩ = R by have h := HRUN.out; rw [show rdStep (decide (i = 0)) 0 ⟨ts, den, co, ro, sg, dg, false, false⟩ = some ⟨ts, den, 0, 1, 1, 0, false, false⟩ from (step_sep (by rfl)).trans (by rw [endT_zero rfl (.inl (by show 0 < dg; omega)) (by exact HP.out) rfl]; rfl)] at h; exact h)
         have HIz := hide (((HI1.out.setCo HX.out 0 1 0 false false).setRo HX.out 1 1 0 false false))
         go_wp2
         exact ⟨⟨i + 1, ⟨ts, den, 0, 1, 1, 0, false, false⟩, A, c, rfl, rfl, rfl, rfl, by go_num, by omega, (by dsimp only; omega), (by dsimp only; omega), HIz.out, by rw [decide_eq_false (by omega)]; exact HRUN2.out⟩, by simp only [intOf]; omega⟩
        ·have hpb : (p != 0) = true := by simpa using hp0
         go_upto_region 28 with fail
         clear hp x0 x1 xf0 xf1 t0 t1 tf0 tf1
         generalize wr.setCell ⟨X5, 0, none⟩ (.int .i64 p) = V at *
         obtain ⟨x0, x1, xf0, xf1⟩ := HI1.out.x.two
         obtain ⟨t0, t1, tf0, tf1⟩ := HI1.out.t.two
         dsimp only at x0 x1 t0 t1
         have HROW := hide (HI1.out.row.alloc (.cells #[.int .i64 p, .int .i64 ro] 52))
         have HBV := hide ((Below.refl V.heap.size V).alloc (Nat.le_refl _) (.cells #[.int .i64 p, .int .i64 ro] 52))
         have hYV := HI1.out.sz
         go_upto_region 29 with (first
          | (at_builtin; refine wpList_append_lies _ rfl _ _ 22 rfl Y 52 i1 (.agg #[.int .i64 0, .int .i64 0]) 2 16 Tryz.underlying22 hi1 hy0 hy1 hy2 rfl (by decide) (.slice A ts.length c) ts.length _ rfl HROW.out ⟨V.heap.size, 0, none⟩ 1 1 [.int .i64 p, .int .i64 ro] rfl rfl (cell_new2 V _ _ _) (by simp [Value.oneCell']) (by decide) (by unfold maxLen; omega) (by omega) (by show _ ≤ (V.alloc _).heap.size; rw [World.size_alloc]; omega) (V.heap.size + 1) (by show (V.alloc _).heap.size = _; rw [World.size_alloc]) ?_; intro g3 cap3 w3 ho3 hg3 hat3 hlt3; have HIg := hide (HI1.out.grow HX.out HBV.out rfl ho3 hg3); have HB3 := hide (((HBV.out).mono hYV).grown hg3 (by show _ ≤ (V.alloc _).heap.size; rw [World.size_alloc]; omega) (fun j e => (HI1.out.row.lt j e).1)); obtain ⟨y0, y1, yf0, yf1⟩ := (HI1.out.x.below HB3.out (by have := HX.out.h5; have := HX.out.hY; omega)).two; clear ho3 hg3 hat3 hlt3))
         clear x0 x1 xf0 xf1 t0 t1 tf0 tf1 y0 y1 yf0 yf1
         generalize w3.setCell ⟨X4, 1, none⟩ (.slice (some ⟨g3, 0, none⟩) (ts.length + 1) cap3) = V2 at *
         obtain ⟨x0, x1, xf0, xf1⟩ := HIg.out.x.two
         obtain ⟨t0, t1, tf0, tf1⟩ := HIg.out.t.two
         dsimp only at x0 x1 t0 t1
         have hlen2 : (ts ++ [(p, ro)]).length = ts.length + 1 := by simp
         have HRUN2 := hide (show rdRun false ((byteN l ++ [0]).drop (i + 1)) ⟨ts ++ [(p, ro)], den, 0, 1, 1, 0, false, false⟩ = R by have h := HRUN.out; rw [show rdStep (decide (i = 0)) 0 ⟨ts, den, co, ro, sg, dg, false, false⟩ = some ⟨ts ++ [(p, ro)], den, 0, 1, 1, 0, false, false⟩ from (step_sep (by rfl)).trans (by rw [endT_app rfl (.inl (by show 0 < dg; omega)) (by exact HP.out) hp0]; rfl)] at h; exact h)
         have HIz := hide (((HIg.out.setCo HX.out 0 1 0 false false).setRo HX.out 1 1 0 false false))
         go_wp2
         exact ⟨⟨i + 1, ⟨ts ++ [(p, ro)], den, 0, 1, 1, 0, false, false⟩, (some ⟨g3, 0, none⟩), cap3, rfl, rfl, rfl, rfl, by go_num, by omega, (by dsimp only; omega), (by dsimp only; rw [hlen2]; omega), HIz.out, by rw [decide_eq_false (by omega)]; exact HRUN2.out⟩, by simp only [intOf]; omega⟩
       ·have HRUN2 := hide (show rdRun false ((byteN l ++ [0]).drop (i + 1)) ⟨ts, den, 0, 1, 1, 0, false, false⟩ = R by have h := HRUN.out; rw [show rdStep (decide (i = 0)) 0 ⟨ts, den, co, ro, sg, dg, false, false⟩ = some ⟨ts, den, 0, 1, 1, 0, false, false⟩ from (step_sep (by rfl)).trans (by rw [endT_no (.inr ⟨rfl, by show dg = 0; omega⟩)]; rfl)] at h; exact h)
        have HIz := hide (((HI.out.setCo HX.out 0 1 0 false false).setRo HX.out 1 1 0 false false))
        go_wp2
        exact ⟨⟨i + 1, ⟨ts, den, 0, 1, 1, 0, false, false⟩, A, c, rfl, rfl, rfl, rfl, by go_num, by omega, (by dsimp only; omega), (by dsimp only; omega), HIz.out, by rw [decide_eq_false (by omega)]; exact HRUN2.out⟩, by simp only [intOf]; omega⟩
      ·by_cases hdg0 : (0 : Int) < (dg : Int)
       all_goals
        obtain ⟨p, hp⟩ : ∃ p, wrap64 (co * sg) = p := ⟨_, rfl⟩
        have HP := hide hp
        have HI1 := hide (HI.out.setCo HX.out p sg dg true false)
        by_cases hp0 : p = 0
        ·subst hp0
         have HRUN2 := hide (show rdRun false ((byteN l ++ [0]).drop (i + 1)) ⟨ts, den, 0, 1, 1, 0, false, false⟩ = R by have h := HRUN.out; rw [show rdStep (decide (i = 0)) 0 ⟨ts, den, co, ro, sg, dg, true, false⟩ = some ⟨ts, den, 0, 1, 1, 0, false, false⟩ from (step_sep (by rfl)).trans (by rw [endT_zero rfl (.inr rfl) (by exact HP.out) rfl]; rfl)] at h; exact h)
         have HIz := hide (((HI1.out.setCo HX.out 0 1 0 false false).setRo HX.out 1 1 0 false false))
         go_wp2
         exact ⟨⟨i + 1, ⟨ts, den, 0, 1, 1, 0, false, false⟩, A, c, rfl, rfl, rfl, rfl, by go_num, by omega, (by dsimp only; omega), (by dsimp only; omega), HIz.out, by rw [decide_eq_false (by omega)]; exact HRUN2.out⟩, by simp only [intOf]; omega⟩
        ·have hpb : (p != 0) = true := by simpa using hp0
         go_upto_region 28 with fail
         clear hp x0 x1 xf0 xf1 t0 t1 tf0 tf1
         generalize wr.setCell ⟨X5, 0, none⟩ (.int .i64 p) = V at *
         obtain ⟨x0, x1, xf0, xf1⟩ := HI1.out.x.two
         obtain ⟨t0, t1, tf0, tf1⟩ := HI1.out.t.two
         dsimp only at x0 x1 t0 t1
         have HROW := hide (HI1.out.row.alloc (.cells #[.int .i64 p, .int .i64 ro] 52))
         have HBV := hide ((Below.refl V.heap.size V).alloc (Nat.le_refl _) (.cells #[.int .i64 p, .int .i64 ro] 52))
         have hYV := HI1.out.sz
         go_upto_region 29 with (first
          | (at_builtin; refine wpList_append_lies _ rfl _ _ 22 rfl Y 52 i1 (.agg #[.int .i64 0, .int .i64 0]) 2 16 Tryz.underlying22 hi1 hy0 hy1 hy2 rfl (by decide) (.slice A ts.length c) ts.length _ rfl HROW.out ⟨V.heap.size, 0, none⟩ 1 1 [.int .i64 p, .int .i64 ro] rfl rfl (cell_new2 V _ _ _) (by simp [Value.oneCell']) (by decide) (by unfold maxLen; omega) (by omega) (by show _ ≤ (V.alloc _).heap.size; rw [World.size_alloc]; omega) (V.heap.size + 1) (by show (V.alloc _).heap.size = _; rw [World.size_alloc]) ?_; intro g3 cap3 w3 ho3 hg3 hat3 hlt3; have HIg := hide (HI1.out.grow HX.out HBV.out rfl ho3 hg3); have HB3 := hide (((HBV.out).mono hYV).grown hg3 (by show _ ≤ (V.alloc _).heap.size; rw [World.size_alloc]; omega) (fun j e => (HI1.out.row.lt j e).1)); obtain ⟨y0, y1, yf0, yf1⟩ := (HI1.out.x.below HB3.out (by have := HX.out.h5; have := HX.out.hY; omega)).two; clear ho3 hg3 hat3 hlt3))
         clear x0 x1 xf0 xf1 t0 t1 tf0 tf1 y0 y1 yf0 yf1
         generalize w3.setCell ⟨X4, 1, none⟩ (.slice (some ⟨g3, 0, none⟩) (ts.length + 1) cap3) = V2 at *
         obtain ⟨x0, x1, xf0, xf1⟩ := HIg.out.x.two
         obtain ⟨t0, t1, tf0, tf1⟩ := HIg.out.t.two
         dsimp only at x0 x1 t0 t1
         have hlen2 : (ts ++ [(p, ro)]).length = ts.length + 1 := by simp
         have HRUN2 := hide (show rdRun false ((byteN l ++ [0]).drop (i + 1)) ⟨ts ++ [(p, ro)], den, 0, 1, 1, 0, false, false⟩ = R by have h := HRUN.out; rw [show rdStep (decide (i = 0)) 0 ⟨ts, den, co, ro, sg, dg, true, false⟩ = some ⟨ts ++ [(p, ro)], den, 0, 1, 1, 0, false, false⟩ from (step_sep (by rfl)).trans (by rw [endT_app rfl (.inr rfl) (by exact HP.out) hp0]; rfl)] at h; exact h)
         have HIz := hide (((HIg.out.setCo HX.out 0 1 0 false false).setRo HX.out 1 1 0 false false))
         go_wp2
         exact ⟨⟨i + 1, ⟨ts ++ [(p, ro)], den, 0, 1, 1, 0, false, false⟩, (some ⟨g3, 0, none⟩), cap3, rfl, rfl, rfl, rfl, by go_num, by omega, (by dsimp only; omega), (by dsimp only; rw [hlen2]; omega), HIz.out, by rw [decide_eq_false (by omega)]; exact HRUN2.out⟩, by simp only [intOf]; omega⟩
     ·have HRUN2 := hide (show rdRun false ((byteN l ++ [0]).drop (i + 1)) ⟨ts, den, 0, 1, 1, 0, false, true⟩ = R by have h := HRUN.out; rw [show rdStep (decide (i = 0)) 0 ⟨ts, den, co, ro, sg, dg, rt, true⟩ = some ⟨ts, den, 0, 1, 1, 0, false, true⟩ from (step_sep (by rfl)).trans (by rw [endT_no (.inl rfl)]; rfl)] at h; exact h)
      have HIz := hide (((HI.out.setCo HX.out 0 1 0 false true).setRo HX.out 1 1 0 false true))
      go_wp2
      exact ⟨⟨i + 1, ⟨ts, den, 0, 1, 1, 0, false, true⟩, A, c, rfl, rfl, rfl, rfl, by go_num, by omega, (by dsimp only; omega), (by dsimp only; omega), HIz.out, by rw [decide_eq_false (by omega)]; exact HRUN2.out⟩, by simp only [intOf]; omega⟩
  ·as_aux_lemma =>
    have hie : i = l.length + 1 := by omega
    have hRS : some (⟨ts, den, co, ro, sg, dg, rt, dn⟩ : RdS) = R := by have h := HRUN1.out; rw [byte_past (by omega)] at h; exact h
    have HRS : Hid (res = if numOK den ts = true ∧ numT den ts = l then (den, ts, true) else (0, [], false)) := hide (by rw [HRES.out, ← hRS]; rfl)
    have HTQ : Hid (TermsQ wr wr.heap.size A ts.length c ts) := hide (Rq.of (Rd.of_own HI.out.row))
    have HNM := hide (refNumber_any den A ts.length c wr.heap.size ts wr HTQ.out (Nat.le_refl _))
    clear hie hRS HRUN1 HRES HBADR
    have hX2l := HI.out.r.lt
    have hX4l := HI.out.x.lt
    cases hn : numOK den ts
    ·rw [hn] at HNM
     have HV : Hid (res = (0, [], false)) := hide (HRS.out.trans (if_neg (fun h => by rw [hn] at h; cases h.1)))
     go_upto_region 35 with (first
      | (go_at_call 15; refine HNM.out.mono ?_; rintro e w1 ⟨rfl, hb1⟩; have HR1 := hide (HI.out.r.below hb1 hX2l); have HB1 := hide (HI.out.b.trans (hb1.mono HI.out.b.size)); clear hb1))
     obtain ⟨r0, r1, rf0, rf1⟩ := HR1.out.two
     go_wp2
     exact HPOST.out _ _ none 0 0 [] false HV.out (Rq.empty _ _ _ _) (Below.setCell (Below.setCell HB1.out (p := ⟨X2, 0, none⟩) HX2w.out _) (p := ⟨X2, 1, none⟩) HX2w.out _) ((HR1.out.set_ 0 _).set_ 1 _) rfl rfl rfl
    ·rw [hn] at HNM
     have HTX := hide (fun W (hb : Below wr.heap.size wr W) => numText_any den A ts.length c wr.heap.size ts W (Rq.below HTQ.out hb) hb.size hn)
     obtain ⟨tx, htx⟩ : ∃ tx : ByteArray, tx = ⟨(numT den ts).toArray⟩ := ⟨_, rfl⟩
     rw [← htx] at HTX
     have hcmp : tx.toList = s.toList ↔ numT den ts = l := by
      rw [ByteArray.toList_eq, ByteArray.toList_eq, htx, HSL.out]
     clear htx
     by_cases ht : numT den ts = l
     ·have hne : (tx.toList == s.toList) = true := by rw [beq_iff_eq]; exact hcmp.2 ht
      have HV : Hid (res = (den, ts, true)) := hide (HRS.out.trans (if_pos ⟨hn, ht⟩))
      clear hcmp ht
      go_upto_region 36 with (first
       | (go_at_call 20; refine (HTX.out _ HB01.out).mono ?_; rintro e w2 ⟨rfl, hb2⟩; have HB02 := hide (HB01.out.trans (hb2.mono HB01.out.size)); obtain ⟨z0, z1, _, _⟩ := (HI.out.x.below HB02.out hX4l).two; clear hb2)
       | (go_at_call 15; refine HNM.out.mono ?_; rintro e w1 ⟨rfl, hb1⟩; have HB01 := hide hb1; obtain ⟨y0, y1, _, _⟩ := (HI.out.x.below hb1 hX4l).two; clear hb1))
      have HR2 := hide (HI.out.r.below HB02.out hX2l)
      have HXX2 := hide (HI.out.x.below HB02.out hX4l)
      have HB2 := hide (HI.out.b.trans (HB02.out.mono HI.out.b.size))
      have HROW2 := hide (own_bel HI.out.row HB02.out)
      clear y0 y1 z0 z1 HB01
      obtain ⟨r0, r1, rf0, rf1⟩ := HR2.out.two
      obtain ⟨y0, y1, yf0, yf1⟩ := HXX2.out.two
      go_wp2
      have hx := HX.out
      have ho2 := own_far (own_far HROW2.out (p := ⟨X2, 0, none⟩) (by show X2 < Y; have := hx.h4; have := hx.h5; have := hx.hY; omega) (.int .i64 den)) (p := ⟨X2, 1, none⟩) (by show X2 < Y; have := hx.h4; have := hx.h5; have := hx.hY; omega) (.slice A ts.length c)
      exact HPOST.out _ _ A c den ts true HV.out (Rq.of (Rd.of_own ho2)) (Below.setCell (Below.setCell HB2.out (p := ⟨X2, 0, none⟩) HX2w.out _) (p := ⟨X2, 1, none⟩) HX2w.out _) ((HR2.out.set_ 0 _).set_ 1 _) rfl rfl rfl
     ·have hne : (tx.toList == s.toList) = false := by rw [beq_eq_false_iff_ne]; exact fun h => ht (hcmp.1 h)
      have HV : Hid (res = (0, [], false)) := hide (HRS.out.trans (if_neg (fun h => ht h.2)))
      clear hcmp ht
      go_upto_region 35 with (first
       | (go_at_call 20; refine (HTX.out _ HB01.out).mono ?_; rintro e w2 ⟨rfl, hb2⟩; have HB02 := hide (HB01.out.trans (hb2.mono HB01.out.size)); obtain ⟨z0, z1, _, _⟩ := (HI.out.x.below HB02.out hX4l).two; clear hb2)
       | (go_at_call 15; refine HNM.out.mono ?_; rintro e w1 ⟨rfl, hb1⟩; have HB01 := hide hb1; obtain ⟨y0, y1, _, _⟩ := (HI.out.x.below hb1 hX4l).two; clear hb1))
      have HR2 := hide (HI.out.r.below HB02.out hX2l)
      have HB2 := hide (HI.out.b.trans (HB02.out.mono HI.out.b.size))
      clear y0 y1 z0 z1 HB01
      obtain ⟨r0, r1, rf0, rf1⟩ := HR2.out.two
      go_wp2
      exact HPOST.out _ _ none 0 0 [] false HV.out (Rq.empty _ _ _ _) (Below.setCell (Below.setCell HB2.out (p := ⟨X2, 0, none⟩) HX2w.out _) (p := ⟨X2, 1, none⟩) HX2w.out _) ((HR2.out.set_ 0 _).set_ 1 _) rfl rfl rfl
end Go.Proofs.YthkblgglmohciaaGreatDoor
