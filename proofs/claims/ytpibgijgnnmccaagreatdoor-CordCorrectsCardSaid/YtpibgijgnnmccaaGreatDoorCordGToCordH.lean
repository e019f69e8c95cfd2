import Derived.Test.YtpibgijgnnmccaaGreatDoorCordCToCordF
import Derived.Test.YtpibgijgnnmccaaGreatDoorRootB
set_option linter.unusedVariables false
set_option linter.unusedSimpArgs false
namespace Go.Proofs.YtpibgijgnnmccaaGreatDoor
open Go.RowKit
theorem bodyPost_cell {fn : Func} {p : Tmp} {ty : TypeId} (h : fn.results = #[.cell p ty]) {R : Ending → World → Prop} {a : Act} {w : World} {g : Nat} {t : TypeId} {cs : Array Value} {d : TypeDesc}
  (hp : a.tmps.getD p undef = .pointer (some ⟨g, 0, none⟩)) (hg : Blk w g t cs) (hd : (match d with | .struct _ | .array _ _ => true | _ => false) = true) (hu : Tryz.prog.underlying ty = some d)
  (hi : (Tryz.prog.info? ty).map (·.size) = some cs.size) (hdf : a.defers = []) (hR : R (.returned (.agg cs)) w) : bodyPost Tryz.prog fn R .ret a w :=
 bodyPost_ret (results_cell_row h _ _ g t cs (0, 0) d hp hg hu (by cases d <;> exact hd) hi) hdf hR
def ValPost (w : World) (s : Int × List (Int × Int)) (e : Ending) (w' : World) : Prop :=
 ∃ (A : Option Addr) (n c : Nat), e = .returned (.agg #[.int .i64 s.1, .slice A n c]) ∧ w'.ownsRow w.heap.size 71 2 (.slice A n c) n (cellsT s.2) ∧ Below w.heap.size w w'
set_option maxHeartbeats 1000000 in
set_option maxRecDepth 100000 in
theorem fraction_any (num den : Int) (w : World) : Calls Tryz.prog 88 #[.int .i64 num, .int .i64 den] w (ValPost w (den, [(num, 1)])) := by
 have HO1 := hide (fun x : Array Value => (show ((w.alloc (.cells x 33)).alloc (.cells #[.int .i64 num, .int .i64 1] 71)).ownsRow (w.heap.size + 1) 71 2 (.slice (some ⟨w.heap.size + 1, 0, none⟩) 1 1) 1 (cellsT [(num, 1)]) by
  have h := World.ownsRow_lit (base := w.heap.size + 1) (e := 71) (size := 2) (w.alloc (.cells x 33)) #[.int .i64 num, .int .i64 1] 1 (by simp) (by unfold maxLen; omega) rfl
  rw [World.size_alloc] at h
  exact h))
 go_enter Tryz.func88, Tryz.ntmps88
 go_wp2
 refine bodyPost_cell (p := 4) (ty := 33) rfl rfl ((Blk.new w _ _).alloc _) (d := _) rfl Tryz.underlying33 Tryz.sizeNumber rfl ?_
 exact ⟨_, _, _, rfl, own_le (HO1.out _) (by omega), ((Below.refl w.heap.size w).alloc (Nat.le_refl _) _).alloc (by simp) _⟩
def wholeN (n : Int) : Int × List (Int × Int) := if n = 0 then (1, []) else (1, [(n, 1)])
set_option maxHeartbeats 1000000 in
set_option maxRecDepth 100000 in
theorem whole_num (n : Int) (w : World) : Calls Tryz.prog 87 #[.int .i64 n] w (ValPost w (wholeN n)) := by
 have HR0 := hide (Blk.new w 33 #[.int .i64 0, .slice none 0 0])
 have HB0 := hide ((Below.refl w.heap.size w).alloc (Nat.le_refl _) (.cells #[.int .i64 0, .slice none 0 0] 33))
 obtain ⟨q1, q2, q3, q4⟩ := HR0.out.two
 by_cases h0 : n = 0
 ·subst h0
  have HW : Hid (wholeN 0 = (1, [])) := hide rfl
  go_enter Tryz.func87, Tryz.ntmps87
  go_wp2
  refine bodyPost_cell (p := 2) (ty := 33) rfl rfl (Blk.new w _ _) (d := _) rfl Tryz.underlying33 Tryz.sizeNumber rfl ?_
  rw [HW.out]
  exact ⟨none, 0, 0, rfl, ⟨rfl, .inl ⟨rfl, rfl⟩⟩, (Below.refl w.heap.size w).alloc (Nat.le_refl _) _⟩
 ·have HW := hide (show wholeN n = (1, [(n, 1)]) from if_neg h0)
  have hne : (n == 0) = false := beq_eq_false_iff_ne.2 h0
  have HF := hide (fraction_any n 1 (w.alloc (.cells #[.int .i64 0, .slice none 0 0] 33)))
  go_enter Tryz.func87, Tryz.ntmps87
  go_wp2_with (first
   | (go_at_call 88; refine HF.out.mono ?_; rintro e w1 ⟨A, n1, c1, rfl, ho, hb⟩
      (try simp only [World.size_alloc] at hb ho)
      have HR1 := hide (HR0.out.below hb (by omega))
      have HB1 := hide (HB0.out.trans (hb.mono (by omega)))
      obtain ⟨u1, u2, u3, u4⟩ := HR1.out.two
      have HO := hide ho
      clear hb ho))
  refine bodyPost_cell (p := 2) (ty := 33) rfl rfl ((HR1.out.set_ 0 _).set_ 1 _) (d := _) rfl Tryz.underlying33 Tryz.sizeNumber rfl ?_
  rw [HW.out]
  exact ⟨A, n1, c1, rfl, own_le (ownsRow_setCell_below (ownsRow_setCell_below HO.out (by show w.heap.size < _; omega) _) (by show w.heap.size < _; omega) _) (by omega), (HB1.out.setCell (by show _ ≤ w.heap.size; omega) _).setCell (by show _ ≤ w.heap.size; omega) _⟩
set_option maxHeartbeats 400000 in
theorem value1_any (p : PieceV) (B : Nat) (w : World) (hp : p.At w B) (hB : B ≤ w.heap.size) (hm : ∀ m ∈ p.ms, 0 ≤ m ∧ m ≤ 1000) :
  Calls Tryz.prog 85 #[.agg #[.bool p.minus, .slice p.A p.n p.c]] w fun e w' => e = .returned (.bool (prodM 1 p.ms == 0)) ∧ Below w.heap.size w w' := by
 obtain ⟨mi, A, n, c, ms⟩ := p
 have HP := hide (cordProduct_any A n c B ms (w.alloc (.cells #[.bool mi, .slice A n c] 96)) (Rd.alloc hp hB _) hm)
 have HB0 := hide ((Below.refl w.heap.size w).alloc (Nat.le_refl _) (.cells #[.bool mi, .slice A n c] 96))
 clear hp hm
 dsimp only
 generalize prodM 1 ms = r at *
 go_enter Tryz.func85, Tryz.ntmps85
 go_wp2_with (first
  | (go_at_call 86; refine HP.out.mono ?_; rintro e w1 ⟨rfl, hw⟩; subst w1))
 all_goals go_ret
 all_goals exact ⟨by simp [*], HB0.out⟩
def partsS (xd : Int) (xt : List (Int × Int)) : Int × Int × Bool :=
 match xt with
 | [] => (0, 1, true)
 | [t] => if t.2 = 1 then (t.1, xd, true) else (0, 0, false)
 | _ => (0, 0, false)
end Go.Proofs.YtpibgijgnnmccaaGreatDoor
namespace Go.Proofs.YtpibgijgnnmccaaGreatDoor
open Go.RowKit
set_option maxHeartbeats 2000000 in
set_option maxRecDepth 100000 in
theorem parts_any (xd : Int) (A : Option Addr) (n c B : Nat) (xt : List (Int × Int)) (w : World) (hx : Terms w B A n c xt) (hB : B ≤ w.heap.size) :
  Calls Tryz.prog 81 #[.agg #[.int .i64 xd, .slice A n c]] w fun e w' => e = .returned (.tuple #[.int .i64 (partsS xd xt).1, .int .i64 (partsS xd xt).2.1, .bool (partsS xd xt).2.2]) ∧ Below w.heap.size w w' := by
 have hl := hx.len
 have hcm := hx.nmax
 have HXa := hide (Blk.new w 33 #[.int .i64 xd, .slice A n c])
 have HTa : Hid (Terms (w.alloc (.cells #[.int .i64 xd, .slice A n c] 33)) B A n c xt) := hide (Rd.alloc hx hB _)
 have HBa := hide ((Below.refl w.heap.size w).alloc (Nat.le_refl _) (.cells #[.int .i64 xd, .slice A n c] 33))
 clear hx
 rcases xt with _ | ⟨⟨co, ro⟩, _ | ⟨u, ts⟩⟩
 ·have HP : Hid (partsS xd [] = (0, 1, true)) := hide rfl
  obtain rfl : n = 0 := by simpa using hl.symm
  obtain ⟨q1, q2, _, _⟩ := HXa.out.two
  clear hl HTa HXa
  go_enter Tryz.func81, Tryz.ntmps81
  go_wp2
  go_ret3
  rw [HP.out]
  exact ⟨rfl, HBa.out⟩
 ·obtain ⟨ad, had, hc0, hc1⟩ := HTa.out.at_ (i := 0) (by simp)
  obtain rfl : n = 1 := by simpa using hl.symm
  subst had
  obtain ⟨q1, q2, _, _⟩ := HXa.out.two
  simp only [Nat.zero_mul, List.getElem_cons_zero, add_zero_] at hc0 hc1
  by_cases hr : ro = 1
  ·subst hr
   have HP : Hid (partsS xd [(co, 1)] = (co, xd, true)) := hide (by unfold partsS; simp)
   have HBd := hide (fun q => below_drewN HBa.out q)
   clear hl HTa HXa
   go_enter Tryz.func81, Tryz.ntmps81
   go_wp2
   generalize w.alloc (.cells #[.int .i64 xd, .slice (some ad) 1 c] 33) = wa at *
   go_region_held3 (fun w' => w'.cell? ⟨w.heap.size, 0, none⟩ = some (.int .i64 xd) ∧ w'.cell? ⟨w.heap.size, 1, none⟩ = some (.slice (some ad) 1 c) ∧ w'.cell? ad = some (.int .i64 co)) (exact ⟨q1, q2, hc0⟩) (fail)
   all_goals
    go_wp2
    go_ret3
    rw [HP.out]
    exact ⟨rfl, HBd.out 1⟩
  ·have HP : Hid (partsS xd [(co, ro)] = (0, 0, false)) := hide (by unfold partsS; exact if_neg hr)
   have hrn : (ro != 1) = true := by simpa using hr
   clear hl HTa HXa
   go_enter Tryz.func81, Tryz.ntmps81
   go_wp2
   go_ret3
   rw [HP.out]
   exact ⟨rfl, HBa.out⟩
 ·have HP : Hid (partsS xd ((co, ro) :: u :: ts) = (0, 0, false)) := hide rfl
  have hl2 : (1 : Int) < (n : Int) := by simp at hl; omega
  have hl0 : ((n : Int) == 0) = false := beq_eq_false_iff_ne.2 (by omega)
  obtain ⟨q1, q2, _, _⟩ := HXa.out.two
  clear HTa hl HXa
  go_enter Tryz.func81, Tryz.ntmps81
  go_wp2
  go_ret3
  rw [HP.out]
  exact ⟨rfl, HBa.out⟩
end Go.Proofs.YtpibgijgnnmccaaGreatDoor
