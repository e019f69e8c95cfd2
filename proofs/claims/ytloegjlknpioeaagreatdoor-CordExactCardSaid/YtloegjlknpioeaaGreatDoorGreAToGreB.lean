import Derived.Test.YtloegjlknpioeaaGreatDoorCordKToCordR
import Derived.Test.YtloegjlknpioeaaGreatDoorCordGToCordH
import Derived.Test.YtloegjlknpioeaaGreatDoorCordSToCordV
import Derived.Test.YtloegjlknpioeaaGreatDoorBaseToHead
set_option linter.unusedVariables false
set_option linter.unusedSimpArgs false
namespace Go.Proofs.YtloegjlknpioeaaGreatDoor
open Go.RowKit
theorem bodyPost_cells_tmp {P : Program} {fn : Func} {p q u : Tmp} {ty ty2 : TypeId} (h : fn.results = #[.cell p ty, .cell q ty2, .tmp u]) {R : Ending → World → Prop} {a : Act} {w : World} {g g2 : Nat} {t t2 : TypeId} {cs cs2 : Array Value} {d d2 : TypeDesc}
  (hp : a.tmps.getD p undef = .pointer (some ⟨g, 0, none⟩)) (hg : Blk w g t cs) (hu : P.underlying ty = some d) (hd : (match d with | .struct _ | .array _ _ => true | _ => false) = true) (hi : (P.info? ty).map (·.size) = some cs.size)
  (hp2 : a.tmps.getD q undef = .pointer (some ⟨g2, 0, none⟩)) (hg2 : Blk w g2 t2 cs2) (hu2 : P.underlying ty2 = some d2) (hd2 : (match d2 with | .struct _ | .array _ _ => true | _ => false) = true) (hi2 : (P.info? ty2).map (·.size) = some cs2.size)
  (hdf : a.defers = []) (hR : R (.returned (.tuple #[.agg cs, .agg cs2, a.tmps.getD u undef])) w) : bodyPost P fn R .ret a w := by
 refine bodyPost_ret (v := .tuple #[.agg cs, .agg cs2, a.tmps.getD u undef]) ?_ hdf hR
 have e : (results fn a.tmps).run P w = ((asAddr (a.tmps.getD p undef)).run P w).andThen fun x w₁ => ((loadVar ty x).run P w₁).andThen fun v w₂ => ((asAddr (a.tmps.getD q undef)).run P w₂).andThen fun x2 w₃ => ((loadVar ty2 x2).run P w₃).andThen fun v2 w₄ => .ok (.tuple #[v, v2, a.tmps.getD u undef]) w₄ := by
  simp only [results, h]
  simp [Sem.run_bind, Result.andThen]
 rw [e, hp, hp2]
 simp [asAddr, Result.andThen, run_loadVar_row w g t ty cs (0, 0) d hg hu hd hi, run_loadVar_row w g2 t2 ty2 cs2 (0, 0) d2 hg2 hu2 hd2 hi2]
def greedyF : Nat → Int × List (Int × Int) → List Int × (Int × List (Int × Int))
 | 0, r => ([], r)
 | k + 1, r =>
  if (partsS r.1 r.2).1 = 0 then ([], r)
  else if 1000 < ((partsS r.1 r.2).2.1 + (partsS r.1 r.2).1 - 1).tdiv (partsS r.1 r.2).1 ∨ (plusS r.1 r.2 (((partsS r.1 r.2).2.1 + (partsS r.1 r.2).1 - 1).tdiv (partsS r.1 r.2).1) [(1, 1)] (-1)).2.2 ≠ 0 then ([], r)
  else (((partsS r.1 r.2).2.1 + (partsS r.1 r.2).1 - 1).tdiv (partsS r.1 r.2).1 ::
    (greedyF k ((plusS r.1 r.2 (((partsS r.1 r.2).2.1 + (partsS r.1 r.2).1 - 1).tdiv (partsS r.1 r.2).1) [(1, 1)] (-1)).1, (plusS r.1 r.2 (((partsS r.1 r.2).2.1 + (partsS r.1 r.2).1 - 1).tdiv (partsS r.1 r.2).1) [(1, 1)] (-1)).2.1)).1,
   (greedyF k ((plusS r.1 r.2 (((partsS r.1 r.2).2.1 + (partsS r.1 r.2).1 - 1).tdiv (partsS r.1 r.2).1) [(1, 1)] (-1)).1, (plusS r.1 r.2 (((partsS r.1 r.2).2.1 + (partsS r.1 r.2).1 - 1).tdiv (partsS r.1 r.2).1) [(1, 1)] (-1)).2.1)).2)
theorem greedyF_zero {k : Nat} {r : Int × List (Int × Int)} (h : (partsS r.1 r.2).1 = 0) : greedyF k r = ([], r) := by
 cases k with
 | zero => rfl
 | succ k => rw [greedyF, if_pos h]
theorem greedyF_stop {k : Nat} {rd num den : Int} {rt : List (Int × Int)} {ok : Bool} {s : Int × List (Int × Int) × Int} (hp : partsS rd rt = (num, den, ok)) (hs : plusS rd rt ((den + num - 1).tdiv num) [(1, 1)] (-1) = s)
  (h : 1000 < (den + num - 1).tdiv num ∨ s.2.2 ≠ 0) : greedyF (k + 1) (rd, rt) = ([], (rd, rt)) := by
 rw [greedyF]
 simp only [hp, hs]
 split <;> first | rfl | rw [if_pos h]
theorem greedyF_next {k : Nat} {rd num den : Int} {rt : List (Int × Int)} {ok : Bool} {s : Int × List (Int × Int) × Int} (hp : partsS rd rt = (num, den, ok)) (hs : plusS rd rt ((den + num - 1).tdiv num) [(1, 1)] (-1) = s)
  (h0 : num ≠ 0) (h : ¬ (1000 < (den + num - 1).tdiv num ∨ s.2.2 ≠ 0)) : greedyF (k + 1) (rd, rt) = ((den + num - 1).tdiv num :: (greedyF k (s.1, s.2.1)).1, (greedyF k (s.1, s.2.1)).2) := by
 rw [greedyF]
 simp only [hp, hs]
 rw [if_neg h0, if_neg h]
def greedyS (xd : Int) (xt : List (Int × Int)) (most : Int) : Int × List Int × (Int × List (Int × Int)) × Int :=
 if numOK xd xt = false then (0, [], (0, []), 2)
 else if (partsS xd xt).2.2 = false ∨ (partsS xd xt).1 < 0 ∨ 1000 < (partsS xd xt).1.tdiv (partsS xd xt).2.1 ∨ inB most 0 8 = false then (0, [], (0, []), 3)
 else ((partsS xd xt).1.tdiv (partsS xd xt).2.1, (greedyF most.toNat ((plusS xd xt (wholeN ((partsS xd xt).1.tdiv (partsS xd xt).2.1)).1 (wholeN ((partsS xd xt).1.tdiv (partsS xd xt).2.1)).2 (-1)).1, (plusS xd xt (wholeN ((partsS xd xt).1.tdiv (partsS xd xt).2.1)).1 (wholeN ((partsS xd xt).1.tdiv (partsS xd xt).2.1)).2 (-1)).2.1)).1,
   (greedyF most.toNat ((plusS xd xt (wholeN ((partsS xd xt).1.tdiv (partsS xd xt).2.1)).1 (wholeN ((partsS xd xt).1.tdiv (partsS xd xt).2.1)).2 (-1)).1, (plusS xd xt (wholeN ((partsS xd xt).1.tdiv (partsS xd xt).2.1)).1 (wholeN ((partsS xd xt).1.tdiv (partsS xd xt).2.1)).2 (-1)).2.1)).2, 0)
def pieceD (d : Int) : Bool × List Int := (false, [d])
def GreedyPost (w : World) (wh : Int) (ms : List Int) (rd : Int) (rt : List (Int × Int)) (code : Int) (e : Ending) (w' : World) : Prop :=
 ∃ (A : Option Addr) (c : Nat) (L : List PieceV) (Ar : Option Addr) (nr cr : Nat), e = .returned (.tuple #[.agg #[.int .i64 wh, .slice A L.length c], .agg #[.int .i64 rd, .slice Ar nr cr], .int .i64 code]) ∧
  Pieces w' w'.heap.size A L.length c L ∧ L.map PieceV.flat = ms.map pieceD ∧ w'.ownsRow w.heap.size 66 2 (.slice Ar nr cr) nr (cellsT rt) ∧ Below w.heap.size w w'
structure GreI (w W : World) (wh : Int) (v : Value) (A : Option Addr) (c : Nat) (L : List PieceV) (rd : Int) (Ar : Option Addr) (nr cr : Nat) (rt : List (Int × Int)) : Prop where
 o : Blk W (w.heap.size + 1) 24 #[.int .i64 wh, v]
 r : Blk W (w.heap.size + 2) 33 #[.int .i64 rd, .slice Ar nr cr]
 row : W.ownsRow (w.heap.size + 3) 80 2 (.slice A L.length c) L.length (cells2 (L.map PieceV.enc))
 marks : ∀ p ∈ L, W.ownsRow (w.heap.size + 3) 3 1 (.slice p.A p.n p.c) p.n (p.ms.map (Value.int .i64))
 terms : W.ownsRow (w.heap.size + 3) 66 2 (.slice Ar nr cr) nr (cellsT rt)
 below : Below w.heap.size w W
section
variable {w W W' : World} {wh : Int} {v : Value} {A : Option Addr} {c : Nat} {L : List PieceV} {rd : Int} {Ar : Option Addr} {nr cr : Nat} {rt : List (Int × Int)}
theorem GreI.under (h : GreI w W wh v A c L rd Ar nr cr rt) (hb : Below W.heap.size W W') : GreI w W' wh v A c L rd Ar nr cr rt :=
 ⟨h.o.below hb h.o.lt, h.r.below hb h.r.lt, own_below h.row hb, fun p hp => own_below (h.marks p hp) hb, own_below h.terms hb, h.below.trans (hb.mono h.below.size)⟩
theorem GreI.drew (h : GreI w W wh v A c L rd Ar nr cr rt) : GreI w W.drew wh v A c L rd Ar nr cr rt := h.under (Below.drew (Below.refl _ _))
theorem GreI.alloc (h : GreI w W wh v A c L rd Ar nr cr rt) (ob : Obj) : GreI w (W.alloc ob) wh v A c L rd Ar nr cr rt := h.under ((Below.refl _ _).alloc (Nat.le_refl _) ob)
theorem GreI.rest (h : GreI w W wh v A c L rd Ar nr cr rt) {rd' : Int} {Ar' : Option Addr} {nr' cr' : Nat} {rt' : List (Int × Int)} (ho : W.ownsRow (w.heap.size + 3) 66 2 (.slice Ar' nr' cr') nr' (cellsT rt')) :
  GreI w ((W.setCell ⟨w.heap.size + 2, 0, none⟩ (.int .i64 rd')).setCell ⟨w.heap.size + 2, 1, none⟩ (.slice Ar' nr' cr')) wh v A c L rd' Ar' nr' cr' rt' := by
 have kp : ∀ {s n : Nat} {e : TypeId} {x : Value} {xs : List Value}, W.ownsRow (w.heap.size + 3) e s x n xs → ((W.setCell ⟨w.heap.size + 2, 0, none⟩ (.int .i64 rd')).setCell ⟨w.heap.size + 2, 1, none⟩ (.slice Ar' nr' cr')).ownsRow (w.heap.size + 3) e s x n xs := fun x =>
  ownsRow_setCell_below (ownsRow_setCell_below x (by show w.heap.size + 2 < w.heap.size + 3; omega) _) (by show w.heap.size + 2 < w.heap.size + 3; omega) _
 exact ⟨(h.o.far (by simp) _).far (by simp) _, (h.r.set_ 0 _).set_ 1 _, kp h.row, fun p hp => kp (h.marks p hp), kp ho, (h.below.setCell (by show w.heap.size ≤ w.heap.size + 2; omega) _).setCell (by show w.heap.size ≤ w.heap.size + 2; omega) _⟩
theorem GreI.put (h : GreI w W wh v A c L rd Ar nr cr rt) {X i : Nat} {cs : Array Value} (hb : Blk W X 33 cs) (hX : w.heap.size + 3 ≤ X) (u : Value) : GreI w (W.setCell ⟨X, i, none⟩ u) wh v A c L rd Ar nr cr rt :=
 ⟨h.o.far (by simp; omega) u, h.r.far (by simp; omega) u, own_set h.row hb (by decide), fun p hp => own_set (h.marks p hp) hb (by decide), own_set h.terms hb (by decide), h.below.setCell (by show w.heap.size ≤ X; omega) u⟩
theorem GreI.whole (h : GreI w W wh v A c L rd Ar nr cr rt) (x : Int) : GreI w (W.setCell ⟨w.heap.size + 1, 0, none⟩ (.int .i64 x)) x v A c L rd Ar nr cr rt := by
 have kp : ∀ {s n : Nat} {e : TypeId} {y : Value} {xs : List Value}, W.ownsRow (w.heap.size + 3) e s y n xs → (W.setCell ⟨w.heap.size + 1, 0, none⟩ (.int .i64 x)).ownsRow (w.heap.size + 3) e s y n xs := fun y => ownsRow_setCell_below y (by show w.heap.size + 1 < w.heap.size + 3; omega) _
 exact ⟨h.o.set_ 0 _, h.r.far (by simp) _, kp h.row, fun p hp => kp (h.marks p hp), kp h.terms, h.below.setCell (by show w.heap.size ≤ w.heap.size + 1; omega) _⟩
theorem GreI.second (h : GreI w W wh v A c L rd Ar nr cr rt) (x : Value) : GreI w (W.setCell ⟨w.heap.size + 1, 1, none⟩ x) wh x A c L rd Ar nr cr rt := by
 have kp : ∀ {s n : Nat} {e : TypeId} {y : Value} {xs : List Value}, W.ownsRow (w.heap.size + 3) e s y n xs → (W.setCell ⟨w.heap.size + 1, 1, none⟩ x).ownsRow (w.heap.size + 3) e s y n xs := fun y => ownsRow_setCell_below y (by show w.heap.size + 1 < w.heap.size + 3; omega) _
 exact ⟨h.o.set_ 1 _, h.r.far (by simp) _, kp h.row, fun p hp => kp (h.marks p hp), kp h.terms, h.below.setCell (by show w.heap.size ≤ w.heap.size + 1; omega) _⟩
theorem GreI.grow {A' : Option Addr} {c' : Nat} {d : Int} {pA : Option Addr} {pc : Nat} (h : GreI w W wh v A c L rd Ar nr cr rt) (hm : W.ownsRow (w.heap.size + 3) 3 1 (.slice pA 1 pc) 1 [.int .i64 d])
  (ho : W'.ownsRow (w.heap.size + 3) 80 2 (.slice A' (L.length + 1) c') (L.length + 1) (cells2 (L.map PieceV.enc) ++ [.bool false, .slice pA 1 pc])) (hg : W.grownBy W' (Value.slice A L.length c).ownBlock) :
  GreI w W' wh v A' c' (L ++ [(⟨false, pA, 1, pc, [d]⟩ : PieceV)]) rd Ar nr cr rt := by
 have kp : ∀ {e : TypeId} {s n : Nat} {v : Value} {xs : List Value}, 80 ≠ e → W.ownsRow (w.heap.size + 3) e s v n xs → W'.ownsRow (w.heap.size + 3) e s v n xs := fun hne x =>
  own_kept_of x hg (fun g e1 e2 => own_own_ne h.row x hne e2 e1)
 have hne : ∀ j, (Value.slice A L.length c).ownBlock = some j → w.heap.size + 3 ≤ j := fun j e => (h.row.lt j e).1
 refine ⟨h.o.grown hg (fun e => by have := hne _ e; omega), h.r.grown hg (fun e => by have := hne _ e; omega), ?_, fun p hp => ?_, kp (by decide) h.terms, h.below.grown hg h.below.size (fun j e => by have := hne j e; omega)⟩
 ·rw [cells2_snoc, List.length_append]
  exact ho
 ·rcases List.mem_append.1 hp with hp | hp
  ·exact kp (by decide) (h.marks p hp)
  ·rw [List.mem_singleton.1 hp]
   exact kp (by decide) hm
end
def RB (rd : Int) (rt : List (Int × Int)) : Prop := (-100000 ≤ (partsS rd rt).1 ∧ (partsS rd rt).1 ≤ 100000) ∧ -100000 ≤ (partsS rd rt).2.1 ∧ (partsS rd rt).2.1 ≤ 100000
theorem overS_err {kv : List (Int × Int)} {den d c : Int} {t : List (Int × Int)} (h : overS kv den = (d, t, c)) (hc : c ≠ 0) : d = 0 ∧ t = [] := by
 unfold overS at h
 split at h
 ·injection h with h1 h2; injection h2 with h2 _; exact ⟨h1.symm, h2.symm⟩
 ·split at h
  ·injection h with h1 h2; injection h2 with h2 _; exact ⟨h1.symm, h2.symm⟩
  ·injection h with _ h2; injection h2 with _ h3; exact absurd h3.symm hc
theorem plusS_RB {xd yd k d c : Int} {xt yt t : List (Int × Int)} (h : plusS xd xt yd yt k = (d, t, c)) : RB d t := by
 by_cases hc : c = 0
 ·subst hc
  obtain ⟨h1, h2, h3⟩ := plusS_B h
  unfold RB
  rcases t with _ | ⟨⟨a, r⟩, _ | ⟨u, ts⟩⟩
  ·simp [partsS]
  ·have := h3 (a, r) (by simp)
   dsimp only at this
   by_cases hr : r = 1
   ·simp only [partsS, hr, if_true]; omega
   ·simp only [partsS, if_neg hr]; omega
  ·simp [partsS]
 ·have h5 : d = 0 ∧ t = [] := by
   unfold plusS at h
   split at h
   ·exact overS_err h hc
   ·injection h with h1 h2; injection h2 with h2 _; exact ⟨h1.symm, h2.symm⟩
  obtain ⟨rfl, rfl⟩ := h5
  unfold RB
  simp [partsS]
theorem tdiv_bd {a b : Int} : (a.tdiv b).natAbs ≤ a.natAbs := by
 rw [Int.natAbs_tdiv]
 exact Nat.div_le_self _ _
end Go.Proofs.YtloegjlknpioeaaGreatDoor
namespace Go.Proofs.YtloegjlknpioeaaGreatDoor
open Go.RowKit
set_option maxHeartbeats 16000000 in
set_option maxRecDepth 100000 in
theorem greedy_any (xd : Int) (A : Option Addr) (n c B : Nat) (xt : List (Int × Int)) (most : Int) (w : World) (hx : Terms w B A n c xt) (hB : B ≤ w.heap.size) :
  Calls Tryz.prog 35 #[.agg #[.int .i64 xd, .slice A n c], .int .i64 most] w (GreedyPost w (greedyS xd xt most).1 (greedyS xd xt most).2.1 (greedyS xd xt most).2.2.1.1 (greedyS xd xt most).2.2.1.2 (greedyS xd xt most).2.2.2) := by
 obtain rfl := hx.len
 have hnm := hx.nmax
 obtain ⟨i0, hi0, hz0, hz1, hz2⟩ := info_parts Tryz.infoInt
 obtain ⟨i1, hi1, hy0, hy1, hy2⟩ := info_parts Tryz.infoPiece
 obtain ⟨w0, hw0⟩ : ∃ w0, w0 = ((w.alloc (.cells #[.int .i64 xd, .slice A xt.length c] 33)).alloc (.cells #[.int .i64 0, .slice none 0 0] 24)).alloc (.cells #[.int .i64 0, .slice none 0 0] 33) := ⟨_, rfl⟩
 have HX0 : Hid (Blk w0 w.heap.size 33 #[.int .i64 xd, .slice A xt.length c]) := hide (by rw [hw0]; exact ((Blk.new w _ _).alloc _).alloc _)
 have HG0 : Hid (GreI w w0 0 (.slice none 0 0) none 0 [] 0 none 0 0 []) := hide (by
  rw [hw0]
  refine ⟨?_, ?_, World.ownsRow_nil _ _ _ _, (fun p hp => by cases hp), World.ownsRow_nil _ _ _ _, (((Below.refl _ _).alloc (Nat.le_refl _) _).alloc (by simp) _).alloc (by simp; omega) _⟩
  ·have h := (Blk.new (w.alloc (.cells #[.int .i64 xd, .slice A xt.length c] 33)) 24 #[.int .i64 0, .slice none 0 0]).alloc (.cells #[.int .i64 0, .slice none 0 0] 33)
   rwa [World.size_alloc] at h
  ·have h := Blk.new ((w.alloc (.cells #[.int .i64 xd, .slice A xt.length c] 33)).alloc (.cells #[.int .i64 0, .slice none 0 0] 24)) 33 #[.int .i64 0, .slice none 0 0]
   rwa [World.size_alloc, World.size_alloc] at h)
 have HTX : Hid (∀ W, Below w.heap.size w W → Terms W W.heap.size A xt.length c xt) := hide (fun W hb => Rd.more (Rd.below hx (hb.mono hB)) (Nat.le_trans hB hb.size))
 obtain ⟨res, hres⟩ : ∃ res, greedyS xd xt most = res := ⟨_, rfl⟩
 rw [hres]
 have hpost : ∀ (W : World) (a : Act) (wh : Int) (Ao : Option Addr) (co : Nat) (L : List PieceV) (rd : Int) (Ar : Option Addr) (nr cr : Nat) (rt : List (Int × Int)) (ms : List Int) (code : Int), res = (wh, ms, (rd, rt), code) → L.map PieceV.flat = ms.map pieceD → GreI w W wh (.slice Ao L.length co) Ao co L rd Ar nr cr rt →
   a.tmps.getD 4 undef = .pointer (some ⟨w.heap.size + 1, 0, none⟩) → a.tmps.getD 5 undef = .pointer (some ⟨w.heap.size + 2, 0, none⟩) → a.tmps.getD 6 undef = .int .i64 code → a.defers = [] → bodyPost Tryz.prog Tryz.f35 (GreedyPost w res.1 res.2.1 res.2.2.1.1 res.2.2.1.2 res.2.2.2) .ret a W := by
  intro W a wh Ao co L rd Ar nr cr rt ms code e1 e2 e3 e4 e5 e6 e7
  refine bodyPost_cells_tmp (p := 4) (q := 5) (u := 6) (ty := 24) (ty2 := 33) rfl e4 e3.o Tryz.underlying24 rfl Tryz.sizeOld e5 e3.r Tryz.underlying33 rfl Tryz.sizeNumber e7 ?_
  rw [e6, e1]
  exact ⟨Ao, co, L, Ar, nr, cr, rfl, ⟨Rd.of_own e3.row, fun p hp => Rd.of_own (e3.marks p hp)⟩, e2, own_le e3.terms (by omega), e3.below⟩
 have HPOST := hide hpost
 have HCK := hide (fun W (hb : Below w.heap.size w W) => check_any xd A xt.length c W.heap.size xt W (HTX.out W hb) (Nat.le_refl _))
 have HPR := hide (fun W (hb : Below w.heap.size w W) => parts_any xd A xt.length c W.heap.size xt W (HTX.out W hb) (Nat.le_refl _))
 have HW8 := hide (fun W => cord_within_any most 0 8 W)
 unfold greedyS at hres
 clear hx hpost
 obtain ⟨x0, x1, _, _⟩ := HX0.out.two
 go_enter Tryz.func35, Tryz.ntmps35
 go_upto_region 1 with fail
 rw [← hw0]
 clear hw0
 cases hok : numOK xd xt
 ·rw [if_pos hok] at hres
  rw [hok] at HCK
  simp only [argE, Bool.false_eq_true, if_false] at HCK
  have HV := hide hres.symm
  clear hres hok
  go_wp2_with (first
   | (go_at_call 78; refine (HCK.out _ HG0.out.below).mono ?_; rintro e w1 ⟨rfl, hb1⟩
      have HG1 := hide (HG0.out.under (hb1.mono (Nat.le_refl _)))
      obtain ⟨o0, o1, of0, of1⟩ := HG1.out.o.two
      obtain ⟨r0, r1, rf0, rf1⟩ := HG1.out.r.two
      clear hb1))
  exact HPOST.out _ _ 0 none 0 [] 0 none 0 0 [] [] 2 HV.out rfl (((HG1.out.whole 0).second (.slice none 0 0)).rest ((HG1.out.whole 0).second (.slice none 0 0)).terms) rfl rfl rfl rfl
 rw [if_neg (by rw [hok]; simp)] at hres
 rw [hok] at HCK
 simp only [argE, if_true] at HCK
 have hb0 := numOK_parts hok
 obtain ⟨num, den, ok, hp⟩ : ∃ a b c, partsS xd xt = (a, b, c) := ⟨_, _, _, rfl⟩
 have hpd : (-100000 ≤ num ∧ num ≤ 100000) ∧ -100000 ≤ den ∧ den ≤ 100000 ∧ (ok = true → 1 ≤ den) := by
  obtain ⟨h1, h2, _, h4⟩ := hb0
  rcases xt with _ | ⟨⟨a, r⟩, _ | ⟨u, ts⟩⟩
  ·simp only [partsS] at hp
   injection hp with e1 hp; injection hp with e2 e3
   omega
  ·have := (h4 (a, r) (by simp)).1.2.2.2
   dsimp only at this
   by_cases hr : r = 1
   ·simp only [partsS, hr, if_true] at hp
    injection hp with e1 hp; injection hp with e2 e3
    omega
   ·simp only [partsS, if_neg hr] at hp
    injection hp with e1 hp; injection hp with e2 e3
    refine ⟨by omega, by omega, by omega, fun h => ?_⟩
    rw [← e3] at h; cases h
  ·simp only [partsS] at hp
   injection hp with e1 hp; injection hp with e2 e3
   refine ⟨by omega, by omega, by omega, fun h => ?_⟩
   rw [← e3] at h; cases h
 rw [hp] at hres HPR
 dsimp only at hres HPR
 clear hok hb0 hp
 go_upto_region 5 with (first
  | (go_at_call 78; refine (HCK.out _ HG0.out.below).mono ?_; rintro e w1 ⟨rfl, hb1⟩
     have HX1 := hide (HX0.out.below (hb1.mono (Nat.le_refl _)) HX0.out.lt); have HG1 := hide (HG0.out.under hb1)
     obtain ⟨x0, x1, _, _⟩ := HX1.out.two
     clear hb1)
  | (go_at_call 48; refine (HPR.out _ HG1.out.below).mono ?_; rintro e w2 ⟨rfl, hb2⟩
     have HX2 := hide (HX1.out.below hb2 HX1.out.lt); have HG2 := hide (HG1.out.under hb2)
     clear hb2))
 clear x0 x1 HX0 HX1 HG0 HG1 HCK HPR
 obtain ⟨o0, o1, of0, of1⟩ := HG2.out.o.two
 obtain ⟨r0, r1, rf0, rf1⟩ := HG2.out.r.two
 by_cases hbad : ok = false ∨ num < 0 ∨ 1000 < num.tdiv den ∨ inB most 0 8 = false
 ·rw [if_pos hbad] at hres
  have HV := hide hres.symm
  clear hres
  have h4 : ok = false ∨ (ok = true ∧ num < 0) ∨ (ok = true ∧ ¬ num < 0 ∧ 1000 < num.tdiv den) ∨ (ok = true ∧ ¬ num < 0 ∧ ¬ 1000 < num.tdiv den ∧ inB most 0 8 = false) := by
   cases ok
   ·exact .inl rfl
   ·rcases hbad with h | h
    ·cases h
    ·by_cases k1 : num < 0
     ·exact .inr (.inl ⟨rfl, k1⟩)
     ·by_cases k2 : 1000 < num.tdiv den
      ·exact .inr (.inr (.inl ⟨rfl, k1, k2⟩))
      ·rcases h with h | h | h
       ·exact absurd h k1
       ·exact absurd h k2
       ·exact .inr (.inr (.inr ⟨rfl, k1, k2, h⟩))
  clear hbad
  rcases h4 with rfl | ⟨rfl, k1⟩ | ⟨rfl, k1, k2⟩ | ⟨rfl, k1, k2, k3⟩
  rotate_left 2
  focus
   have hdz : ¬ den = 0 := by have := hpd.2.2.2 rfl; omega
   have hd1 := hpd.2.2.2 rfl
   rw [Int.tdiv_eq_ediv_of_nonneg (by omega)] at k2
   have hq1 : num / den ≤ num := Int.ediv_le_self den (by omega)
   have hq0 : 0 ≤ num / den := Int.ediv_nonneg (by omega) (by omega)
   have hqw : IntKind.i64.wrap (num / den) = num / den := by rw [IntKind.wrap_i64]; omega
  rotate_left 1
  focus
   have hdz : ¬ den = 0 := by have := hpd.2.2.2 rfl; omega
   have hd1 := hpd.2.2.2 rfl
   rw [Int.tdiv_eq_ediv_of_nonneg (by omega)] at k2
   have hq1 : num / den ≤ num := Int.ediv_le_self den (by omega)
   have hq0 : 0 ≤ num / den := Int.ediv_nonneg (by omega) (by omega)
   have hqw : IntKind.i64.wrap (num / den) = num / den := by rw [IntKind.wrap_i64]; omega
   rw [k3] at HW8
  all_goals
   go_wp2_with (first
    | (go_at_call 47; refine (HW8.out _).mono ?_; rintro e w3 ⟨rfl, hw3⟩; subst w3))
   exact HPOST.out _ _ 0 none 0 [] 0 none 0 0 [] [] 3 HV.out rfl (((HG2.out.whole 0).second (.slice none 0 0)).rest ((HG2.out.whole 0).second (.slice none 0 0)).terms) rfl rfl rfl rfl
 rw [if_neg hbad] at hres
 have k0 : ok = true := by
  cases ok
  ·exact absurd (.inl rfl) hbad
  ·rfl
 subst k0
 have k1 : ¬ num < 0 := fun h => hbad (.inr (.inl h))
 have k2 : ¬ 1000 < num.tdiv den := fun h => hbad (.inr (.inr (.inl h)))
 have k3 : inB most 0 8 = true := by
  cases h : inB most 0 8
  ·exact absurd (.inr (.inr (.inr h))) hbad
  ·rfl
 have hmb : 0 ≤ most ∧ most ≤ 8 := by simpa [inB] using k3
 obtain ⟨M, rfl⟩ : ∃ M : Nat, most = M := ⟨most.toNat, by omega⟩
 have hd1 := hpd.2.2.2 rfl
 have hdz : ¬ den = 0 := by omega
 rw [Int.tdiv_eq_ediv_of_nonneg (by omega)] at k2 hres
 have hq1 : num / den ≤ num := Int.ediv_le_self den (by omega)
 have hq0 : 0 ≤ num / den := Int.ediv_nonneg (by omega) (by omega)
 have hqw : IntKind.i64.wrap (num / den) = num / den := by rw [IntKind.wrap_i64]; omega
 rw [k3] at HW8
 rw [Int.toNat_natCast] at hres
 clear hbad k3
 go_upto_region 8 with (first
  | (go_at_call 47; refine (HW8.out _).mono ?_; rintro e w3 ⟨rfl, hw3⟩; subst w3))
 have hwb : 0 ≤ num / den ∧ num / den ≤ 1000 := by omega
 clear k2 hq1 hq0 hqw r0 r1 rf0 rf1 o0 o1 of0 of1 HW8
 generalize num / den = wh at *
 have HG := hide (HG2.out.whole wh)
 have HX7 := hide (HX2.out.far (p := ⟨w.heap.size + 1, 0, none⟩) (by simp) (.int .i64 wh))
 clear HG2 HX2
 generalize w2.setCell ⟨w.heap.size + 1, 0, none⟩ (.int .i64 wh) = W7 at *
 obtain ⟨sd, st, sc, hsv⟩ : ∃ a b c, plusS xd xt (wholeN wh).1 (wholeN wh).2 (-1) = (a, b, c) := ⟨_, _, _, rfl⟩
 obtain ⟨Q1, Q2, hQ⟩ : ∃ a b, greedyF M (sd, st) = (a, b) := ⟨_, _, rfl⟩
 rw [hsv] at hres
 dsimp only at hres
 rw [hQ] at hres
 dsimp only at hres
 have HRES := hide hres.symm
 have HQ := hide hQ
 have HRB := hide (plusS_RB hsv)
 clear hres hQ
 have HSd := hide HG.out.drew
 have HXd : Hid (Blk W7.drew w.heap.size 33 #[.int .i64 xd, .slice A xt.length c]) := hide (HX7.out.below (Below.drew (Below.refl _ _)) HX7.out.lt)
 have HBC := hide (Below.drew (Below.refl W7.heap.size W7))
 have hU := HX7.out.lt
 have hU1 := HG.out.o.lt
 obtain ⟨x0, x1, _, _⟩ := HX7.out.two
 obtain ⟨o0, o1, _, _⟩ := HG.out.o.two
 refine wp_region_till (fun _ => True) 8 (fun w' => Below W7.heap.size W7 w') 8 (fun _ => True) (by kernel_rfl) ⟨trivial, fun _ => HBC.out, fun _ => trivial⟩ (fun hHeld => ?_)
 refine wpTill_take 0 rfl (by decide +kernel) (fun _ _ _ h => h) (by rfl) (v := ?_) ?_ hHeld (fun hHeld' => ?_)
 rotate_left 1
 focus (intro w' hSw; obtain ⟨hC, hF, hG⟩ := hSw; have hF := hF (by decide +kernel); clear hG; clear hC; have c1 := (hF.cell (p := ⟨w.heap.size, 0, none⟩) hU).trans x0; have c2 := (hF.cell (p := ⟨w.heap.size, 1, none⟩) hU).trans x1; clear hF; go_simp; first | done | with_reducible rfl)
 clear hHeld
 rename Till _ _ _ _ _ _ _ => hHeld
 (try simp only [Act.put, List.setIfInBounds_toArray, List.set_cons_zero, List.set_cons_succ])
 refine wpTill_take 1 rfl (by decide +kernel) (fun _ _ _ h => h) (by rfl) (v := ?_) ?_ hHeld (fun hHeld' => ?_)
 rotate_left 1
 focus (intro w' hSw; clear hSw; go_simp; first | done | with_reducible rfl)
 clear hHeld
 rename Till _ _ _ _ _ _ _ => hHeld
 (try simp only [Act.put, List.setIfInBounds_toArray, List.set_cons_zero, List.set_cons_succ])
 refine wpTill_take 2 rfl (by decide +kernel) (fun _ _ _ h => h) (by rfl) (v := ?_) ?_ hHeld (fun hHeld' => ?_)
 rotate_left 1
 focus (intro w' hSw; obtain ⟨hC, hF, hG⟩ := hSw; have hF := hF (by decide +kernel); clear hG; clear hC; have c1 := (hF.cell (p := ⟨w.heap.size + 1, 0, none⟩) hU1).trans o0; clear hF; go_simp; first | done | with_reducible rfl)
 clear hHeld
 rename Till _ _ _ _ _ _ _ => hHeld
 (try simp only [Act.put, List.setIfInBounds_toArray, List.set_cons_zero, List.set_cons_succ])
 clear x0 x1 o0 o1
 refine wpTill_one 3 rfl (by decide +kernel) (fun K hK => ?_)
 go_simp
 go_wp2_with (first
  | (go_at_call 54; refine (whole_num wh _).mono ?_; rintro e w8 ⟨A8, n8, c8, rfl, ho8, hb8⟩
     have HS8 := hide (HSd.out.under hb8); have HB8 := hide (HBC.out.trans (hb8.mono HBC.out.size))
     have HT8 := hide (Rd.of_own ho8)
     clear hb8 ho8))
 refine hK.out _ _ ⟨trivial, fun _ => HB8.out, fun _ => trivial⟩ (fun hHeld => ?_)
 clear hK K
 (try simp only [Act.put, List.setIfInBounds_toArray, List.set_cons_zero, List.set_cons_succ])
 refine wpTill_one 4 rfl (by decide +kernel) (fun K hK => ?_)
 have HSB := hide (sub_flat xd A xt.length c xt (wholeN wh).1 A8 n8 c8 (wholeN wh).2 w8.heap.size w8 (HTX.out w8 HS8.out.below) HT8.out (Nat.le_refl _))
 rw [hsv] at HSB
 go_simp
 go_wp2_with (first
  | (go_at_call 18; refine HSB.out.mono ?_; rintro e w9 ⟨Ar, nr, cr, rfl, ho9, hb9⟩
     have HS9 := hide (HS8.out.under hb9); have HB9 := hide (HB8.out.trans (hb9.mono HB8.out.size))
     have HT9 := hide (own_le ho9 (Nat.le_trans (show w.heap.size + 3 ≤ W7.heap.size by have := HG.out.r.lt; omega) HB8.out.size))
     clear hb9 ho9))
 refine hK.out _ _ ⟨trivial, fun _ => HB9.out, fun _ => trivial⟩ (fun hHeld => ?_)
 clear hK K
 (try simp only [Act.put, List.setIfInBounds_toArray, List.set_cons_zero, List.set_cons_succ])
 refine wpTill_take 5 rfl (by decide +kernel) (fun _ _ _ h => h) (by rfl) (v := ?_) ?_ hHeld (fun hHeld' => ?_)
 rotate_left 1
 focus (intro w' hSw; clear hSw; go_simp; first | done | with_reducible rfl)
 clear hHeld
 rename Till _ _ _ _ _ _ _ => hHeld
 (try simp only [Act.put, List.setIfInBounds_toArray, List.set_cons_zero, List.set_cons_succ])
 refine wpTill_take 6 rfl (by decide +kernel) (fun _ _ _ h => h) (by rfl) (v := ?_) ?_ hHeld (fun hHeld' => ?_)
 rotate_left 1
 focus (intro w' hSw; clear hSw; go_simp; first | done | with_reducible rfl)
 clear hHeld
 rename Till _ _ _ _ _ _ _ => hHeld
 (try simp only [Act.put, List.setIfInBounds_toArray, List.set_cons_zero, List.set_cons_succ])
 refine wpTill_take 7 rfl (by decide +kernel) (fun _ _ _ h => h) (by rfl) (v := ?_) ?_ hHeld (fun hHeld' => ?_)
 rotate_left 1
 focus (intro w' hSw; clear hSw; go_simp; first | done | with_reducible rfl)
 clear hHeld
 rename Till _ _ _ _ _ _ _ => hHeld
 (try simp only [Act.put, List.setIfInBounds_toArray, List.set_cons_zero, List.set_cons_succ])
 obtain ⟨r0, r1, rf0, rf1⟩ := HS9.out.r.two
 refine wpTill_one 8 rfl (by decide +kernel) (fun K hK => ?_)
 go_simp
 have HG9 := hide (HS9.out.rest HT9.out (rd' := sd))
 refine hK.out _ _ ⟨trivial, fun h => absurd h (by decide +kernel), fun _ => trivial⟩ (fun hHeld => ?_)
 clear hK K
 (try simp only [Act.put, List.setIfInBounds_toArray, List.set_cons_zero, List.set_cons_succ])
 refine wpTill_done (by decide +kernel) ?_
 clear hHeld r0 r1 rf0 rf1
 clear HSd HXd HS8 HS9 HT8 HT9 HB8 HB9 HBC HG HX7 HSB HTX hsv
 generalize (w9.setCell ⟨w.heap.size + 2, 0, none⟩ (.int .i64 sd)).setCell ⟨w.heap.size + 2, 1, none⟩ (.slice Ar nr cr) = W9 at *
 go_wp2
 go_loopg [] (M + 1) (fun gg W => ∃ (Ao : Option Addr) (co : Nat) (L : List PieceV) (rd : Int) (Ar : Option Addr) (nr cr : Nat) (rt : List (Int × Int)) (ms : List Int), GreI w W wh (.slice Ao L.length co) Ao co L rd Ar nr cr rt ∧ L.length ≤ M ∧ M - L.length ≤ gg ∧
  L.map PieceV.flat = ms.map pieceD ∧ RB rd rt ∧ ms ++ (greedyF (M - L.length) (rd, rt)).1 = Q1 ∧ (greedyF (M - L.length) (rd, rt)).2 = Q2)
 case atStart => exact ⟨none, 0, [], sd, Ar, nr, cr, st, [], HG9.out, by simp, by simp, rfl, HRB.out, by rw [List.length_nil, Nat.sub_zero, HQ.out, List.nil_append], by rw [List.length_nil, Nat.sub_zero, HQ.out]⟩
 case round =>
  obtain ⟨Ao, co, L, rd, Ar, nr, cr, rt, ms, hG, hLM, hgg, hlm, hrb, hq1, hq2⟩ := hrel
  have HG := hide hG; have HLM := hide hlm; have HQ1 := hide hq1; have HQ2 := hide hq2
  clear hG hlm hq1 hq2 HG9 HQ HRB
  obtain ⟨o0, o1, _, _⟩ := HG.out.o.two
  obtain ⟨r0, r1, _, _⟩ := HG.out.r.two
  by_cases hLm : (L.length : Int) < (M : Int)
  ·obtain ⟨k, hk⟩ : ∃ k, M - L.length = k + 1 := ⟨M - L.length - 1, by omega⟩
   obtain ⟨nu, de, ok, hp⟩ : ∃ a b c, partsS rd rt = (a, b, c) := ⟨_, _, _, rfl⟩
   have hpq := parts_any rd Ar nr cr wr.heap.size rt wr (Rd.of_own HG.out.terms) (Nat.le_refl _)
   rw [hp] at hpq
   have HPQ := hide hpq
   unfold RB at hrb
   rw [hp] at hrb
   dsimp only at hrb
   clear hpq
   by_cases hn0 : nu = 0
   ·have hg := greedyF_zero (k := M - L.length) (r := (rd, rt)) (by rw [hp]; exact hn0)
    have h1 := HQ1.out
    have h2 := HQ2.out
    rw [hg] at h1 h2
    dsimp only at h1 h2
    rw [List.append_nil] at h1
    have HV : Hid (res = (wh, ms, (rd, rt), 0)) := hide (by rw [HRES.out, ← h1, ← h2])
    clear hg h1 h2 HQ1 HQ2 hp hrb
    subst hn0
    go_upto_region 16 with (first
     | (go_at_call 48; refine HPQ.out.mono ?_; rintro e w1 ⟨rfl, hb1⟩
        have HG := hide (HG.out.under hb1)
        clear hb1))
    clear o0 o1 r0 r1
    have HSd := hide HG.out.drew
    obtain ⟨o0, o1, of0, of1⟩ := HG.out.o.two
    obtain ⟨r0, r1, rf0, rf1⟩ := HG.out.r.two
    have HOC := hide (And.intro o0 o1)
    have HRC := hide (And.intro r0 r1)
    refine wp_region_till (fun _ => True) 2 (fun w' => w'.cell? ⟨w.heap.size + 1, 0, none⟩ = some (.int .i64 wh) ∧ w'.cell? ⟨w.heap.size + 1, 1, none⟩ = some (.slice Ao L.length co)) 3 (fun w' => w'.cell? ⟨w.heap.size + 2, 0, none⟩ = some (.int .i64 rd) ∧ w'.cell? ⟨w.heap.size + 2, 1, none⟩ = some (.slice Ar nr cr)) (by kernel_rfl) ⟨trivial, fun _ => HOC.out, fun _ => HRC.out⟩ (fun hHeld => ?_)
    refine wpTill_take 0 rfl (by decide +kernel) (fun _ _ _ h => h) (by rfl) (v := ?_) ?_ hHeld (fun hHeld' => ?_)
    rotate_left 1
    focus (intro w' hSw; obtain ⟨hC, hF, hG⟩ := hSw; have hF := hF (by decide +kernel); clear hG; clear hC; obtain ⟨c1, c2⟩ := hF; go_simp; first | done | with_reducible rfl)
    clear hHeld
    rename Till _ _ _ _ _ _ _ => hHeld
    (try simp only [Act.put, List.setIfInBounds_toArray, List.set_cons_zero, List.set_cons_succ])
    refine wpTill_take 1 rfl (by decide +kernel) (fun _ _ _ h => h) (by rfl) (v := ?_) ?_ hHeld (fun hHeld' => ?_)
    rotate_left 1
    focus (intro w' hSw; obtain ⟨hC, hF, hG⟩ := hSw; have hG := hG (by decide +kernel); clear hF; clear hC; obtain ⟨c1, c2⟩ := hG; go_simp; first | done | with_reducible rfl)
    clear hHeld
    rename Till _ _ _ _ _ _ _ => hHeld
    (try simp only [Act.put, List.setIfInBounds_toArray, List.set_cons_zero, List.set_cons_succ])
    refine wpTill_one 2 rfl (by decide +kernel) (fun K hK => ?_)
    go_simp
    have HG2 := hide ((HSd.out.whole wh).second (.slice Ao L.length co))
    clear r0 r1 rf0 rf1
    obtain ⟨r0, r1, rf0, rf1⟩ := ((HG.out.whole wh).second (.slice Ao L.length co)).r.two
    refine hK.out _ _ ⟨trivial, fun h => absurd h (by decide +kernel), fun _ => ⟨r0, r1⟩⟩ (fun hHeld => ?_)
    clear hK K
    (try simp only [Act.put, List.setIfInBounds_toArray, List.set_cons_zero, List.set_cons_succ])
    refine wpTill_one 3 rfl (by decide +kernel) (fun K hK => ?_)
    go_simp
    have HG3 := hide (HG2.out.rest HG2.out.terms (rd' := rd))
    refine hK.out _ _ ⟨trivial, fun h => absurd h (by decide +kernel), fun h => absurd h (by decide +kernel)⟩ (fun hHeld => ?_)
    clear hK K
    (try simp only [Act.put, List.setIfInBounds_toArray, List.set_cons_zero, List.set_cons_succ])
    refine wpTill_take 4 rfl (by decide +kernel) (fun _ _ _ h => h) (by rfl) (v := ?_) ?_ hHeld (fun hHeld' => ?_)
    rotate_left 1
    focus (intro w' hSw; clear hSw; go_simp; first | done | with_reducible rfl)
    clear hHeld
    rename Till _ _ _ _ _ _ _ => hHeld
    (try simp only [Act.put, List.setIfInBounds_toArray, List.set_cons_zero, List.set_cons_succ])
    refine wpTill_done (by decide +kernel) ?_
    clear hHeld
    go_wp2
    exact HPOST.out _ _ wh Ao co L rd Ar nr cr rt ms 0 HV.out HLM.out HG3.out rfl rfl rfl rfl
   ·have hnb : (nu == 0) = false := by simpa using hn0
    have hqb := tdiv_bd (a := de + nu - 1) (b := nu)
    obtain ⟨q, hq⟩ : ∃ q, (de + nu - 1).tdiv nu = q := ⟨_, rfl⟩
    have hqw : IntKind.i64.wrap ((de + nu - 1).tdiv nu) = q := by rw [IntKind.wrap_i64, hq]; rw [hq] at hqb; omega
    go_upto_region 13 with (first
     | (go_at_call 48; refine HPQ.out.mono ?_; rintro e w1 ⟨rfl, hb1⟩
        have HG := hide (HG.out.under hb1)
        clear hb1))
    clear o0 o1 r0 r1 HPQ
    obtain ⟨sd2, st2, sc2, hsv⟩ : ∃ a b c, plusS rd rt q [(1, 1)] (-1) = (a, b, c) := ⟨_, _, _, rfl⟩
    have HST := hide (fun h => greedyF_stop (k := k) (s := (sd2, st2, sc2)) hp (by rw [hq]; exact hsv) (by rw [hq]; exact h))
    have HNX := hide (fun h => greedyF_next (k := k) (s := (sd2, st2, sc2)) hp (by rw [hq]; exact hsv) hn0 (by rw [hq]; exact h))
    rw [hq] at HNX
    have HRB2 := hide (plusS_RB hsv)
    clear hp hq hqw hqb hnb hrb
    have HX := hide HG.out.drew
    have HBC := hide (Below.drew (Below.refl w1.heap.size w1))
    have hU2 := HG.out.r.lt
    obtain ⟨r0, r1, _, _⟩ := HG.out.r.two
    clear HG
    refine wp_region_till (fun _ => True) 8 (fun w' => Below w1.heap.size w1 w') 8 (fun _ => True) (by kernel_rfl) ⟨trivial, fun _ => HBC.out, fun _ => trivial⟩ (fun hHeld => ?_)
    refine wpTill_take 0 rfl (by decide +kernel) (fun _ _ _ h => h) (by rfl) (v := ?_) ?_ hHeld (fun hHeld' => ?_)
    rotate_left 1
    focus (intro w' hSw; obtain ⟨hC, hF, hG⟩ := hSw; have hF := hF (by decide +kernel); clear hG; clear hC; have c1 := (hF.cell (p := ⟨w.heap.size + 2, 0, none⟩) hU2).trans r0; have c2 := (hF.cell (p := ⟨w.heap.size + 2, 1, none⟩) hU2).trans r1; clear hF; go_simp; first | done | with_reducible rfl)
    clear hHeld
    rename Till _ _ _ _ _ _ _ => hHeld
    (try simp only [Act.put, List.setIfInBounds_toArray, List.set_cons_zero, List.set_cons_succ])
    refine wpTill_take 1 rfl (by decide +kernel) (fun _ _ _ h => h) (by rfl) (v := ?_) ?_ hHeld (fun hHeld' => ?_)
    rotate_left 1
    focus (intro w' hSw; clear hSw; go_simp; first | done | with_reducible rfl)
    clear hHeld
    rename Till _ _ _ _ _ _ _ => hHeld
    (try simp only [Act.put, List.setIfInBounds_toArray, List.set_cons_zero, List.set_cons_succ])
    clear r0 r1
    refine wpTill_two 2 7 rfl rfl (by decide +kernel) (fun K hK => ?_) (fun K hK => ?_)
    focus
     go_simp
     go_wp2_with (first
      | (go_at_call 55; refine (fraction_any 1 q _).mono ?_; rintro e w4 ⟨A4, n4, c4, rfl, ho4, hb4⟩
         have HX := hide (HX.out.under hb4)
         have HF4 := hide ho4
         have HBC := hide (HBC.out.trans (hb4.mono HBC.out.size))
         clear hb4 ho4))
     refine hK.out _ _ ⟨trivial, fun _ => HBC.out, fun _ => trivial⟩ (fun hHeld => ?_)
     clear hK K
     (try simp only [Act.put, List.setIfInBounds_toArray, List.set_cons_zero, List.set_cons_succ])
     refine wpTill_two 3 7 rfl rfl (by decide +kernel) (fun K hK => ?_) (fun K hK => ?_)
     focus
      have HSB := hide (sub_flat rd Ar nr cr rt q A4 n4 c4 [(1, 1)] (w4).heap.size (w4) (Rd.of_own HX.out.terms) (Rd.of_own HF4.out) (Nat.le_refl _))
      rw [hsv] at HSB
      go_simp
      go_wp2_with (first
       | (go_at_call 18; refine HSB.out.mono ?_; rintro e w5 ⟨A5, n5, c5, rfl, ho5, hb5⟩
          have HT5 := hide (own_le ho5 (Nat.le_trans (show w.heap.size + 3 ≤ w1.heap.size by omega) HBC.out.size))
          have HX := hide (HX.out.under hb5)
          have HBC := hide (HBC.out.trans (hb5.mono HBC.out.size))
          clear hb5 ho5 HSB))
      refine hK.out _ _ ⟨trivial, fun _ => HBC.out, fun _ => trivial⟩ (fun hHeld => ?_)
      clear hK K
      (try simp only [Act.put, List.setIfInBounds_toArray, List.set_cons_zero, List.set_cons_succ])
      refine wpTill_take 4 rfl (by decide +kernel) (fun _ _ _ h => h) (by rfl) (v := ?_) ?_ hHeld (fun hHeld' => ?_)
      rotate_left 1
      focus (intro w' hSw; clear hSw; go_simp; first | done | with_reducible rfl)
      clear hHeld
      rename Till _ _ _ _ _ _ _ => hHeld
      (try simp only [Act.put, List.setIfInBounds_toArray, List.set_cons_zero, List.set_cons_succ])
      refine wpTill_take 5 rfl (by decide +kernel) (fun _ _ _ h => h) (by rfl) (v := ?_) ?_ hHeld (fun hHeld' => ?_)
      rotate_left 1
      focus (intro w' hSw; clear hSw; go_simp; first | done | with_reducible rfl)
      clear hHeld
      rename Till _ _ _ _ _ _ _ => hHeld
      (try simp only [Act.put, List.setIfInBounds_toArray, List.set_cons_zero, List.set_cons_succ])
      refine wpTill_take 6 rfl (by decide +kernel) (fun _ _ _ h => h) (by rfl) (v := ?_) ?_ hHeld (fun hHeld' => ?_)
      rotate_left 1
      focus (intro w' hSw; clear hSw; go_simp; first | done | with_reducible rfl)
      clear hHeld
      rename Till _ _ _ _ _ _ _ => hHeld
      (try simp only [Act.put, List.setIfInBounds_toArray, List.set_cons_zero, List.set_cons_succ])
      have HXp := HX; have HTp := HT5
      refine wpTill_one 7 rfl (by decide +kernel) (fun K hK => ?_)
      have HN : Hid (Blk ((w5).alloc (.cells #[.int .i64 0, .slice none 0 0] 33)) w5.heap.size 33 #[.int .i64 0, .slice none 0 0]) := hide (Blk.new (w5) 33 #[.int .i64 0, .slice none 0 0])
      have HXL : Hid (w.heap.size + 3 ≤ w5.heap.size) := hide (Nat.le_trans (show w.heap.size + 3 ≤ w1.heap.size by omega) HBC.out.size)
      have HX := hide (HX.out.alloc (.cells #[.int .i64 0, .slice none 0 0] 33))
      have HT5 := hide (HT5.out.alloc (.cells #[.int .i64 0, .slice none 0 0] 33))
      have HBC := hide (HBC.out.alloc HBC.out.size (.cells #[.int .i64 0, .slice none 0 0] 33))
      go_simp
      refine hK.out _ _ ⟨trivial, fun _ => HBC.out, fun _ => trivial⟩ (fun hHeld => ?_)
      clear hK K
      (try simp only [Act.put, List.setIfInBounds_toArray, List.set_cons_zero, List.set_cons_succ])
      obtain ⟨n0, n1, nf0, nf1⟩ := HN.out.two
      have HN2 := hide (HN.out.set_ 0 (.int .i64 sd2))
      have HX2 := hide ((HX.out.put HN.out HXL.out (i := 0) (.int .i64 sd2)).put HN2.out HXL.out (i := 1) (.slice A5 n5 c5))
      have HT6 := hide (own_set (own_set HT5.out HN.out (i := 0) (u := .int .i64 sd2) (by decide)) HN2.out (i := 1) (u := .slice A5 n5 c5) (by decide))
      have HN3 := hide (HN2.out.set_ 1 (.slice A5 n5 c5))
      refine wpTill_one 8 rfl (by decide +kernel) (fun K hK => ?_)
      go_simp
      refine hK.out _ _ ⟨trivial, fun h => absurd h (by decide +kernel), fun _ => trivial⟩ (fun hHeld => ?_)
      clear hK K
      (try simp only [Act.put, List.setIfInBounds_toArray, List.set_cons_zero, List.set_cons_succ])
      refine wpTill_take 9 rfl (by decide +kernel) (fun _ _ _ h => h) (by rfl) (v := ?_) ?_ hHeld (fun hHeld' => ?_)
      rotate_left 1
      focus (intro w' hSw; clear hSw; go_simp; first | done | with_reducible rfl)
      clear hHeld
      rename Till _ _ _ _ _ _ _ => hHeld
      (try simp only [Act.put, List.setIfInBounds_toArray, List.set_cons_zero, List.set_cons_succ])
      refine wpTill_done (by decide +kernel) ?_
      have HX2 := hide (HXp.out.alloc (.cells #[.int .i64 sd2, .slice A5 n5 c5] 33))
      have HN3 : Hid (Blk (w5.alloc (.cells #[.int .i64 sd2, .slice A5 n5 c5] 33)) w5.heap.size 33 #[.int .i64 sd2, .slice A5 n5 c5]) := hide (Blk.new w5 _ _)
      have HT6 := hide (HTp.out.alloc (.cells #[.int .i64 sd2, .slice A5 n5 c5] 33))
      clear HXp HTp
      clear hHeld n0 n1 nf0 nf1 HN HN2 HX HT5 HBC
      obtain ⟨X, hX⟩ : ∃ X, X = w5.heap.size := ⟨_, rfl⟩
      rw [← hX] at HN3 HXL ⊢
      clear hX
      generalize w5.alloc (.cells #[.int .i64 sd2, .slice A5 n5 c5] 33) = V at *
     rotate_left 1
     focus
      have HN : Hid (Blk ((w4).alloc (.cells #[.int .i64 0, .slice none 0 0] 33)) w4.heap.size 33 #[.int .i64 0, .slice none 0 0]) := hide (Blk.new (w4) 33 #[.int .i64 0, .slice none 0 0])
      have HXL : Hid (w.heap.size + 3 ≤ w4.heap.size) := hide (Nat.le_trans (show w.heap.size + 3 ≤ w1.heap.size by omega) HBC.out.size)
      have HX := hide (HX.out.alloc (.cells #[.int .i64 0, .slice none 0 0] 33))
      have HF4 := hide (HF4.out.alloc (.cells #[.int .i64 0, .slice none 0 0] 33))
      have HBC := hide (HBC.out.alloc HBC.out.size (.cells #[.int .i64 0, .slice none 0 0] 33))
      go_simp
      refine hK.out _ _ ⟨trivial, fun _ => HBC.out, fun _ => trivial⟩ (fun hHeld => ?_)
      clear hK K
      (try simp only [Act.put, List.setIfInBounds_toArray, List.set_cons_zero, List.set_cons_succ])
      refine wpTill_one 3 rfl (by decide +kernel) (fun K hK => ?_)
      have HSB := hide (sub_flat rd Ar nr cr rt q A4 n4 c4 [(1, 1)] (w4.alloc (.cells #[.int .i64 0, .slice none 0 0] 33)).heap.size (w4.alloc (.cells #[.int .i64 0, .slice none 0 0] 33)) (Rd.of_own HX.out.terms) (Rd.of_own HF4.out) (Nat.le_refl _))
      rw [hsv] at HSB
      go_simp
      go_wp2_with (first
       | (go_at_call 18; refine HSB.out.mono ?_; rintro e w5 ⟨A5, n5, c5, rfl, ho5, hb5⟩
          have HT5 := hide (own_le ho5 (Nat.le_trans (show w.heap.size + 3 ≤ w1.heap.size by omega) HBC.out.size))
          have HX := hide (HX.out.under hb5)
          have HN := hide (HN.out.below hb5 HN.out.lt)
          have HBC := hide (HBC.out.trans (hb5.mono HBC.out.size))
          clear hb5 ho5 HSB))
      refine hK.out _ _ ⟨trivial, fun _ => HBC.out, fun _ => trivial⟩ (fun hHeld => ?_)
      clear hK K
      (try simp only [Act.put, List.setIfInBounds_toArray, List.set_cons_zero, List.set_cons_succ])
      refine wpTill_take 4 rfl (by decide +kernel) (fun _ _ _ h => h) (by rfl) (v := ?_) ?_ hHeld (fun hHeld' => ?_)
      rotate_left 1
      focus (intro w' hSw; clear hSw; go_simp; first | done | with_reducible rfl)
      clear hHeld
      rename Till _ _ _ _ _ _ _ => hHeld
      (try simp only [Act.put, List.setIfInBounds_toArray, List.set_cons_zero, List.set_cons_succ])
      refine wpTill_take 5 rfl (by decide +kernel) (fun _ _ _ h => h) (by rfl) (v := ?_) ?_ hHeld (fun hHeld' => ?_)
      rotate_left 1
      focus (intro w' hSw; clear hSw; go_simp; first | done | with_reducible rfl)
      clear hHeld
      rename Till _ _ _ _ _ _ _ => hHeld
      (try simp only [Act.put, List.setIfInBounds_toArray, List.set_cons_zero, List.set_cons_succ])
      refine wpTill_take 6 rfl (by decide +kernel) (fun _ _ _ h => h) (by rfl) (v := ?_) ?_ hHeld (fun hHeld' => ?_)
      rotate_left 1
      focus (intro w' hSw; clear hSw; go_simp; first | done | with_reducible rfl)
      clear hHeld
      rename Till _ _ _ _ _ _ _ => hHeld
      (try simp only [Act.put, List.setIfInBounds_toArray, List.set_cons_zero, List.set_cons_succ])
      obtain ⟨n0, n1, nf0, nf1⟩ := HN.out.two
      have HN2 := hide (HN.out.set_ 0 (.int .i64 sd2))
      have HX2 := hide ((HX.out.put HN.out HXL.out (i := 0) (.int .i64 sd2)).put HN2.out HXL.out (i := 1) (.slice A5 n5 c5))
      have HT6 := hide (own_set (own_set HT5.out HN.out (i := 0) (u := .int .i64 sd2) (by decide)) HN2.out (i := 1) (u := .slice A5 n5 c5) (by decide))
      have HN3 := hide (HN2.out.set_ 1 (.slice A5 n5 c5))
      refine wpTill_one 8 rfl (by decide +kernel) (fun K hK => ?_)
      go_simp
      refine hK.out _ _ ⟨trivial, fun h => absurd h (by decide +kernel), fun _ => trivial⟩ (fun hHeld => ?_)
      clear hK K
      (try simp only [Act.put, List.setIfInBounds_toArray, List.set_cons_zero, List.set_cons_succ])
      refine wpTill_take 9 rfl (by decide +kernel) (fun _ _ _ h => h) (by rfl) (v := ?_) ?_ hHeld (fun hHeld' => ?_)
      rotate_left 1
      focus (intro w' hSw; clear hSw; go_simp; first | done | with_reducible rfl)
      clear hHeld
      rename Till _ _ _ _ _ _ _ => hHeld
      (try simp only [Act.put, List.setIfInBounds_toArray, List.set_cons_zero, List.set_cons_succ])
      refine wpTill_done (by decide +kernel) ?_
      clear hHeld n0 n1 nf0 nf1 HN HN2 HX HT5 HBC
      obtain ⟨X, hX⟩ : ∃ X, X = w4.heap.size := ⟨_, rfl⟩
      rw [← hX] at HN3 HX2 HT6 HXL ⊢
      clear hX
      generalize ((w5).setCell ⟨X, 0, none⟩ (.int .i64 sd2)).setCell ⟨X, 1, none⟩ (.slice A5 n5 c5) = V at *
    rotate_left 2
    focus
     have HN : Hid (Blk ((w1.drew).alloc (.cells #[.int .i64 0, .slice none 0 0] 33)) w1.heap.size 33 #[.int .i64 0, .slice none 0 0]) := hide (Blk.new (w1.drew) 33 #[.int .i64 0, .slice none 0 0])
     have HXL : Hid (w.heap.size + 3 ≤ w1.heap.size) := hide (Nat.le_trans (show w.heap.size + 3 ≤ w1.heap.size by omega) HBC.out.size)
     have HX := hide (HX.out.alloc (.cells #[.int .i64 0, .slice none 0 0] 33))
     have HBC := hide (HBC.out.alloc HBC.out.size (.cells #[.int .i64 0, .slice none 0 0] 33))
     go_simp
     refine hK.out _ _ ⟨trivial, fun _ => HBC.out, fun _ => trivial⟩ (fun hHeld => ?_)
     clear hK K
     (try simp only [Act.put, List.setIfInBounds_toArray, List.set_cons_zero, List.set_cons_succ])
     refine wpTill_one 2 rfl (by decide +kernel) (fun K hK => ?_)
     go_simp
     go_wp2_with (first
      | (go_at_call 55; refine (fraction_any 1 q _).mono ?_; rintro e w4 ⟨A4, n4, c4, rfl, ho4, hb4⟩
         have HX := hide (HX.out.under hb4)
         have HF4 := hide ho4
         have HN := hide (HN.out.below hb4 HN.out.lt)
         have HBC := hide (HBC.out.trans (hb4.mono HBC.out.size))
         clear hb4 ho4))
     refine hK.out _ _ ⟨trivial, fun _ => HBC.out, fun _ => trivial⟩ (fun hHeld => ?_)
     clear hK K
     (try simp only [Act.put, List.setIfInBounds_toArray, List.set_cons_zero, List.set_cons_succ])
     refine wpTill_one 3 rfl (by decide +kernel) (fun K hK => ?_)
     have HSB := hide (sub_flat rd Ar nr cr rt q A4 n4 c4 [(1, 1)] (w4).heap.size (w4) (Rd.of_own HX.out.terms) (Rd.of_own HF4.out) (Nat.le_refl _))
     rw [hsv] at HSB
     go_simp
     go_wp2_with (first
      | (go_at_call 18; refine HSB.out.mono ?_; rintro e w5 ⟨A5, n5, c5, rfl, ho5, hb5⟩
         have HT5 := hide (own_le ho5 (Nat.le_trans (show w.heap.size + 3 ≤ w1.heap.size by omega) HBC.out.size))
         have HX := hide (HX.out.under hb5)
         have HN := hide (HN.out.below hb5 HN.out.lt)
         have HBC := hide (HBC.out.trans (hb5.mono HBC.out.size))
         clear hb5 ho5 HSB))
     refine hK.out _ _ ⟨trivial, fun _ => HBC.out, fun _ => trivial⟩ (fun hHeld => ?_)
     clear hK K
     (try simp only [Act.put, List.setIfInBounds_toArray, List.set_cons_zero, List.set_cons_succ])
     refine wpTill_take 4 rfl (by decide +kernel) (fun _ _ _ h => h) (by rfl) (v := ?_) ?_ hHeld (fun hHeld' => ?_)
     rotate_left 1
     focus (intro w' hSw; clear hSw; go_simp; first | done | with_reducible rfl)
     clear hHeld
     rename Till _ _ _ _ _ _ _ => hHeld
     (try simp only [Act.put, List.setIfInBounds_toArray, List.set_cons_zero, List.set_cons_succ])
     refine wpTill_take 5 rfl (by decide +kernel) (fun _ _ _ h => h) (by rfl) (v := ?_) ?_ hHeld (fun hHeld' => ?_)
     rotate_left 1
     focus (intro w' hSw; clear hSw; go_simp; first | done | with_reducible rfl)
     clear hHeld
     rename Till _ _ _ _ _ _ _ => hHeld
     (try simp only [Act.put, List.setIfInBounds_toArray, List.set_cons_zero, List.set_cons_succ])
     refine wpTill_take 6 rfl (by decide +kernel) (fun _ _ _ h => h) (by rfl) (v := ?_) ?_ hHeld (fun hHeld' => ?_)
     rotate_left 1
     focus (intro w' hSw; clear hSw; go_simp; first | done | with_reducible rfl)
     clear hHeld
     rename Till _ _ _ _ _ _ _ => hHeld
     (try simp only [Act.put, List.setIfInBounds_toArray, List.set_cons_zero, List.set_cons_succ])
     obtain ⟨n0, n1, nf0, nf1⟩ := HN.out.two
     have HN2 := hide (HN.out.set_ 0 (.int .i64 sd2))
     have HX2 := hide ((HX.out.put HN.out HXL.out (i := 0) (.int .i64 sd2)).put HN2.out HXL.out (i := 1) (.slice A5 n5 c5))
     have HT6 := hide (own_set (own_set HT5.out HN.out (i := 0) (u := .int .i64 sd2) (by decide)) HN2.out (i := 1) (u := .slice A5 n5 c5) (by decide))
     have HN3 := hide (HN2.out.set_ 1 (.slice A5 n5 c5))
     refine wpTill_one 8 rfl (by decide +kernel) (fun K hK => ?_)
     go_simp
     refine hK.out _ _ ⟨trivial, fun h => absurd h (by decide +kernel), fun _ => trivial⟩ (fun hHeld => ?_)
     clear hK K
     (try simp only [Act.put, List.setIfInBounds_toArray, List.set_cons_zero, List.set_cons_succ])
     refine wpTill_take 9 rfl (by decide +kernel) (fun _ _ _ h => h) (by rfl) (v := ?_) ?_ hHeld (fun hHeld' => ?_)
     rotate_left 1
     focus (intro w' hSw; clear hSw; go_simp; first | done | with_reducible rfl)
     clear hHeld
     rename Till _ _ _ _ _ _ _ => hHeld
     (try simp only [Act.put, List.setIfInBounds_toArray, List.set_cons_zero, List.set_cons_succ])
     refine wpTill_done (by decide +kernel) ?_
     clear hHeld n0 n1 nf0 nf1 HN HN2 HX HT5 HBC
     obtain ⟨X, hX⟩ : ∃ X, X = w1.heap.size := ⟨_, rfl⟩
     rw [← hX] at HN3 HX2 HT6 HXL ⊢
     clear hX
     generalize ((w5).setCell ⟨X, 0, none⟩ (.int .i64 sd2)).setCell ⟨X, 1, none⟩ (.slice A5 n5 c5) = V at *
    all_goals
     by_cases hst : 1000 < q ∨ sc2 ≠ 0
     ·have hg := HST.out hst
      have h1 := HQ1.out
      have h2 := HQ2.out
      rw [hk, hg] at h1 h2
      dsimp only at h1 h2
      rw [List.append_nil] at h1
      have HV : Hid (res = (wh, ms, (rd, rt), 0)) := hide (by rw [HRES.out, ← h1, ← h2])
      have HG := HX2
      clear hg h1 h2 HQ1 HQ2 HST HNX HN3 HT6
      have h3 : 1000 < q ∨ (¬ 1000 < q ∧ (sc2 != 0) = true) := by
       by_cases h4 : 1000 < q
       ·exact .inl h4
       ·rcases hst with h | h
        ·exact absurd h h4
        ·exact .inr ⟨h4, by simpa using h⟩
      clear hst
      rcases h3 with h3 | ⟨h3, h4⟩
      all_goals
       go_upto_region 16 with fail
       have HSd := hide HG.out.drew
       obtain ⟨o0, o1, of0, of1⟩ := HG.out.o.two
       obtain ⟨r0, r1, rf0, rf1⟩ := HG.out.r.two
       have HOC := hide (And.intro o0 o1)
       have HRC := hide (And.intro r0 r1)
       refine wp_region_till (fun _ => True) 2 (fun w' => w'.cell? ⟨w.heap.size + 1, 0, none⟩ = some (.int .i64 wh) ∧ w'.cell? ⟨w.heap.size + 1, 1, none⟩ = some (.slice Ao L.length co)) 3 (fun w' => w'.cell? ⟨w.heap.size + 2, 0, none⟩ = some (.int .i64 rd) ∧ w'.cell? ⟨w.heap.size + 2, 1, none⟩ = some (.slice Ar nr cr)) (by kernel_rfl) ⟨trivial, fun _ => HOC.out, fun _ => HRC.out⟩ (fun hHeld => ?_)
       refine wpTill_take 0 rfl (by decide +kernel) (fun _ _ _ h => h) (by rfl) (v := ?_) ?_ hHeld (fun hHeld' => ?_)
       rotate_left 1
       focus (intro w' hSw; obtain ⟨hC, hF, hG⟩ := hSw; have hF := hF (by decide +kernel); clear hG; clear hC; obtain ⟨c1, c2⟩ := hF; go_simp; first | done | with_reducible rfl)
       clear hHeld
       rename Till _ _ _ _ _ _ _ => hHeld
       (try simp only [Act.put, List.setIfInBounds_toArray, List.set_cons_zero, List.set_cons_succ])
       refine wpTill_take 1 rfl (by decide +kernel) (fun _ _ _ h => h) (by rfl) (v := ?_) ?_ hHeld (fun hHeld' => ?_)
       rotate_left 1
       focus (intro w' hSw; obtain ⟨hC, hF, hG⟩ := hSw; have hG := hG (by decide +kernel); clear hF; clear hC; obtain ⟨c1, c2⟩ := hG; go_simp; first | done | with_reducible rfl)
       clear hHeld
       rename Till _ _ _ _ _ _ _ => hHeld
       (try simp only [Act.put, List.setIfInBounds_toArray, List.set_cons_zero, List.set_cons_succ])
       refine wpTill_one 2 rfl (by decide +kernel) (fun K hK => ?_)
       go_simp
       have HG2 := hide ((HSd.out.whole wh).second (.slice Ao L.length co))
       clear r0 r1 rf0 rf1
       obtain ⟨r0, r1, rf0, rf1⟩ := ((HG.out.whole wh).second (.slice Ao L.length co)).r.two
       refine hK.out _ _ ⟨trivial, fun h => absurd h (by decide +kernel), fun _ => ⟨r0, r1⟩⟩ (fun hHeld => ?_)
       clear hK K
       (try simp only [Act.put, List.setIfInBounds_toArray, List.set_cons_zero, List.set_cons_succ])
       refine wpTill_one 3 rfl (by decide +kernel) (fun K hK => ?_)
       go_simp
       have HG3 := hide (HG2.out.rest HG2.out.terms (rd' := rd))
       refine hK.out _ _ ⟨trivial, fun h => absurd h (by decide +kernel), fun h => absurd h (by decide +kernel)⟩ (fun hHeld => ?_)
       clear hK K
       (try simp only [Act.put, List.setIfInBounds_toArray, List.set_cons_zero, List.set_cons_succ])
       refine wpTill_take 4 rfl (by decide +kernel) (fun _ _ _ h => h) (by rfl) (v := ?_) ?_ hHeld (fun hHeld' => ?_)
       rotate_left 1
       focus (intro w' hSw; clear hSw; go_simp; first | done | with_reducible rfl)
       clear hHeld
       rename Till _ _ _ _ _ _ _ => hHeld
       (try simp only [Act.put, List.setIfInBounds_toArray, List.set_cons_zero, List.set_cons_succ])
       refine wpTill_done (by decide +kernel) ?_
       clear hHeld
       go_wp2
       exact HPOST.out _ _ wh Ao co L rd Ar nr cr rt ms 0 HV.out HLM.out HG3.out rfl rfl rfl rfl
     ·have hg := HNX.out hst
      have h3 : ¬ 1000 < q := fun h => hst (.inl h)
      have h4 : (sc2 != 0) = false := by
       have : sc2 = 0 := Classical.not_not.1 (fun h => hst (.inr h))
       rw [this]; rfl
      have h1 := HQ1.out
      have h2 := HQ2.out
      rw [hk, hg] at h1 h2
      dsimp only at h1 h2
      have HQ3 := hide h1
      have HQ4 := hide h2
      clear hg h1 h2 HQ1 HQ2 HST HNX hst
      obtain ⟨n0, n1, _, _⟩ := HN3.out.two
      go_upto_region 15 with fail
      clear n0 n1 h3 h4
      have HYd := hide HX2.out.drew
      have HNd : Hid (Blk V.drew X 33 #[.int .i64 sd2, .slice A5 n5 c5]) := hide (HN3.out.below (Below.drew (Below.refl _ _)) HN3.out.lt)
      have HTd := hide HT6.out.drew
      have hVz : w.heap.size + 3 ≤ V.heap.size := by have := HX2.out.r.lt; omega
      obtain ⟨o0, o1, _, _⟩ := HYd.out.o.two
      obtain ⟨n0, n1, _, _⟩ := HNd.out.two
      have HOC := hide o1
      have HNC := hide (And.intro n0 n1)
      have hLb : L.length ≤ 8 := by omega
      clear HX2 HN3 HT6
      refine wp_region_till (fun _ => True) 9 (fun w' => w'.cell? ⟨w.heap.size + 1, 1, none⟩ = some (.slice Ao L.length co)) 10 (fun w' => w'.cell? ⟨X, 0, none⟩ = some (.int .i64 sd2) ∧ w'.cell? ⟨X, 1, none⟩ = some (.slice A5 n5 c5)) (by kernel_rfl) ⟨trivial, fun _ => HOC.out, fun _ => HNC.out⟩ (fun hHeld => ?_)
      refine wpTill_take 0 rfl (by decide +kernel) (fun _ _ _ h => h) (by rfl) (v := ?_) ?_ hHeld (fun hHeld' => ?_)
      rotate_left 1
      focus (intro w' hSw; clear hSw; go_simp; first | done | with_reducible rfl)
      clear hHeld
      rename Till _ _ _ _ _ _ _ => hHeld
      (try simp only [Act.put, List.setIfInBounds_toArray, List.set_cons_zero, List.set_cons_succ])
      refine wpTill_take 1 rfl (by decide +kernel) (fun _ _ _ h => h) (by rfl) (v := ?_) ?_ hHeld (fun hHeld' => ?_)
      rotate_left 1
      focus (intro w' hSw; obtain ⟨hC, hF, hG⟩ := hSw; have hF := hF (by decide +kernel); clear hG; clear hC; have c1 := hF; go_simp; first | done | with_reducible rfl)
      clear hHeld
      rename Till _ _ _ _ _ _ _ => hHeld
      (try simp only [Act.put, List.setIfInBounds_toArray, List.set_cons_zero, List.set_cons_succ])
      refine wpTill_take 2 rfl (by decide +kernel) (fun _ _ _ h => h) (by rfl) (v := ?_) ?_ hHeld (fun hHeld' => ?_)
      rotate_left 1
      focus (intro w' hSw; clear hSw; go_simp; first | done | with_reducible rfl)
      clear hHeld
      rename Till _ _ _ _ _ _ _ => hHeld
      (try simp only [Act.put, List.setIfInBounds_toArray, List.set_cons_zero, List.set_cons_succ])
      refine wpTill_take 7 rfl (by decide +kernel) (fun _ _ _ h => h) (by rfl) (v := ?_) ?_ hHeld (fun hHeld' => ?_)
      rotate_left 1
      focus (intro w' hSw; obtain ⟨hC, hF, hG⟩ := hSw; have hG := hG (by decide +kernel); clear hF; clear hC; obtain ⟨c1, c2⟩ := hG; go_simp; first | done | with_reducible rfl)
      clear hHeld
      rename Till _ _ _ _ _ _ _ => hHeld
      (try simp only [Act.put, List.setIfInBounds_toArray, List.set_cons_zero, List.set_cons_succ])
      clear o0 o1 n0 n1 HOC HNC
      refine wpTill_one 3 rfl (by decide +kernel) (fun K hK => ?_)
      have HM : Hid ((V.drew.alloc (.cells #[.int .i64 q] 3)).ownsRow (w.heap.size + 3) 3 1 (.slice (some ⟨V.heap.size, 0, none⟩) 1 1) 1 [.int .i64 q]) := hide (World.ownsRow_lit (base := w.heap.size + 3) (e := 3) (size := 1) V.drew #[.int .i64 q] 1 (by show _ ≤ V.heap.size; omega) (by unfold maxLen; omega) rfl)
      have HYd := hide (HYd.out.alloc (.cells #[.int .i64 q] 3))
      have HNd := hide (HNd.out.alloc (.cells #[.int .i64 q] 3))
      have HTd := hide (HTd.out.alloc (.cells #[.int .i64 q] 3))
      go_simp
      refine hK.out _ _ ⟨trivial, fun _ => (HYd.out.o.two).2.1, fun _ => ⟨(HNd.out.two).1, (HNd.out.two).2.1⟩⟩ (fun hHeld => ?_)
      clear hK K
      (try simp only [Act.put, List.setIfInBounds_toArray, List.set_cons_zero, List.set_cons_succ])
      refine wpTill_take 4 rfl (by decide +kernel) (fun _ _ _ h => h) (by rfl) (v := ?_) ?_ hHeld (fun hHeld' => ?_)
      rotate_left 1
      focus (intro w' hSw; clear hSw; go_simp; first | done | with_reducible rfl)
      clear hHeld
      rename Till _ _ _ _ _ _ _ => hHeld
      (try simp only [Act.put, List.setIfInBounds_toArray, List.set_cons_zero, List.set_cons_succ])
      refine wpTill_one 5 rfl (by decide +kernel) (fun K hK => ?_)
      have HCELL : Hid (∀ j x, [Value.bool false, .slice (some ⟨V.heap.size, 0, none⟩) 1 1][j]? = some x → ((V.drew.alloc (.cells #[.int .i64 q] 3)).alloc (.cells #[.bool false, .slice (some ⟨V.heap.size, 0, none⟩) 1 1] 80)).cell? ((⟨V.heap.size + 1, 0, none⟩ : Addr).add j) = some x) := hide (by have h := cell_new2 (V.drew.alloc (.cells #[.int .i64 q] 3)) (.bool false) (.slice (some ⟨V.heap.size, 0, none⟩) 1 1) 80; rwa [World.size_alloc] at h)
      have HM := hide (HM.out.alloc (.cells #[.bool false, .slice (some ⟨V.heap.size, 0, none⟩) 1 1] 80))
      have HYd := hide (HYd.out.alloc (.cells #[.bool false, .slice (some ⟨V.heap.size, 0, none⟩) 1 1] 80))
      have HNd := hide (HNd.out.alloc (.cells #[.bool false, .slice (some ⟨V.heap.size, 0, none⟩) 1 1] 80))
      have HTd := hide (HTd.out.alloc (.cells #[.bool false, .slice (some ⟨V.heap.size, 0, none⟩) 1 1] 80))
      go_simp
      refine hK.out _ _ ⟨trivial, fun _ => (HYd.out.o.two).2.1, fun _ => ⟨(HNd.out.two).1, (HNd.out.two).2.1⟩⟩ (fun hHeld => ?_)
      clear hK K
      (try simp only [Act.put, List.setIfInBounds_toArray, List.set_cons_zero, List.set_cons_succ])
      refine wpTill_one 6 rfl (by decide +kernel) (fun K hK => ?_)
      refine step_append_lies _ rfl _ _ 22 rfl (w.heap.size + 3) 80 i1 (.agg #[.bool false, .slice none 0 0]) 2 32 Tryz.underlying22 hi1 hy0 hy1 hy2 rfl (by decide) (.slice Ao L.length co) L.length _ rfl HYd.out.row ⟨V.heap.size + 1, 0, none⟩ 1 1 [.bool false, .slice (some ⟨V.heap.size, 0, none⟩) 1 1] rfl rfl HCELL.out (by simp [Value.oneCell']) (by decide) (by unfold maxLen; omega) (by omega) HYd.out.r.lt _ rfl ?_
      intro g6 cap6 w6 ho6 hg6 _ hlt6
      have hne6 : ∀ j, (Value.slice Ao L.length co).ownBlock = some j → w.heap.size + 3 ≤ j := fun j e => (HYd.out.row.lt j e).1
      have HNd := hide (HNd.out.grown hg6 (fun e => own_blk_ne HYd.out.row HNd.out (by decide) e))
      have HTd := hide (own_kept_of HTd.out hg6 (fun g e1 e2 => own_own_ne HYd.out.row HTd.out (by decide) e2 e1))
      have HYd := hide (HYd.out.grow HM.out ho6 hg6)
      refine hK.out _ _ ⟨trivial, fun _ => (HYd.out.o.two).2.1, fun _ => ⟨(HNd.out.two).1, (HNd.out.two).2.1⟩⟩ (fun hHeld => ?_)
      clear hK K ho6 hg6 hne6 HM HCELL
      (try simp only [Act.put, List.setIfInBounds_toArray, List.set_cons_zero, List.set_cons_succ])
      refine wpTill_take 8 rfl (by decide +kernel) (fun _ _ _ h => h) (by rfl) (v := ?_) ?_ hHeld (fun hHeld' => ?_)
      rotate_left 1
      focus (intro w' hSw; clear hSw; go_simp; first | done | with_reducible rfl)
      clear hHeld
      rename Till _ _ _ _ _ _ _ => hHeld
      (try simp only [Act.put, List.setIfInBounds_toArray, List.set_cons_zero, List.set_cons_succ])
      obtain ⟨o0, o1, of0, of1⟩ := HYd.out.o.two
      refine wpTill_one 9 rfl (by decide +kernel) (fun K hK => ?_)
      go_simp
      have HNd := hide (HNd.out.far (p := ⟨w.heap.size + 1, 1, none⟩) (by have := HXL.out; simp; omega) (.slice (some ⟨g6, 0, none⟩) (L.length + 1) cap6))
      have HTd := hide (ownsRow_setCell_below HTd.out (a := ⟨w.heap.size + 1, 1, none⟩) (by show w.heap.size + 1 < w.heap.size + 3; omega) (.slice (some ⟨g6, 0, none⟩) (L.length + 1) cap6))
      have HYd := hide (HYd.out.second (.slice (some ⟨g6, 0, none⟩) (L.length + 1) cap6))
      refine hK.out _ _ ⟨trivial, fun h => absurd h (by decide +kernel), fun _ => ⟨(HNd.out.two).1, (HNd.out.two).2.1⟩⟩ (fun hHeld => ?_)
      clear hK K
      (try simp only [Act.put, List.setIfInBounds_toArray, List.set_cons_zero, List.set_cons_succ])
      clear o0 o1 of0 of1
      obtain ⟨r0, r1, rf0, rf1⟩ := HYd.out.r.two
      refine wpTill_one 10 rfl (by decide +kernel) (fun K hK => ?_)
      go_simp
      have HYd := hide (HYd.out.rest HTd.out (rd' := sd2))
      refine hK.out _ _ ⟨trivial, fun h => absurd h (by decide +kernel), fun h => absurd h (by decide +kernel)⟩ (fun hHeld => ?_)
      clear hK K
      (try simp only [Act.put, List.setIfInBounds_toArray, List.set_cons_zero, List.set_cons_succ])
      refine wpTill_done (by decide +kernel) ?_
      clear hHeld r0 r1 rf0 rf1
      generalize ((w6.setCell ⟨w.heap.size + 1, 1, none⟩ (.slice (some ⟨g6, 0, none⟩) (L.length + 1) cap6)).setCell ⟨w.heap.size + 2, 0, none⟩ (.int .i64 sd2)).setCell ⟨w.heap.size + 2, 1, none⟩ (.slice A5 n5 c5) = W6 at *
      go_wp2
      go_roundg (M - (L.length + 1))
      case measure => omega
      case rel =>
       have hl1 : (L ++ [(⟨false, some ⟨V.heap.size, 0, none⟩, 1, 1, [q]⟩ : PieceV)]).length = L.length + 1 := by simp
       refine ⟨some ⟨g6, 0, none⟩, cap6, L ++ [⟨false, some ⟨V.heap.size, 0, none⟩, 1, 1, [q]⟩], sd2, A5, n5, c5, st2, ms ++ [q], ?_, by omega, by omega, by rw [List.map_append, List.map_append, HLM.out]; rfl, HRB2.out, ?_, ?_⟩
       ·rw [hl1]; exact HYd.out
       ·rw [hl1, show M - (L.length + 1) = k by omega, List.append_assoc]; exact HQ3.out
       ·rw [hl1, show M - (L.length + 1) = k by omega]; exact HQ4.out
  ·have hk0 : M - L.length = 0 := by omega
   have h1 := HQ1.out
   have h2 := HQ2.out
   rw [hk0, greedyF] at h1 h2
   dsimp only at h1 h2
   rw [List.append_nil] at h1
   have HV : Hid (res = (wh, ms, (rd, rt), 0)) := hide (by rw [HRES.out, ← h1, ← h2])
   clear h1 h2 HQ1 HQ2 hrb
   go_upto_region 16 with fail
   clear o0 o1 r0 r1
   have HSd := hide HG.out.drew
   obtain ⟨o0, o1, of0, of1⟩ := HG.out.o.two
   obtain ⟨r0, r1, rf0, rf1⟩ := HG.out.r.two
   have HOC := hide (And.intro o0 o1)
   have HRC := hide (And.intro r0 r1)
   refine wp_region_till (fun _ => True) 2 (fun w' => w'.cell? ⟨w.heap.size + 1, 0, none⟩ = some (.int .i64 wh) ∧ w'.cell? ⟨w.heap.size + 1, 1, none⟩ = some (.slice Ao L.length co)) 3 (fun w' => w'.cell? ⟨w.heap.size + 2, 0, none⟩ = some (.int .i64 rd) ∧ w'.cell? ⟨w.heap.size + 2, 1, none⟩ = some (.slice Ar nr cr)) (by kernel_rfl) ⟨trivial, fun _ => HOC.out, fun _ => HRC.out⟩ (fun hHeld => ?_)
   refine wpTill_take 0 rfl (by decide +kernel) (fun _ _ _ h => h) (by rfl) (v := ?_) ?_ hHeld (fun hHeld' => ?_)
   rotate_left 1
   focus (intro w' hSw; obtain ⟨hC, hF, hG⟩ := hSw; have hF := hF (by decide +kernel); clear hG; clear hC; obtain ⟨c1, c2⟩ := hF; go_simp; first | done | with_reducible rfl)
   clear hHeld
   rename Till _ _ _ _ _ _ _ => hHeld
   (try simp only [Act.put, List.setIfInBounds_toArray, List.set_cons_zero, List.set_cons_succ])
   refine wpTill_take 1 rfl (by decide +kernel) (fun _ _ _ h => h) (by rfl) (v := ?_) ?_ hHeld (fun hHeld' => ?_)
   rotate_left 1
   focus (intro w' hSw; obtain ⟨hC, hF, hG⟩ := hSw; have hG := hG (by decide +kernel); clear hF; clear hC; obtain ⟨c1, c2⟩ := hG; go_simp; first | done | with_reducible rfl)
   clear hHeld
   rename Till _ _ _ _ _ _ _ => hHeld
   (try simp only [Act.put, List.setIfInBounds_toArray, List.set_cons_zero, List.set_cons_succ])
   refine wpTill_one 2 rfl (by decide +kernel) (fun K hK => ?_)
   go_simp
   have HG2 := hide ((HSd.out.whole wh).second (.slice Ao L.length co))
   clear r0 r1 rf0 rf1
   obtain ⟨r0, r1, rf0, rf1⟩ := ((HG.out.whole wh).second (.slice Ao L.length co)).r.two
   refine hK.out _ _ ⟨trivial, fun h => absurd h (by decide +kernel), fun _ => ⟨r0, r1⟩⟩ (fun hHeld => ?_)
   clear hK K
   (try simp only [Act.put, List.setIfInBounds_toArray, List.set_cons_zero, List.set_cons_succ])
   refine wpTill_one 3 rfl (by decide +kernel) (fun K hK => ?_)
   go_simp
   have HG3 := hide (HG2.out.rest HG2.out.terms (rd' := rd))
   refine hK.out _ _ ⟨trivial, fun h => absurd h (by decide +kernel), fun h => absurd h (by decide +kernel)⟩ (fun hHeld => ?_)
   clear hK K
   (try simp only [Act.put, List.setIfInBounds_toArray, List.set_cons_zero, List.set_cons_succ])
   refine wpTill_take 4 rfl (by decide +kernel) (fun _ _ _ h => h) (by rfl) (v := ?_) ?_ hHeld (fun hHeld' => ?_)
   rotate_left 1
   focus (intro w' hSw; clear hSw; go_simp; first | done | with_reducible rfl)
   clear hHeld
   rename Till _ _ _ _ _ _ _ => hHeld
   (try simp only [Act.put, List.setIfInBounds_toArray, List.set_cons_zero, List.set_cons_succ])
   refine wpTill_done (by decide +kernel) ?_
   clear hHeld
   go_wp2
   exact HPOST.out _ _ wh Ao co L rd Ar nr cr rt ms 0 HV.out HLM.out HG3.out rfl rfl rfl rfl
end Go.Proofs.YtloegjlknpioeaaGreatDoor
