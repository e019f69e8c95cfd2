import Derived.Test.YtaacnbnmlfhnaaaGreatDoorRefAToRefE
import Derived.Test.YtaacnbnmlfhnaaaGreatDoorCordGToCordH
import Derived.Test.YtaacnbnmlfhnaaaGreatDoorRefGToRefH
import Derived.Test.YtaacnbnmlfhnaaaGreatDoorCordIToCordJ
import Derived.Test.YtaacnbnmlfhnaaaGreatDoorCordKToCordR
import Derived.Test.YtaacnbnmlfhnaaaGreatDoorTextAToTextC
set_option linter.unusedVariables false
set_option linter.unusedSimpArgs false
namespace Go.Proofs.YtaacnbnmlfhnaaaGreatDoor
open Go.RowKit
def prodQ : Int → List Int → Int
 | n, [] => n
 | n, m :: ms => prodQ (min (n * m) 100001) ms
theorem prodQ_snoc : ∀ (l : List Int) (n m : Int), prodQ n (l ++ [m]) = min (prodQ n l * m) 100001
 | [], _, _ => rfl
 | x :: l, n, m => prodQ_snoc l (min (n * x) 100001) m
theorem prodQ_bd : ∀ (l : List Int) (n : Int), (0 ≤ n ∧ n ≤ 100001) → (∀ m ∈ l, 0 ≤ m ∧ m ≤ 1000) → 0 ≤ prodQ n l ∧ prodQ n l ≤ 100001
 | [], n, h, _ => h
 | x :: l, n, h, hm => by
  have h1 := hm x (by simp)
  have h2 : 0 ≤ n * x := Int.mul_nonneg h.1 h1.1
  exact prodQ_bd l _ (by omega) (fun m h => hm m (by simp [h]))
theorem prodQ_top : ∀ (l : List Int), (∀ m ∈ l, 1 ≤ m ∧ m ≤ 1000) → prodQ 100001 l = 100001
 | [], _ => rfl
 | x :: l, hm => by
  have h1 := hm x (by simp)
  have h2 : 100001 * 1 ≤ 100001 * x := Int.mul_le_mul_of_nonneg_left h1.1 (by omega)
  show prodQ (min (100001 * x) 100001) l = _
  rw [show min (100001 * x) 100001 = 100001 by omega]
  exact prodQ_top l (fun m h => hm m (by simp [h]))
theorem prodQ_M : ∀ (l : List Int) (n : Int), (1 ≤ n ∧ n ≤ 100000) → (∀ m ∈ l, 1 ≤ m ∧ m ≤ 1000) → prodM n l = if 100000 < prodQ n l then 0 else prodQ n l
 | [], n, h, _ => by
  show n = _
  rw [show prodQ n [] = n from rfl, if_neg (by omega)]
 | x :: l, n, h, hm => by
  have h1 := hm x (by simp)
  have hl : ∀ m ∈ l, 1 ≤ m ∧ m ≤ 1000 := fun m h => hm m (by simp [h])
  have h2 : n * 1 ≤ n * x := Int.mul_le_mul_of_nonneg_left h1.1 (by omega)
  rw [prodM_cons]
  show _ = if 100000 < prodQ (min (n * x) 100001) l then 0 else prodQ (min (n * x) 100001) l
  by_cases h3 : 100000 < n * x
  ·rw [if_pos h3, show min (n * x) 100001 = 100001 by omega, prodQ_top l hl]
   rfl
  ·rw [if_neg h3, show min (n * x) 100001 = n * x by omega]
   exact prodQ_M l _ (by omega) hl
theorem prodQ_ge : ∀ (l : List Int) (n : Int), (1 ≤ n ∧ n ≤ 100001) → (∀ m ∈ l, 1 ≤ m ∧ m ≤ 1000) → 1 ≤ prodQ n l
 | [], _, h, _ => h.1
 | x :: l, n, h, hm => by
  have h1 := hm x (by simp)
  have h2 : n * 1 ≤ n * x := Int.mul_le_mul_of_nonneg_left h1.1 (by omega)
  exact prodQ_ge l _ (by omega) (fun m h => hm m (by simp [h]))
theorem prodQ_one (l : List Int) (hm : ∀ m ∈ l, 1 ≤ m ∧ m ≤ 1000) : 1 ≤ prodQ 1 l := prodQ_ge l 1 (by omega) hm
set_option maxHeartbeats 1000000 in
set_option maxRecDepth 100000 in
theorem refProduct_any (A : Option Addr) (n c B : Nat) (ms : List Int) (w : World) (hI : IntsQ w B A n c ms) (hm : ∀ m ∈ ms, 0 ≤ m ∧ m ≤ 1000) :
  Calls Tryz.prog 73 #[.slice A n c] w fun e w' => e = .returned (.int .i64 (prodQ 1 ms)) ∧ w' = w := by
 have hl := hI.len
 subst hl
 have hn := Rq.nmax hI
 have HI := hide hI
 have HM := hide hm
 clear hI hm
 go_enter Tryz.func73, Tryz.ntmps73
 go_wp2
 go_loopw [3, 4] (fun p i W => ∃ k : Nat, k ≤ ms.length ∧ i = .int .i64 k ∧ p = .int .i64 (prodQ 1 (ms.take k)) ∧ W = w) (fun _ i _ => ms.length - (intOf i).toNat)
 case atStart => exact ⟨0, by omega, rfl, rfl, rfl⟩
 case round =>
  obtain ⟨k, hk, rfl, rfl, rfl⟩ := hrel
  by_cases hkl : (k : Int) < (ms.length : Int)
  ·have hk1 : k < ms.length := by omega
   obtain ⟨ad, rfl, -, ha0⟩ := HI.out.at_ hk1
   have hb := prodQ_bd (ms.take k) 1 (by omega) (fun m h => HM.out m (List.mem_of_mem_take h))
   have hmk := HM.out ms[k] (List.getElem_mem hk1)
   have HS := hide (show prodQ 1 (ms.take (k + 1)) = min (prodQ 1 (ms.take k) * ms[k]) 100001 by rw [take_snoc ms k hk1, prodQ_snoc])
   have hmb := mul_bd (a := prodQ 1 (ms.take k)) (b := ms[k]) (A := 100001) (B := 1000) (by omega) (by omega)
   generalize prodQ 1 (ms.take k) = p at *
   generalize ms[k] = m at *
   have hmw : IntKind.i64.wrap (p * m) = p * m := by rw [IntKind.wrap_i64]; omega
   go_wp2
   exact ⟨⟨k + 1, by omega, by go_num, by rw [HS.out], by trivial⟩, by simp [intOf]; omega⟩
  ·obtain rfl : k = ms.length := by omega
   go_wp2
   go_ret
   exact ⟨rfl, by trivial⟩
set_option maxHeartbeats 1000000 in
set_option maxRecDepth 100000 in
theorem refWhole_any (n : Int) (w : World) : Calls Tryz.prog 74 #[.int .i64 n] w (ValPost w (wholeN n)) := by
 unfold wholeN
 by_cases h0 : n = 0
 ·rw [if_pos h0]
  have hb0 : (n == 0) = true := by simpa using h0
  go_enter Tryz.func74, Tryz.ntmps74
  go_wp2
  refine bodyPost_cell (p := 2) (ty := 34) rfl rfl (Blk.new w _ _) (d := _) rfl Tryz.underlying34 Tryz.sizeNumber rfl ?_
  exact ⟨none, 0, 0, rfl, ⟨rfl, .inl ⟨rfl, rfl⟩⟩, (Below.refl w.heap.size w).alloc (Nat.le_refl _) _⟩
 ·rw [if_neg h0]
  have hb0 : (n == 0) = false := by simpa using h0
  have HO1 := hide (fun x : Array Value => (show ((w.alloc (.cells x 34)).alloc (.cells #[.int .i64 n, .int .i64 1] 86)).ownsRow (w.heap.size + 1) 86 2 (.slice (some ⟨w.heap.size + 1, 0, none⟩) 1 1) 1 (cellsT [(n, 1)]) by
   have h := World.ownsRow_lit (base := w.heap.size + 1) (e := 86) (size := 2) (w.alloc (.cells x 34)) #[.int .i64 n, .int .i64 1] 1 (by simp) (by unfold maxLen; omega) rfl
   rw [World.size_alloc] at h
   exact h))
  have HN := hide (Blk.new w 34 #[.int .i64 0, .slice none 0 0])
  have HN2 := hide (HN.out.alloc (.cells #[.int .i64 n, .int .i64 1] 86))
  obtain ⟨n0, n1, nf0, nf1⟩ := HN2.out.two
  go_enter Tryz.func74, Tryz.ntmps74
  go_wp2
  refine bodyPost_cell (p := 2) (ty := 34) rfl rfl ((Blk.new w _ _).alloc _) (d := _) rfl Tryz.underlying34 Tryz.sizeNumber rfl ?_
  exact ⟨_, _, _, rfl, own_le (HO1.out _) (by omega), ((Below.refl w.heap.size w).alloc (Nat.le_refl _) _).alloc (by simp) _⟩
set_option maxHeartbeats 2000000 in
set_option maxRecDepth 100000 in
theorem refOld_any (wh : Int) (A : Option Addr) (n c B : Nat) (l : List PieceV) (w : World) (hp : PiecesQ w B A n c l) (hB : B ≤ w.heap.size) :
  Calls Tryz.prog 23 #[.agg #[.int .i64 wh, .slice A n c]] w fun e w' => e = .returned (.bool (oldOK wh (l.map PieceV.flat))) ∧ Below w.heap.size w w' := by
 have hl := hp.len
 subst hl
 have hn := hp.1.nmax
 obtain ⟨w0, hw0⟩ : ∃ w0, w0 = w.alloc (.cells #[.int .i64 wh, .slice A l.length c] 24) := ⟨_, rfl⟩
 have HX0 : Hid (Blk w0 w.heap.size 24 #[.int .i64 wh, .slice A l.length c]) := hide (by rw [hw0]; exact Blk.new w _ _)
 have HB0 : Hid (Below w.heap.size w w0) := hide (by rw [hw0]; exact (Below.refl _ _).alloc (Nat.le_refl _) _)
 have HP := hide (hp.below (HB0.out.mono hB))
 have HIW := hide (fun W => refIn2_any wh 0 1000 W)
 clear hp
 have hbad : ∀ k (hk : k < l.length), pieceOK l[k].flat = false → oldOK wh (l.map PieceV.flat) = false := fun k hk h => by
  have h1 : (l.map PieceV.flat).all pieceOK = false := List.all_eq_false.2 ⟨l[k].flat, List.mem_map_of_mem (List.getElem_mem hk), by rw [h]; simp⟩
  unfold oldOK
  rw [h1]; simp
 have HBAD := hide hbad
 clear hbad
 go_enter Tryz.func23, Tryz.ntmps23
 go_upto_region 1 with fail
 rw [← hw0]
 clear hw0
 obtain ⟨x0, x1, _, _⟩ := HX0.out.two
 go_wp2
 go_loopw [3] (fun i W => ∃ k : Nat, k ≤ l.length ∧ i = .int .i64 k ∧ (∀ j (hj : j < l.length), j < k → pieceOK l[j].flat = true) ∧ W = w0) (fun i _ => l.length - (intOf i).toNat)
 case atStart => exact ⟨0, by omega, rfl, fun j _ hj => by omega, rfl⟩
 case round =>
  obtain ⟨k, hk, rfl, hpre, rfl⟩ := hrel
  have HPRE := hide hpre
  clear hpre
  by_cases hkl : (k : Int) < (l.length : Int)
  ·have hk1 : k < l.length := by omega
   obtain ⟨ad, rfl, -, ha0, ha1⟩ := HP.out.at_ hk1
   have hpi := HP.out.2 l[k] (List.getElem_mem hk1)
   have HBK := hide (HBAD.out k hk1)
   have HGO := hide (show pieceOK l[k].flat = true → ∀ j (hj : j < l.length), j < k + 1 → pieceOK l[j].flat = true from fun h j hj h2 => by
    rcases Nat.lt_or_ge j k with h5 | h5
    ·exact HPRE.out j hj h5
    ·obtain rfl : j = k := by omega
     exact h)
   obtain ⟨p, hpe⟩ : ∃ p, p = l[k] := ⟨_, rfl⟩
   rw [← hpe] at ha0 ha1 hpi HBK HGO
   clear hpe
   obtain ⟨mi, Ap, np, cp, ms⟩ := p
   dsimp only at ha0 ha1 hpi
   have hnp := hpi.len
   subst hnp
   have hmx := Rq.nmax hpi
   have HPI := hide hpi
   have HBK : Hid (pieceOK (mi, ms) = false → oldOK wh (l.map PieceV.flat) = false) := hide HBK.out
   have HGO : Hid (pieceOK (mi, ms) = true → ∀ j (hj : j < l.length), j < k + 1 → pieceOK l[j].flat = true) := hide HGO.out
   have HLE := hide (fun W => refIn2_any (ms.length : Int) 1 6 W)
   clear hpi
   go_wp2
   go_loopw [5] (fun i W => ∃ j : Nat, j ≤ ms.length ∧ i = .int .i64 j ∧ (∀ q ∈ ms.take j, markOK q = true) ∧ W = wr) (fun i _ => ms.length - (intOf i).toNat)
   case atStart => exact ⟨0, by omega, rfl, fun q hq => by simp at hq, rfl⟩
   case round =>
    obtain ⟨j, hj, rfl, hmk, hwq⟩ := hrel
    have HMK := hide hmk
    clear hmk
    by_cases hjl : (j : Int) < (ms.length : Int)
    ·have hj1 : j < ms.length := by omega
     obtain ⟨ad2, rfl, -, hb0⟩ := HPI.out.at_ hj1
     have HIM := hide (fun W => refIn2_any ms[j] 2 1000 W)
     have HMB := hide (show markOK ms[j] = false → pieceOK (mi, ms) = false from fun h => by
      unfold pieceOK
      have : ms.all markOK = false := List.all_eq_false.2 ⟨ms[j], List.getElem_mem hj1, by rw [h]; simp⟩
      rw [this]; simp)
     have HMS := hide (show markOK ms[j] = true → ∀ q ∈ ms.take (j + 1), markOK q = true from fun h q hq => by
      rw [take_snoc ms j hj1] at hq
      rcases List.mem_append.1 hq with h1 | h1
      ·exact HMK.out q h1
      ·rw [List.mem_singleton.1 h1]; exact h)
     subst hwq
     generalize ms[j] = m at *
     cases hm : markOK m
     ·have HF := hide (HBK.out (HMB.out hm))
      have hi : inB m 2 1000 = false := hm
      rw [hi] at HIM
      go_wp2_with (first
       | (go_at_call 72; refine (HIM.out _).mono ?_; rintro e w1 ⟨rfl, hw1⟩; subst w1))
      go_ret
      exact ⟨by rw [HF.out]; rfl, HB0.out⟩
     ·have HMS2 := hide (HMS.out hm)
      have hi : inB m 2 1000 = true := hm
      rw [hi] at HIM
      go_wp2_with (first
       | (go_at_call 72; refine (HIM.out _).mono ?_; rintro e w1 ⟨rfl, hw1⟩; subst w1))
      exact ⟨⟨j + 1, by omega, by go_num, HMS2.out, by trivial⟩, by simp [intOf]; omega⟩
    ·obtain rfl : j = ms.length := by omega
     have hall : ms.all markOK = true := List.all_eq_true.2 (fun q hq => HMK.out q (by rw [List.take_length]; exact hq))
     have hpk : pieceOK (mi, ms) = inB (ms.length : Int) 1 6 := by unfold pieceOK; rw [hall]; simp
     subst hwq
     cases hil : inB (ms.length : Int) 1 6
     ·have HF := hide (HBK.out (hpk.trans hil))
      rw [hil] at HLE
      go_wp2_with (first
       | (go_at_call 72; refine (HLE.out _).mono ?_; rintro e w1 ⟨rfl, hw1⟩; subst w1))
      go_ret
      exact ⟨by rw [HF.out]; rfl, HB0.out⟩
     ·have HG2 := hide (HGO.out (hpk.trans hil))
      rw [hil] at HLE
      go_wp2_with (first
       | (go_at_call 72; refine (HLE.out _).mono ?_; rintro e w1 ⟨rfl, hw1⟩; subst w1))
      exact ⟨⟨k + 1, by omega, by go_num, HG2.out, by trivial⟩, by simp [intOf]; omega⟩
  ·obtain rfl : k = l.length := by omega
   have hall : (l.map PieceV.flat).all pieceOK = true := List.all_eq_true.2 (fun q hq => by
    obtain ⟨p, hp, rfl⟩ := List.mem_map.1 hq
    obtain ⟨j, hj, rfl⟩ := List.mem_iff_getElem.1 hp
    exact HPRE.out j hj hj)
   have HOK : Hid (oldOK wh (l.map PieceV.flat) = (inB wh 0 1000 && decide ((l.length : Int) ≤ 8))) := hide (by
    unfold oldOK
    rw [hall, List.length_map, Bool.and_true]
    congr 1
    rw [decide_eq_decide]; omega)
   cases hiw : inB wh 0 1000
   all_goals
    rw [hiw] at HIW HOK
    go_wp2_with (first
     | (go_at_call 72; refine (HIW.out _).mono ?_; rintro e w1 ⟨rfl, hw1⟩; subst w1))
    go_ret
    exact ⟨by rw [HOK.out]; rfl, HB0.out⟩
end Go.Proofs.YtaacnbnmlfhnaaaGreatDoor
namespace Go.Proofs.YtaacnbnmlfhnaaaGreatDoor
open Go.RowKit
structure ValI (w W : World) (X : Nat) (wh : Int) (A : Option Addr) (n c : Nat) (d : Int) (xA : Option Addr) (xn xc : Nat) (xt : List (Int × Int)) : Prop where
 o : Blk W w.heap.size 24 #[.int .i64 wh, .slice A n c]
 r : Blk W (w.heap.size + 1) 34 #[.int .i64 0, .slice none 0 0]
 x : Blk W X 34 #[.int .i64 d, .slice xA xn xc]
 row : W.ownsRow w.heap.size 86 2 (.slice xA xn xc) xn (cellsT xt)
 below : Below w.heap.size w W
 ux : w.heap.size + 1 < X
theorem ValI.under {w W W' : World} {X : Nat} {wh d : Int} {A xA : Option Addr} {n c xn xc : Nat} {xt : List (Int × Int)} (h : ValI w W X wh A n c d xA xn xc xt) (hb : Below W.heap.size W W') : ValI w W' X wh A n c d xA xn xc xt :=
 ⟨h.o.below hb h.o.lt, h.r.below hb h.r.lt, h.x.below hb h.x.lt, own_below h.row hb, h.below.trans (hb.mono h.below.size), h.ux⟩
theorem ValI.size {w W : World} {X : Nat} {wh d : Int} {A xA : Option Addr} {n c xn xc : Nat} {xt : List (Int × Int)} (h : ValI w W X wh A n c d xA xn xc xt) : X < W.heap.size ∧ w.heap.size + 2 ≤ W.heap.size := ⟨h.x.lt, by have := h.x.lt; have := h.ux; omega⟩
theorem ValI.next {w W w5 : World} {X : Nat} {wh d s1 : Int} {A xA A5 : Option Addr} {n c xn xc n5 c5 : Nat} {xt s2 : List (Int × Int)} {ob : Obj} (h : ValI w W X wh A n c d xA xn xc xt) (hb : Below W.heap.size W w5)
  (ho : w5.ownsRow W.heap.size 86 2 (.slice A5 n5 c5) n5 (cellsT s2)) :
  ValI w (((w5.alloc ob).setCell ⟨X, 0, none⟩ (.int .i64 s1)).setCell ⟨X, 1, none⟩ (.slice A5 n5 c5)) X wh A n c s1 A5 n5 c5 s2 := by
 have h1 := (h.under hb).under ((Below.refl _ _).alloc (Nat.le_refl _) ob)
 have hux := h.ux
 have hz := h.size
 have ho1 := own_le (ho.alloc ob) (show w.heap.size ≤ W.heap.size by omega)
 have hne : w.heap.size ≠ X := by omega
 have hne1 : w.heap.size + 1 ≠ X := by omega
 have hx1 := h1.x.set_ 0 (.int .i64 s1)
 exact ⟨(h1.o.far (p := ⟨X, 0, none⟩) hne _).far (p := ⟨X, 1, none⟩) hne _, (h1.r.far (p := ⟨X, 0, none⟩) hne1 _).far (p := ⟨X, 1, none⟩) hne1 _, hx1.set_ 1 _,
  own_set (own_set ho1 h1.x (by decide)) hx1 (by decide), (h1.below.setCell (p := ⟨X, 0, none⟩) (by show _ ≤ X; omega) _).setCell (p := ⟨X, 1, none⟩) (by show _ ≤ X; omega) _, hux⟩
set_option maxHeartbeats 8000000 in
set_option maxRecDepth 100000 in
theorem refValue_any (wh : Int) (A : Option Addr) (n c B : Nat) (l : List PieceV) (w : World) (hp : PiecesQ w B A n c l) (hB : B ≤ w.heap.size) (hok : oldOK wh (l.map PieceV.flat) = true) :
  Calls Tryz.prog 25 #[.agg #[.int .i64 wh, .slice A n c]] w (NumPost w (valueS wh (l.map PieceV.flat))) := by
 have hl := hp.len
 subst hl
 have hn := hp.1.nmax
 obtain ⟨g1, g2, g3⟩ := oldOK_parts hok
 have hms : ∀ p ∈ l, p.ms.length ≤ 6 ∧ ∀ m ∈ p.ms, 2 ≤ m ∧ m ≤ 1000 := fun p hp => by
  obtain ⟨a1, a2, a3⟩ := g3 p.flat (List.mem_map_of_mem hp)
  exact ⟨a2, fun m hm => by
   have h5 := (oldOK_split hok).2.2 p.flat (List.mem_map_of_mem hp)
   simp only [pieceOK, Bool.and_eq_true, List.all_eq_true] at h5
   have := h5.2 m hm
   simpa [markOK, inB] using this⟩
 have hVS : valueS wh (l.map PieceV.flat) = if ((l.map PieceV.flat).any fun p => prodM 1 p.2 == 0) = true then (0, [], 10) else valFold (wholeN wh) (l.map PieceV.flat) := by unfold valueS; rw [if_pos hok]
 obtain ⟨w0, hw0⟩ : ∃ w0, w0 = (w.alloc (.cells #[.int .i64 wh, .slice A l.length c] 24)).alloc (.cells #[.int .i64 0, .slice none 0 0] 34) := ⟨_, rfl⟩
 have hz0 : w0.heap.size = w.heap.size + 2 := by rw [hw0]; simp
 have HX0 : Hid (Blk w0 w.heap.size 24 #[.int .i64 wh, .slice A l.length c]) := hide (by rw [hw0]; exact (Blk.new w _ _).alloc _)
 have HR0 : Hid (Blk w0 (w.heap.size + 1) 34 #[.int .i64 0, .slice none 0 0]) := hide (by
  rw [hw0]
  have h := Blk.new (w.alloc (.cells #[.int .i64 wh, .slice A l.length c] 24)) 34 #[.int .i64 0, .slice none 0 0]
  rwa [World.size_alloc] at h)
 have HB0 : Hid (Below w.heap.size w w0) := hide (by rw [hw0]; exact ((Below.refl _ _).alloc (Nat.le_refl _) _).alloc (by simp) _)
 have HP := hide (fun W (hb : Below w.heap.size w W) => hp.below (hb.mono hB))
 have HMS := hide hms
 have HVS := hide hVS
 have HPQ := hide (show ∀ p ∈ l, prodM 1 p.ms = if 100000 < prodQ 1 p.ms then 0 else prodQ 1 p.ms from fun p hp => prodQ_M p.ms 1 (by omega) (fun m hm => by have := (hms p hp).2 m hm; omega))
 have HPB := hide (show ∀ p ∈ l, 0 ≤ prodQ 1 p.ms ∧ prodQ 1 p.ms ≤ 100001 from fun p hp => prodQ_bd p.ms 1 (by omega) (fun m hm => by have := (hms p hp).2 m hm; omega))
 clear hp hms hVS g2 g3 hok
 go_enter Tryz.func25, Tryz.ntmps25
 go_upto_region 1 with fail
 rw [← hw0]
 clear hw0
 obtain ⟨x0, x1, _, _⟩ := HX0.out.two
 obtain ⟨r0, r1, rf0, rf1⟩ := HR0.out.two
 go_wp2
 go_loopw [4] (fun i W => ∃ k : Nat, k ≤ l.length ∧ i = .int .i64 k ∧ (∀ j (hj : j < l.length), j < k → prodM 1 l[j].ms ≠ 0) ∧ W = w0) (fun i _ => l.length - (intOf i).toNat)
 case atStart => exact ⟨0, by omega, rfl, fun j _ hj => by omega, rfl⟩
 case round =>
  obtain ⟨k, hk, rfl, hpre, rfl⟩ := hrel
  have HPRE := hide hpre
  clear hpre
  by_cases hkl : (k : Int) < (l.length : Int)
  ·have hk1 : k < l.length := by omega
   have HPk := hide (HP.out _ HB0.out)
   obtain ⟨ad, rfl, -, ha0, ha1⟩ := HPk.out.at_ hk1
   have hpi := HPk.out.2 l[k] (List.getElem_mem hk1)
   have hmm := HMS.out l[k] (List.getElem_mem hk1)
   have hpq := HPQ.out l[k] (List.getElem_mem hk1)
   have HPR1 := hide (refProduct_any _ _ _ B _ _ hpi (fun m hm => by have := hmm.2 m hm; omega))
   by_cases hbig : 100000 < prodQ 1 l[k].ms
   ·rw [if_pos hbig] at hpq
    have HV : Hid (valueS wh (l.map PieceV.flat) = (0, [], 10)) := hide (by
     rw [HVS.out, if_pos (List.any_eq_true.2 ⟨l[k].flat, List.mem_map_of_mem (List.getElem_mem hk1), by
      have : l[k].flat.2 = l[k].ms := rfl
      rw [this, hpq]; rfl⟩)])
    clear hpq hpi hmm
    generalize l[k] = p at *
    go_wp2_with (first
     | (go_at_call 73; refine HPR1.out.mono ?_; rintro e w1 ⟨rfl, hw1⟩; subst w1))
    refine bodyPost_cell_tmp (p := 2) (u := 3) (ty := 34) rfl rfl ((HR0.out.set_ 0 _).set_ 1 _) Tryz.underlying34 rfl Tryz.sizeNumber rfl ?_
    unfold NumPost
    exact ⟨none, 0, 0, by rw [HV.out]; rfl, by rw [HV.out]; exact World.ownsRow_nil _ _ _ _, Below.setCell (Below.setCell HB0.out (p := ⟨w.heap.size + 1, 0, none⟩) (by show _ ≤ w.heap.size + 1; omega) _) (p := ⟨w.heap.size + 1, 1, none⟩) (by show _ ≤ w.heap.size + 1; omega) _⟩
   ·rw [if_neg hbig] at hpq
    have hpos : 1 ≤ prodM 1 l[k].ms := by
     have h1 := HPB.out l[k] (List.getElem_mem hk1)
     have h2 := prodQ_one l[k].ms (fun m hm => by have := hmm.2 m hm; omega)
     omega
    have HN := hide (show ∀ j (hj : j < l.length), j < k + 1 → prodM 1 l[j].ms ≠ 0 from fun j hj h => by
     rcases Nat.lt_or_ge j k with h5 | h5
     ·exact HPRE.out j hj h5
     ·obtain rfl : j = k := by omega
      omega)
    clear hpq hpi hmm hpos
    generalize l[k] = p at *
    go_wp2_with (first
     | (go_at_call 73; refine HPR1.out.mono ?_; rintro e w1 ⟨rfl, hw1⟩; subst w1))
    exact ⟨⟨k + 1, by omega, by go_num, HN.out, by trivial⟩, by simp [intOf]; omega⟩
  ·obtain rfl : k = l.length := by omega
   have HV : Hid (valueS wh (l.map PieceV.flat) = valFold (wholeN wh) (l.map PieceV.flat)) := hide (by
    rw [HVS.out, if_neg]
    intro h
    obtain ⟨q, hq, h1⟩ := List.any_eq_true.1 h
    obtain ⟨p, hp, rfl⟩ := List.mem_map.1 hq
    obtain ⟨j, hj, rfl⟩ := List.mem_iff_getElem.1 hp
    exact HPRE.out j hj hj (by simpa [PieceV.flat] using h1))
   have HWH := hide (fun W => refWhole_any wh W)
   have HNZ := hide (fun j (hj : j < l.length) => HPRE.out j hj hj)
   clear HVS HPRE
   generalize hwn : wholeN wh = x0n at *
   obtain ⟨d0, t0⟩ := x0n
   go_wp2_with (first
    | (go_at_call 74; refine (HWH.out _).mono ?_; rintro e w1 ⟨xA, xn, xc, rfl, ho1, hb1⟩))
   have hz1 := hb1.size
   have HI0 : Hid (ValI w (w1.alloc (.cells #[.int .i64 d0, .slice xA xn xc] 34)) w1.heap.size wh A l.length c d0 xA xn xc t0) := hide
    ⟨(HX0.out.below hb1 (by omega)).alloc _, (HR0.out.below hb1 (by omega)).alloc _, Blk.new _ _ _, own_le (ho1.alloc _) (by omega), (HB0.out.trans (hb1.mono (by omega))).alloc (by have := HB0.out.size; omega) _, by omega⟩
   obtain ⟨X, hX⟩ : ∃ X, X = w1.heap.size := ⟨_, rfl⟩
   rw [← hX] at HI0 ⊢
   clear ho1 hb1 hz1 hX x0 x1 r0 r1 rf0 rf1 HX0 HR0 HB0
   generalize w1.alloc (.cells #[.int .i64 d0, .slice xA xn xc] 34) = w2 at *
   go_loopw [6] (fun i W => ∃ (k : Nat) (d : Int) (xA : Option Addr) (xn xc : Nat) (xt : List (Int × Int)), k ≤ l.length ∧ i = .int .i64 k ∧ ValI w W X wh A l.length c d xA xn xc xt ∧ valFold (d0, t0) (l.map PieceV.flat) = valFold (d, xt) ((l.map PieceV.flat).drop k)) (fun i _ => l.length - (intOf i).toNat)
   case atStart => exact ⟨0, d0, xA, xn, xc, t0, by omega, rfl, HI0.out, rfl⟩
   case round =>
    obtain ⟨k, d, xA, xn, xc, xt, hk, rfl, hI, hfold⟩ := hrel
    have HI := hide hI
    have HF := hide hfold
    have hsz := hI.size
    have hux := hI.ux
    clear hI hfold HI0
    obtain ⟨x0, x1, _, _⟩ := HI.out.o.two
    by_cases hkl : (k : Int) < (l.length : Int)
    ·have hk1 : k < l.length := by omega
     have HPk := hide (HP.out _ HI.out.below)
     obtain ⟨ad, rfl, -, ha0, ha1⟩ := HPk.out.at_ hk1
     have hpi := HPk.out.2 l[k] (List.getElem_mem hk1)
     have hmm := HMS.out l[k] (List.getElem_mem hk1)
     have hnz := HNZ.out k hk1
     have hpq := HPQ.out l[k] (List.getElem_mem hk1)
     have hq1 : prodQ 1 l[k].ms = prodM 1 l[k].ms := by
      by_cases h : 100000 < prodQ 1 l[k].ms
      ·rw [if_pos h] at hpq; exact absurd hpq hnz
      ·rw [if_neg h] at hpq; exact hpq.symm
     have HPR1 := refProduct_any _ _ _ B _ _ hpi (fun m hm => by have := hmm.2 m hm; omega)
     rw [hq1] at HPR1
     have HPR1 := hide HPR1
     have hdrop : (l.map PieceV.flat).drop k = l[k].flat :: (l.map PieceV.flat).drop (k + 1) := by
      rw [List.drop_eq_getElem_cons (by simpa using hk1), List.getElem_map]
     have HFD := hide hdrop
     clear hpq hq1 hmm hpi hdrop hnz
     obtain ⟨p, hpe⟩ : ∃ p, p = l[k] := ⟨_, rfl⟩
     rw [← hpe] at ha0 ha1 HPR1 HFD
     clear hpe
     obtain ⟨mi, Ap, np, cp, ms⟩ := p
     dsimp only at ha0 ha1
     have HFD : Hid ((l.map PieceV.flat).drop k = (mi, ms) :: (l.map PieceV.flat).drop (k + 1)) := hide HFD.out
     have HPR1 : Hid (Calls Tryz.prog 73 #[.slice Ap np cp] wr fun e w' => e = .returned (.int .i64 (prodM 1 ms)) ∧ w' = wr) := hide HPR1.out
     have HCO := hide (fun (d' c' : Int) (l' : List (Int × Int)) h => valFold_cons (d, xt) (mi, ms) ((l.map PieceV.flat).drop (k + 1)) d' c' l' h)
     dsimp only at HCO
     generalize prodM 1 ms = q at *
     obtain ⟨wb, hwb⟩ : ∃ wb, wb = (wr.alloc (.cells #[.int .i64 1, .int .i64 1] 86)).alloc (.cells #[.int .i64 q, .slice (some ⟨wr.heap.size, 0, none⟩) 1 1] 34) := ⟨_, rfl⟩
     have hbb : Below wr.heap.size wr wb := by rw [hwb]; exact ((Below.refl _ _).alloc (Nat.le_refl _) _).alloc (by simp) _
     have HIb := hide (HI.out.under hbb)
     have HT7 : Hid (Blk wb (wr.heap.size + 1) 34 #[.int .i64 q, .slice (some ⟨wr.heap.size, 0, none⟩) 1 1]) := hide (by
      rw [hwb]
      have h := Blk.new (wr.alloc (.cells #[.int .i64 1, .int .i64 1] 86)) 34 #[.int .i64 q, .slice (some ⟨wr.heap.size, 0, none⟩) 1 1]
      rwa [World.size_alloc] at h)
     have HLT : Hid (TermsQ wb wb.heap.size (some ⟨wr.heap.size, 0, none⟩) 1 1 [(1, 1)]) := hide (by
      rw [hwb]
      exact Rq.of (Rd.of_own ((World.ownsRow_lit (base := wr.heap.size) (e := 86) (size := 2) wr #[.int .i64 1, .int .i64 1] 1 (Nat.le_refl _) (by unfold maxLen; omega) rfl).alloc _)))
     have hzb : wb.heap.size = wr.heap.size + 2 := by rw [hwb]; simp
     have hab0 : wb.cell? (ad.add (k * 2)) = some (.bool mi) := by
      rw [hwb]
      have hlt := World.block_lt_of_cell? _ _ ha0
      rw [World.cell?_alloc_lt _ _ _ (by rw [World.size_alloc]; omega), World.cell?_alloc_lt _ _ _ hlt]
      exact ha0
     have hpl : ∀ tm : Int, (-1 ≤ tm ∧ tm ≤ 1) → Calls Tryz.prog 75 #[.agg #[.int .i64 d, .slice xA xn xc], .agg #[.int .i64 q, .slice (some ⟨wr.heap.size, 0, none⟩) 1 1], .int .i64 tm] wb (NumPost wb (plusS d xt q [(1, 1)] tm)) := fun tm htm =>
      refPlus_any d xA xn xc xt q (some ⟨wr.heap.size, 0, none⟩) 1 1 [(1, 1)] tm wb.heap.size wb (Rq.of (Rd.of_own HIb.out.row)) HLT.out (Nat.le_refl _) htm
     have HPL := hide hpl
     clear hpl HLT hbb
     obtain ⟨z0, z1, _, _⟩ := HIb.out.x.two
     obtain ⟨v0, v1, _, _⟩ := HIb.out.o.two
     obtain ⟨y0, y1, _, _⟩ := HT7.out.two
     go_upto_region 11 with (first
      | (go_at_call 73; refine HPR1.out.mono ?_; rintro e w3 ⟨rfl, hw3⟩; subst w3))
     rw [← hwb]
     clear hwb x0 x1 ha0 ha1 HPR1 HI
     obtain ⟨T1, hT1⟩ : ∃ T1, T1 = wr.heap.size := ⟨_, rfl⟩
     rw [← hT1] at HT7 HPL y0 y1 hzb ⊢
     clear hT1
     cases mi
     ·have HP1 := hide (HPL.out 1 (by omega))
      have hco := fun d' c' l' h => HCO.out d' c' l' h
      simp only [Bool.false_eq_true, if_false] at hco
      have HCP := hide hco
      clear HPL HCO hco
      generalize plusS d xt q [(1, 1)] 1 = sv at *
      obtain ⟨s1, s2, s3⟩ := sv
      have hcc := HCP.out s1 s3 s2 rfl
      have HCC := hide hcc
      clear HCP hcc
      by_cases h3 : s3 = 0
      ·subst h3
       have hf2 : valFold (d0, t0) (l.map PieceV.flat) = valFold (s1, s2) ((l.map PieceV.flat).drop (k + 1)) := by rw [HF.out, HFD.out, HCC.out, if_pos rfl]
       have HF2 := hide hf2
       clear hf2 HCC HFD HF
       go_wp2_with (first
        | (go_at_call 75; refine HP1.out.mono ?_; rintro e w5 ⟨A5, n5, c5, rfl, ho5, hb5⟩
           have HN5 := hide (HIb.out.next (s1 := s1) (ob := .cells #[.int .i64 s1, .slice A5 n5 c5] 34) hb5 ho5)
           have HX5 := hide ((HIb.out.x.below hb5 HIb.out.x.lt).alloc (.cells #[.int .i64 s1, .slice A5 n5 c5] 34))
           obtain ⟨q0, q1, qf0, qf1⟩ := HX5.out.two
           obtain ⟨b0, b1, _, _⟩ := (Blk.new w5 34 #[.int .i64 s1, .slice A5 n5 c5]).two
           clear hb5 ho5))
       exact ⟨⟨k + 1, s1, A5, n5, c5, s2, by omega, by go_num, HN5.out, HF2.out⟩, by simp [intOf]; omega⟩
      ·have hn3 : (s3 != 0) = true := by simpa using h3
       have hf2 : valFold (d0, t0) (l.map PieceV.flat) = (0, [], s3) := by rw [HF.out, HFD.out, HCC.out, if_neg h3]
       have HV2 : Hid (valueS wh (l.map PieceV.flat) = (0, [], s3)) := hide (HV.out.trans hf2)
       clear hf2 HCC HFD HF
       go_wp2_with (first
        | (go_at_call 75; refine HP1.out.mono ?_; rintro e w5 ⟨A5, n5, c5, rfl, ho5, hb5⟩
           have HU5 := hide ((HIb.out.under hb5).under ((Below.refl _ _).alloc (Nat.le_refl _) (.cells #[.int .i64 s1, .slice A5 n5 c5] 34)))
           obtain ⟨q0, q1, qf0, qf1⟩ := HU5.out.r.two
           clear hb5 ho5))
       refine bodyPost_cell_tmp (p := 2) (u := 3) (ty := 34) rfl rfl ((HU5.out.r.set_ 0 _).set_ 1 _) Tryz.underlying34 rfl Tryz.sizeNumber rfl ?_
       unfold NumPost
       exact ⟨none, 0, 0, by rw [HV2.out]; rfl, by rw [HV2.out]; exact World.ownsRow_nil _ _ _ _, Below.setCell (Below.setCell HU5.out.below (p := ⟨w.heap.size + 1, 0, none⟩) (by show _ ≤ w.heap.size + 1; omega) _) (p := ⟨w.heap.size + 1, 1, none⟩) (by show _ ≤ w.heap.size + 1; omega) _⟩
     ·have HP1 := hide (HPL.out (-1) (by omega))
      have hco := fun d' c' l' h => HCO.out d' c' l' h
      simp only [if_true] at hco
      have HCP := hide hco
      clear HPL HCO hco
      generalize plusS d xt q [(1, 1)] (-1) = sv at *
      obtain ⟨s1, s2, s3⟩ := sv
      have hcc := HCP.out s1 s3 s2 rfl
      have HCC := hide hcc
      clear HCP hcc
      by_cases h3 : s3 = 0
      ·subst h3
       have hf2 : valFold (d0, t0) (l.map PieceV.flat) = valFold (s1, s2) ((l.map PieceV.flat).drop (k + 1)) := by rw [HF.out, HFD.out, HCC.out, if_pos rfl]
       have HF2 := hide hf2
       clear hf2 HCC HFD HF
       go_wp2_with (first
        | (go_at_call 75; refine HP1.out.mono ?_; rintro e w5 ⟨A5, n5, c5, rfl, ho5, hb5⟩
           have HN5 := hide (HIb.out.next (s1 := s1) (ob := .cells #[.int .i64 s1, .slice A5 n5 c5] 34) hb5 ho5)
           have HX5 := hide ((HIb.out.x.below hb5 HIb.out.x.lt).alloc (.cells #[.int .i64 s1, .slice A5 n5 c5] 34))
           obtain ⟨q0, q1, qf0, qf1⟩ := HX5.out.two
           obtain ⟨b0, b1, _, _⟩ := (Blk.new w5 34 #[.int .i64 s1, .slice A5 n5 c5]).two
           clear hb5 ho5))
       exact ⟨⟨k + 1, s1, A5, n5, c5, s2, by omega, by go_num, HN5.out, HF2.out⟩, by simp [intOf]; omega⟩
      ·have hn3 : (s3 != 0) = true := by simpa using h3
       have hf2 : valFold (d0, t0) (l.map PieceV.flat) = (0, [], s3) := by rw [HF.out, HFD.out, HCC.out, if_neg h3]
       have HV2 : Hid (valueS wh (l.map PieceV.flat) = (0, [], s3)) := hide (HV.out.trans hf2)
       clear hf2 HCC HFD HF
       go_wp2_with (first
        | (go_at_call 75; refine HP1.out.mono ?_; rintro e w5 ⟨A5, n5, c5, rfl, ho5, hb5⟩
           have HU5 := hide ((HIb.out.under hb5).under ((Below.refl _ _).alloc (Nat.le_refl _) (.cells #[.int .i64 s1, .slice A5 n5 c5] 34)))
           obtain ⟨q0, q1, qf0, qf1⟩ := HU5.out.r.two
           clear hb5 ho5))
       refine bodyPost_cell_tmp (p := 2) (u := 3) (ty := 34) rfl rfl ((HU5.out.r.set_ 0 _).set_ 1 _) Tryz.underlying34 rfl Tryz.sizeNumber rfl ?_
       unfold NumPost
       exact ⟨none, 0, 0, by rw [HV2.out]; rfl, by rw [HV2.out]; exact World.ownsRow_nil _ _ _ _, Below.setCell (Below.setCell HU5.out.below (p := ⟨w.heap.size + 1, 0, none⟩) (by show _ ≤ w.heap.size + 1; omega) _) (p := ⟨w.heap.size + 1, 1, none⟩) (by show _ ≤ w.heap.size + 1; omega) _⟩
    ·obtain rfl : k = l.length := by omega
     have hf := HF.out
     rw [List.drop_of_length_le (by simp)] at hf
     have HV2 : Hid (valueS wh (l.map PieceV.flat) = (d, xt, 0)) := hide (HV.out.trans hf)
     obtain ⟨z0, z1, _, _⟩ := HI.out.x.two
     obtain ⟨r0, r1, rf0, rf1⟩ := HI.out.r.two
     go_wp2
     refine bodyPost_cell_tmp (p := 2) (u := 3) (ty := 34) rfl rfl ((HI.out.r.set_ 0 _).set_ 1 _) Tryz.underlying34 rfl Tryz.sizeNumber rfl ?_
     unfold NumPost
     exact ⟨xA, xn, xc, by rw [HV2.out]; rfl, by rw [HV2.out]; exact own_set (own_set HI.out.row HI.out.r (by decide)) (HI.out.r.set_ 0 _) (by decide), Below.setCell (Below.setCell HI.out.below (p := ⟨w.heap.size + 1, 0, none⟩) (by show _ ≤ w.heap.size + 1; omega) _) (p := ⟨w.heap.size + 1, 1, none⟩) (by show _ ≤ w.heap.size + 1; omega) _⟩
end Go.Proofs.YtaacnbnmlfhnaaaGreatDoor
