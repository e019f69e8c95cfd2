import Derived.Test.YthkblgglmohciaaGreatDoorIxaA
import Derived.Test.YthkblgglmohciaaGreatDoorFloAToFmtA
import Derived.Test.YthkblgglmohciaaGreatDoorTrmAToTrmB
import Derived.Sort.CutIn
import Derived.RangeFuncBox
import Derived.Test.YthkblgglmohciaaGreatDoorCom
import Derived.Test.YthkblgglmohciaaGreatDoorFmtBToFmtC
import Derived.Test.YthkblgglmohciaaGreatDoorFlowToNumK
import Derived.Test.YthkblgglmohciaaGreatDoorSurdGToSurdM
set_option linter.unusedVariables false
set_option linter.unusedSimpArgs false
namespace Go.Proofs.YthkblgglmohciaaGreatDoor
open Go.RowKit
attribute [local go_sem] Oper.semAt_some
def cutAt (l : List UInt8) : Nat := if Lib.indexAny l.tail [43, 45] < 0 then l.length else (Lib.indexAny l.tail [43, 45] + 1).toNat
def partsF : Nat → List UInt8 → List (List UInt8)
 | 0, _ => []
 | f + 1, l => if l = [] then [] else l.take (cutAt l) :: partsF f (l.drop (cutAt l))
def partsP (l : List UInt8) : List (List UInt8) := partsF l.length l
theorem indexAny_lt (cs : List UInt8) : ∀ l : List UInt8, Lib.indexAny l cs < l.length
 | [] => by simp [Lib.indexAny]
 | b :: l => by
  have ih := indexAny_lt cs l
  have h2 := Lib.indexAny_ge cs l
  unfold Lib.indexAny
  rw [List.length_cons]
  split
  ·omega
  ·split <;> omega
theorem cutAt_bd {l : List UInt8} (h : l ≠ []) : 1 ≤ cutAt l ∧ cutAt l ≤ l.length := by
 have h1 := indexAny_lt [43, 45] l.tail
 have h2 := Lib.indexAny_ge [43, 45] l.tail
 have h3 : l.tail.length + 1 = l.length := by cases l with | nil => exact absurd rfl h | cons a t => simp
 unfold cutAt
 split <;> omega
theorem partsF_enough : ∀ (f g : Nat) (l : List UInt8), l.length ≤ f → l.length ≤ g → partsF f l = partsF g l
 | 0, 0, _, _, _ => rfl
 | 0, g + 1, l, h, _ => by
  have : l = [] := List.length_eq_zero_iff.1 (by omega)
  subst this; simp [partsF]
 | f + 1, 0, l, _, h => by
  have : l = [] := List.length_eq_zero_iff.1 (by omega)
  subst this; simp [partsF]
 | f + 1, g + 1, l, h1, h2 => by
  unfold partsF
  split
  ·rfl
  ·rename_i hl
   have hb := cutAt_bd hl
   rw [partsF_enough f g (l.drop (cutAt l)) (by rw [List.length_drop]; omega) (by rw [List.length_drop]; omega)]
theorem partsP_nil : partsP [] = [] := rfl
theorem partsP_cons {l : List UInt8} (h : l ≠ []) : partsP l = l.take (cutAt l) :: partsP (l.drop (cutAt l)) := by
 have hb := cutAt_bd h
 obtain ⟨f, hf⟩ : ∃ f, l.length = f + 1 := ⟨l.length - 1, by omega⟩
 show partsF l.length l = l.take (cutAt l) :: partsF (l.drop (cutAt l)).length (l.drop (cutAt l))
 rw [hf, partsF, if_neg h, partsF_enough f (l.drop (cutAt l)).length _ (by rw [List.length_drop]; omega) (Nat.le_refl _)]
def AsciiT (l : List UInt8) : Prop := ∀ b ∈ l, b.toNat < 256
theorem asciiT_all (l : List UInt8) : AsciiT l := fun b _ => UInt8.toNat_lt b
theorem AsciiT.drop {l : List UInt8} (h : AsciiT l) (k : Nat) : AsciiT (l.drop k) := fun b hb => h b (List.mem_of_mem_drop hb)
theorem AsciiT.take {l : List UInt8} (h : AsciiT l) (k : Nat) : AsciiT (l.take k) := fun b hb => h b (List.mem_of_mem_take hb)
theorem AsciiT.tail {l : List UInt8} (h : AsciiT l) : AsciiT l.tail := fun b hb => h b (List.mem_of_mem_tail hb)
theorem indexAny_any (l : List UInt8) (w : World) (hl : l.length ≤ 1000) (ha : AsciiT l) :
  Calls Tryz.prog 89 #[.string ⟨l.toArray⟩, .string ⟨#[43, 45]⟩] w fun e w' => e = .returned (.int .i64 (Lib.indexAny l [43, 45])) ∧ Below w.heap.size w w' := by
 exact indexAny_pm l w hl
theorem extract_take (l : List UInt8) (k : Nat) : (⟨l.toArray⟩ : ByteArray).extract 0 k = ⟨(l.take k).toArray⟩ := by
 apply ByteArray.ext
 apply Array.toList_inj.1
 simp
def encL (x : List UInt8) : Array Value := #[.string ⟨x.toArray⟩]
set_option maxHeartbeats 4000000 in
set_option maxRecDepth 100000 in
theorem parts1_gives (b1 : Nat) (s : List UInt8) (w0 : World) (h1 : Box w0 b1 9 (.string ⟨s.toArray⟩)) (hs : s.length ≤ 1000) (ha : AsciiT s) :
  GivesP Tryz.prog 88 #[.pointer (some ⟨b1, 0, none⟩)] encL (fun ys => ys = partsP s) (fun pre => ∃ rest, pre ++ rest = partsP s) (fun c => c = b1) (fun c => c = b1) 0 w0 := by
 intro l J Jx W hW hJ hJx hY h0
 have hl1 : b1 < w0.heap.size := h1.lt
 have hWz := hW.size
 have hB1 : Box W b1 9 (.string ⟨s.toArray⟩) := h1.below hW hl1
 have HY := hide hY; clear hY
 have HJ := hide hJ; clear hJ
 have HJx := hide hJx; clear hJx
 have H0 := hide h0; clear h0
 have HIA := hide (fun n l W h1 h2 => (callsIn_wide (n := n)).2 (indexAny_any l W h1 h2))
 clear h1 hW
 have HB1 := hide hB1; clear hB1
 refine callsIn_of_wp Tryz.func88 rfl trivial ?_
 simp only [Tryz.ntmps88, List.size_toArray, List.length_cons, List.length_nil, Nat.reduceAdd, Nat.reduceSub, Array.replicate_succ, Array.replicate_zero, List.push_toArray, List.append_toArray, List.nil_append, List.cons_append]
 gi_wp2
 gi_loopw [3] (fun _ A => ∃ (pre : List (List UInt8)) (r : List UInt8), Box A b1 9 (.string ⟨r.toArray⟩) ∧ r.length ≤ 1000 ∧ AsciiT r ∧ pre ++ partsP r = partsP s ∧ J pre A ∧ W.heap.size ≤ A.heap.size) (fun _ A => match A.cell? ⟨b1, 0, none⟩ with | some (.string t) => t.size | _ => 0)
 case atStart =>
  exact ⟨[], s, HB1.out, hs, ha, rfl, H0.out, Nat.le_refl _⟩
 case round =>
  obtain ⟨pre, r, hbx, hrl, hra, hp, hJp, hsz⟩ := hrel
  have HBX := hide hbx; have HP := hide hp; have HJP := hide hJp
  have hcb := hbx.cell
  have hfb := hbx.free
  clear hbx hp hJp
  by_cases hr : r = []
  ·subst hr
   gi_wp2
   go_end0
   have hp := HP.out
   rw [partsP_nil, List.append_nil] at hp
   exact ⟨⟨_, rfl⟩, .inl ⟨_, hp, HJP.out⟩⟩
  ·have hn1 : (r == []) = false := by simp [hr]
   have hn2 : ¬ (⟨r.toArray⟩ : ByteArray) = ⟨#[]⟩ := fun h => hr (by have := congrArg (fun b => b.data.toList) h; simpa using this)
   obtain ⟨hc1, hc2⟩ := cutAt_bd hr
   have hrl1 : (1 : Int) ≤ (r.length : Int) := by omega
   have hge := Lib.indexAny_ge [43, 45] r.tail
   have hlt := indexAny_lt [43, 45] r.tail
   have htl : r.tail.length + 1 = r.length := by simp; omega
   have HK : Hid ((cutAt r : Int) = if Lib.indexAny r.tail [43, 45] < 0 then (r.length : Int) else Lib.indexAny r.tail [43, 45] + 1) := hide (by unfold cutAt; split <;> omega)
   have HP2 : Hid ((pre ++ [r.take (cutAt r)]) ++ partsP (r.drop (cutAt r)) = partsP s) := hide (by rw [← HP.out, partsP_cons hr]; simp)
   have HTA := hide (fun n V => HIA.out n r.tail V (by omega) hra.tail)
   have hdl : (r.drop (cutAt r)).length + cutAt r = r.length := by rw [List.length_drop]; omega
   generalize hidx : Lib.indexAny r.tail [43, 45] = ix at *
   generalize hkk : cutAt r = k at *
   have hdr : AsciiT (r.drop k) := hra.drop k
   have HKB := hide (show 1 ≤ k ∧ k ≤ r.length ∧ r.length ≤ 1000 from ⟨hc1, hc2, hrl⟩)
   clear HP HIA hra hidx hkk hrl hc1 hc2
   by_cases hneg : ix < 0
   ·have hk : ix < 0 ∧ (k : Int) = r.length := ⟨hneg, by rw [HK.out, if_pos hneg]⟩
    clear HK
    gi_upto_region 2 with (first
     | (rw [extract_drop, List.drop_one]
        refine ⟨trivial, rfl, CallsIn.mono (HTA.out _ _) ?_⟩
        rintro e V ⟨rfl, hb⟩
        have HJV := hide (HJ.out _ _ _ none HJP.out (fr_of_below hb none) (by simp))
        have HBV := hide (HBX.out.below hb HBX.out.lt)
        have hsV : W.heap.size ≤ V.heap.size := Nat.le_trans hsz hb.size
        clear hcb hfb hb))
    have hcb := HBV.out.cell
    have hfb := HBV.out.free
    gi_upto_region 4 with fail
    obtain ⟨hc1, hc2, hrl⟩ := HKB.out
    have hkl : wrap64 ((r.length : Int) - 1) = (k : Int) - 1 := by unfold wrap64; omega
    rw [hkl]
    clear hk hkl hneg
    obtain ⟨fn, tm, as_, bd, hy, hR⟩ := HY.out pre (r.take k) V ⟨_, HP2.out⟩ HJV.out (by omega)
    have HR := hide hR; clear hR
    simp only [encL] at hy
    have hkb : (k : Int) ≤ (r.length : Int) := by omega
    have hk1 : (1 : Int) ≤ (k : Int) := by omega
    have hk2 : (k : Int) ≤ 1000 := by omega
    gi_wp2
    rw [extract_take]
    gi_wp2
    rw [hy]
    gi_wp2
    refine ⟨rfl, HR.out.mono ?_⟩
    clear hcb hfb hy
    rintro e V2 (⟨rfl, hJ', hk'⟩ | ⟨rfl, hJx', _⟩)
    ·have HJ' := hide hJ'; clear hJ'
     have HBX2 := hide (HBV.out.of_block (hk'.same _ (.inl rfl)))
     have hz2 := hk'.size
     clear hk'
     have hcb := HBX2.out.cell
     have hfb := HBX2.out.free
     gi_wp2
     have HJ2 := hide (HJ.out _ _ _ (some b1) HJ'.out (grownBy_setCell' V2 b1 (.string ⟨(r.drop k).toArray⟩)) (fun b e => .inr (by cases e; rfl)))
     have HB3 := hide (HBX2.out.set_ (.string ⟨(r.drop k).toArray⟩))
     rw [extract_drop]
     go_roundw
     case rel =>
      exact ⟨pre ++ [r.take k], r.drop k, HB3.out, by omega, hdr, HP2.out, HJ2.out, by simp; omega⟩
     case measure =>
      rw [HB3.out.cell, HBX.out.cell]
      show (r.drop k).toArray.size < r.toArray.size
      simp only [List.size_toArray]
      omega
    ·have HJx' := hide hJx'; clear hJx'
     gi_wp2
     refine bodyPost_ret (results_none rfl _ _ _) rfl ?_
     exact ⟨⟨_, rfl⟩, .inr ⟨pre ++ [r.take k], ⟨_, HP2.out⟩, HJx'.out⟩⟩
   ·have hk : ¬ ix < 0 ∧ (k : Int) = ix + 1 := ⟨hneg, by rw [HK.out, if_neg hneg]⟩
    clear HK
    gi_upto_region 2 with (first
     | (rw [extract_drop, List.drop_one]
        refine ⟨trivial, rfl, CallsIn.mono (HTA.out _ _) ?_⟩
        rintro e V ⟨rfl, hb⟩
        have HJV := hide (HJ.out _ _ _ none HJP.out (fr_of_below hb none) (by simp))
        have HBV := hide (HBX.out.below hb HBX.out.lt)
        have hsV : W.heap.size ≤ V.heap.size := Nat.le_trans hsz hb.size
        clear hcb hfb hb))
    have hcb := HBV.out.cell
    have hfb := HBV.out.free
    gi_upto_region 4 with fail
    obtain ⟨hc1, hc2, hrl⟩ := HKB.out
    obtain rfl : ix = (k : Int) - 1 := by omega
    clear hk hneg hge hlt
    obtain ⟨fn, tm, as_, bd, hy, hR⟩ := HY.out pre (r.take k) V ⟨_, HP2.out⟩ HJV.out (by omega)
    have HR := hide hR; clear hR
    simp only [encL] at hy
    have hkb : (k : Int) ≤ (r.length : Int) := by omega
    have hk1 : (1 : Int) ≤ (k : Int) := by omega
    have hk2 : (k : Int) ≤ 1000 := by omega
    gi_wp2
    rw [extract_take]
    gi_wp2
    rw [hy]
    gi_wp2
    refine ⟨rfl, HR.out.mono ?_⟩
    clear hcb hfb hy
    rintro e V2 (⟨rfl, hJ', hk'⟩ | ⟨rfl, hJx', _⟩)
    ·have HJ' := hide hJ'; clear hJ'
     have HBX2 := hide (HBV.out.of_block (hk'.same _ (.inl rfl)))
     have hz2 := hk'.size
     clear hk'
     have hcb := HBX2.out.cell
     have hfb := HBX2.out.free
     gi_wp2
     have HJ2 := hide (HJ.out _ _ _ (some b1) HJ'.out (grownBy_setCell' V2 b1 (.string ⟨(r.drop k).toArray⟩)) (fun b e => .inr (by cases e; rfl)))
     have HB3 := hide (HBX2.out.set_ (.string ⟨(r.drop k).toArray⟩))
     rw [extract_drop]
     go_roundw
     case rel =>
      exact ⟨pre ++ [r.take k], r.drop k, HB3.out, by omega, hdr, HP2.out, HJ2.out, by simp; omega⟩
     case measure =>
      rw [HB3.out.cell, HBX.out.cell]
      show (r.drop k).toArray.size < r.toArray.size
      simp only [List.size_toArray]
      omega
    ·have HJx' := hide hJx'; clear hJx'
     gi_wp2
     refine bodyPost_ret (results_none rfl _ _ _) rfl ?_
     exact ⟨⟨_, rfl⟩, .inr ⟨pre ++ [r.take k], ⟨_, HP2.out⟩, HJx'.out⟩⟩
end Go.Proofs.YthkblgglmohciaaGreatDoor
namespace Go.Proofs.YthkblgglmohciaaGreatDoor
open Go.RowKit
def okP (ps : List (List UInt8)) : Bool := ps.all fun p => (termP p).2
def tsP (ps : List (List UInt8)) : List (Int × Int) := (ps.map fun p => (termP p).1).filter fun t => !(t == ((0 : Int), (1 : Int)))
def denP (s : List UInt8) : Int := if (Lib.cut s [47]).2.2 = true then (digS (Lib.cut s [47]).2.1).1 else 1
def psP (s : List UInt8) : List (List UInt8) := partsP (Lib.trimS (Lib.cut s [47]).1 [40, 41])
def parseN (s : List UInt8) : Int × List (Int × Int) × Int :=
 if 64 < s.length then (0, [], 5)
 else if okP (psP s) = false then (0, [], 4)
 else if numOK (denP s) (tsP (psP s)) = true ∧ numT (denP s) (tsP (psP s)) = s then (denP s, tsP (psP s), 0) else (0, [], 4)
theorem okP_snoc (ps : List (List UInt8)) (p : List UInt8) : okP (ps ++ [p]) = (okP ps && (termP p).2) := by simp [okP]
theorem okP_pre {ps qs : List (List UInt8)} (h : okP ps = false) : okP (ps ++ qs) = false := by
 unfold okP at *
 rw [List.all_append, h]; rfl
theorem tsP_zero (ps : List (List UInt8)) {p : List UInt8} (h : (termP p).1 = (0, 1)) : tsP (ps ++ [p]) = tsP ps := by
 unfold tsP
 rw [List.map_append, List.filter_append]
 simp [h]
theorem tsP_snoc (ps : List (List UInt8)) {p : List UInt8} (h : ¬ (termP p).1 = (0, 1)) : tsP (ps ++ [p]) = tsP ps ++ [(termP p).1] := by
 unfold tsP
 rw [List.map_append, List.filter_append]
 simp [h]
theorem tsP_len (ps : List (List UInt8)) : (tsP ps).length ≤ ps.length := by
 have h := List.length_filter_le (fun t => !(t == ((0 : Int), (1 : Int)))) (ps.map fun p => (termP p).1)
 rw [List.length_map] at h
 exact h
theorem partsF_bd : ∀ (f : Nat) (l : List UInt8), (partsF f l).length ≤ f ∧ ∀ p ∈ partsF f l, p.length ≤ l.length
 | 0, _ => by simp [partsF]
 | f + 1, l => by
  unfold partsF
  split
  ·simp
  ·have h := partsF_bd f (l.drop (cutAt l))
   refine ⟨by simp; exact h.1, fun p hp => ?_⟩
   rcases List.mem_cons.1 hp with rfl | hp
   ·simp; omega
   ·have := h.2 p hp; simp at this; omega
theorem partsP_bd (l : List UInt8) : (partsP l).length ≤ l.length ∧ ∀ p ∈ partsP l, p.length ≤ l.length := partsF_bd _ _
theorem trimS_sub (l cs : List UInt8) : (Lib.trimS l cs).Sublist l := by
 unfold Lib.trimS Lib.trimLeftS Lib.trimRightS
 refine (List.dropWhile_sublist _).trans ?_
 have h := (List.dropWhile_sublist (cs.contains ·) (l := l.reverse)).reverse
 rwa [List.reverse_reverse] at h
theorem cut_sub (l sep : List UInt8) : (Lib.cut l sep).1.Sublist l := by
 unfold Lib.cut
 split
 ·exact List.take_sublist _ _
 ·exact List.Sublist.refl _
theorem AsciiT.sub {l m : List UInt8} (h : AsciiT l) (hs : m.Sublist l) : AsciiT m := fun b hb => h b (hs.subset hb)
theorem cut_len2 (l sep : List UInt8) : (Lib.cut l sep).2.1.length ≤ l.length := by
 unfold Lib.cut
 split <;> simp
set_option maxHeartbeats 400000 in
theorem partsFn_any (s : ByteArray) (w : World) : Calls Tryz.prog 50 #[.string s] w fun e w' =>
  e = .returned (.func (.func 88) #[] #[.pointer (some ⟨w.heap.size, 0, none⟩)]) ∧ w' = w.alloc (.cells #[.string s] 9) := by
 go_enter Tryz.func50, Tryz.ntmps50
 go_wp2
 go_ret
 exact ⟨by simp, rfl⟩
theorem enters_parts (args : Array Value) (w : World) : (callFunc 88 args).run Tryz.prog w = .ok (.enter 88 args) w := enters_of Tryz.func88 (by kernel_rfl) rfl args w
structure QState (w : World) (base : Nat) (W : World) (den : Int) (A : Option Addr) (c : Nat) (ts : List (Int × Int)) : Prop where
 res : Blk W w.heap.size 24 #[.int .i64 0, .slice none 0 0]
 code : Box W (w.heap.size + 1) 27 (.int .i64 0)
 own : Blk W (w.heap.size + 2) 24 #[.int .i64 den, .slice A ts.length c]
 row : W.ownsRow base 52 2 (.slice A ts.length c) ts.length (cellsT ts)
 below : Below w.heap.size w W
section
variable {w W W' : World} {base : Nat} {den : Int} {A : Option Addr} {c : Nat} {ts : List (Int × Int)}
theorem QState.grown (h : QState w base W den A c ts) {row : Option Nat} (hg : W.grownBy W' row) (hr : ∀ b, row = some b → w.heap.size + 2 < b ∧ b < base) : QState w base W' den A c ts :=
 ⟨h.res.grown hg (fun e => by have := hr _ e; omega), h.code.grown hg (fun e => by have := hr _ e; omega), h.own.grown hg (fun e => by have := hr _ e; omega),
  own_kept_of h.row hg (fun g e1 e2 => by have := (h.row.lt g e1).1; have := hr g e2; omega),
  h.below.grown hg h.below.size (fun j e => by have := hr j e; omega)⟩
theorem QState.push (h : QState w base W den A c ts) (hb : w.heap.size + 2 < base) {o : Obj} {w3 : World} {g cap : Nat} {t : Int × Int}
  (hown : w3.ownsRow base 52 2 (.slice (some ⟨g, 0, none⟩) (ts.length + 1) cap) (ts.length + 1) (cellsT ts ++ [.int .i64 t.1, .int .i64 t.2]))
  (hg : (W.alloc o).grownBy w3 (Value.slice A ts.length c).ownBlock) :
  QState w base (w3.setCell ⟨w.heap.size + 2, 1, none⟩ (.slice (some ⟨g, 0, none⟩) (ts.length + 1) cap)) den (some ⟨g, 0, none⟩) cap (ts ++ [t]) := by
 have hbl : ∀ g, (Value.slice A ts.length c).ownBlock = some g → base ≤ g := fun g e => (h.row.lt g e).1
 refine ⟨?_, ?_, ?_, ?_, ?_⟩
 ·exact ((h.res.alloc o).grown hg (fun e => by have := hbl _ e; omega)).far (by simp) _
 ·exact ((h.code.alloc o).grown hg (fun e => by have := hbl _ e; omega)).far (by simp) _
 ·rw [List.length_append, List.length_singleton]
  exact ((h.own.alloc o).grown hg (fun e => by have := hbl _ e; omega)).set_ 1 _
 ·rw [show cellsT (ts ++ [t]) = cellsT ts ++ [.int .i64 t.1, .int .i64 t.2] by simp [cellsT, cells2, encT], List.length_append, List.length_singleton]
  exact ownsRow_setCell_below hown hb _
 ·exact ((h.below.alloc h.below.size o).grown hg (by have := h.below.size; simp; omega) (fun j e => by have := hbl j e; omega)).setCell (p := ⟨w.heap.size + 2, 1, none⟩) (by simp) _
theorem QState.below_ (h : QState w base W den A c ts) (hb : Below W.heap.size W W') : QState w base W' den A c ts := h.grown (fr_of_below hb none) (by simp)
theorem QState.den_ (h : QState w base W den A c ts) (hb : w.heap.size + 2 < base) (v : Int) : QState w base (W.setCell ⟨w.heap.size + 2, 0, none⟩ (.int .i64 v)) v A c ts :=
 ⟨h.res.far (by simp) _, h.code.far (by simp) _, h.own.set_ 0 _, ownsRow_setCell_below h.row hb _, h.below.setCell (p := ⟨w.heap.size + 2, 0, none⟩) (by simp) _⟩
end
theorem run_loadVar_code {w : World} {b : Nat} {v : Value} (h : w.cell? ⟨b, 0, none⟩ = some v) : (loadVar 27 ⟨b, 0, none⟩).run Tryz.prog w = .ok v w := by
 have hagg : (isAgg 27).run Tryz.prog w = .ok false w := by
  unfold isAgg
  rw [Sem.run_bind, run_underlying Tryz.underlying27 w]
  simp [Result.andThen]
 simp [loadVar, Sem.run_bind, hagg, go_sem, h]
theorem results_two {fn : Func} {p q : Tmp} (h : fn.results = #[.cell p 24, .cell q 27]) {tmps : Array Value} {w : World} {g g2 : Nat} {x y v : Value}
  (hp : tmps.getD p undef = .pointer (some ⟨g, 0, none⟩)) (hq : tmps.getD q undef = .pointer (some ⟨g2, 0, none⟩)) (hg : Blk w g 24 #[x, y]) (hg2 : Box w g2 27 v) :
  (results fn tmps).run Tryz.prog w = .ok (.tuple #[.agg #[x, y], v]) w := by
 have e : (results fn tmps).run Tryz.prog w = ((asAddr (tmps.getD p undef)).run Tryz.prog w).andThen fun x w₁ => ((loadVar 24 x).run Tryz.prog w₁).andThen fun v w₂ => ((asAddr (tmps.getD q undef)).run Tryz.prog w₂).andThen fun x2 w₃ => ((loadVar 27 x2).run Tryz.prog w₃).andThen fun v2 w₄ => .ok (.tuple #[v, v2]) w₄ := by
  simp only [results, h]
  simp [Sem.run_bind, Result.andThen]
 rw [e, hp, hq]
 simp [asAddr, Result.andThen, run_loadVar_row w g 24 24 #[x, y] (0, 0) _ hg Tryz.underlying24 rfl Tryz.sizeNumber, run_loadVar_code hg2.cell]
end Go.Proofs.YthkblgglmohciaaGreatDoor
