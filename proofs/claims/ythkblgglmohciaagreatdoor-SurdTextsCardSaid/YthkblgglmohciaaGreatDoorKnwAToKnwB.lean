import Derived.Test.YthkblgglmohciaaGreatDoorOrdBToSgn
import Derived.Test.YthkblgglmohciaaGreatDoorPrtC
import Derived.Test.YthkblgglmohciaaGreatDoorMakeA
import Derived.Test.YthkblgglmohciaaGreatDoorRootB
import Derived.Test.YthkblgglmohciaaGreatDoorQuoB
import Derived.Test.YthkblgglmohciaaGreatDoorFieAToBetA
import Derived.Test.YthkblgglmohciaaGreatDoorSqrAToSqrC
set_option linter.unusedVariables false
set_option linter.unusedSimpArgs false
namespace Go.Proofs.YthkblgglmohciaaGreatDoor
open Go.RowKit
theorem sort_two' : sortI [2, 1] = [1, 2] := by
 unfold sortI
 simp [List.mergeSort, List.MergeSort.Internal.splitInTwo, List.merge, leI]
theorem overT_12 {kv : List (Int × Int)} {den G : Int} (hk : (kv.filter nz).map (·.1) = [1, 2] ∨ (kv.filter nz).map (·.1) = [2, 1]) (hG : overG kv den = G) :
  overT kv den = [((getS (kv.filter nz) 1).tdiv G, 1), ((getS (kv.filter nz) 2).tdiv G, 2)] := by
 unfold overT termsG
 rcases hk with hk | hk
 ·rw [hk, hG, sort_two]; rfl
 ·rw [hk, hG, sort_two']; rfl
theorem known1_make : makeS 6 [(3, 1), (2, 8), (1, 1)] = (3, [(2, 1), (2, 2)], 0) := by
 have hG : overG (addAll [] [(3, 1), (2, 8), (1, 1)] 1) 6 = 2 := by decide +kernel
 unfold makeS
 rw [if_neg (by decide), if_neg (by decide +kernel)]
 unfold overS
 rw [overT_12 (by decide +kernel) hG, hG]
 decide +kernel
theorem known1_text1 : numT 3 [(2, 1), (2, 2)] = [40, 50, 43, 50, 114, 50, 41, 47, 51] := by decide +kernel
theorem known1_text2 : numT 1 [(1, 1), (1, 2)] = [49, 43, 114, 50] := by decide +kernel
theorem known1_text3 : numT 1 [(-1, 1), (1, 2)] = [45, 49, 43, 114, 50] := by decide +kernel
theorem known1_ok1 : numOK 3 [(2, 1), (2, 2)] = true := by decide +kernel
theorem known1_ok2 : numOK 1 [(1, 1), (1, 2)] = true := by decide +kernel
theorem known1_ok3 : numOK 1 [(-1, 1), (1, 2)] = true := by decide +kernel
theorem known1_parse1 : parseN [51, 43, 50, 114, 50] = (1, [(3, 1), (2, 2)], 0) := by decide +kernel
theorem known1_parse2 : parseN [40, 53, 55, 55, 45, 52, 48, 56, 114, 50, 41, 47, 52, 48, 56] = (408, [(577, 1), (-408, 2)], 0) := by decide +kernel
theorem known1_sign {s c : Int} (h : SignRes 408 [(577, 1), (-408, 2)] s c) : s = 1 ∧ c = 0 := by
 obtain ⟨hc, hs⟩ := sign_ok_ (by decide +kernel) h
 refine ⟨?_, hc⟩
 have h1 : SignOf [((577 : Int), (1 : Int)), (-408, 2)] 1 := .inr ⟨by decide, by decide, 2, by decide +kernel⟩
 exact hs.unique h1
theorem known1_quo : quoS 1 [(1, 1)] 1 [(1, 1), (1, 2)] = (1, [(-1, 1), (1, 2)], 0) := by
 have hG : overG (prodS [] [(1, 1)] (turnL 1 [(1, 1), (1, 2)])) (1 * normL [(1, 1), (1, 2)]) = -1 := by decide +kernel
 unfold quoS
 rw [if_pos (by decide +kernel), if_neg (by decide), if_neg (by decide)]
 unfold overS
 rw [overT_12 (by decide +kernel) hG, hG]
 decide +kernel
theorem known1_rootP : rootP 1 [(3, 1), (2, 2)] = (1, [(1, 1), (1, 2)], 0) := by
 have hi : isq (3 * 3 - 2 * 2 * 2 : Int).toNat = 1 := by decide +kernel
 unfold rootP
 dsimp only
 rw [if_pos rfl]
 unfold root2
 rw [hi]
 rw [if_pos (by decide)]
 have hG : overG (intoS (intoS [] (3 + (1 : Nat)) (2 * 1) 1) (3 - (1 : Nat)) (2 * 1) (if (2 : Int) < 0 then -1 else 1)) (2 * 1) = 2 := by decide +kernel
 unfold overS
 rw [overT_12 (by decide +kernel) hG, hG]
 decide +kernel
theorem known1_root {res : Int × List (Int × Int) × Int} (h : RootRes 1 [(3, 1), (2, 2)] res) : res = (1, [(1, 1), (1, 2)], 0) := by
 have h1 : SignOf [((3 : Int), (1 : Int)), (2, 2)] 1 := .inr ⟨by decide, by decide, 1, by decide +kernel⟩
 rcases h with ⟨h, _⟩ | ⟨_, s, hs, h⟩
 ·exact absurd h (by decide +kernel)
 ·obtain rfl := hs.unique h1
  rcases h with ⟨h, _⟩ | ⟨h, _⟩ | ⟨_, h⟩
  ·exact absurd h (by decide)
  ·exact absurd h (by decide)
  ·rw [h, known1_rootP]
theorem less_root (v : Int) : lessT [(1, 2)] 408 [(v, 1)] 1 = [(408, 2), (v * -1, 1)] := rfl
theorem lin_root (v : Int) (k : Nat) : linT [(408, 2), (v * -1, 1)] k = 408 * rtA 2 k - v * rtA 1 k := by
 rw [linT_cons, linT_cons]
 simp only [linT, List.map_nil, List.sum_nil, Int.mul_neg, Int.mul_one, Int.neg_mul]
 omega
theorem sg_one {a : Int} (h : 0 ≤ a) : ∃ s, 0 ≤ s ∧ Sg (fun k => a * rtA 1 k) s := by
 obtain ⟨s, hs⟩ := sign_ex (ts := [(a, 1)]) (by intro t ht; rw [List.mem_singleton] at ht; subst ht; exact rootOK_one.free) (by simp)
 refine ⟨s, ?_, ?_⟩
 ·rcases sign_one hs with ⟨_, h2⟩ | ⟨_, h2⟩ | ⟨h1, _⟩ <;> omega
 ·have h2 := hs.sg
  rwa [show linT [(a, 1)] = fun k => a * rtA 1 k by funext k; simp [linT]] at h2
theorem known1_bounds {low high c : Int} (h : BoundsRes 1 [(1, 2)] 408 low high c) : low = 576 ∧ high = 577 ∧ c = 0 := by
 have p1 : Sg (fun k => 408 * rtA 2 k - 576 * rtA 1 k) 1 := by
  have h1 : SignOf [((408 : Int), (2 : Int)), (576 * -1, 1)] 1 := .inr ⟨by decide, by decide, 1, by decide +kernel⟩
  have h2 := h1.sg
  rwa [show linT [((408 : Int), (2 : Int)), (576 * -1, 1)] = fun k => 408 * rtA 2 k - 576 * rtA 1 k from funext fun k => lin_root 576 k] at h2
 have p2 : Sg (fun k => 408 * rtA 2 k - 577 * rtA 1 k) (-1) := by
  have h1 : SignOf [((408 : Int), (2 : Int)), (577 * -1, 1)] (-1) := .inr ⟨by decide, by decide, 2, by decide +kernel⟩
  have h2 := h1.sg
  rwa [show linT [((408 : Int), (2 : Int)), (577 * -1, 1)] = fun k => 408 * rtA 2 k - 577 * rtA 1 k from funext fun k => lin_root 577 k] at h2
 have up : ∀ v s : Int, 577 ≤ v → SignOf (lessT [(1, 2)] 408 [(v, 1)] 1) s → s < 0 := by
  intro v s hv hs
  rw [less_root] at hs
  have h2 := hs.sg.neg
  obtain ⟨t, ht, h3⟩ := sg_one (a := v - 577) (by omega)
  have h4 := p2.neg.add h3 (by decide) ht
  have h5 := h2.unique (s' := max (- -1) t) (by
   refine (show (fun k => -linT [(408, 2), (v * -1, 1)] k) = fun k => -(408 * rtA 2 k - 577 * rtA 1 k) + (v - 577) * rtA 1 k from ?_) ▸ h4
   funext k
   rw [lin_root, Int.sub_mul]
   omega)
  omega
 have dn : ∀ v s : Int, v ≤ 576 → SignOf (lessT [(1, 2)] 408 [(v, 1)] 1) s → 0 < s := by
  intro v s hv hs
  rw [less_root] at hs
  have h2 := hs.sg
  obtain ⟨t, ht, h3⟩ := sg_one (a := 576 - v) (by omega)
  have h4 := p1.add h3 (by decide) ht
  have h5 := h2.unique (s' := max 1 t) (by
   refine (show linT [(408, 2), (v * -1, 1)] = fun k => (408 * rtA 2 k - 576 * rtA 1 k) + (576 - v) * rtA 1 k from ?_) ▸ h4
   funext k
   rw [lin_root, Int.sub_mul]
   omega)
  omega
 rcases h with ⟨h, _⟩ | ⟨_, h, _⟩ | ⟨_, _, hc, ⟨⟨s, hs, h1⟩, ⟨s2, hs2, h2⟩, _⟩, h3⟩
 ·exact absurd h (by decide +kernel)
 ·exact absurd h (by decide +kernel)
 ·have hl : low = 576 := by
   rcases Int.lt_or_le low 577 with h5 | h5
   ·rcases Int.lt_or_le low 576 with h6 | h6
    ·have := dn (low + 1) s2 (by omega) h2; omega
    ·omega
   ·have := up low s h5 h1; omega
  subst hl
  rcases h3 with ⟨_, h3⟩ | ⟨h3, _⟩
  ·exact ⟨rfl, by omega, hc⟩
  ·have := dn 576 0 (by omega) h3; omega
end Go.Proofs.YthkblgglmohciaaGreatDoor
namespace Go.Proofs.YthkblgglmohciaaGreatDoor
open Go.RowKit
theorem lit_terms {cs : Array Value} {n : Nat} {ts : List (Int × Int)} (W : World) (hn : n ≤ 16) (h1 : cs.size = n * 2) (h : cs.toList = cellsT ts) : Terms (W.alloc (.cells cs 52)) (W.heap.size + 1) (some ⟨W.heap.size, 0, none⟩) n n ts := by
 have h2 := Rd.of_own (World.ownsRow_lit (base := 0) (e := 52) (size := 2) W cs n (Nat.zero_le _) (by unfold maxLen; omega) (by rw [h1]))
 rw [World.size_alloc, h] at h2
 exact h2
set_option maxHeartbeats 8000000 in
set_option maxRecDepth 100000 in
theorem known1_any (w : World) (hE : ErrVars w) (hM : MaxV w) (htab : Lib.TabIs Tryz.prog w "internal/strconv.uint64pow10" .u64 Lib.pow10Tab) :
  Calls Tryz.prog 9 #[] w fun e w' => e = .returned (.bool true) ∧ Below w.heap.size w w' := by
 obtain ⟨gp, hgp⟩ := Option.isSome_iff_exists.1 Tryz.pow10g
 have HTAB := hide (fun W (hb : Below w.heap.size w W) => TabIs_below_ hgp htab hb)
 have HP1 := hide (fun W (hb : Below w.heap.size w W) => surdParse_any [51, 43, 50, 114, 50] W (by unfold AsciiT; decide) (hE.below hb (Nat.le_refl _)) (hM.below hb (Nat.le_refl _)) (HTAB.out W hb))
 have HP2 := hide (fun W (hb : Below w.heap.size w W) => surdParse_any [40, 53, 55, 55, 45, 52, 48, 56, 114, 50, 41, 47, 52, 48, 56] W (by unfold AsciiT; decide) (hE.below hb (Nat.le_refl _)) (hM.below hb (Nat.le_refl _)) (HTAB.out W hb))
 rw [known1_parse1] at HP1
 rw [known1_parse2] at HP2
 have HMK := hide (make_any 6 (some ⟨w.heap.size, 0, none⟩) 3 3 (w.heap.size + 1) [(3, 1), (2, 8), (1, 1)] (w.alloc (.cells #[.int .i64 3, .int .i64 1, .int .i64 2, .int .i64 8, .int .i64 1, .int .i64 1] 52)) (lit_terms w (by decide) rfl rfl) (by simp))
 rw [known1_make] at HMK
 have HBL := hide (fun W (hb : Below w.heap.size w W) o => hb.alloc hb.size o)
 clear hE hM htab hgp
 go_enter Tryz.func9, Tryz.ntmps9
 go_wp2_with (first
  | (go_at_call 29; refine HMK.out.mono ?_; rintro e w1 ⟨A1, n1, c1, rfl, ho1, hb1⟩
     dsimp only at ho1
     have hbz : Below w.heap.size w w1 := ((Below.refl _ _).alloc (Nat.le_refl _) _).trans (hb1.mono (by simp))
     have HB1 := hide (HBL.out _ hbz (.cells #[.int .i64 3, .slice A1 n1 c1] 24))
     have HX1 := hide (Blk.new w1 24 #[.int .i64 3, .slice A1 n1 c1])
     obtain ⟨x0, x1, xf0, xf1⟩ := HX1.out.two
     have HF1 := hide (format_flat 3 A1 n1 c1 [(2, 1), (2, 2)] w1.heap.size (w1.alloc (.cells #[.int .i64 3, .slice A1 n1 c1] 24)) (Rd.alloc (Rd.of_own ho1) (Nat.le_refl _) _) (by simp) (HTAB.out _ HB1.out))
     rw [known1_ok1, if_pos rfl, known1_text1] at HF1
     rw [show argE true = 0 from rfl] at HF1
     clear ho1 hb1 hbz HMK)
  | (go_at_call 18; refine HF1.out.mono ?_; rintro e w2 ⟨rfl, hb2⟩
     have HB2 := hide (HB1.out.trans (hb2.mono HB1.out.size))
     clear hb2 HF1 HX1 x0 x1 xf0 xf1 HB1)
  | (go_at_call 19; refine (HP1.out _ HB2.out).mono ?_; rintro e w3 ⟨A3, n3, c3, rfl, ho3, hb3⟩
     dsimp only at ho3
     have hbz := HB2.out.trans (hb3.mono HB2.out.size)
     have HB3 := hide (HBL.out _ hbz (.cells #[.int .i64 1, .slice A3 n3 c3] 24))
     have HX3 := hide (Blk.new w3 24 #[.int .i64 1, .slice A3 n3 c3])
     obtain ⟨x0, x1, xf0, xf1⟩ := HX3.out.two
     have HRT := hide (root_flat 1 A3 n3 c3 [(3, 1), (2, 2)] w3.heap.size (w3.alloc (.cells #[.int .i64 1, .slice A3 n3 c3] 24)) (Rd.alloc (Rd.of_own ho3) (Nat.le_refl _) _) (by simp))
     clear ho3 hb3 hbz HP1 HB2)
  | (go_at_call 10; refine HRT.out.mono ?_; rintro e w4 ⟨res, hres, hpost⟩
     obtain rfl := known1_root hres
     obtain ⟨A4, n4, c4, rfl, ho4, hb4⟩ := hpost
     dsimp only at ho4
     have hbz := HB3.out.trans (hb4.mono HB3.out.size)
     have HB4 := hide (HBL.out _ hbz (.cells #[.int .i64 1, .slice A4 n4 c4] 24))
     have HX4 := hide (Blk.new w4 24 #[.int .i64 1, .slice A4 n4 c4])
     have HT4 : Hid (Terms (w4.alloc (.cells #[.int .i64 1, .slice A4 n4 c4] 24)) w4.heap.size A4 n4 c4 [(1, 1), (1, 2)]) := hide (Rd.alloc (Rd.of_own ho4) (Nat.le_refl _) _)
     have HF2 := hide (format_flat 1 A4 n4 c4 [(1, 1), (1, 2)] w4.heap.size (w4.alloc (.cells #[.int .i64 1, .slice A4 n4 c4] 24)) HT4.out (by simp) (HTAB.out _ HB4.out))
     rw [known1_ok2, if_pos rfl, known1_text2] at HF2
     rw [show argE true = 0 from rfl] at HF2
     clear hres ho4 hb4 hbz HRT HB3 HX3 x0 x1 xf0 xf1
     obtain ⟨x0, x1, xf0, xf1⟩ := HX4.out.two)
  | (go_at_call 18; refine HF2.out.mono ?_; rintro e w5 ⟨rfl, hb5⟩
     have HB5 := hide (HB4.out.trans (hb5.mono HB4.out.size))
     have HX5 := hide (HX4.out.below hb5 HX4.out.lt)
     have HT5 := hide (Rd.below HT4.out (hb5.mono (by simp)))
     have hz5 : w4.heap.size < w5.heap.size := HX5.out.lt
     clear hb5 HF2 HX4 x0 x1 xf0 xf1 HB4 HT4)
  | (go_at_call 19; refine (HP2.out _ HB5.out).mono ?_; rintro e w6 ⟨A6, n6, c6, rfl, ho6, hb6⟩
     dsimp only at ho6
     have hbz := HB5.out.trans (hb6.mono HB5.out.size)
     have HB6 := hide (HBL.out _ hbz (.cells #[.int .i64 408, .slice A6 n6 c6] 24))
     have hb7 := hb6.alloc hb6.size (.cells #[.int .i64 408, .slice A6 n6 c6] 24)
     have HX6 := hide (HX5.out.below hb7 HX5.out.lt)
     have HT6 := hide (Rd.below HT5.out (hb7.mono (by omega)))
     have HY6 := hide (Blk.new w6 24 #[.int .i64 408, .slice A6 n6 c6])
     have hz6 : w4.heap.size < w6.heap.size := Nat.lt_of_lt_of_le hz5 hb6.size
     obtain ⟨x0, x1, xf0, xf1⟩ := HY6.out.two
     have HSG := hide (sign_flat 408 A6 n6 c6 [(577, 1), (-408, 2)] w6.heap.size (w6.alloc (.cells #[.int .i64 408, .slice A6 n6 c6] 24)) (Rd.alloc (Rd.of_own ho6) (Nat.le_refl _) _) (by simp))
     clear ho6 hb6 hb7 hbz HP2 HB5 HX5 HT5 hz5)
  | (go_at_call 24; refine HSG.out.mono ?_; rintro e w7 ⟨sg, cg, rfl, hsg, hb7⟩
     obtain ⟨rfl, rfl⟩ := known1_sign hsg
     have HB7 := hide (HB6.out.trans (hb7.mono HB6.out.size))
     have HX7 := hide (HX6.out.below hb7 HX6.out.lt)
     have HT7 := hide (Rd.below HT6.out (hb7.mono (by simp; omega)))
     have hz7 : w4.heap.size < w7.heap.size := HX7.out.lt
     clear x0 x1 xf0 xf1 HSG hsg hb7 HX6 HT6 HB6 HY6 hz6
     obtain ⟨x0, x1, xf0, xf1⟩ := HX7.out.two
     have hba := HB7.out.alloc HB7.out.size (.cells #[.int .i64 1, .int .i64 1] 52)
     have HBA := hide hba
     have HQU := hide (quo_flat 1 (some ⟨w7.heap.size, 0, none⟩) 1 1 [(1, 1)] 1 A4 n4 c4 [(1, 1), (1, 2)] (w7.heap.size + 1) (w7.alloc (.cells #[.int .i64 1, .int .i64 1] 52)) (lit_terms w7 (by decide) rfl rfl) (Rd.more (Rd.alloc HT7.out (by omega) _) (by omega)) (by simp))
     rw [known1_quo] at HQU
     clear hba HT7)
  | (go_at_call 30; refine HQU.out.mono ?_; rintro e w8 ⟨A8, n8, c8, rfl, ho8, hb8⟩
     dsimp only at ho8
     have hbz := HBA.out.trans (hb8.mono HBA.out.size)
     have HB8 := hide (HBL.out _ hbz (.cells #[.int .i64 1, .slice A8 n8 c8] 24))
     have HX8 := hide (Blk.new w8 24 #[.int .i64 1, .slice A8 n8 c8])
     have HF3 := hide (format_flat 1 A8 n8 c8 [(-1, 1), (1, 2)] w8.heap.size (w8.alloc (.cells #[.int .i64 1, .slice A8 n8 c8] 24)) (Rd.alloc (Rd.of_own ho8) (Nat.le_refl _) _) (by simp) (HTAB.out _ HB8.out))
     rw [known1_ok3, if_pos rfl, known1_text3] at HF3
     rw [show argE true = 0 from rfl] at HF3
     clear x0 x1 xf0 xf1 ho8 hb8 hbz HQU HB7 HX7 hz7 HBA
     obtain ⟨x0, x1, xf0, xf1⟩ := HX8.out.two)
  | (go_at_call 18; refine HF3.out.mono ?_; rintro e w9 ⟨rfl, hb9⟩
     have HB9 := hide (HB8.out.trans (hb9.mono HB8.out.size))
     have hba := HB9.out.alloc HB9.out.size (.cells #[.int .i64 1, .int .i64 2] 52)
     have HBA := hide hba
     have HBD := hide (bounds_flat 1 (some ⟨w9.heap.size, 0, none⟩) 1 1 [(1, 2)] 408 (w9.heap.size + 1) (w9.alloc (.cells #[.int .i64 1, .int .i64 2] 52)) (lit_terms w9 (by decide) rfl rfl) (by simp))
     clear hb9 hba HF3 HX8 x0 x1 xf0 xf1 HB8)
  | (go_at_call 14; refine HBD.out.mono ?_; rintro e w10 ⟨low, high, cb, rfl, hres, hb10⟩
     obtain ⟨rfl, rfl, rfl⟩ := known1_bounds hres
     have HBE := hide (HBA.out.trans (hb10.mono HBA.out.size))
     clear hres hb10 HBD HBA))
 go_ret
 exact ⟨rfl, HBE.out⟩
end Go.Proofs.YthkblgglmohciaaGreatDoor
