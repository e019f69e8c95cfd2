import Derived.Test.YthkblgglmohciaaGreatDoorCom
import Derived.Test.YthkblgglmohciaaGreatDoorFloAToFmtA
set_option linter.unusedVariables false
set_option linter.unusedSimpArgs false
namespace Go.Proofs.YthkblgglmohciaaGreatDoor
open Go.RowKit
theorem own_blk_neB {w : World} {base b size n : Nat} {e t : TypeId} {v : Value} {cs : Array Value} {xs : List Value} (h : w.ownsRow base e size v n xs) (hb : Blk w b t cs) (hne : e ≠ t) : v.ownBlock ≠ some b := by
 rcases h.2 with ⟨rfl, _⟩ | ⟨g, cap, cur, rfl, _, hh, _⟩
 ·simp [Value.ownBlock]
 ·intro he
  have hg : g = b := by simpa [Value.ownBlock] using he
  subst hg
  unfold Blk at hb
  rw [hh] at hb
  injection hb with hb
  injection hb with _ ht
  exact hne ht
set_option maxHeartbeats 1000000 in
set_option maxRecDepth 100000 in
theorem copyCheck2_any (B b : Nat) (bs : List Value) (w : World) (h : Lib.IsBuilder 118 5 B b bs w) :
  Calls Tryz.prog 117 #[.pointer (some ⟨b, 0, none⟩)] w fun e w' => e = .returned (.tuple #[]) ∧ Lib.BuilderAt 118 5 B b (.pointer (some ⟨b, 0, none⟩)) bs w' ∧ (w' = w ∨ ∃ v, w' = w.setCell ⟨b, 0, none⟩ v) := by
 obtain ⟨j, hj, hjs⟩ := Option.map_eq_some_iff.1 Tryz.sizeB
 rcases h with h | h
 ·have c0 := h.cell0
  have hsh := hide h.shape
  have f0 := h.frozen0
  have H := hide h
  clear h
  go_enter Tryz.func117, Tryz.ntmps117
  go_wp2
  rw [Lib.run_to_unsafe w ⟨b, 0, none⟩ Tryz.underlying115 Tryz.underlying167 hj (by rw [hjs]; decide) hsh.out (Nat.zero_lt_succ 1)]
  simp only [Result.andThen]
  rw [Oper.upon_value]
  go_wp2
  rw [run_callFunc_extern Tryz.func140 (by kernel_rfl) (by kernel_rfl) (by kernel_rfl) (e := Extern.AbiNoEscape.same) (by kernel_rfl), Lib.run_noEscape]
  simp only [Result.andThen]
  rw [Oper.upon_value]
  go_wp2
  rw [Lib.run_from_unsafe w ⟨b, 0, none⟩ Tryz.underlying167 Tryz.underlying115 hj hsh.out Tryz.liesB]
  simp only [Result.andThen]
  rw [Oper.upon_value]
  go_wp2
  go_end0
  exact ⟨rfl, H.out.used _, .inr ⟨_, rfl⟩⟩
 ·have c0 := h.cell0
  have H := hide h
  clear h
  go_enter Tryz.func117, Tryz.ntmps117
  go_wp2
  rw [Lib.run_neq_ptr_same w _ Tryz.underlying115 hj]
  go_wp2
  go_end0
  exact ⟨rfl, H.out, .inl rfl⟩
set_option maxHeartbeats 2000000 in
set_option maxRecDepth 100000 in
theorem writeByte_any (B b : Nat) (bs : List Value) (c : Int) (w : World) (h : Lib.IsBuilder 118 5 B b bs w) (hlen : bs.length ≤ 100000000000000) (hBw : B ≤ w.heap.size) :
  Calls Tryz.prog 81 #[.pointer (some ⟨b, 0, none⟩), .int .u8 c] w fun e w' => e = .returned .nilIface ∧ Lib.IsBuilder 118 5 B b (bs ++ [.int .u8 c]) w' ∧ Below B w w' ∧ ∀ X t cs, Blk w X t cs → 5 ≠ t → X ≠ b → Blk w' X t cs := by
 obtain ⟨i0, hi, hz0, hz1, hz2⟩ := info_parts Tryz.infoU8
 have HC := hide (copyCheck2_any B b bs w h)
 clear h
 go_enter Tryz.func81, Tryz.ntmps81
 go_wp2_with fail
 refine HC.out.mono ?_
 rintro e w1 ⟨rfl, h1, hcw⟩
 obtain ⟨hB, v, hbk, hown, hne⟩ := h1
 have hb1 : Below B w w1 := by
  rcases hcw with rfl | ⟨v, rfl⟩
  ·exact Below.refl _ _
  ·exact (Below.refl _ _).setCell (p := ⟨b, 0, none⟩) hB v
 have HFAR : Hid (∀ X t cs, Blk w X t cs → X ≠ b → Blk w1 X t cs) := hide (fun X t cs h hx => by
  rcases hcw with rfl | ⟨v, rfl⟩
  ·exact h
  ·exact h.far (p := ⟨b, 0, none⟩) hx v)
 clear hcw
 have HBK : Hid (Blk w1 b 118 #[.pointer (some ⟨b, 0, none⟩), v]) := hide hbk
 have HOW := hide hown
 have HNE := hide hne
 have HB1 := hide hb1
 have hz1' := hb1.size
 have hbl := HBK.out.lt
 obtain ⟨ao, ca, rfl⟩ := own_shape hown
 obtain ⟨q1, q2, q3, q4⟩ := HBK.out.two
 have HNA := hide (World.ownsRow.alloc HOW.out (.cells #[.int .u8 c] 5))
 have hnews : ∀ j u, [Value.int .u8 c][j]? = some u → (w1.alloc (.cells #[.int .u8 c] 5)).cell? ((⟨w1.heap.size, 0, none⟩ : Addr).add j) = some u := cell_new1 w1 (.int .u8 c) 5
 have HNW := hide hnews
 have HBKA := hide (HBK.out.alloc (.cells #[.int .u8 c] 5))
 have HB1A := hide (HB1.out.alloc (by omega) (.cells #[.int .u8 c] 5))
 have hzA : (w1.alloc (.cells #[.int .u8 c] 5)).heap.size = w1.heap.size + 1 := by simp
 clear hbk hown hne hb1 HC hnews
 go_wp2_with (first
  | (at_builtin; go_loud (refine wpList_append_own _ rfl _ _ 116 rfl B 5 i0 (.int .u8 0) 1 1 Tryz.underlying116 hi hz0 hz1 hz2 rfl (by decide) _ _ _ rfl HNA.out ⟨w1.heap.size, 0, none⟩ 1 1 [.int .u8 c] rfl (by simp) HNW.out (by intro u hu; simp at hu; subst hu; rfl) (by unfold maxLen; omega) (by omega) (by omega) ?_); intro v' w2 ho2 hg2 _
     obtain ⟨A2, c2, rfl⟩ := own_shape ho2
     have HO2 := hide ho2
     have HG2 := hide hg2
     have HBK2 := hide (HBKA.out.grown hg2 (fun e => HNE.out e))
     obtain ⟨u1, u2, u3, u4⟩ := HBK2.out.two
     clear ho2 hg2))
 go_ret
 refine ⟨rfl, .inr (Lib.BuilderAt.put hB HBK2.out (bs' := bs ++ [.int .u8 c]) (by simpa using HO2.out) (by decide)), ?_, fun X t cs hX ht hx => ?_⟩
 rotate_left 1
 focus
  have h1 := HFAR.out X t cs hX hx
  exact ((h1.alloc _).grown HG2.out (fun e => own_blk_neB HNA.out (h1.alloc (.cells #[.int .u8 c] 5)) ht e)).far (p := ⟨b, 1, none⟩) hx _
 exact (HB1A.out.grown HG2.out (by omega) (fun k hk => (HOW.out.lt k hk).1)).setCell (p := ⟨b, 1, none⟩) hB _
end Go.Proofs.YthkblgglmohciaaGreatDoor
namespace Go.Proofs.YthkblgglmohciaaGreatDoor
open Go.RowKit
theorem termT_len {t : Int × Int} (h1 : -9000000000000000000 ≤ t.1 ∧ t.1 ≤ 9000000000000000000) (h2 : -9000000000000000000 ≤ t.2 ∧ t.2 ≤ 9000000000000000000) : (termT t).length ≤ 41 := by
 have a1 := itoa_len_any h1; have a2 := itoa_len_any h2
 unfold termT coefT
 split
 ·omega
 ·split
  ·simp; omega
  ·split
   ·simp; omega
   ·simp; omega
theorem sumT_len : ∀ (ts : List (Int × Int)) (b : Bool), (∀ t ∈ ts, (-9000000000000000000 ≤ t.1 ∧ t.1 ≤ 9000000000000000000) ∧ -9000000000000000000 ≤ t.2 ∧ t.2 ≤ 9000000000000000000) → (sumT b ts).length ≤ 42 * ts.length
 | [], _, _ => by simp [sumT]
 | t :: ts, b, h => by
  have h1 := sumT_len ts false (fun u hu => h u (List.mem_cons_of_mem _ hu))
  have h2 := termT_len (h t (by simp)).1 (h t (by simp)).2
  unfold sumT
  simp only [List.length_append, List.length_cons]
  split <;> simp <;> omega
theorem sumT_take {xt : List (Int × Int)} {k : Nat} (h : k < xt.length) : sumT true (xt.take (k + 1)) = sumT true (xt.take k) ++ ((if 0 < k ∧ 0 < xt[k].1 then [43] else []) ++ termT xt[k]) := by
 rw [take_snoc xt k h, sumT_snoc]
 have e : (xt.take k).isEmpty = decide (k = 0) := by
  cases k with
  | zero => simp
  | succ k =>
   cases xt with
   | nil => simp at h
   | cons t ts => simp
 rw [e]
 by_cases h0 : k = 0
 ·subst h0; simp
 ·have h1 : 0 < k := by omega
  simp [h0, h1]
set_option maxHeartbeats 4000000 in
set_option maxRecDepth 100000 in
theorem format_any1 (xd : Int) (A : Option Addr) (n c : Nat) (xt : List (Int × Int)) (B : Nat) (w : World) (hx : Terms w B A n c xt) (hB : B ≤ w.heap.size) (hok : numOK xd xt = true) (htab : Lib.TabIs Tryz.prog w "internal/strconv.uint64pow10" .u64 Lib.pow10Tab) :
  Calls Tryz.prog 47 #[.agg #[.int .i64 xd, .slice A n c]] w fun e w' => e = .returned (.string ⟨(numT xd xt).toArray⟩) ∧ Below w.heap.size w w' := by
 obtain rfl := hx.len
 obtain ⟨p1, p2, p3, p4⟩ := numOK_parts hok
 obtain ⟨gv, hgv⟩ := Option.isSome_iff_exists.1 Tryz.pow10g
 have hbt : ∀ t ∈ xt, (-9000000000000000000 ≤ t.1 ∧ t.1 ≤ 9000000000000000000) ∧ -9000000000000000000 ≤ t.2 ∧ t.2 ≤ 9000000000000000000 := fun t ht => by
  obtain ⟨a1, a2, a3, a4⟩ := (p4 t ht).1
  exact ⟨⟨by omega, by omega⟩, by omega, by omega⟩
 have HBT := hide hbt
 have hix := itoa_len_any (n := xd) (by omega)
 have HT := hide (fun W (hb : Below w.heap.size w W) => TabIs_below_ hgv htab hb)
 obtain ⟨w0, hw0⟩ : ∃ w0, w0 = (w.alloc (.cells #[.int .i64 xd, .slice A xt.length c] 24)).alloc (.cells #[.pointer none, .slice none 0 0] 118) := ⟨_, rfl⟩
 have hz0 : w0.heap.size = w.heap.size + 2 := by rw [hw0]; simp
 have h01 : Below w.heap.size w w0 := by rw [hw0]; exact ((Below.refl _ _).alloc (Nat.le_refl _) _).alloc (by simp) _
 have HX0 : Hid (Blk w0 w.heap.size 24 #[.int .i64 xd, .slice A xt.length c]) := hide (by rw [hw0]; exact (Blk.new w _ _).alloc _)
 have HU0 : Hid (Lib.IsBuilder 118 5 (w.heap.size + 1) (w.heap.size + 1) [] w0) := hide (by
  rw [hw0]
  have h := isBuilder_new (w.alloc (.cells #[.int .i64 xd, .slice A xt.length c] 24))
  rwa [World.size_alloc] at h)
 have HP0 := hide (Rd.below hx (h01.mono hB))
 have HB0 := hide h01
 have HDX := hide (show -9000000000000000000 ≤ xd ∧ xd ≤ 9000000000000000000 by omega)
 have hl4 : xt.length ≤ 4 := p3
 clear hx hok htab hgv h01 hbt p1 p2 p3 p4
 go_enter Tryz.func47, Tryz.ntmps47
 go_upto_region 2 with fail
 rw [← hw0]
 clear hw0
 obtain ⟨x0, x1, _, _⟩ := HX0.out.two
 go_wp2
 go_loopw [10] (fun i W => ∃ k : Nat, k ≤ xt.length ∧ i = .int .i64 k ∧ Lib.IsBuilder 118 5 (w.heap.size + 1) (w.heap.size + 1) (Lib.byteCells (sumT true (xt.take k))) W ∧
  Rd W B 2 A xt.length c (cellsT xt) ∧ Blk W w.heap.size 24 #[.int .i64 xd, .slice A xt.length c] ∧ Below w.heap.size w W ∧ w.heap.size + 2 ≤ W.heap.size) (fun i _ => xt.length - (intOf i).toNat)
 case atStart => exact ⟨0, by omega, rfl, by simpa [sumT, Lib.byteCells] using HU0.out, HP0.out, HX0.out, HB0.out, by omega⟩
 case round =>
  obtain ⟨k, hk, rfl, hu, hpp, hxb, hb, hzw⟩ := hrel
  have HU := hide hu; have HP := hide hpp; have HB := hide hb; have HX := hide hxb
  clear hu hpp hb hxb HU0 HP0 HB0 HX0 x0 x1
  have hsl := sumT_len (xt.take k) true (fun t ht => HBT.out t (List.mem_of_mem_take ht))
  have htl : (xt.take k).length = k := by simp; omega
  rw [htl] at hsl
  by_cases hlt : k < xt.length
  ·obtain ⟨ad, had, hc0, hc1⟩ := Terms.at_ (HP.out : Terms wr B A xt.length c xt) hlt
   subst had
   have hst := sumT_take hlt
   have hbk := HBT.out xt[k] (List.getElem_mem hlt)
   have htt := termT_len hbk.1 hbk.2
   generalize xt[k] = t at *
   obtain ⟨co, ro⟩ := t
   dsimp only at hc0 hc1 hst hbk htt
   generalize sumT true (xt.take k) = tx at *
   obtain ⟨wa, hwa⟩ : ∃ wa, wa = wr.alloc (.cells #[.int .i64 co, .int .i64 ro] 52) := ⟨_, rfl⟩
   have hza : wa.heap.size = wr.heap.size + 1 := by rw [hwa]; simp
   have hab : Below wr.heap.size wr wa := by rw [hwa]; exact (Below.refl _ _).alloc (Nat.le_refl _) _
   have HQ : Hid (Blk wa wr.heap.size 52 #[.int .i64 co, .int .i64 ro]) := hide (by rw [hwa]; exact Blk.new _ _ _)
   have HUa := hide (isBuilder_below HU.out hab)
   have HPa := hide (Rd.below HP.out (hab.mono (by omega)))
   have HBa := hide (HB.out.trans (hab.mono (by omega)))
   have HXa := hide (HX.out.below hab (by omega))
   have HZa := hide (show w.heap.size + 2 ≤ wa.heap.size by omega)
   have HST := hide hst
   clear hst hab HU HP HB HX
   have h1a : w.heap.size + 1 ≤ wa.heap.size := by omega
   by_cases hkc : 0 < k ∧ 0 < co
   ·obtain ⟨hk0, hco⟩ := hkc
    have hki : (0 : Int) < (k : Int) := by omega
    have HW1 := hide (writeByte_any _ _ _ 43 wa HUa.out (by rw [byteCells_len]; omega) (by omega))
    go_upto_region 5 with fail
    rw [← hwa]
    clear hwa
    obtain ⟨q0, q1, _, _⟩ := HQ.out.two
    go_upto_region 7 with (first
     | (go_at_call 81; refine HW1.out.mono ?_; rintro e w1 ⟨rfl, hu1, hb1, hfar⟩
        have hz1 := hb1.size
        rw [show Lib.byteCells tx ++ [Value.int .u8 43] = Lib.byteCells (tx ++ [43]) by simp [Lib.byteCells]] at hu1
        have HU1 := hide hu1
        have HP1 := hide (Rd.below HPa.out (hb1.mono (by omega)))
        have HB1 := hide (HBa.out.trans (hb1.mono (by omega)))
        have HX1 := hide (HXa.out.below hb1 (by omega))
        have HQ1 := hide (hfar _ _ _ HQ.out (by decide) (by omega))
        clear hu1 hb1 hfar))
    clear q0 q1
    obtain ⟨q0, q1, _, _⟩ := HQ1.out.two
    have HWR := hide (written_any co ro w1 hbk.1 hbk.2 (HT.out w1 HB1.out))
    go_wp2_with (first
     | (go_at_call 83; refine HWR.out.mono ?_; rintro e w2 ⟨rfl, hb⟩
        have hz2 := hb.size
        have HU2 := hide (isBuilder_below HU1.out hb)
        have HP2 := hide (Rd.below HP1.out (hb.mono (by omega)))
        have HB2 := hide (HB1.out.trans (hb.mono (by omega)))
        have HX2 := hide (HX1.out.below hb (by omega))
        have HW3 := hide (writeString_any _ _ _ ⟨(termT (co, ro)).toArray⟩ w2 HU2.out (by rw [byteCells_len]; simp [ByteArray.size]; omega) (by omega))
        rw [strCells_list, ← byteCells_append] at HW3
        clear hb)
     | (go_at_call 82; refine HW3.out.mono ?_; rintro e w3 ⟨rfl, hu, hb⟩
        have hz3 := hb.size
        have HU3 := hide hu
        have HP3 := hide (Rd.below HP2.out (hb.mono (by omega)))
        have HB3 := hide (HB2.out.trans (hb.mono (by omega)))
        have HX3 := hide (HX2.out.below hb (by omega))
        clear hu hb))
    refine ⟨⟨k + 1, by omega, by go_num, ?_, HP3.out, HX3.out, HB3.out, by omega⟩, by simp [intOf]; omega⟩
    rw [HST.out, if_pos ⟨hk0, hco⟩]
    simpa using HU3.out
   ·go_upto_region 5 with fail
    rw [← hwa]
    clear hwa
    obtain ⟨q0, q1, _, _⟩ := HQ.out.two
    by_cases hk0 : 0 < k
    ·have hki : (0 : Int) < (k : Int) := by omega
     have hco : ¬ 0 < co := fun h => hkc ⟨hk0, h⟩
     go_upto_region 7 with fail
     have HWR := hide (written_any co ro wa hbk.1 hbk.2 (HT.out wa HBa.out))
     go_wp2_with (first
      | (go_at_call 83; refine HWR.out.mono ?_; rintro e w2 ⟨rfl, hb⟩
         have hz2 := hb.size
         have HU2 := hide (isBuilder_below HUa.out hb)
         have HP2 := hide (Rd.below HPa.out (hb.mono (by omega)))
         have HB2 := hide (HBa.out.trans (hb.mono (by omega)))
         have HX2 := hide (HXa.out.below hb (by omega))
         have HW3 := hide (writeString_any _ _ _ ⟨(termT (co, ro)).toArray⟩ w2 HU2.out (by rw [byteCells_len]; simp [ByteArray.size]; omega) (by omega))
         rw [strCells_list, ← byteCells_append] at HW3
         clear hb)
      | (go_at_call 82; refine HW3.out.mono ?_; rintro e w3 ⟨rfl, hu, hb⟩
         have hz3 := hb.size
         have HU3 := hide hu
         have HP3 := hide (Rd.below HP2.out (hb.mono (by omega)))
         have HB3 := hide (HB2.out.trans (hb.mono (by omega)))
         have HX3 := hide (HX2.out.below hb (by omega))
         clear hu hb))
     refine ⟨⟨k + 1, by omega, by go_num, ?_, HP3.out, HX3.out, HB3.out, by omega⟩, by simp [intOf]; omega⟩
     rw [HST.out, if_neg hkc]
     simpa using HU3.out
    ·obtain rfl : k = 0 := by omega
     go_upto_region 7 with fail
     have HWR := hide (written_any co ro wa hbk.1 hbk.2 (HT.out wa HBa.out))
     go_wp2_with (first
      | (go_at_call 83; refine HWR.out.mono ?_; rintro e w2 ⟨rfl, hb⟩
         have hz2 := hb.size
         have HU2 := hide (isBuilder_below HUa.out hb)
         have HP2 := hide (Rd.below HPa.out (hb.mono (by omega)))
         have HB2 := hide (HBa.out.trans (hb.mono (by omega)))
         have HX2 := hide (HXa.out.below hb (by omega))
         have HW3 := hide (writeString_any _ _ _ ⟨(termT (co, ro)).toArray⟩ w2 HU2.out (by rw [byteCells_len]; simp [ByteArray.size]; omega) (by omega))
         rw [strCells_list, ← byteCells_append] at HW3
         clear hb)
      | (go_at_call 82; refine HW3.out.mono ?_; rintro e w3 ⟨rfl, hu, hb⟩
         have hz3 := hb.size
         have HU3 := hide hu
         have HP3 := hide (Rd.below HP2.out (hb.mono (by omega)))
         have HB3 := hide (HB2.out.trans (hb.mono (by omega)))
         have HX3 := hide (HX2.out.below hb (by omega))
         clear hu hb))
     refine ⟨⟨0 + 1, by omega, by go_num, ?_, HP3.out, HX3.out, HB3.out, by omega⟩, by simp [intOf]; omega⟩
     rw [HST.out, if_neg hkc]
     simpa using HU3.out
  ·obtain rfl : k = xt.length := by omega
   rw [List.take_length] at HU hsl
   have HS := hide (Tryz.Builder_String_any (w.heap.size + 1) (w.heap.size + 1) (sumT true xt) wr HU.out (by omega))
   obtain ⟨x0, x1, _, _⟩ := HX.out.two
   by_cases hnil : xt = []
   ·have HN : Hid (numT xd xt = [48]) := hide (by unfold numT; rw [if_pos hnil])
    have hs0 : sumT true xt = [] := by rw [hnil]; rfl
    rw [hs0] at HS
    go_wp2_with (first
     | (go_at_call 84; refine HS.out.mono ?_; rintro e w5 ⟨rfl, hb5⟩; have HB5 := hide (HB.out.trans (hb5.mono (by omega))); clear hb5))
    go_ret
    rw [HN.out]
    exact ⟨rfl, HB5.out⟩
   have hne := sumT_ne hnil true
   have HNT : Hid (numT xd xt = if xd = 1 then sumT true xt else if 1 < xt.length then [40] ++ sumT true xt ++ [41, 47] ++ Lib.itoa xd else sumT true xt ++ [47] ++ Lib.itoa xd) := hide (by unfold numT; rw [if_neg hnil])
   generalize sumT true xt = S at *
   have hn1 : (S == []) = false := by simp [hne]
   have hn2 : ¬ (⟨S.toArray⟩ : ByteArray) = ⟨#[]⟩ := fun h => hne (by have := congrArg (fun b => b.data.toList) h; simpa using this)
   have HIX := hide (fun W hb => itoa_any xd W HDX.out (HT.out W hb))
   by_cases hd1 : xd = 1
   ·have HN : Hid (numT xd xt = S) := hide (by rw [HNT.out, if_pos hd1])
    go_wp2_with (first
     | (go_at_call 84; refine HS.out.mono ?_; rintro e w5 ⟨rfl, hb5⟩
        have HB5 := hide (HB.out.trans (hb5.mono (by omega)))
        have HX5 := hide (HX.out.below hb5 (by omega))
        obtain ⟨x0, x1, _, _⟩ := HX5.out.two
        clear hb5))
    go_ret
    rw [HN.out]
    exact ⟨rfl, HB5.out⟩
   have hdb : (xd == 1) = false := by simp [hd1]
   by_cases hl1 : 1 < xt.length
   ·have HN : Hid (numT xd xt = [40] ++ S ++ [41, 47] ++ Lib.itoa xd) := hide (by rw [HNT.out, if_neg hd1, if_pos hl1])
    have hli : (1 : Int) < (xt.length : Int) := by omega
    go_wp2_with (first
     | (go_at_call 84; refine HS.out.mono ?_; rintro e w5 ⟨rfl, hb5⟩
        have HB5 := hide (HB.out.trans (hb5.mono (by omega)))
        have HX5 := hide (HX.out.below hb5 (by omega))
        obtain ⟨x0, x1, _, _⟩ := HX5.out.two
        clear hb5)
     | (go_at_call 85; refine (HIX.out _ HB5.out).mono ?_; rintro e w6 ⟨rfl, hb6⟩
        have HB6 := hide (HB5.out.trans (hb6.mono HB5.out.size))
        clear hb6))
    go_ret
    rw [HN.out]
    refine ⟨?_, HB6.out⟩
    have e : (⟨[40].toArray⟩ : ByteArray) ++ ⟨S.toArray⟩ ++ ⟨[41, 47].toArray⟩ ++ ⟨(Lib.itoa xd).toArray⟩ = ⟨([40] ++ S ++ [41, 47] ++ Lib.itoa xd).toArray⟩ := by rw [str_append, str_append, str_append]
    exact congrArg (fun b => Ending.returned (.string b)) e
   ·have HN : Hid (numT xd xt = S ++ [47] ++ Lib.itoa xd) := hide (by rw [HNT.out, if_neg hd1, if_neg hl1])
    have hli : ¬ (1 : Int) < (xt.length : Int) := by omega
    go_wp2_with (first
     | (go_at_call 84; refine HS.out.mono ?_; rintro e w5 ⟨rfl, hb5⟩
        have HB5 := hide (HB.out.trans (hb5.mono (by omega)))
        have HX5 := hide (HX.out.below hb5 (by omega))
        obtain ⟨x0, x1, _, _⟩ := HX5.out.two
        clear hb5)
     | (go_at_call 85; refine (HIX.out _ HB5.out).mono ?_; rintro e w6 ⟨rfl, hb6⟩
        have HB6 := hide (HB5.out.trans (hb6.mono HB5.out.size))
        clear hb6))
    go_ret
    rw [HN.out]
    refine ⟨?_, HB6.out⟩
    have e : (⟨S.toArray⟩ : ByteArray) ++ ⟨[47].toArray⟩ ++ ⟨(Lib.itoa xd).toArray⟩ = ⟨(S ++ [47] ++ Lib.itoa xd).toArray⟩ := by rw [str_append, str_append]
    exact congrArg (fun b => Ending.returned (.string b)) e
set_option maxHeartbeats 1000000 in
set_option maxRecDepth 100000 in
theorem format_flat (xd : Int) (A : Option Addr) (n c : Nat) (xt : List (Int × Int)) (B : Nat) (w : World) (hx : Terms w B A n c xt) (hB : B ≤ w.heap.size) (htab : Lib.TabIs Tryz.prog w "internal/strconv.uint64pow10" .u64 Lib.pow10Tab) :
  Calls Tryz.prog 18 #[.agg #[.int .i64 xd, .slice A n c]] w fun e w' => e = .returned (.tuple #[.string ⟨(if numOK xd xt = true then numT xd xt else []).toArray⟩, .int .i64 (argE (numOK xd xt))]) ∧ Below w.heap.size w w' := by
 obtain ⟨gv, hgv⟩ := Option.isSome_iff_exists.1 Tryz.pow10g
 have HV := hide (valid1_flat xd A n c xt B (w.alloc (.cells #[.int .i64 xd, .slice A n c] 24)) (Rd.alloc hx hB _) (by simp; omega))
 have HT0 := hide (Rd.alloc hx hB (.cells #[.int .i64 xd, .slice A n c] 24))
 have HX0 := hide (Blk.new w 24 #[.int .i64 xd, .slice A n c])
 have HB0 := hide ((Below.refl w.heap.size w).alloc (Nat.le_refl _) (.cells #[.int .i64 xd, .slice A n c] 24))
 have HT := hide (fun W (hb : Below w.heap.size w W) => TabIs_below_ hgv htab hb)
 simp only [World.size_alloc] at HV
 clear hx htab hgv
 go_enter Tryz.func18, Tryz.ntmps18
 go_wp2_with fail
 refine HV.out.mono ?_
 rintro e w1 ⟨rfl, hb1⟩
 (try simp only [World.size_alloc] at hb1)
 have HX1 := hide (HX0.out.below hb1 (by omega))
 have HT1 := hide (HT0.out.below (hb1.mono (by omega)))
 have HB1 := hide (HB0.out.trans (hb1.mono (by omega)))
 have hz1 := hb1.size
 (try simp only [World.size_alloc] at hz1)
 obtain ⟨q1, q2, q3, q4⟩ := HX1.out.two
 clear HV HX0 HT0 HB0 hb1
 cases hok : numOK xd xt
 ·go_wp2
  all_goals
   go_ret2
   exact ⟨rfl, HB1.out⟩
 ·have HF := hide (format_any1 xd A n c xt B w1 HT1.out (by omega) hok (HT.out w1 HB1.out))
  obtain ⟨tx, htx⟩ : ∃ tx, numT xd xt = tx := ⟨_, rfl⟩
  rw [htx] at HF
  have HTX := hide htx
  clear htx
  go_wp2_with (first
   | (go_at_call 47; refine HF.out.mono ?_; rintro e w2 ⟨rfl, hb⟩
      have HB2 := hide (HB1.out.trans (hb.mono (by omega)))
      clear hb))
  go_ret2
  exact ⟨by simp [argE, HTX.out], HB2.out⟩
end Go.Proofs.YthkblgglmohciaaGreatDoor
