import Derived.Test.YtpibgijgnnmccaaGreatDoorCordAToCordB
import Derived.Test.YtpibgijgnnmccaaGreatDoorShelf
set_option linter.unusedVariables false
set_option linter.unusedSimpArgs false
namespace Go.Proofs.YtpibgijgnnmccaaGreatDoor
open Go.RowKit
abbrev TB : TypeId := 192
theorem Tryz.sizeB : (Tryz.prog.info? 192).map (·.size) = some 2 := by kernel_rfl
theorem Tryz.liesB : liesAt Tryz.prog Tryz.prog.depth 192 (2 / Tryz.prog.cellsOf 192) 0 192 1 = true := by kernel_rfl
theorem Tryz.infoU8 : (Tryz.prog.info? 5).map (fun i => (i.zero, i.size, i.bytes)) = some (some (.int .u8 0), 1, 1) := by kernel_rfl
set_option maxHeartbeats 1000000 in
set_option maxRecDepth 100000 in
theorem copyCheck_any (B b : Nat) (bs : List Value) (w : World) (h : Lib.IsBuilder 192 5 B b bs w) :
  Calls Tryz.prog 203 #[.pointer (some ⟨b, 0, none⟩)] w fun e w' => e = .returned (.tuple #[]) ∧ Lib.BuilderAt 192 5 B b (.pointer (some ⟨b, 0, none⟩)) bs w' ∧ Below B w w' := by
 obtain ⟨j, hj, hjs⟩ := Option.map_eq_some_iff.1 Tryz.sizeB
 rcases h with h | h
 ·have c0 := h.cell0
  have hsh := hide h.shape
  have f0 := h.frozen0
  have H := hide h
  clear h
  go_enter Tryz.func203, Tryz.ntmps203
  go_wp2
  rw [Lib.run_to_unsafe w ⟨b, 0, none⟩ Tryz.underlying189 Tryz.underlying242 hj (by rw [hjs]; decide) hsh.out (Nat.zero_lt_succ 1)]
  simp only [Result.andThen]
  rw [Oper.upon_value]
  go_wp2
  rw [run_callFunc_extern Tryz.func226 (by kernel_rfl) (by kernel_rfl) (by kernel_rfl) (e := Extern.AbiNoEscape.same) (by kernel_rfl), Lib.run_noEscape]
  simp only [Result.andThen]
  rw [Oper.upon_value]
  go_wp2
  rw [Lib.run_from_unsafe w ⟨b, 0, none⟩ Tryz.underlying242 Tryz.underlying189 hj hsh.out Tryz.liesB]
  simp only [Result.andThen]
  rw [Oper.upon_value]
  go_wp2
  go_end0
  exact ⟨rfl, H.out.used _, (Below.refl B w).setCell (p := ⟨b, 0, none⟩) H.out.1 _⟩
 ·have c0 := h.cell0
  have H := hide h
  clear h
  go_enter Tryz.func203, Tryz.ntmps203
  go_wp2
  rw [Lib.run_neq_ptr_same w _ Tryz.underlying189 hj]
  go_wp2
  go_end0
  exact ⟨rfl, H.out, Below.refl B _⟩
set_option maxHeartbeats 2000000 in
set_option maxRecDepth 100000 in
theorem writeString_any (B b : Nat) (bs : List Value) (s : ByteArray) (w : World) (h : Lib.IsBuilder 192 5 B b bs w) (hlen : bs.length + s.size ≤ 100000000000000) (hBw : B ≤ w.heap.size) :
  Calls Tryz.prog 166 #[.pointer (some ⟨b, 0, none⟩), .string s] w fun e w' => e = .returned (.tuple #[.int .i64 s.size, .nilIface]) ∧ Lib.IsBuilder 192 5 B b (bs ++ Lib.strCells s) w' ∧ Below B w w' := by
 obtain ⟨i0, hi, hz0, hz1, hz2⟩ := info_parts Tryz.infoU8
 have HC := hide (copyCheck_any B b bs w h)
 clear h
 go_enter Tryz.func166, Tryz.ntmps166
 go_wp2_with fail
 refine HC.out.mono ?_
 rintro e w1 ⟨rfl, h1, hb1⟩
 obtain ⟨hB, v, hbk, hown, hne⟩ := h1
 have HBK : Hid (Blk w1 b 192 #[.pointer (some ⟨b, 0, none⟩), v]) := hide hbk
 have HOW := hide hown
 have HNE := hide hne
 have HB1 := hide hb1
 have hz1' := hb1.size
 have hbl := HBK.out.lt
 obtain ⟨ao, ca, rfl⟩ := own_shape hown
 obtain ⟨q1, q2, q3, q4⟩ := HBK.out.two
 clear hbk hown hne hb1 HC
 go_wp2_with (first
  | (at_builtin; refine Lib.wpList_append_own_string _ rfl _ _ 190 9 rfl B 5 i0 Tryz.underlying190 Tryz.underlying9 hi hz0 hz1 hz2 _ _ _ rfl HOW.out s rfl (by unfold maxLen; omega) (by omega) (by omega) ?_; intro v' w2 ho2 hg2 _
     obtain ⟨A2, c2, rfl⟩ := own_shape ho2
     have HO2 := hide ho2
     have HG2 := hide hg2
     have HBK2 := hide (HBK.out.grown hg2 (fun e => HNE.out e))
     obtain ⟨u1, u2, u3, u4⟩ := HBK2.out.two
     clear ho2 hg2))
 go_ret2
 refine ⟨rfl, .inr (Lib.BuilderAt.put hB HBK2.out (bs' := bs ++ Lib.strCells s) (by simpa [Lib.strCells_length] using HO2.out) (by decide)), ?_⟩
 exact (HB1.out.grown HG2.out (by omega) (fun k hk => (HOW.out.lt k hk).1)).setCell (p := ⟨b, 1, none⟩) hB _
end Go.Proofs.YtpibgijgnnmccaaGreatDoor
namespace Go.Proofs.YtpibgijgnnmccaaGreatDoor
open Go.RowKit Go.Sort
theorem run_checkKey_bool {K : TypeId} (hK : Tryz.prog.underlying K = some .bool) (e : Bool) (n : Nat) (b : Bool) (w : World) : (Instr.checkKey e (n + 1) K (.bool b)).run Tryz.prog w = .ok () w := by
 simp [Instr.checkKey, run_underlying hK]
theorem run_insert_bool {T K E : TypeId} {w : World} {m clk : Nat} {es : Array MapEntry} {b : Bool} {v : Value} (hT : Tryz.prog.underlying T = some (.map K E)) (hK : Tryz.prog.underlying K = some .bool) (hm : w.heap[m]? = some (.map es clk))
  (hf : Instr.findNow .bool (.bool b) es.toList 0 = some none) :
  (Instr.mapUpdate T (.map (some m)) (.bool b) v).run Tryz.prog w = .ok () (w.putObj m (.map (es.push { key := .bool b, val := v, born := clk }) (clk + 1))) := by
 have hget : (getObj m).run Tryz.prog w = .ok (.map es clk) w := by simp [getObj, Sem.run, hm]
 have hck : (Instr.checkKey false 10000 K (.bool b)).run Tryz.prog w = .ok () w := run_checkKey_bool hK false 9999 b w
 have hfind : (Instr.findKey K (.bool b) es.toList).run Tryz.prog w = .ok none w := by simp [Instr.findKey, run_underlying hK, hf]
 have hset : ∀ es' c, (setObj m (.map es' c)).run Tryz.prog w = .ok () (w.putObj m (.map es' c)) := by
  intro es' c; simp [setObj, Sem.run, hm, World.putObj]
 simp only [Instr.mapUpdate]
 simp [run_underlying hT, hget, hck, hfind, hset]
theorem run_lookup_bool {T K E : TypeId} {w : World} {m clk : Nat} {es : Array MapEntry} {b : Bool} {i : Nat} {v : Value} (hT : Tryz.prog.underlying T = some (.map K E)) (hK : Tryz.prog.underlying K = some .bool) (hm : w.heap[m]? = some (.map es clk))
  (hf : Instr.findNow .bool (.bool b) es.toList 0 = some (some (i, v))) :
  (Instr.lookup T (.map (some m)) (.bool b) false).run Tryz.prog w = .ok v w := by
 have hget : (getObj m).run Tryz.prog w = .ok (.map es clk) w := by simp [getObj, Sem.run, hm]
 have hck : ∀ e, (Instr.checkKey e 10000 K (.bool b)).run Tryz.prog w = .ok () w := fun e => run_checkKey_bool hK e 9999 b w
 have hfind : (Instr.findKey K (.bool b) es.toList).run Tryz.prog w = .ok (some (i, v)) w := by simp [Instr.findKey, run_underlying hK, hf]
 simp only [Instr.lookup]
 simp [run_underlying hT, hget, hck, hfind]
def leadsW (w : World) (s t : ByteArray) : World := ((w.alloc (.map #[] 0)).putObj w.heap.size (.map #[{ key := .bool false, val := .string s, born := 0 }] 1)).putObj w.heap.size (.map #[{ key := .bool false, val := .string s, born := 0 }, { key := .bool true, val := .string t, born := 1 }] 2)
theorem leads1 (w : World) (s : ByteArray) : (Instr.mapUpdate 213 (.map (some w.heap.size)) (.bool false) (.string s)).run Tryz.prog (w.alloc (.map #[] 0)) = .ok () ((w.alloc (.map #[] 0)).putObj w.heap.size (.map #[{ key := .bool false, val := .string s, born := 0 }] 1)) :=
 run_insert_bool Tryz.underlying213 Tryz.underlying4 (World.alloc_heap_new w _) rfl
theorem leads2 (w : World) (s t : ByteArray) : (Instr.mapUpdate 213 (.map (some w.heap.size)) (.bool true) (.string t)).run Tryz.prog ((w.alloc (.map #[] 0)).putObj w.heap.size (.map #[{ key := .bool false, val := .string s, born := 0 }] 1)) = .ok () (leadsW w s t) :=
 run_insert_bool Tryz.underlying213 Tryz.underlying4 (World.putObj_heap_same (by simp)) rfl
theorem leads3 (w : World) (s t : ByteArray) (b : Bool) : (Instr.lookup 213 (.map (some w.heap.size)) (.bool b) false).run Tryz.prog (leadsW w s t) = .ok (.string (if b then t else s)) (leadsW w s t) := by
 cases b
 ·exact run_lookup_bool Tryz.underlying213 Tryz.underlying4 (World.putObj_heap_same (by simp)) rfl
 ·exact run_lookup_bool Tryz.underlying213 Tryz.underlying4 (World.putObj_heap_same (by simp)) rfl
theorem leadsW_below (w : World) (s t : ByteArray) : Below w.heap.size w (leadsW w s t) := by
 refine ⟨rfl, rfl, rfl, by simp [leadsW], fun k hk => ?_⟩
 unfold leadsW
 rw [World.putObj_heap_other (by omega), World.putObj_heap_other (by omega)]
 exact Below.heap_alloc w _ k hk
theorem leadsW_size (w : World) (s t : ByteArray) : (leadsW w s t).heap.size = w.heap.size + 1 := by simp [leadsW]
def pieceT : List UInt8 → List Int → List UInt8
 | _, [] => []
 | lead, m :: ms => lead ++ Lib.itoa m ++ pieceT [42] ms
def leadT (minus : Bool) : List UInt8 := if minus then [45, 49, 47] else [43, 49, 47]
def textS (wh : Int) (l : List (Bool × List Int)) : List UInt8 := Lib.itoa wh ++ l.flatMap fun p => pieceT (leadT p.1) p.2
theorem TabIs_below_ {n : String} {g : Nat} {k : IntKind} {zs : List Int} {w w' : World} (hg : Tryz.prog.globalNamed n = some g) (h : Lib.TabIs Tryz.prog w n k zs) (hb : Below w.heap.size w w') : Lib.TabIs Tryz.prog w' n k zs := by
 unfold Lib.TabIs World.var? at h ⊢
 rw [hg] at h ⊢
 simp only [Option.bind_some] at h ⊢
 have hlt : g < w.heap.size := by
  rcases Nat.lt_or_ge g w.heap.size with h' | h'
  ·exact h'
  ·rw [Array.getElem?_eq_none h'] at h; cases h
 rw [hb.block g hlt]
 exact h
theorem below_grows {w : World} (k : Nat) (os : Array Obj) : Below w.heap.size w (grow (w.drewN k) os) :=
 ⟨rfl, rfl, rfl, by simp [grow], fun j hj => by simp [grow, Array.getElem?_append, hj]⟩
set_option maxHeartbeats 1000000 in
theorem itoa_any (n : Int) (w : World) (hn : -9000000000000000000 ≤ n ∧ n ≤ 9000000000000000000) (htab : Lib.TabIs Tryz.prog w "internal/strconv.uint64pow10" .u64 Lib.pow10Tab) :
  Calls Tryz.prog 169 #[.int .i64 n] w fun e w' => e = .returned (.string ⟨(Lib.itoa n).toArray⟩) ∧ Below w.heap.size w w' := by
 refine (Tryz.strconv_Itoa n (by omega) (by omega) w htab).mono ?_
 rintro e w' ⟨rfl, k, os, rfl⟩
 exact ⟨rfl, below_grows k os⟩
theorem itoa_len {n : Int} (h : 0 ≤ n ∧ n ≤ 1000) : (Lib.itoa n).length ≤ 4 := by
 obtain ⟨m, rfl⟩ := Int.eq_ofNat_of_zero_le h.1
 have hm : m ≤ 1000 := by omega
 have : ∀ m : Nat, m < 1001 → (Lib.itoa (m : Int)).length ≤ 4 := by decide +kernel
 exact this m (by omega)
end Go.Proofs.YtpibgijgnnmccaaGreatDoor
namespace Go.Proofs.YtpibgijgnnmccaaGreatDoor
open Go.RowKit
theorem dec_len : ∀ (k u : Nat), u < 10 ^ (k + 1) → (Lib.decDigits u).length ≤ k + 1
 | 0, u, h => by rw [Lib.decDigits_one (by simpa using h)]; simp
 | k + 1, u, h => by
  by_cases h1 : u < 10
  ·rw [Lib.decDigits_one h1]; simp
  ·rw [Lib.decDigits, dif_neg h1]
   have h2 := dec_len k (u / 10) (by rw [Nat.pow_succ] at h; omega)
   simp
   omega
theorem isBuilder_below {B b : Nat} {bs : List Value} {w w' : World} (h : Lib.IsBuilder 192 5 B b bs w) (hb : Below w.heap.size w w') : Lib.IsBuilder 192 5 B b bs w' := by
 rcases h with ⟨h1, v, h2, h3, h4⟩ | ⟨h1, v, h2, h3, h4⟩
 ·exact .inl ⟨h1, v, (hb.block b (lt_of_block h2)).trans h2, own_below h3 hb, h4⟩
 ·exact .inr ⟨h1, v, (hb.block b (lt_of_block h2)).trans h2, own_below h3 hb, h4⟩
theorem isBuilder_new (w : World) : Lib.IsBuilder 192 5 w.heap.size w.heap.size [] (w.alloc (.cells #[.pointer none, .slice none 0 0] 192)) :=
 .inl ⟨Nat.le_refl _, .slice none 0 0, World.alloc_heap_new w _, ⟨rfl, .inl ⟨rfl, rfl⟩⟩, by simp [Value.ownBlock]⟩
theorem strCells_list (l : List UInt8) : Lib.strCells ⟨l.toArray⟩ = Lib.byteCells l := by simp [Lib.strCells, Lib.byteCells]
theorem byteCells_append (a b : List UInt8) : Lib.byteCells (a ++ b) = Lib.byteCells a ++ Lib.byteCells b := by simp [Lib.byteCells]
theorem byteCells_len (a : List UInt8) : (Lib.byteCells a).length = a.length := by simp [Lib.byteCells]
theorem str_append (a b : List UInt8) : (⟨a.toArray⟩ : ByteArray) ++ ⟨b.toArray⟩ = ⟨(a ++ b).toArray⟩ := by
 apply ByteArray.ext
 simp
theorem Tryz.pow10g : (Tryz.prog.globalNamed "internal/strconv.uint64pow10").isSome = true := by kernel_rfl
theorem pieceT_snoc : ∀ (ms : List Int) (lead : List UInt8) (m : Int), pieceT lead (ms ++ [m]) = pieceT lead ms ++ ((if ms = [] then lead else [42]) ++ Lib.itoa m)
 | [], lead, m => by simp [pieceT]
 | x :: ms, lead, m => by
  have h := pieceT_snoc ms [42] m
  simp only [List.cons_append, pieceT, h, List.append_assoc]
  by_cases h0 : ms = [] <;> simp [h0]
set_option maxHeartbeats 4000000 in
set_option maxRecDepth 100000 in
theorem text_any (wh : Int) (A : Option Addr) (n c B : Nat) (l : List PieceV) (w : World) (hp : Pieces w B A n c l) (hB : B ≤ w.heap.size) (hwh : 0 ≤ wh ∧ wh ≤ 1000) (hl8 : l.length ≤ 100) (hms : ∀ p ∈ l, p.ms.length ≤ 100 ∧ ∀ m ∈ p.ms, 0 ≤ m ∧ m ≤ 1000) (htab : Lib.TabIs Tryz.prog w "internal/strconv.uint64pow10" .u64 Lib.pow10Tab) :
  Calls Tryz.prog 136 #[.agg #[.int .i64 wh, .slice A n c]] w fun e w' => e = .returned (.string ⟨(textS wh (l.map PieceV.flat)).toArray⟩) ∧ Below w.heap.size w w' := by
 have hl := hp.len
 subst hl
 have hit : ∀ m : Int, 0 ≤ m ∧ m ≤ 1000 → (Lib.itoa m).length ≤ 4 := fun m hm => by
  obtain ⟨u, rfl⟩ := Int.eq_ofNat_of_zero_le hm.1
  rw [Lib.itoa_nonneg]
  exact dec_len 3 u (by omega)
 obtain ⟨gv, hgv⟩ := Option.isSome_iff_exists.1 Tryz.pow10g
 have HT := hide (fun W (hb : Below w.heap.size w W) => TabIs_below_ hgv htab hb)
 have HIT := hide hit
 obtain ⟨w0, hw0⟩ : ∃ w0, w0 = (w.alloc (.cells #[.int .i64 wh, .slice A l.length c] 24)).alloc (.cells #[.pointer none, .slice none 0 0] 192) := ⟨_, rfl⟩
 have hz0 : w0.heap.size = w.heap.size + 2 := by rw [hw0]; simp
 have h01 : Below w.heap.size w w0 := by rw [hw0]; exact ((Below.refl _ _).alloc (Nat.le_refl _) _).alloc (by simp) _
 have HX0 : Hid (Blk w0 w.heap.size 24 #[.int .i64 wh, .slice A l.length c]) := hide (by rw [hw0]; exact (Blk.new w _ _).alloc _)
 have HU0 : Hid (Lib.IsBuilder 192 5 (w.heap.size + 1) (w.heap.size + 1) [] w0) := hide (by
  rw [hw0]
  have h := isBuilder_new (w.alloc (.cells #[.int .i64 wh, .slice A l.length c] 24))
  rwa [World.size_alloc] at h)
 have HP0 := hide (hp.below (h01.mono hB))
 have HI0 := hide (itoa_any wh w0 (by omega) (HT.out w0 h01))
 have HB0 := hide h01
 have hwl := hit wh hwh
 have HMS := hide hms
 clear hp hit h01 htab hms
 go_enter Tryz.func136, Tryz.ntmps136
 go_wp2_with fail
 rw [← hw0]
 clear hw0
 refine HI0.out.mono ?_
 rintro e w1 ⟨rfl, hb1⟩
 have hz1 := hb1.size
 have HX1 := hide (HX0.out.below hb1 (by omega))
 have HU1 := hide (isBuilder_below HU0.out hb1)
 have HP1 := hide (HP0.out.below (hb1.mono (by omega)))
 have HB1 := hide (HB0.out.trans (hb1.mono (by omega)))
 have HW1 := hide (writeString_any _ _ _ ⟨(Lib.itoa wh).toArray⟩ w1 HU1.out (by simp [ByteArray.size]; omega) (by omega))
 rw [strCells_list] at HW1
 clear HX0 HU0 HP0 HB0 HI0 hb1
 go_wp2_with fail
 refine HW1.out.mono ?_
 rintro e w2 ⟨rfl, hu2, hb2⟩
 have hz2 := hb2.size
 have HX2 := hide (HX1.out.below hb2 (by omega))
 have HU2 : Hid (Lib.IsBuilder 192 5 (w.heap.size + 1) (w.heap.size + 1) (Lib.byteCells (Lib.itoa wh)) w2) := hide (by simpa using hu2)
 have HP2 := hide (HP1.out.below (hb2.mono (by omega)))
 have HB2 := hide (HB1.out.trans (hb2.mono (by omega)))
 obtain ⟨x0, x1, _, _⟩ := HX2.out.two
 clear HX1 HU1 HP1 HB1 HW1 hu2 hb2
 go_wp2
 go_loopw [16] (fun i W => ∃ k : Nat, k ≤ l.length ∧ i = .int .i64 k ∧ (textS wh ((l.take k).map PieceV.flat)).length ≤ 4 + 1000 * k ∧ Lib.IsBuilder 192 5 (w.heap.size + 1) (w.heap.size + 1) (Lib.byteCells (textS wh ((l.take k).map PieceV.flat))) W ∧
  Pieces W B A l.length c l ∧ Below w.heap.size w W ∧ w.heap.size + 2 ≤ W.heap.size) (fun i _ => l.length - (intOf i).toNat)
 case atStart => exact ⟨0, by omega, rfl, by simp [textS]; omega, by simpa [textS] using HU2.out, HP2.out, HB2.out, by omega⟩
 case round =>
  obtain ⟨k, hk, rfl, htl, hu, hpp, hb, hzw⟩ := hrel
  have HU := hide hu; have HP := hide hpp; have HB := hide hb
  clear hu hpp hb HX2 HU2 HP2 HB2
  by_cases hlt : k < l.length
  ·obtain ⟨ad, had, hc0, hc1⟩ := HP.out.at_ hlt
   subst had
   have hpm := HMS.out l[k] (List.getElem_mem hlt)
   have hpi := HP.out.2 l[k] (List.getElem_mem hlt)
   have htx := hide (show textS wh ((l.take (k + 1)).map PieceV.flat) = textS wh ((l.take k).map PieceV.flat) ++ pieceT (leadT l[k].minus) l[k].ms by
    rw [take_snoc l k hlt, List.map_append]
    unfold textS
    rw [List.flatMap_append, List.append_assoc]
    simp only [List.map_cons, List.map_nil, List.flatMap_cons, List.flatMap_nil, List.append_nil, PieceV.flat])
   generalize l[k] = p at *
   obtain ⟨mi, A2, n2, c2, ms⟩ := p
   dsimp only at hc0 hc1 hpm htx
   have hml : ms.length = n2 := Ints.len hpi
   subst hml
   generalize textS wh ((l.take k).map PieceV.flat) = tx at *
   obtain ⟨wa, hwa⟩ : ∃ wa, wa = wr.alloc (.cells #[.bool mi, .slice A2 ms.length c2] 96) := ⟨_, rfl⟩
   have hza : wa.heap.size = wr.heap.size + 1 := by rw [hwa]; simp
   have hab : Below wr.heap.size wr wa := by rw [hwa]; exact (Below.refl _ _).alloc (Nat.le_refl _) _
   have HQ : Hid (Blk wa wr.heap.size 96 #[.bool mi, .slice A2 ms.length c2]) := hide (by rw [hwa]; exact Blk.new _ _ _)
   have HL1 := leads1 wa ⟨#[43, 49, 47]⟩
   have HL2 := leads2 wa ⟨#[43, 49, 47]⟩ ⟨#[45, 49, 47]⟩
   obtain ⟨ld, hld⟩ : ∃ ld, ld = leadT mi := ⟨_, rfl⟩
   have hll : ld.length = 3 := by rw [hld]; cases mi <;> rfl
   have HL3 : (Instr.lookup 213 (.map (some wa.heap.size)) (.bool mi) false).run Tryz.prog (leadsW wa ⟨#[43, 49, 47]⟩ ⟨#[45, 49, 47]⟩) = .ok (.string ⟨ld.toArray⟩) (leadsW wa ⟨#[43, 49, 47]⟩ ⟨#[45, 49, 47]⟩) := by
    rw [hld]
    cases mi
    ·exact leads3 wa ⟨#[43, 49, 47]⟩ ⟨#[45, 49, 47]⟩ false
    ·exact leads3 wa ⟨#[43, 49, 47]⟩ ⟨#[45, 49, 47]⟩ true
   rw [← hld] at htx
   clear hld
   have hbl := leadsW_below wa ⟨#[43, 49, 47]⟩ ⟨#[45, 49, 47]⟩
   have hzl := leadsW_size wa ⟨#[43, 49, 47]⟩ ⟨#[45, 49, 47]⟩
   have hbr : Below wr.heap.size wr (leadsW wa ⟨#[43, 49, 47]⟩ ⟨#[45, 49, 47]⟩) := hab.trans (hbl.mono (by omega))
   have HQL := hide (HQ.out.below hbl (by omega))
   have HUL := hide (isBuilder_below HU.out hbr)
   have HPL := hide (HP.out.below (hbr.mono (by omega)))
   have HBL := hide (HB.out.trans (hbr.mono (by omega)))
   have HIL : Hid (Ints (leadsW wa ⟨#[43, 49, 47]⟩ ⟨#[45, 49, 47]⟩) B A2 ms.length c2 ms) := hide (Rd.below hpi (hbr.mono (by omega)))
   have HZL := hide (show w.heap.size + 2 ≤ (leadsW wa ⟨#[43, 49, 47]⟩ ⟨#[45, 49, 47]⟩).heap.size by omega)
   obtain ⟨ql0, ql1, _, _⟩ := HQL.out.two
   rw [hza] at HL1 HL2 HL3
   rw [hwa] at HL1 HL2 HL3 ql0 ql1
   rw [hwa] at HUL HPL HBL HIL HZL
   clear hza hab hwa hbl hzl hbr HQ HQL
   go_wp2_with (first
    | (refine wpList_makeMap _ rfl _ rfl ?_))
   generalize leadsW (wr.alloc (.cells #[.bool mi, .slice A2 ms.length c2] 96)) ⟨#[43, 49, 47]⟩ ⟨#[45, 49, 47]⟩ = wl at *
   clear HL1 HL2 HL3 ql0 ql1 HU HP HB hpi
   go_loopw [6, 28] (fun v i W => ∃ j : Nat, j ≤ ms.length ∧ i = .int .i64 j ∧ v = .string ⟨(if j = 0 then ld else [42]).toArray⟩ ∧ (pieceT ld (ms.take j)).length ≤ 7 * j ∧ Lib.IsBuilder 192 5 (w.heap.size + 1) (w.heap.size + 1) (Lib.byteCells (tx ++ pieceT ld (ms.take j))) W ∧
    Pieces W B (some ad) l.length c l ∧ Ints W B A2 ms.length c2 ms ∧ Below w.heap.size w W ∧ w.heap.size + 2 ≤ W.heap.size) (fun _ i _ => ms.length - (intOf i).toNat)
   case atStart => exact ⟨0, by omega, rfl, rfl, by simp [pieceT], by simpa [pieceT] using HUL.out, HPL.out, HIL.out, HBL.out, HZL.out⟩
   case round =>
    obtain ⟨j, hj, rfl, rfl, hpl, hu, hpp, hii, hb, hzw2⟩ := hrel
    have HU := hide hu; have HP := hide hpp; have HI := hide hii; have HB := hide hb
    clear hu hpp hii hb HUL HPL HIL HBL HZL
    by_cases hlt2 : j < ms.length
    ·obtain ⟨ad2, had2, hd0⟩ := HI.out.at_ hlt2
     subst had2
     have hmm := hpm.2 ms[j] (List.getElem_mem hlt2)
     have hmi := HIT.out ms[j] hmm
     have hps := hide (show pieceT ld (ms.take (j + 1)) = pieceT ld (ms.take j) ++ ((if j = 0 then ld else [42]) ++ Lib.itoa ms[j]) by
      rw [take_snoc ms j hlt2, pieceT_snoc]
      have : (ms.take j = []) = (j = 0) := by
       apply propext
       constructor
       ·intro h; have := congrArg List.length h; simp at this; rcases this with h | h; exact h; subst h; simp at hlt2
       ·rintro rfl; rfl
      simp only [this])
     have hld2 : (if j = 0 then ld else [42]).length ≤ 3 ∧ (j ≠ 0 → (if j = 0 then ld else [42]).length = 1) := by
      split
      ·exact ⟨by omega, fun h => absurd (by assumption) h⟩
      ·exact ⟨by simp, fun _ => rfl⟩
     have HI2 := hide (itoa_any ms[j] wr (by omega) (HT.out wr HB.out))
     generalize ms[j] = m at *
     generalize (if j = 0 then ld else [42]) = lj at *
     have hsa := str_append lj (Lib.itoa m)
     go_wp2_with (first
      | (go_at_call 169; refine HI2.out.mono ?_; rintro e w5 ⟨rfl, hb5⟩
         have HU5 := hide (isBuilder_below HU.out hb5)
         have HP5 := hide (HP.out.below (hb5.mono (by omega))); have HI5 := hide (Rd.below HI.out (hb5.mono (by omega))); have HB5 := hide (HB.out.trans (hb5.mono (by omega)))
         have hz5 := hb5.size
         have HW5 := hide (writeString_any _ _ _ ⟨(lj ++ Lib.itoa m).toArray⟩ w5 HU5.out (by rw [byteCells_len]; simp [ByteArray.size]; omega) (by omega))
         rw [strCells_list, ← byteCells_append] at HW5
         clear hb5)
      | (go_at_call 166; refine HW5.out.mono ?_; rintro e w6 ⟨rfl, hu6, hb6⟩
         have HU6 := hide hu6
         have HP6 := hide (HP5.out.below (hb6.mono (by omega))); have HI6 := hide (Rd.below HI5.out (hb6.mono (by omega))); have HB6 := hide (HB5.out.trans (hb6.mono (by omega)))
         have hz6 := hb6.size
         clear hu6 hb6))
     refine ⟨⟨j + 1, by omega, by go_num, by simp, ?_, ?_, HP6.out, HI6.out, HB6.out, by omega⟩, by simp [intOf]; omega⟩
     ·rw [hps.out]; simp only [List.length_append]; omega
     ·rw [hps.out, ← List.append_assoc]; exact HU6.out
    ·obtain rfl : j = ms.length := by omega
     rw [List.take_length] at hpl HU
     go_wp2
     refine ⟨⟨k + 1, by omega, by go_num, ?_, ?_, HP.out, HB.out, hzw2⟩, by simp [intOf]; omega⟩
     ·rw [htx.out, List.length_append]; omega
     ·rw [htx.out]; exact HU.out
  ·obtain rfl : k = l.length := by omega
   rw [List.take_length] at HU
   have HS := hide (Tryz.Builder_String_any (w.heap.size + 1) (w.heap.size + 1) (textS wh (l.map PieceV.flat)) wr HU.out (by omega))
   go_wp2_with (first
    | (go_at_call 168; refine HS.out.mono ?_; rintro e w5 ⟨rfl, hb5⟩; have HB5 := hide hb5; clear hb5))
   go_ret
   exact ⟨rfl, HB.out.trans (HB5.out.mono (by omega))⟩
end Go.Proofs.YtpibgijgnnmccaaGreatDoor
namespace Go.Proofs.YtpibgijgnnmccaaGreatDoor
open Go.RowKit
theorem oldOK_parts {wh : Int} {l : List (Bool × List Int)} (h : oldOK wh l = true) : (0 ≤ wh ∧ wh ≤ 1000) ∧ l.length ≤ 8 ∧ ∀ p ∈ l, 1 ≤ p.2.length ∧ p.2.length ≤ 6 ∧ ∀ m ∈ p.2, 2 ≤ m ∧ m ≤ 1000 := by
 unfold oldOK at h
 simp only [Bool.and_eq_true, decide_eq_true_eq, List.all_eq_true] at h
 obtain ⟨⟨h1, h2⟩, h3⟩ := h
 refine ⟨by simpa [inB] using h1, h2, fun p hp => ?_⟩
 have h4 := h3 p hp
 unfold pieceOK at h4
 simp only [Bool.and_eq_true, List.all_eq_true] at h4
 have h5 : 1 ≤ (p.2.length : Int) ∧ (p.2.length : Int) ≤ 6 := by simpa [inB] using h4.1
 exact ⟨by omega, by omega, fun m hm => by simpa [markOK, inB] using h4.2 m hm⟩
set_option maxHeartbeats 1000000 in
set_option maxRecDepth 100000 in
theorem format_any (wh : Int) (A : Option Addr) (n c B : Nat) (l : List PieceV) (w : World) (hp : Pieces w B A n c l) (hB : B ≤ w.heap.size) (htab : Lib.TabIs Tryz.prog w "internal/strconv.uint64pow10" .u64 Lib.pow10Tab) :
  Calls Tryz.prog 78 #[.agg #[.int .i64 wh, .slice A n c]] w fun e w' => e = .returned (.tuple #[.string ⟨(if oldOK wh (l.map PieceV.flat) then textS wh (l.map PieceV.flat) else []).toArray⟩, .int .i64 (argE (oldOK wh (l.map PieceV.flat)))]) ∧ Below w.heap.size w w' := by
 obtain ⟨gv, hgv⟩ := Option.isSome_iff_exists.1 Tryz.pow10g
 have hpa := hp.alloc hB (.cells #[.int .i64 wh, .slice A n c] 24)
 have HX0 := hide (Blk.new w 24 #[.int .i64 wh, .slice A n c])
 have HBa := hide ((Below.refl w.heap.size w).alloc (Nat.le_refl _) (.cells #[.int .i64 wh, .slice A n c] 24))
 have HCK := hide (cordCheck_any wh A n c B l (w.alloc (.cells #[.int .i64 wh, .slice A n c] 24)) hpa (by simp; omega))
 have HPA := hide hpa
 have hT := hide (fun W (hb : Below w.heap.size w W) => TabIs_below_ hgv htab hb)
 clear hp htab hpa
 cases hok : oldOK wh (l.map PieceV.flat)
 ·rw [hok] at HCK
  clear HPA hT hok
  go_enter Tryz.func78, Tryz.ntmps78
  go_wp2_with fail
  refine HCK.out.mono ?_
  rintro e w1 ⟨rfl, hb1⟩
  have HB1 := hide (HBa.out.trans (hb1.mono (by simp)))
  simp only [argE]
  clear HCK hb1
  go_wp2
  go_ret2
  exact ⟨rfl, HB1.out⟩
 ·rw [hok] at HCK
  obtain ⟨g1, g2, g3⟩ := oldOK_parts hok
  rw [List.length_map] at g2
  have hms : ∀ p ∈ l, p.ms.length ≤ 100 ∧ ∀ m ∈ p.ms, 0 ≤ m ∧ m ≤ 1000 := fun p hp => by
   obtain ⟨a1, a2, a3⟩ := g3 p.flat (List.mem_map_of_mem hp)
   have e : p.flat.2 = p.ms := rfl
   rw [e] at a1 a2 a3
   exact ⟨by omega, fun m hm => by have := a3 m hm; omega⟩
  have HTX := hide (fun W hP hW hT => text_any wh A n c B l W hP hW g1 (by omega) hms hT)
  clear hok g1 g2 g3 hms
  generalize textS wh (l.map PieceV.flat) = tx at *
  go_enter Tryz.func78, Tryz.ntmps78
  go_wp2_with fail
  refine HCK.out.mono ?_
  rintro e w1 ⟨rfl, hb1⟩
  (try simp only [World.size_alloc] at hb1)
  have hz1 := hb1.size
  (try simp only [World.size_alloc] at hz1)
  have HB1 := hide (HBa.out.trans (hb1.mono (by omega)))
  have HX1 := hide (HX0.out.below hb1 (by omega))
  have HT1 := hide (HTX.out w1 (HPA.out.below (hb1.mono (by omega))) (by omega) (hT.out w1 HB1.out))
  obtain ⟨q1, q2, _, _⟩ := HX1.out.two
  simp only [argE]
  clear HCK hb1 HTX hT HPA
  go_wp2_with (first
   | (go_at_call 136; refine HT1.out.mono ?_; rintro e w2 ⟨rfl, hb2⟩; have HB2 := hide hb2; clear hb2))
  go_ret2
  exact ⟨rfl, HB1.out.trans (HB2.out.mono (by omega))⟩
def prodM : Int → List Int → Int
 | n, [] => n
 | n, m :: ms => if 100000 < n * m then 0 else prodM (n * m) ms
theorem prodM_cons (n m : Int) (ms : List Int) : prodM n (m :: ms) = if 100000 < n * m then 0 else prodM (n * m) ms := rfl
set_option maxHeartbeats 1000000 in
set_option maxRecDepth 100000 in
theorem cordProduct_any (A : Option Addr) (n c B : Nat) (ms : List Int) (w : World) (hI : Ints w B A n c ms) (hm : ∀ m ∈ ms, 0 ≤ m ∧ m ≤ 1000) :
  Calls Tryz.prog 86 #[.slice A n c] w fun e w' => e = .returned (.int .i64 (prodM 1 ms)) ∧ w' = w := by
 have hl := hI.len
 subst hl
 have hcm := Rd.nmax hI
 go_enter Tryz.func86, Tryz.ntmps86
 go_wp2
 go_loopw [3, 8] (fun a i W => ∃ (k : Nat) (x : Int), k ≤ ms.length ∧ i = .int .i64 k ∧ a = .int .i64 x ∧ (0 ≤ x ∧ x ≤ 100000) ∧ prodM 1 ms = prodM x (ms.drop k) ∧ W = w) (fun _ i _ => ms.length - (intOf i).toNat)
 case atStart => exact ⟨0, 1, by omega, rfl, rfl, by omega, rfl, rfl⟩
 case round =>
  obtain ⟨k, x, hk, rfl, rfl, hx, hpr, rfl⟩ := hrel
  by_cases hlt : k < ms.length
  ·obtain ⟨ad, had, hc0⟩ := hI.at_ hlt
   subst had
   have hmk := hm ms[k] (List.getElem_mem hlt)
   rw [List.drop_eq_getElem_cons hlt] at hpr
   generalize ms[k] = m at *
   have hb := mul_bd (a := x) (b := m) (A := 100000) (B := 1000) (by omega) (by omega)
   have hb0 : 0 ≤ x * m := Int.mul_nonneg hx.1 hmk.1
   have HPR := hide hpr
   clear hpr
   by_cases hgt : 100000 < x * m
   ·have hv := HPR.out
    rw [prodM_cons, if_pos hgt] at hv
    have HV := hide hv
    clear hv HPR
    go_wp2
    go_ret
    exact ⟨by rw [HV.out]; rfl, rfl⟩
   ·have hv := HPR.out
    rw [prodM_cons, if_neg hgt] at hv
    have HV := hide hv
    have hle : x * m ≤ 100000 := by omega
    clear hv HPR
    go_wp2
    exact ⟨⟨k + 1, x * m, by omega, by go_num, rfl, ⟨hb0, hle⟩, HV.out, trivial⟩, by simp [intOf]; omega⟩
  ·obtain rfl : k = ms.length := by omega
   rw [List.drop_length] at hpr
   have HV : Hid (prodM 1 ms = x) := hide hpr
   clear hpr
   go_wp2
   go_ret
   exact ⟨by rw [HV.out]; rfl, rfl⟩
end Go.Proofs.YtpibgijgnnmccaaGreatDoor
