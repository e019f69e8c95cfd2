/-
  The law's own old: a copy of an old fraction.
-/
import Derived.Test.YtaacnbnmlfhnaaaGreatDoorLawH
import Derived.Test.YtaacnbnmlfhnaaaGreatDoorAppQ
import Derived.Test.YtaacnbnmlfhnaaaGreatDoorCordSToCordV
set_option linter.unusedVariables false
set_option linter.unusedSimpArgs false
namespace Go.Proofs.YtaacnbnmlfhnaaaGreatDoor
open Go.RowKit

/-- What the loop of old knows. -/
structure OldI (w W : World) (A : Option Addr) (c : Nat) (l : List PieceV) (wh : Int) (o : Value) (k : Nat) (L : List PieceV) : Prop where
  blk : Blk W w.heap.size 24 #[.int .i64 wh, .slice A l.length c]
  blk2 : Blk W (w.heap.size + 1) 24 #[.int .i64 0, .slice none 0 0]
  row : W.ownsRow (w.heap.size + 2) 94 2 o k (cells2 (L.map PieceV.enc))
  marks : ∀ p ∈ L, W.ownsRow (w.heap.size + 2) 3 1 (.slice p.A p.n p.c) p.n (p.ms.map (Value.int .i64))
  flat : L.map PieceV.flat = (l.map PieceV.flat).take k
  below : Below w.heap.size w W
theorem OldI.drewN {w W : World} {A : Option Addr} {c : Nat} {l : List PieceV} {wh : Int} {o : Value} {k : Nat} {L : List PieceV} (h : OldI w W A c l wh o k L) (q : Nat) : OldI w (W.drewN q) A c l wh o k L :=
  ⟨h.blk, h.blk2, h.row, h.marks, h.flat, below_drewN h.below q⟩
/-- One piece more. -/
theorem OldI.next {w W w1 w3 : World} {A : Option Addr} {c : Nat} {l : List PieceV} {wh : Int} {o : Value} {k : Nat} {L : List PieceV} {p : PieceV} {v : Value} (h : OldI w W A c l wh o k L) (hb : Below (w.heap.size + 2) W w1)
    (hrow : w3.ownsRow (w.heap.size + 2) 94 2 v (k + 1) (cells2 (L.map PieceV.enc) ++ [.bool p.minus, .slice p.A p.n p.c])) (hr1 : w1.ownsRow (w.heap.size + 2) 94 2 o k (cells2 (L.map PieceV.enc)))
    (hm : ∀ q ∈ L, w1.ownsRow (w.heap.size + 2) 3 1 (.slice q.A q.n q.c) q.n (q.ms.map (Value.int .i64)))
    (hp : w1.ownsRow (w.heap.size + 2) 3 1 (.slice p.A p.n p.c) p.n (p.ms.map (Value.int .i64))) (hg : w1.grownBy w3 o.ownBlock) (hk : k < l.length) (hf : p.flat = l[k].flat) (hW : w.heap.size + 2 ≤ W.heap.size) :
    OldI w w3 A c l wh v (k + 1) (L ++ [p]) := by
  have hb3 : Below (w.heap.size + 2) W w3 := hb.grown hg (by have := hb.size; omega) (fun j e => (hr1.lt j e).1)
  have hk1 : ∀ q : PieceV, w1.ownsRow (w.heap.size + 2) 3 1 (.slice q.A q.n q.c) q.n (q.ms.map (Value.int .i64)) → w3.ownsRow (w.heap.size + 2) 3 1 (.slice q.A q.n q.c) q.n (q.ms.map (Value.int .i64)) := fun q hq =>
    own_kept_of hq hg (fun g e1 e2 => own_own_ne hr1 hq (by decide) e2 e1)
  refine ⟨h.blk.below hb3 (by omega), h.blk2.below hb3 (by omega), ?_, fun q hq => ?_, ?_, h.below.trans (hb3.mono (by omega))⟩
  · rw [cells2_snoc]; exact hrow
  · rcases List.mem_append.1 hq with hq | hq
    · exact hk1 q (hm q hq)
    · rw [List.mem_singleton.1 hq]; exact hk1 p hp
  · rw [List.map_append, h.flat, flat_take_succ hk, List.map_singleton, hf]
theorem own_grown_alloc {W : World} {base size n : Nat} {e : TypeId} {v : Value} {xs : List Value} (h : W.ownsRow base e size v n xs) (o : Obj) : (W.alloc o).ownsRow base e size v n xs := h.alloc o

set_option maxHeartbeats 8000000 in
set_option maxRecDepth 100000 in
theorem old_any (wh : Int) (A : Option Addr) (n c B : Nat) (l : List PieceV) (w : World) (hp : PiecesQ w B A n c l) (hB : B ≤ w.heap.size) (hl8 : l.length ≤ 1000) (hm8 : ∀ p ∈ l, p.ms.length ≤ 1000) :
    Calls Tryz.prog 18 #[.agg #[.int .i64 wh, .slice A n c]] w fun e w' => ∃ (A' : Option Addr) (c' : Nat) (L : List PieceV), e = .returned (.agg #[.int .i64 wh, .slice A' l.length c']) ∧ Pieces w' w'.heap.size A' l.length c' L ∧ L.map PieceV.flat = l.map PieceV.flat ∧ Below w.heap.size w w' := by
  have hl := hp.len
  subst hl
  have hn := hp.1.nmax
  obtain ⟨i0, hi0, hz0, hz1, hz2⟩ := info_parts Tryz.infoInt
  obtain ⟨i1, hi1, hy0, hy1, hy2⟩ := info_parts Tryz.infoPiece
  obtain ⟨w0, hw0⟩ : ∃ w0, w0 = ((w.alloc (.cells #[.int .i64 wh, .slice A l.length c] 24)).alloc (.cells #[.int .i64 0, .slice none 0 0] 24)).alloc (.cells #[] 94) := ⟨_, rfl⟩
  have hz00 : w0.heap.size = w.heap.size + 3 := by rw [hw0]; simp
  have HI0 : Hid (OldI w w0 A c l wh (.slice (some ⟨w.heap.size + 2, 0, none⟩) 0 0) 0 []) := hide (by
    rw [hw0]
    refine ⟨((Blk.new w _ _).alloc _).alloc _, ?_, ?_, fun _ h => (by cases h), rfl, (((Below.refl _ _).alloc (Nat.le_refl _) _).alloc (by simp) _).alloc (by simp; omega) _⟩
    · have h := (Blk.new (w.alloc (.cells #[.int .i64 wh, .slice A l.length c] 24)) 24 #[.int .i64 0, .slice none 0 0]).alloc (.cells #[] 94)
      rwa [World.size_alloc] at h
    · have h := World.ownsRow_lit (base := w.heap.size + 2) (e := 94) (size := 2) ((w.alloc (.cells #[.int .i64 wh, .slice A l.length c] 24)).alloc (.cells #[.int .i64 0, .slice none 0 0] 24)) #[] 0 (by simp) (by unfold maxLen; omega) rfl
      rw [World.size_alloc, World.size_alloc] at h
      exact h)
  have HP := hide (fun W (hb : Below w.heap.size w W) => hp.below (hb.mono hB))
  have HM8 := hide hm8
  clear hp hm8
  go_enter Tryz.func18, Tryz.ntmps18
  go_wp2
  rw [← hw0]
  clear hw0
  go_loopw [3, 4] (fun o i W => ∃ (k : Nat) (L : List PieceV), k ≤ l.length ∧ i = .int .i64 k ∧ OldI w W A c l wh o k L ∧ w.heap.size + 3 ≤ W.heap.size) (fun _ i _ => l.length - (intOf i).toNat)
  case atStart => exact ⟨0, [], by omega, rfl, HI0.out, by omega⟩
  case round =>
    obtain ⟨k, L, hk, rfl, hI, hWz⟩ := hrel
    have HI := hide hI
    obtain ⟨x0, x1, _, xf1⟩ := hI.blk.two
    clear hI HI0
    by_cases hkl : (k : Int) < (l.length : Int)
    · have hk1 : k < l.length := by omega
      have HPk := hide (HP.out _ HI.out.below)
      obtain ⟨ad, rfl, had, ha0, ha1⟩ := HPk.out.at_ hk1
      have hpi := HPk.out.2 l[k] (List.getElem_mem hk1)
      have hm9 := HM8.out l[k] (List.getElem_mem hk1)
      have hpn := IntsQ.len hpi
      have HFL := hide (show l[k].flat = l[k].flat from rfl)
      obtain ⟨pk, hpk⟩ : ∃ pk, pk = l[k] := ⟨_, rfl⟩
      rw [← hpk] at ha0 ha1 hpi hm9 hpn
      have HPK := hide (show pk.flat = l[k].flat by rw [hpk])
      clear hpk HFL
      obtain ⟨mi, Ap, np, cp, ms⟩ := pk
      dsimp only at ha0 ha1 hpi hm9 hpn
      subst hpn
      have HPI := hide hpi
      clear hpi
      have adB : ad.block < w.heap.size + 2 := by omega
      obtain ⟨Ao, co, rfl⟩ := own_shape HI.out.row
      go_wp2
      obtain ⟨W, hWr⟩ : ∃ W, W = wr := ⟨_, rfl⟩
      subst hWr
      have hk2 : k ≤ 1000 := by omega
      · refine wp_region_till (fun w' => Below (w.heap.size + 2) W w') 17 (fun _ => True) 17 (fun _ => True) (by kernel_rfl) ⟨Below.drew (Below.refl _ _), fun _ => trivial, fun _ => trivial⟩ (fun hHeld => ?_)
        refine wpTill_take 0 rfl (by decide +kernel) (fun _ _ _ h => h) (by rfl) (v := ?_) ?_ hHeld (fun hHeld' => ?_)
        rotate_left 1
        focus (intro w' hSw; obtain ⟨hC, hF, hG⟩ := hSw; clear hF; clear hG; clear hC; go_simp; first | done | with_reducible rfl)
        clear hHeld
        rename Till _ _ _ _ _ _ _ => hHeld
        simp only [Act.put, List.setIfInBounds_toArray, List.set_cons_zero, List.set_cons_succ]
        refine wpTill_take 1 rfl (by decide +kernel) (fun _ _ _ h => h) (by rfl) (v := ?_) ?_ hHeld (fun hHeld' => ?_)
        rotate_left 1
        focus (intro w' hSw; obtain ⟨hC, hF, hG⟩ := hSw; clear hF; clear hG; clear hC; go_simp; first | done | with_reducible rfl)
        clear hHeld
        rename Till _ _ _ _ _ _ _ => hHeld
        simp only [Act.put, List.setIfInBounds_toArray, List.set_cons_zero, List.set_cons_succ]
        refine wpTill_take 2 rfl (by decide +kernel) (fun _ _ _ h => h) (by rfl) (v := ?_) ?_ hHeld (fun hHeld' => ?_)
        rotate_left 1
        focus (intro w' hSw; obtain ⟨hC, hF, hG⟩ := hSw; clear hF; clear hG; have c1 := (hC.cell (p := ⟨w.heap.size, 1, none⟩) (by show w.heap.size < _; omega)).trans x1; clear hC; go_simp; first | done | with_reducible rfl)
        clear hHeld
        rename Till _ _ _ _ _ _ _ => hHeld
        simp only [Act.put, List.setIfInBounds_toArray, List.set_cons_zero, List.set_cons_succ]
        refine wpTill_take 3 rfl (by decide +kernel) (fun _ _ _ h => h) (by rfl) (v := ?_) ?_ hHeld (fun hHeld' => ?_)
        rotate_left 1
        focus (intro w' hSw; obtain ⟨hC, hF, hG⟩ := hSw; clear hF; clear hG; clear hC; go_simp; first | done | with_reducible rfl)
        clear hHeld
        rename Till _ _ _ _ _ _ _ => hHeld
        simp only [Act.put, List.setIfInBounds_toArray, List.set_cons_zero, List.set_cons_succ]
        refine wpTill_take 4 rfl (by decide +kernel) (fun _ _ _ h => h) (by rfl) (v := ?_) ?_ hHeld (fun hHeld' => ?_)
        rotate_left 1
        focus (intro w' hSw; obtain ⟨hC, hF, hG⟩ := hSw; clear hF; clear hG; clear hC; go_simp; first | done | with_reducible rfl)
        clear hHeld
        rename Till _ _ _ _ _ _ _ => hHeld
        simp only [Act.put, List.setIfInBounds_toArray, List.set_cons_zero, List.set_cons_succ]
        refine wpTill_take 5 rfl (by decide +kernel) (fun _ _ _ h => h) (by rfl) (v := ?_) ?_ hHeld (fun hHeld' => ?_)
        rotate_left 1
        focus (intro w' hSw; obtain ⟨hC, hF, hG⟩ := hSw; clear hF; clear hG; clear hC; go_simp; first | done | with_reducible rfl)
        clear hHeld
        rename Till _ _ _ _ _ _ _ => hHeld
        simp only [Act.put, List.setIfInBounds_toArray, List.set_cons_zero, List.set_cons_succ]
        refine wpTill_take 6 rfl (by decide +kernel) (fun _ _ _ h => h) (by rfl) (v := ?_) ?_ hHeld (fun hHeld' => ?_)
        rotate_left 1
        focus (intro w' hSw; obtain ⟨hC, hF, hG⟩ := hSw; clear hF; clear hG; have c2 := (hC.cell (p := ad.add (k * 2)) (by rw [addr_block]; omega)).trans ha0; clear hC; go_simp; first | done | with_reducible rfl)
        clear hHeld
        rename Till _ _ _ _ _ _ _ => hHeld
        simp only [Act.put, List.setIfInBounds_toArray, List.set_cons_zero, List.set_cons_succ]
        refine wpTill_take 8 rfl (by decide +kernel) (fun _ _ _ h => h) (by rfl) (v := ?_) ?_ hHeld (fun hHeld' => ?_)
        rotate_left 1
        focus (intro w' hSw; obtain ⟨hC, hF, hG⟩ := hSw; clear hF; clear hG; clear hC; go_simp; first | done | with_reducible rfl)
        clear hHeld
        rename Till _ _ _ _ _ _ _ => hHeld
        simp only [Act.put, List.setIfInBounds_toArray, List.set_cons_zero, List.set_cons_succ]
        refine wpTill_take 9 rfl (by decide +kernel) (fun _ _ _ h => h) (by rfl) (v := ?_) ?_ hHeld (fun hHeld' => ?_)
        rotate_left 1
        focus (intro w' hSw; obtain ⟨hC, hF, hG⟩ := hSw; clear hF; clear hG; have c1 := (hC.cell (p := ⟨w.heap.size, 1, none⟩) (by show w.heap.size < _; omega)).trans x1; clear hC; go_simp; first | done | with_reducible rfl)
        clear hHeld
        rename Till _ _ _ _ _ _ _ => hHeld
        simp only [Act.put, List.setIfInBounds_toArray, List.set_cons_zero, List.set_cons_succ]
        refine wpTill_take 10 rfl (by decide +kernel) (fun _ _ _ h => h) (by rfl) (v := ?_) ?_ hHeld (fun hHeld' => ?_)
        rotate_left 1
        focus (intro w' hSw; obtain ⟨hC, hF, hG⟩ := hSw; clear hF; clear hG; clear hC; go_simp; first | done | with_reducible rfl)
        clear hHeld
        rename Till _ _ _ _ _ _ _ => hHeld
        simp only [Act.put, List.setIfInBounds_toArray, List.set_cons_zero, List.set_cons_succ]
        refine wpTill_take 11 rfl (by decide +kernel) (fun _ _ _ h => h) (by rfl) (v := ?_) ?_ hHeld (fun hHeld' => ?_)
        rotate_left 1
        focus (intro w' hSw; obtain ⟨hC, hF, hG⟩ := hSw; clear hF; clear hG; clear hC; go_simp; first | done | with_reducible rfl)
        clear hHeld
        rename Till _ _ _ _ _ _ _ => hHeld
        simp only [Act.put, List.setIfInBounds_toArray, List.set_cons_zero, List.set_cons_succ]
        refine wpTill_take 12 rfl (by decide +kernel) (fun _ _ _ h => h) (by rfl) (v := ?_) ?_ hHeld (fun hHeld' => ?_)
        rotate_left 1
        focus (intro w' hSw; obtain ⟨hC, hF, hG⟩ := hSw; clear hF; clear hG; clear hC; go_simp; first | done | with_reducible rfl)
        clear hHeld
        rename Till _ _ _ _ _ _ _ => hHeld
        simp only [Act.put, List.setIfInBounds_toArray, List.set_cons_zero, List.set_cons_succ]
        refine wpTill_take 13 rfl (by decide +kernel) (fun _ _ _ h => h) (by rfl) (v := ?_) ?_ hHeld (fun hHeld' => ?_)
        rotate_left 1
        focus (intro w' hSw; obtain ⟨hC, hF, hG⟩ := hSw; clear hF; clear hG; have c3 := (hC.cell (p := ⟨(ad.add (k * 2)).block, (ad.add (k * 2)).off + 1, none⟩) (by show (ad.add (k * 2)).block < _; rw [addr_block]; omega)).trans ha1; clear hC; go_simp; first | done | with_reducible rfl)
        clear hHeld
        rename Till _ _ _ _ _ _ _ => hHeld
        simp only [Act.put, List.setIfInBounds_toArray, List.set_cons_zero, List.set_cons_succ]

        have HLm := hide (World.ownsRow_lit (base := w.heap.size + 2) (e := 3) (size := 1) W.drew #[] 0 (by show _ ≤ W.heap.size; omega) (by unfold maxLen; omega) rfl)
        have HPI2 := hide (Rq.alloc (show Rq W.drew B 1 Ap ms.length cp (ms.map (Value.int .i64)) from HPI.out) (by show B ≤ W.heap.size; omega) (.cells #[] 3))
        have HB2 := hide ((Below.drew (Below.refl (w.heap.size + 2) W)).alloc (by show _ ≤ W.heap.size; omega) (.cells #[] 3))
        refine wpTill_one 7 rfl (by decide +kernel) (fun K hK => ?_)
        go_simp
        refine hK.out _ _ ⟨HB2.out, fun _ => trivial, fun _ => trivial⟩ (fun hHeld => ?_)
        clear hK K
        refine wpTill_one 14 rfl (by decide +kernel) (fun K hK => ?_)
        refine step_append_q rfl _ _ 66 rfl (w.heap.size + 2) 3 i0 (.int .i64 0) 1 8 Tryz.underlying66 hi0 hz0 hz1 hz2 rfl (by decide) (.slice (some ⟨W.heap.size, 0, none⟩) 0 0) 0 _ rfl HLm.out Ap ms.length cp B (ms.map (Value.int .i64)) rfl HPI2.out (by intro u hu; obtain ⟨d, _, rfl⟩ := List.mem_map.1 hu; rfl) (by unfold maxLen; omega) (by omega) (by simp; omega) ?_
        intro A3 c3 w3 ho3 hg3
        have HO3 : Hid (w3.ownsRow (w.heap.size + 2) 3 1 (.slice A3 ms.length c3) ms.length (ms.map (Value.int .i64))) := hide (by simpa using ho3)
        have HKP : Hid (∀ (base s n : Nat) (e : TypeId) (v : Value) (xs : List Value), W.ownsRow base e s v n xs → w3.ownsRow base e s v n xs) := hide (fun base s n e v xs h => own_kept_of ((World.ownsRow.drew h).alloc _) hg3 (fun g e1 e2 => by
          have h5 := (h.lt g e1).2
          have e3 : W.heap.size = g := Option.some.inj e2
          omega))
        have HB3 := hide (HB2.out.grown hg3 (by simp; omega) (fun j e => by have e3 : W.heap.size = j := Option.some.inj e; omega))
        have hz3 : W.heap.size + 1 ≤ w3.heap.size := by have := hg3.size; simpa using this
        rw [Nat.zero_add] at ho3 ⊢
        refine hK.out _ _ ⟨HB3.out, fun _ => trivial, fun _ => trivial⟩ (fun hHeld => ?_)
        clear hK K ho3 hg3
        simp only [Act.put, List.setIfInBounds_toArray, List.set_cons_zero, List.set_cons_succ]
        refine wpTill_take 15 rfl (by decide +kernel) (fun _ _ _ h => h) (by rfl) (v := ?_) ?_ hHeld (fun hHeld' => ?_)
        rotate_left 1
        focus (intro w' hSw; obtain ⟨hC, hF, hG⟩ := hSw; clear hF; clear hG; clear hC; go_simp; first | done | with_reducible rfl)
        clear hHeld
        rename Till _ _ _ _ _ _ _ => hHeld
        simp only [Act.put, List.setIfInBounds_toArray, List.set_cons_zero, List.set_cons_succ]
        have HB4 := hide (HB3.out.alloc (by omega) (.cells #[.bool mi, .slice A3 ms.length c3] 94))
        have HR4 := hide ((HKP.out _ _ _ _ _ _ HI.out.row).alloc (.cells #[.bool mi, .slice A3 ms.length c3] 94))
        refine wpTill_one 16 rfl (by decide +kernel) (fun K hK => ?_)
        go_simp
        refine hK.out _ _ ⟨HB4.out, fun _ => trivial, fun _ => trivial⟩ (fun hHeld => ?_)
        clear hK K
        refine wpTill_one 17 rfl (by decide +kernel) (fun K hK => ?_)
        refine step_append_lies _ rfl _ _ 22 rfl (w.heap.size + 2) 94 i1 (.agg #[.bool false, .slice none 0 0]) 2 32 Tryz.underlying22 hi1 hy0 hy1 hy2 rfl (by decide) (.slice Ao k co) k _ rfl HR4.out ⟨w3.heap.size, 0, none⟩ 1 1 [.bool mi, .slice A3 ms.length c3] rfl rfl (cell_new2 _ _ _ _) (by simp [Value.oneCell']) (by decide) (by unfold maxLen; omega) (by omega) (by simp; omega) _ rfl ?_
        intro g cap w4 ho4 hg4 _ hlt4
        have HO4 := hide ho4
        have HG4 := hide hg4
        have HN := hide (HI.out.next (p := ⟨mi, A3, ms.length, c3, ms⟩) HB4.out ho4 HR4.out (fun q hq => (HKP.out _ _ _ _ _ _ (HI.out.marks q hq)).alloc _) (HO3.out.alloc _) hg4 hk1 HPK.out (by omega))
        have HB5 := hide (HB4.out.grown hg4 (by simp; omega) (fun j e => (HR4.out.lt j e).1))
        have hz4 : w3.heap.size + 1 ≤ w4.heap.size := by have := hg4.size; simpa using this
        refine hK.out _ _ ⟨HB5.out, fun _ => trivial, fun _ => trivial⟩ (fun hHeld => ?_)
        clear hK K ho4 hg4
        simp only [Act.put, List.setIfInBounds_toArray, List.set_cons_zero, List.set_cons_succ]
        refine wpTill_take 18 rfl (by decide +kernel) (fun _ _ _ h => h) (by rfl) (v := ?_) ?_ hHeld (fun hHeld' => ?_)
        rotate_left 1
        focus (intro w' hSw; obtain ⟨hC, hF, hG⟩ := hSw; clear hF; clear hG; clear hC; go_simp; first | done | with_reducible rfl)
        clear hHeld
        rename Till _ _ _ _ _ _ _ => hHeld
        simp only [Act.put, List.setIfInBounds_toArray, List.set_cons_zero, List.set_cons_succ]
        refine wpTill_done (by decide +kernel) ?_
        clear hHeld
        go_wp2
        exact ⟨⟨k + 1, L ++ [⟨mi, A3, ms.length, c3, ms⟩], by omega, by go_num, HN.out, by omega⟩, by simp [intOf]; omega⟩
    · obtain rfl : k = l.length := by omega
      obtain ⟨Ao, co, rfl⟩ := own_shape HI.out.row
      obtain ⟨z0, z1, zf0, zf1⟩ := HI.out.blk2.two
      go_wp2
      have HB1 := hide (((HI.out.below.setCell (p := ⟨w.heap.size, 1, none⟩) (Nat.le_refl _) (.slice Ao l.length co)).setCell (p := ⟨w.heap.size + 1, 0, none⟩) (by show w.heap.size ≤ w.heap.size + 1; omega) (.int .i64 wh)).setCell (p := ⟨w.heap.size + 1, 1, none⟩) (by show w.heap.size ≤ w.heap.size + 1; omega) (.slice Ao l.length co))
      have HK1 : Hid (∀ (s n : Nat) (e : TypeId) (v : Value) (xs : List Value), wr.ownsRow (w.heap.size + 2) e s v n xs → (((wr.setCell ⟨w.heap.size, 1, none⟩ (.slice Ao l.length co)).setCell ⟨w.heap.size + 1, 0, none⟩ (.int .i64 wh)).setCell ⟨w.heap.size + 1, 1, none⟩ (.slice Ao l.length co)).ownsRow (w.heap.size + 2) e s v n xs) := hide (fun s n e v xs h =>
        ownsRow_setCell_below (ownsRow_setCell_below (ownsRow_setCell_below h (by show w.heap.size < _; omega) _) (by show w.heap.size + 1 < _; omega) _) (by show w.heap.size + 1 < _; omega) _)
      refine bodyPost_cell (p := 2) (ty := 24) rfl rfl (((HI.out.blk2.far (p := ⟨w.heap.size, 1, none⟩) (by simp) _).set_ 0 _).set_ 1 _) (d := _) rfl Tryz.underlying24 Tryz.sizeOld rfl ?_
      have hf := HI.out.flat
      rw [List.take_of_length_le (by simp)] at hf
      have hll : L.length = l.length := by have := congrArg List.length hf; simpa using this
      exact ⟨Ao, co, rfl, L, ⟨Rd.of_own (HK1.out _ _ _ _ _ HI.out.row), fun p hp => Rd.of_own (HK1.out _ _ _ _ _ (HI.out.marks p hp))⟩, hf, HB1.out⟩
end Go.Proofs.YtaacnbnmlfhnaaaGreatDoor
