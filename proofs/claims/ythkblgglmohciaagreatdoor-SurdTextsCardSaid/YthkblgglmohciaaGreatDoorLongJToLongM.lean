import Derived.Test.YthkblgglmohciaaGreatDoorLongFToLongI
import Derived.Test.YthkblgglmohciaaGreatDoorRFToKVOps
import Derived.Stop.RegionWithIn
set_option linter.unusedVariables false
set_option linter.unusedSimpArgs false
namespace Go.Proofs.YthkblgglmohciaaGreatDoor
open Go.RowKit
attribute [local go_sem] Oper.semAt_some
def backL (ds : List Nat) : Nat → List (Nat × Nat)
 | 0 => []
 | k + 1 => (k, ds.getD k 0) :: backL ds k
def encIW (x : Nat × Nat) : Array Value := #[.int .i64 (x.1 : Int), .int .u32 (x.2 : Int)]
def blkOf (A : Option Addr) (c : Nat) : Prop := A = some ⟨c, 0, none⟩ ∨ ∃ ad, A = some ad ∧ ad.block = c
theorem Words.keepB {w w' : World} {B n c : Nat} {A : Option Addr} {ds : List Nat} (h : Words w B A n c ds) {R : Nat → Prop} (hk : KeepB R w w') (hR : ∀ ad, A = some ad → R ad.block) : Words w' B A n c ds :=
 RdT.keep h fun ad ha => hk.same _ (hR ad ha)
theorem enters_back (args : Array Value) (w : World) : (callFunc 167 args).run Tryz.prog w = .ok (.enter 167 args) w := enters_of Tryz.func167 (by kernel_rfl) rfl args w
set_option maxHeartbeats 1000000 in
set_option maxRecDepth 100000 in
theorem back_gives (B1 : Nat) (B : Nat) (A : Option Addr) (n c : Nat) (ds : List Nat) (w0 : World) (h : Words w0 B A n c ds) (hB1 : Box w0 B1 105 (.slice A n c)) :
  Gives Tryz.prog 167 #[.pointer (some ⟨B1, 0, none⟩)] encIW (fun ys => ys = backL ds n) (fun pre => ∃ rest, pre ++ rest = backL ds n) (fun b => b = B1 ∨ ∃ ad, A = some ad ∧ ad.block = b) 0 w0 := by
 intro l J Jx W hW hJ hJx hY h0
 have hm := h.nmax
 have hl := h.len
 have hBl : B1 < w0.heap.size := hB1.lt
 have HBX := hide (hB1.below hW hBl)
 have HWD := hide (RdT.below h hW (Nat.le_refl _))
 have hadl := hide (fun ad (e : A = some ad) => RdT.lt h e)
 have HW := hide hW
 have HY := hide hY
 have H0 := hide h0
 clear h hB1 hW hJ hJx hY h0
 subst hl
 refine callsIn_of_wp Tryz.func167 rfl trivial ?_
 simp only [Tryz.ntmps167, List.size_toArray, List.length_cons, List.length_nil, Nat.reduceAdd, Nat.reduceSub, Array.replicate_succ, Array.replicate_zero, List.push_toArray, List.append_toArray, List.nil_append, List.cons_append]
 have hcb := HBX.out.cell
 gi_wp2
 gi_loopw [3] (fun i V => ∃ (k : Nat) (pre : List (Nat × Nat)), k ≤ ds.length ∧ i = .int .i64 ((k : Int) - 1) ∧ pre ++ backL ds k = backL ds ds.length ∧ J pre V ∧ Box V B1 105 (.slice A ds.length c) ∧ Words V B A ds.length c ds ∧ W.heap.size ≤ V.heap.size) (fun i _ => (intOf i + 1).toNat)
 case atStart => exact ⟨ds.length, [], by omega, rfl, rfl, H0.out, HBX.out, HWD.out, Nat.le_refl _⟩
 case round =>
  obtain ⟨k, pre, hk, rfl, hp, hJp, hbx, hwd, hsz⟩ := hrel
  have HP := hide hp
  have HJp := hide hJp
  have HBX2 := hide hbx
  have HWD2 := hide hwd
  clear hp hJp hbx hwd hcb
  rcases Nat.eq_zero_or_pos k with rfl | hpos
  ·gi_wp2
   go_end0
   have hp := HP.out
   simp only [backL, List.append_nil] at hp
   exact ⟨⟨_, rfl⟩, .inl ⟨pre, hp, HJp.out⟩⟩
  ·obtain ⟨j, rfl⟩ : ∃ j, k = j + 1 := ⟨k - 1, by omega⟩
   have hj : (((j + 1 : Nat) : Int) - 1) = (j : Int) := by omega
   rw [hj]
   have hlt : j < ds.length := by omega
   have hlti : (j : Int) < (ds.length : Int) := by omega
   obtain ⟨ad, rfl, hca⟩ := HWD2.out.at_ hlt
   have hcb := HBX2.out.cell
   have hgd : ds[j] = ds.getD j 0 := by rw [List.getD_eq_getElem?_getD, List.getElem?_eq_getElem hlt]; rfl
   rw [hgd] at hca
   have HP2 : Hid ((pre ++ [(j, ds.getD j 0)]) ++ backL ds j = backL ds ds.length) := hide (by rw [← HP.out]; simp [backL])
   obtain ⟨fn, tm, as_, bd, hy, hR⟩ := HY.out pre (j, ds.getD j 0) wr ⟨_, HP2.out⟩ HJp.out (by omega)
   have HR := hide hR; clear hR hgd
   simp only [encIW] at hy
   generalize ds.getD j 0 = x at *
   gi_wp2
   refine ⟨rfl, HR.out.mono ?_⟩
   rintro e V (⟨rfl, hJ', hk'⟩ | ⟨rfl, hJx', _⟩)
   ·have HJ' := hide hJ'; clear hJ'
    have HK := hide hk'; clear hk'
    gi_wp2
    go_roundw
    case rel =>
     exact ⟨j, pre ++ [(j, x)], by omega, rfl, HP2.out, HJ'.out, HBX2.out.of_block (HK.out.same _ (.inl (.inl rfl))), HWD2.out.keepB HK.out (fun ad' e => .inl (.inr ⟨ad', e, rfl⟩)), by have := HK.out.size; omega⟩
    case measure => simp [intOf]
   ·have HJx' := hide hJx'; clear hJx'
    gi_wp2
    refine bodyPost_ret (results_none rfl _ _ _) rfl ?_
    exact ⟨⟨_, rfl⟩, .inr ⟨pre ++ [(j, x)], ⟨_, HP2.out⟩, HJx'.out⟩⟩
end Go.Proofs.YthkblgglmohciaaGreatDoor
namespace Go.Proofs.YthkblgglmohciaaGreatDoor
open Go.RowKit
attribute [local go_sem] Oper.semAt_some
theorem backward_any (A : Option Addr) (n c : Nat) (w : World) : Calls Tryz.prog 135 #[.slice A n c] w fun e w' =>
  e = .returned (.func (.func 167) #[] #[.pointer (some ⟨w.heap.size, 0, none⟩)]) ∧ w' = w.alloc (.cells #[.slice A n c] 105) := by
 go_enter Tryz.func135, Tryz.ntmps135
 go_wp2
 go_ret
 exact ⟨rfl, rfl⟩
theorem pairs_any (A : Option Addr) (n c : Nat) (w : World) : Calls Tryz.prog 111 #[.slice A n c] w fun e w' =>
  e = .returned (.func (.func 134) #[] #[.pointer (some ⟨w.heap.size, 0, none⟩)]) ∧ w' = w.alloc (.cells #[.slice A n c] 105) := by
 go_enter Tryz.func111, Tryz.ntmps111
 go_wp2
 go_ret
 exact ⟨rfl, rfl⟩
def pairsK (x : Nat) : Nat → List Nat
 | 0 => []
 | j + 1 => x / 4 ^ j % 4 :: pairsK x j
def pairsI (l : List (Nat × Nat)) : List Nat := l.flatMap fun p => pairsK p.2 16
def encP (x : Nat) : Array Value := #[.int .u32 (x : Int)]
theorem pairsI_snoc (l : List (Nat × Nat)) (p : Nat × Nat) : pairsI (l ++ [p]) = pairsI l ++ pairsK p.2 16 := by simp [pairsI, List.flatMap_append]
theorem backL_lt {ds : List Nat} (h : OK32 ds) : ∀ (k : Nat) (p : Nat × Nat), p ∈ backL ds k → p.2 < 4294967296
 | k + 1, p, hp => by
  rcases List.mem_cons.1 hp with rfl | hp
  ·exact getD_lt h k
  ·exact backL_lt h k p hp
theorem shr_pair (x j : Nat) (hx : x < 4294967296) : bits BinOp.and IntKind.u32 ((x : Int) / 2 ^ (2 * (j : Int)).toNat) 3 = ((x / 4 ^ j % 4 : Nat) : Int) := by
 have e1 : (2 * (j : Int)).toNat = 2 * j := by omega
 have h4 : (2 : Nat) ^ (2 * j) = 4 ^ j := by rw [Nat.pow_mul]
 have h2 : (2 : Int) ^ (2 * j) = ((4 ^ j : Nat) : Int) := by rw [← h4, Int.natCast_pow]; rfl
 have e2 : (x : Int) / 2 ^ (2 * j) = ((x / 4 ^ j : Nat) : Int) := by rw [h2, ← Int.natCast_ediv]
 have h5 : x / 4 ^ j < 4294967296 := Nat.lt_of_le_of_lt (Nat.div_le_self _ _) hx
 rw [e1, e2]
 have h6 := Go.u32_and_nat (x / 4 ^ j) 3 h5 (by decide)
 have h7 : x / 4 ^ j &&& 3 = x / 4 ^ j % 4 := Nat.and_two_pow_sub_one_eq_mod (x / 4 ^ j) 2
 rw [h7] at h6
 exact h6
theorem two_ways {e : Ending} {p q : Prop} (h : (e = .returned (.bool true) ∧ p) ∨ (e = .returned (.bool false) ∧ q)) : ∃ b : Bool, e = .returned (.bool b) ∧ (b = true → p) ∧ (b = false → q) := by
 rcases h with ⟨rfl, h⟩ | ⟨rfl, h⟩
 ·exact ⟨true, rfl, fun _ => h, by simp⟩
 ·exact ⟨false, rfl, by simp, fun _ => h⟩
theorem enters_pairs (args : Array Value) (w : World) : (callFunc 134 args).run Tryz.prog w = .ok (.enter 134 args) w := enters_of Tryz.func134 (by kernel_rfl) rfl args w
set_option maxHeartbeats 2000000 in
set_option maxRecDepth 100000 in
theorem pairs_gives (B1 : Nat) (B : Nat) (A : Option Addr) (n c : Nat) (ds : List Nat) (w0 : World) (h : Words w0 B A n c ds) (hB1 : Box w0 B1 105 (.slice A n c)) (hok : OK32 ds) :
  Gives Tryz.prog 134 #[.pointer (some ⟨B1, 0, none⟩)] encP (fun ys => ys = pairsI (backL ds n)) (fun pre => ∃ rest, pre ++ rest = pairsI (backL ds n)) (fun b => b = B1 ∨ ∃ ad, A = some ad ∧ ad.block = b) 4 w0 := by
 intro l J Jx W hW hJ hJx hY h0
 have hm := h.nmax
 have hl := h.len
 have hBl : B1 < w0.heap.size := hB1.lt
 have HBX := hide (hB1.below hW hBl)
 have HWD := hide (RdT.below h hW (Nat.le_refl _))
 have hadl := hide (fun ad (e : A = some ad) => RdT.lt h e)
 have HW := hide hW
 have HY := hide hY
 have HJ := hide hJ
 have HJx := hide hJx
 have H0 := hide h0
 clear h hB1 hW hJ hJx hY h0
 subst hl
 have HBW := hide (fun n => (callsIn_wide (n := n)).2 (backward_any A ds.length c (W.alloc (.cells #[.func (.yield l) #[] #[]] 161))))
 refine callsIn_of_wp_marks Tryz.func134 rfl trivial ?_ rfl
 simp only [Tryz.ntmps134, List.size_toArray, List.length_cons, List.length_nil, Nat.reduceAdd, Nat.reduceSub, Array.replicate_succ, Array.replicate_zero, List.push_toArray, List.append_toArray, List.nil_append, List.cons_append]
 have hcb : ∀ o, (W.alloc o).cell? ⟨B1, 0, none⟩ = some (.slice A ds.length c) := fun o => (HBX.out.alloc o).cell
 gi_wp2_with fail
 refine ⟨trivial, rfl, CallsIn.mono (HBW.out _) ?_⟩
 rintro e w1 ⟨rfl, rfl⟩
 gi_wp2_with fail
 have HBG := hide (back_gives (W.heap.size + 1) B A ds.length c ds ((W.alloc (.cells #[.func (.yield l) #[] #[]] 161)).alloc (.cells #[.slice A ds.length c] 105)) (RdT.alloc (RdT.alloc HWD.out _) _) (by have := Box.new (W.alloc (.cells #[.func (.yield l) #[] #[]] 161)) 105 (.slice A ds.length c); simpa using this))
 refine wp_range (gf := 167) rfl enters_back HBG.out (w0 := (W.alloc (.cells #[.func (.yield l) #[] #[]] 161)).alloc (.cells #[.slice A ds.length c] 105)) (Below.refl _ _) ?_ (fun _ => rfl)
  (fun pre V => J (pairsI pre) V ∧ Box V W.heap.size 161 (.func (.yield l) #[] #[]) ∧ W.heap.size + 2 ≤ V.heap.size) (fun cd pre V => cd = .ret ∧ ∃ pr, (∃ rest, pr ++ rest = pairsI (backL ds ds.length)) ∧ Jx pr V) ?_ ?_ ?_ ?_ ?_ ?_
 ·rintro b (rfl | ⟨ad, e, rfl⟩)
  ·simp
  ·have h1 := hadl.out ad e; have h2 := HW.out.size; simp; omega
 ·rintro s V V' row ⟨h1, h2, h3⟩ hg hr
  simp only [World.size_alloc] at hr
  refine ⟨HJ.out _ _ _ _ h1 hg (fun b e => by have := hr b e; omega), h2.grown hg (fun e => by have := hr _ e; omega), Nat.le_trans h3 hg.size⟩
 ·rintro cd s V V' row ⟨h1, pr, h2, h3⟩ hg hr
  simp only [World.size_alloc] at hr
  exact ⟨h1, pr, h2, HJx.out _ _ _ _ h3 hg (fun b e => by have := hr b e; omega)⟩
 ·refine ⟨HJ.out _ _ _ none (HJ.out _ _ _ none H0.out (World.grownBy_alloc _ _ _) (by simp)) (World.grownBy_alloc _ _ _) (by simp), (Box.new W _ _).alloc _, by simp⟩
 ·rintro pre x V hsp ⟨hj, hbx, hvz⟩ hsz
  simp only [World.size_alloc] at hsz ⊢
  have HJp := hide hj
  have HBXV := hide hbx
  have HSP := hide hsp
  clear hj hbx hsp
  obtain ⟨xi, xw⟩ := x
  simp only [encIW]
  gi_wp2
  refine ⟨KeepB.refl _ _, ?_⟩
  intro V2 hg2 hzz
  have HJ2 := hide (HJ.out _ _ _ _ HJp.out hg2 (fun b e => by cases e; omega))
  have HB2 := hide (HBXV.out.grown hg2 (by simp; omega))
  have hz2 : W.heap.size + 4 ≤ V2.heap.size := by omega
  clear HJp HBXV hg2 hzz hcb
  gi_wp2
  gi_loopw [5] (fun i U => ∃ (k : Nat) (out : List Nat), k ≤ 16 ∧ i = .int .i64 (2 * (k : Int) - 2) ∧ out ++ pairsK xw k = pairsK xw 16 ∧ J (pairsI pre ++ out) U ∧ Box U W.heap.size 161 (.func (.yield l) #[] #[]) ∧
   KeepB (fun b => (b = W.heap.size + 1 ∨ ∃ ad, A = some ad ∧ ad.block = b) ∨ (W.heap.size + 1 + 1 ≤ b ∧ b < W.heap.size + 1 + 1 + 2 + 0)) V2 U) (fun i _ => (intOf i + 2).toNat)
  case atStart => exact ⟨16, [], by omega, rfl, rfl, by simpa using HJ2.out, HB2.out, KeepB.refl _ _⟩
  case round =>
   obtain ⟨k, out, hk, rfl, ho, hj, hbx, hkp⟩ := hrel
   have HO := hide ho
   have HJU := hide hj
   have HBU := hide hbx
   have HKU := hide hkp
   have hkz := hkp.size
   clear ho hj hbx hkp HJ2 HB2
   rcases Nat.eq_zero_or_pos k with rfl | hpos
   ·gi_wp2
    refine ⟨HKU.out, ?_, HBU.out, by omega⟩
    have h1 : out ++ pairsK xw 0 = pairsK xw 16 := HO.out
    rw [show pairsK xw 0 = [] from rfl, List.append_nil] at h1
    rw [pairsI_snoc, ← h1]
    exact HJU.out
   ·obtain ⟨j, rfl⟩ : ∃ j, k = j + 1 := ⟨k - 1, by omega⟩
    have hj2 : (2 * ((j + 1 : Nat) : Int) - 2) = (2 * j : Int) := by omega
    rw [hj2]
    obtain ⟨rest, hrest⟩ := HSP.out
    have hsp' : ∃ rest, ((pairsI pre ++ out) ++ [xw / 4 ^ j % 4]) ++ rest = pairsI (backL ds ds.length) := by
     refine ⟨pairsK xw j ++ pairsI rest, ?_⟩
     have h1 : out ++ (xw / 4 ^ j % 4 :: pairsK xw j) = pairsK xw 16 := HO.out
     rw [← hrest]
     simp only [pairsI, List.flatMap_append, List.flatMap_cons, List.flatMap_nil, List.append_nil]
     rw [← h1]
     simp
    obtain ⟨fn, tm, as_, bd, hy, hR⟩ := HY.out (pairsI pre ++ out) (xw / 4 ^ j % 4) wr.drew hsp' (HJ.out _ _ _ none HJU.out (fr_drew (fr_refl _ _)) (by simp)) (by show _ ≤ wr.heap.size; omega)
    have HR := hide hR; clear hR
    simp only [encP] at hy
    have hcb := HBU.out.cell
    have hxw : xw < 4294967296 := backL_lt hok ds.length (xi, xw) (by rw [← hrest]; simp)
    have hbits := shr_pair xw j hxw
    have HO2 : Hid ((out ++ [xw / 4 ^ j % 4]) ++ pairsK xw j = pairsK xw 16) := hide (by
     have h1 : out ++ (xw / 4 ^ j % 4 :: pairsK xw j) = pairsK xw 16 := HO.out
     rw [← h1]; simp)
    have hsp2 := hide hsp'
    clear HO hsp' hrest
    generalize xw / 4 ^ j % 4 = p at *
    gi_wp2
    gi_region_with (first
     | (refine ⟨rfl, HR.out.mono ?_⟩
        rintro e V3 hV3
        obtain ⟨bb, rfl, hT, hF⟩ := two_ways hV3))
    all_goals
     have hbx3 : bb = true → Box V3 W.heap.size 161 (.func (.yield l) #[] #[]) := fun e => HBU.out.of_block ((hT e).2.same _ (.inr (by omega)))
     have HT := hide hT; have HF := hide hF; have HBX3 := hide hbx3
     clear hT hF hbx3
     have hkeep : ∀ (K : KeepB (fun b => (b = B1 ∨ ∃ ad, A = some ad ∧ ad.block = b) ∨ W.heap.size ≤ b ∧ b < W.heap.size + 4) wr.drew V3), KeepB (fun b => (b = W.heap.size + 1 ∨ ∃ ad, A = some ad ∧ ad.block = b) ∨ (W.heap.size + 1 + 1 ≤ b ∧ b < W.heap.size + 1 + 1 + 2 + 0)) V2 V3 := fun K =>
      (HKU.out.drewN 1).trans (K.mono (by rintro b ((h | h) | h); exact .inr (by omega); exact .inl (.inr h); exact .inr (by omega)))
     have hkeep := hide hkeep
     cases bb
     ·gi_wp2
      have h := HF.out (by first | rfl | trivial)
      exact ⟨hkeep.out h.2, rfl, _, hsp2.out, h.1⟩
     ·gi_wp2
      go_roundw
      case rel =>
       have h := HT.out (by first | rfl | trivial)
       exact ⟨j, out ++ [p], by omega, by go_num, HO2.out, by rw [← List.append_assoc]; exact h.1, HBX3.out (by first | rfl | trivial), hkeep.out h.2⟩
      case measure => simp [intOf]; omega
 ·rintro xs V hS ⟨hj, hbx, hvz⟩ hD
  simp only [World.size_alloc] at hD
  have HJp := hide hj
  have HD := hide hD
  clear hj hD hbx
  simp only [World.size_alloc]
  gi_wp2
  refine ⟨by simp, .inl ⟨_, _, rfl, run_takeDeferred HD.out, ?_⟩⟩
  refine ⟨_, results_none rfl _ _ _, ⟨_, rfl⟩, .inl ⟨_, by rw [← hS], HJ.out _ _ _ _ HJp.out (grown_put _ _) (fun b e => by cases e; omega)⟩⟩
 ·rintro cd pre V hsp ⟨rfl, pr, hpr, hjx⟩ hD
  simp only [World.size_alloc] at hD
  have HJp := hide hjx
  have HD := hide hD
  clear hjx hD
  simp only [World.size_alloc]
  gi_wp2
  refine ⟨by simp, .inl ⟨_, _, rfl, run_takeDeferred HD.out, ?_⟩⟩
  exact ⟨_, results_none rfl _ _ _, ⟨_, rfl⟩, .inr ⟨pr, hpr, HJx.out _ _ _ _ HJp.out (grown_put _ _) (fun b e => by cases e; omega)⟩⟩
end Go.Proofs.YthkblgglmohciaaGreatDoor
namespace Go.Proofs.YthkblgglmohciaaGreatDoor
open Go.RowKit
attribute [local go_sem] Oper.semAt_some
def SqrtAt (v R T : Nat) : Prop := R * R + T = v ∧ T ≤ 2 * R
theorem sqrt_next {v R T d : Nat} (h : SqrtAt v R T) (hd : d < 4) : SqrtAt (4 * v + d) (nextR R T d) (nextT R T d) := by
 obtain ⟨h1, h2⟩ := h
 unfold SqrtAt nextR nextT
 by_cases hc : R * 4 + 1 ≤ T * 4 + d
 ·rw [if_pos hc, if_pos hc]
  have e : (R * 2 + 1) * (R * 2 + 1) = 4 * (R * R) + 4 * R + 1 := by
   rw [Nat.mul_add, Nat.add_mul, Nat.mul_one, Nat.one_mul]
   have : R * 2 * (R * 2) = 4 * (R * R) := by rw [Nat.mul_mul_mul_comm, Nat.mul_comm (R * R)]
   omega
  omega
 ·rw [if_neg hc, if_neg hc]
  have e : (R * 2) * (R * 2) = 4 * (R * R) := by rw [Nat.mul_mul_mul_comm, Nat.mul_comm (R * R)]
  omega
def nextF (s : Nat × Nat) (d : Nat) : Nat × Nat := (nextR s.1 s.2 d, nextT s.1 s.2 d)
def rootOf (l : List Nat) : Nat × Nat := l.foldl nextF (0, 0)
theorem rootOf_snoc (l : List Nat) (d : Nat) : rootOf (l ++ [d]) = nextF (rootOf l) d := by simp [rootOf, List.foldl_append]
def valP (v : Nat) (l : List Nat) : Nat := l.foldl (fun p d => 4 * p + d) v
theorem sqrt_fold : ∀ (l : List Nat) (v : Nat) (s : Nat × Nat), SqrtAt v s.1 s.2 → (∀ d ∈ l, d < 4) → SqrtAt (valP v l) (l.foldl nextF s).1 (l.foldl nextF s).2
 | [], v, s, h, _ => h
 | d :: l, v, s, h, hl => sqrt_fold l (4 * v + d) (nextF s d) (sqrt_next h (hl d (by simp))) (fun x hx => hl x (List.mem_cons_of_mem _ hx))
theorem pairsK_lt : ∀ (x k d : Nat), d ∈ pairsK x k → d < 4
 | x, k + 1, d, h => by
  rcases List.mem_cons.1 h with rfl | h
  ·omega
  ·exact pairsK_lt x k d h
theorem pairsK_val : ∀ (x k v : Nat), valP v (pairsK x k) = v * 4 ^ k + x % 4 ^ k
 | x, 0, v => by simp [pairsK, valP, Nat.mod_one]
 | x, k + 1, v => by
  have h := pairsK_val x k (4 * v + x / 4 ^ k % 4)
  have h1 : valP v (pairsK x (k + 1)) = valP (4 * v + x / 4 ^ k % 4) (pairsK x k) := rfl
  rw [h1, h, Nat.pow_succ, Nat.add_mul, Nat.mod_mul, Nat.mul_comm (4 ^ k) (x / 4 ^ k % 4), Nat.mul_assoc 4 v, Nat.mul_comm 4, Nat.mul_assoc v]
  omega
theorem valP_append (v : Nat) (a b : List Nat) : valP v (a ++ b) = valP (valP v a) b := by simp [valP, List.foldl_append]
theorem pairsI_val (ds : List Nat) (hok : OK32 ds) : ∀ (k v : Nat), k ≤ ds.length → valP v (pairsI (backL ds k)) = v * 4294967296 ^ k + valL (ds.take k)
 | 0, v, _ => by simp [backL, pairsI, valP, valL]
 | k + 1, v, hk => by
  have h1 : pairsI (backL ds (k + 1)) = pairsK (ds.getD k 0) 16 ++ pairsI (backL ds k) := by simp [pairsI, backL]
  have h3 : (4 : Nat) ^ 16 = 4294967296 := by decide
  have h2 := pairsK_val (ds.getD k 0) 16 v
  rw [h3, Nat.mod_eq_of_lt (getD_lt hok k)] at h2
  rw [h1, valP_append, h2, pairsI_val ds hok k _ (by omega), valL_take_getD, Nat.pow_succ, Nat.add_mul, Nat.mul_assoc v, Nat.mul_comm 4294967296 (4294967296 ^ k), Nat.mul_comm (ds.getD k 0)]
  omega
theorem pairsI_len : ∀ (ds : List Nat) (k : Nat), (pairsI (backL ds k)).length = 16 * k
 | ds, 0 => rfl
 | ds, k + 1 => by
  have h1 : pairsI (backL ds (k + 1)) = pairsK (ds.getD k 0) 16 ++ pairsI (backL ds k) := by simp [pairsI, backL]
  have h2 : ∀ x j, (pairsK x j).length = j := by
   intro x j
   induction j with
   | zero => rfl
   | succ j ih => simp [pairsK, ih]
  rw [h1, List.length_append, h2, pairsI_len ds k]; omega
theorem pairsI_lt (ds : List Nat) (k d : Nat) (h : d ∈ pairsI (backL ds k)) : d < 4 := by
 simp only [pairsI, List.mem_flatMap] at h
 obtain ⟨p, _, hd⟩ := h
 exact pairsK_lt _ _ _ hd
theorem rootOf_val (v : Nat) : SqrtAt v (rootOf (pairsI (backL (dig v) (dig v).length))).1 (rootOf (pairsI (backL (dig v) (dig v).length))).2 := by
 have h := sqrt_fold (pairsI (backL (dig v) (dig v).length)) 0 (0, 0) ⟨rfl, Nat.le_refl _⟩ (fun d hd => pairsI_lt _ _ _ hd)
 rw [pairsI_val _ (dig_ok v) _ _ (Nat.le_refl _), List.take_length, dig_val] at h
 simpa [rootOf] using h
end Go.Proofs.YthkblgglmohciaaGreatDoor
namespace Go.Proofs.YthkblgglmohciaaGreatDoor
open Go.RowKit
attribute [local go_sem] Oper.semAt_some
theorem RootAt.row {w w' : World} {F r R T L : Nat} (h : RootAt w F r R T L) {row : Option Nat} (hg : w.grownBy w' row) (hr : ∀ b, row = some b → b ≠ r ∧ b < F) : RootAt w' F r R T L := by
 obtain ⟨A, n, c, A2, n2, c2, h1, h2, h3, h4, h5, h6, h7⟩ := h
 exact ⟨A, n, c, A2, n2, c2, h1.grown hg (fun e => (hr _ e).1 rfl), h2.grown hg (fun ad ha e => by have := (hr _ e.symm).2; have := h6 ad ha; omega), h3.grown hg (fun ad ha e => by have := (hr _ e.symm).2; have := h7 ad ha; omega), h4, h5, h6, h7⟩
theorem RootAt.less {w : World} {F F' r R T L L' : Nat} (h : RootAt w F r R T L) (hF : F' ≤ F) (hL : L ≤ L') : RootAt w F' r R T L' := by
 obtain ⟨A, n, c, A2, n2, c2, h1, h2, h3, h4, h5, h6, h7⟩ := h
 exact ⟨A, n, c, A2, n2, c2, h1, h2, h3, by omega, by omega, fun ad ha => Nat.le_trans hF (h6 ad ha), fun ad ha => Nat.le_trans hF (h7 ad ha)⟩
set_option maxHeartbeats 2000000 in
set_option maxRecDepth 100000 in
theorem start_any (coef n : Int) (w : World) (hc : -4000000000000000000 ≤ coef ∧ coef ≤ 4000000000000000000) (hn : 0 ≤ n ∧ n ≤ 4000000000000000000) :
  Calls Tryz.prog 76 #[.int .i64 coef, .int .i64 n] w fun e w' => ∃ r R T, e = .returned (.pointer (some ⟨r, 0, none⟩)) ∧ w.heap.size ≤ r ∧ RootAt w' w.heap.size r R T 96 ∧ SqrtAt (coef.natAbs * coef.natAbs * n.toNat) R T ∧ Below w.heap.size w w' := by
 obtain ⟨m, rfl⟩ := Int.eq_ofNat_of_zero_le hn.1
 obtain ⟨ca, hca⟩ : ∃ ca, ca = coef.natAbs := ⟨_, rfl⟩
 have hmx : max coef (-coef) = (ca : Int) := by omega
 have hcab : ca ≤ 4000000000000000000 := by omega
 rw [← hca, Int.toNat_natCast]
 clear hca
 have HPR := hide (fun n W => (callsIn_wide (n := n)).2 (product2_any ca ca m W (by omega) (by omega) (by omega)))
 refine (callsIn_wide (n := 0)).1 ?_
 refine callsIn_of_wp_marks Tryz.func76 rfl trivial ?_ rfl
 simp only [Tryz.ntmps76, List.size_toArray, List.length_cons, List.length_nil, Nat.reduceAdd, Nat.reduceSub, Array.replicate_succ, Array.replicate_zero, List.push_toArray, List.append_toArray, List.nil_append, List.cons_append]
 have HPA := hide (fun n A k c W => (callsIn_wide (n := n)).2 (pairs_any A k c W))
 have HBX := hide ((Box.new (w.alloc (.cells #[.slice none 0 0, .slice none 0 0] 110)) 102 (.pointer (some ⟨w.heap.size, 0, none⟩))))
 have HRT := hide ((Blk.new w 110 #[.slice none 0 0, .slice none 0 0]).alloc (.cells #[.pointer (some ⟨w.heap.size, 0, none⟩)] 102))
 have HB0 := hide (((Below.refl w.heap.size w).alloc (Nat.le_refl _) (.cells #[.slice none 0 0, .slice none 0 0] 110)).alloc (by simp) (.cells #[.pointer (some ⟨w.heap.size, 0, none⟩)] 102))
 gi_wp2_with fail
 refine ⟨trivial, rfl, CallsIn.mono (HPR.out _ _) ?_⟩
 rintro e w1 ⟨A, n1, c1, rfl, hw1, hn1, hb1⟩
 simp only [World.size_alloc] at hb1 HBX
 have hz1 := hb1.size
 simp only [World.size_alloc] at hz1
 have HBX1 := hide (HBX.out.below hb1 (by omega))
 have HRT1 := hide (HRT.out.below hb1 (by omega))
 have HB1 := hide (HB0.out.trans (hb1.mono (by omega)))
 have HW1 := hide hw1
 clear HBX HRT HB0 hb1 hw1 HPR
 gi_wp2_with fail
 refine ⟨trivial, rfl, CallsIn.mono (HPA.out _ _ _ _ _) ?_⟩
 rintro e w2 ⟨rfl, rfl⟩
 have HBX2 := hide (HBX1.out.alloc (.cells #[.slice A n1 c1] 105))
 have HRT2 := hide (HRT1.out.alloc (.cells #[.slice A n1 c1] 105))
 have HB2 := hide (HB1.out.alloc HB1.out.size (.cells #[.slice A n1 c1] 105))
 have hl := Words.len HW1.out
 have hane := hide (fun ad (e : A = some ad) => LW.ne HW1.out HRT1.out (by decide) e)
 have HG := hide (pairs_gives w1.heap.size _ A n1 c1 (dig (ca * ca * m)) (w1.alloc (.cells #[.slice A n1 c1] 105)) (RdT.alloc HW1.out _) (Box.new w1 _ _) (dig_ok _))
 have hval := hide (rootOf_val (ca * ca * m))
 have hpl := pairsI_len (dig (ca * ca * m)) n1
 have hplt := hide (pairsI_lt (dig (ca * ca * m)) n1)
 rw [hl] at hval
 generalize pairsI (backL (dig (ca * ca * m)) n1) = ps at *
 have hadl := hide (fun ad (e : A = some ad) => RdT.lt HW1.out e)
 gi_wp2_with fail
 refine wp_range (gf := 134) rfl enters_pairs HG.out (w0 := w1.alloc (.cells #[.slice A n1 c1] 105)) (Below.refl _ _) ?_ (fun _ => rfl)
  (fun pre V => RootAt V (w1.heap.size + 7) w.heap.size (rootOf pre).1 (rootOf pre).2 pre.length ∧ Box V (w.heap.size + 1) 102 (.pointer (some ⟨w.heap.size, 0, none⟩)) ∧ Below w.heap.size w V) (fun _ _ _ => False) ?_ ?_ ?_ ?_ ?_ ?_
 ·rintro b (rfl | ⟨ad, e, rfl⟩)
  ·simp
  ·have h1 := hadl.out ad e; simp; omega
 ·rintro s V V' row ⟨h1, h2, h3⟩ hg hr
  simp only [World.size_alloc] at hr
  exact ⟨h1.row hg (fun b e => by have := hr b e; omega), h2.grown hg (fun e => by have := hr _ e; omega), h3.grown hg h3.size (fun j e => by have := hr j e; omega)⟩
 ·rintro _ _ _ _ _ h; exact h.elim
 ·exact ⟨⟨none, 0, 0, none, 0, 0, HRT2.out, LW.nil_ _, LW.nil_ _, Nat.le_refl _, Nat.le_refl _, by simp, by simp⟩, HBX2.out, HB2.out⟩
 ·rintro pre x V hsp ⟨hrt, hbx, hbl⟩ hsz
  simp only [World.size_alloc] at hsz ⊢
  obtain ⟨rest, hrest⟩ := hsp
  have hx4 : x < 4 := hplt.out x (by rw [← hrest]; simp)
  have hpl2 : pre.length + 1 ≤ 96 := by
   have := congrArg List.length hrest
   simp at this
   omega
  clear hrest
  have HRTV := hide hrt
  have HBXV := hide hbx
  have HBV := hide hbl
  clear hrt hbx hbl
  simp only [encP]
  gi_wp2
  refine ⟨KeepB.refl _ _, ?_⟩
  intro V2 hg2 hzz
  have HRT3 := hide (HRTV.out.row hg2 (fun b e => by cases e; omega))
  have HBX3 := hide (HBXV.out.grown hg2 (by simp; omega))
  have HB3 := hide (HBV.out.grown hg2 HBV.out.size (fun j e => by cases e; omega))
  have hz3 : w1.heap.size + 7 ≤ V2.heap.size := by omega
  clear HRTV HBXV HBV hg2 hzz
  have hcb := HBX3.out.cell
  have HNX := hide (fun n => (callsIn_wide (n := n)).2 (next_any (w1.heap.size + 7) w.heap.size _ _ _ x V2 HRT3.out (by omega) (by omega) hx4))
  gi_wp2_with fail
  refine ⟨trivial, rfl, CallsIn.mono (CallsIn.inRound _ (HNX.out _)) ?_⟩
  rintro e V3 ⟨rfl, hr3, hg3⟩
  have HR3 := hide hr3
  have HG3 := hide hg3
  clear hr3 hg3 HNX hcb
  gi_wp2
  refine ⟨KeepB.of_grown HG3.out ?_ ?_, ?_, HBX3.out.grown HG3.out (by simp), HB3.out.grown HG3.out HB3.out.size (fun j e => by cases e; exact Nat.le_refl _)⟩
  ·rintro b ((rfl | ⟨ad, e, rfl⟩) | h)
   ·omega
   ·have := hadl.out ad e; omega
   ·omega
  ·rintro b hb' ((rfl | ⟨ad, e, rfl⟩) | h)
   ·injection hb' with hb'; omega
   ·injection hb' with hb'; exact hane.out ad e hb'.symm
   ·injection hb' with hb'; omega
  ·rw [rootOf_snoc, List.length_append]
   exact HR3.out
 ·rintro xs V rfl ⟨hrt, hbx, hbl⟩ hD
  simp only [World.size_alloc] at hD
  have HR := hide hrt
  have HB := hide hbl
  have HD := hide hD
  have hcb := hbx.cell
  clear hrt hbx hbl hD
  simp only [World.size_alloc]
  gi_wp2
  refine ⟨by simp, .inl ⟨_, _, rfl, run_takeDeferred HD.out, ?_⟩⟩
  refine ⟨_, results_tmp rfl _ _ _, w.heap.size, _, _, rfl, Nat.le_refl _, (HR.out.row (grown_put _ _) (fun b e => by cases e; omega)).less (by omega) (by omega), hval.out, HB.out.grown (grown_put _ _) HB.out.size (fun j e => by cases e; omega)⟩
 ·rintro _ _ _ _ h; exact h.elim
end Go.Proofs.YthkblgglmohciaaGreatDoor
