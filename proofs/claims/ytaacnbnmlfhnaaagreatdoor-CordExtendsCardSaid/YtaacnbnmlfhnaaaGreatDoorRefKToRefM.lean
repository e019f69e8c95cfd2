import Derived.Test.YtaacnbnmlfhnaaaGreatDoorRefIToRefJ
import Derived.Test.YtaacnbnmlfhnaaaGreatDoorCordKToCordR
import Derived.Test.YtaacnbnmlfhnaaaGreatDoorWeakToAppQ
import Derived.Test.YtaacnbnmlfhnaaaGreatDoorCordSToCordV
set_option linter.unusedVariables false
set_option linter.unusedSimpArgs false
namespace Go.Proofs.YtaacnbnmlfhnaaaGreatDoor
open Go.RowKit
def Rat1 (t : List (Int × Int)) : Prop := t = [] ∨ ∃ c : Int, c ≠ 0 ∧ t = [(c, 1)]
def Kv1 (kv : List (Int × Int)) : Prop := kv = [] ∨ ∃ v : Int, kv = [(1, v)]
theorem split1 : splitN 1 = (1, 1) := by decide +kernel
theorem Kv1.add {kv : List (Int × Int)} (h : Kv1 kv) (c : Int) : Kv1 (addRoot kv c 1) := by
 unfold addRoot
 rw [if_pos (by decide), show (1 : Int).toNat = 1 from rfl, split1]
 rcases h with rfl | ⟨v, rfl⟩
 ·exact .inr ⟨_, rfl⟩
 ·exact .inr ⟨v + c * ((1 : Nat) : Int), by simp [addS]⟩
theorem Kv1.all : ∀ (l : List (Int × Int)) (kv : List (Int × Int)) (m : Int), Kv1 kv → (∀ t ∈ l, t.2 = 1) → Kv1 (addAll kv l m)
 | [], _, _, h, _ => by simpa [addAll] using h
 | t :: l, kv, m, h, hl => by
  have h1 : t.2 = 1 := hl t (by simp)
  have h2 := Kv1.all l (addRoot kv (t.1 * m) 1) m (h.add _) (fun x hx => hl x (by simp [hx]))
  have e : addAll kv (t :: l) m = addAll (addRoot kv (t.1 * m) t.2) l m := rfl
  rw [e, h1]; exact h2
theorem Kv1.over {kv : List (Int × Int)} (h : Kv1 kv) {den d : Int} {t : List (Int × Int)} (hd : den ≠ 0) (ho : overS kv den = (d, t, 0)) : Rat1 t := by
 have ht : t = overT kv den := by
  unfold overS at ho
  split at ho
  ·injection ho with _ ho; injection ho with _ ho; omega
  ·split at ho
   ·injection ho with _ ho; injection ho with _ ho; omega
   ·injection ho with _ ho; injection ho with ho _; exact ho.symm
 rw [ht]
 unfold overT
 rcases h with rfl | ⟨v, rfl⟩
 ·left
  unfold termsG
  simp [show sortI [] = [] from (sortI_perm []).eq_nil]
 ·by_cases hv : v = 0
  ·subst hv
   left
   exact termsG_done _ (fun p hp => by rw [List.mem_singleton.1 hp])
  ·right
   have h1 := termsG_step (xs := []) (ys := []) (r := 1) (c := v) (overG [(1, v)] den) (by simp) hv (fun p hp => by simp at hp)
   have h2 : termsG (([] ++ (1, 0) :: [] : List (Int × Int)).filter nz) (overG [(1, v)] den) = [] := termsG_done _ (fun p hp => by
    have := List.mem_singleton.1 (by simpa using hp); rw [this])
   rw [h2] at h1
   refine ⟨v.tdiv (overG [(1, v)] den), ?_, by simpa using h1⟩
   rw [overG_eq]
   have h3 := gcdL_dvd (den :: [((1 : Int), v)].map (·.2)) v (by simp)
   have h4 := gcdL_pos (l := den :: [((1 : Int), v)].map (·.2)) (x := den) (by simp) hd
   generalize gcdL (den :: [((1 : Int), v)].map (·.2)) = g at *
   have h5 : (g : Int) ∣ v := Int.ofNat_dvd_left.2 h3
   have h6 : ∀ G : Int, G = g ∨ G = -(g : Int) → v.tdiv G ≠ 0 := fun G hG h0 => by
    have h7 : G ∣ v := by
     rcases hG with rfl | rfl
     ·exact h5
     ·exact Int.neg_dvd.2 h5
    have h8 := Int.tdiv_mul_cancel h7
    rw [h0, Int.zero_mul] at h8
    exact hv h8.symm
   split
   ·exact h6 _ (.inr rfl)
   ·exact h6 _ (.inl rfl)
theorem plus_rat {xd yd d k : Int} {xt yt t : List (Int × Int)} (hx : ∀ u ∈ xt, u.2 = 1) (hy : ∀ u ∈ yt, u.2 = 1) (h : plusS xd xt yd yt k = (d, t, 0)) : Rat1 t := by
 unfold plusS at h
 split at h
 ·rename_i hok
  rw [Bool.and_eq_true] at hok
  obtain ⟨h1, h2, _, _⟩ := numOK_parts hok.1
  obtain ⟨h3, h4, _, _⟩ := numOK_parts hok.2
  have hp : 0 < xd * yd := Int.mul_pos (by omega) (by omega)
  exact (Kv1.all yt _ _ (Kv1.all xt [] _ (.inl rfl) hx) hy).over (by omega) h
 ·injection h with _ h; injection h with _ h; omega
theorem Rat1.root {t : List (Int × Int)} (h : Rat1 t) : ∀ u ∈ t, u.2 = 1 := by
 rcases h with rfl | ⟨c, _, rfl⟩
 ·intro u hu; cases hu
 ·intro u hu; rw [List.mem_singleton.1 hu]
theorem valFold_rat : ∀ (ps : List (Bool × List Int)) (x : Int × List (Int × Int)) {d : Int} {t : List (Int × Int)}, Rat1 x.2 → valFold x ps = (d, t, 0) → Rat1 t
 | [], x, d, t, h, hv => by
  unfold valFold at hv
  injection hv with _ hv; injection hv with hv _
  rw [← hv]; exact h
 | p :: ps, x, d, t, h, hv => by
  obtain ⟨s1, s2, s3, hs⟩ : ∃ s1 s2 s3, plusS x.1 x.2 (prodM 1 p.2) [(1, 1)] (if p.1 then -1 else 1) = (s1, s2, s3) := ⟨_, _, _, rfl⟩
  rw [valFold_cons x p ps s1 s3 s2 hs] at hv
  split at hv
  ·rename_i h0
   subst h0
   exact valFold_rat ps (s1, s2) (plus_rat h.root (fun u hu => by rw [List.mem_singleton.1 hu]) hs) hv
  ·rename_i h0
   injection hv with _ hv; injection hv with _ hv; exact absurd hv h0
theorem valueS_rat {wh d : Int} {l : List (Bool × List Int)} {t : List (Int × Int)} (h : valueS wh l = (d, t, 0)) : Rat1 t := by
 unfold valueS at h
 split at h
 ·split at h
  ·injection h with _ h; injection h with _ h; omega
  ·refine valFold_rat l (wholeN wh) ?_ h
   unfold wholeN
   split
   ·exact .inl rfl
   ·rename_i h0; exact .inr ⟨wh, h0, rfl⟩
 ·injection h with _ h; injection h with _ h; omega
end Go.Proofs.YtaacnbnmlfhnaaaGreatDoor
namespace Go.Proofs.YtaacnbnmlfhnaaaGreatDoor
open Go.RowKit
structure ExtI (w W : World) (wh : Int) (A : Option Addr) (n c : Nat) : Prop where
 o : Blk W w.heap.size 24 #[.int .i64 wh, .slice A n c]
 r : Blk W (w.heap.size + 1) 24 #[.int .i64 0, .slice none 0 0]
 z : Blk W (w.heap.size + 2) 24 #[.int .i64 0, .slice none 0 0]
 below : Below w.heap.size w W
section
variable {w W W' : World} {wh : Int} {A : Option Addr} {n c : Nat}
theorem ExtI.under (h : ExtI w W wh A n c) (hb : Below W.heap.size W W') : ExtI w W' wh A n c := ⟨h.o.below hb h.o.lt, h.r.below hb h.r.lt, h.z.below hb h.z.lt, h.below.trans (hb.mono h.below.size)⟩
theorem ExtI.size (h : ExtI w W wh A n c) : w.heap.size + 3 ≤ W.heap.size := by have := h.z.lt; omega
theorem ExtI.grown (h : ExtI w W wh A n c) {row : Option Nat} (hg : W.grownBy W' row) (hr : ∀ b, row = some b → w.heap.size + 3 ≤ b) : ExtI w W' wh A n c :=
 ⟨h.o.grown hg (fun e => by have := hr _ e; omega), h.r.grown hg (fun e => by have := hr _ e; omega), h.z.grown hg (fun e => by have := hr _ e; omega), h.below.grown hg h.below.size (fun j e => by have := hr j e; omega)⟩
theorem ExtI.alloc (h : ExtI w W wh A n c) (ob : Obj) : ExtI w (W.alloc ob) wh A n c := h.under ((Below.refl _ _).alloc (Nat.le_refl _) ob)
theorem ExtI.drewN (h : ExtI w W wh A n c) (q : Nat) : ExtI w (W.drewN q) wh A n c := h.under (below_drewN (Below.refl _ _) q)
theorem ExtI.drew (h : ExtI w W wh A n c) : ExtI w W.drew wh A n c := h.under (Below.drew (Below.refl _ _))
theorem ExtI.set (h : ExtI w W wh A n c) {p : Addr} (hp : w.heap.size + 3 ≤ p.block) (u : Value) : ExtI w (W.setCell p u) wh A n c :=
 ⟨h.o.far (by omega) u, h.r.far (by omega) u, h.z.far (by omega) u, h.below.setCell (by omega) u⟩
end
def OffQ (g : Nat) (A : Option Addr) (l : List PieceV) : Prop := (l ≠ [] → ∀ ad, A = some ad → ad.block ≠ g) ∧ ∀ p ∈ l, p.ms ≠ [] → ∀ ad, p.A = some ad → ad.block ≠ g
theorem OffQ.nil (g : Nat) (A : Option Addr) : OffQ g A [] := ⟨fun h => absurd rfl h, fun _ h => by cases h⟩
theorem Rq.off_set {w : World} {B k n c : Nat} {A : Option Addr} {xs : List Value} (h : Rq w B k A n c xs) {g i : Nat} (hg : xs ≠ [] → ∀ ad, A = some ad → ad.block ≠ g) (u : Value) : Rq (w.setCell ⟨g, i, none⟩ u) B k A n c xs := by
 refine ⟨h.1, h.2.1, h.2.2.1, ?_⟩
 rcases h.2.2.2 with h0 | ⟨ad, rfl, hb, hc⟩
 ·exact .inl h0
 ·refine .inr ⟨ad, rfl, hb, fun j u hu => ?_⟩
  have hne : xs ≠ [] := by rintro rfl; simp at hu
  rw [World.cell?_setCell_other _ _ _ _ (by intro e; exact hg hne ad rfl (by rw [← addr_block ad j, ← e]))]
  exact hc j u hu
theorem Rq.off_of {w : World} {B k n c : Nat} {A : Option Addr} {xs : List Value} (h : Rq w B k A n c xs) {g : Nat} (hg : B ≤ g) (hne : xs ≠ []) : ∀ ad, A = some ad → ad.block ≠ g := by
 intro ad e
 rcases h.2.2.2 with h0 | ⟨ad', e', hb, _⟩
 ·exact absurd (List.length_eq_zero_iff.1 (by rw [h.1, h0, Nat.zero_mul])) hne
 ·rw [e'] at e; cases e; omega
theorem PiecesQ.off_set {w : World} {B n c : Nat} {A : Option Addr} {l : List PieceV} (h : PiecesQ w B A n c l) {g i : Nat} (hg : OffQ g A l) (u : Value) : PiecesQ (w.setCell ⟨g, i, none⟩ u) B A n c l :=
 ⟨Rq.off_set h.1 (fun hne => hg.1 (by rintro rfl; exact hne (by simp [cells2]))) u, fun p hp => Rq.off_set (h.2 p hp) (fun hne => hg.2 p hp (by intro e; rw [e] at hne; exact hne rfl)) u⟩
theorem PiecesQ.off_of {w : World} {B n c : Nat} {A : Option Addr} {l : List PieceV} (h : PiecesQ w B A n c l) {g : Nat} (hg : B ≤ g) : OffQ g A l :=
 ⟨fun hne => Rq.off_of h.1 hg (by
  obtain ⟨p, t, rfl⟩ := List.exists_cons_of_ne_nil hne
  simp [cells2]), fun p hp hne => Rq.off_of (h.2 p hp) hg (by simpa using hne)⟩
def ExtPost (w : World) (Ai : Option Addr) (li : List PieceV) (res : Int × List (Bool × List Int) × Int) (e : Ending) (w' : World) : Prop :=
 ∃ (A : Option Addr) (n c : Nat) (l : List PieceV), e = .returned (.tuple #[.agg #[.int .i64 res.1, .slice A n c], .int .i64 res.2.2]) ∧ PiecesQ w' w'.heap.size A n c l ∧ l.map PieceV.flat = res.2.1 ∧ (∀ g, g < w.heap.size → OffQ g Ai li → OffQ g A l) ∧ Below w.heap.size w w'
structure ExtR (w W : World) (mA : Option Addr) (mn mc : Nat) (M : List Int) : Prop where
 r : Blk W (w.heap.size + 1) 24 #[.int .i64 0, .slice none 0 0]
 m : W.ownsRow (w.heap.size + 3) 3 1 (.slice mA mn mc) mn (M.map (Value.int .i64))
 below : Below w.heap.size w W
 size : w.heap.size + 3 ≤ W.heap.size
section
variable {w W W' : World} {mA : Option Addr} {mn mc : Nat} {M : List Int}
theorem ExtR.alloc (h : ExtR w W mA mn mc M) (o : Obj) : ExtR w (W.alloc o) mA mn mc M := ⟨h.r.alloc o, h.m.alloc o, h.below.alloc (by have := h.size; omega) o, by have := h.size; simp; omega⟩
theorem ExtR.drew (h : ExtR w W mA mn mc M) : ExtR w W.drew mA mn mc M := ⟨h.r.below (Below.drew (Below.refl _ _)) h.r.lt, h.m.drew, h.below.drew, h.size⟩
theorem ExtR.grown {v : Value} {n : Nat} {xs : List Value} (h : ExtR w W mA mn mc M) (ho : W.ownsRow (w.heap.size + 3) 94 2 v n xs) (hg : W.grownBy W' v.ownBlock) : ExtR w W' mA mn mc M := by
 have hs := h.size
 exact ⟨h.r.grown hg (fun e => by have := (ho.lt _ e).1; omega), own_kept_of h.m hg (fun g e1 e2 => own_own_ne ho h.m (by decide) e2 e1), h.below.grown hg h.below.size (fun j e => by have := (ho.lt j e).1; omega), by have := hg.size; omega⟩
end
theorem enc_one : ∀ (l : List PieceV), ∀ u ∈ cells2 (l.map PieceV.enc), u.oneCell' = true
 | [], u, h => by simp [cells2] at h
 | p :: l, u, h => by
  have h2 : u = .bool p.minus ∨ u = .slice p.A p.n p.c ∨ u ∈ cells2 (l.map PieceV.enc) := by simpa [cells2, PieceV.enc] using h
  rcases h2 with rfl | rfl | h2
  ·rfl
  ·rfl
  ·exact enc_one l u h2
theorem cell_kept2 {w w' : World} {pb : Nat} {vs : List Value} {row : Option Nat} (h : ∀ j u, vs[j]? = some u → w.cell? ((⟨pb, 0, none⟩ : Addr).add j) = some u) (hg : w.grownBy w' row) (hlt : pb < w.heap.size) (hne : row ≠ some pb) :
  ∀ j u, vs[j]? = some u → w'.cell? ((⟨pb, 0, none⟩ : Addr).add j) = some u := fun j u hu =>
 (World.cell?_of_block (hg.block _ (by rw [addr_block]; exact hlt) (fun e => hne (by rw [← e, addr_block])))).trans (h j u hu)
theorem ext_fin {w w4 : World} {mA A A4 : Option Addr} {mc c c4 B : Nat} {M : List Int} {l : List PieceV} {mi : Bool} (h : ExtR w w4 mA M.length mc M) (hp : PiecesQ w4 B A l.length c l) (hB : B ≤ w.heap.size)
  (ho : w4.ownsRow (w.heap.size + 3) 94 2 (.slice A4 (l.length + 1) c4) (l.length + 1) (cells2 (l.map PieceV.enc) ++ [.bool mi, .slice mA M.length mc])) (wh : Int) {W : World}
  (hW : W = (w4.setCell ⟨w.heap.size + 1, 0, none⟩ (.int .i64 wh)).setCell ⟨w.heap.size + 1, 1, none⟩ (.slice A4 (l.length + 1) c4)) :
  Blk W (w.heap.size + 1) 24 #[.int .i64 wh, .slice A4 (l.length + 1) c4] ∧ PiecesQ W W.heap.size A4 (l.length + 1) c4 (l ++ [⟨mi, mA, M.length, mc, M⟩]) ∧ (∀ g, g < w.heap.size → OffQ g A l → OffQ g A4 (l ++ [⟨mi, mA, M.length, mc, M⟩])) ∧ Below w.heap.size w W := by
 subst hW
 have hs := h.size
 have hb : Below (w.heap.size + 1) w4 ((w4.setCell ⟨w.heap.size + 1, 0, none⟩ (.int .i64 wh)).setCell ⟨w.heap.size + 1, 1, none⟩ (.slice A4 (l.length + 1) c4)) := ((Below.refl _ w4).setCell (p := ⟨w.heap.size + 1, 0, none⟩) (Nat.le_refl _) _).setCell (p := ⟨w.heap.size + 1, 1, none⟩) (Nat.le_refl _) _
 have hk : ∀ (s n : Nat) (e : TypeId) (v : Value) (xs : List Value), w4.ownsRow (w.heap.size + 3) e s v n xs → ((w4.setCell ⟨w.heap.size + 1, 0, none⟩ (.int .i64 wh)).setCell ⟨w.heap.size + 1, 1, none⟩ (.slice A4 (l.length + 1) c4)).ownsRow (w.heap.size + 3) e s v n xs := fun s n e v xs h =>
  ownsRow_setCell_below (ownsRow_setCell_below h (by show w.heap.size + 1 < _; omega) _) (by show w.heap.size + 1 < _; omega) _
 have ho1 := hk _ _ _ _ _ ho
 have hm1 := hk _ _ _ _ _ h.m
 refine ⟨(h.r.set_ 0 _).set_ 1 _, ⟨?_, fun p hp1 => ?_⟩, fun g hg hgl => ⟨fun _ => own_off ho (by omega), fun p hp1 hne => ?_⟩, h.below.trans (hb.mono (by omega))⟩
 ·have h5 := Rq.of (Rd.of_own ho1)
  rw [cells2_snoc]
  exact h5
 ·rcases List.mem_append.1 hp1 with hp1 | hp1
  ·exact Rq.more (Rq.below (hp.2 p hp1) (hb.mono (by omega))) (by have := hb.size; omega)
  ·rw [List.mem_singleton.1 hp1]
   exact Rq.of (Rd.of_own hm1)
 ·rcases List.mem_append.1 hp1 with hp1 | hp1
  ·exact hgl.2 p hp1 hne
  ·rw [List.mem_singleton.1 hp1]
   exact own_off h.m (by omega)
set_option maxHeartbeats 16000000 in
set_option maxRecDepth 100000 in
theorem refExtend_any (wh : Int) (A : Option Addr) (n c B : Nat) (l : List PieceV) (m : Int) (w : World) (hp : PiecesQ w B A n c l) (hB : B ≤ w.heap.size) (hok : oldOK wh (l.map PieceV.flat) = true) :
  Calls Tryz.prog 31 #[.agg #[.int .i64 wh, .slice A n c], .int .i64 m] w (ExtPost w A l (extendS wh (l.map PieceV.flat) m)) := by
 have hl := hp.len
 subst hl
 have hn := hp.1.nmax
 obtain ⟨i0, hi0, hz0, hz1, hz2⟩ := info_parts Tryz.infoInt
 obtain ⟨i1, hi1, hy0, hy1, hy2⟩ := info_parts Tryz.infoPiece
 obtain ⟨w0, hw0⟩ : ∃ w0, w0 = ((w.alloc (.cells #[.int .i64 wh, .slice A l.length c] 24)).alloc (.cells #[.int .i64 0, .slice none 0 0] 24)).alloc (.cells #[.int .i64 0, .slice none 0 0] 24) := ⟨_, rfl⟩
 have HS0 : Hid (ExtI w w0 wh A l.length c) := hide (by
  rw [hw0]
  refine ⟨((Blk.new w _ _).alloc _).alloc _, ?_, ?_, (((Below.refl _ _).alloc (Nat.le_refl _) _).alloc (by simp) _).alloc (by simp; omega) _⟩
  ·have h := (Blk.new (w.alloc (.cells #[.int .i64 wh, .slice A l.length c] 24)) 24 #[.int .i64 0, .slice none 0 0]).alloc (.cells #[.int .i64 0, .slice none 0 0] 24)
   rwa [World.size_alloc] at h
  ·have h := Blk.new ((w.alloc (.cells #[.int .i64 wh, .slice A l.length c] 24)).alloc (.cells #[.int .i64 0, .slice none 0 0] 24)) 24 #[.int .i64 0, .slice none 0 0]
   rwa [World.size_alloc, World.size_alloc] at h)
 have HP := hide (fun W (hb : Below w.heap.size w W) => hp.below (hb.mono hB))
 have HVL := hide (fun W (hb : Below w.heap.size w W) => refValue_any wh A l.length c B l W (HP.out W hb) (by have := hb.size; omega) hok)
 have HIN := hide (fun W => refIn2_any m 1 1000 W)
 obtain ⟨_, g8, g3⟩ := oldOK_parts hok
 rw [List.length_map] at g8
 have HMS := hide (show ∀ p ∈ l, p.ms.length ≤ 6 ∧ ∀ x ∈ p.ms, 2 ≤ x ∧ x ≤ 1000 from fun p hp => by
  obtain ⟨a1, a2, a3⟩ := g3 p.flat (List.mem_map_of_mem hp)
  exact ⟨a2, fun x hx => by
   have h5 := (oldOK_split hok).2.2 p.flat (List.mem_map_of_mem hp)
   simp only [pieceOK, Bool.and_eq_true, List.all_eq_true] at h5
   have := h5.2 x hx
   simpa [markOK, inB] using this⟩)
 obtain ⟨res, hres⟩ : ∃ res, extendS wh (l.map PieceV.flat) m = res := ⟨_, rfl⟩
 rw [hres]
 have hpz : ∀ (W : World) (a : Act) (y : Int), res = (0, [], y) → Below w.heap.size w W → Blk W (w.heap.size + 1) 24 #[.int .i64 0, .slice none 0 0] →
   a.tmps.getD 4 undef = .pointer (some ⟨w.heap.size + 1, 0, none⟩) → a.tmps.getD 5 undef = .int .i64 y → a.defers = [] →
   bodyPost Tryz.prog Tryz.f31 (ExtPost w A l res) .ret a ((W.setCell ⟨w.heap.size + 1, 0, none⟩ (.int .i64 0)).setCell ⟨w.heap.size + 1, 1, none⟩ (.slice none 0 0)) := by
  intro W a y e1 e3 e4 e5 e6 e7
  refine bodyPost_cell_tmp (p := 4) (u := 5) (ty := 24) rfl e5 ((e4.set_ 0 _).set_ 1 _) Tryz.underlying24 rfl Tryz.sizeOld e7 ?_
  rw [e6, e1]
  exact ⟨none, 0, 0, [], rfl, ⟨Rq.empty _ _ _ _, fun _ h => by cases h⟩, rfl, fun g _ _ => OffQ.nil g _, Below.setCell (Below.setCell e3 (p := ⟨w.heap.size + 1, 0, none⟩) (by show _ ≤ w.heap.size + 1; omega) _) (p := ⟨w.heap.size + 1, 1, none⟩) (by show _ ≤ w.heap.size + 1; omega) _⟩
 have HPZ := hide hpz
 clear hpz hp g3
 unfold extendS at hres
 rw [hok] at hres
 simp only [Bool.true_eq_false, if_false] at hres
 cases hin : inB m 1 1000
 ·rw [hin] at hres HIN
  simp only [if_true] at hres
  have HV := hide hres.symm
  obtain ⟨r0, r1, rf0, rf1⟩ := HS0.out.r.two
  obtain ⟨z0, z1, _, _⟩ := HS0.out.z.two
  go_enter Tryz.func31, Tryz.ntmps31
  go_upto_region 2 with fail
  rw [← hw0]
  clear hw0
  go_wp2_with (first
   | (go_at_call 72; refine (HIN.out _).mono ?_; rintro e w1 ⟨rfl, hw1⟩; subst w1))
  exact HPZ.out _ _ 3 HV.out HS0.out.below HS0.out.r rfl rfl rfl
 rw [hin] at hres HIN
 simp only [Bool.true_eq_false, if_false] at hres
 have hmb : 1 ≤ m ∧ m ≤ 1000 := by simpa [inB] using hin
 have hvr := fun (d : Int) t (h : valueS wh (l.map PieceV.flat) = (d, t, 0)) => valueS_rat h
 have hvb := fun (d : Int) t (h : valueS wh (l.map PieceV.flat) = (d, t, 0)) => valueS_B h
 generalize hvs : valueS wh (l.map PieceV.flat) = sv at *
 obtain ⟨vd, vt, vc⟩ := sv
 dsimp only at hres
 obtain ⟨x0, x1, _, _⟩ := HS0.out.o.two
 go_enter Tryz.func31, Tryz.ntmps31
 go_upto_region 2 with fail
 rw [← hw0]
 clear hw0
 go_upto_region 5 with (first
  | (go_at_call 72; refine (HIN.out _).mono ?_; rintro e w1 ⟨rfl, hw1⟩; subst w1)
  | (go_at_call 25; refine (HVL.out _ HS0.out.below).mono ?_; rintro e w3 ⟨xA, xn, xc, rfl, ho3, hb3⟩
     have HS3 := hide ((HS0.out.under hb3).alloc (.cells #[.int .i64 vd, .slice xA xn xc] 34))
     have HX3 := hide (Blk.new w3 34 #[.int .i64 vd, .slice xA xn xc])
     have HO3 := hide (ho3.alloc (.cells #[.int .i64 vd, .slice xA xn xc] 34))
     clear hb3 ho3))
 obtain ⟨X, hX⟩ : ∃ X, X = w3.heap.size := ⟨_, rfl⟩
 rw [← hX] at HX3 ⊢
 clear hX x0 x1 HS0 HVL HIN
 generalize w3.alloc (.cells #[.int .i64 vd, .slice xA xn xc] 34) = w4 at *
 by_cases hvc : vc = 0
 case' neg =>
  rw [if_pos hvc] at hres
  have HV := hide hres.symm
  have hvb2 : (vc != 0) = true := by simpa using hvc
  obtain ⟨r0, r1, rf0, rf1⟩ := HS3.out.r.two
  obtain ⟨z0, z1, _, _⟩ := HS3.out.z.two
  go_wp2
  exact HPZ.out _ _ vc HV.out HS3.out.below HS3.out.r rfl rfl rfl
 subst hvc
 rw [if_neg (by omega)] at hres
 have hrat := hvr vd vt rfl
 obtain ⟨⟨hd1, hd2, hcb⟩, hnz⟩ := hvb vd vt rfl
 clear hvr hvb hvs
 obtain ⟨u0, u1, _, _⟩ := HX3.out.two
 rcases hrat with rfl | ⟨c0, hc0, rfl⟩
 ·have hxn : xn = 0 := by have h := HO3.out.1; simp [cellsT, cells2] at h; omega
  subst hxn
  rw [if_pos (by simp [partsS])] at hres
  have HV := hide hres.symm
  obtain ⟨r0, r1, rf0, rf1⟩ := HS3.out.r.two
  obtain ⟨z0, z1, _, _⟩ := HS3.out.z.two
  go_wp2
  exact HPZ.out _ _ 3 HV.out HS3.out.below HS3.out.r rfl rfl rfl
 have hxn : xn = 1 := by have h := HO3.out.1; simp [cellsT, cells2] at h; omega
 subst hxn
 obtain ⟨g, cap', he, hgb, hgl⟩ := HO3.out.form (by omega)
 injection he with he1 he2 he3
 subst he1
 subst he3
 obtain ⟨c00, c01, _, _⟩ := own_termAt HO3.out (j := 0) (by simp)
 simp only [List.getElem_cons_zero, Nat.zero_mul] at c00 c01
 have hcb0 := hcb (c0, 1) (by simp)
 dsimp only at hcb0
 simp only [partsS, if_true] at hres
 by_cases hneg : c0 < 0
 ·rw [if_pos (by omega)] at hres
  have HV := hide hres.symm
  obtain ⟨r0, r1, rf0, rf1⟩ := HS3.out.r.two
  obtain ⟨z0, z1, _, _⟩ := HS3.out.z.two
  go_wp2
  exact HPZ.out _ _ 3 HV.out HS3.out.below HS3.out.r rfl rfl rfl
 rw [if_neg (by omega)] at hres
 simp only [byS, ofS, partsS, if_true] at hres
 have e1 := mul_bd (a := m) (b := vd) (A := 1000) (B := 100000) (by omega) (by omega)
 have e2 := mul_bd (a := m * vd) (b := vd) (A := 100000000) (B := 100000) (by omega) (by omega)
 have e3 := mul_bd (a := c0) (b := c0) (A := 100000) (B := 100000) (by omega) (by omega)
 have e4 := mul_bd (a := 2 * c0) (b := vd) (A := 200000) (B := 100000) (by omega) (by omega)
 have e5 : 0 < 2 * c0 * vd := Int.mul_pos (by omega) (by omega)
 generalize hmd : m * vd = md at *
 generalize hmdd : md * vd = mdd at *
 generalize hcc : c0 * c0 = cc at *
 generalize hof : 2 * c0 * vd = of_ at *
 go_wp2
 go_quiet (fail)
 have HSq := hide (HS3.out.drewN nq)
 clear HS3 HX3 HO3 u0 u1 c00 c01 hgb hgl
 generalize w4.drewN nq = W at *
 obtain ⟨r0, r1, rf0, rf1⟩ := HSq.out.r.two
 obtain ⟨z0, z1, _, _⟩ := HSq.out.z.two
 have herr := fun (y : Int) (h : res = (0, [], y)) => h
 by_cases hz : mdd - cc = 0
 ·have hzb : (mdd - cc == 0) = true := by simpa using hz
  unfold extend1 at hres
  rw [if_pos hz] at hres
  have HV := hide hres.symm
  go_wp2
  exact HPZ.out _ _ 9 HV.out HSq.out.below HSq.out.r rfl rfl rfl
 have hzb : (mdd - cc == 0) = false := by simpa using hz
 unfold extend1 at hres
 rw [if_neg hz] at hres
 have hwn : IntKind.i64.wrap (-(mdd - cc)) = -(mdd - cc) := by rw [IntKind.wrap_i64]; omega
 go_upto_region 15 with fail
 have hnb1 : 1 ≤ max (mdd - cc) (-(mdd - cc)) ∧ max (mdd - cc) (-(mdd - cc)) ≤ 100000000000000 := by omega
 generalize max (mdd - cc) (-(mdd - cc)) = nb at *
 have hmiq : Hid (∃ mi, decide (mdd - cc < 0) = mi) := hide ⟨_, rfl⟩
 obtain ⟨mi, hmi⟩ := hmiq.out
 rw [hmi] at hres ⊢
 clear hmi hmiq hwn hz hzb
 have hT : of_.tmod nb = of_ % nb := Int.tmod_eq_emod_of_nonneg (by omega)
 have hQ : of_.tdiv nb = of_ / nb := Int.tdiv_eq_ediv_of_nonneg (by omega)
 rw [hT, hQ, List.length_map] at hres
 have hq0 : 0 ≤ of_ / nb := Int.ediv_nonneg (by omega) (by omega)
 have hq1 : of_ / nb ≤ of_ := Int.ediv_le_self nb (by omega)
 have hqe := Int.mul_ediv_add_emod of_ nb
 have hnbz : ¬ nb = 0 := by omega
 have hwq : IntKind.i64.wrap (of_ / nb) = of_ / nb := by rw [IntKind.wrap_i64]; omega
 by_cases hmod : of_ % nb = 0
 case' neg =>
  have hmb2 : (of_ % nb != 0) = true := by simpa using hmod
  rw [if_pos (.inl hmod)] at hres
  have HV := hide hres.symm
  clear hT hQ
  go_wp2
  exact HPZ.out _ _ 7 HV.out HSq.out.below HSq.out.r rfl rfl rfl
 have hmb2 : (of_ % nb != 0) = false := by simpa using hmod
 rw [hmod, Int.add_zero] at hqe
 by_cases hlt : of_ / nb < 2
 ·have hone : of_ / nb = 1 := by
   rcases Int.lt_or_le (of_ / nb) 1 with h | h
   ·have h0 : of_ / nb = 0 := by omega
    rw [h0, Int.mul_zero] at hqe; omega
   ·omega
  rw [if_pos (.inr (by rw [hone, Int.mul_one] at hqe; exact hqe.symm))] at hres
  have HV := hide hres.symm
  clear hT hQ hqe
  go_wp2
  exact HPZ.out _ _ 7 HV.out HSq.out.below HSq.out.r rfl rfl rfl
 rw [if_neg (by
  rintro (h | h)
  ·exact h hmod
  ·apply hlt
   rw [h, Int.ediv_self hnbz]; omega)] at hres
 by_cases h8 : 8 ≤ (l.length : Int)
 ·rw [if_pos (by omega)] at hres
  have HV := hide hres.symm
  obtain ⟨x0, x1, _, _⟩ := HSq.out.o.two
  clear hT hQ hqe
  go_wp2
  exact HPZ.out _ _ 8 HV.out HSq.out.below HSq.out.r rfl rfl rfl
 rw [if_neg (by omega)] at hres
 obtain ⟨x0, x1, _, _⟩ := HSq.out.o.two
 clear hT hQ hqe
 go_upto_region 20 with fail
 have hdd : 2 ≤ of_ / nb ∧ of_ / nb ≤ 100000000000 := by omega
 generalize of_ / nb = dd at *
 have hYU : w.heap.size + 3 ≤ W.heap.size := HSq.out.size
 have HSq := hide (HSq.out.alloc (.cells #[.bool mi, .slice none 0 0] 94))
 have HYq := hide (Blk.new W 94 #[.bool mi, .slice none 0 0])
 obtain ⟨Y, hY⟩ : ∃ Y, Y = W.heap.size := ⟨_, rfl⟩
 rw [← hY] at HYq hYU ⊢
 clear hY x0 x1 r0 r1 rf0 rf1 z0 z1
 generalize W.alloc (.cells #[.bool mi, .slice none 0 0] 94) = W1 at *
 obtain ⟨x0, x1, _, _⟩ := HSq.out.o.two
 obtain ⟨y0, y1, yf0, yf1⟩ := HYq.out.two
 by_cases hl0 : l = []
 ·have hlz : ¬ (0 : Int) < (l.length : Int) := by rw [hl0]; decide
  have HMK : Hid (marksS (l.map PieceV.flat) dd = [dd]) := hide (by rw [hl0]; rfl)
  obtain ⟨a0, a1, af0, af1⟩ := (HYq.out.alloc (.cells #[.int .i64 dd] 3)).two
  go_upto_region 28 with fail
  clear hlz hl0
  clear a0 a1 af0 af1
  have hrM := own_le (World.ownsRow_lit (base := W1.heap.size) (e := 3) (size := 1) W1 #[.int .i64 dd] 1 (Nat.le_refl _) (by unfold maxLen; omega) rfl) (show w.heap.size + 3 ≤ W1.heap.size by have := HYq.out.lt; omega)
  have HS8 := hide ((HSq.out.alloc (.cells #[.int .i64 dd] 3)).set (p := ⟨Y, 1, none⟩) (by show _ ≤ Y; omega) (.slice (some ⟨W1.heap.size, 0, none⟩) 1 1))
  have HY8 : Hid (Blk ((W1.alloc (.cells #[.int .i64 dd] 3)).setCell ⟨Y, 1, none⟩ (.slice (some ⟨W1.heap.size, 0, none⟩) 1 1)) Y 94 #[.bool mi, .slice (some ⟨W1.heap.size, 0, none⟩) 1 1]) := hide ((HYq.out.alloc (.cells #[.int .i64 dd] 3)).set_ 1 _)
  have HM8 : Hid (((W1.alloc (.cells #[.int .i64 dd] 3)).setCell ⟨Y, 1, none⟩ (.slice (some ⟨W1.heap.size, 0, none⟩) 1 1)).ownsRow (w.heap.size + 3) 3 1 (.slice (some ⟨W1.heap.size, 0, none⟩) 1 1) 1 ([dd].map (Value.int .i64))) := hide (own_set hrM (HYq.out.alloc (.cells #[.int .i64 dd] 3)) (by decide))
  clear hrM HSq HYq x0 x1 y0 y1 yf0 yf1
  obtain ⟨mA, hmA⟩ : ∃ mA : Option Addr, mA = some ⟨W1.heap.size, 0, none⟩ := ⟨_, rfl⟩
  rw [← hmA] at HS8 HY8 HM8 ⊢
  clear hmA
  generalize (W1.alloc (.cells #[.int .i64 dd] 3)).setCell ⟨Y, 1, none⟩ (.slice mA 1 1) = W8 at *
  obtain ⟨M, hM8⟩ : ∃ M, M = [dd] := ⟨_, rfl⟩
  rw [← hM8] at HMK HM8
  have hml : (1 : Nat) = M.length := by rw [hM8]; rfl
  have hM0 : 0 < M.length := by omega
  have hM7 : M.length ≤ 7 := by omega
  obtain ⟨mc, hmc⟩ : ∃ mc : Nat, mc = 1 := ⟨_, rfl⟩
  have HY8 : Hid (Blk W8 Y 94 #[.bool mi, .slice mA M.length mc]) := hide (by rw [← hml, hmc]; exact HY8.out)
  have HM8 : Hid (W8.ownsRow (w.heap.size + 3) 3 1 (.slice mA M.length mc) M.length (M.map (Value.int .i64))) := hide (by rw [← hml, hmc]; exact HM8.out)
  clear hM8 hml hmc
  rw [HMK.out] at hres
  unfold extend2 at hres
  clear HMK
  obtain ⟨y0, y1, yf0, yf1⟩ := HY8.out.two
  obtain ⟨r0, r1, rf0, rf1⟩ := HS8.out.r.two
  obtain ⟨z0, z1, zf0, zf1⟩ := HS8.out.z.two
  have hIQ : IntsQ W8 W8.heap.size mA M.length mc M := Rq.of (Rd.of_own HM8.out)
  obtain ⟨am, rfl, -, hm0⟩ := hIQ.at_ (i := M.length - 1) (by omega)
  clear hIQ
  have hlastM : lastI M = M[M.length - 1] := by
   unfold lastI
   rw [List.getLast?_eq_getElem?, List.getElem?_eq_getElem (by omega)]; rfl
  rw [hlastM] at hres
  clear hlastM
  generalize M[M.length - 1] = lm at *
  by_cases h6 : 6 < (M.length : Int)
  ·rw [if_pos (.inl (by omega))] at hres
   have HV := hide hres.symm
   go_wp2
   exact HPZ.out _ _ 10 HV.out HS8.out.below HS8.out.r rfl rfl rfl
  by_cases hlm : 1000 < lm
  ·rw [if_pos (.inr hlm)] at hres
   have HV := hide hres.symm
   go_wp2
   exact HPZ.out _ _ 10 HV.out HS8.out.below HS8.out.r rfl rfl rfl
  rw [if_neg (by rintro (h | h) <;> omega)] at hres
  go_upto_region 30 with fail
  obtain ⟨x0, x1, _, _⟩ := HS8.out.o.two
  have HR8 : w.heap.size + 3 ≤ W8.heap.size := HS8.out.size
  have HR := hide (ExtR.drew (⟨HS8.out.r, HM8.out, HS8.out.below, HR8⟩ : ExtR w W8 (some am) M.length mc M))
  have HBC := hide (Below.drew (Below.refl W8.heap.size W8))
  have hYl : Y < W8.heap.size := HY8.out.lt
  clear hm0 h6 hlm HPZ HS8 HY8 HM8 z0 z1 zf0 zf1 yf0 yf1
  refine wp_region_till (fun _ => True) 10 (fun w' => Below W8.heap.size W8 w') 10 (fun _ => True) (by kernel_rfl) ⟨trivial, fun _ => HBC.out, fun _ => trivial⟩ (fun hHeld => ?_)
  refine wpTill_take 0 rfl (by decide +kernel) (fun _ _ _ h => h) (by rfl) (v := ?_) ?_ hHeld (fun hHeld' => ?_)
  rotate_left 1
  focus (intro w' hSw; clear hSw; go_simp; first | done | with_reducible rfl)
  clear hHeld
  rename Till _ _ _ _ _ _ _ => hHeld
  (try simp only [Act.put, List.setIfInBounds_toArray, List.set_cons_zero, List.set_cons_succ])
  refine wpTill_take 1 rfl (by decide +kernel) (fun _ _ _ h => h) (by rfl) (v := ?_) ?_ hHeld (fun hHeld' => ?_)
  rotate_left 1
  focus (intro w' hSw; obtain ⟨hC, hF, hG⟩ := hSw; have hF := hF (by decide +kernel); clear hG; clear hC; have c1 := (hF.cell (p := ⟨w.heap.size, 0, none⟩) (by show w.heap.size < _; omega)).trans x0; clear hF; go_simp; first | done | with_reducible rfl)
  clear hHeld
  rename Till _ _ _ _ _ _ _ => hHeld
  (try simp only [Act.put, List.setIfInBounds_toArray, List.set_cons_zero, List.set_cons_succ])
  refine wpTill_take 3 rfl (by decide +kernel) (fun _ _ _ h => h) (by rfl) (v := ?_) ?_ hHeld (fun hHeld' => ?_)
  rotate_left 1
  focus (intro w' hSw; clear hSw; go_simp; first | done | with_reducible rfl)
  clear hHeld
  rename Till _ _ _ _ _ _ _ => hHeld
  (try simp only [Act.put, List.setIfInBounds_toArray, List.set_cons_zero, List.set_cons_succ])
  refine wpTill_take 4 rfl (by decide +kernel) (fun _ _ _ h => h) (by rfl) (v := ?_) ?_ hHeld (fun hHeld' => ?_)
  rotate_left 1
  focus (intro w' hSw; obtain ⟨hC, hF, hG⟩ := hSw; have hF := hF (by decide +kernel); clear hG; clear hC; have c1 := (hF.cell (p := ⟨w.heap.size, 1, none⟩) (by show w.heap.size < _; omega)).trans x1; clear hF; go_simp; first | done | with_reducible rfl)
  clear hHeld
  rename Till _ _ _ _ _ _ _ => hHeld
  (try simp only [Act.put, List.setIfInBounds_toArray, List.set_cons_zero, List.set_cons_succ])
  refine wpTill_take 6 rfl (by decide +kernel) (fun _ _ _ h => h) (by rfl) (v := ?_) ?_ hHeld (fun hHeld' => ?_)
  rotate_left 1
  focus (intro w' hSw; obtain ⟨hC, hF, hG⟩ := hSw; have hF := hF (by decide +kernel); clear hG; clear hC; have c1 := (hF.cell (p := ⟨Y, 0, none⟩) hYl).trans y0; have c2 := (hF.cell (p := ⟨Y, 1, none⟩) hYl).trans y1; clear hF; go_simp; first | done | with_reducible rfl)
  clear hHeld
  rename Till _ _ _ _ _ _ _ => hHeld
  (try simp only [Act.put, List.setIfInBounds_toArray, List.set_cons_zero, List.set_cons_succ])
  clear x0 x1 y0 y1
  refine wpTill_two 2 7 rfl rfl (by decide +kernel) (fun K hK => ?_) (fun K hK => ?_)
  ·have HROW := hide (World.ownsRow_lit (base := W8.heap.size) (e := 94) (size := 2) (W8.drew) #[] 0 (by first | exact Nat.le_refl W8.heap.size | (rw [World.size_alloc]; exact Nat.le_succ W8.heap.size)) (by unfold maxLen; omega) rfl)
   have HR := hide (HR.out.alloc (.cells #[] 94))
   have HBC := hide (HBC.out.alloc HBC.out.size (.cells #[] 94))
   go_simp
   refine hK.out _ _ ⟨trivial, fun _ => HBC.out, fun _ => trivial⟩ (fun hHeld => ?_)
   clear hK K
   (try simp only [Act.put, List.setIfInBounds_toArray, List.set_cons_zero, List.set_cons_succ])
   refine wpTill_two 5 7 rfl rfl (by decide +kernel) (fun K hK => ?_) (fun K hK => ?_)
   ·refine step_append_q rfl _ _ 22 rfl W8.heap.size 94 i1 (.agg #[.bool false, .slice none 0 0]) 2 32 Tryz.underlying22 hi1 hy0 hy1 hy2 rfl (by decide) (.slice (some ⟨W8.heap.size, 0, none⟩) 0 0) 0 _ rfl HROW.out A l.length c B (cells2 (l.map PieceV.enc)) rfl (HP.out _ HR.out.below).1 (enc_one l) (by unfold maxLen; omega) (by omega) HBC.out.size ?_
    intro A3 c3 w3 ho3 hg3
    have HR := hide (HR.out.grown (own_le HROW.out HR8) hg3)
    have HBC := hide (HBC.out.grown hg3 HBC.out.size (fun j e => (HROW.out.lt j e).1))
    have HROW : Hid (w3.ownsRow W8.heap.size 94 2 (.slice A3 l.length c3) l.length (cells2 (l.map PieceV.enc))) := hide (by simpa using ho3)
    rw [Nat.zero_add]
    refine hK.out _ _ ⟨trivial, fun _ => HBC.out, fun _ => trivial⟩ (fun hHeld => ?_)
    clear hK K ho3 hg3
    (try simp only [Act.put, List.setIfInBounds_toArray, List.set_cons_zero, List.set_cons_succ])
    refine wpTill_one 7 rfl (by decide +kernel) (fun K hK => ?_)
    have HCELL := hide (cell_new2 (w3) (.bool mi) (.slice (some am) M.length mc) 94)
    have HR := hide (HR.out.alloc (.cells #[.bool mi, .slice (some am) M.length mc] 94))
    have HBC := hide (HBC.out.alloc HBC.out.size (.cells #[.bool mi, .slice (some am) M.length mc] 94))
    have HROW := hide (HROW.out.alloc (.cells #[.bool mi, .slice (some am) M.length mc] 94))
    go_simp
    refine hK.out _ _ ⟨trivial, fun _ => HBC.out, fun _ => trivial⟩ (fun hHeld => ?_)
    clear hK K
    (try simp only [Act.put, List.setIfInBounds_toArray, List.set_cons_zero, List.set_cons_succ])
    refine wpTill_one 8 rfl (by decide +kernel) (fun K hK => ?_)
    refine step_append_lies _ rfl _ _ 22 rfl W8.heap.size 94 i1 (.agg #[.bool false, .slice none 0 0]) 2 32 Tryz.underlying22 hi1 hy0 hy1 hy2 rfl (by decide) (.slice A3 l.length c3) l.length _ rfl HROW.out ⟨w3.heap.size, 0, none⟩ 1 1 [.bool mi, .slice (some am) M.length mc] rfl rfl HCELL.out (by simp [Value.oneCell']) (by decide) (by unfold maxLen; omega) (by omega) HBC.out.size _ rfl ?_
    intro g4 cap4 w4 ho4 hg4 _ hlt4
    have HR := hide (HR.out.grown (own_le HROW.out HR8) hg4)
    have HBC := hide (HBC.out.grown hg4 HBC.out.size (fun j e => (HROW.out.lt j e).1))
    have HO4 := hide (own_le ho4 HR8)
    refine hK.out _ _ ⟨trivial, fun _ => HBC.out, fun _ => trivial⟩ (fun hHeld => ?_)
    clear hK K ho4 hg4
    (try simp only [Act.put, List.setIfInBounds_toArray, List.set_cons_zero, List.set_cons_succ])
    refine wpTill_take 9 rfl (by decide +kernel) (fun _ _ _ h => h) (by rfl) (v := ?_) ?_ hHeld (fun hHeld' => ?_)
    rotate_left 1
    focus (intro w' hSw; clear hSw; go_simp; first | done | with_reducible rfl)
    clear hHeld
    rename Till _ _ _ _ _ _ _ => hHeld
    (try simp only [Act.put, List.setIfInBounds_toArray, List.set_cons_zero, List.set_cons_succ])
    clear r0 r1 rf0 rf1
    obtain ⟨r0, r1, rf0, rf1⟩ := HR.out.r.two
    refine wpTill_one 10 rfl (by decide +kernel) (fun K hK => ?_)
    go_simp
    refine hK.out _ _ ⟨trivial, fun h => absurd h (by decide +kernel), fun _ => trivial⟩ (fun hHeld => ?_)
    clear hK K
    (try simp only [Act.put, List.setIfInBounds_toArray, List.set_cons_zero, List.set_cons_succ])
    refine wpTill_take 11 rfl (by decide +kernel) (fun _ _ _ h => h) (by rfl) (v := ?_) ?_ hHeld (fun hHeld' => ?_)
    rotate_left 1
    focus (intro w' hSw; clear hSw; go_simp; first | done | with_reducible rfl)
    clear hHeld
    rename Till _ _ _ _ _ _ _ => hHeld
    (try simp only [Act.put, List.setIfInBounds_toArray, List.set_cons_zero, List.set_cons_succ])
    refine wpTill_done (by decide +kernel) ?_
    clear hHeld
    go_wp2
    obtain ⟨hk1, hpq, hof, hbl⟩ := ext_fin HR.out (HP.out _ HR.out.below) hB HO4.out wh (W := _) rfl
    refine bodyPost_cell_tmp (p := 4) (u := 5) (ty := 24) rfl rfl hk1 Tryz.underlying24 rfl Tryz.sizeOld rfl ?_
    exact ⟨some ⟨g4, 0, none⟩, l.length + 1, cap4, l ++ [⟨mi, some am, M.length, mc, M⟩], by rw [← hres]; rfl, hpq, by rw [← hres, List.map_append]; rfl, hof, hbl⟩
   ·have HCELL : Hid (∀ j x, [Value.bool mi, .slice (some am) M.length mc][j]? = some x → ((W8.drew.alloc (.cells #[] 94)).alloc (.cells #[.bool mi, .slice (some am) M.length mc] 94)).cell? ((⟨W8.heap.size + 1, 0, none⟩ : Addr).add j) = some x) := hide (by have h := cell_new2 (W8.drew.alloc (.cells #[] 94)) (.bool mi) (.slice (some am) M.length mc) 94; rwa [World.size_alloc] at h)
    have HR := hide (HR.out.alloc (.cells #[.bool mi, .slice (some am) M.length mc] 94))
    have HBC := hide (HBC.out.alloc HBC.out.size (.cells #[.bool mi, .slice (some am) M.length mc] 94))
    have HROW := hide (HROW.out.alloc (.cells #[.bool mi, .slice (some am) M.length mc] 94))
    go_simp
    refine hK.out _ _ ⟨trivial, fun _ => HBC.out, fun _ => trivial⟩ (fun hHeld => ?_)
    clear hK K
    (try simp only [Act.put, List.setIfInBounds_toArray, List.set_cons_zero, List.set_cons_succ])
    refine wpTill_one 5 rfl (by decide +kernel) (fun K hK => ?_)
    refine step_append_q rfl _ _ 22 rfl W8.heap.size 94 i1 (.agg #[.bool false, .slice none 0 0]) 2 32 Tryz.underlying22 hi1 hy0 hy1 hy2 rfl (by decide) (.slice (some ⟨W8.heap.size, 0, none⟩) 0 0) 0 _ rfl HROW.out A l.length c B (cells2 (l.map PieceV.enc)) rfl (HP.out _ HR.out.below).1 (enc_one l) (by unfold maxLen; omega) (by omega) HBC.out.size ?_
    intro A3 c3 w3 ho3 hg3
    have HR := hide (HR.out.grown (own_le HROW.out HR8) hg3)
    have HBC := hide (HBC.out.grown hg3 HBC.out.size (fun j e => (HROW.out.lt j e).1))
    have HCELL := hide (cell_kept2 HCELL.out hg3 (by simp only [World.size_alloc]; first | exact Nat.lt_succ_self W8.heap.size | exact Nat.lt_succ_self (W8.heap.size + 1) | (show W8.heap.size < W8.heap.size + 1 + 1; omega)) (by simp only [Value.ownBlock, World.size_alloc]; intro h; have h2 := Option.some.inj h; first | (have h3 : W8.heap.size = W8.heap.size + 1 := h2; omega) | (have h3 : W8.heap.size + 1 = W8.heap.size := h2; omega)))
    have HROW : Hid (w3.ownsRow W8.heap.size 94 2 (.slice A3 l.length c3) l.length (cells2 (l.map PieceV.enc))) := hide (by simpa using ho3)
    rw [Nat.zero_add]
    refine hK.out _ _ ⟨trivial, fun _ => HBC.out, fun _ => trivial⟩ (fun hHeld => ?_)
    clear hK K ho3 hg3
    (try simp only [Act.put, List.setIfInBounds_toArray, List.set_cons_zero, List.set_cons_succ])
    refine wpTill_one 8 rfl (by decide +kernel) (fun K hK => ?_)
    refine step_append_lies _ rfl _ _ 22 rfl W8.heap.size 94 i1 (.agg #[.bool false, .slice none 0 0]) 2 32 Tryz.underlying22 hi1 hy0 hy1 hy2 rfl (by decide) (.slice A3 l.length c3) l.length _ rfl HROW.out ⟨W8.heap.size + 1, 0, none⟩ 1 1 [.bool mi, .slice (some am) M.length mc] rfl rfl HCELL.out (by simp [Value.oneCell']) (by decide) (by unfold maxLen; omega) (by omega) HBC.out.size _ rfl ?_
    intro g4 cap4 w4 ho4 hg4 _ hlt4
    have HR := hide (HR.out.grown (own_le HROW.out HR8) hg4)
    have HBC := hide (HBC.out.grown hg4 HBC.out.size (fun j e => (HROW.out.lt j e).1))
    have HO4 := hide (own_le ho4 HR8)
    refine hK.out _ _ ⟨trivial, fun _ => HBC.out, fun _ => trivial⟩ (fun hHeld => ?_)
    clear hK K ho4 hg4
    (try simp only [Act.put, List.setIfInBounds_toArray, List.set_cons_zero, List.set_cons_succ])
    refine wpTill_take 9 rfl (by decide +kernel) (fun _ _ _ h => h) (by rfl) (v := ?_) ?_ hHeld (fun hHeld' => ?_)
    rotate_left 1
    focus (intro w' hSw; clear hSw; go_simp; first | done | with_reducible rfl)
    clear hHeld
    rename Till _ _ _ _ _ _ _ => hHeld
    (try simp only [Act.put, List.setIfInBounds_toArray, List.set_cons_zero, List.set_cons_succ])
    clear r0 r1 rf0 rf1
    obtain ⟨r0, r1, rf0, rf1⟩ := HR.out.r.two
    refine wpTill_one 10 rfl (by decide +kernel) (fun K hK => ?_)
    go_simp
    refine hK.out _ _ ⟨trivial, fun h => absurd h (by decide +kernel), fun _ => trivial⟩ (fun hHeld => ?_)
    clear hK K
    (try simp only [Act.put, List.setIfInBounds_toArray, List.set_cons_zero, List.set_cons_succ])
    refine wpTill_take 11 rfl (by decide +kernel) (fun _ _ _ h => h) (by rfl) (v := ?_) ?_ hHeld (fun hHeld' => ?_)
    rotate_left 1
    focus (intro w' hSw; clear hSw; go_simp; first | done | with_reducible rfl)
    clear hHeld
    rename Till _ _ _ _ _ _ _ => hHeld
    (try simp only [Act.put, List.setIfInBounds_toArray, List.set_cons_zero, List.set_cons_succ])
    refine wpTill_done (by decide +kernel) ?_
    clear hHeld
    go_wp2
    obtain ⟨hk1, hpq, hof, hbl⟩ := ext_fin HR.out (HP.out _ HR.out.below) hB HO4.out wh (W := _) rfl
    refine bodyPost_cell_tmp (p := 4) (u := 5) (ty := 24) rfl rfl hk1 Tryz.underlying24 rfl Tryz.sizeOld rfl ?_
    exact ⟨some ⟨g4, 0, none⟩, l.length + 1, cap4, l ++ [⟨mi, some am, M.length, mc, M⟩], by rw [← hres]; rfl, hpq, by rw [← hres, List.map_append]; rfl, hof, hbl⟩
  ·have HCELL := hide (cell_new2 (W8.drew) (.bool mi) (.slice (some am) M.length mc) 94)
   have HR := hide (HR.out.alloc (.cells #[.bool mi, .slice (some am) M.length mc] 94))
   have HBC := hide (HBC.out.alloc HBC.out.size (.cells #[.bool mi, .slice (some am) M.length mc] 94))
   go_simp
   refine hK.out _ _ ⟨trivial, fun _ => HBC.out, fun _ => trivial⟩ (fun hHeld => ?_)
   clear hK K
   (try simp only [Act.put, List.setIfInBounds_toArray, List.set_cons_zero, List.set_cons_succ])
   refine wpTill_one 2 rfl (by decide +kernel) (fun K hK => ?_)
   have HCELL : Hid (∀ j x, [Value.bool mi, .slice (some am) M.length mc][j]? = some x → ((W8.drew.alloc (.cells #[.bool mi, .slice (some am) M.length mc] 94)).alloc (.cells #[] 94)).cell? ((⟨W8.heap.size, 0, none⟩ : Addr).add j) = some x) := hide (fun j x hx => (World.cell?_alloc_lt _ _ _ (by rw [addr_block, World.size_alloc]; exact Nat.lt_succ_self W8.heap.size)).trans (HCELL.out j x hx))
   have HROW : Hid (((W8.drew.alloc (.cells #[.bool mi, .slice (some am) M.length mc] 94)).alloc (.cells #[] 94)).ownsRow W8.heap.size 94 2 (.slice (some ⟨W8.heap.size + 1, 0, none⟩) 0 0) 0 []) := hide (by have h := World.ownsRow_lit (base := W8.heap.size) (e := 94) (size := 2) (W8.drew.alloc (.cells #[.bool mi, .slice (some am) M.length mc] 94)) #[] 0 (by rw [World.size_alloc]; exact Nat.le_succ W8.heap.size) (by unfold maxLen; omega) rfl; rwa [World.size_alloc] at h)
   have HR := hide (HR.out.alloc (.cells #[] 94))
   have HBC := hide (HBC.out.alloc HBC.out.size (.cells #[] 94))
   go_simp
   refine hK.out _ _ ⟨trivial, fun _ => HBC.out, fun _ => trivial⟩ (fun hHeld => ?_)
   clear hK K
   (try simp only [Act.put, List.setIfInBounds_toArray, List.set_cons_zero, List.set_cons_succ])
   refine wpTill_one 5 rfl (by decide +kernel) (fun K hK => ?_)
   refine step_append_q rfl _ _ 22 rfl W8.heap.size 94 i1 (.agg #[.bool false, .slice none 0 0]) 2 32 Tryz.underlying22 hi1 hy0 hy1 hy2 rfl (by decide) (.slice (some ⟨W8.heap.size + 1, 0, none⟩) 0 0) 0 _ rfl HROW.out A l.length c B (cells2 (l.map PieceV.enc)) rfl (HP.out _ HR.out.below).1 (enc_one l) (by unfold maxLen; omega) (by omega) HBC.out.size ?_
   intro A3 c3 w3 ho3 hg3
   have HR := hide (HR.out.grown (own_le HROW.out HR8) hg3)
   have HBC := hide (HBC.out.grown hg3 HBC.out.size (fun j e => (HROW.out.lt j e).1))
   have HCELL := hide (cell_kept2 HCELL.out hg3 (by simp only [World.size_alloc]; first | exact Nat.lt_succ_self W8.heap.size | exact Nat.lt_succ_self (W8.heap.size + 1) | (show W8.heap.size < W8.heap.size + 1 + 1; omega)) (by simp only [Value.ownBlock, World.size_alloc]; intro h; have h2 := Option.some.inj h; first | (have h3 : W8.heap.size = W8.heap.size + 1 := h2; omega) | (have h3 : W8.heap.size + 1 = W8.heap.size := h2; omega)))
   have HROW : Hid (w3.ownsRow W8.heap.size 94 2 (.slice A3 l.length c3) l.length (cells2 (l.map PieceV.enc))) := hide (by simpa using ho3)
   rw [Nat.zero_add]
   refine hK.out _ _ ⟨trivial, fun _ => HBC.out, fun _ => trivial⟩ (fun hHeld => ?_)
   clear hK K ho3 hg3
   (try simp only [Act.put, List.setIfInBounds_toArray, List.set_cons_zero, List.set_cons_succ])
   refine wpTill_one 8 rfl (by decide +kernel) (fun K hK => ?_)
   refine step_append_lies _ rfl _ _ 22 rfl W8.heap.size 94 i1 (.agg #[.bool false, .slice none 0 0]) 2 32 Tryz.underlying22 hi1 hy0 hy1 hy2 rfl (by decide) (.slice A3 l.length c3) l.length _ rfl HROW.out ⟨W8.heap.size, 0, none⟩ 1 1 [.bool mi, .slice (some am) M.length mc] rfl rfl HCELL.out (by simp [Value.oneCell']) (by decide) (by unfold maxLen; omega) (by omega) HBC.out.size _ rfl ?_
   intro g4 cap4 w4 ho4 hg4 _ hlt4
   have HR := hide (HR.out.grown (own_le HROW.out HR8) hg4)
   have HBC := hide (HBC.out.grown hg4 HBC.out.size (fun j e => (HROW.out.lt j e).1))
   have HO4 := hide (own_le ho4 HR8)
   refine hK.out _ _ ⟨trivial, fun _ => HBC.out, fun _ => trivial⟩ (fun hHeld => ?_)
   clear hK K ho4 hg4
   (try simp only [Act.put, List.setIfInBounds_toArray, List.set_cons_zero, List.set_cons_succ])
   refine wpTill_take 9 rfl (by decide +kernel) (fun _ _ _ h => h) (by rfl) (v := ?_) ?_ hHeld (fun hHeld' => ?_)
   rotate_left 1
   focus (intro w' hSw; clear hSw; go_simp; first | done | with_reducible rfl)
   clear hHeld
   rename Till _ _ _ _ _ _ _ => hHeld
   (try simp only [Act.put, List.setIfInBounds_toArray, List.set_cons_zero, List.set_cons_succ])
   clear r0 r1 rf0 rf1
   obtain ⟨r0, r1, rf0, rf1⟩ := HR.out.r.two
   refine wpTill_one 10 rfl (by decide +kernel) (fun K hK => ?_)
   go_simp
   refine hK.out _ _ ⟨trivial, fun h => absurd h (by decide +kernel), fun _ => trivial⟩ (fun hHeld => ?_)
   clear hK K
   (try simp only [Act.put, List.setIfInBounds_toArray, List.set_cons_zero, List.set_cons_succ])
   refine wpTill_take 11 rfl (by decide +kernel) (fun _ _ _ h => h) (by rfl) (v := ?_) ?_ hHeld (fun hHeld' => ?_)
   rotate_left 1
   focus (intro w' hSw; clear hSw; go_simp; first | done | with_reducible rfl)
   clear hHeld
   rename Till _ _ _ _ _ _ _ => hHeld
   (try simp only [Act.put, List.setIfInBounds_toArray, List.set_cons_zero, List.set_cons_succ])
   refine wpTill_done (by decide +kernel) ?_
   clear hHeld
   go_wp2
   obtain ⟨hk1, hpq, hof, hbl⟩ := ext_fin HR.out (HP.out _ HR.out.below) hB HO4.out wh (W := _) rfl
   refine bodyPost_cell_tmp (p := 4) (u := 5) (ty := 24) rfl rfl hk1 Tryz.underlying24 rfl Tryz.sizeOld rfl ?_
   exact ⟨some ⟨g4, 0, none⟩, l.length + 1, cap4, l ++ [⟨mi, some am, M.length, mc, M⟩], by rw [← hres]; rfl, hpq, by rw [← hres, List.map_append]; rfl, hof, hbl⟩
 ·have hlp : 0 < l.length := List.length_pos_iff.2 hl0
  have hll : l.length - 1 < l.length := by omega
  have HPk := hide (HP.out _ HSq.out.below)
  obtain ⟨ad, rfl, -, ha0, ha1⟩ := HPk.out.at_ hll
  have hpi := HPk.out.2 l[l.length - 1] (List.getElem_mem hll)
  obtain ⟨m1, m2⟩ := HMS.out l[l.length - 1] (List.getElem_mem hll)
  have hnzl := hnz l[l.length - 1].flat (List.mem_map_of_mem (List.getElem_mem hll))
  have hgl : (l.map PieceV.flat).getLast? = some (l[l.length - 1].flat) := by
   rw [List.getLast?_eq_getElem?, List.getElem?_map, List.length_map, List.getElem?_eq_getElem hll]; rfl
  have hM : marksS (l.map PieceV.flat) dd = if dd.tmod (prodM 1 l[l.length - 1].ms) = 0 ∧ inB (dd.tdiv (prodM 1 l[l.length - 1].ms)) 2 1000 = true then l[l.length - 1].ms ++ [dd.tdiv (prodM 1 l[l.length - 1].ms)] else [dd] := by
   unfold marksS
   rw [hgl]
   rfl
  obtain ⟨p, hpe⟩ : ∃ p, p = l[l.length - 1] := ⟨_, rfl⟩
  rw [← hpe] at ha0 ha1 hpi m1 m2 hnzl hM
  clear hpe hgl
  obtain ⟨pm, Ap, np, cp, ms⟩ := p
  dsimp only [PieceV.flat] at ha0 ha1 hpi m1 m2 hnzl hM
  have hnp := hpi.len
  subst hnp
  have hpq := prodQ_M ms 1 (by omega) (fun x hx => by have := m2 x hx; omega)
  have hpb := prodQ_bd ms 1 (by omega) (fun x hx => by have := m2 x hx; omega)
  have hpo := prodQ_one ms (fun x hx => by have := m2 x hx; omega)
  have hq1 : prodQ 1 ms = prodM 1 ms := by
   by_cases h : 100000 < prodQ 1 ms
   ·rw [if_pos h] at hpq; exact absurd hpq hnzl
   ·rw [if_neg h] at hpq; exact hpq.symm
  rw [hq1] at hpb hpo
  have HPI := hide hpi
  have hpr := refProduct_any Ap ms.length cp B ms W1 HPI.out (fun x hx => by have := m2 x hx; omega)
  rw [hq1] at hpr
  have HPR := hide hpr
  clear hpq hq1 hpi hpr hnzl
  generalize prodM 1 ms = q at *
  have hT : dd.tmod q = dd % q := Int.tmod_eq_emod_of_nonneg (by omega)
  have hQ : dd.tdiv q = dd / q := Int.tdiv_eq_ediv_of_nonneg (by omega)
  rw [hT, hQ] at hM
  have hqz : ¬ q = 0 := by omega
  have hb0 : 0 ≤ dd / q := Int.ediv_nonneg (by omega) (by omega)
  have hb1 : dd / q ≤ dd := Int.ediv_le_self q (by omega)
  have hwq2 : IntKind.i64.wrap (dd / q) = dd / q := by rw [IntKind.wrap_i64]; omega
  have HIQ := hide (fun W => refIn2_any (dd / q) 2 1000 W)
  have hlpos : 0 < (l.length : Int) := by omega
  clear hT hQ
  by_cases hdv : dd % q = 0
  case' neg =>
   have hdb : (dd % q == 0) = false := by simpa using hdv
   have HMK : Hid (marksS (l.map PieceV.flat) dd = [dd]) := hide (hM.trans (if_neg (fun h => hdv h.1)))
   clear hM hdv
   go_upto_region 26 with (first
    | (go_at_call 73; refine HPR.out.mono ?_; rintro e w1 ⟨rfl, hw1⟩; subst w1))
   clear ha0 ha1 HPk HPR HIQ
   obtain ⟨a0, a1, af0, af1⟩ := (HYq.out.alloc (.cells #[.int .i64 dd] 3)).two
   go_upto_region 28 with fail
   clear a0 a1 af0 af1
   have hrM := own_le (World.ownsRow_lit (base := W1.heap.size) (e := 3) (size := 1) W1 #[.int .i64 dd] 1 (Nat.le_refl _) (by unfold maxLen; omega) rfl) (show w.heap.size + 3 ≤ W1.heap.size by have := HYq.out.lt; omega)
   have HS8 := hide ((HSq.out.alloc (.cells #[.int .i64 dd] 3)).set (p := ⟨Y, 1, none⟩) (by show _ ≤ Y; omega) (.slice (some ⟨W1.heap.size, 0, none⟩) 1 1))
   have HY8 : Hid (Blk ((W1.alloc (.cells #[.int .i64 dd] 3)).setCell ⟨Y, 1, none⟩ (.slice (some ⟨W1.heap.size, 0, none⟩) 1 1)) Y 94 #[.bool mi, .slice (some ⟨W1.heap.size, 0, none⟩) 1 1]) := hide ((HYq.out.alloc (.cells #[.int .i64 dd] 3)).set_ 1 _)
   have HM8 : Hid (((W1.alloc (.cells #[.int .i64 dd] 3)).setCell ⟨Y, 1, none⟩ (.slice (some ⟨W1.heap.size, 0, none⟩) 1 1)).ownsRow (w.heap.size + 3) 3 1 (.slice (some ⟨W1.heap.size, 0, none⟩) 1 1) 1 ([dd].map (Value.int .i64))) := hide (own_set hrM (HYq.out.alloc (.cells #[.int .i64 dd] 3)) (by decide))
   clear hrM HSq HYq x0 x1 y0 y1 yf0 yf1
   obtain ⟨mA, hmA⟩ : ∃ mA : Option Addr, mA = some ⟨W1.heap.size, 0, none⟩ := ⟨_, rfl⟩
   rw [← hmA] at HS8 HY8 HM8 ⊢
   clear hmA
   generalize (W1.alloc (.cells #[.int .i64 dd] 3)).setCell ⟨Y, 1, none⟩ (.slice mA 1 1) = W8 at *
   obtain ⟨M, hM8⟩ : ∃ M, M = [dd] := ⟨_, rfl⟩
   rw [← hM8] at HMK HM8
   have hml : (1 : Nat) = M.length := by rw [hM8]; rfl
   have hM0 : 0 < M.length := by omega
   have hM7 : M.length ≤ 7 := by omega
   obtain ⟨mc, hmc⟩ : ∃ mc : Nat, mc = 1 := ⟨_, rfl⟩
   have HY8 : Hid (Blk W8 Y 94 #[.bool mi, .slice mA M.length mc]) := hide (by rw [← hml, hmc]; exact HY8.out)
   have HM8 : Hid (W8.ownsRow (w.heap.size + 3) 3 1 (.slice mA M.length mc) M.length (M.map (Value.int .i64))) := hide (by rw [← hml, hmc]; exact HM8.out)
   clear hM8 hml hmc
   rw [HMK.out] at hres
   unfold extend2 at hres
   clear HMK
   obtain ⟨y0, y1, yf0, yf1⟩ := HY8.out.two
   obtain ⟨r0, r1, rf0, rf1⟩ := HS8.out.r.two
   obtain ⟨z0, z1, zf0, zf1⟩ := HS8.out.z.two
   have hIQ : IntsQ W8 W8.heap.size mA M.length mc M := Rq.of (Rd.of_own HM8.out)
   obtain ⟨am, rfl, -, hm0⟩ := hIQ.at_ (i := M.length - 1) (by omega)
   clear hIQ
   have hlastM : lastI M = M[M.length - 1] := by
    unfold lastI
    rw [List.getLast?_eq_getElem?, List.getElem?_eq_getElem (by omega)]; rfl
   rw [hlastM] at hres
   clear hlastM
   generalize M[M.length - 1] = lm at *
   by_cases h6 : 6 < (M.length : Int)
   ·rw [if_pos (.inl (by omega))] at hres
    have HV := hide hres.symm
    go_wp2
    exact HPZ.out _ _ 10 HV.out HS8.out.below HS8.out.r rfl rfl rfl
   by_cases hlm : 1000 < lm
   ·rw [if_pos (.inr hlm)] at hres
    have HV := hide hres.symm
    go_wp2
    exact HPZ.out _ _ 10 HV.out HS8.out.below HS8.out.r rfl rfl rfl
   rw [if_neg (by rintro (h | h) <;> omega)] at hres
   go_upto_region 30 with fail
   obtain ⟨x0, x1, _, _⟩ := HS8.out.o.two
   have HR8 : w.heap.size + 3 ≤ W8.heap.size := HS8.out.size
   have HR := hide (ExtR.drew (⟨HS8.out.r, HM8.out, HS8.out.below, HR8⟩ : ExtR w W8 (some am) M.length mc M))
   have HBC := hide (Below.drew (Below.refl W8.heap.size W8))
   have hYl : Y < W8.heap.size := HY8.out.lt
   clear hm0 h6 hlm HPZ HS8 HY8 HM8 z0 z1 zf0 zf1 yf0 yf1
   refine wp_region_till (fun _ => True) 10 (fun w' => Below W8.heap.size W8 w') 10 (fun _ => True) (by kernel_rfl) ⟨trivial, fun _ => HBC.out, fun _ => trivial⟩ (fun hHeld => ?_)
   refine wpTill_take 0 rfl (by decide +kernel) (fun _ _ _ h => h) (by rfl) (v := ?_) ?_ hHeld (fun hHeld' => ?_)
   rotate_left 1
   focus (intro w' hSw; clear hSw; go_simp; first | done | with_reducible rfl)
   clear hHeld
   rename Till _ _ _ _ _ _ _ => hHeld
   (try simp only [Act.put, List.setIfInBounds_toArray, List.set_cons_zero, List.set_cons_succ])
   refine wpTill_take 1 rfl (by decide +kernel) (fun _ _ _ h => h) (by rfl) (v := ?_) ?_ hHeld (fun hHeld' => ?_)
   rotate_left 1
   focus (intro w' hSw; obtain ⟨hC, hF, hG⟩ := hSw; have hF := hF (by decide +kernel); clear hG; clear hC; have c1 := (hF.cell (p := ⟨w.heap.size, 0, none⟩) (by show w.heap.size < _; omega)).trans x0; clear hF; go_simp; first | done | with_reducible rfl)
   clear hHeld
   rename Till _ _ _ _ _ _ _ => hHeld
   (try simp only [Act.put, List.setIfInBounds_toArray, List.set_cons_zero, List.set_cons_succ])
   refine wpTill_take 3 rfl (by decide +kernel) (fun _ _ _ h => h) (by rfl) (v := ?_) ?_ hHeld (fun hHeld' => ?_)
   rotate_left 1
   focus (intro w' hSw; clear hSw; go_simp; first | done | with_reducible rfl)
   clear hHeld
   rename Till _ _ _ _ _ _ _ => hHeld
   (try simp only [Act.put, List.setIfInBounds_toArray, List.set_cons_zero, List.set_cons_succ])
   refine wpTill_take 4 rfl (by decide +kernel) (fun _ _ _ h => h) (by rfl) (v := ?_) ?_ hHeld (fun hHeld' => ?_)
   rotate_left 1
   focus (intro w' hSw; obtain ⟨hC, hF, hG⟩ := hSw; have hF := hF (by decide +kernel); clear hG; clear hC; have c1 := (hF.cell (p := ⟨w.heap.size, 1, none⟩) (by show w.heap.size < _; omega)).trans x1; clear hF; go_simp; first | done | with_reducible rfl)
   clear hHeld
   rename Till _ _ _ _ _ _ _ => hHeld
   (try simp only [Act.put, List.setIfInBounds_toArray, List.set_cons_zero, List.set_cons_succ])
   refine wpTill_take 6 rfl (by decide +kernel) (fun _ _ _ h => h) (by rfl) (v := ?_) ?_ hHeld (fun hHeld' => ?_)
   rotate_left 1
   focus (intro w' hSw; obtain ⟨hC, hF, hG⟩ := hSw; have hF := hF (by decide +kernel); clear hG; clear hC; have c1 := (hF.cell (p := ⟨Y, 0, none⟩) hYl).trans y0; have c2 := (hF.cell (p := ⟨Y, 1, none⟩) hYl).trans y1; clear hF; go_simp; first | done | with_reducible rfl)
   clear hHeld
   rename Till _ _ _ _ _ _ _ => hHeld
   (try simp only [Act.put, List.setIfInBounds_toArray, List.set_cons_zero, List.set_cons_succ])
   clear x0 x1 y0 y1
   refine wpTill_two 2 7 rfl rfl (by decide +kernel) (fun K hK => ?_) (fun K hK => ?_)
   ·have HROW := hide (World.ownsRow_lit (base := W8.heap.size) (e := 94) (size := 2) (W8.drew) #[] 0 (by first | exact Nat.le_refl W8.heap.size | (rw [World.size_alloc]; exact Nat.le_succ W8.heap.size)) (by unfold maxLen; omega) rfl)
    have HR := hide (HR.out.alloc (.cells #[] 94))
    have HBC := hide (HBC.out.alloc HBC.out.size (.cells #[] 94))
    go_simp
    refine hK.out _ _ ⟨trivial, fun _ => HBC.out, fun _ => trivial⟩ (fun hHeld => ?_)
    clear hK K
    (try simp only [Act.put, List.setIfInBounds_toArray, List.set_cons_zero, List.set_cons_succ])
    refine wpTill_two 5 7 rfl rfl (by decide +kernel) (fun K hK => ?_) (fun K hK => ?_)
    ·refine step_append_q rfl _ _ 22 rfl W8.heap.size 94 i1 (.agg #[.bool false, .slice none 0 0]) 2 32 Tryz.underlying22 hi1 hy0 hy1 hy2 rfl (by decide) (.slice (some ⟨W8.heap.size, 0, none⟩) 0 0) 0 _ rfl HROW.out (some ad) l.length c B (cells2 (l.map PieceV.enc)) rfl (HP.out _ HR.out.below).1 (enc_one l) (by unfold maxLen; omega) (by omega) HBC.out.size ?_
     intro A3 c3 w3 ho3 hg3
     have HR := hide (HR.out.grown (own_le HROW.out HR8) hg3)
     have HBC := hide (HBC.out.grown hg3 HBC.out.size (fun j e => (HROW.out.lt j e).1))
     have HROW : Hid (w3.ownsRow W8.heap.size 94 2 (.slice A3 l.length c3) l.length (cells2 (l.map PieceV.enc))) := hide (by simpa using ho3)
     rw [Nat.zero_add]
     refine hK.out _ _ ⟨trivial, fun _ => HBC.out, fun _ => trivial⟩ (fun hHeld => ?_)
     clear hK K ho3 hg3
     (try simp only [Act.put, List.setIfInBounds_toArray, List.set_cons_zero, List.set_cons_succ])
     refine wpTill_one 7 rfl (by decide +kernel) (fun K hK => ?_)
     have HCELL := hide (cell_new2 (w3) (.bool mi) (.slice (some am) M.length mc) 94)
     have HR := hide (HR.out.alloc (.cells #[.bool mi, .slice (some am) M.length mc] 94))
     have HBC := hide (HBC.out.alloc HBC.out.size (.cells #[.bool mi, .slice (some am) M.length mc] 94))
     have HROW := hide (HROW.out.alloc (.cells #[.bool mi, .slice (some am) M.length mc] 94))
     go_simp
     refine hK.out _ _ ⟨trivial, fun _ => HBC.out, fun _ => trivial⟩ (fun hHeld => ?_)
     clear hK K
     (try simp only [Act.put, List.setIfInBounds_toArray, List.set_cons_zero, List.set_cons_succ])
     refine wpTill_one 8 rfl (by decide +kernel) (fun K hK => ?_)
     refine step_append_lies _ rfl _ _ 22 rfl W8.heap.size 94 i1 (.agg #[.bool false, .slice none 0 0]) 2 32 Tryz.underlying22 hi1 hy0 hy1 hy2 rfl (by decide) (.slice A3 l.length c3) l.length _ rfl HROW.out ⟨w3.heap.size, 0, none⟩ 1 1 [.bool mi, .slice (some am) M.length mc] rfl rfl HCELL.out (by simp [Value.oneCell']) (by decide) (by unfold maxLen; omega) (by omega) HBC.out.size _ rfl ?_
     intro g4 cap4 w4 ho4 hg4 _ hlt4
     have HR := hide (HR.out.grown (own_le HROW.out HR8) hg4)
     have HBC := hide (HBC.out.grown hg4 HBC.out.size (fun j e => (HROW.out.lt j e).1))
     have HO4 := hide (own_le ho4 HR8)
     refine hK.out _ _ ⟨trivial, fun _ => HBC.out, fun _ => trivial⟩ (fun hHeld => ?_)
     clear hK K ho4 hg4
     (try simp only [Act.put, List.setIfInBounds_toArray, List.set_cons_zero, List.set_cons_succ])
     refine wpTill_take 9 rfl (by decide +kernel) (fun _ _ _ h => h) (by rfl) (v := ?_) ?_ hHeld (fun hHeld' => ?_)
     rotate_left 1
     focus (intro w' hSw; clear hSw; go_simp; first | done | with_reducible rfl)
     clear hHeld
     rename Till _ _ _ _ _ _ _ => hHeld
     (try simp only [Act.put, List.setIfInBounds_toArray, List.set_cons_zero, List.set_cons_succ])
     clear r0 r1 rf0 rf1
     obtain ⟨r0, r1, rf0, rf1⟩ := HR.out.r.two
     refine wpTill_one 10 rfl (by decide +kernel) (fun K hK => ?_)
     go_simp
     refine hK.out _ _ ⟨trivial, fun h => absurd h (by decide +kernel), fun _ => trivial⟩ (fun hHeld => ?_)
     clear hK K
     (try simp only [Act.put, List.setIfInBounds_toArray, List.set_cons_zero, List.set_cons_succ])
     refine wpTill_take 11 rfl (by decide +kernel) (fun _ _ _ h => h) (by rfl) (v := ?_) ?_ hHeld (fun hHeld' => ?_)
     rotate_left 1
     focus (intro w' hSw; clear hSw; go_simp; first | done | with_reducible rfl)
     clear hHeld
     rename Till _ _ _ _ _ _ _ => hHeld
     (try simp only [Act.put, List.setIfInBounds_toArray, List.set_cons_zero, List.set_cons_succ])
     refine wpTill_done (by decide +kernel) ?_
     clear hHeld
     go_wp2
     obtain ⟨hk1, hpq, hof, hbl⟩ := ext_fin HR.out (HP.out _ HR.out.below) hB HO4.out wh (W := _) rfl
     refine bodyPost_cell_tmp (p := 4) (u := 5) (ty := 24) rfl rfl hk1 Tryz.underlying24 rfl Tryz.sizeOld rfl ?_
     exact ⟨some ⟨g4, 0, none⟩, l.length + 1, cap4, l ++ [⟨mi, some am, M.length, mc, M⟩], by rw [← hres]; rfl, hpq, by rw [← hres, List.map_append]; rfl, hof, hbl⟩
    ·have HCELL : Hid (∀ j x, [Value.bool mi, .slice (some am) M.length mc][j]? = some x → ((W8.drew.alloc (.cells #[] 94)).alloc (.cells #[.bool mi, .slice (some am) M.length mc] 94)).cell? ((⟨W8.heap.size + 1, 0, none⟩ : Addr).add j) = some x) := hide (by have h := cell_new2 (W8.drew.alloc (.cells #[] 94)) (.bool mi) (.slice (some am) M.length mc) 94; rwa [World.size_alloc] at h)
     have HR := hide (HR.out.alloc (.cells #[.bool mi, .slice (some am) M.length mc] 94))
     have HBC := hide (HBC.out.alloc HBC.out.size (.cells #[.bool mi, .slice (some am) M.length mc] 94))
     have HROW := hide (HROW.out.alloc (.cells #[.bool mi, .slice (some am) M.length mc] 94))
     go_simp
     refine hK.out _ _ ⟨trivial, fun _ => HBC.out, fun _ => trivial⟩ (fun hHeld => ?_)
     clear hK K
     (try simp only [Act.put, List.setIfInBounds_toArray, List.set_cons_zero, List.set_cons_succ])
     refine wpTill_one 5 rfl (by decide +kernel) (fun K hK => ?_)
     refine step_append_q rfl _ _ 22 rfl W8.heap.size 94 i1 (.agg #[.bool false, .slice none 0 0]) 2 32 Tryz.underlying22 hi1 hy0 hy1 hy2 rfl (by decide) (.slice (some ⟨W8.heap.size, 0, none⟩) 0 0) 0 _ rfl HROW.out (some ad) l.length c B (cells2 (l.map PieceV.enc)) rfl (HP.out _ HR.out.below).1 (enc_one l) (by unfold maxLen; omega) (by omega) HBC.out.size ?_
     intro A3 c3 w3 ho3 hg3
     have HR := hide (HR.out.grown (own_le HROW.out HR8) hg3)
     have HBC := hide (HBC.out.grown hg3 HBC.out.size (fun j e => (HROW.out.lt j e).1))
     have HCELL := hide (cell_kept2 HCELL.out hg3 (by simp only [World.size_alloc]; first | exact Nat.lt_succ_self W8.heap.size | exact Nat.lt_succ_self (W8.heap.size + 1) | (show W8.heap.size < W8.heap.size + 1 + 1; omega)) (by simp only [Value.ownBlock, World.size_alloc]; intro h; have h2 := Option.some.inj h; first | (have h3 : W8.heap.size = W8.heap.size + 1 := h2; omega) | (have h3 : W8.heap.size + 1 = W8.heap.size := h2; omega)))
     have HROW : Hid (w3.ownsRow W8.heap.size 94 2 (.slice A3 l.length c3) l.length (cells2 (l.map PieceV.enc))) := hide (by simpa using ho3)
     rw [Nat.zero_add]
     refine hK.out _ _ ⟨trivial, fun _ => HBC.out, fun _ => trivial⟩ (fun hHeld => ?_)
     clear hK K ho3 hg3
     (try simp only [Act.put, List.setIfInBounds_toArray, List.set_cons_zero, List.set_cons_succ])
     refine wpTill_one 8 rfl (by decide +kernel) (fun K hK => ?_)
     refine step_append_lies _ rfl _ _ 22 rfl W8.heap.size 94 i1 (.agg #[.bool false, .slice none 0 0]) 2 32 Tryz.underlying22 hi1 hy0 hy1 hy2 rfl (by decide) (.slice A3 l.length c3) l.length _ rfl HROW.out ⟨W8.heap.size + 1, 0, none⟩ 1 1 [.bool mi, .slice (some am) M.length mc] rfl rfl HCELL.out (by simp [Value.oneCell']) (by decide) (by unfold maxLen; omega) (by omega) HBC.out.size _ rfl ?_
     intro g4 cap4 w4 ho4 hg4 _ hlt4
     have HR := hide (HR.out.grown (own_le HROW.out HR8) hg4)
     have HBC := hide (HBC.out.grown hg4 HBC.out.size (fun j e => (HROW.out.lt j e).1))
     have HO4 := hide (own_le ho4 HR8)
     refine hK.out _ _ ⟨trivial, fun _ => HBC.out, fun _ => trivial⟩ (fun hHeld => ?_)
     clear hK K ho4 hg4
     (try simp only [Act.put, List.setIfInBounds_toArray, List.set_cons_zero, List.set_cons_succ])
     refine wpTill_take 9 rfl (by decide +kernel) (fun _ _ _ h => h) (by rfl) (v := ?_) ?_ hHeld (fun hHeld' => ?_)
     rotate_left 1
     focus (intro w' hSw; clear hSw; go_simp; first | done | with_reducible rfl)
     clear hHeld
     rename Till _ _ _ _ _ _ _ => hHeld
     (try simp only [Act.put, List.setIfInBounds_toArray, List.set_cons_zero, List.set_cons_succ])
     clear r0 r1 rf0 rf1
     obtain ⟨r0, r1, rf0, rf1⟩ := HR.out.r.two
     refine wpTill_one 10 rfl (by decide +kernel) (fun K hK => ?_)
     go_simp
     refine hK.out _ _ ⟨trivial, fun h => absurd h (by decide +kernel), fun _ => trivial⟩ (fun hHeld => ?_)
     clear hK K
     (try simp only [Act.put, List.setIfInBounds_toArray, List.set_cons_zero, List.set_cons_succ])
     refine wpTill_take 11 rfl (by decide +kernel) (fun _ _ _ h => h) (by rfl) (v := ?_) ?_ hHeld (fun hHeld' => ?_)
     rotate_left 1
     focus (intro w' hSw; clear hSw; go_simp; first | done | with_reducible rfl)
     clear hHeld
     rename Till _ _ _ _ _ _ _ => hHeld
     (try simp only [Act.put, List.setIfInBounds_toArray, List.set_cons_zero, List.set_cons_succ])
     refine wpTill_done (by decide +kernel) ?_
     clear hHeld
     go_wp2
     obtain ⟨hk1, hpq, hof, hbl⟩ := ext_fin HR.out (HP.out _ HR.out.below) hB HO4.out wh (W := _) rfl
     refine bodyPost_cell_tmp (p := 4) (u := 5) (ty := 24) rfl rfl hk1 Tryz.underlying24 rfl Tryz.sizeOld rfl ?_
     exact ⟨some ⟨g4, 0, none⟩, l.length + 1, cap4, l ++ [⟨mi, some am, M.length, mc, M⟩], by rw [← hres]; rfl, hpq, by rw [← hres, List.map_append]; rfl, hof, hbl⟩
   ·have HCELL := hide (cell_new2 (W8.drew) (.bool mi) (.slice (some am) M.length mc) 94)
    have HR := hide (HR.out.alloc (.cells #[.bool mi, .slice (some am) M.length mc] 94))
    have HBC := hide (HBC.out.alloc HBC.out.size (.cells #[.bool mi, .slice (some am) M.length mc] 94))
    go_simp
    refine hK.out _ _ ⟨trivial, fun _ => HBC.out, fun _ => trivial⟩ (fun hHeld => ?_)
    clear hK K
    (try simp only [Act.put, List.setIfInBounds_toArray, List.set_cons_zero, List.set_cons_succ])
    refine wpTill_one 2 rfl (by decide +kernel) (fun K hK => ?_)
    have HCELL : Hid (∀ j x, [Value.bool mi, .slice (some am) M.length mc][j]? = some x → ((W8.drew.alloc (.cells #[.bool mi, .slice (some am) M.length mc] 94)).alloc (.cells #[] 94)).cell? ((⟨W8.heap.size, 0, none⟩ : Addr).add j) = some x) := hide (fun j x hx => (World.cell?_alloc_lt _ _ _ (by rw [addr_block, World.size_alloc]; exact Nat.lt_succ_self W8.heap.size)).trans (HCELL.out j x hx))
    have HROW : Hid (((W8.drew.alloc (.cells #[.bool mi, .slice (some am) M.length mc] 94)).alloc (.cells #[] 94)).ownsRow W8.heap.size 94 2 (.slice (some ⟨W8.heap.size + 1, 0, none⟩) 0 0) 0 []) := hide (by have h := World.ownsRow_lit (base := W8.heap.size) (e := 94) (size := 2) (W8.drew.alloc (.cells #[.bool mi, .slice (some am) M.length mc] 94)) #[] 0 (by rw [World.size_alloc]; exact Nat.le_succ W8.heap.size) (by unfold maxLen; omega) rfl; rwa [World.size_alloc] at h)
    have HR := hide (HR.out.alloc (.cells #[] 94))
    have HBC := hide (HBC.out.alloc HBC.out.size (.cells #[] 94))
    go_simp
    refine hK.out _ _ ⟨trivial, fun _ => HBC.out, fun _ => trivial⟩ (fun hHeld => ?_)
    clear hK K
    (try simp only [Act.put, List.setIfInBounds_toArray, List.set_cons_zero, List.set_cons_succ])
    refine wpTill_one 5 rfl (by decide +kernel) (fun K hK => ?_)
    refine step_append_q rfl _ _ 22 rfl W8.heap.size 94 i1 (.agg #[.bool false, .slice none 0 0]) 2 32 Tryz.underlying22 hi1 hy0 hy1 hy2 rfl (by decide) (.slice (some ⟨W8.heap.size + 1, 0, none⟩) 0 0) 0 _ rfl HROW.out (some ad) l.length c B (cells2 (l.map PieceV.enc)) rfl (HP.out _ HR.out.below).1 (enc_one l) (by unfold maxLen; omega) (by omega) HBC.out.size ?_
    intro A3 c3 w3 ho3 hg3
    have HR := hide (HR.out.grown (own_le HROW.out HR8) hg3)
    have HBC := hide (HBC.out.grown hg3 HBC.out.size (fun j e => (HROW.out.lt j e).1))
    have HCELL := hide (cell_kept2 HCELL.out hg3 (by simp only [World.size_alloc]; first | exact Nat.lt_succ_self W8.heap.size | exact Nat.lt_succ_self (W8.heap.size + 1) | (show W8.heap.size < W8.heap.size + 1 + 1; omega)) (by simp only [Value.ownBlock, World.size_alloc]; intro h; have h2 := Option.some.inj h; first | (have h3 : W8.heap.size = W8.heap.size + 1 := h2; omega) | (have h3 : W8.heap.size + 1 = W8.heap.size := h2; omega)))
    have HROW : Hid (w3.ownsRow W8.heap.size 94 2 (.slice A3 l.length c3) l.length (cells2 (l.map PieceV.enc))) := hide (by simpa using ho3)
    rw [Nat.zero_add]
    refine hK.out _ _ ⟨trivial, fun _ => HBC.out, fun _ => trivial⟩ (fun hHeld => ?_)
    clear hK K ho3 hg3
    (try simp only [Act.put, List.setIfInBounds_toArray, List.set_cons_zero, List.set_cons_succ])
    refine wpTill_one 8 rfl (by decide +kernel) (fun K hK => ?_)
    refine step_append_lies _ rfl _ _ 22 rfl W8.heap.size 94 i1 (.agg #[.bool false, .slice none 0 0]) 2 32 Tryz.underlying22 hi1 hy0 hy1 hy2 rfl (by decide) (.slice A3 l.length c3) l.length _ rfl HROW.out ⟨W8.heap.size, 0, none⟩ 1 1 [.bool mi, .slice (some am) M.length mc] rfl rfl HCELL.out (by simp [Value.oneCell']) (by decide) (by unfold maxLen; omega) (by omega) HBC.out.size _ rfl ?_
    intro g4 cap4 w4 ho4 hg4 _ hlt4
    have HR := hide (HR.out.grown (own_le HROW.out HR8) hg4)
    have HBC := hide (HBC.out.grown hg4 HBC.out.size (fun j e => (HROW.out.lt j e).1))
    have HO4 := hide (own_le ho4 HR8)
    refine hK.out _ _ ⟨trivial, fun _ => HBC.out, fun _ => trivial⟩ (fun hHeld => ?_)
    clear hK K ho4 hg4
    (try simp only [Act.put, List.setIfInBounds_toArray, List.set_cons_zero, List.set_cons_succ])
    refine wpTill_take 9 rfl (by decide +kernel) (fun _ _ _ h => h) (by rfl) (v := ?_) ?_ hHeld (fun hHeld' => ?_)
    rotate_left 1
    focus (intro w' hSw; clear hSw; go_simp; first | done | with_reducible rfl)
    clear hHeld
    rename Till _ _ _ _ _ _ _ => hHeld
    (try simp only [Act.put, List.setIfInBounds_toArray, List.set_cons_zero, List.set_cons_succ])
    clear r0 r1 rf0 rf1
    obtain ⟨r0, r1, rf0, rf1⟩ := HR.out.r.two
    refine wpTill_one 10 rfl (by decide +kernel) (fun K hK => ?_)
    go_simp
    refine hK.out _ _ ⟨trivial, fun h => absurd h (by decide +kernel), fun _ => trivial⟩ (fun hHeld => ?_)
    clear hK K
    (try simp only [Act.put, List.setIfInBounds_toArray, List.set_cons_zero, List.set_cons_succ])
    refine wpTill_take 11 rfl (by decide +kernel) (fun _ _ _ h => h) (by rfl) (v := ?_) ?_ hHeld (fun hHeld' => ?_)
    rotate_left 1
    focus (intro w' hSw; clear hSw; go_simp; first | done | with_reducible rfl)
    clear hHeld
    rename Till _ _ _ _ _ _ _ => hHeld
    (try simp only [Act.put, List.setIfInBounds_toArray, List.set_cons_zero, List.set_cons_succ])
    refine wpTill_done (by decide +kernel) ?_
    clear hHeld
    go_wp2
    obtain ⟨hk1, hpq, hof, hbl⟩ := ext_fin HR.out (HP.out _ HR.out.below) hB HO4.out wh (W := _) rfl
    refine bodyPost_cell_tmp (p := 4) (u := 5) (ty := 24) rfl rfl hk1 Tryz.underlying24 rfl Tryz.sizeOld rfl ?_
    exact ⟨some ⟨g4, 0, none⟩, l.length + 1, cap4, l ++ [⟨mi, some am, M.length, mc, M⟩], by rw [← hres]; rfl, hpq, by rw [← hres, List.map_append]; rfl, hof, hbl⟩
  have hdb : (dd % q == 0) = true := by simpa using hdv
  cases hiq : inB (dd / q) 2 1000
  ·have HMK : Hid (marksS (l.map PieceV.flat) dd = [dd]) := hide (hM.trans (if_neg (fun h => by rw [hiq] at h; exact absurd h.2 (by simp))))
   rw [hiq] at HIQ
   clear hM hdv
   go_upto_region 26 with (first
    | (go_at_call 73; refine HPR.out.mono ?_; rintro e w1 ⟨rfl, hw1⟩; subst w1)
    | (go_at_call 72; refine (HIQ.out _).mono ?_; rintro e w1 ⟨rfl, hw1⟩; subst w1))
   clear ha0 ha1 HPk HPR HIQ
   obtain ⟨a0, a1, af0, af1⟩ := (HYq.out.alloc (.cells #[.int .i64 dd] 3)).two
   go_upto_region 28 with fail
   clear a0 a1 af0 af1
   have hrM := own_le (World.ownsRow_lit (base := W1.heap.size) (e := 3) (size := 1) W1 #[.int .i64 dd] 1 (Nat.le_refl _) (by unfold maxLen; omega) rfl) (show w.heap.size + 3 ≤ W1.heap.size by have := HYq.out.lt; omega)
   have HS8 := hide ((HSq.out.alloc (.cells #[.int .i64 dd] 3)).set (p := ⟨Y, 1, none⟩) (by show _ ≤ Y; omega) (.slice (some ⟨W1.heap.size, 0, none⟩) 1 1))
   have HY8 : Hid (Blk ((W1.alloc (.cells #[.int .i64 dd] 3)).setCell ⟨Y, 1, none⟩ (.slice (some ⟨W1.heap.size, 0, none⟩) 1 1)) Y 94 #[.bool mi, .slice (some ⟨W1.heap.size, 0, none⟩) 1 1]) := hide ((HYq.out.alloc (.cells #[.int .i64 dd] 3)).set_ 1 _)
   have HM8 : Hid (((W1.alloc (.cells #[.int .i64 dd] 3)).setCell ⟨Y, 1, none⟩ (.slice (some ⟨W1.heap.size, 0, none⟩) 1 1)).ownsRow (w.heap.size + 3) 3 1 (.slice (some ⟨W1.heap.size, 0, none⟩) 1 1) 1 ([dd].map (Value.int .i64))) := hide (own_set hrM (HYq.out.alloc (.cells #[.int .i64 dd] 3)) (by decide))
   clear hrM HSq HYq x0 x1 y0 y1 yf0 yf1
   obtain ⟨mA, hmA⟩ : ∃ mA : Option Addr, mA = some ⟨W1.heap.size, 0, none⟩ := ⟨_, rfl⟩
   rw [← hmA] at HS8 HY8 HM8 ⊢
   clear hmA
   generalize (W1.alloc (.cells #[.int .i64 dd] 3)).setCell ⟨Y, 1, none⟩ (.slice mA 1 1) = W8 at *
   obtain ⟨M, hM8⟩ : ∃ M, M = [dd] := ⟨_, rfl⟩
   rw [← hM8] at HMK HM8
   have hml : (1 : Nat) = M.length := by rw [hM8]; rfl
   have hM0 : 0 < M.length := by omega
   have hM7 : M.length ≤ 7 := by omega
   obtain ⟨mc, hmc⟩ : ∃ mc : Nat, mc = 1 := ⟨_, rfl⟩
   have HY8 : Hid (Blk W8 Y 94 #[.bool mi, .slice mA M.length mc]) := hide (by rw [← hml, hmc]; exact HY8.out)
   have HM8 : Hid (W8.ownsRow (w.heap.size + 3) 3 1 (.slice mA M.length mc) M.length (M.map (Value.int .i64))) := hide (by rw [← hml, hmc]; exact HM8.out)
   clear hM8 hml hmc
   rw [HMK.out] at hres
   unfold extend2 at hres
   clear HMK
   obtain ⟨y0, y1, yf0, yf1⟩ := HY8.out.two
   obtain ⟨r0, r1, rf0, rf1⟩ := HS8.out.r.two
   obtain ⟨z0, z1, zf0, zf1⟩ := HS8.out.z.two
   have hIQ : IntsQ W8 W8.heap.size mA M.length mc M := Rq.of (Rd.of_own HM8.out)
   obtain ⟨am, rfl, -, hm0⟩ := hIQ.at_ (i := M.length - 1) (by omega)
   clear hIQ
   have hlastM : lastI M = M[M.length - 1] := by
    unfold lastI
    rw [List.getLast?_eq_getElem?, List.getElem?_eq_getElem (by omega)]; rfl
   rw [hlastM] at hres
   clear hlastM
   generalize M[M.length - 1] = lm at *
   by_cases h6 : 6 < (M.length : Int)
   ·rw [if_pos (.inl (by omega))] at hres
    have HV := hide hres.symm
    go_wp2
    exact HPZ.out _ _ 10 HV.out HS8.out.below HS8.out.r rfl rfl rfl
   by_cases hlm : 1000 < lm
   ·rw [if_pos (.inr hlm)] at hres
    have HV := hide hres.symm
    go_wp2
    exact HPZ.out _ _ 10 HV.out HS8.out.below HS8.out.r rfl rfl rfl
   rw [if_neg (by rintro (h | h) <;> omega)] at hres
   go_upto_region 30 with fail
   obtain ⟨x0, x1, _, _⟩ := HS8.out.o.two
   have HR8 : w.heap.size + 3 ≤ W8.heap.size := HS8.out.size
   have HR := hide (ExtR.drew (⟨HS8.out.r, HM8.out, HS8.out.below, HR8⟩ : ExtR w W8 (some am) M.length mc M))
   have HBC := hide (Below.drew (Below.refl W8.heap.size W8))
   have hYl : Y < W8.heap.size := HY8.out.lt
   clear hm0 h6 hlm HPZ HS8 HY8 HM8 z0 z1 zf0 zf1 yf0 yf1
   refine wp_region_till (fun _ => True) 10 (fun w' => Below W8.heap.size W8 w') 10 (fun _ => True) (by kernel_rfl) ⟨trivial, fun _ => HBC.out, fun _ => trivial⟩ (fun hHeld => ?_)
   refine wpTill_take 0 rfl (by decide +kernel) (fun _ _ _ h => h) (by rfl) (v := ?_) ?_ hHeld (fun hHeld' => ?_)
   rotate_left 1
   focus (intro w' hSw; clear hSw; go_simp; first | done | with_reducible rfl)
   clear hHeld
   rename Till _ _ _ _ _ _ _ => hHeld
   (try simp only [Act.put, List.setIfInBounds_toArray, List.set_cons_zero, List.set_cons_succ])
   refine wpTill_take 1 rfl (by decide +kernel) (fun _ _ _ h => h) (by rfl) (v := ?_) ?_ hHeld (fun hHeld' => ?_)
   rotate_left 1
   focus (intro w' hSw; obtain ⟨hC, hF, hG⟩ := hSw; have hF := hF (by decide +kernel); clear hG; clear hC; have c1 := (hF.cell (p := ⟨w.heap.size, 0, none⟩) (by show w.heap.size < _; omega)).trans x0; clear hF; go_simp; first | done | with_reducible rfl)
   clear hHeld
   rename Till _ _ _ _ _ _ _ => hHeld
   (try simp only [Act.put, List.setIfInBounds_toArray, List.set_cons_zero, List.set_cons_succ])
   refine wpTill_take 3 rfl (by decide +kernel) (fun _ _ _ h => h) (by rfl) (v := ?_) ?_ hHeld (fun hHeld' => ?_)
   rotate_left 1
   focus (intro w' hSw; clear hSw; go_simp; first | done | with_reducible rfl)
   clear hHeld
   rename Till _ _ _ _ _ _ _ => hHeld
   (try simp only [Act.put, List.setIfInBounds_toArray, List.set_cons_zero, List.set_cons_succ])
   refine wpTill_take 4 rfl (by decide +kernel) (fun _ _ _ h => h) (by rfl) (v := ?_) ?_ hHeld (fun hHeld' => ?_)
   rotate_left 1
   focus (intro w' hSw; obtain ⟨hC, hF, hG⟩ := hSw; have hF := hF (by decide +kernel); clear hG; clear hC; have c1 := (hF.cell (p := ⟨w.heap.size, 1, none⟩) (by show w.heap.size < _; omega)).trans x1; clear hF; go_simp; first | done | with_reducible rfl)
   clear hHeld
   rename Till _ _ _ _ _ _ _ => hHeld
   (try simp only [Act.put, List.setIfInBounds_toArray, List.set_cons_zero, List.set_cons_succ])
   refine wpTill_take 6 rfl (by decide +kernel) (fun _ _ _ h => h) (by rfl) (v := ?_) ?_ hHeld (fun hHeld' => ?_)
   rotate_left 1
   focus (intro w' hSw; obtain ⟨hC, hF, hG⟩ := hSw; have hF := hF (by decide +kernel); clear hG; clear hC; have c1 := (hF.cell (p := ⟨Y, 0, none⟩) hYl).trans y0; have c2 := (hF.cell (p := ⟨Y, 1, none⟩) hYl).trans y1; clear hF; go_simp; first | done | with_reducible rfl)
   clear hHeld
   rename Till _ _ _ _ _ _ _ => hHeld
   (try simp only [Act.put, List.setIfInBounds_toArray, List.set_cons_zero, List.set_cons_succ])
   clear x0 x1 y0 y1
   refine wpTill_two 2 7 rfl rfl (by decide +kernel) (fun K hK => ?_) (fun K hK => ?_)
   ·have HROW := hide (World.ownsRow_lit (base := W8.heap.size) (e := 94) (size := 2) (W8.drew) #[] 0 (by first | exact Nat.le_refl W8.heap.size | (rw [World.size_alloc]; exact Nat.le_succ W8.heap.size)) (by unfold maxLen; omega) rfl)
    have HR := hide (HR.out.alloc (.cells #[] 94))
    have HBC := hide (HBC.out.alloc HBC.out.size (.cells #[] 94))
    go_simp
    refine hK.out _ _ ⟨trivial, fun _ => HBC.out, fun _ => trivial⟩ (fun hHeld => ?_)
    clear hK K
    (try simp only [Act.put, List.setIfInBounds_toArray, List.set_cons_zero, List.set_cons_succ])
    refine wpTill_two 5 7 rfl rfl (by decide +kernel) (fun K hK => ?_) (fun K hK => ?_)
    ·refine step_append_q rfl _ _ 22 rfl W8.heap.size 94 i1 (.agg #[.bool false, .slice none 0 0]) 2 32 Tryz.underlying22 hi1 hy0 hy1 hy2 rfl (by decide) (.slice (some ⟨W8.heap.size, 0, none⟩) 0 0) 0 _ rfl HROW.out (some ad) l.length c B (cells2 (l.map PieceV.enc)) rfl (HP.out _ HR.out.below).1 (enc_one l) (by unfold maxLen; omega) (by omega) HBC.out.size ?_
     intro A3 c3 w3 ho3 hg3
     have HR := hide (HR.out.grown (own_le HROW.out HR8) hg3)
     have HBC := hide (HBC.out.grown hg3 HBC.out.size (fun j e => (HROW.out.lt j e).1))
     have HROW : Hid (w3.ownsRow W8.heap.size 94 2 (.slice A3 l.length c3) l.length (cells2 (l.map PieceV.enc))) := hide (by simpa using ho3)
     rw [Nat.zero_add]
     refine hK.out _ _ ⟨trivial, fun _ => HBC.out, fun _ => trivial⟩ (fun hHeld => ?_)
     clear hK K ho3 hg3
     (try simp only [Act.put, List.setIfInBounds_toArray, List.set_cons_zero, List.set_cons_succ])
     refine wpTill_one 7 rfl (by decide +kernel) (fun K hK => ?_)
     have HCELL := hide (cell_new2 (w3) (.bool mi) (.slice (some am) M.length mc) 94)
     have HR := hide (HR.out.alloc (.cells #[.bool mi, .slice (some am) M.length mc] 94))
     have HBC := hide (HBC.out.alloc HBC.out.size (.cells #[.bool mi, .slice (some am) M.length mc] 94))
     have HROW := hide (HROW.out.alloc (.cells #[.bool mi, .slice (some am) M.length mc] 94))
     go_simp
     refine hK.out _ _ ⟨trivial, fun _ => HBC.out, fun _ => trivial⟩ (fun hHeld => ?_)
     clear hK K
     (try simp only [Act.put, List.setIfInBounds_toArray, List.set_cons_zero, List.set_cons_succ])
     refine wpTill_one 8 rfl (by decide +kernel) (fun K hK => ?_)
     refine step_append_lies _ rfl _ _ 22 rfl W8.heap.size 94 i1 (.agg #[.bool false, .slice none 0 0]) 2 32 Tryz.underlying22 hi1 hy0 hy1 hy2 rfl (by decide) (.slice A3 l.length c3) l.length _ rfl HROW.out ⟨w3.heap.size, 0, none⟩ 1 1 [.bool mi, .slice (some am) M.length mc] rfl rfl HCELL.out (by simp [Value.oneCell']) (by decide) (by unfold maxLen; omega) (by omega) HBC.out.size _ rfl ?_
     intro g4 cap4 w4 ho4 hg4 _ hlt4
     have HR := hide (HR.out.grown (own_le HROW.out HR8) hg4)
     have HBC := hide (HBC.out.grown hg4 HBC.out.size (fun j e => (HROW.out.lt j e).1))
     have HO4 := hide (own_le ho4 HR8)
     refine hK.out _ _ ⟨trivial, fun _ => HBC.out, fun _ => trivial⟩ (fun hHeld => ?_)
     clear hK K ho4 hg4
     (try simp only [Act.put, List.setIfInBounds_toArray, List.set_cons_zero, List.set_cons_succ])
     refine wpTill_take 9 rfl (by decide +kernel) (fun _ _ _ h => h) (by rfl) (v := ?_) ?_ hHeld (fun hHeld' => ?_)
     rotate_left 1
     focus (intro w' hSw; clear hSw; go_simp; first | done | with_reducible rfl)
     clear hHeld
     rename Till _ _ _ _ _ _ _ => hHeld
     (try simp only [Act.put, List.setIfInBounds_toArray, List.set_cons_zero, List.set_cons_succ])
     clear r0 r1 rf0 rf1
     obtain ⟨r0, r1, rf0, rf1⟩ := HR.out.r.two
     refine wpTill_one 10 rfl (by decide +kernel) (fun K hK => ?_)
     go_simp
     refine hK.out _ _ ⟨trivial, fun h => absurd h (by decide +kernel), fun _ => trivial⟩ (fun hHeld => ?_)
     clear hK K
     (try simp only [Act.put, List.setIfInBounds_toArray, List.set_cons_zero, List.set_cons_succ])
     refine wpTill_take 11 rfl (by decide +kernel) (fun _ _ _ h => h) (by rfl) (v := ?_) ?_ hHeld (fun hHeld' => ?_)
     rotate_left 1
     focus (intro w' hSw; clear hSw; go_simp; first | done | with_reducible rfl)
     clear hHeld
     rename Till _ _ _ _ _ _ _ => hHeld
     (try simp only [Act.put, List.setIfInBounds_toArray, List.set_cons_zero, List.set_cons_succ])
     refine wpTill_done (by decide +kernel) ?_
     clear hHeld
     go_wp2
     obtain ⟨hk1, hpq, hof, hbl⟩ := ext_fin HR.out (HP.out _ HR.out.below) hB HO4.out wh (W := _) rfl
     refine bodyPost_cell_tmp (p := 4) (u := 5) (ty := 24) rfl rfl hk1 Tryz.underlying24 rfl Tryz.sizeOld rfl ?_
     exact ⟨some ⟨g4, 0, none⟩, l.length + 1, cap4, l ++ [⟨mi, some am, M.length, mc, M⟩], by rw [← hres]; rfl, hpq, by rw [← hres, List.map_append]; rfl, hof, hbl⟩
    ·have HCELL : Hid (∀ j x, [Value.bool mi, .slice (some am) M.length mc][j]? = some x → ((W8.drew.alloc (.cells #[] 94)).alloc (.cells #[.bool mi, .slice (some am) M.length mc] 94)).cell? ((⟨W8.heap.size + 1, 0, none⟩ : Addr).add j) = some x) := hide (by have h := cell_new2 (W8.drew.alloc (.cells #[] 94)) (.bool mi) (.slice (some am) M.length mc) 94; rwa [World.size_alloc] at h)
     have HR := hide (HR.out.alloc (.cells #[.bool mi, .slice (some am) M.length mc] 94))
     have HBC := hide (HBC.out.alloc HBC.out.size (.cells #[.bool mi, .slice (some am) M.length mc] 94))
     have HROW := hide (HROW.out.alloc (.cells #[.bool mi, .slice (some am) M.length mc] 94))
     go_simp
     refine hK.out _ _ ⟨trivial, fun _ => HBC.out, fun _ => trivial⟩ (fun hHeld => ?_)
     clear hK K
     (try simp only [Act.put, List.setIfInBounds_toArray, List.set_cons_zero, List.set_cons_succ])
     refine wpTill_one 5 rfl (by decide +kernel) (fun K hK => ?_)
     refine step_append_q rfl _ _ 22 rfl W8.heap.size 94 i1 (.agg #[.bool false, .slice none 0 0]) 2 32 Tryz.underlying22 hi1 hy0 hy1 hy2 rfl (by decide) (.slice (some ⟨W8.heap.size, 0, none⟩) 0 0) 0 _ rfl HROW.out (some ad) l.length c B (cells2 (l.map PieceV.enc)) rfl (HP.out _ HR.out.below).1 (enc_one l) (by unfold maxLen; omega) (by omega) HBC.out.size ?_
     intro A3 c3 w3 ho3 hg3
     have HR := hide (HR.out.grown (own_le HROW.out HR8) hg3)
     have HBC := hide (HBC.out.grown hg3 HBC.out.size (fun j e => (HROW.out.lt j e).1))
     have HCELL := hide (cell_kept2 HCELL.out hg3 (by simp only [World.size_alloc]; first | exact Nat.lt_succ_self W8.heap.size | exact Nat.lt_succ_self (W8.heap.size + 1) | (show W8.heap.size < W8.heap.size + 1 + 1; omega)) (by simp only [Value.ownBlock, World.size_alloc]; intro h; have h2 := Option.some.inj h; first | (have h3 : W8.heap.size = W8.heap.size + 1 := h2; omega) | (have h3 : W8.heap.size + 1 = W8.heap.size := h2; omega)))
     have HROW : Hid (w3.ownsRow W8.heap.size 94 2 (.slice A3 l.length c3) l.length (cells2 (l.map PieceV.enc))) := hide (by simpa using ho3)
     rw [Nat.zero_add]
     refine hK.out _ _ ⟨trivial, fun _ => HBC.out, fun _ => trivial⟩ (fun hHeld => ?_)
     clear hK K ho3 hg3
     (try simp only [Act.put, List.setIfInBounds_toArray, List.set_cons_zero, List.set_cons_succ])
     refine wpTill_one 8 rfl (by decide +kernel) (fun K hK => ?_)
     refine step_append_lies _ rfl _ _ 22 rfl W8.heap.size 94 i1 (.agg #[.bool false, .slice none 0 0]) 2 32 Tryz.underlying22 hi1 hy0 hy1 hy2 rfl (by decide) (.slice A3 l.length c3) l.length _ rfl HROW.out ⟨W8.heap.size + 1, 0, none⟩ 1 1 [.bool mi, .slice (some am) M.length mc] rfl rfl HCELL.out (by simp [Value.oneCell']) (by decide) (by unfold maxLen; omega) (by omega) HBC.out.size _ rfl ?_
     intro g4 cap4 w4 ho4 hg4 _ hlt4
     have HR := hide (HR.out.grown (own_le HROW.out HR8) hg4)
     have HBC := hide (HBC.out.grown hg4 HBC.out.size (fun j e => (HROW.out.lt j e).1))
     have HO4 := hide (own_le ho4 HR8)
     refine hK.out _ _ ⟨trivial, fun _ => HBC.out, fun _ => trivial⟩ (fun hHeld => ?_)
     clear hK K ho4 hg4
     (try simp only [Act.put, List.setIfInBounds_toArray, List.set_cons_zero, List.set_cons_succ])
     refine wpTill_take 9 rfl (by decide +kernel) (fun _ _ _ h => h) (by rfl) (v := ?_) ?_ hHeld (fun hHeld' => ?_)
     rotate_left 1
     focus (intro w' hSw; clear hSw; go_simp; first | done | with_reducible rfl)
     clear hHeld
     rename Till _ _ _ _ _ _ _ => hHeld
     (try simp only [Act.put, List.setIfInBounds_toArray, List.set_cons_zero, List.set_cons_succ])
     clear r0 r1 rf0 rf1
     obtain ⟨r0, r1, rf0, rf1⟩ := HR.out.r.two
     refine wpTill_one 10 rfl (by decide +kernel) (fun K hK => ?_)
     go_simp
     refine hK.out _ _ ⟨trivial, fun h => absurd h (by decide +kernel), fun _ => trivial⟩ (fun hHeld => ?_)
     clear hK K
     (try simp only [Act.put, List.setIfInBounds_toArray, List.set_cons_zero, List.set_cons_succ])
     refine wpTill_take 11 rfl (by decide +kernel) (fun _ _ _ h => h) (by rfl) (v := ?_) ?_ hHeld (fun hHeld' => ?_)
     rotate_left 1
     focus (intro w' hSw; clear hSw; go_simp; first | done | with_reducible rfl)
     clear hHeld
     rename Till _ _ _ _ _ _ _ => hHeld
     (try simp only [Act.put, List.setIfInBounds_toArray, List.set_cons_zero, List.set_cons_succ])
     refine wpTill_done (by decide +kernel) ?_
     clear hHeld
     go_wp2
     obtain ⟨hk1, hpq, hof, hbl⟩ := ext_fin HR.out (HP.out _ HR.out.below) hB HO4.out wh (W := _) rfl
     refine bodyPost_cell_tmp (p := 4) (u := 5) (ty := 24) rfl rfl hk1 Tryz.underlying24 rfl Tryz.sizeOld rfl ?_
     exact ⟨some ⟨g4, 0, none⟩, l.length + 1, cap4, l ++ [⟨mi, some am, M.length, mc, M⟩], by rw [← hres]; rfl, hpq, by rw [← hres, List.map_append]; rfl, hof, hbl⟩
   ·have HCELL := hide (cell_new2 (W8.drew) (.bool mi) (.slice (some am) M.length mc) 94)
    have HR := hide (HR.out.alloc (.cells #[.bool mi, .slice (some am) M.length mc] 94))
    have HBC := hide (HBC.out.alloc HBC.out.size (.cells #[.bool mi, .slice (some am) M.length mc] 94))
    go_simp
    refine hK.out _ _ ⟨trivial, fun _ => HBC.out, fun _ => trivial⟩ (fun hHeld => ?_)
    clear hK K
    (try simp only [Act.put, List.setIfInBounds_toArray, List.set_cons_zero, List.set_cons_succ])
    refine wpTill_one 2 rfl (by decide +kernel) (fun K hK => ?_)
    have HCELL : Hid (∀ j x, [Value.bool mi, .slice (some am) M.length mc][j]? = some x → ((W8.drew.alloc (.cells #[.bool mi, .slice (some am) M.length mc] 94)).alloc (.cells #[] 94)).cell? ((⟨W8.heap.size, 0, none⟩ : Addr).add j) = some x) := hide (fun j x hx => (World.cell?_alloc_lt _ _ _ (by rw [addr_block, World.size_alloc]; exact Nat.lt_succ_self W8.heap.size)).trans (HCELL.out j x hx))
    have HROW : Hid (((W8.drew.alloc (.cells #[.bool mi, .slice (some am) M.length mc] 94)).alloc (.cells #[] 94)).ownsRow W8.heap.size 94 2 (.slice (some ⟨W8.heap.size + 1, 0, none⟩) 0 0) 0 []) := hide (by have h := World.ownsRow_lit (base := W8.heap.size) (e := 94) (size := 2) (W8.drew.alloc (.cells #[.bool mi, .slice (some am) M.length mc] 94)) #[] 0 (by rw [World.size_alloc]; exact Nat.le_succ W8.heap.size) (by unfold maxLen; omega) rfl; rwa [World.size_alloc] at h)
    have HR := hide (HR.out.alloc (.cells #[] 94))
    have HBC := hide (HBC.out.alloc HBC.out.size (.cells #[] 94))
    go_simp
    refine hK.out _ _ ⟨trivial, fun _ => HBC.out, fun _ => trivial⟩ (fun hHeld => ?_)
    clear hK K
    (try simp only [Act.put, List.setIfInBounds_toArray, List.set_cons_zero, List.set_cons_succ])
    refine wpTill_one 5 rfl (by decide +kernel) (fun K hK => ?_)
    refine step_append_q rfl _ _ 22 rfl W8.heap.size 94 i1 (.agg #[.bool false, .slice none 0 0]) 2 32 Tryz.underlying22 hi1 hy0 hy1 hy2 rfl (by decide) (.slice (some ⟨W8.heap.size + 1, 0, none⟩) 0 0) 0 _ rfl HROW.out (some ad) l.length c B (cells2 (l.map PieceV.enc)) rfl (HP.out _ HR.out.below).1 (enc_one l) (by unfold maxLen; omega) (by omega) HBC.out.size ?_
    intro A3 c3 w3 ho3 hg3
    have HR := hide (HR.out.grown (own_le HROW.out HR8) hg3)
    have HBC := hide (HBC.out.grown hg3 HBC.out.size (fun j e => (HROW.out.lt j e).1))
    have HCELL := hide (cell_kept2 HCELL.out hg3 (by simp only [World.size_alloc]; first | exact Nat.lt_succ_self W8.heap.size | exact Nat.lt_succ_self (W8.heap.size + 1) | (show W8.heap.size < W8.heap.size + 1 + 1; omega)) (by simp only [Value.ownBlock, World.size_alloc]; intro h; have h2 := Option.some.inj h; first | (have h3 : W8.heap.size = W8.heap.size + 1 := h2; omega) | (have h3 : W8.heap.size + 1 = W8.heap.size := h2; omega)))
    have HROW : Hid (w3.ownsRow W8.heap.size 94 2 (.slice A3 l.length c3) l.length (cells2 (l.map PieceV.enc))) := hide (by simpa using ho3)
    rw [Nat.zero_add]
    refine hK.out _ _ ⟨trivial, fun _ => HBC.out, fun _ => trivial⟩ (fun hHeld => ?_)
    clear hK K ho3 hg3
    (try simp only [Act.put, List.setIfInBounds_toArray, List.set_cons_zero, List.set_cons_succ])
    refine wpTill_one 8 rfl (by decide +kernel) (fun K hK => ?_)
    refine step_append_lies _ rfl _ _ 22 rfl W8.heap.size 94 i1 (.agg #[.bool false, .slice none 0 0]) 2 32 Tryz.underlying22 hi1 hy0 hy1 hy2 rfl (by decide) (.slice A3 l.length c3) l.length _ rfl HROW.out ⟨W8.heap.size, 0, none⟩ 1 1 [.bool mi, .slice (some am) M.length mc] rfl rfl HCELL.out (by simp [Value.oneCell']) (by decide) (by unfold maxLen; omega) (by omega) HBC.out.size _ rfl ?_
    intro g4 cap4 w4 ho4 hg4 _ hlt4
    have HR := hide (HR.out.grown (own_le HROW.out HR8) hg4)
    have HBC := hide (HBC.out.grown hg4 HBC.out.size (fun j e => (HROW.out.lt j e).1))
    have HO4 := hide (own_le ho4 HR8)
    refine hK.out _ _ ⟨trivial, fun _ => HBC.out, fun _ => trivial⟩ (fun hHeld => ?_)
    clear hK K ho4 hg4
    (try simp only [Act.put, List.setIfInBounds_toArray, List.set_cons_zero, List.set_cons_succ])
    refine wpTill_take 9 rfl (by decide +kernel) (fun _ _ _ h => h) (by rfl) (v := ?_) ?_ hHeld (fun hHeld' => ?_)
    rotate_left 1
    focus (intro w' hSw; clear hSw; go_simp; first | done | with_reducible rfl)
    clear hHeld
    rename Till _ _ _ _ _ _ _ => hHeld
    (try simp only [Act.put, List.setIfInBounds_toArray, List.set_cons_zero, List.set_cons_succ])
    clear r0 r1 rf0 rf1
    obtain ⟨r0, r1, rf0, rf1⟩ := HR.out.r.two
    refine wpTill_one 10 rfl (by decide +kernel) (fun K hK => ?_)
    go_simp
    refine hK.out _ _ ⟨trivial, fun h => absurd h (by decide +kernel), fun _ => trivial⟩ (fun hHeld => ?_)
    clear hK K
    (try simp only [Act.put, List.setIfInBounds_toArray, List.set_cons_zero, List.set_cons_succ])
    refine wpTill_take 11 rfl (by decide +kernel) (fun _ _ _ h => h) (by rfl) (v := ?_) ?_ hHeld (fun hHeld' => ?_)
    rotate_left 1
    focus (intro w' hSw; clear hSw; go_simp; first | done | with_reducible rfl)
    clear hHeld
    rename Till _ _ _ _ _ _ _ => hHeld
    (try simp only [Act.put, List.setIfInBounds_toArray, List.set_cons_zero, List.set_cons_succ])
    refine wpTill_done (by decide +kernel) ?_
    clear hHeld
    go_wp2
    obtain ⟨hk1, hpq, hof, hbl⟩ := ext_fin HR.out (HP.out _ HR.out.below) hB HO4.out wh (W := _) rfl
    refine bodyPost_cell_tmp (p := 4) (u := 5) (ty := 24) rfl rfl hk1 Tryz.underlying24 rfl Tryz.sizeOld rfl ?_
    exact ⟨some ⟨g4, 0, none⟩, l.length + 1, cap4, l ++ [⟨mi, some am, M.length, mc, M⟩], by rw [← hres]; rfl, hpq, by rw [← hres, List.map_append]; rfl, hof, hbl⟩
  ·have HMK : Hid (marksS (l.map PieceV.flat) dd = ms ++ [dd / q]) := hide (hM.trans (if_pos ⟨hdv, hiq⟩))
   rw [hiq] at HIQ
   clear hM hdv
   go_upto_region 25 with (first
    | (go_at_call 73; refine HPR.out.mono ?_; rintro e w1 ⟨rfl, hw1⟩; subst w1)
    | (go_at_call 72; refine (HIQ.out _).mono ?_; rintro e w1 ⟨rfl, hw1⟩; subst w1))
   clear ha0 ha1 HPR HIQ
   have hwt : IntKind.i64.wrap (dd.tdiv q) = dd / q := by rw [Int.tdiv_eq_ediv_of_nonneg (by omega)]; exact hwq2
   have HBC := hide (Below.drew (Below.refl W1.heap.size W1))
   have hYl : Y < W1.heap.size := HYq.out.lt
   have HS := hide (HSq.out.drew)
   have HY : Hid (Blk W1.drew Y 94 #[.bool mi, .slice none 0 0]) := hide (HYq.out.below (Below.drew (Below.refl _ _)) HYq.out.lt)
   have HPI2 : Hid (Rq W1.drew B 1 Ap ms.length cp (ms.map (Value.int .i64))) := hide HPI.out
   clear HSq HYq HPI HPk x0 x1
   refine wp_region_till (fun _ => True) 10 (fun w' => Below W1.heap.size W1 w') 10 (fun _ => True) (by kernel_rfl) ⟨trivial, fun _ => HBC.out, fun _ => trivial⟩ (fun hHeld => ?_)
   refine wpTill_take 0 rfl (by decide +kernel) (fun _ _ _ h => h) (by rfl) (v := ?_) ?_ hHeld (fun hHeld' => ?_)
   rotate_left 1
   focus (intro w' hSw; clear hSw; go_simp; first | done | with_reducible rfl)
   clear hHeld
   rename Till _ _ _ _ _ _ _ => hHeld
   (try simp only [Act.put, List.setIfInBounds_toArray, List.set_cons_zero, List.set_cons_succ])
   refine wpTill_take 1 rfl (by decide +kernel) (fun _ _ _ h => h) (by rfl) (v := ?_) ?_ hHeld (fun hHeld' => ?_)
   rotate_left 1
   focus (intro w' hSw; obtain ⟨hC, hF, hG⟩ := hSw; have hF := hF (by decide +kernel); clear hG; clear hC; have c1 := (hF.cell (p := ⟨Y, 1, none⟩) hYl).trans y1; clear hF; go_simp; first | done | with_reducible rfl)
   clear hHeld
   rename Till _ _ _ _ _ _ _ => hHeld
   (try simp only [Act.put, List.setIfInBounds_toArray, List.set_cons_zero, List.set_cons_succ])
   refine wpTill_take 2 rfl (by decide +kernel) (fun _ _ _ h => h) (by rfl) (v := ?_) ?_ hHeld (fun hHeld' => ?_)
   rotate_left 1
   focus (intro w' hSw; clear hSw; go_simp; first | done | with_reducible rfl)
   clear hHeld
   rename Till _ _ _ _ _ _ _ => hHeld
   (try simp only [Act.put, List.setIfInBounds_toArray, List.set_cons_zero, List.set_cons_succ])
   refine wpTill_take 4 rfl (by decide +kernel) (fun _ _ _ h => h) (by rfl) (v := ?_) ?_ hHeld (fun hHeld' => ?_)
   rotate_left 1
   focus (intro w' hSw; clear hSw; go_simp; first | done | with_reducible rfl)
   clear hHeld
   rename Till _ _ _ _ _ _ _ => hHeld
   (try simp only [Act.put, List.setIfInBounds_toArray, List.set_cons_zero, List.set_cons_succ])
   refine wpTill_take 5 rfl (by decide +kernel) (fun _ _ _ h => h) (by rfl) (v := ?_) ?_ hHeld (fun hHeld' => ?_)
   rotate_left 1
   focus (intro w' hSw; clear hSw; go_simp; first | done | with_reducible rfl)
   clear hHeld
   rename Till _ _ _ _ _ _ _ => hHeld
   (try simp only [Act.put, List.setIfInBounds_toArray, List.set_cons_zero, List.set_cons_succ])
   refine wpTill_take 6 rfl (by decide +kernel) (fun _ _ _ h => h) (by rfl) (v := ?_) ?_ hHeld (fun hHeld' => ?_)
   rotate_left 1
   focus (intro w' hSw; clear hSw; go_simp; first | done | with_reducible rfl)
   clear hHeld
   rename Till _ _ _ _ _ _ _ => hHeld
   (try simp only [Act.put, List.setIfInBounds_toArray, List.set_cons_zero, List.set_cons_succ])
   clear y0 y1 yf0 yf1
   refine wpTill_two 3 7 rfl rfl (by decide +kernel) (fun K hK => ?_) (fun K hK => ?_)
   ·refine step_append_q rfl _ _ 66 rfl W1.heap.size 3 i0 (.int .i64 0) 1 8 Tryz.underlying66 hi0 hz0 hz1 hz2 rfl (by decide) (.slice none 0 0) 0 [] rfl (World.ownsRow_nil _ _ _ _) Ap ms.length cp B (ms.map (Value.int .i64)) rfl HPI2.out (by intro u hu; obtain ⟨d, _, rfl⟩ := List.mem_map.1 hu; rfl) (by unfold maxLen; omega) (by omega) HBC.out.size ?_
    intro A3 c3 w3 ho3 hg3
    have HO3 : Hid (w3.ownsRow W1.heap.size 3 1 (.slice A3 ms.length c3) ms.length (ms.map (Value.int .i64))) := hide (by simpa using ho3)
    have HS := hide (HS.out.grown hg3 (fun b e => by simp [Value.ownBlock] at e))
    have HY := hide (HY.out.grown hg3 (fun e => by simp [Value.ownBlock] at e))
    have HBC := hide (HBC.out.grown hg3 HBC.out.size (fun j e => by simp [Value.ownBlock] at e))
    rw [Nat.zero_add]
    refine hK.out _ _ ⟨trivial, fun _ => HBC.out, fun _ => trivial⟩ (fun hHeld => ?_)
    clear hK K ho3 hg3
    (try simp only [Act.put, List.setIfInBounds_toArray, List.set_cons_zero, List.set_cons_succ])
    refine wpTill_one 7 rfl (by decide +kernel) (fun K hK => ?_)
    have HCELL := hide (cell_new1 (w3) (.int .i64 (dd / q)) 3)
    have HS := hide (HS.out.alloc (.cells #[.int .i64 (dd / q)] 3))
    have HY := hide (HY.out.alloc (.cells #[.int .i64 (dd / q)] 3))
    have HBC := hide (HBC.out.alloc HBC.out.size (.cells #[.int .i64 (dd / q)] 3))
    have HO3 := hide (HO3.out.alloc (.cells #[.int .i64 (dd / q)] 3))
    go_simp
    refine hK.out _ _ ⟨trivial, fun _ => HBC.out, fun _ => trivial⟩ (fun hHeld => ?_)
    clear hK K
    (try simp only [Act.put, List.setIfInBounds_toArray, List.set_cons_zero, List.set_cons_succ])
    refine wpTill_one 8 rfl (by decide +kernel) (fun K hK => ?_)
    refine step_append_lies _ rfl _ _ 66 rfl W1.heap.size 3 i0 (.int .i64 0) 1 8 Tryz.underlying66 hi0 hz0 hz1 hz2 rfl (by decide) (.slice A3 ms.length c3) ms.length _ rfl HO3.out ⟨w3.heap.size, 0, none⟩ 1 1 [.int .i64 (dd / q)] rfl rfl HCELL.out (by simp [Value.oneCell']) (by decide) (by unfold maxLen; omega) (by omega) HBC.out.size _ rfl ?_
    intro g4 cap4 w4 ho4 hg4 _ hlt4
    have HS := hide (HS.out.grown hg4 (fun b e => by have := (HO3.out.lt b e).1; omega))
    have HY := hide (HY.out.grown hg4 (fun e => by have := (HO3.out.lt _ e).1; omega))
    have HBC := hide (HBC.out.grown hg4 HBC.out.size (fun j e => (HO3.out.lt j e).1))
    have HO4 := hide ho4
    refine hK.out _ _ ⟨trivial, fun _ => HBC.out, fun _ => trivial⟩ (fun hHeld => ?_)
    clear hK K ho4 hg4
    (try simp only [Act.put, List.setIfInBounds_toArray, List.set_cons_zero, List.set_cons_succ])
    refine wpTill_take 9 rfl (by decide +kernel) (fun _ _ _ h => h) (by rfl) (v := ?_) ?_ hHeld (fun hHeld' => ?_)
    rotate_left 1
    focus (intro w' hSw; clear hSw; go_simp; first | done | with_reducible rfl)
    clear hHeld
    rename Till _ _ _ _ _ _ _ => hHeld
    (try simp only [Act.put, List.setIfInBounds_toArray, List.set_cons_zero, List.set_cons_succ])
    obtain ⟨y0, y1, yf0, yf1⟩ := HY.out.two
    refine wpTill_one 10 rfl (by decide +kernel) (fun K hK => ?_)
    go_simp
    refine hK.out _ _ ⟨trivial, fun h => absurd h (by decide +kernel), fun _ => trivial⟩ (fun hHeld => ?_)
    clear hK K
    (try simp only [Act.put, List.setIfInBounds_toArray, List.set_cons_zero, List.set_cons_succ])
    refine wpTill_done (by decide +kernel) ?_
    clear hHeld y0 y1 yf0 yf1
    have HS8 := hide (HS.out.set (p := ⟨Y, 1, none⟩) (by show _ ≤ Y; omega) (.slice (some ⟨g4, 0, none⟩) (ms.length + 1) cap4))
    have HY8 : Hid (Blk (w4.setCell ⟨Y, 1, none⟩ (.slice (some ⟨g4, 0, none⟩) (ms.length + 1) cap4)) Y 94 #[.bool mi, .slice (some ⟨g4, 0, none⟩) (ms.length + 1) cap4]) := hide (HY.out.set_ 1 _)
    have HM8 : Hid ((w4.setCell ⟨Y, 1, none⟩ (.slice (some ⟨g4, 0, none⟩) (ms.length + 1) cap4)).ownsRow (w.heap.size + 3) 3 1 (.slice (some ⟨g4, 0, none⟩) (ms.length + 1) cap4) (ms.length + 1) (ms.map (Value.int .i64) ++ [.int .i64 (dd / q)])) := hide (own_le (ownsRow_setCell_below HO4.out (show Y < W1.heap.size from hYl) _) (by omega))
    clear HS HY HBC HO4 HO3 HCELL
    generalize w4.setCell ⟨Y, 1, none⟩ (.slice (some ⟨g4, 0, none⟩) (ms.length + 1) cap4) = W8 at *
    obtain ⟨mA, hmA⟩ : ∃ mA : Option Addr, mA = some ⟨g4, 0, none⟩ := ⟨_, rfl⟩
    rw [← hmA] at HY8 HM8
    obtain ⟨M, hM8⟩ : ∃ M, M = ms ++ [dd / q] := ⟨_, rfl⟩
    have hml : ms.length + 1 = M.length := by rw [hM8]; simp
    have hmm : ms.map (Value.int .i64) ++ [.int .i64 (dd / q)] = M.map (Value.int .i64) := by rw [hM8]; simp
    rw [hml] at HY8
    rw [hml, hmm] at HM8
    rw [← hM8] at HMK
    have hM0 : 0 < M.length := by omega
    have hM7 : M.length ≤ 7 := by omega
    obtain ⟨mc, hmc⟩ : ∃ mc : Nat, mc = cap4 := ⟨_, rfl⟩
    rw [← hmc] at HY8 HM8
    clear hmA hM8 hml hmm hmc
    obtain ⟨y0, y1, _, _⟩ := HY8.out.two
    have hMz : ((M.length : Int) == 0) = false := beq_eq_false_iff_ne.2 (by omega)
    go_upto_region 28 with fail
    clear y0 y1 hMz
    rw [HMK.out] at hres
    unfold extend2 at hres
    clear HMK
    obtain ⟨y0, y1, yf0, yf1⟩ := HY8.out.two
    obtain ⟨r0, r1, rf0, rf1⟩ := HS8.out.r.two
    obtain ⟨z0, z1, zf0, zf1⟩ := HS8.out.z.two
    have hIQ : IntsQ W8 W8.heap.size mA M.length mc M := Rq.of (Rd.of_own HM8.out)
    obtain ⟨am, rfl, -, hm0⟩ := hIQ.at_ (i := M.length - 1) (by omega)
    clear hIQ
    have hlastM : lastI M = M[M.length - 1] := by
     unfold lastI
     rw [List.getLast?_eq_getElem?, List.getElem?_eq_getElem (by omega)]; rfl
    rw [hlastM] at hres
    clear hlastM
    generalize M[M.length - 1] = lm at *
    by_cases h6 : 6 < (M.length : Int)
    ·rw [if_pos (.inl (by omega))] at hres
     have HV := hide hres.symm
     go_wp2
     exact HPZ.out _ _ 10 HV.out HS8.out.below HS8.out.r rfl rfl rfl
    by_cases hlm : 1000 < lm
    ·rw [if_pos (.inr hlm)] at hres
     have HV := hide hres.symm
     go_wp2
     exact HPZ.out _ _ 10 HV.out HS8.out.below HS8.out.r rfl rfl rfl
    rw [if_neg (by rintro (h | h) <;> omega)] at hres
    go_upto_region 30 with fail
    obtain ⟨x0, x1, _, _⟩ := HS8.out.o.two
    have HR8 : w.heap.size + 3 ≤ W8.heap.size := HS8.out.size
    have HR := hide (ExtR.drew (⟨HS8.out.r, HM8.out, HS8.out.below, HR8⟩ : ExtR w W8 (some am) M.length mc M))
    have HBC := hide (Below.drew (Below.refl W8.heap.size W8))
    have hYl : Y < W8.heap.size := HY8.out.lt
    clear hm0 h6 hlm HPZ HS8 HY8 HM8 z0 z1 zf0 zf1 yf0 yf1
    refine wp_region_till (fun _ => True) 10 (fun w' => Below W8.heap.size W8 w') 10 (fun _ => True) (by kernel_rfl) ⟨trivial, fun _ => HBC.out, fun _ => trivial⟩ (fun hHeld => ?_)
    refine wpTill_take 0 rfl (by decide +kernel) (fun _ _ _ h => h) (by rfl) (v := ?_) ?_ hHeld (fun hHeld' => ?_)
    rotate_left 1
    focus (intro w' hSw; clear hSw; go_simp; first | done | with_reducible rfl)
    clear hHeld
    rename Till _ _ _ _ _ _ _ => hHeld
    (try simp only [Act.put, List.setIfInBounds_toArray, List.set_cons_zero, List.set_cons_succ])
    refine wpTill_take 1 rfl (by decide +kernel) (fun _ _ _ h => h) (by rfl) (v := ?_) ?_ hHeld (fun hHeld' => ?_)
    rotate_left 1
    focus (intro w' hSw; obtain ⟨hC, hF, hG⟩ := hSw; have hF := hF (by decide +kernel); clear hG; clear hC; have c1 := (hF.cell (p := ⟨w.heap.size, 0, none⟩) (by show w.heap.size < _; omega)).trans x0; clear hF; go_simp; first | done | with_reducible rfl)
    clear hHeld
    rename Till _ _ _ _ _ _ _ => hHeld
    (try simp only [Act.put, List.setIfInBounds_toArray, List.set_cons_zero, List.set_cons_succ])
    refine wpTill_take 3 rfl (by decide +kernel) (fun _ _ _ h => h) (by rfl) (v := ?_) ?_ hHeld (fun hHeld' => ?_)
    rotate_left 1
    focus (intro w' hSw; clear hSw; go_simp; first | done | with_reducible rfl)
    clear hHeld
    rename Till _ _ _ _ _ _ _ => hHeld
    (try simp only [Act.put, List.setIfInBounds_toArray, List.set_cons_zero, List.set_cons_succ])
    refine wpTill_take 4 rfl (by decide +kernel) (fun _ _ _ h => h) (by rfl) (v := ?_) ?_ hHeld (fun hHeld' => ?_)
    rotate_left 1
    focus (intro w' hSw; obtain ⟨hC, hF, hG⟩ := hSw; have hF := hF (by decide +kernel); clear hG; clear hC; have c1 := (hF.cell (p := ⟨w.heap.size, 1, none⟩) (by show w.heap.size < _; omega)).trans x1; clear hF; go_simp; first | done | with_reducible rfl)
    clear hHeld
    rename Till _ _ _ _ _ _ _ => hHeld
    (try simp only [Act.put, List.setIfInBounds_toArray, List.set_cons_zero, List.set_cons_succ])
    refine wpTill_take 6 rfl (by decide +kernel) (fun _ _ _ h => h) (by rfl) (v := ?_) ?_ hHeld (fun hHeld' => ?_)
    rotate_left 1
    focus (intro w' hSw; obtain ⟨hC, hF, hG⟩ := hSw; have hF := hF (by decide +kernel); clear hG; clear hC; have c1 := (hF.cell (p := ⟨Y, 0, none⟩) hYl).trans y0; have c2 := (hF.cell (p := ⟨Y, 1, none⟩) hYl).trans y1; clear hF; go_simp; first | done | with_reducible rfl)
    clear hHeld
    rename Till _ _ _ _ _ _ _ => hHeld
    (try simp only [Act.put, List.setIfInBounds_toArray, List.set_cons_zero, List.set_cons_succ])
    clear x0 x1 y0 y1
    refine wpTill_two 2 7 rfl rfl (by decide +kernel) (fun K hK => ?_) (fun K hK => ?_)
    ·have HROW := hide (World.ownsRow_lit (base := W8.heap.size) (e := 94) (size := 2) (W8.drew) #[] 0 (by first | exact Nat.le_refl W8.heap.size | (rw [World.size_alloc]; exact Nat.le_succ W8.heap.size)) (by unfold maxLen; omega) rfl)
     have HR := hide (HR.out.alloc (.cells #[] 94))
     have HBC := hide (HBC.out.alloc HBC.out.size (.cells #[] 94))
     go_simp
     refine hK.out _ _ ⟨trivial, fun _ => HBC.out, fun _ => trivial⟩ (fun hHeld => ?_)
     clear hK K
     (try simp only [Act.put, List.setIfInBounds_toArray, List.set_cons_zero, List.set_cons_succ])
     refine wpTill_two 5 7 rfl rfl (by decide +kernel) (fun K hK => ?_) (fun K hK => ?_)
     ·refine step_append_q rfl _ _ 22 rfl W8.heap.size 94 i1 (.agg #[.bool false, .slice none 0 0]) 2 32 Tryz.underlying22 hi1 hy0 hy1 hy2 rfl (by decide) (.slice (some ⟨W8.heap.size, 0, none⟩) 0 0) 0 _ rfl HROW.out (some ad) l.length c B (cells2 (l.map PieceV.enc)) rfl (HP.out _ HR.out.below).1 (enc_one l) (by unfold maxLen; omega) (by omega) HBC.out.size ?_
      intro A3 c3 w3 ho3 hg3
      have HR := hide (HR.out.grown (own_le HROW.out HR8) hg3)
      have HBC := hide (HBC.out.grown hg3 HBC.out.size (fun j e => (HROW.out.lt j e).1))
      have HROW : Hid (w3.ownsRow W8.heap.size 94 2 (.slice A3 l.length c3) l.length (cells2 (l.map PieceV.enc))) := hide (by simpa using ho3)
      rw [Nat.zero_add]
      refine hK.out _ _ ⟨trivial, fun _ => HBC.out, fun _ => trivial⟩ (fun hHeld => ?_)
      clear hK K ho3 hg3
      (try simp only [Act.put, List.setIfInBounds_toArray, List.set_cons_zero, List.set_cons_succ])
      refine wpTill_one 7 rfl (by decide +kernel) (fun K hK => ?_)
      have HCELL := hide (cell_new2 (w3) (.bool mi) (.slice (some am) M.length mc) 94)
      have HR := hide (HR.out.alloc (.cells #[.bool mi, .slice (some am) M.length mc] 94))
      have HBC := hide (HBC.out.alloc HBC.out.size (.cells #[.bool mi, .slice (some am) M.length mc] 94))
      have HROW := hide (HROW.out.alloc (.cells #[.bool mi, .slice (some am) M.length mc] 94))
      go_simp
      refine hK.out _ _ ⟨trivial, fun _ => HBC.out, fun _ => trivial⟩ (fun hHeld => ?_)
      clear hK K
      (try simp only [Act.put, List.setIfInBounds_toArray, List.set_cons_zero, List.set_cons_succ])
      refine wpTill_one 8 rfl (by decide +kernel) (fun K hK => ?_)
      refine step_append_lies _ rfl _ _ 22 rfl W8.heap.size 94 i1 (.agg #[.bool false, .slice none 0 0]) 2 32 Tryz.underlying22 hi1 hy0 hy1 hy2 rfl (by decide) (.slice A3 l.length c3) l.length _ rfl HROW.out ⟨w3.heap.size, 0, none⟩ 1 1 [.bool mi, .slice (some am) M.length mc] rfl rfl HCELL.out (by simp [Value.oneCell']) (by decide) (by unfold maxLen; omega) (by omega) HBC.out.size _ rfl ?_
      intro g4 cap4 w4 ho4 hg4 _ hlt4
      have HR := hide (HR.out.grown (own_le HROW.out HR8) hg4)
      have HBC := hide (HBC.out.grown hg4 HBC.out.size (fun j e => (HROW.out.lt j e).1))
      have HO4 := hide (own_le ho4 HR8)
      refine hK.out _ _ ⟨trivial, fun _ => HBC.out, fun _ => trivial⟩ (fun hHeld => ?_)
      clear hK K ho4 hg4
      (try simp only [Act.put, List.setIfInBounds_toArray, List.set_cons_zero, List.set_cons_succ])
      refine wpTill_take 9 rfl (by decide +kernel) (fun _ _ _ h => h) (by rfl) (v := ?_) ?_ hHeld (fun hHeld' => ?_)
      rotate_left 1
      focus (intro w' hSw; clear hSw; go_simp; first | done | with_reducible rfl)
      clear hHeld
      rename Till _ _ _ _ _ _ _ => hHeld
      (try simp only [Act.put, List.setIfInBounds_toArray, List.set_cons_zero, List.set_cons_succ])
      clear r0 r1 rf0 rf1
      obtain ⟨r0, r1, rf0, rf1⟩ := HR.out.r.two
      refine wpTill_one 10 rfl (by decide +kernel) (fun K hK => ?_)
      go_simp
      refine hK.out _ _ ⟨trivial, fun h => absurd h (by decide +kernel), fun _ => trivial⟩ (fun hHeld => ?_)
      clear hK K
      (try simp only [Act.put, List.setIfInBounds_toArray, List.set_cons_zero, List.set_cons_succ])
      refine wpTill_take 11 rfl (by decide +kernel) (fun _ _ _ h => h) (by rfl) (v := ?_) ?_ hHeld (fun hHeld' => ?_)
      rotate_left 1
      focus (intro w' hSw; clear hSw; go_simp; first | done | with_reducible rfl)
      clear hHeld
      rename Till _ _ _ _ _ _ _ => hHeld
      (try simp only [Act.put, List.setIfInBounds_toArray, List.set_cons_zero, List.set_cons_succ])
      refine wpTill_done (by decide +kernel) ?_
      clear hHeld
      go_wp2
      obtain ⟨hk1, hpq, hof, hbl⟩ := ext_fin HR.out (HP.out _ HR.out.below) hB HO4.out wh (W := _) rfl
      refine bodyPost_cell_tmp (p := 4) (u := 5) (ty := 24) rfl rfl hk1 Tryz.underlying24 rfl Tryz.sizeOld rfl ?_
      exact ⟨some ⟨g4, 0, none⟩, l.length + 1, cap4, l ++ [⟨mi, some am, M.length, mc, M⟩], by rw [← hres]; rfl, hpq, by rw [← hres, List.map_append]; rfl, hof, hbl⟩
     ·have HCELL : Hid (∀ j x, [Value.bool mi, .slice (some am) M.length mc][j]? = some x → ((W8.drew.alloc (.cells #[] 94)).alloc (.cells #[.bool mi, .slice (some am) M.length mc] 94)).cell? ((⟨W8.heap.size + 1, 0, none⟩ : Addr).add j) = some x) := hide (by have h := cell_new2 (W8.drew.alloc (.cells #[] 94)) (.bool mi) (.slice (some am) M.length mc) 94; rwa [World.size_alloc] at h)
      have HR := hide (HR.out.alloc (.cells #[.bool mi, .slice (some am) M.length mc] 94))
      have HBC := hide (HBC.out.alloc HBC.out.size (.cells #[.bool mi, .slice (some am) M.length mc] 94))
      have HROW := hide (HROW.out.alloc (.cells #[.bool mi, .slice (some am) M.length mc] 94))
      go_simp
      refine hK.out _ _ ⟨trivial, fun _ => HBC.out, fun _ => trivial⟩ (fun hHeld => ?_)
      clear hK K
      (try simp only [Act.put, List.setIfInBounds_toArray, List.set_cons_zero, List.set_cons_succ])
      refine wpTill_one 5 rfl (by decide +kernel) (fun K hK => ?_)
      refine step_append_q rfl _ _ 22 rfl W8.heap.size 94 i1 (.agg #[.bool false, .slice none 0 0]) 2 32 Tryz.underlying22 hi1 hy0 hy1 hy2 rfl (by decide) (.slice (some ⟨W8.heap.size, 0, none⟩) 0 0) 0 _ rfl HROW.out (some ad) l.length c B (cells2 (l.map PieceV.enc)) rfl (HP.out _ HR.out.below).1 (enc_one l) (by unfold maxLen; omega) (by omega) HBC.out.size ?_
      intro A3 c3 w3 ho3 hg3
      have HR := hide (HR.out.grown (own_le HROW.out HR8) hg3)
      have HBC := hide (HBC.out.grown hg3 HBC.out.size (fun j e => (HROW.out.lt j e).1))
      have HCELL := hide (cell_kept2 HCELL.out hg3 (by simp only [World.size_alloc]; first | exact Nat.lt_succ_self W8.heap.size | exact Nat.lt_succ_self (W8.heap.size + 1) | (show W8.heap.size < W8.heap.size + 1 + 1; omega)) (by simp only [Value.ownBlock, World.size_alloc]; intro h; have h2 := Option.some.inj h; first | (have h3 : W8.heap.size = W8.heap.size + 1 := h2; omega) | (have h3 : W8.heap.size + 1 = W8.heap.size := h2; omega)))
      have HROW : Hid (w3.ownsRow W8.heap.size 94 2 (.slice A3 l.length c3) l.length (cells2 (l.map PieceV.enc))) := hide (by simpa using ho3)
      rw [Nat.zero_add]
      refine hK.out _ _ ⟨trivial, fun _ => HBC.out, fun _ => trivial⟩ (fun hHeld => ?_)
      clear hK K ho3 hg3
      (try simp only [Act.put, List.setIfInBounds_toArray, List.set_cons_zero, List.set_cons_succ])
      refine wpTill_one 8 rfl (by decide +kernel) (fun K hK => ?_)
      refine step_append_lies _ rfl _ _ 22 rfl W8.heap.size 94 i1 (.agg #[.bool false, .slice none 0 0]) 2 32 Tryz.underlying22 hi1 hy0 hy1 hy2 rfl (by decide) (.slice A3 l.length c3) l.length _ rfl HROW.out ⟨W8.heap.size + 1, 0, none⟩ 1 1 [.bool mi, .slice (some am) M.length mc] rfl rfl HCELL.out (by simp [Value.oneCell']) (by decide) (by unfold maxLen; omega) (by omega) HBC.out.size _ rfl ?_
      intro g4 cap4 w4 ho4 hg4 _ hlt4
      have HR := hide (HR.out.grown (own_le HROW.out HR8) hg4)
      have HBC := hide (HBC.out.grown hg4 HBC.out.size (fun j e => (HROW.out.lt j e).1))
      have HO4 := hide (own_le ho4 HR8)
      refine hK.out _ _ ⟨trivial, fun _ => HBC.out, fun _ => trivial⟩ (fun hHeld => ?_)
      clear hK K ho4 hg4
      (try simp only [Act.put, List.setIfInBounds_toArray, List.set_cons_zero, List.set_cons_succ])
      refine wpTill_take 9 rfl (by decide +kernel) (fun _ _ _ h => h) (by rfl) (v := ?_) ?_ hHeld (fun hHeld' => ?_)
      rotate_left 1
      focus (intro w' hSw; clear hSw; go_simp; first | done | with_reducible rfl)
      clear hHeld
      rename Till _ _ _ _ _ _ _ => hHeld
      (try simp only [Act.put, List.setIfInBounds_toArray, List.set_cons_zero, List.set_cons_succ])
      clear r0 r1 rf0 rf1
      obtain ⟨r0, r1, rf0, rf1⟩ := HR.out.r.two
      refine wpTill_one 10 rfl (by decide +kernel) (fun K hK => ?_)
      go_simp
      refine hK.out _ _ ⟨trivial, fun h => absurd h (by decide +kernel), fun _ => trivial⟩ (fun hHeld => ?_)
      clear hK K
      (try simp only [Act.put, List.setIfInBounds_toArray, List.set_cons_zero, List.set_cons_succ])
      refine wpTill_take 11 rfl (by decide +kernel) (fun _ _ _ h => h) (by rfl) (v := ?_) ?_ hHeld (fun hHeld' => ?_)
      rotate_left 1
      focus (intro w' hSw; clear hSw; go_simp; first | done | with_reducible rfl)
      clear hHeld
      rename Till _ _ _ _ _ _ _ => hHeld
      (try simp only [Act.put, List.setIfInBounds_toArray, List.set_cons_zero, List.set_cons_succ])
      refine wpTill_done (by decide +kernel) ?_
      clear hHeld
      go_wp2
      obtain ⟨hk1, hpq, hof, hbl⟩ := ext_fin HR.out (HP.out _ HR.out.below) hB HO4.out wh (W := _) rfl
      refine bodyPost_cell_tmp (p := 4) (u := 5) (ty := 24) rfl rfl hk1 Tryz.underlying24 rfl Tryz.sizeOld rfl ?_
      exact ⟨some ⟨g4, 0, none⟩, l.length + 1, cap4, l ++ [⟨mi, some am, M.length, mc, M⟩], by rw [← hres]; rfl, hpq, by rw [← hres, List.map_append]; rfl, hof, hbl⟩
    ·have HCELL := hide (cell_new2 (W8.drew) (.bool mi) (.slice (some am) M.length mc) 94)
     have HR := hide (HR.out.alloc (.cells #[.bool mi, .slice (some am) M.length mc] 94))
     have HBC := hide (HBC.out.alloc HBC.out.size (.cells #[.bool mi, .slice (some am) M.length mc] 94))
     go_simp
     refine hK.out _ _ ⟨trivial, fun _ => HBC.out, fun _ => trivial⟩ (fun hHeld => ?_)
     clear hK K
     (try simp only [Act.put, List.setIfInBounds_toArray, List.set_cons_zero, List.set_cons_succ])
     refine wpTill_one 2 rfl (by decide +kernel) (fun K hK => ?_)
     have HCELL : Hid (∀ j x, [Value.bool mi, .slice (some am) M.length mc][j]? = some x → ((W8.drew.alloc (.cells #[.bool mi, .slice (some am) M.length mc] 94)).alloc (.cells #[] 94)).cell? ((⟨W8.heap.size, 0, none⟩ : Addr).add j) = some x) := hide (fun j x hx => (World.cell?_alloc_lt _ _ _ (by rw [addr_block, World.size_alloc]; exact Nat.lt_succ_self W8.heap.size)).trans (HCELL.out j x hx))
     have HROW : Hid (((W8.drew.alloc (.cells #[.bool mi, .slice (some am) M.length mc] 94)).alloc (.cells #[] 94)).ownsRow W8.heap.size 94 2 (.slice (some ⟨W8.heap.size + 1, 0, none⟩) 0 0) 0 []) := hide (by have h := World.ownsRow_lit (base := W8.heap.size) (e := 94) (size := 2) (W8.drew.alloc (.cells #[.bool mi, .slice (some am) M.length mc] 94)) #[] 0 (by rw [World.size_alloc]; exact Nat.le_succ W8.heap.size) (by unfold maxLen; omega) rfl; rwa [World.size_alloc] at h)
     have HR := hide (HR.out.alloc (.cells #[] 94))
     have HBC := hide (HBC.out.alloc HBC.out.size (.cells #[] 94))
     go_simp
     refine hK.out _ _ ⟨trivial, fun _ => HBC.out, fun _ => trivial⟩ (fun hHeld => ?_)
     clear hK K
     (try simp only [Act.put, List.setIfInBounds_toArray, List.set_cons_zero, List.set_cons_succ])
     refine wpTill_one 5 rfl (by decide +kernel) (fun K hK => ?_)
     refine step_append_q rfl _ _ 22 rfl W8.heap.size 94 i1 (.agg #[.bool false, .slice none 0 0]) 2 32 Tryz.underlying22 hi1 hy0 hy1 hy2 rfl (by decide) (.slice (some ⟨W8.heap.size + 1, 0, none⟩) 0 0) 0 _ rfl HROW.out (some ad) l.length c B (cells2 (l.map PieceV.enc)) rfl (HP.out _ HR.out.below).1 (enc_one l) (by unfold maxLen; omega) (by omega) HBC.out.size ?_
     intro A3 c3 w3 ho3 hg3
     have HR := hide (HR.out.grown (own_le HROW.out HR8) hg3)
     have HBC := hide (HBC.out.grown hg3 HBC.out.size (fun j e => (HROW.out.lt j e).1))
     have HCELL := hide (cell_kept2 HCELL.out hg3 (by simp only [World.size_alloc]; first | exact Nat.lt_succ_self W8.heap.size | exact Nat.lt_succ_self (W8.heap.size + 1) | (show W8.heap.size < W8.heap.size + 1 + 1; omega)) (by simp only [Value.ownBlock, World.size_alloc]; intro h; have h2 := Option.some.inj h; first | (have h3 : W8.heap.size = W8.heap.size + 1 := h2; omega) | (have h3 : W8.heap.size + 1 = W8.heap.size := h2; omega)))
     have HROW : Hid (w3.ownsRow W8.heap.size 94 2 (.slice A3 l.length c3) l.length (cells2 (l.map PieceV.enc))) := hide (by simpa using ho3)
     rw [Nat.zero_add]
     refine hK.out _ _ ⟨trivial, fun _ => HBC.out, fun _ => trivial⟩ (fun hHeld => ?_)
     clear hK K ho3 hg3
     (try simp only [Act.put, List.setIfInBounds_toArray, List.set_cons_zero, List.set_cons_succ])
     refine wpTill_one 8 rfl (by decide +kernel) (fun K hK => ?_)
     refine step_append_lies _ rfl _ _ 22 rfl W8.heap.size 94 i1 (.agg #[.bool false, .slice none 0 0]) 2 32 Tryz.underlying22 hi1 hy0 hy1 hy2 rfl (by decide) (.slice A3 l.length c3) l.length _ rfl HROW.out ⟨W8.heap.size, 0, none⟩ 1 1 [.bool mi, .slice (some am) M.length mc] rfl rfl HCELL.out (by simp [Value.oneCell']) (by decide) (by unfold maxLen; omega) (by omega) HBC.out.size _ rfl ?_
     intro g4 cap4 w4 ho4 hg4 _ hlt4
     have HR := hide (HR.out.grown (own_le HROW.out HR8) hg4)
     have HBC := hide (HBC.out.grown hg4 HBC.out.size (fun j e => (HROW.out.lt j e).1))
     have HO4 := hide (own_le ho4 HR8)
     refine hK.out _ _ ⟨trivial, fun _ => HBC.out, fun _ => trivial⟩ (fun hHeld => ?_)
     clear hK K ho4 hg4
     (try simp only [Act.put, List.setIfInBounds_toArray, List.set_cons_zero, List.set_cons_succ])
     refine wpTill_take 9 rfl (by decide +kernel) (fun _ _ _ h => h) (by rfl) (v := ?_) ?_ hHeld (fun hHeld' => ?_)
     rotate_left 1
     focus (intro w' hSw; clear hSw; go_simp; first | done | with_reducible rfl)
     clear hHeld
     rename Till _ _ _ _ _ _ _ => hHeld
     (try simp only [Act.put, List.setIfInBounds_toArray, List.set_cons_zero, List.set_cons_succ])
     clear r0 r1 rf0 rf1
     obtain ⟨r0, r1, rf0, rf1⟩ := HR.out.r.two
     refine wpTill_one 10 rfl (by decide +kernel) (fun K hK => ?_)
     go_simp
     refine hK.out _ _ ⟨trivial, fun h => absurd h (by decide +kernel), fun _ => trivial⟩ (fun hHeld => ?_)
     clear hK K
     (try simp only [Act.put, List.setIfInBounds_toArray, List.set_cons_zero, List.set_cons_succ])
     refine wpTill_take 11 rfl (by decide +kernel) (fun _ _ _ h => h) (by rfl) (v := ?_) ?_ hHeld (fun hHeld' => ?_)
     rotate_left 1
     focus (intro w' hSw; clear hSw; go_simp; first | done | with_reducible rfl)
     clear hHeld
     rename Till _ _ _ _ _ _ _ => hHeld
     (try simp only [Act.put, List.setIfInBounds_toArray, List.set_cons_zero, List.set_cons_succ])
     refine wpTill_done (by decide +kernel) ?_
     clear hHeld
     go_wp2
     obtain ⟨hk1, hpq, hof, hbl⟩ := ext_fin HR.out (HP.out _ HR.out.below) hB HO4.out wh (W := _) rfl
     refine bodyPost_cell_tmp (p := 4) (u := 5) (ty := 24) rfl rfl hk1 Tryz.underlying24 rfl Tryz.sizeOld rfl ?_
     exact ⟨some ⟨g4, 0, none⟩, l.length + 1, cap4, l ++ [⟨mi, some am, M.length, mc, M⟩], by rw [← hres]; rfl, hpq, by rw [← hres, List.map_append]; rfl, hof, hbl⟩
   ·have HCELL := hide (cell_new1 (W1.drew) (.int .i64 (dd / q)) 3)
    have HS := hide (HS.out.alloc (.cells #[.int .i64 (dd / q)] 3))
    have HY := hide (HY.out.alloc (.cells #[.int .i64 (dd / q)] 3))
    have HBC := hide (HBC.out.alloc HBC.out.size (.cells #[.int .i64 (dd / q)] 3))
    have HPI2 := hide (Rq.alloc HPI2.out (by show B ≤ W1.heap.size; omega) (.cells #[.int .i64 (dd / q)] 3))
    go_simp
    refine hK.out _ _ ⟨trivial, fun _ => HBC.out, fun _ => trivial⟩ (fun hHeld => ?_)
    clear hK K
    (try simp only [Act.put, List.setIfInBounds_toArray, List.set_cons_zero, List.set_cons_succ])
    refine wpTill_one 3 rfl (by decide +kernel) (fun K hK => ?_)
    refine step_append_q rfl _ _ 66 rfl W1.heap.size 3 i0 (.int .i64 0) 1 8 Tryz.underlying66 hi0 hz0 hz1 hz2 rfl (by decide) (.slice none 0 0) 0 [] rfl (World.ownsRow_nil _ _ _ _) Ap ms.length cp B (ms.map (Value.int .i64)) rfl HPI2.out (by intro u hu; obtain ⟨d, _, rfl⟩ := List.mem_map.1 hu; rfl) (by unfold maxLen; omega) (by omega) HBC.out.size ?_
    intro A3 c3 w3 ho3 hg3
    have HO3 : Hid (w3.ownsRow W1.heap.size 3 1 (.slice A3 ms.length c3) ms.length (ms.map (Value.int .i64))) := hide (by simpa using ho3)
    have HS := hide (HS.out.grown hg3 (fun b e => by simp [Value.ownBlock] at e))
    have HY := hide (HY.out.grown hg3 (fun e => by simp [Value.ownBlock] at e))
    have HBC := hide (HBC.out.grown hg3 HBC.out.size (fun j e => by simp [Value.ownBlock] at e))
    have HCELL := hide (cell_kept2 HCELL.out hg3 (by simp only [World.size_alloc]; exact Nat.lt_succ_self W1.heap.size) (by simp [Value.ownBlock]))
    rw [Nat.zero_add]
    refine hK.out _ _ ⟨trivial, fun _ => HBC.out, fun _ => trivial⟩ (fun hHeld => ?_)
    clear hK K ho3 hg3
    (try simp only [Act.put, List.setIfInBounds_toArray, List.set_cons_zero, List.set_cons_succ])
    refine wpTill_one 8 rfl (by decide +kernel) (fun K hK => ?_)
    refine step_append_lies _ rfl _ _ 66 rfl W1.heap.size 3 i0 (.int .i64 0) 1 8 Tryz.underlying66 hi0 hz0 hz1 hz2 rfl (by decide) (.slice A3 ms.length c3) ms.length _ rfl HO3.out ⟨W1.drew.heap.size, 0, none⟩ 1 1 [.int .i64 (dd / q)] rfl rfl HCELL.out (by simp [Value.oneCell']) (by decide) (by unfold maxLen; omega) (by omega) HBC.out.size _ rfl ?_
    intro g4 cap4 w4 ho4 hg4 _ hlt4
    have HS := hide (HS.out.grown hg4 (fun b e => by have := (HO3.out.lt b e).1; omega))
    have HY := hide (HY.out.grown hg4 (fun e => by have := (HO3.out.lt _ e).1; omega))
    have HBC := hide (HBC.out.grown hg4 HBC.out.size (fun j e => (HO3.out.lt j e).1))
    have HO4 := hide ho4
    refine hK.out _ _ ⟨trivial, fun _ => HBC.out, fun _ => trivial⟩ (fun hHeld => ?_)
    clear hK K ho4 hg4
    (try simp only [Act.put, List.setIfInBounds_toArray, List.set_cons_zero, List.set_cons_succ])
    refine wpTill_take 9 rfl (by decide +kernel) (fun _ _ _ h => h) (by rfl) (v := ?_) ?_ hHeld (fun hHeld' => ?_)
    rotate_left 1
    focus (intro w' hSw; clear hSw; go_simp; first | done | with_reducible rfl)
    clear hHeld
    rename Till _ _ _ _ _ _ _ => hHeld
    (try simp only [Act.put, List.setIfInBounds_toArray, List.set_cons_zero, List.set_cons_succ])
    obtain ⟨y0, y1, yf0, yf1⟩ := HY.out.two
    refine wpTill_one 10 rfl (by decide +kernel) (fun K hK => ?_)
    go_simp
    refine hK.out _ _ ⟨trivial, fun h => absurd h (by decide +kernel), fun _ => trivial⟩ (fun hHeld => ?_)
    clear hK K
    (try simp only [Act.put, List.setIfInBounds_toArray, List.set_cons_zero, List.set_cons_succ])
    refine wpTill_done (by decide +kernel) ?_
    clear hHeld y0 y1 yf0 yf1
    have HS8 := hide (HS.out.set (p := ⟨Y, 1, none⟩) (by show _ ≤ Y; omega) (.slice (some ⟨g4, 0, none⟩) (ms.length + 1) cap4))
    have HY8 : Hid (Blk (w4.setCell ⟨Y, 1, none⟩ (.slice (some ⟨g4, 0, none⟩) (ms.length + 1) cap4)) Y 94 #[.bool mi, .slice (some ⟨g4, 0, none⟩) (ms.length + 1) cap4]) := hide (HY.out.set_ 1 _)
    have HM8 : Hid ((w4.setCell ⟨Y, 1, none⟩ (.slice (some ⟨g4, 0, none⟩) (ms.length + 1) cap4)).ownsRow (w.heap.size + 3) 3 1 (.slice (some ⟨g4, 0, none⟩) (ms.length + 1) cap4) (ms.length + 1) (ms.map (Value.int .i64) ++ [.int .i64 (dd / q)])) := hide (own_le (ownsRow_setCell_below HO4.out (show Y < W1.heap.size from hYl) _) (by omega))
    clear HS HY HBC HO4 HO3 HCELL
    generalize w4.setCell ⟨Y, 1, none⟩ (.slice (some ⟨g4, 0, none⟩) (ms.length + 1) cap4) = W8 at *
    obtain ⟨mA, hmA⟩ : ∃ mA : Option Addr, mA = some ⟨g4, 0, none⟩ := ⟨_, rfl⟩
    rw [← hmA] at HY8 HM8
    obtain ⟨M, hM8⟩ : ∃ M, M = ms ++ [dd / q] := ⟨_, rfl⟩
    have hml : ms.length + 1 = M.length := by rw [hM8]; simp
    have hmm : ms.map (Value.int .i64) ++ [.int .i64 (dd / q)] = M.map (Value.int .i64) := by rw [hM8]; simp
    rw [hml] at HY8
    rw [hml, hmm] at HM8
    rw [← hM8] at HMK
    have hM0 : 0 < M.length := by omega
    have hM7 : M.length ≤ 7 := by omega
    obtain ⟨mc, hmc⟩ : ∃ mc : Nat, mc = cap4 := ⟨_, rfl⟩
    rw [← hmc] at HY8 HM8
    clear hmA hM8 hml hmm hmc
    obtain ⟨y0, y1, _, _⟩ := HY8.out.two
    have hMz : ((M.length : Int) == 0) = false := beq_eq_false_iff_ne.2 (by omega)
    go_upto_region 28 with fail
    clear y0 y1 hMz
    rw [HMK.out] at hres
    unfold extend2 at hres
    clear HMK
    obtain ⟨y0, y1, yf0, yf1⟩ := HY8.out.two
    obtain ⟨r0, r1, rf0, rf1⟩ := HS8.out.r.two
    obtain ⟨z0, z1, zf0, zf1⟩ := HS8.out.z.two
    have hIQ : IntsQ W8 W8.heap.size mA M.length mc M := Rq.of (Rd.of_own HM8.out)
    obtain ⟨am, rfl, -, hm0⟩ := hIQ.at_ (i := M.length - 1) (by omega)
    clear hIQ
    have hlastM : lastI M = M[M.length - 1] := by
     unfold lastI
     rw [List.getLast?_eq_getElem?, List.getElem?_eq_getElem (by omega)]; rfl
    rw [hlastM] at hres
    clear hlastM
    generalize M[M.length - 1] = lm at *
    by_cases h6 : 6 < (M.length : Int)
    ·rw [if_pos (.inl (by omega))] at hres
     have HV := hide hres.symm
     go_wp2
     exact HPZ.out _ _ 10 HV.out HS8.out.below HS8.out.r rfl rfl rfl
    by_cases hlm : 1000 < lm
    ·rw [if_pos (.inr hlm)] at hres
     have HV := hide hres.symm
     go_wp2
     exact HPZ.out _ _ 10 HV.out HS8.out.below HS8.out.r rfl rfl rfl
    rw [if_neg (by rintro (h | h) <;> omega)] at hres
    go_upto_region 30 with fail
    obtain ⟨x0, x1, _, _⟩ := HS8.out.o.two
    have HR8 : w.heap.size + 3 ≤ W8.heap.size := HS8.out.size
    have HR := hide (ExtR.drew (⟨HS8.out.r, HM8.out, HS8.out.below, HR8⟩ : ExtR w W8 (some am) M.length mc M))
    have HBC := hide (Below.drew (Below.refl W8.heap.size W8))
    have hYl : Y < W8.heap.size := HY8.out.lt
    clear hm0 h6 hlm HPZ HS8 HY8 HM8 z0 z1 zf0 zf1 yf0 yf1
    refine wp_region_till (fun _ => True) 10 (fun w' => Below W8.heap.size W8 w') 10 (fun _ => True) (by kernel_rfl) ⟨trivial, fun _ => HBC.out, fun _ => trivial⟩ (fun hHeld => ?_)
    refine wpTill_take 0 rfl (by decide +kernel) (fun _ _ _ h => h) (by rfl) (v := ?_) ?_ hHeld (fun hHeld' => ?_)
    rotate_left 1
    focus (intro w' hSw; clear hSw; go_simp; first | done | with_reducible rfl)
    clear hHeld
    rename Till _ _ _ _ _ _ _ => hHeld
    (try simp only [Act.put, List.setIfInBounds_toArray, List.set_cons_zero, List.set_cons_succ])
    refine wpTill_take 1 rfl (by decide +kernel) (fun _ _ _ h => h) (by rfl) (v := ?_) ?_ hHeld (fun hHeld' => ?_)
    rotate_left 1
    focus (intro w' hSw; obtain ⟨hC, hF, hG⟩ := hSw; have hF := hF (by decide +kernel); clear hG; clear hC; have c1 := (hF.cell (p := ⟨w.heap.size, 0, none⟩) (by show w.heap.size < _; omega)).trans x0; clear hF; go_simp; first | done | with_reducible rfl)
    clear hHeld
    rename Till _ _ _ _ _ _ _ => hHeld
    (try simp only [Act.put, List.setIfInBounds_toArray, List.set_cons_zero, List.set_cons_succ])
    refine wpTill_take 3 rfl (by decide +kernel) (fun _ _ _ h => h) (by rfl) (v := ?_) ?_ hHeld (fun hHeld' => ?_)
    rotate_left 1
    focus (intro w' hSw; clear hSw; go_simp; first | done | with_reducible rfl)
    clear hHeld
    rename Till _ _ _ _ _ _ _ => hHeld
    (try simp only [Act.put, List.setIfInBounds_toArray, List.set_cons_zero, List.set_cons_succ])
    refine wpTill_take 4 rfl (by decide +kernel) (fun _ _ _ h => h) (by rfl) (v := ?_) ?_ hHeld (fun hHeld' => ?_)
    rotate_left 1
    focus (intro w' hSw; obtain ⟨hC, hF, hG⟩ := hSw; have hF := hF (by decide +kernel); clear hG; clear hC; have c1 := (hF.cell (p := ⟨w.heap.size, 1, none⟩) (by show w.heap.size < _; omega)).trans x1; clear hF; go_simp; first | done | with_reducible rfl)
    clear hHeld
    rename Till _ _ _ _ _ _ _ => hHeld
    (try simp only [Act.put, List.setIfInBounds_toArray, List.set_cons_zero, List.set_cons_succ])
    refine wpTill_take 6 rfl (by decide +kernel) (fun _ _ _ h => h) (by rfl) (v := ?_) ?_ hHeld (fun hHeld' => ?_)
    rotate_left 1
    focus (intro w' hSw; obtain ⟨hC, hF, hG⟩ := hSw; have hF := hF (by decide +kernel); clear hG; clear hC; have c1 := (hF.cell (p := ⟨Y, 0, none⟩) hYl).trans y0; have c2 := (hF.cell (p := ⟨Y, 1, none⟩) hYl).trans y1; clear hF; go_simp; first | done | with_reducible rfl)
    clear hHeld
    rename Till _ _ _ _ _ _ _ => hHeld
    (try simp only [Act.put, List.setIfInBounds_toArray, List.set_cons_zero, List.set_cons_succ])
    clear x0 x1 y0 y1
    refine wpTill_two 2 7 rfl rfl (by decide +kernel) (fun K hK => ?_) (fun K hK => ?_)
    ·have HROW := hide (World.ownsRow_lit (base := W8.heap.size) (e := 94) (size := 2) (W8.drew) #[] 0 (by first | exact Nat.le_refl W8.heap.size | (rw [World.size_alloc]; exact Nat.le_succ W8.heap.size)) (by unfold maxLen; omega) rfl)
     have HR := hide (HR.out.alloc (.cells #[] 94))
     have HBC := hide (HBC.out.alloc HBC.out.size (.cells #[] 94))
     go_simp
     refine hK.out _ _ ⟨trivial, fun _ => HBC.out, fun _ => trivial⟩ (fun hHeld => ?_)
     clear hK K
     (try simp only [Act.put, List.setIfInBounds_toArray, List.set_cons_zero, List.set_cons_succ])
     refine wpTill_two 5 7 rfl rfl (by decide +kernel) (fun K hK => ?_) (fun K hK => ?_)
     ·refine step_append_q rfl _ _ 22 rfl W8.heap.size 94 i1 (.agg #[.bool false, .slice none 0 0]) 2 32 Tryz.underlying22 hi1 hy0 hy1 hy2 rfl (by decide) (.slice (some ⟨W8.heap.size, 0, none⟩) 0 0) 0 _ rfl HROW.out (some ad) l.length c B (cells2 (l.map PieceV.enc)) rfl (HP.out _ HR.out.below).1 (enc_one l) (by unfold maxLen; omega) (by omega) HBC.out.size ?_
      intro A3 c3 w3 ho3 hg3
      have HR := hide (HR.out.grown (own_le HROW.out HR8) hg3)
      have HBC := hide (HBC.out.grown hg3 HBC.out.size (fun j e => (HROW.out.lt j e).1))
      have HROW : Hid (w3.ownsRow W8.heap.size 94 2 (.slice A3 l.length c3) l.length (cells2 (l.map PieceV.enc))) := hide (by simpa using ho3)
      rw [Nat.zero_add]
      refine hK.out _ _ ⟨trivial, fun _ => HBC.out, fun _ => trivial⟩ (fun hHeld => ?_)
      clear hK K ho3 hg3
      (try simp only [Act.put, List.setIfInBounds_toArray, List.set_cons_zero, List.set_cons_succ])
      refine wpTill_one 7 rfl (by decide +kernel) (fun K hK => ?_)
      have HCELL := hide (cell_new2 (w3) (.bool mi) (.slice (some am) M.length mc) 94)
      have HR := hide (HR.out.alloc (.cells #[.bool mi, .slice (some am) M.length mc] 94))
      have HBC := hide (HBC.out.alloc HBC.out.size (.cells #[.bool mi, .slice (some am) M.length mc] 94))
      have HROW := hide (HROW.out.alloc (.cells #[.bool mi, .slice (some am) M.length mc] 94))
      go_simp
      refine hK.out _ _ ⟨trivial, fun _ => HBC.out, fun _ => trivial⟩ (fun hHeld => ?_)
      clear hK K
      (try simp only [Act.put, List.setIfInBounds_toArray, List.set_cons_zero, List.set_cons_succ])
      refine wpTill_one 8 rfl (by decide +kernel) (fun K hK => ?_)
      refine step_append_lies _ rfl _ _ 22 rfl W8.heap.size 94 i1 (.agg #[.bool false, .slice none 0 0]) 2 32 Tryz.underlying22 hi1 hy0 hy1 hy2 rfl (by decide) (.slice A3 l.length c3) l.length _ rfl HROW.out ⟨w3.heap.size, 0, none⟩ 1 1 [.bool mi, .slice (some am) M.length mc] rfl rfl HCELL.out (by simp [Value.oneCell']) (by decide) (by unfold maxLen; omega) (by omega) HBC.out.size _ rfl ?_
      intro g4 cap4 w4 ho4 hg4 _ hlt4
      have HR := hide (HR.out.grown (own_le HROW.out HR8) hg4)
      have HBC := hide (HBC.out.grown hg4 HBC.out.size (fun j e => (HROW.out.lt j e).1))
      have HO4 := hide (own_le ho4 HR8)
      refine hK.out _ _ ⟨trivial, fun _ => HBC.out, fun _ => trivial⟩ (fun hHeld => ?_)
      clear hK K ho4 hg4
      (try simp only [Act.put, List.setIfInBounds_toArray, List.set_cons_zero, List.set_cons_succ])
      refine wpTill_take 9 rfl (by decide +kernel) (fun _ _ _ h => h) (by rfl) (v := ?_) ?_ hHeld (fun hHeld' => ?_)
      rotate_left 1
      focus (intro w' hSw; clear hSw; go_simp; first | done | with_reducible rfl)
      clear hHeld
      rename Till _ _ _ _ _ _ _ => hHeld
      (try simp only [Act.put, List.setIfInBounds_toArray, List.set_cons_zero, List.set_cons_succ])
      clear r0 r1 rf0 rf1
      obtain ⟨r0, r1, rf0, rf1⟩ := HR.out.r.two
      refine wpTill_one 10 rfl (by decide +kernel) (fun K hK => ?_)
      go_simp
      refine hK.out _ _ ⟨trivial, fun h => absurd h (by decide +kernel), fun _ => trivial⟩ (fun hHeld => ?_)
      clear hK K
      (try simp only [Act.put, List.setIfInBounds_toArray, List.set_cons_zero, List.set_cons_succ])
      refine wpTill_take 11 rfl (by decide +kernel) (fun _ _ _ h => h) (by rfl) (v := ?_) ?_ hHeld (fun hHeld' => ?_)
      rotate_left 1
      focus (intro w' hSw; clear hSw; go_simp; first | done | with_reducible rfl)
      clear hHeld
      rename Till _ _ _ _ _ _ _ => hHeld
      (try simp only [Act.put, List.setIfInBounds_toArray, List.set_cons_zero, List.set_cons_succ])
      refine wpTill_done (by decide +kernel) ?_
      clear hHeld
      go_wp2
      obtain ⟨hk1, hpq, hof, hbl⟩ := ext_fin HR.out (HP.out _ HR.out.below) hB HO4.out wh (W := _) rfl
      refine bodyPost_cell_tmp (p := 4) (u := 5) (ty := 24) rfl rfl hk1 Tryz.underlying24 rfl Tryz.sizeOld rfl ?_
      exact ⟨some ⟨g4, 0, none⟩, l.length + 1, cap4, l ++ [⟨mi, some am, M.length, mc, M⟩], by rw [← hres]; rfl, hpq, by rw [← hres, List.map_append]; rfl, hof, hbl⟩
     ·have HCELL : Hid (∀ j x, [Value.bool mi, .slice (some am) M.length mc][j]? = some x → ((W8.drew.alloc (.cells #[] 94)).alloc (.cells #[.bool mi, .slice (some am) M.length mc] 94)).cell? ((⟨W8.heap.size + 1, 0, none⟩ : Addr).add j) = some x) := hide (by have h := cell_new2 (W8.drew.alloc (.cells #[] 94)) (.bool mi) (.slice (some am) M.length mc) 94; rwa [World.size_alloc] at h)
      have HR := hide (HR.out.alloc (.cells #[.bool mi, .slice (some am) M.length mc] 94))
      have HBC := hide (HBC.out.alloc HBC.out.size (.cells #[.bool mi, .slice (some am) M.length mc] 94))
      have HROW := hide (HROW.out.alloc (.cells #[.bool mi, .slice (some am) M.length mc] 94))
      go_simp
      refine hK.out _ _ ⟨trivial, fun _ => HBC.out, fun _ => trivial⟩ (fun hHeld => ?_)
      clear hK K
      (try simp only [Act.put, List.setIfInBounds_toArray, List.set_cons_zero, List.set_cons_succ])
      refine wpTill_one 5 rfl (by decide +kernel) (fun K hK => ?_)
      refine step_append_q rfl _ _ 22 rfl W8.heap.size 94 i1 (.agg #[.bool false, .slice none 0 0]) 2 32 Tryz.underlying22 hi1 hy0 hy1 hy2 rfl (by decide) (.slice (some ⟨W8.heap.size, 0, none⟩) 0 0) 0 _ rfl HROW.out (some ad) l.length c B (cells2 (l.map PieceV.enc)) rfl (HP.out _ HR.out.below).1 (enc_one l) (by unfold maxLen; omega) (by omega) HBC.out.size ?_
      intro A3 c3 w3 ho3 hg3
      have HR := hide (HR.out.grown (own_le HROW.out HR8) hg3)
      have HBC := hide (HBC.out.grown hg3 HBC.out.size (fun j e => (HROW.out.lt j e).1))
      have HCELL := hide (cell_kept2 HCELL.out hg3 (by simp only [World.size_alloc]; first | exact Nat.lt_succ_self W8.heap.size | exact Nat.lt_succ_self (W8.heap.size + 1) | (show W8.heap.size < W8.heap.size + 1 + 1; omega)) (by simp only [Value.ownBlock, World.size_alloc]; intro h; have h2 := Option.some.inj h; first | (have h3 : W8.heap.size = W8.heap.size + 1 := h2; omega) | (have h3 : W8.heap.size + 1 = W8.heap.size := h2; omega)))
      have HROW : Hid (w3.ownsRow W8.heap.size 94 2 (.slice A3 l.length c3) l.length (cells2 (l.map PieceV.enc))) := hide (by simpa using ho3)
      rw [Nat.zero_add]
      refine hK.out _ _ ⟨trivial, fun _ => HBC.out, fun _ => trivial⟩ (fun hHeld => ?_)
      clear hK K ho3 hg3
      (try simp only [Act.put, List.setIfInBounds_toArray, List.set_cons_zero, List.set_cons_succ])
      refine wpTill_one 8 rfl (by decide +kernel) (fun K hK => ?_)
      refine step_append_lies _ rfl _ _ 22 rfl W8.heap.size 94 i1 (.agg #[.bool false, .slice none 0 0]) 2 32 Tryz.underlying22 hi1 hy0 hy1 hy2 rfl (by decide) (.slice A3 l.length c3) l.length _ rfl HROW.out ⟨W8.heap.size + 1, 0, none⟩ 1 1 [.bool mi, .slice (some am) M.length mc] rfl rfl HCELL.out (by simp [Value.oneCell']) (by decide) (by unfold maxLen; omega) (by omega) HBC.out.size _ rfl ?_
      intro g4 cap4 w4 ho4 hg4 _ hlt4
      have HR := hide (HR.out.grown (own_le HROW.out HR8) hg4)
      have HBC := hide (HBC.out.grown hg4 HBC.out.size (fun j e => (HROW.out.lt j e).1))
      have HO4 := hide (own_le ho4 HR8)
      refine hK.out _ _ ⟨trivial, fun _ => HBC.out, fun _ => trivial⟩ (fun hHeld => ?_)
      clear hK K ho4 hg4
      (try simp only [Act.put, List.setIfInBounds_toArray, List.set_cons_zero, List.set_cons_succ])
      refine wpTill_take 9 rfl (by decide +kernel) (fun _ _ _ h => h) (by rfl) (v := ?_) ?_ hHeld (fun hHeld' => ?_)
      rotate_left 1
      focus (intro w' hSw; clear hSw; go_simp; first | done | with_reducible rfl)
      clear hHeld
      rename Till _ _ _ _ _ _ _ => hHeld
      (try simp only [Act.put, List.setIfInBounds_toArray, List.set_cons_zero, List.set_cons_succ])
      clear r0 r1 rf0 rf1
      obtain ⟨r0, r1, rf0, rf1⟩ := HR.out.r.two
      refine wpTill_one 10 rfl (by decide +kernel) (fun K hK => ?_)
      go_simp
      refine hK.out _ _ ⟨trivial, fun h => absurd h (by decide +kernel), fun _ => trivial⟩ (fun hHeld => ?_)
      clear hK K
      (try simp only [Act.put, List.setIfInBounds_toArray, List.set_cons_zero, List.set_cons_succ])
      refine wpTill_take 11 rfl (by decide +kernel) (fun _ _ _ h => h) (by rfl) (v := ?_) ?_ hHeld (fun hHeld' => ?_)
      rotate_left 1
      focus (intro w' hSw; clear hSw; go_simp; first | done | with_reducible rfl)
      clear hHeld
      rename Till _ _ _ _ _ _ _ => hHeld
      (try simp only [Act.put, List.setIfInBounds_toArray, List.set_cons_zero, List.set_cons_succ])
      refine wpTill_done (by decide +kernel) ?_
      clear hHeld
      go_wp2
      obtain ⟨hk1, hpq, hof, hbl⟩ := ext_fin HR.out (HP.out _ HR.out.below) hB HO4.out wh (W := _) rfl
      refine bodyPost_cell_tmp (p := 4) (u := 5) (ty := 24) rfl rfl hk1 Tryz.underlying24 rfl Tryz.sizeOld rfl ?_
      exact ⟨some ⟨g4, 0, none⟩, l.length + 1, cap4, l ++ [⟨mi, some am, M.length, mc, M⟩], by rw [← hres]; rfl, hpq, by rw [← hres, List.map_append]; rfl, hof, hbl⟩
    ·have HCELL := hide (cell_new2 (W8.drew) (.bool mi) (.slice (some am) M.length mc) 94)
     have HR := hide (HR.out.alloc (.cells #[.bool mi, .slice (some am) M.length mc] 94))
     have HBC := hide (HBC.out.alloc HBC.out.size (.cells #[.bool mi, .slice (some am) M.length mc] 94))
     go_simp
     refine hK.out _ _ ⟨trivial, fun _ => HBC.out, fun _ => trivial⟩ (fun hHeld => ?_)
     clear hK K
     (try simp only [Act.put, List.setIfInBounds_toArray, List.set_cons_zero, List.set_cons_succ])
     refine wpTill_one 2 rfl (by decide +kernel) (fun K hK => ?_)
     have HCELL : Hid (∀ j x, [Value.bool mi, .slice (some am) M.length mc][j]? = some x → ((W8.drew.alloc (.cells #[.bool mi, .slice (some am) M.length mc] 94)).alloc (.cells #[] 94)).cell? ((⟨W8.heap.size, 0, none⟩ : Addr).add j) = some x) := hide (fun j x hx => (World.cell?_alloc_lt _ _ _ (by rw [addr_block, World.size_alloc]; exact Nat.lt_succ_self W8.heap.size)).trans (HCELL.out j x hx))
     have HROW : Hid (((W8.drew.alloc (.cells #[.bool mi, .slice (some am) M.length mc] 94)).alloc (.cells #[] 94)).ownsRow W8.heap.size 94 2 (.slice (some ⟨W8.heap.size + 1, 0, none⟩) 0 0) 0 []) := hide (by have h := World.ownsRow_lit (base := W8.heap.size) (e := 94) (size := 2) (W8.drew.alloc (.cells #[.bool mi, .slice (some am) M.length mc] 94)) #[] 0 (by rw [World.size_alloc]; exact Nat.le_succ W8.heap.size) (by unfold maxLen; omega) rfl; rwa [World.size_alloc] at h)
     have HR := hide (HR.out.alloc (.cells #[] 94))
     have HBC := hide (HBC.out.alloc HBC.out.size (.cells #[] 94))
     go_simp
     refine hK.out _ _ ⟨trivial, fun _ => HBC.out, fun _ => trivial⟩ (fun hHeld => ?_)
     clear hK K
     (try simp only [Act.put, List.setIfInBounds_toArray, List.set_cons_zero, List.set_cons_succ])
     refine wpTill_one 5 rfl (by decide +kernel) (fun K hK => ?_)
     refine step_append_q rfl _ _ 22 rfl W8.heap.size 94 i1 (.agg #[.bool false, .slice none 0 0]) 2 32 Tryz.underlying22 hi1 hy0 hy1 hy2 rfl (by decide) (.slice (some ⟨W8.heap.size + 1, 0, none⟩) 0 0) 0 _ rfl HROW.out (some ad) l.length c B (cells2 (l.map PieceV.enc)) rfl (HP.out _ HR.out.below).1 (enc_one l) (by unfold maxLen; omega) (by omega) HBC.out.size ?_
     intro A3 c3 w3 ho3 hg3
     have HR := hide (HR.out.grown (own_le HROW.out HR8) hg3)
     have HBC := hide (HBC.out.grown hg3 HBC.out.size (fun j e => (HROW.out.lt j e).1))
     have HCELL := hide (cell_kept2 HCELL.out hg3 (by simp only [World.size_alloc]; first | exact Nat.lt_succ_self W8.heap.size | exact Nat.lt_succ_self (W8.heap.size + 1) | (show W8.heap.size < W8.heap.size + 1 + 1; omega)) (by simp only [Value.ownBlock, World.size_alloc]; intro h; have h2 := Option.some.inj h; first | (have h3 : W8.heap.size = W8.heap.size + 1 := h2; omega) | (have h3 : W8.heap.size + 1 = W8.heap.size := h2; omega)))
     have HROW : Hid (w3.ownsRow W8.heap.size 94 2 (.slice A3 l.length c3) l.length (cells2 (l.map PieceV.enc))) := hide (by simpa using ho3)
     rw [Nat.zero_add]
     refine hK.out _ _ ⟨trivial, fun _ => HBC.out, fun _ => trivial⟩ (fun hHeld => ?_)
     clear hK K ho3 hg3
     (try simp only [Act.put, List.setIfInBounds_toArray, List.set_cons_zero, List.set_cons_succ])
     refine wpTill_one 8 rfl (by decide +kernel) (fun K hK => ?_)
     refine step_append_lies _ rfl _ _ 22 rfl W8.heap.size 94 i1 (.agg #[.bool false, .slice none 0 0]) 2 32 Tryz.underlying22 hi1 hy0 hy1 hy2 rfl (by decide) (.slice A3 l.length c3) l.length _ rfl HROW.out ⟨W8.heap.size, 0, none⟩ 1 1 [.bool mi, .slice (some am) M.length mc] rfl rfl HCELL.out (by simp [Value.oneCell']) (by decide) (by unfold maxLen; omega) (by omega) HBC.out.size _ rfl ?_
     intro g4 cap4 w4 ho4 hg4 _ hlt4
     have HR := hide (HR.out.grown (own_le HROW.out HR8) hg4)
     have HBC := hide (HBC.out.grown hg4 HBC.out.size (fun j e => (HROW.out.lt j e).1))
     have HO4 := hide (own_le ho4 HR8)
     refine hK.out _ _ ⟨trivial, fun _ => HBC.out, fun _ => trivial⟩ (fun hHeld => ?_)
     clear hK K ho4 hg4
     (try simp only [Act.put, List.setIfInBounds_toArray, List.set_cons_zero, List.set_cons_succ])
     refine wpTill_take 9 rfl (by decide +kernel) (fun _ _ _ h => h) (by rfl) (v := ?_) ?_ hHeld (fun hHeld' => ?_)
     rotate_left 1
     focus (intro w' hSw; clear hSw; go_simp; first | done | with_reducible rfl)
     clear hHeld
     rename Till _ _ _ _ _ _ _ => hHeld
     (try simp only [Act.put, List.setIfInBounds_toArray, List.set_cons_zero, List.set_cons_succ])
     clear r0 r1 rf0 rf1
     obtain ⟨r0, r1, rf0, rf1⟩ := HR.out.r.two
     refine wpTill_one 10 rfl (by decide +kernel) (fun K hK => ?_)
     go_simp
     refine hK.out _ _ ⟨trivial, fun h => absurd h (by decide +kernel), fun _ => trivial⟩ (fun hHeld => ?_)
     clear hK K
     (try simp only [Act.put, List.setIfInBounds_toArray, List.set_cons_zero, List.set_cons_succ])
     refine wpTill_take 11 rfl (by decide +kernel) (fun _ _ _ h => h) (by rfl) (v := ?_) ?_ hHeld (fun hHeld' => ?_)
     rotate_left 1
     focus (intro w' hSw; clear hSw; go_simp; first | done | with_reducible rfl)
     clear hHeld
     rename Till _ _ _ _ _ _ _ => hHeld
     (try simp only [Act.put, List.setIfInBounds_toArray, List.set_cons_zero, List.set_cons_succ])
     refine wpTill_done (by decide +kernel) ?_
     clear hHeld
     go_wp2
     obtain ⟨hk1, hpq, hof, hbl⟩ := ext_fin HR.out (HP.out _ HR.out.below) hB HO4.out wh (W := _) rfl
     refine bodyPost_cell_tmp (p := 4) (u := 5) (ty := 24) rfl rfl hk1 Tryz.underlying24 rfl Tryz.sizeOld rfl ?_
     exact ⟨some ⟨g4, 0, none⟩, l.length + 1, cap4, l ++ [⟨mi, some am, M.length, mc, M⟩], by rw [← hres]; rfl, hpq, by rw [← hres, List.map_append]; rfl, hof, hbl⟩
end Go.Proofs.YtaacnbnmlfhnaaaGreatDoor
namespace Go.Proofs.YtaacnbnmlfhnaaaGreatDoor
open Go.RowKit
theorem oldOK_snoc {wh : Int} {l : List (Bool × List Int)} {p : Bool × List Int} (h : oldOK wh l = true) (h8 : l.length < 8) (hp : pieceOK p = true) : oldOK wh (l ++ [p]) = true := by
 obtain ⟨h1, h2, h3⟩ := oldOK_split h
 simp only [oldOK, inB, Bool.and_eq_true, decide_eq_true_eq, List.all_eq_true, List.length_append, List.length_singleton]
 refine ⟨⟨h1, by omega⟩, fun q hq => ?_⟩
 rcases List.mem_append.1 hq with hq | hq
 ·exact h3 q hq
 ·rw [List.mem_singleton.1 hq]; exact hp
theorem lastI_snoc (l : List Int) (x : Int) : lastI (l ++ [x]) = x := by
 unfold lastI
 rw [List.getLast?_append]
 rfl
theorem marksS_ok {l : List (Bool × List Int)} {d : Int} (mi : Bool) (hl : ∀ p ∈ l, pieceOK p = true) (hd : 2 ≤ d) (h6 : ¬ 6 < (marksS l d).length) (h7 : ¬ 1000 < lastI (marksS l d)) : pieceOK (mi, marksS l d) = true := by
 have one : ¬ 1000 < d → pieceOK (mi, [d]) = true := fun h => by
  simp only [pieceOK, markOK, inB, Bool.and_eq_true, decide_eq_true_eq, List.all_eq_true, List.length_singleton]
  exact ⟨⟨by omega, by omega⟩, fun x hx => by rw [List.mem_singleton.1 hx]; exact ⟨hd, by omega⟩⟩
 have key : ∀ ms, marksS l d = ms → ¬ 6 < ms.length → ¬ 1000 < lastI ms → pieceOK (mi, ms) = true := by
  intro ms hms k6 k7
  unfold marksS at hms
  split at hms
  ·subst hms
   exact one k7
  ·rename_i p hp
   have hpm : p ∈ l := List.mem_of_getLast? hp
   split at hms
   ·rename_i hc
    subst hms
    have h5 := hl p hpm
    simp only [pieceOK, Bool.and_eq_true, inB, decide_eq_true_eq, List.all_eq_true] at h5
    rw [List.length_append, List.length_singleton] at k6
    simp only [pieceOK, Bool.and_eq_true, List.all_eq_true]
    refine ⟨?_, fun x hx => ?_⟩
    ·simp only [inB, Bool.and_eq_true, decide_eq_true_eq, List.length_append, List.length_singleton]
     exact ⟨by omega, by omega⟩
    ·rcases List.mem_append.1 hx with hx | hx
     ·exact h5.2 x hx
     ·rw [List.mem_singleton.1 hx]; exact hc.2
   ·subst hms
    exact one k7
 exact key _ rfl h6 h7
theorem quot_two {of_ nb : Int} (h0 : 0 < of_) (h1 : 1 ≤ nb) (hm : of_.tmod nb = 0) (hne : of_ ≠ nb) : 2 ≤ of_.tdiv nb := by
 have hT : of_.tmod nb = of_ % nb := Int.tmod_eq_emod_of_nonneg (by omega)
 have hQ : of_.tdiv nb = of_ / nb := Int.tdiv_eq_ediv_of_nonneg (by omega)
 rw [hT] at hm
 rw [hQ]
 have hqe := Int.mul_ediv_add_emod of_ nb
 rw [hm, Int.add_zero] at hqe
 have hq0 : 0 ≤ of_ / nb := Int.ediv_nonneg (by omega) (by omega)
 rcases Int.lt_or_le (of_ / nb) 2 with h | h
 ·have h5 : of_ / nb = 0 ∨ of_ / nb = 1 := by omega
  rcases h5 with h5 | h5
  ·rw [h5, Int.mul_zero] at hqe; omega
  ·rw [h5, Int.mul_one] at hqe; omega
 ·exact h
theorem extendS_next {wh n : Int} {l : List (Bool × List Int)} (h : (extendS wh l n).2.2 = 0) : oldOK wh (extendS wh l n).2.1 = true := by
 have key : ∀ r, extendS wh l n = r → r.2.2 = 0 → oldOK wh r.2.1 = true := by
  intro r hr h0
  unfold extendS at hr
  split at hr
  ·subst hr; simp at h0
  ·rename_i hok0
   have hok : oldOK wh l = true := by
    cases h : oldOK wh l
    ·exact absurd h hok0
    ·rfl
   split at hr
   ·subst hr; simp at h0
   ·split at hr
    ·rename_i h2
     subst hr; exact absurd h0 h2
    ·rename_i hv0
     split at hr
     ·subst hr; simp at h0
     ·rename_i hp0
      obtain ⟨vd, vt, vc, hv⟩ : ∃ vd vt vc, valueS wh l = (vd, vt, vc) := ⟨_, _, _, rfl⟩
      rw [hv] at hr hv0 hp0
      dsimp only at hr hv0 hp0
      have hv1 : vc = 0 := Classical.not_not.1 hv0
      subst hv1
      obtain ⟨⟨hd1, hd2, hcb⟩, hnz⟩ := valueS_B hv
      rcases valueS_rat hv with rfl | ⟨c0, hc0, rfl⟩
      ·exact absurd (by simp [partsS]) hp0
      ·simp only [partsS, if_true] at hp0
       simp only [byS, ofS, partsS, if_true] at hr
       have e5 : 0 < 2 * c0 * vd := Int.mul_pos (by omega) (by omega)
       generalize 2 * c0 * vd = of_ at *
       generalize n * vd * vd - c0 * c0 = by_ at *
       unfold extend1 at hr
       split at hr
       ·subst hr; simp at h0
       ·rename_i hb0
        split at hr
        ·subst hr; simp at h0
        ·rename_i h7
         split at hr
         ·subst hr; simp at h0
         ·rename_i h8
          unfold extend2 at hr
          split at hr
          ·subst hr; simp at h0
          ·rename_i h9
           subst hr
           refine oldOK_snoc hok (by omega) (marksS_ok _ (oldOK_split hok).2.2 (quot_two e5 (by omega) ?_ ?_) (fun h => h9 (.inl h)) (fun h => h9 (.inr h)))
           ·exact Classical.byContradiction fun h => h7 (.inl h)
           ·exact fun h => h7 (.inr h)
 exact key _ rfl h
def ChainPost (w : World) (wh : Int) (F : List (Bool × List Int)) (e : Ending) (w' : World) : Prop :=
 ∃ (A : Option Addr) (c : Nat) (l : List PieceV), e = .returned (.agg #[.int .i64 wh, .slice A l.length c]) ∧ PiecesQ w' w'.heap.size A l.length c l ∧ l.map PieceV.flat = F ∧ Below w.heap.size w w'
set_option maxHeartbeats 8000000 in
set_option maxRecDepth 100000 in
theorem refChain_any (wh : Int) (A : Option Addr) (n c B : Nat) (l : List PieceV) (m : Int) (M : Nat) (w : World) (hp : PiecesQ w B A n c l) (hB : B ≤ w.heap.size) (hok : oldOK wh (l.map PieceV.flat) = true) (hM : M ≤ 8) :
  Calls Tryz.prog 32 #[.agg #[.int .i64 wh, .slice A n c], .int .i64 m, .int .i64 (M : Int)] w (ChainPost w wh (chainF m M wh (l.map PieceV.flat))) := by
 have hl := hp.len
 subst hl
 obtain ⟨w0, hw0⟩ : ∃ w0, w0 = (w.alloc (.cells #[.int .i64 wh, .slice A l.length c] 24)).alloc (.cells #[.int .i64 0, .slice none 0 0] 24) := ⟨_, rfl⟩
 have hz0 : w0.heap.size = w.heap.size + 2 := by rw [hw0]; simp
 have h01 : Below w.heap.size w w0 := by rw [hw0]; exact ((Below.refl _ _).alloc (Nat.le_refl _) _).alloc (by simp) _
 have HX0 : Hid (Blk w0 w.heap.size 24 #[.int .i64 wh, .slice A l.length c]) := hide (by rw [hw0]; exact (Blk.new w _ _).alloc _)
 have HR0 : Hid (Blk w0 (w.heap.size + 1) 24 #[.int .i64 0, .slice none 0 0]) := hide (by
  rw [hw0]
  have h := Blk.new (w.alloc (.cells #[.int .i64 wh, .slice A l.length c] 24)) 24 #[.int .i64 0, .slice none 0 0]
  rwa [World.size_alloc] at h)
 have HP0 := hide ((hp.below (h01.mono hB)).more (show B ≤ w0.heap.size by omega))
 have HOF := hide (fun g (h : B ≤ g) => hp.off_of h)
 have HB0 := hide h01
 have HOK0 := hide hok
 obtain ⟨F, hF⟩ : ∃ F, chainF m M wh (l.map PieceV.flat) = F := ⟨_, rfl⟩
 rw [hF]
 have HF := hide hF
 have hpost : ∀ (W : World) (a : Act) (A' : Option Addr) (c' : Nat) (l' : List PieceV), l'.map PieceV.flat = F → PiecesQ W W.heap.size A' l'.length c' l' → Below w.heap.size w W → Blk W (w.heap.size + 1) 24 #[.int .i64 wh, .slice A' l'.length c'] →
   a.tmps.getD 6 undef = .pointer (some ⟨w.heap.size + 1, 0, none⟩) → a.defers = [] → bodyPost Tryz.prog Tryz.f32 (ChainPost w wh F) .ret a W := by
  intro W a A' c' l' e1 e2 e3 e4 e5 e6
  exact bodyPost_cell (p := 6) (ty := 24) rfl e5 e4 (d := _) rfl Tryz.underlying24 Tryz.sizeOld e6 ⟨A', c', l', rfl, e2, e1, e3⟩
 have HPOST := hide hpost
 clear hp h01 hok hpost hF
 go_enter Tryz.func32, Tryz.ntmps32
 go_wp2_with fail
 rw [← hw0]
 clear hw0
 go_loopw [7] (fun i W => ∃ (k : Nat) (A' : Option Addr) (c' : Nat) (l' : List PieceV), k ≤ M ∧ i = .int .i64 k ∧ chainF m (M - k) wh (l'.map PieceV.flat) = F ∧ oldOK wh (l'.map PieceV.flat) = true ∧
  Blk W w.heap.size 24 #[.int .i64 wh, .slice A' l'.length c'] ∧ Blk W (w.heap.size + 1) 24 #[.int .i64 0, .slice none 0 0] ∧ PiecesQ W W.heap.size A' l'.length c' l' ∧
  (∀ g, g < w.heap.size + 2 → OffQ g A l → OffQ g A' l') ∧ Below w.heap.size w W) (fun i _ => M - (intOf i).toNat)
 case atStart => exact ⟨0, A, c, l, by omega, rfl, HF.out, HOK0.out, HX0.out, HR0.out, HP0.out, fun g _ h => h, HB0.out⟩
 case round =>
  obtain ⟨k, A', c', l', hk, rfl, hch, hokl, hx, hr, hp', hoff, hbl⟩ := hrel
  have HCH := hide hch; have HX := hide hx; have HR := hide hr; have HP := hide hp'; have HOFF := hide hoff; have HBL := hide hbl
  have hzr := hbl.size
  have hlt := hr.lt
  have HEX := hide (refExtend_any wh A' l'.length c' wr.heap.size l' m wr hp' (Nat.le_refl _) hokl)
  clear hch hx hr hp' hoff hbl hokl HX0 HR0 HP0 HB0 HF HOK0
  obtain ⟨x0, x1, xf0, xf1⟩ := HX.out.two
  obtain ⟨r0, r1, rf0, rf1⟩ := HR.out.two
  by_cases hkM : (k : Int) < M
  ·obtain ⟨j, hj⟩ : ∃ j, M - k = j + 1 := ⟨M - k - 1, by omega⟩
   have hch := HCH.out
   rw [hj, chainF] at hch
   have hwh := @extendS_wh wh m (l'.map PieceV.flat)
   have hnx := @extendS_next wh m (l'.map PieceV.flat)
   generalize extendS wh (l'.map PieceV.flat) m = ex at *
   obtain ⟨ex1, ex2, ex3⟩ := ex
   dsimp only at hch hwh hnx
   by_cases h0 : ex3 = 0
   ·subst h0
    rw [if_pos rfl] at hch
    have hex := hwh rfl
    have HNX := hide (hnx rfl)
    subst hex
    have HCH2 := hide hch
    clear hch hwh hnx HCH
    go_wp2_with (first
     | (go_at_call 31; refine HEX.out.mono ?_; rintro e w3 ⟨A3, n3, c3, l3, rfl, hp3, hl3, hoff3, hb3⟩
        have hz3 := hb3.size
        have hln3 := hp3.len
        subst hln3
        have HXa := hide ((HX.out.below hb3 (by omega)).alloc (.cells #[.int .i64 ex1, .slice A3 l3.length c3] 24))
        have HRa := hide ((HR.out.below hb3 (by omega)).alloc (.cells #[.int .i64 ex1, .slice A3 l3.length c3] 24))
        have HNa := hide (Blk.new w3 24 #[.int .i64 ex1, .slice A3 l3.length c3])
        have HPa := hide (hp3.alloc (Nat.le_refl _) (.cells #[.int .i64 ex1, .slice A3 l3.length c3] 24))
        have HBa := hide ((HBL.out.trans (hb3.mono (by omega))).alloc (by omega) (.cells #[.int .i64 ex1, .slice A3 l3.length c3] 24))
        have HOF3 := hide hoff3
        have HL3 := hide hl3
        obtain ⟨y0, y1, yf0, yf1⟩ := HXa.out.two
        obtain ⟨n0, n1, nf0, nf1⟩ := HNa.out.two
        clear hp3 hl3 hoff3 hb3))
    go_roundw
    case rel =>
     have hch2 := HCH2.out
     rw [← HL3.out] at hch2
     have hok3 := HNX.out
     rw [← HL3.out] at hok3
     have hoffX : OffQ w.heap.size A3 l3 := HOF3.out _ (by omega) (HOFF.out _ (by omega) (HOF.out _ hB))
     refine ⟨k + 1, A3, c3, l3, by omega, by go_num, by rw [show M - (k + 1) = j by omega]; exact hch2, hok3, (HXa.out.set_ 0 _).set_ 1 _, (HRa.out.far (by simp) _).far (by simp) _, ?_, fun g hg h => HOF3.out g (by omega) (HOFF.out g hg h),
      Below.setCell (Below.setCell HBa.out (p := ⟨w.heap.size, 0, none⟩) (by simp) _) (p := ⟨w.heap.size, 1, none⟩) (by simp) _⟩
     exact ((HPa.out.off_set hoffX _).off_set hoffX _).more (by simp)
    case measure => simp [intOf]; omega
   ·rw [if_neg h0] at hch
    have hn3 : (ex3 != 0) = true := by simpa using h0
    have HV2 := hide hch
    clear hch hwh hnx HCH h0
    go_wp2_with (first
     | (go_at_call 31; refine HEX.out.mono ?_; rintro e w3 ⟨A3, n3, c3, l3, rfl, _, _, _, hb3⟩
        have hz3 := hb3.size
        have HXa := hide ((HX.out.below hb3 (by omega)).alloc (.cells #[.int .i64 ex1, .slice A3 n3 c3] 24))
        have HRa := hide ((HR.out.below hb3 (by omega)).alloc (.cells #[.int .i64 ex1, .slice A3 n3 c3] 24))
        have HPa := hide ((HP.out.below hb3).alloc hz3 (.cells #[.int .i64 ex1, .slice A3 n3 c3] 24))
        have HBa := hide ((HBL.out.trans (hb3.mono (by omega))).alloc (by omega) (.cells #[.int .i64 ex1, .slice A3 n3 c3] 24))
        obtain ⟨y0, y1, yf0, yf1⟩ := HXa.out.two
        obtain ⟨n0, n1, nf0, nf1⟩ := HRa.out.two
        clear hb3))
    have hoffX : OffQ (w.heap.size + 1) A' l' := HOFF.out _ (by omega) (HOF.out _ (by omega))
    exact HPOST.out _ _ A' c' l' HV2.out (((HPa.out.off_set hoffX _).off_set hoffX _).more (by simp; omega))
     (Below.setCell (Below.setCell HBa.out (p := ⟨w.heap.size + 1, 0, none⟩) (by simp) _) (p := ⟨w.heap.size + 1, 1, none⟩) (by simp) _) ((HRa.out.set_ 0 _).set_ 1 _) rfl rfl
  ·have hch := HCH.out
   rw [show M - k = 0 by omega, chainF] at hch
   have HV2 := hide hch
   clear hch HCH HEX
   go_wp2
   have hoffX : OffQ (w.heap.size + 1) A' l' := HOFF.out _ (by omega) (HOF.out _ (by omega))
   exact HPOST.out _ _ A' c' l' HV2.out (((HP.out.off_set hoffX _).off_set hoffX _).more (by simp))
    (Below.setCell (Below.setCell HBL.out (p := ⟨w.heap.size + 1, 0, none⟩) (by simp) _) (p := ⟨w.heap.size + 1, 1, none⟩) (by simp) _) ((HR.out.set_ 0 _).set_ 1 _) rfl rfl
end Go.Proofs.YtaacnbnmlfhnaaaGreatDoor
