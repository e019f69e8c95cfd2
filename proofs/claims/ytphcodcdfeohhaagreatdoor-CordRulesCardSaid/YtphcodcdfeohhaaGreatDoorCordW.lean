import Derived.Test.YtphcodcdfeohhaaGreatDoorCordXToCordV
set_option linter.all false
namespace Go.Proofs.YtphcodcdfeohhaaGreatDoor
set_option maxRecDepth 100000
set_option maxHeartbeats 8000000
open Go.RowKit
attribute [local go_sem] Oper.semAt_some
def zv3(w:World)(res:Int×List (Bool×List Int)×Int)(e:Ending)(w':World):Prop:=
 ∃(A:Option Addr) (n c:Nat) (l:List PieceV),e=.returned (.tuple #[.agg #[.int .i64 res.1,.slice A n c],.int .i64 res.2.2])/\jD w' w'.heap.size A n c l/\l.map PieceV.flat=res.2.1 /\
  (∀g,g<w.heap.size->jQ g A l)/\Below w.heap.size w w'
theorem Qq {fn:Func} {p u:Tmp} (h:fn.results=#[.cell p 43,.tmp u]) {tmps:Array Value} {w:World} {g:Nat} {x y v:Value}
  (hp:tmps.getD p undef=.pointer (some ⟨g,0,none⟩)) (hv:tmps.getD u undef=v) (hg:jh w g 43 #[x,y]):(results fn tmps).run Tryz.prog w=.ok (.tuple #[.agg #[x,y],v]) w:=by
 rw[results_cell_tmp h,hp,hv]
 simp[asAddr,Result.andThen,run_loadVar_row w g 43 43 #[x,y] (0,0) _ hg Tryz.underlying43 rfl Tryz.sizeOld]
theorem PState.again {w W:World} {base:Nat} {wh:Int} {A:Option Addr} {c:Nat} {l:List PieceV} (h:PState w base W wh A c l) (hb:w.heap.size<base) :
  PState w base ((W.setCell ⟨w.heap.size,0,none⟩ (.int .i64 wh)).setCell ⟨w.heap.size,1,none⟩ (.slice A l.length c)) wh A c l:=
 ⟨(h.blk.set_ 0 _).set_ 1 _,ownsRow_setCell_below (ownsRow_setCell_below h.row hb _) hb _,λp hp=>ownsRow_setCell_below (ownsRow_setCell_below (h.marks p hp) hb _) hb _,h.apart,
  (h.below.setCell (p:=⟨w.heap.size,0,none⟩) (by simp) _).setCell (p:=⟨w.heap.size,1,none⟩) (by simp) _⟩
theorem PState.pieces{w W:World}{base:Nat}{wh:Int}{A:Option Addr}{c:Nat}{l:List PieceV}(h:PState w base W wh A c l):jD W W.heap.size A l.length c l:=
 ⟨Rd.of_own h.row,λp hp=>Rd.of_own (h.marks p hp)⟩
theorem PState.post {w W:World} {base:Nat} {wh y:Int} {A:Option Addr} {c:Nat} {l:List PieceV} (h:PState w base W wh A c l) (hb:w.heap.size<base) :
  zv3 w (wh,l.map PieceV.flat,y) (.returned (.tuple #[.agg #[.int .i64 wh,.slice A l.length c],.int .i64 y])) W:=
 ⟨A,l.length,c,l,rfl,h.pieces,rfl,λg hg=>⟨zg4 h.row (by omega),λp hp=>zg4 (h.marks p hp) (by omega)⟩,h.below⟩
theorem jj0{w W W':World}{base:Nat}{R:Nat->Prop}(hs:W.heap.size<=W'.heap.size)(h:∀b,b<base->b≠w.heap.size->W'.heap[b]?=W.heap[b]?)(hR:∀b,R b->b<base/\b≠w.heap.size):KeepB R W W':=
 ⟨hs,λb hb=>h b (hR b hb).1 (hR b hb).2⟩
theorem jf9 {w W w1 w3:World} {base x i size n:Nat} {e:TypeId} {v u:Value} {xs:List Value} (h1:W.grownBy w1 none) (hb:base<=W.heap.size) (hown:W.ownsRow base e size v n xs) (hg:w1.grownBy w3 v.ownBlock) (hx:x=w.heap.size\/base<=x) :
  W.heap.size<=(w3.setCell ⟨x,i,none⟩ u).heap.size/\∀b,b<base->b≠w.heap.size->(w3.setCell ⟨x,i,none⟩ u).heap[b]?=W.heap[b]?:=by
 refine⟨?_,λb hlt hne=>?_⟩
 ·have:=h1.size;have:=hg.size;simp;omega
 ·have h2:=h1.size
  rw[Below.heap_setCell w3 ⟨x,i,none⟩ u b (by show b≠x;omega),hg.block b (by omega) (λe=>by have:=(hown.lt b e.symm).1;omega),h1.block b (by omega) (by simp)]
theorem jbr0 (s : ByteArray) (w : World) (hE : Jm w) (htab : Lib.TabIs Tryz.prog w "internal/strconv.uint64pow10" .u64 Lib.pow10Tab) :
  Calls Tryz.prog 30 #[.string s] w (zv3 w (ja8 s)):=by
 have HX0:=ja (jh.new w 43 #[.int .i64 0,.slice none 0 0])
 have HB0:=ja ((Below.refl w.heap.size w).alloc (Nat.le_refl _) (.cells #[.int .i64 0,.slice none 0 0] 43))
 obtain⟨w0,hw0⟩:∃w0,w0=w.alloc (.cells #[.int .i64 0,.slice none 0 0] 43):=⟨_,rfl⟩
 have hz0:w0.heap.size=w.heap.size+1:=by rw[hw0];simp
 rw[<-hw0] at HX0 HB0
 have HX0:=ja HX0.o
 have HE0:=ja (hE.below HB0.o (Nat.le_refl _))
 have HEL:=ja (λb (hb:jv9 b)=>hE.lt hb)
 have HTOK:=ja (λn W=>(callsIn_wide (n:=n)).2 (jbd8 s W))
 refine(callsIn_wide (n:=0)).1 ?_
 refine callsIn_of_wp_marks Tryz.func30 rfl trivial ?_ rfl
 simp only[Tryz.ntmps30,List.size_toArray,List.length_cons,List.length_nil,Nat.reduceAdd,Nat.reduceSub,Array.replicate_succ,Array.replicate_zero,List.push_toArray,List.append_toArray,List.nil_append,List.cons_append]
 obtain⟨x0,x1,xf0,xf1⟩:=HX0.o.two
 by_cases hsz:300<(s.size:Int)
 ·have HV:Hid (ja8 s=(0,[],5)):=ja (by unfold ja8;rw[if_pos (by omega)])
  gi_upto_region 1 with fail
  rw[<-hw0]
  clear hw0
  gi_wp2
  rw[HV.o]
  have hB:=Below.setCell (Below.setCell HB0.o (p:=⟨w.heap.size,0,none⟩) (by simp) (.int .i64 0)) (p:=⟨w.heap.size,1,none⟩) (by simp) (.slice none 0 0)
  refine⟨_,Qq rfl rfl rfl ((HX0.o.set_ 0 _).set_ 1 _),none,0,0,[],rfl,jD.nil _ _,rfl,λg _=>jQ.nil g,hB⟩
 ·have hsz2:s.size<=300:=by omega
  have hG:=zt4 (w.heap.size+1) s (w0.alloc (.cells #[.string s] 9)) (by
   have:=(ZG.new w0 9 (.string s)).cell
   rw[hz0] at this
   exact this) (by omega) (HE0.o.below ((Below.refl _ _).alloc (Nat.le_refl _) _) (Nat.le_refl _))
  have HG:=ja hG
  clear hG
  have hlen:=jcg1 s
  gi_upto_region 1 with fail
  rw[<-hw0]
  clear hw0
  gi_wp2_with fail
  refine⟨trivial,rfl,CallsIn.mono (HTOK.o _ _) ?_⟩
  rintro e w1 ⟨rfl,hw1⟩
  subst w1
  rw[hz0]
  have hbR:Below w.heap.size w (w0.alloc (.cells #[.string s] 9)):=HB0.o.alloc (by omega) _
  obtain⟨i0,hi0,hz00,hz01,hz02⟩:=info_parts Tryz.infoInt
  obtain⟨i1,hi1,hy0,hy1,hy2⟩:=info_parts Tryz.infoPiece
  gi_wp2_with fail
  refine QV (gf:=118) (lb:=#[.pointer (some ⟨w.heap.size+1,0,none⟩)]) rfl zs3 HG.o (Below.refl _ _) ?_ (λ_=>rfl) (λpre W=>jab7 w (w.heap.size+5) pre W) (λ_ _ _=>False) ?_ ?_ ?_ ?_ ?_ ?_
  ·rintro b (rfl|h)
   ·simp;omega
   ·have:=HEL.o b h;simp;omega
  ·rintro pre W W' row h hg hr
   simp only[World.size_alloc,hz0] at hr
   exact h.grown hg (λb e=>by have:=hr b e;omega)
  ·rintro _ _ _ _ _ h;exact h.elim
  ·refine⟨0,none,0,[],rfl,⟨HX0.o.alloc _,⟨rfl,.inl ⟨rfl,rfl⟩⟩,λp hp=>by simp at hp,List.Pairwise.nil,hbR⟩,by simp,λp hp=>by simp at hp⟩
  ·rintro pre ⟨g,v⟩ W ⟨rest,hsp⟩ ⟨wh,A,c,l,hpf,hst,hll,hpn⟩ hsz
   simp only[World.size_alloc,hz0] at hsz ⊢
   have hpl:pre.length<=400:=by
    have h:=congrArg List.length hsp
    simp only[List.length_append] at h
    omega
   have HST:=ja hst
   have HPF:=ja hpf
   have hst0:=hst.below.size
   clear hst hpf hsp
   simp only[encK]
   gi_wp2
   refine⟨KeepB.refl _ _,?_⟩
   intro W2 hg2 hzz
   have HS2:=ja (HST.o.grown hg2 (λb e=>by cases e;omega))
   have hz2:w.heap.size+5<=W2.heap.size:=by omega
   have hRR:∀b,((b=w.heap.size+1\/jv9 b)\/(w.heap.size+1+1<=b/\b<w.heap.size+1+1+2+1))->b<w.heap.size+5/\b≠w.heap.size:=by
    rintro b ((rfl|h)|h)
    ·omega
    ·have:=HEL.o b h;omega
    ·omega
   have HRR:=ja hRR
   clear HST hg2 hzz hsz hst0 hRR
   obtain⟨z0,z1,zf0,zf1⟩:=HS2.o.blk.two
   have hpar:=jbp9 pre (g,v)
   rw[HPF.o] at hpar
   have HPAR:=ja hpar
   clear hpar
   have hl64:(l.length:Int)<=400:=by omega
   by_cases h0:g=0
   ·subst h0
    gi_wp2
    refine⟨jj0 (by simp) (λb hb hne=>Below.heap_setCell W2 _ _ b hne) HRR.o,v,_,_,_,HPAR.o.trans ?_,HS2.o.whole (by omega) v,by simp;omega,λp hp=>by have:=hpn p hp;simp;omega⟩
    unfold ja7;simp
   ·have hn0:(g==0)=false:=by simpa using h0
    by_cases h43:g=43
    ·subst h43
     gi_wp2_with (first
      | (gi_at_builtin;refine wpListIn_append_own _ rfl _ _ 41 rfl (w.heap.size+5) 94 i1 (.agg #[.bool false,.slice none 0 0]) 2 32 Tryz.underlying41 hi1 hy0 hy1 hy2 rfl (by decide) (.slice A l.length c) l.length _ rfl (HS2.o.row.alloc _) ⟨W2.heap.size,0,none⟩ 1 1 [.bool false,.slice none 0 0] rfl rfl (zx _ _ _ _) (by simp[Value.oneCell']) (by unfold maxLen;omega) (by omega) (by simp;omega) ?_;intro v' w3 hown' hgrow _;obtain⟨gg,cap,rfl,hgb,hgl⟩:=World.ownsRow.form hown' (by omega);have HP3:=ja (HS2.o.piece (by omega) hown' hgrow);have HK3:=ja (jf9 (w:=w) (x:=w.heap.size) (i:=1) (u:=.slice (some ⟨gg,0,none⟩) (l.length+1) cap) (World.grownBy_alloc W2 (.cells #[.bool false,.slice none 0 0] 94) none) (by omega) HS2.o.row hgrow (.inl rfl));have hx3:=(HS2.o.blk.alloc (.cells #[.bool false,.slice none 0 0] 94)).grown hgrow (λe=>by have:=(HS2.o.row.lt _ e).1;omega);obtain⟨y0,y1,yf0,yf1⟩:=hx3.two;clear hown' hgrow hx3))
     refine⟨jj0 HK3.o.1 HK3.o.2 HRR.o,wh,_,_,_,HPAR.o.trans ?_,HP3.o,by simp;omega,λp hp=>?_⟩
     ·unfold ja7;simp[PieceV.flat]
     ·rcases List.mem_append.1 hp with h|h
      ·have:=hpn p h;simp;omega
      ·rw[List.mem_singleton] at h;subst h;simp
    ·have hn43:(g==43)=false:=by simpa using h43
     by_cases h45:g=45
     ·subst h45
      gi_wp2_with (first
      | (gi_at_builtin;refine wpListIn_append_own _ rfl _ _ 41 rfl (w.heap.size+5) 94 i1 (.agg #[.bool false,.slice none 0 0]) 2 32 Tryz.underlying41 hi1 hy0 hy1 hy2 rfl (by decide) (.slice A l.length c) l.length _ rfl (HS2.o.row.alloc _) ⟨W2.heap.size,0,none⟩ 1 1 [.bool true,.slice none 0 0] rfl rfl (zx _ _ _ _) (by simp[Value.oneCell']) (by unfold maxLen;omega) (by omega) (by simp;omega) ?_;intro v' w3 hown' hgrow _;obtain⟨gg,cap,rfl,hgb,hgl⟩:=World.ownsRow.form hown' (by omega);have HP3:=ja (HS2.o.piece (by omega) hown' hgrow);have HK3:=ja (jf9 (w:=w) (x:=w.heap.size) (i:=1) (u:=.slice (some ⟨gg,0,none⟩) (l.length+1) cap) (World.grownBy_alloc W2 (.cells #[.bool true,.slice none 0 0] 94) none) (by omega) HS2.o.row hgrow (.inl rfl));have hx3:=(HS2.o.blk.alloc (.cells #[.bool true,.slice none 0 0] 94)).grown hgrow (λe=>by have:=(HS2.o.row.lt _ e).1;omega);obtain⟨y0,y1,yf0,yf1⟩:=hx3.two;clear hown' hgrow hx3))
      refine⟨jj0 HK3.o.1 HK3.o.2 HRR.o,wh,_,_,_,HPAR.o.trans ?_,HP3.o,by simp;omega,λp hp=>?_⟩
      ·unfold ja7;simp[PieceV.flat]
      ·rcases List.mem_append.1 hp with h|h
       ·have:=hpn p h;simp;omega
       ·rw[List.mem_singleton] at h;subst h;simp
     ·have hn45:(g==45)=false:=by simpa using h45
      by_cases hl0:l=[]
      ·subst hl0
       gi_wp2
       refine⟨KeepB.refl _ _,wh,A,c,[],HPAR.o.trans ?_,HS2.o,by simp,λp hp=>by simp at hp⟩
       unfold ja7;simp[h0,h43,h45,jah8]
      ·obtain⟨l',p,rfl⟩:∃l' p,l=l'++[p]:=⟨l.dropLast,l.getLast hl0,(List.dropLast_concat_getLast hl0).symm⟩
       obtain⟨ga,ca,hAe,hgb,hgl⟩:=World.ownsRow.form HS2.o.row (by simp)
       simp only[Value.slice.injEq,true_and] at hAe
       obtain⟨rfl,rfl⟩:=hAe
       have hpn':=hpn p (by simp)
       have hlen2:(l'++[p]).length=l'.length+1:=by simp
       have hrow:=HS2.o.row
       rw[hlen2] at hrow hll hl64 z1
       have hcx:=hrow.cellAt (l'.length*2+1) (by omega)
       have hfx:=hrow.frozenAt (l'.length*2+1)
       have hcl:(jB (l'.map PieceV.enc)).length=l'.length*2:=by
        have h3:=hrow.1
        rw[Jt] at h3
        simp only[List.length_append,List.length_cons,List.length_nil] at h3
        omega
       rw[Jt,List.getElem?_append_right (by omega),hcl,show l'.length*2+1-l'.length*2=1 by omega] at hcx
       simp only[List.getElem?_cons_succ,List.getElem?_cons_zero] at hcx
       have hmk:=HS2.o.marks p (by simp)
       obtain⟨mv,hmv⟩:∃mv,Value.slice p.A p.n p.c=mv:=⟨_,rfl⟩
       rw[hmv] at hcx hmk
       have hga:mv.ownBlock≠some ga:=λe=>zS HS2.o.row hmk (by decide) rfl e
       clear hrow hcl
       have hnews:∀j u,[Value.int .i64 v][j]?=some u->((W2.alloc (.cells #[.int .i64 v] 3)).drew).cell? ((⟨W2.heap.size,0,none⟩:Addr).add j)=some u:=JG W2 (.int .i64 v) 3
       obtain⟨g3,cap3,w3,hrun,hown3,hgrow3,hat3,hlt3⟩:=run_append_lies (P:=Tryz.prog) ((W2.alloc (.cells #[.int .i64 v] 3)).drew) 52 52 (w.heap.size+5) 3 i0 (.int .i64 0) 1 8 Tryz.underlying52 hi0 hz00 hz01 hz02 rfl (by decide) mv p.n _ (World.ownsRow.drew (hmk.alloc _)) ⟨W2.heap.size,0,none⟩ 1 1 [.int .i64 v] rfl hnews (by simp[Value.oneCell']) (by decide) (by unfold maxLen;omega) (by omega) (by show _<=(W2.alloc _).heap.size;simp;omega) _ rfl
       have hg1:W2.grownBy ((W2.alloc (.cells #[.int .i64 v] 3)).drew) none:=zg3 (World.grownBy_alloc _ _ _)
       have hcx3:=hgrow3.cell (hg1.cell hcx (by simp)) (λe=>hga e.symm)
       have hb1:(l'.length:Int)<(l'.length:Int)+1:=by omega
       have hr3:=zF (World.ownsRow.drew (HS2.o.row.alloc (.cells #[.int .i64 v] 3))) hgrow3 (λg' e1=>zS HS2.o.row hmk (by decide) e1)
       have hfx3:=hr3.frozenAt (l'.length*2+1)
       have hat4:(Value.slice p.A p.n p.c).ownBlock=some g3\/W2.heap.size<=g3:=by
        rw[hmv]
        rcases hat3 with h|h
        ·exact .inl h
        ·right
         have:g3=(W2.alloc (.cells #[.int .i64 v] 3)).heap.size:=h
         simp at this;omega
       have HM3:=ja (HS2.o.mark (by omega) hg1 hown3 (hmv.symm▸hgrow3) hat4)
       have HK3:=ja (jf9 (w:=w) (x:=ga) (i:=l'.length*2+1) (u:=.slice (some ⟨g3,0,none⟩) (p.n+1) cap3) hg1 (by omega) hmk hgrow3 (.inr hgb))
       have za1:∀o,(W2.alloc o).cell? ⟨w.heap.size,1,none⟩=some (.slice (some ⟨ga,0,none⟩) (l'.length+1) c):=λo=>(World.cell?_alloc_lt _ _ _ (by show w.heap.size<_;omega)).trans z1
       have zac:∀o,(W2.alloc o).cell? ⟨ga,l'.length*2+1,none⟩=some mv:=λo=>(World.cell?_alloc_lt _ _ _ (by show ga<_;omega)).trans hcx
       have z13:=hgrow3.cell (hg1.cell z1 (by simp)) (λe=>by have:=(hmk.lt w.heap.size e.symm).1;omega)
       clear hnews hr3 hown3 hgrow3 hat3 hat4 hlt3 hg1
       simp[go_sem] at hrun
       gi_wp2
       refine jv6 (by kernel_rfl) (by kernel_rfl) ?_
       (refine wpAnyIn_take (i:=0) (v:=_) rfl rfl (by kernel_rfl) (by decide +kernel) (by decide +kernel) (λ_ _ _ h=>h) ⟨Or.inl ⟨by rfl,λw=>(by go_simp;try with_reducible rfl)⟩,λ_=>rfl⟩ ?_)
       (refine wpAnyIn_take (i:=2) (v:=_) rfl rfl (by kernel_rfl) (by decide +kernel) (by decide +kernel) (λ_ _ _ h=>h) ⟨Or.inl ⟨by rfl,λw=>(by go_simp;try with_reducible rfl)⟩,λ_=>rfl⟩ ?_)
       (refine wpAnyIn_take (i:=3) (v:=_) rfl rfl (by kernel_rfl) (by decide +kernel) (by decide +kernel) (λ_ _ _ h=>h) ⟨Or.inl ⟨by rfl,λw=>(by go_simp;try with_reducible rfl)⟩,λ_=>rfl⟩ ?_)
       (refine wpAnyIn_take (i:=5) (v:=_) rfl rfl (by kernel_rfl) (by decide +kernel) (by decide +kernel) (λ_ _ _ h=>h) ⟨Or.inl ⟨by rfl,λw=>(by go_simp;try with_reducible rfl)⟩,λ_=>rfl⟩ ?_)
       (refine wpAnyIn_take (i:=9) (v:=_) rfl rfl (by kernel_rfl) (by decide +kernel) (by decide +kernel) (λ_ _ _ h=>h) ⟨Or.inl ⟨by rfl,λw=>(by go_simp;try with_reducible rfl)⟩,λ_=>rfl⟩ ?_)
       repeat' (first
        | exact AllReadyIn.nil
        | refine AllReadyIn.cons (by rfl) (λK hK=>?_) ?_
        | refine wpAnyIn_ready (rs:=[1,4,10]) (by decide +kernel) (by simp) ?_
        | refine wpAnyIn_ready (rs:=[1,4]) (by decide +kernel) (by simp) ?_
        | refine wpAnyIn_ready (rs:=[1,10]) (by decide +kernel) (by simp) ?_
        | refine wpAnyIn_ready (rs:=[4,10]) (by decide +kernel) (by simp) ?_
        | refine wpAnyIn_ready (rs:=[8,10]) (by decide +kernel) (by simp) ?_
        | refine wpAnyIn_ready (rs:=[1,8,10]) (by decide +kernel) (by simp) ?_
        | refine wpAnyIn_ready (rs:=[1,8]) (by decide +kernel) (by simp) ?_
        | refine wpAnyIn_ready (rs:=[1,11]) (by decide +kernel) (by simp) ?_
        | refine wpAnyIn_ready (rs:=[1]) (by decide +kernel) (by simp) ?_
        | refine wpAnyIn_ready (rs:=[4]) (by decide +kernel) (by simp) ?_
        | refine wpAnyIn_ready (rs:=[8]) (by decide +kernel) (by simp) ?_
        | refine wpAnyIn_ready (rs:=[10]) (by decide +kernel) (by simp) ?_
        | refine wpAnyIn_ready (rs:=[11]) (by decide +kernel) (by simp) ?_
        | refine wpAnyIn_ready (rs:=[14]) (by decide +kernel) (by simp) ?_
        | (refine wpAnyIn_take (i:=6) (v:=_) rfl rfl (by kernel_rfl) (by decide +kernel) (by decide +kernel) (λ_ _ _ h=>h) ⟨Or.inl ⟨by rfl,λw=>(by go_simp;try with_reducible rfl)⟩,λ_=>rfl⟩ ?_)
        | (refine wpAnyIn_take (i:=7) (v:=_) rfl rfl (by kernel_rfl) (by decide +kernel) (by decide +kernel) (λ_ _ _ h=>h) ⟨Or.inl ⟨by rfl,λw=>(by go_simp;try with_reducible rfl)⟩,λ_=>rfl⟩ ?_)
        | (refine wpAnyIn_take (i:=12) (v:=_) rfl rfl (by kernel_rfl) (by decide +kernel) (by decide +kernel) (λ_ _ _ h=>h) ⟨Or.inl ⟨by rfl,λw=>(by go_simp;try with_reducible rfl)⟩,λ_=>rfl⟩ ?_)
        | (refine wpAnyIn_take (i:=13) (v:=_) rfl rfl (by kernel_rfl) (by decide +kernel) (by decide +kernel) (λ_ _ _ h=>h) ⟨Or.inl ⟨by rfl,λw=>(by go_simp;try with_reducible rfl)⟩,λ_=>rfl⟩ ?_)
        | refine wpAnyIn_done (by decide +kernel) ?_ _
        | (go_simp;refine hK _ _ ?_;clear hK K))
       all_goals gi_wp2
       all_goals
        refine⟨jj0 HK3.o.1 HK3.o.2 HRR.o,wh,_,_,_,HPAR.o.trans ?_,HM3.o,by simp;omega,λq hq=>?_⟩
        ·unfold ja7;simp[h0,h43,h45,PieceV.flat,jac0]
        ·rcases List.mem_append.1 hq with h|h
         ·have:=hpn q (by simp[h]);simp;omega
         ·rw[List.mem_singleton] at h;subst h;simp;omega
  ·rintro xs V rfl ⟨wh,A,c,l,hpf,hst,hll,hpn⟩ hD
   simp only[World.size_alloc,hz0] at hD ⊢
   have hD:V.heap[w.heap.size+2]?=some (.deferred (some [])):=hD
   have HST:=ja hst
   have HD:=ja hD
   have hzV:=lt_of_block hD
   have HPZ:Hid (ja8 s=if ZO wh (l.map PieceV.flat)=true/\(⟨(qH wh (l.map PieceV.flat)).toArray⟩:ByteArray)=s then(wh,l.map PieceV.flat,0)else(0,[],4)):=ja (by
    unfold ja8;rw[if_neg (by omega),hpf])
   have HCK:=ja (λn=>(callsIn_wide (n:=n)).2 (Zi wh A l.length c V.heap.size l V hst.pieces (Nat.le_refl _)))
   obtain⟨gp,hgp⟩:=Option.isSome_iff_exists.1 Tryz.pow10g
   have htabV:=JV hgp htab hst.below
   have hOP:=@qx wh (l.map PieceV.flat)
   have HTX:=ja (λn (W:World) (hb:Below V.heap.size V W) (hok:ZO wh (l.map PieceV.flat)=true)=>(callsIn_wide (n:=n)).2 (jat4 wh A l.length c V.heap.size l W (hst.pieces.below hb) hb.size (hOP hok).1 (by have:=(hOP hok).2.1;simp at this;omega)
    (λp hp=>by
     obtain⟨_,h1,h2⟩:=(hOP hok).2.2 p.flat (List.mem_map_of_mem hp)
     have h1':p.ms.length<=6:=h1
     have h2':∀m∈p.ms,2<=m/\m<=1000:=h2
     exact⟨by omega,λm hm=>by have:=h2' m hm;omega⟩) (JV hgp htabV hb)))
   obtain⟨v0,v1,vf0,vf1⟩:=hst.blk.two
   clear hD hst hpf hll hpn hOP htabV
   have HPOK:Hid (∀W',Below V.heap.size V W'->PState w (w.heap.size+5) W' wh A c l):=ja (λW' hb=>HST.o.grown (jX hb none) (by simp))
   cases hok:ZO wh (l.map PieceV.flat)
   ·rw[hok] at HCK HPZ
    simp only[QK] at HCK
    have HV:Hid (ja8 s=(0,[],4)):=ja (HPZ.o.trans (if_neg (by simp)))
    gi_wp2_with fail
    refine⟨trivial,rfl,CallsIn.mono (HCK.o _) ?_⟩
    rintro e V2 ⟨rfl,hb2⟩
    have HP2:=ja (HPOK.o _ hb2)
    have HD2:=ja ((hb2.block _ hzV).trans HD.o)
    obtain⟨u0,u1,uf0,uf1⟩:=HP2.o.blk.two
    clear hb2
    gi_wp2
    refine⟨trivial,?_⟩
    gi_wp2
    have hE1:=(Below.heap_setCell (V2.setCell ⟨w.heap.size,0,none⟩ (.int .i64 0)) ⟨w.heap.size,1,none⟩ (.slice none 0 0) (w.heap.size+2) (by simp)).trans ((Below.heap_setCell V2 ⟨w.heap.size,0,none⟩ (.int .i64 0) (w.heap.size+2) (by simp)).trans HD2.o)
    refine⟨by simp,.inl ⟨_,_,rfl,run_takeDeferred hE1,?_⟩⟩
    refine⟨_,Qq rfl rfl rfl (jh.of_block ((HP2.o.blk.set_ 0 (.int .i64 0)).set_ 1 (.slice none 0 0)) (World.putObj_heap_other (by omega))),?_⟩
    rw[HV.o]
    exact⟨none,0,0,[],rfl,jD.nil _ _,rfl,λg _=>jQ.nil g,(Below.setCell (Below.setCell HP2.o.below (p:=⟨w.heap.size,0,none⟩) (by simp) (.int .i64 0)) (p:=⟨w.heap.size,1,none⟩) (by simp) (.slice none 0 0)).grown (jZ _ _) (by simpa using HP2.o.below.size) (λj e=>by cases e;omega)⟩
   ·rw[hok] at HCK HPZ
    simp only[QK] at HCK
    have HTX1:=ja (λn W hb=>HTX.o n W hb hok)
    clear HTX
    generalize hts:qH wh (l.map PieceV.flat)=ts at *
    by_cases hte:(⟨ts.toArray⟩:ByteArray)=s
    ·have HV:Hid (ja8 s=(wh,l.map PieceV.flat,0)):=ja (HPZ.o.trans (if_pos ⟨rfl,hte⟩))
     gi_wp2_with fail
     refine⟨trivial,rfl,CallsIn.mono (HCK.o _) ?_⟩
     rintro e V2 ⟨rfl,hb2⟩
     have HP2:=ja (HPOK.o _ hb2)
     obtain⟨u0,u1,uf0,uf1⟩:=HP2.o.blk.two
     have HT2:=ja (λn=>HTX1.o n V2 hb2)
     gi_wp2_with fail
     refine⟨trivial,rfl,CallsIn.mono (HT2.o _) ?_⟩
     rintro e V3 ⟨rfl,hb3⟩
     have HP3:=ja (HPOK.o _ (hb2.trans (hb3.mono hb2.size)))
     have HD3:=ja (((hb2.trans (hb3.mono hb2.size)).block _ hzV).trans HD.o)
     obtain⟨t0,t1,tf0,tf1⟩:=HP3.o.blk.two
     clear hb2 hb3 HP2 u0 u1 uf0 uf1
     gi_wp2
     have hE1:=(Below.heap_setCell (V3.setCell ⟨w.heap.size,0,none⟩ (.int .i64 wh)) ⟨w.heap.size,1,none⟩ (.slice A l.length c) (w.heap.size+2) (by simp)).trans ((Below.heap_setCell V3 ⟨w.heap.size,0,none⟩ (.int .i64 wh) (w.heap.size+2) (by simp)).trans HD3.o)
     have hfin:=(HP3.o.again (by omega)).grown (jZ (w.heap.size+2) (.deferred none)) (λb e=>by cases e;omega)
     refine⟨by simp,.inl ⟨_,_,rfl,run_takeDeferred hE1,?_⟩⟩
     refine⟨_,Qq rfl rfl rfl hfin.blk,?_⟩
     rw[HV.o]
     exact hfin.post (by omega)
    ·have HV:Hid (ja8 s=(0,[],4)):=ja (HPZ.o.trans (if_neg (λh=>hte h.2)))
     have hne:(ts==s.toList)=false:=by
      rw[ByteArray.toList_eq]
      refine beq_eq_false_iff_ne.2 (λh=>hte ?_)
      rw[h]
     gi_wp2_with fail
     refine⟨trivial,rfl,CallsIn.mono (HCK.o _) ?_⟩
     rintro e V1 ⟨rfl,hb2⟩
     have HP1:=ja (HPOK.o _ hb2)
     obtain⟨u0,u1,uf0,uf1⟩:=HP1.o.blk.two
     have HT2:=ja (λn=>HTX1.o n V1 hb2)
     gi_wp2_with fail
     refine⟨trivial,rfl,CallsIn.mono (HT2.o _) ?_⟩
     rintro e V2 ⟨rfl,hb3⟩
     have HP2:=ja (HPOK.o _ (hb2.trans (hb3.mono hb2.size)))
     have HD2:=ja (((hb2.trans (hb3.mono hb2.size)).block _ hzV).trans HD.o)
     obtain⟨t0,t1,tf0,tf1⟩:=HP2.o.blk.two
     clear hb2 hb3 HP1 u0 u1 uf0 uf1
     gi_wp2
     have hE1:=(Below.heap_setCell (V2.setCell ⟨w.heap.size,0,none⟩ (.int .i64 0)) ⟨w.heap.size,1,none⟩ (.slice none 0 0) (w.heap.size+2) (by simp)).trans ((Below.heap_setCell V2 ⟨w.heap.size,0,none⟩ (.int .i64 0) (w.heap.size+2) (by simp)).trans HD2.o)
     refine⟨by simp,.inl ⟨_,_,rfl,run_takeDeferred hE1,?_⟩⟩
     refine⟨_,Qq rfl rfl rfl (jh.of_block ((HP2.o.blk.set_ 0 (.int .i64 0)).set_ 1 (.slice none 0 0)) (World.putObj_heap_other (by omega))),?_⟩
     rw[HV.o]
     exact⟨none,0,0,[],rfl,jD.nil _ _,rfl,λg _=>jQ.nil g,(Below.setCell (Below.setCell HP2.o.below (p:=⟨w.heap.size,0,none⟩) (by simp) (.int .i64 0)) (p:=⟨w.heap.size,1,none⟩) (by simp) (.slice none 0 0)).grown (jZ _ _) (by simpa using HP2.o.below.size) (λj e=>by cases e;omega)⟩
  ·rintro _ _ _ _ h;exact h.elim
