import Derived.Test.YtphcodcdfeohhaaGreatDoorCordSToCordV
import Derived.Test.YtphcodcdfeohhaaGreatDoorCordGToWidA
set_option linter.unusedVariables false
set_option linter.unusedSimpArgs false
namespace Go.Proofs.YtphcodcdfeohhaaGreatDoor
set_option maxRecDepth 100000
set_option maxHeartbeats 8000000
open Go.RowKit
attribute [local go_sem] Oper.semAt_some
def jbd1(w:World)(res:Int×List (Bool×List Int)×Int)(e:Ending)(w':World):Prop:=
 ∃(A:Option Addr) (n c:Nat) (l:List PieceV),e=.returned (.tuple #[.agg #[.int .i64 res.1,.slice A n c],.int .i64 res.2.2])/\jb6 w' w'.heap.size A n c l/\l.map PieceV.flat=res.2.1 /\
  (∀g,g<w.heap.size->jd1 g A l)/\Below w.heap.size w w'
theorem zg1 {fn:Func} {p u:Tmp} (h:fn.results=#[.cell p 43,.tmp u]) {tmps:Array Value} {w:World} {g:Nat} {x y v:Value}
  (hp:tmps.getD p undef=.pointer (some ⟨g,0,none⟩)) (hv:tmps.getD u undef=v) (hg:Blk w g 43 #[x,y]):(results fn tmps).run Tryz.prog w=.ok (.tuple #[.agg #[x,y],v]) w:=by
 rw[results_cell_tmp h,hp,hv]
 simp[asAddr,Result.andThen,run_loadVar_row w g 43 43 #[x,y] (0,0) _ hg Tryz.underlying43 rfl Tryz.sizeOld]
theorem PState.again {w W:World} {base:Nat} {wh:Int} {A:Option Addr} {c:Nat} {l:List PieceV} (h:PState w base W wh A c l) (hb:w.heap.size<base) :
  PState w base ((W.setCell ⟨w.heap.size,0,none⟩ (.int .i64 wh)).setCell ⟨w.heap.size,1,none⟩ (.slice A l.length c)) wh A c l:=
 ⟨(h.blk.set_ 0 _).set_ 1 _,ownsRow_setCell_below (ownsRow_setCell_below h.row hb _) hb _,fun p hp=>ownsRow_setCell_below (ownsRow_setCell_below (h.marks p hp) hb _) hb _,h.apart,
  (h.below.setCell (p:=⟨w.heap.size,0,none⟩) (by simp) _).setCell (p:=⟨w.heap.size,1,none⟩) (by simp) _⟩
theorem PState.pieces{w W:World}{base:Nat}{wh:Int}{A:Option Addr}{c:Nat}{l:List PieceV}(h:PState w base W wh A c l):jb6 W W.heap.size A l.length c l:=
 ⟨Rd.of_own h.row,fun p hp=>Rd.of_own (h.marks p hp)⟩
theorem PState.post {w W:World} {base:Nat} {wh y:Int} {A:Option Addr} {c:Nat} {l:List PieceV} (h:PState w base W wh A c l) (hb:w.heap.size<base) :
  jbd1 w (wh,l.map PieceV.flat,y) (.returned (.tuple #[.agg #[.int .i64 wh,.slice A l.length c],.int .i64 y])) W:=
 ⟨A,l.length,c,l,rfl,h.pieces,rfl,fun g hg=>⟨jar6 h.row (by omega),fun p hp=>jar6 (h.marks p hp) (by omega)⟩,h.below⟩
theorem zv7{w W W':World}{base:Nat}{R:Nat->Prop}(hs:W.heap.size<=W'.heap.size)(h:∀b,b<base->b≠w.heap.size->W'.heap[b]?=W.heap[b]?)(hR:∀b,R b->b<base/\b≠w.heap.size):KeepB R W W':=
 ⟨hs,fun b hb=>h b (hR b hb).1 (hR b hb).2⟩
theorem zs2 {w W w1 w3:World} {base x i size n:Nat} {e:TypeId} {v u:Value} {xs:List Value} (h1:W.grownBy w1 none) (hb:base<=W.heap.size) (hown:W.ownsRow base e size v n xs) (hg:w1.grownBy w3 v.ownBlock) (hx:x=w.heap.size\/base<=x) :
  W.heap.size<=(w3.setCell ⟨x,i,none⟩ u).heap.size/\∀b,b<base->b≠w.heap.size->(w3.setCell ⟨x,i,none⟩ u).heap[b]?=W.heap[b]?:=by
 refine⟨?_,fun b hlt hne=>?_⟩
 ·have:=h1.size;have:=hg.size;simp;omega
 ·have h2:=h1.size
  rw[Below.heap_setCell w3 ⟨x,i,none⟩ u b (by show b≠x;omega),hg.block b (by omega) (fun e=>by have:=(hown.lt b e.symm).1;omega),h1.block b (by omega) (by simp)]
theorem jcv6 (s : ByteArray) (w : World) (hE : jm0 w) (htab : Lib.TabIs Tryz.prog w "internal/strconv.uint64pow10" .u64 Lib.pow10Tab) :
  Calls Tryz.prog 30 #[.string s] w (jbd1 w (zm0 s)):=by
 have HX0:=ja0 (Blk.new w 43 #[.int .i64 0,.slice none 0 0])
 have HB0:=ja0 ((Below.refl w.heap.size w).alloc (Nat.le_refl _) (.cells #[.int .i64 0,.slice none 0 0] 43))
 obtain⟨w0,hw0⟩:∃w0,w0=w.alloc (.cells #[.int .i64 0,.slice none 0 0] 43):=⟨_,rfl⟩
 have hz0:w0.heap.size=w.heap.size+1:=by rw[hw0];simp
 rw[<-hw0] at HX0 HB0
 have HX0:=ja0 HX0.out
 have HE0:=ja0 (hE.below HB0.out (Nat.le_refl _))
 have HEL:=ja0 (fun b (hb:jag6 b)=>hE.lt hb)
 have HTOK:=ja0 (fun n W=>(callsIn_wide (n:=n)).2 (jch0 s W))
 refine(callsIn_wide (n:=0)).1 ?_
 refine callsIn_of_wp_marks Tryz.func30 rfl trivial ?_ rfl
 simp only[Tryz.ntmps30,List.size_toArray,List.length_cons,List.length_nil,Nat.reduceAdd,Nat.reduceSub,Array.replicate_succ,Array.replicate_zero,List.push_toArray,List.append_toArray,List.nil_append,List.cons_append]
 obtain⟨x0,x1,xf0,xf1⟩:=HX0.out.two
 by_cases hsz:300<(s.size:Int)
 ·have HV:Hid (zm0 s=(0,[],5)):=ja0 (by unfold zm0;rw[if_pos (by omega)])
  gi_upto_region 1 with fail
  rw[<-hw0]
  clear hw0
  gi_wp2
  rw[HV.out]
  have hB:=Below.setCell (Below.setCell HB0.out (p:=⟨w.heap.size,0,none⟩) (by simp) (.int .i64 0)) (p:=⟨w.heap.size,1,none⟩) (by simp) (.slice none 0 0)
  refine⟨_,zg1 rfl rfl rfl ((HX0.out.set_ 0 _).set_ 1 _),none,0,0,[],rfl,jb6.nil _ _,rfl,fun g _=>jd1.nil g,hB⟩
 ·have hsz2:s.size<=300:=by omega
  have hG:=jbc5 (w.heap.size+1) s (w0.alloc (.cells #[.string s] 9)) (by
   have:=(Box.new w0 9 (.string s)).cell
   rw[hz0] at this
   exact this) (by omega) (HE0.out.below ((Below.refl _ _).alloc (Nat.le_refl _) _) (Nat.le_refl _))
  have HG:=ja0 hG
  clear hG
  have hlen:=jdj7 s
  gi_upto_region 1 with fail
  rw[<-hw0]
  clear hw0
  gi_wp2_with fail
  refine⟨trivial,rfl,CallsIn.mono (HTOK.out _ _) ?_⟩
  rintro e w1 ⟨rfl,hw1⟩
  subst w1
  rw[hz0]
  have hbR:Below w.heap.size w (w0.alloc (.cells #[.string s] 9)):=HB0.out.alloc (by omega) _
  obtain⟨i0,hi0,hz00,hz01,hz02⟩:=info_parts Tryz.infoInt
  obtain⟨i1,hi1,hy0,hy1,hy2⟩:=info_parts Tryz.infoPiece
  gi_wp2_with fail
  refine zf3 (gf:=118) (lb:=#[.pointer (some ⟨w.heap.size+1,0,none⟩)]) rfl jbb6 HG.out (Below.refl _ _) ?_ (fun _=>rfl) (fun pre W=>jbj2 w (w.heap.size+5) pre W) (fun _ _ _=>False) ?_ ?_ ?_ ?_ ?_ ?_
  ·rintro b (rfl|h)
   ·simp;omega
   ·have:=HEL.out b h;simp;omega
  ·rintro pre W W' row h hg hr
   simp only[World.size_alloc,hz0] at hr
   exact h.grown hg (fun b e=>by have:=hr b e;omega)
  ·rintro _ _ _ _ _ h;exact h.elim
  ·refine⟨0,none,0,[],rfl,⟨HX0.out.alloc _,⟨rfl,.inl ⟨rfl,rfl⟩⟩,fun p hp=>by simp at hp,List.Pairwise.nil,hbR⟩,by simp,fun p hp=>by simp at hp⟩
  ·rintro pre ⟨g,v⟩ W ⟨rest,hsp⟩ ⟨wh,A,c,l,hpf,hst,hll,hpn⟩ hsz
   simp only[World.size_alloc,hz0] at hsz ⊢
   have hpl:pre.length<=400:=by
    have h:=congrArg List.length hsp
    simp only[List.length_append] at h
    omega
   have HST:=ja0 hst
   have HPF:=ja0 hpf
   have hst0:=hst.below.size
   clear hst hpf hsp
   simp only[encK]
   gi_wp2
   refine⟨KeepB.refl _ _,?_⟩
   intro W2 hg2 hzz
   have HS2:=ja0 (HST.out.grown hg2 (fun b e=>by cases e;omega))
   have hz2:w.heap.size+5<=W2.heap.size:=by omega
   have hRR:∀b,((b=w.heap.size+1\/jag6 b)\/(w.heap.size+1+1<=b/\b<w.heap.size+1+1+2+1))->b<w.heap.size+5/\b≠w.heap.size:=by
    rintro b ((rfl|h)|h)
    ·omega
    ·have:=HEL.out b h;omega
    ·omega
   have HRR:=ja0 hRR
   clear HST hg2 hzz hsz hst0 hRR
   obtain⟨z0,z1,zf0,zf1⟩:=HS2.out.blk.two
   have hpar:=jcv5 pre (g,v)
   rw[HPF.out] at hpar
   have HPAR:=ja0 hpar
   clear hpar
   have hl64:(l.length:Int)<=400:=by omega
   by_cases h0:g=0
   ·subst h0
    gi_wp2
    refine⟨zv7 (by simp) (fun b hb hne=>Below.heap_setCell W2 _ _ b hne) HRR.out,v,_,_,_,HPAR.out.trans ?_,HS2.out.whole (by omega) v,by simp;omega,fun p hp=>by have:=hpn p hp;simp;omega⟩
    unfold zk9;simp
   ·have hn0:(g==0)=false:=by simpa using h0
    by_cases h43:g=43
    ·subst h43
     gi_wp2_with (first
      | (gi_at_builtin;refine wpListIn_append_own _ rfl _ _ 41 rfl (w.heap.size+5) 94 i1 (.agg #[.bool false,.slice none 0 0]) 2 32 Tryz.underlying41 hi1 hy0 hy1 hy2 rfl (by decide) (.slice A l.length c) l.length _ rfl (HS2.out.row.alloc _) ⟨W2.heap.size,0,none⟩ 1 1 [.bool false,.slice none 0 0] rfl rfl (zb4 _ _ _ _) (by simp[Value.oneCell']) (by unfold maxLen;omega) (by omega) (by simp;omega) ?_;intro v' w3 hown' hgrow _;obtain⟨gg,cap,rfl,hgb,hgl⟩:=World.ownsRow.form hown' (by omega);have HP3:=ja0 (HS2.out.piece (by omega) hown' hgrow);have HK3:=ja0 (zs2 (w:=w) (x:=w.heap.size) (i:=1) (u:=.slice (some ⟨gg,0,none⟩) (l.length+1) cap) (World.grownBy_alloc W2 (.cells #[.bool false,.slice none 0 0] 94) none) (by omega) HS2.out.row hgrow (.inl rfl));have hx3:=(HS2.out.blk.alloc (.cells #[.bool false,.slice none 0 0] 94)).grown hgrow (fun e=>by have:=(HS2.out.row.lt _ e).1;omega);obtain⟨y0,y1,yf0,yf1⟩:=hx3.two;clear hown' hgrow hx3))
     refine⟨zv7 HK3.out.1 HK3.out.2 HRR.out,wh,_,_,_,HPAR.out.trans ?_,HP3.out,by simp;omega,fun p hp=>?_⟩
     ·unfold zk9;simp[PieceV.flat]
     ·rcases List.mem_append.1 hp with h|h
      ·have:=hpn p h;simp;omega
      ·rw[List.mem_singleton] at h;subst h;simp
    ·have hn43:(g==43)=false:=by simpa using h43
     by_cases h45:g=45
     ·subst h45
      gi_wp2_with (first
      | (gi_at_builtin;refine wpListIn_append_own _ rfl _ _ 41 rfl (w.heap.size+5) 94 i1 (.agg #[.bool false,.slice none 0 0]) 2 32 Tryz.underlying41 hi1 hy0 hy1 hy2 rfl (by decide) (.slice A l.length c) l.length _ rfl (HS2.out.row.alloc _) ⟨W2.heap.size,0,none⟩ 1 1 [.bool true,.slice none 0 0] rfl rfl (zb4 _ _ _ _) (by simp[Value.oneCell']) (by unfold maxLen;omega) (by omega) (by simp;omega) ?_;intro v' w3 hown' hgrow _;obtain⟨gg,cap,rfl,hgb,hgl⟩:=World.ownsRow.form hown' (by omega);have HP3:=ja0 (HS2.out.piece (by omega) hown' hgrow);have HK3:=ja0 (zs2 (w:=w) (x:=w.heap.size) (i:=1) (u:=.slice (some ⟨gg,0,none⟩) (l.length+1) cap) (World.grownBy_alloc W2 (.cells #[.bool true,.slice none 0 0] 94) none) (by omega) HS2.out.row hgrow (.inl rfl));have hx3:=(HS2.out.blk.alloc (.cells #[.bool true,.slice none 0 0] 94)).grown hgrow (fun e=>by have:=(HS2.out.row.lt _ e).1;omega);obtain⟨y0,y1,yf0,yf1⟩:=hx3.two;clear hown' hgrow hx3))
      refine⟨zv7 HK3.out.1 HK3.out.2 HRR.out,wh,_,_,_,HPAR.out.trans ?_,HP3.out,by simp;omega,fun p hp=>?_⟩
      ·unfold zk9;simp[PieceV.flat]
      ·rcases List.mem_append.1 hp with h|h
       ·have:=hpn p h;simp;omega
       ·rw[List.mem_singleton] at h;subst h;simp
     ·have hn45:(g==45)=false:=by simpa using h45
      by_cases hl0:l=[]
      ·subst hl0
       gi_wp2
       refine⟨KeepB.refl _ _,wh,A,c,[],HPAR.out.trans ?_,HS2.out,by simp,fun p hp=>by simp at hp⟩
       unfold zk9;simp[h0,h43,h45,jbp4]
      ·obtain⟨l',p,rfl⟩:∃l' p,l=l'++[p]:=⟨l.dropLast,l.getLast hl0,(List.dropLast_concat_getLast hl0).symm⟩
       obtain⟨ga,ca,hAe,hgb,hgl⟩:=World.ownsRow.form HS2.out.row (by simp)
       simp only[Value.slice.injEq,true_and] at hAe
       obtain⟨rfl,rfl⟩:=hAe
       have hpn':=hpn p (by simp)
       have hlen2:(l'++[p]).length=l'.length+1:=by simp
       have hrow:=HS2.out.row
       rw[hlen2] at hrow hll hl64 z1
       have hcx:=hrow.cellAt (l'.length*2+1) (by omega)
       have hfx:=hrow.frozenAt (l'.length*2+1)
       have hcl:(jb7 (l'.map PieceV.enc)).length=l'.length*2:=by
        have h3:=hrow.1
        rw[js7] at h3
        simp only[List.length_append,List.length_cons,List.length_nil] at h3
        omega
       rw[js7,List.getElem?_append_right (by omega),hcl,show l'.length*2+1-l'.length*2=1 by omega] at hcx
       simp only[List.getElem?_cons_succ,List.getElem?_cons_zero] at hcx
       have hmk:=HS2.out.marks p (by simp)
       obtain⟨mv,hmv⟩:∃mv,Value.slice p.A p.n p.c=mv:=⟨_,rfl⟩
       rw[hmv] at hcx hmk
       have hga:mv.ownBlock≠some ga:=fun e=>js5 HS2.out.row hmk (by decide) rfl e
       clear hrow hcl
       have hnews:∀j u,[Value.int .i64 v][j]?=some u->((W2.alloc (.cells #[.int .i64 v] 3)).drew).cell? ((⟨W2.heap.size,0,none⟩:Addr).add j)=some u:=jm4 W2 (.int .i64 v) 3
       obtain⟨g3,cap3,w3,hrun,hown3,hgrow3,hat3,hlt3⟩:=run_append_lies (P:=Tryz.prog) ((W2.alloc (.cells #[.int .i64 v] 3)).drew) 52 52 (w.heap.size+5) 3 i0 (.int .i64 0) 1 8 Tryz.underlying52 hi0 hz00 hz01 hz02 rfl (by decide) mv p.n _ (World.ownsRow.drew (hmk.alloc _)) ⟨W2.heap.size,0,none⟩ 1 1 [.int .i64 v] rfl hnews (by simp[Value.oneCell']) (by decide) (by unfold maxLen;omega) (by omega) (by show _<=(W2.alloc _).heap.size;simp;omega) _ rfl
       have hg1:W2.grownBy ((W2.alloc (.cells #[.int .i64 v] 3)).drew) none:=jar4 (World.grownBy_alloc _ _ _)
       have hcx3:=hgrow3.cell (hg1.cell hcx (by simp)) (fun e=>hga e.symm)
       have hb1:(l'.length:Int)<(l'.length:Int)+1:=by omega
       have hr3:=jp2 (World.ownsRow.drew (HS2.out.row.alloc (.cells #[.int .i64 v] 3))) hgrow3 (fun g' e1=>js5 HS2.out.row hmk (by decide) e1)
       have hfx3:=hr3.frozenAt (l'.length*2+1)
       have hat4:(Value.slice p.A p.n p.c).ownBlock=some g3\/W2.heap.size<=g3:=by
        rw[hmv]
        rcases hat3 with h|h
        ·exact .inl h
        ·right
         have:g3=(W2.alloc (.cells #[.int .i64 v] 3)).heap.size:=h
         simp at this;omega
       have HM3:=ja0 (HS2.out.mark (by omega) hg1 hown3 (hmv.symm▸hgrow3) hat4)
       have HK3:=ja0 (zs2 (w:=w) (x:=ga) (i:=l'.length*2+1) (u:=.slice (some ⟨g3,0,none⟩) (p.n+1) cap3) hg1 (by omega) hmk hgrow3 (.inr hgb))
       have za1:∀o,(W2.alloc o).cell? ⟨w.heap.size,1,none⟩=some (.slice (some ⟨ga,0,none⟩) (l'.length+1) c):=fun o=>(World.cell?_alloc_lt _ _ _ (by show w.heap.size<_;omega)).trans z1
       have zac:∀o,(W2.alloc o).cell? ⟨ga,l'.length*2+1,none⟩=some mv:=fun o=>(World.cell?_alloc_lt _ _ _ (by show ga<_;omega)).trans hcx
       have z13:=hgrow3.cell (hg1.cell z1 (by simp)) (fun e=>by have:=(hmk.lt w.heap.size e.symm).1;omega)
       clear hnews hr3 hown3 hgrow3 hat3 hat4 hlt3 hg1
       simp[go_sem] at hrun
       gi_wp2
       refine jag3 (by kernel_rfl) (by kernel_rfl) ?_
       (refine wpAnyIn_take (i:=0) (v:=_) rfl rfl (by kernel_rfl) (by decide +kernel) (by decide +kernel) (fun _ _ _ h=>h) ⟨Or.inl ⟨by rfl,fun w=>(by go_simp;try with_reducible rfl)⟩,fun _=>rfl⟩ ?_)
       (refine wpAnyIn_take (i:=2) (v:=_) rfl rfl (by kernel_rfl) (by decide +kernel) (by decide +kernel) (fun _ _ _ h=>h) ⟨Or.inl ⟨by rfl,fun w=>(by go_simp;try with_reducible rfl)⟩,fun _=>rfl⟩ ?_)
       (refine wpAnyIn_take (i:=3) (v:=_) rfl rfl (by kernel_rfl) (by decide +kernel) (by decide +kernel) (fun _ _ _ h=>h) ⟨Or.inl ⟨by rfl,fun w=>(by go_simp;try with_reducible rfl)⟩,fun _=>rfl⟩ ?_)
       (refine wpAnyIn_take (i:=5) (v:=_) rfl rfl (by kernel_rfl) (by decide +kernel) (by decide +kernel) (fun _ _ _ h=>h) ⟨Or.inl ⟨by rfl,fun w=>(by go_simp;try with_reducible rfl)⟩,fun _=>rfl⟩ ?_)
       (refine wpAnyIn_take (i:=9) (v:=_) rfl rfl (by kernel_rfl) (by decide +kernel) (by decide +kernel) (fun _ _ _ h=>h) ⟨Or.inl ⟨by rfl,fun w=>(by go_simp;try with_reducible rfl)⟩,fun _=>rfl⟩ ?_)
       repeat' (first
        | exact AllReadyIn.nil
        | refine AllReadyIn.cons (by rfl) (fun K hK=>?_) ?_
        | refine wpAnyIn_ready (rs:=[1,4,10]) (by decide +kernel) (by simp) ?_
        | refine wpAnyIn_ready (rs:=[1,4]) (by decide +kernel) (by simp) ?_
        | refine wpAnyIn_ready (rs:=[1,10]) (by decide +kernel) (by simp) ?_
        | refine wpAnyIn_ready (rs:=[4,10]) (by decide +kernel) (by simp) ?_
        | refine wpAnyIn_ready (rs:=[8,10]) (by decide +kernel) (by simp) ?_
        | refine wpAnyIn_ready (rs:=[1,8,10]) (by decide +kernel) (by simp) ?_
        | refine wpAnyIn_ready (rs:=[1,8]) (by decide +kernel) (by simp) ?_
        | refine wpAnyIn_ready (rs:=[1,11]) (by decide +kernel) (by simp) ?_
        | refine wpAnyIn_ready (rs:=[1]) (by decide +kernel) (by simp) ?_
        | refine wpAnyIn_ready (rs:=[4]) (by decide +kernel) (by simp) ?_
        | refine wpAnyIn_ready (rs:=[8]) (by decide +kernel) (by simp) ?_
        | refine wpAnyIn_ready (rs:=[10]) (by decide +kernel) (by simp) ?_
        | refine wpAnyIn_ready (rs:=[11]) (by decide +kernel) (by simp) ?_
        | refine wpAnyIn_ready (rs:=[14]) (by decide +kernel) (by simp) ?_
        | (refine wpAnyIn_take (i:=6) (v:=_) rfl rfl (by kernel_rfl) (by decide +kernel) (by decide +kernel) (fun _ _ _ h=>h) ⟨Or.inl ⟨by rfl,fun w=>(by go_simp;try with_reducible rfl)⟩,fun _=>rfl⟩ ?_)
        | (refine wpAnyIn_take (i:=7) (v:=_) rfl rfl (by kernel_rfl) (by decide +kernel) (by decide +kernel) (fun _ _ _ h=>h) ⟨Or.inl ⟨by rfl,fun w=>(by go_simp;try with_reducible rfl)⟩,fun _=>rfl⟩ ?_)
        | (refine wpAnyIn_take (i:=12) (v:=_) rfl rfl (by kernel_rfl) (by decide +kernel) (by decide +kernel) (fun _ _ _ h=>h) ⟨Or.inl ⟨by rfl,fun w=>(by go_simp;try with_reducible rfl)⟩,fun _=>rfl⟩ ?_)
        | (refine wpAnyIn_take (i:=13) (v:=_) rfl rfl (by kernel_rfl) (by decide +kernel) (by decide +kernel) (fun _ _ _ h=>h) ⟨Or.inl ⟨by rfl,fun w=>(by go_simp;try with_reducible rfl)⟩,fun _=>rfl⟩ ?_)
        | refine wpAnyIn_done (by decide +kernel) ?_ _
        | (go_simp;refine hK _ _ ?_;clear hK K))
       all_goals gi_wp2
       all_goals
        refine⟨zv7 HK3.out.1 HK3.out.2 HRR.out,wh,_,_,_,HPAR.out.trans ?_,HM3.out,by simp;omega,fun q hq=>?_⟩
        ·unfold zk9;simp[h0,h43,h45,PieceV.flat,jbj4]
        ·rcases List.mem_append.1 hq with h|h
         ·have:=hpn q (by simp[h]);simp;omega
         ·rw[List.mem_singleton] at h;subst h;simp;omega
  ·rintro xs V rfl ⟨wh,A,c,l,hpf,hst,hll,hpn⟩ hD
   simp only[World.size_alloc,hz0] at hD ⊢
   have hD:V.heap[w.heap.size+2]?=some (.deferred (some [])):=hD
   have HST:=ja0 hst
   have HD:=ja0 hD
   have hzV:=lt_of_block hD
   have HPZ:Hid (zm0 s=if jv0 wh (l.map PieceV.flat)=true/\(⟨(za9 wh (l.map PieceV.flat)).toArray⟩:ByteArray)=s then(wh,l.map PieceV.flat,0)else(0,[],4)):=ja0 (by
    unfold zm0;rw[if_neg (by omega),hpf])
   have HCK:=ja0 (fun n=>(callsIn_wide (n:=n)).2 (jr6 wh A l.length c V.heap.size l V hst.pieces (Nat.le_refl _)))
   obtain⟨gp,hgp⟩:=Option.isSome_iff_exists.1 Tryz.pow10g
   have htabV:=jp5 hgp htab hst.below
   have hOP:=@jz9 wh (l.map PieceV.flat)
   have HTX:=ja0 (fun n (W:World) (hb:Below V.heap.size V W) (hok:jv0 wh (l.map PieceV.flat)=true)=>(callsIn_wide (n:=n)).2 (jca4 wh A l.length c V.heap.size l W (hst.pieces.below hb) hb.size (hOP hok).1 (by have:=(hOP hok).2.1;simp at this;omega)
    (fun p hp=>by
     obtain⟨_,h1,h2⟩:=(hOP hok).2.2 p.flat (List.mem_map_of_mem hp)
     have h1':p.ms.length<=6:=h1
     have h2':∀m∈p.ms,2<=m/\m<=1000:=h2
     exact⟨by omega,fun m hm=>by have:=h2' m hm;omega⟩) (jp5 hgp htabV hb)))
   obtain⟨v0,v1,vf0,vf1⟩:=hst.blk.two
   clear hD hst hpf hll hpn hOP htabV
   have HPOK:Hid (∀W',Below V.heap.size V W'->PState w (w.heap.size+5) W' wh A c l):=ja0 (fun W' hb=>HST.out.grown (jf0 hb none) (by simp))
   cases hok:jv0 wh (l.map PieceV.flat)
   ·rw[hok] at HCK HPZ
    simp only[zh8] at HCK
    have HV:Hid (zm0 s=(0,[],4)):=ja0 (HPZ.out.trans (if_neg (by simp)))
    gi_wp2_with fail
    refine⟨trivial,rfl,CallsIn.mono (HCK.out _) ?_⟩
    rintro e V2 ⟨rfl,hb2⟩
    have HP2:=ja0 (HPOK.out _ hb2)
    have HD2:=ja0 ((hb2.block _ hzV).trans HD.out)
    obtain⟨u0,u1,uf0,uf1⟩:=HP2.out.blk.two
    clear hb2
    gi_wp2
    refine⟨trivial,?_⟩
    gi_wp2
    have hE1:=(Below.heap_setCell (V2.setCell ⟨w.heap.size,0,none⟩ (.int .i64 0)) ⟨w.heap.size,1,none⟩ (.slice none 0 0) (w.heap.size+2) (by simp)).trans ((Below.heap_setCell V2 ⟨w.heap.size,0,none⟩ (.int .i64 0) (w.heap.size+2) (by simp)).trans HD2.out)
    refine⟨by simp,.inl ⟨_,_,rfl,run_takeDeferred hE1,?_⟩⟩
    refine⟨_,zg1 rfl rfl rfl (Blk.of_block ((HP2.out.blk.set_ 0 (.int .i64 0)).set_ 1 (.slice none 0 0)) (World.putObj_heap_other (by omega))),?_⟩
    rw[HV.out]
    exact⟨none,0,0,[],rfl,jb6.nil _ _,rfl,fun g _=>jd1.nil g,(Below.setCell (Below.setCell HP2.out.below (p:=⟨w.heap.size,0,none⟩) (by simp) (.int .i64 0)) (p:=⟨w.heap.size,1,none⟩) (by simp) (.slice none 0 0)).grown (jd7 _ _) (by simpa using HP2.out.below.size) (fun j e=>by cases e;omega)⟩
   ·rw[hok] at HCK HPZ
    simp only[zh8] at HCK
    have HTX1:=ja0 (fun n W hb=>HTX.out n W hb hok)
    clear HTX
    generalize hts:za9 wh (l.map PieceV.flat)=ts at *
    by_cases hte:(⟨ts.toArray⟩:ByteArray)=s
    ·have HV:Hid (zm0 s=(wh,l.map PieceV.flat,0)):=ja0 (HPZ.out.trans (if_pos ⟨rfl,hte⟩))
     gi_wp2_with fail
     refine⟨trivial,rfl,CallsIn.mono (HCK.out _) ?_⟩
     rintro e V2 ⟨rfl,hb2⟩
     have HP2:=ja0 (HPOK.out _ hb2)
     obtain⟨u0,u1,uf0,uf1⟩:=HP2.out.blk.two
     have HT2:=ja0 (fun n=>HTX1.out n V2 hb2)
     gi_wp2_with fail
     refine⟨trivial,rfl,CallsIn.mono (HT2.out _) ?_⟩
     rintro e V3 ⟨rfl,hb3⟩
     have HP3:=ja0 (HPOK.out _ (hb2.trans (hb3.mono hb2.size)))
     have HD3:=ja0 (((hb2.trans (hb3.mono hb2.size)).block _ hzV).trans HD.out)
     obtain⟨t0,t1,tf0,tf1⟩:=HP3.out.blk.two
     clear hb2 hb3 HP2 u0 u1 uf0 uf1
     gi_wp2
     have hE1:=(Below.heap_setCell (V3.setCell ⟨w.heap.size,0,none⟩ (.int .i64 wh)) ⟨w.heap.size,1,none⟩ (.slice A l.length c) (w.heap.size+2) (by simp)).trans ((Below.heap_setCell V3 ⟨w.heap.size,0,none⟩ (.int .i64 wh) (w.heap.size+2) (by simp)).trans HD3.out)
     have hfin:=(HP3.out.again (by omega)).grown (jd7 (w.heap.size+2) (.deferred none)) (fun b e=>by cases e;omega)
     refine⟨by simp,.inl ⟨_,_,rfl,run_takeDeferred hE1,?_⟩⟩
     refine⟨_,zg1 rfl rfl rfl hfin.blk,?_⟩
     rw[HV.out]
     exact hfin.post (by omega)
    ·have HV:Hid (zm0 s=(0,[],4)):=ja0 (HPZ.out.trans (if_neg (fun h=>hte h.2)))
     have hne:(ts==s.toList)=false:=by
      rw[ByteArray.toList_eq]
      refine beq_eq_false_iff_ne.2 (fun h=>hte ?_)
      rw[h]
     gi_wp2_with fail
     refine⟨trivial,rfl,CallsIn.mono (HCK.out _) ?_⟩
     rintro e V1 ⟨rfl,hb2⟩
     have HP1:=ja0 (HPOK.out _ hb2)
     obtain⟨u0,u1,uf0,uf1⟩:=HP1.out.blk.two
     have HT2:=ja0 (fun n=>HTX1.out n V1 hb2)
     gi_wp2_with fail
     refine⟨trivial,rfl,CallsIn.mono (HT2.out _) ?_⟩
     rintro e V2 ⟨rfl,hb3⟩
     have HP2:=ja0 (HPOK.out _ (hb2.trans (hb3.mono hb2.size)))
     have HD2:=ja0 (((hb2.trans (hb3.mono hb2.size)).block _ hzV).trans HD.out)
     obtain⟨t0,t1,tf0,tf1⟩:=HP2.out.blk.two
     clear hb2 hb3 HP1 u0 u1 uf0 uf1
     gi_wp2
     have hE1:=(Below.heap_setCell (V2.setCell ⟨w.heap.size,0,none⟩ (.int .i64 0)) ⟨w.heap.size,1,none⟩ (.slice none 0 0) (w.heap.size+2) (by simp)).trans ((Below.heap_setCell V2 ⟨w.heap.size,0,none⟩ (.int .i64 0) (w.heap.size+2) (by simp)).trans HD2.out)
     refine⟨by simp,.inl ⟨_,_,rfl,run_takeDeferred hE1,?_⟩⟩
     refine⟨_,zg1 rfl rfl rfl (Blk.of_block ((HP2.out.blk.set_ 0 (.int .i64 0)).set_ 1 (.slice none 0 0)) (World.putObj_heap_other (by omega))),?_⟩
     rw[HV.out]
     exact⟨none,0,0,[],rfl,jb6.nil _ _,rfl,fun g _=>jd1.nil g,(Below.setCell (Below.setCell HP2.out.below (p:=⟨w.heap.size,0,none⟩) (by simp) (.int .i64 0)) (p:=⟨w.heap.size,1,none⟩) (by simp) (.slice none 0 0)).grown (jd7 _ _) (by simpa using HP2.out.below.size) (fun j e=>by cases e;omega)⟩
  ·rintro _ _ _ _ h;exact h.elim
end Go.Proofs.YtphcodcdfeohhaaGreatDoor
