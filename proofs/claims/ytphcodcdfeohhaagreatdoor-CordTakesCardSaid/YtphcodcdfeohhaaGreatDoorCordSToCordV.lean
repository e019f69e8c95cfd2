import Derived.Test.YtphcodcdfeohhaaGreatDoorCordKToCordR
import Derived.Test.YtphcodcdfeohhaaGreatDoorShelf
import Derived.Test.YtphcodcdfeohhaaGreatDoorCordPToCordQ
import Derived.Laws.RangeAny
import Derived.Laws.Runes
import Derived.Sort.CutIn
set_option linter.unusedVariables false
set_option linter.unusedSimpArgs false
namespace Go.Proofs.YtphcodcdfeohhaaGreatDoor
set_option maxRecDepth 100000
set_option maxHeartbeats 4000000
open Go.RowKit
attribute [local go_sem] Oper.semAt_some
def zc9:Nat->ByteArray->Nat->List Int
 | 0,_,_=>[]
 | f+1,s,pos=>if pos<s.size then((Utf8.decode s pos).1:Int)::zc9 f s (pos+(Utf8.decode s pos).2)else []
def tokR:Int->List UInt8->List Int->List (Int×Int)
 | _,_,[]=>[]
 | sg,ds,c::cs=>if 48<=c/\c<=57 then tokR sg (ds++[UInt8.ofNat c.toNat]) cs else(sg,jas3 ds)::tokR c [] cs
def jk1(s:ByteArray):ByteArray:=s++⟨#[46]⟩
def tokS(s:ByteArray):List (Int×Int):=tokR 0 [] (zc9 ((jk1 s).size+1) (jk1 s) 0)
def encK(x:Int×Int):Array Value:=#[.int .i32 x.1,.int .i64 x.2]
theorem jbz6 {w:World} {b:Nat} {s:ByteArray} {pos:Nat} (h:w.heap[b]?=some (.stringIter s pos)) (ty:TypeId) (hp:pos<s.size) :
  (Instr.next (.pointer (some ⟨b,0,none⟩)) true ty).run Tryz.prog w=.ok (.tuple #[.bool true,.int .i64 pos,.int .i32 (Utf8.decode s pos).1]) (w.putObj b (.stringIter s (pos+(Utf8.decode s pos).2))):=by
 simp only[Instr.next,getObj,setObj,Sem.run_bind,Sem.run,h,Result.andThen,hp,if_true]
 simp[goInt,World.putObj,Result.andThen]
theorem jap7 {w:World} {b:Nat} {s:ByteArray} {pos:Nat} (h:w.heap[b]?=some (.stringIter s pos)) (ty:TypeId) (hp:¬pos<s.size) :
  (Instr.next (.pointer (some ⟨b,0,none⟩)) true ty).run Tryz.prog w=.ok (.tuple #[.bool false]) w:=by
 simp only[Instr.next,getObj,setObj,Sem.run_bind,Sem.run,h,Result.andThen,hp,if_false]
 simp[Sem.run,Result.andThen]
theorem jbk0(s:ByteArray)(pos:Nat):1<=(Utf8.decode s pos).2:=by
 simp only[Utf8.decode]
 repeat' split
 all_goals simp
theorem jbk1{c:Int}(h:48<=c/\c<=57):Utf8.encode c=⟨#[UInt8.ofNat c.toNat]⟩:=by
 unfold Utf8.encode
 have h1:Utf8.valid c=true:=by unfold Utf8.valid;simp;omega
 have h2:c.toNat<128:=by omega
 simp[h1,h2]
attribute [local go_sem] Oper.semAt_some
def jdr9(W0:World)(b1:Nat)(s:ByteArray)(J:List (Int×Int)->World->Prop)(u v:Value)(A:World):Prop:=
 ∃(pre:List (Int×Int)) (pos fuel:Nat) (ds:List UInt8) (g:Int),u=.int .i32 g/\v=.string ⟨ds.toArray⟩/\ds.length<=pos/\A.heap[W0.heap.size]?=some (.stringIter (jk1 s) pos)/\(jk1 s).size<pos+fuel /\
  pre++tokR g ds (zc9 fuel (jk1 s) pos)=tokS s/\J pre A/\W0.heap.size+1<=A.heap.size/\jm0 A/\A.cell? ⟨b1,0,none⟩=some (.string s)
theorem jaa3{w:World}{k:Nat}{s:ByteArray}{p:Nat}(h:w.heap[k]?=some (.stringIter s p)):w.iterPos k=p:=by simp[World.iterPos,h]
theorem jcg4 {s:ByteArray} {pos:Nat} (h:¬pos<s.size):∀f,zc9 f s pos=[]
 | 0=>rfl
 | f+1=>by unfold zc9;rw[if_neg h]
theorem jbc5 (b1:Nat) (s:ByteArray) (w0:World) (h1:w0.cell? ⟨b1,0,none⟩=some (.string s)) (hs:s.size<=100000) (hE:jm0 w0) :
  zy6 Tryz.prog 118 #[.pointer (some ⟨b1,0,none⟩)] encK (fun ys=>ys=tokS s) (fun pre=>∃rest,pre++rest=tokS s) (fun c=>c=b1\/jag6 c) 1 w0:=by
 intro l J Jx W hW hJ hJx hY h0
 have hl1:b1<w0.heap.size:=World.block_lt_of_cell? _ _ h1
 have hWz:=hW.size
 have hc1:W.cell? ⟨b1,0,none⟩=some (.string s):=(hW.cell (p:=⟨b1,0,none⟩) hl1).trans h1
 have HE:=ja0 (hE.below hW (Nat.le_refl _))
 have HEL:=ja0 (fun b (hb:jag6 b)=>Nat.lt_of_lt_of_le (hE.lt hb) hWz)
 have HY:=ja0 hY;clear hY
 have HJ:=ja0 hJ;clear hJ
 have HJx:=ja0 hJx;clear hJx
 have H0:=ja0 h0;clear h0
 have HAT:=ja0 (fun n l W h1 h2=>(callsIn_wide (n:=n)).2 (jda7 l W h1 h2))
 have hdz:(jk1 s).size=s.size+1:=by rw[show jk1 s=s++⟨#[46]⟩from rfl,ByteArray.size_append];rfl
 clear h1 hE hW
 refine callsIn_of_wp Tryz.func118 rfl trivial ?_
 simp only[Tryz.ntmps118,List.size_toArray,List.length_cons,List.length_nil,Nat.reduceAdd,Nat.reduceSub,Array.replicate_succ,Array.replicate_zero,List.push_toArray,List.append_toArray,List.nil_append,List.cons_append]
 gi_wp2
 gi_loopw [3,4] (fun u v A=>jdr9 W b1 s J u v A) (fun _ _ A=>(jk1 s).size-A.iterPos W.heap.size)
 case atStart=>
  have hg:W.grownBy (W.iter (s++⟨#[46]⟩) 0) none:=World.grownBy_alloc _ _ _
  refine⟨[],0,(jk1 s).size+1,[],0,rfl,rfl,by simp,World.iter_heap _ _ _,by omega,rfl,HJ.out _ _ _ none H0.out hg (by simp),by simp[World.iter],HE.out.same (fun b hb=>hg.block b (HEL.out b hb) (by simp)),(hg.cell hc1 (by simp))⟩
 case round=>
  obtain⟨pre,pos,fuel,ds,g,rfl,rfl,hds,hit,hfu,hp,hJp,hsz,her,hcb⟩:=hrel
  have HIT:=ja0 hit;have HP:=ja0 hp;have HJp:=ja0 hJp;have HER:=ja0 her
  clear hit hp hJp her
  by_cases hpos:pos<(jk1 s).size
  ·have hnx:=fun ty=>jbz6 HIT.out ty hpos
   have hwd:=jbk0 (jk1 s) pos
   have hcl:=decode_le (jk1 s) pos
   obtain⟨f,rfl⟩:∃f,fuel=f+1:=⟨fuel-1,by omega⟩
   have hp:=HP.out
   rw[zc9,if_pos hpos] at hp
   generalize hdec:Utf8.decode (jk1 s) pos=dc at *
   obtain⟨rn,wd⟩:=dc
   dsimp only at hp hwd hcl hnx
   gi_upto_region 4 with fail
   obtain⟨V,hV⟩:∃V,V=wr.putObj W.heap.size (.stringIter (jk1 s) (pos+wd)):=⟨_,rfl⟩
   have hgV:wr.grownBy V (some W.heap.size):=by rw[hV];exact jd7 _ _
   have hzV:V.heap.size=wr.heap.size:=by rw[hV];simp
   have HITV:Hid (V.heap[W.heap.size]?=some (.stringIter (jk1 s) (pos+wd))):=ja0 (by rw[hV];exact World.putObj_heap_same (by omega))
   have HJV:=ja0 (HJ.out _ _ _ _ HJp.out hgV (fun b e=>by cases e;omega))
   have HERV:=ja0 (HER.out.same (fun b hb=>hgV.block b (by have:=HEL.out b hb;omega) (fun e=>by have:=HEL.out b hb;simp at e;omega)))
   have HCV:=ja0 (hgV.cell hcb (fun e=>by simp at e;omega))
   rw[<-hV]
   have HPM:=ja0 (jaa3 HIT.out)
   have HPV:=ja0 (jaa3 HITV.out)
   have HP2:=ja0 hp
   clear hV hgV hnx hp HP HIT HJp HER hcb
   obtain⟨c,hc⟩:∃c:Int,c=(rn:Int):=⟨_,rfl⟩
   have hcb:0<=c/\c<=2147483647:=by omega
   rw[<-hc]
   have hp:=HP2.out
   rw[<-hc] at hp
   clear hc hcl HP2
   by_cases hdg:48<=c/\c<=57
   ·rw[tokR,if_pos hdg] at hp
    have HP3:=ja0 hp
    have hen:=jbk1 hdg
    obtain⟨hd1,hd2⟩:=hdg
    clear hp
    gi_wp2
    go_roundw
    case rel=>
     refine⟨pre,pos+wd,f,ds++[UInt8.ofNat c.toNat],g,rfl,?_,by simp;omega,HITV.out,by omega,HP3.out,HJV.out,by omega,HERV.out,HCV.out⟩
     have h1:(⟨ds.toArray⟩:ByteArray)++⟨#[UInt8.ofNat c.toNat]⟩=⟨(ds++[UInt8.ofNat c.toNat]).toArray⟩:=jba0 ds [UInt8.ofNat c.toNat]
     rw[h1]
    case measure=>rw[HPM.out,HPV.out];omega
   ·rw[tokR,if_neg hdg] at hp
    have HP3:=ja0 hp
    clear hp
    have HA1:=ja0 (fun n=>HAT.out n ds V (by omega) HERV.out)
    unfold jbn8 at HA1
    generalize jas3 ds=av at *
    by_cases h48:48<=c
    all_goals
     gi_wp2_with fail
     refine⟨trivial,rfl,CallsIn.mono (HA1.out _) ?_⟩
     rintro e V1 ⟨v,er,rfl,her,hb1⟩
     have hz1:=hb1.size
     have HIT1:=ja0 ((hb1.block W.heap.size (by omega)).trans HITV.out)
     have HJ1:=ja0 (HJ.out _ _ _ none HJV.out (jf0 hb1 none) (by simp))
     have HER1:=ja0 (HERV.out.below hb1 (Nat.le_refl _))
     have HC1:=ja0 ((hb1.cell (p:=⟨b1,0,none⟩) (by show b1<_;omega)).trans HCV.out)
     have hspx:∃rest,pre++[(g,av)]++rest=tokS s:=⟨tokR c [] (zc9 f (jk1 s) (pos+wd)),by rw[List.append_assoc];exact HP3.out⟩
     obtain⟨fn,tm,as_,bd,hy,hR⟩:=HY.out pre (g,av) V1 hspx HJ1.out (by omega)
     have HR:=ja0 hR
     have HSP:=ja0 hspx
     clear hR hb1 hspx HA1
     simp only[encK] at hy
     rcases her with⟨rfl,rfl⟩|⟨⟨t,q,rfl⟩,hav⟩
     case' inr=>subst hav
     all_goals
      gi_wp2_with (first
       | (refine⟨rfl,HR.out.mono ?_⟩
          rintro e V3 hV3
          obtain⟨bb,rfl,hT,hF⟩:=jba5 hV3
          have HT:=ja0 hT;have HF:=ja0 hF
          clear hT hF hV3))
      ·rename_i hbb
       have hb2:bb=false:=by simpa using hbb
       subst hb2
       have h:=HF.out rfl
       refine bodyPost_ret (results_none rfl _ _ _) rfl ?_
       exact⟨⟨_,rfl⟩,.inr ⟨_,HSP.out,h.1⟩⟩
      ·rename_i hbb
       have hb2:bb=true:=by simpa using hbb
       subst hb2
       have h:=HT.out rfl
       have hk:=h.2.size
       have hit3:=(h.2.same W.heap.size (.inr (by omega))).trans HIT1.out
       refine⟨⟨_,pos+wd,f,[],c,rfl,rfl,by simp,hit3,by omega,by rw[List.append_assoc];exact HP3.out,h.1,by omega,HER1.out.same (fun b hb=>h.2.same b (.inl (.inr hb))),(World.cell?_of_block (h.2.same b1 (.inl (.inl rfl)))).trans HC1.out⟩,?_⟩
       rw[HPM.out,jaa3 hit3];omega
  ·have hnx:=fun ty=>jap7 HIT.out ty hpos
   have hp:=HP.out
   rw[jcg4 hpos] at hp
   simp only[tokR,List.append_nil] at hp
   gi_wp2
   go_end0
   exact⟨⟨_,rfl⟩,.inl ⟨_,rfl,hp▸HJp.out⟩⟩
def jdr3(p q:PieceV):Prop:=∀a b,p.A=some a->q.A=some b->a.block≠b.block
structure PState(w:World)(base:Nat)(W:World)(wh:Int)(A:Option Addr)(c:Nat)(l:List PieceV):Prop where
 blk:Blk W w.heap.size 43 #[.int .i64 wh,.slice A l.length c]
 row:W.ownsRow base 94 2 (.slice A l.length c) l.length (jb7 (l.map PieceV.enc))
 marks:∀p∈l,W.ownsRow base 3 1 (.slice p.A p.n p.c) p.n (p.ms.map (Value.int .i64))
 apart:l.Pairwise jdr3
 below:Below w.heap.size w W
theorem js5{w:World}{b1 b2 s1 s2 n1 n2:Nat}{e1 e2:TypeId}{v1 v2:Value}{xs1 xs2:List Value}(h1:w.ownsRow b1 e1 s1 v1 n1 xs1)(h2:w.ownsRow b2 e2 s2 v2 n2 xs2)(hne:e1≠e2){g:Nat}(hg:v1.ownBlock=some g):v2.ownBlock≠some g:=by
 intro hg2
 rcases h1.2 with⟨rfl,_⟩|⟨g1,c1,cur1,rfl,_,hh1,_⟩
 ·simp[Value.ownBlock] at hg
 ·rcases h2.2 with⟨rfl,_⟩|⟨g2,c2,cur2,rfl,_,hh2,_⟩
  ·simp[Value.ownBlock] at hg2
  ·simp only[Value.ownBlock,Option.some.injEq] at hg hg2
   subst hg
   subst hg2
   rw[hh1] at hh2
   simp only[Option.some.injEq,Obj.cells.injEq] at hh2
   exact hne hh2.2.1
section
variable {w W W' : World} {base : Nat} {wh : Int} {A : Option Addr} {c : Nat} {l : List PieceV}
theorem PState.grown(h:PState w base W wh A c l){row:Option Nat}(hg:W.grownBy W' row)(hr:∀b,row=some b->w.heap.size<b/\b<base):PState w base W' wh A c l:=
 ⟨h.blk.grown hg (fun e=>by have:=hr _ e;omega),jp2 h.row hg (fun g e1 e2=>by have:=(h.row.lt g e1).1;have:=hr g e2;omega),
  fun p hp=>jp2 (h.marks p hp) hg (fun g e1 e2=>by have:=((h.marks p hp).lt g e1).1;have:=hr g e2;omega),h.apart,
  h.below.grown hg h.below.size (fun j e=>by have:=hr j e;omega)⟩
theorem PState.whole(h:PState w base W wh A c l)(hb:w.heap.size<base)(v:Int):PState w base (W.setCell ⟨w.heap.size,0,none⟩ (.int .i64 v)) v A c l:=
 ⟨h.blk.set_ 0 _,ownsRow_setCell_below h.row hb _,fun p hp=>ownsRow_setCell_below (h.marks p hp) hb _,h.apart,h.below.setCell (p:=⟨w.heap.size,0,none⟩) (by simp) _⟩
theorem PState.piece (h:PState w base W wh A c l) (hb:w.heap.size<base) {o:Obj} {w3:World} {g cap:Nat} {mi:Bool}
  (hown:w3.ownsRow base 94 2 (.slice (some ⟨g,0,none⟩) (l.length+1) cap) (l.length+1) (jb7 (l.map PieceV.enc)++[.bool mi,.slice none 0 0]))
  (hg:(W.alloc o).grownBy w3 (Value.slice A l.length c).ownBlock) :
  PState w base (w3.setCell ⟨w.heap.size,1,none⟩ (.slice (some ⟨g,0,none⟩) (l.length+1) cap)) wh (some ⟨g,0,none⟩) cap (l++[⟨mi,none,0,0,[]⟩]):=by
 have hbl:∀g,(Value.slice A l.length c).ownBlock=some g->base<=g:=fun g e=>(h.row.lt g e).1
 have hm3:∀p∈l,w3.ownsRow base 3 1 (.slice p.A p.n p.c) p.n (p.ms.map (Value.int .i64)):=fun p hp=>
  jp2 ((h.marks p hp).alloc _) hg (fun g' e1=>js5 (h.marks p hp) h.row (by decide) e1)
 refine⟨?_,?_,?_,?_,?_⟩
 ·rw[List.length_append,List.length_singleton]
  exact((h.blk.alloc o).grown hg (fun e=>by have:=hbl _ e;omega)).set_ 1 _
 ·rw[js7,List.length_append,List.length_singleton]
  exact ownsRow_setCell_below hown hb _
 ·intro p hp
  rcases List.mem_append.1 hp with h'|h'
  ·exact ownsRow_setCell_below (hm3 p h') hb _
  ·rw[List.mem_singleton] at h'
   subst h'
   exact⟨rfl,.inl ⟨rfl,rfl⟩⟩
 ·refine List.pairwise_append.2 ⟨h.apart,List.pairwise_singleton _ _,fun p hp q hq=>?_⟩
  rw[List.mem_singleton] at hq
  subst hq
  intro a b _ e
  simp at e
 ·exact((h.below.alloc h.below.size o).grown hg (by have:=h.below.size;simp;omega) (fun j e=>by have:=hbl j e;omega)).setCell (p:=⟨w.heap.size,1,none⟩) (by simp) _
theorem PState.mark {p:PieceV} {ga:Nat} (h:PState w base W wh (some ⟨ga,0,none⟩) c (l++[p])) (hb:w.heap.size<base) {w1 w3:World} (h1:W.grownBy w1 none) {g cap:Nat} {v:Int}
  (hown:w3.ownsRow base 3 1 (.slice (some ⟨g,0,none⟩) (p.n+1) cap) (p.n+1) (p.ms.map (Value.int .i64)++[.int .i64 v]))
  (hg:w1.grownBy w3 (Value.slice p.A p.n p.c).ownBlock) (hat:(Value.slice p.A p.n p.c).ownBlock=some g\/W.heap.size<=g) :
  PState w base (w3.setCell ⟨ga,l.length*2+1,none⟩ (.slice (some ⟨g,0,none⟩) (p.n+1) cap)) wh (some ⟨ga,0,none⟩) c (l++[⟨p.minus,some ⟨g,0,none⟩,p.n+1,cap,p.ms++[v]⟩]):=by
 have hpl:p∈l++[p]:=by simp
 have hga:base<=ga:=(h.row.lt ga rfl).1
 have hbl:∀g,(Value.slice p.A p.n p.c).ownBlock=some g->base<=g:=fun g e=>((h.marks p hpl).lt g e).1
 have hw1:PState w base w1 wh (some ⟨ga,0,none⟩) c (l++[p]):=h.grown h1 (by simp)
 have hrow3:w3.ownsRow base 94 2 (.slice (some ⟨ga,0,none⟩) (l++[p]).length c) (l++[p]).length (jb7 ((l++[p]).map PieceV.enc)):=
  jp2 hw1.row hg (fun g' e1=>js5 h.row (h.marks p hpl) (by decide) e1)
 obtain⟨hal,_,hap⟩:=List.pairwise_append.1 h.apart
 have hm3:∀q∈l,w3.ownsRow base 3 1 (.slice q.A q.n q.c) q.n (q.ms.map (Value.int .i64)):=fun q hq=>
  jp2 (hw1.marks q (by simp[hq])) hg (fun g' e1 e2=>by
   have h2:=hap q hq p (by simp)
   cases hqa:q.A with
   | none=>rw[hqa] at e1;simp[Value.ownBlock] at e1
   | some a=>
    cases hpa:p.A with
    | none=>rw[hpa] at e2;simp[Value.ownBlock] at e2
    | some b=>
     rw[hqa] at e1
     rw[hpa] at e2
     simp only[Value.ownBlock,Option.some.injEq] at e1 e2
     exact h2 a b hqa hpa (by omega))
 have hne:∀q:PieceV,∀base' n xs,w3.ownsRow base' 3 1 (.slice q.A q.n q.c) n xs->(Value.slice q.A q.n q.c).ownBlock≠some ga:=fun q base' n xs hq=>js5 hrow3 hq (by decide) rfl
 refine⟨?_,?_,?_,?_,?_⟩
 ·have h2:=(hw1.blk.grown hg (fun e=>by have:=hbl _ e;omega)).far (p:=⟨ga,l.length*2+1,none⟩) (by simp;omega) (.slice (some ⟨g,0,none⟩) (p.n+1) cap)
  rw[show(l++[(⟨p.minus,some ⟨g,0,none⟩,p.n+1,cap,p.ms++[v]⟩:PieceV)]).length=(l++[p]).length by simp]
  exact h2
 ·have h2:=hrow3.stored (l.length*2+1) (.slice (some ⟨g,0,none⟩) (p.n+1) cap)
  rw[js7] at h2 ⊢
  have hlen:(jb7 (l.map PieceV.enc)).length=l.length*2:=by
   have h3:=h.row.1
   rw[js7] at h3
   simp only[List.length_append,List.length_cons,List.length_nil] at h3
   omega
  rw[List.set_append_right _ _ (by omega),hlen] at h2
  simpa using h2.1
 ·intro q hq
  rcases List.mem_append.1 hq with h'|h'
  ·exact ownsRow_setCell_other (hm3 q h') (a:=⟨ga,l.length*2+1,none⟩) (hne q _ _ _ (hm3 q h')) _
  ·rw[List.mem_singleton] at h'
   subst h'
   have h3:=ownsRow_setCell_other hown (a:=⟨ga,l.length*2+1,none⟩) (js5 hrow3 hown (by decide) rfl) (.slice (some ⟨g,0,none⟩) (p.n+1) cap)
   simpa using h3
 ·refine List.pairwise_append.2 ⟨hal,List.pairwise_singleton _ _,fun q hq r hr=>?_⟩
  rw[List.mem_singleton] at hr
  subst hr
  intro a b ha hb' e
  simp only[Option.some.injEq] at hb'
  subst hb'
  have hlt:=(h.marks q (by simp[hq])).lt a.block (by rw[ha];rfl)
  rcases hat with hat|hat
  ·cases hpa:p.A with
   | none=>rw[hpa] at hat;simp[Value.ownBlock] at hat
   | some b=>
    rw[hpa] at hat
    simp only[Value.ownBlock,Option.some.injEq] at hat
    exact hap q hq p (by simp) a b ha hpa (by rw[hat];exact e)
  ·have:a.block=g:=e
   omega
 ·exact((hw1.below).grown hg hw1.below.size (fun j e=>by have:=hbl j e;omega)).setCell (p:=⟨ga,l.length*2+1,none⟩) (by show _<=ga;omega) _
end
attribute [local go_sem] Oper.semAt_some
def jar1(l:List (Bool×List Int))(v:Int):List (Bool×List Int):=
 match l.getLast? with
 | none=>l
 | some p=>l.dropLast++[(p.1,p.2++[v])]
def zk9(st:Int×List (Bool×List Int))(x:Int×Int):Int×List (Bool×List Int):=
 if x.1=0 then(x.2,st.2)
 else if x.1=43\/x.1=45 then(st.1,st.2++[(decide (x.1=45),[])])
 else(st.1,jar1 st.2 x.2)
def parF(l:List (Int×Int)):Int×List (Bool×List Int):=l.foldl zk9 (0,[])
theorem jcv5(l:List (Int×Int))(x:Int×Int):parF (l++[x])=zk9 (parF l) x:=by unfold parF;rw[List.foldl_append];rfl
theorem jbp4(v:Int):jar1 [] v=[]:=rfl
theorem jbj4(l:List (Bool×List Int))(p:Bool×List Int)(v:Int):jar1 (l++[p]) v=l++[(p.1,p.2++[v])]:=by
 unfold jar1
 simp
def zm0(s:ByteArray):Int×List (Bool×List Int)×Int:=
 if 300<s.size then(0,[],5)
 else if jv0 (parF (tokS s)).1 (parF (tokS s)).2=true/\(⟨(za9 (parF (tokS s)).1 (parF (tokS s)).2).toArray⟩:ByteArray)=s then((parF (tokS s)).1,(parF (tokS s)).2,0)
 else(0,[],4)
theorem jaz7:∀(f:Nat) (s:ByteArray) (pos:Nat),(zc9 f s pos).length<=f
 | 0,_,_=>by simp[zc9]
 | f+1,s,pos=>by
  unfold zc9
  split
  ·have:=jaz7 f s (pos+(Utf8.decode s pos).2)
   simp only[List.length_cons];omega
  ·simp
theorem jba4:∀(cs:List Int) (g:Int) (ds:List UInt8),(tokR g ds cs).length<=cs.length
 | [],_,_=>by simp[tokR]
 | c::cs,g,ds=>by
  unfold tokR
  split
  ·have:=jba4 cs g (ds++[UInt8.ofNat c.toNat]);simp only[List.length_cons];omega
  ·have:=jba4 cs c [];simp only[List.length_cons];omega
theorem jbr8(s:ByteArray):(jk1 s).size=s.size+1:=by rw[show jk1 s=s++⟨#[46]⟩from rfl,ByteArray.size_append];rfl
theorem jdj7(s:ByteArray):(tokS s).length<=s.size+2:=by
 have h1:=jba4 (zc9 ((jk1 s).size+1) (jk1 s) 0) 0 []
 have h2:=jaz7 ((jk1 s).size+1) (jk1 s) 0
 have h3:=jbr8 s
 unfold tokS
 omega
theorem jch0(s:ByteArray)(w:World):Calls Tryz.prog 70 #[.string s] w fun e w'=>
  e=.returned (.func (.func 118) #[] #[.pointer (some ⟨w.heap.size,0,none⟩)])/\w'=w.alloc (.cells #[.string s] 9):=by
 go_enter Tryz.func70,Tryz.ntmps70
 go_wp2
 go_ret
 exact⟨by simp,rfl⟩
theorem jbb6(args:Array Value)(w:World):(callFunc 118 args).run Tryz.prog w=.ok (.enter 118 args) w:=enters_of Tryz.func118 (by kernel_rfl) rfl args w
def jbj2(w:World)(base:Nat)(pre:List (Int×Int))(W:World):Prop:=
 ∃(wh:Int) (A:Option Addr) (c:Nat) (l:List PieceV),parF pre=(wh,l.map PieceV.flat)/\PState w base W wh A c l/\l.length<=pre.length/\∀p∈l,p.n<=pre.length
theorem jbj2.grown{w W W':World}{base:Nat}{pre:List (Int×Int)}(h:jbj2 w base pre W){row:Option Nat}(hg:W.grownBy W' row)(hr:∀b,row=some b->w.heap.size<b/\b<base):jbj2 w base pre W':=by
 obtain⟨wh,A,c,l,h1,h2,h3,h4⟩:=h
 exact⟨wh,A,c,l,h1,h2.grown hg hr,h3,h4⟩
end Go.Proofs.YtphcodcdfeohhaaGreatDoor
