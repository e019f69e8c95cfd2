import Derived.Test.YtphcodcdfeohhaaGreatDoorRFToKVOps
import Derived.Test.YtphcodcdfeohhaaGreatDoorSurdAToSurdB
set_option linter.unusedVariables false
set_option linter.unusedSimpArgs false
namespace Go.Proofs.YtphcodcdfeohhaaGreatDoor
set_option maxRecDepth 100000
set_option maxHeartbeats 2000000
open Go.RowKit
def nz(p:Int×Int):Bool:=decide (p.2≠0)
def delS:List (Int×Int)->Int->List (Int×Int)
 | [],_=>[]
 | (a,x)::t,r=>if r=a then t else(a,x)::delS t r
theorem jcr4:∀(kv:List (Int×Int)) (r:Int),jat3 (jh8 kv) r=jh8 (delS kv r):=by
 intro kv
 induction kv with
 | nil=>intro r;rfl
 | cons p t ih=>
  intro r
  obtain⟨a,x⟩:=p
  have h1:=ih r
  simp only[jh8,List.map_cons,jat3,delS] at h1 ⊢
  split
  ·rfl
  ·rw[h1];rfl
theorem jdb8:∀(kv:List (Int×Int)) (r:Int),(delS kv r).Sublist kv:=by
 intro kv
 induction kv with
 | nil=>intro r;exact List.Sublist.refl _
 | cons p t ih=>
  intro r
  obtain⟨a,x⟩:=p
  unfold delS
  split
  ·exact List.sublist_cons_self _ _
  ·exact(ih r).cons_cons _
theorem jdb7:∀(kv:List (Int×Int)) (r:Int),(kv.map (·.1)).Nodup->∀q∈delS kv r,q.1≠r:=by
 intro kv
 induction kv with
 | nil=>intro r _ q hq;cases hq
 | cons p t ih=>
  intro r hnd q hq
  obtain⟨a,x⟩:=p
  simp only[List.map_cons,List.nodup_cons] at hnd
  unfold delS at hq
  split at hq
  ·rename_i hra
   subst hra
   intro he
   exact hnd.1 (List.mem_map.2 ⟨q,hq,he⟩)
  ·rename_i hra
   rcases List.mem_cons.1 hq with rfl|hq
   ·exact fun h=>hra h.symm
   ·exact ih r hnd.2 q hq
theorem jbr5:∀(kv:List (Int×Int)) (p:Int×Int),(kv.map (·.1)).Nodup->p∈kv->nz p=false->(delS kv p.1).filter nz=kv.filter nz:=by
 intro kv
 induction kv with
 | nil=>intro p _ h;cases h
 | cons y t ih=>
  intro p hnd hp hz
  obtain⟨a,x⟩:=y
  simp only[List.map_cons,List.nodup_cons] at hnd
  unfold delS
  rcases List.mem_cons.1 hp with rfl|hp'
  ·rw[if_pos rfl,List.filter_cons,hz];rfl
  ·have hne:p.1≠a:=fun h=>hnd.1 (List.mem_map.2 ⟨p,hp',h⟩)
   rw[if_neg hne,List.filter_cons,List.filter_cons,ih p hnd.2 hp' hz]
theorem jac4{kv:List (Int×Int)}{j:Nat}{p:Int×Value}(h:(jh8 kv)[j]?=some p):∃q,kv[j]?=some q/\p=(q.1,.int .i64 q.2):=by
 unfold jh8 at h
 rw[List.getElem?_map] at h
 cases hk:kv[j]? with
 | none=>rw[hk] at h;cases h
 | some q=>rw[hk] at h;simp only[Option.map_some,Option.some.injEq] at h;exact⟨q,rfl,h.symm⟩
theorem js4(kv:List (Int×Int))(j:Nat):(jh8 kv).eraseIdx j=jh8 (kv.eraseIdx j):=(jp7 _ kv j).symm
theorem jbd8(kv:List (Int×Int)):(jh8 kv).map (·.1)=kv.map (·.1):=by simp[jh8,Function.comp_def]
theorem jdf2{kv:List (Int×Int)}{q:Int×Int}(h:(q.1,Value.int .i64 q.2)∈jh8 kv):q∈kv:=by
 obtain⟨y,hy,he⟩:=List.mem_map.1 h
 simp only[Prod.mk.injEq,Value.int.injEq,true_and] at he
 exact(Prod.ext he.1 he.2:y=q)▸hy
theorem jac5{kv:List (Int×Int)}:jh8 kv=[]↔kv=[]:=by simp[jh8]
theorem jn9(kv:List (Int×Int)):(jh8 kv).length=kv.length:=by simp[jh8]
theorem jad4{α:Type}{l:List α}{j:Nat}{p q:α}(hj:l[j]?=some p)(hq:q∈l)(hne:q≠p):q∈l.eraseIdx j:=by
 obtain⟨i,hi⟩:=List.mem_iff_getElem?.1 hq
 refine List.mem_eraseIdx_iff_getElem?.2 ⟨i,fun h=>hne ?_,hi⟩
 subst h
 rw[hj] at hi
 exact(Option.some.inj hi).symm
def jdr6(w:World)(r b:Nat)(kv:List (Int×Int))(W:World):Prop:=
 ∃kv' left:List (Int×Int),jh7 W r b (jh8 kv') (jh8 left) none/\kv'.filter nz=kv.filter nz/\(∀p∈kv',nz p=false->p∈left)/\(∀k,k<w.heap.size->k≠b->W.heap[k]?=w.heap[k]?)/\w.heap.size<=W.heap.size/\W.os=w.os/\W.tape=w.tape/\W.output=w.output
theorem jcv1(a b:Int)(w:World):Calls Tryz.prog 103 #[.int .i64 a,.int .i64 b] w fun e w'=>e=.returned (.bool (b==0))/\w'=w:=by
 go_enter Tryz.func103,Tryz.ntmps103
 go_wp2
 all_goals go_ret
 all_goals exact⟨by simp[*],rfl⟩
theorem jat4 (b:Nat) (kv:List (Int×Int)) (w:World) (h:jg6 w b kv) :
  Calls Tryz.prog 102 #[.map (some b),.func (.func 103) #[] #[]] w fun e w'=>e=.returned (.tuple #[])/\jg6 w' b (kv.filter nz)/\w.grownBy w' (some b):=by
 have hlt:=h.lt
 have H:=ja0 h;clear h
 go_enter Tryz.func102,Tryz.ntmps102
 go_wp2_with (first
  | (refine za7 rfl _ _ rfl Tryz.underlying104 b (jh8 kv) rfl H.out ?_;intro w1 hi1 hg1 hz1))
 go_frame
 go_loopw [] (fun W=>jdr6 w w.heap.size b kv W) (fun W=>jav7 W w.heap.size)
 case atStart=>exact⟨kv,kv,hi1,rfl,fun p hp _=>hp,fun k hk hne=>hg1.block k hk (by simp),hg1.size,hg1.os,hg1.tape,hg1.output⟩
 case round=>
  obtain⟨kv',left,hi,hf,hz,hbl,hsz,hos,htp,hout⟩:=hrel
  have HI:=ja0 hi;clear hi
  have HF:=ja0 hf;clear hf
  have HZ:=ja0 hz;clear hz
  have HB:=ja0 hbl;clear hbl
  have HO:=ja0 hos;have HT:=ja0 htp;have HU:=ja0 hout;clear hos htp hout
  by_cases hl:left=[]
  ·subst hl
   go_wp2_with (first
    | (refine jz1 rfl _ rfl w.heap.size b rfl HI.out ?_))
   go_end0
   have hk:kv'=kv.filter nz:=by
    rw[<-HF.out]
    refine(List.filter_eq_self.2 fun p hp=>?_).symm
    cases hn:nz p with
    | true=>rfl
    | false=>exact absurd (HZ.out p hp hn) (by simp)
   refine⟨rfl,?_,⟨HO.out,HT.out,HU.out,hsz,fun k hk hne=>HB.out k hk (fun e=>hne (by rw[e]))⟩⟩
   rw[<-hk]
   exact HI.out.isMap
  ·go_wp2_with (first
    | (refine jz2 rfl _ rfl w.heap.size b rfl HI.out (fun h=>hl (jac5.1 h)) ?_;intro j p w2 hj hi2 hg2 hz2;obtain⟨q,hq,rfl⟩:=jac4 hj;have HI2:=ja0 hi2;clear hi2)
    | (refine za6 rfl _ rfl w.heap.size b rfl HI2.out ?_)
    | (refine jag4 rfl _ _ _ _ rfl Tryz.underlying104 Tryz.underlying3 w.heap.size b rfl rfl HI2.out ?_;intro w4 hi4 hg4 hz4;have HI4:=ja0 hi4;clear hi4)
    | (go_at_call 103;refine(jcv1 _ _ _).mono ?_;rintro e w3 ⟨rfl,rfl⟩))
   ·have hq0:nz q=false:=by
     have:(q.2==0)=true:=by assumption
     simp only[beq_iff_eq] at this
     simp[nz,this]
    have hqm:q∈kv':=jdf2 HI2.out.cur_mem
    have hnd:(kv'.map (·.1)).Nodup:=by have:=HI2.out.isMap.nodup;rwa [jbd8] at this
    have hI:=HI4.out
    rw[jcr4,js4] at hI
    go_roundw
    case rel=>
     refine⟨delS kv' q.1,left.eraseIdx j,hI,?_,?_,?_,?_,?_,?_,?_⟩
     ·rw[jbr5 kv' q hnd hqm hq0];exact HF.out
     ·intro p hp hpz
      refine jad4 hq (HZ.out p ((jdb8 kv' q.1).subset hp) hpz) (fun e=>?_)
      exact jdb7 kv' q.1 hnd p hp (by rw[e])
     ·intro k hk hne
      rw[hg4.block k (by omega) (fun e=>hne (by cases e;rfl)),hg2.block k (by omega) (fun e=>by cases e;omega)]
      exact HB.out k hk hne
     ·omega
     ·rw[hg4.os,hg2.os];exact HO.out
     ·rw[hg4.tape,hg2.tape];exact HT.out
     ·rw[hg4.output,hg2.output];exact HU.out
    case measure=>
     rw[hI.leftN_eq,HI.out.leftN_eq,jn9,jn9,List.length_eraseIdx_of_lt (by have:=(List.getElem?_eq_some_iff.1 hq).1;exact this)]
     have:=(List.getElem?_eq_some_iff.1 hq).1
     omega
   ·have hq0:nz q=true:=by
     have:(q.2==0)=false:=by assumption
     simp only[beq_eq_false_iff_ne] at this
     simp[nz,this]
    have hI:=HI2.out.nocur
    rw[js4] at hI
    go_roundw
    case rel=>
     refine⟨kv',left.eraseIdx j,hI,HF.out,?_,?_,?_,?_,?_,?_⟩
     ·intro p hp hpz
      refine jad4 hq (HZ.out p hp hpz) (fun e=>?_)
      rw[e,hq0] at hpz;cases hpz
     ·intro k hk hne
      rw[hg2.block k (by omega) (fun e=>by cases e;omega)]
      exact HB.out k hk hne
     ·omega
     ·rw[hg2.os];exact HO.out
     ·rw[hg2.tape];exact HT.out
     ·rw[hg2.output];exact HU.out
    case measure=>
     rw[hI.leftN_eq,HI.out.leftN_eq,jn9,jn9,List.length_eraseIdx_of_lt (by have:=(List.getElem?_eq_some_iff.1 hq).1;exact this)]
     have:=(List.getElem?_eq_some_iff.1 hq).1
     omega
attribute [local go_sem] Oper.semAt_some
def jdp7(W0:World)(b B1:Nat)(kv:List (Int×Int))(f:Int×Int->Int)(J:List Int->World->Prop)(A:World):Prop:=
 ∃(pre:List Int) (left:List (Int×Int)),jh7 A W0.heap.size b (jh8 kv) (jh8 left) none/\A.cell? ⟨B1,0,none⟩=some (.map (some b))/\(pre++left.map f).Perm (kv.map f)/\J pre A/\W0.heap.size+1<=A.heap.size
theorem jaa8 {α:Type}:∀(l:List α) (j:Nat) (a:α),l[j]?=some a->(a::l.eraseIdx j).Perm l
 | [],_,_,h=>by cases h
 | x::l,0,a,h=>by
  simp only[List.getElem?_cons_zero,Option.some.injEq] at h
  subst h
  exact List.Perm.refl _
 | x::l,j+1,a,h=>by
  simp only[List.getElem?_cons_succ] at h
  simp only[List.eraseIdx_cons_succ]
  exact(List.Perm.swap x a _).trans ((jaa8 l j a h).cons x)
theorem jbg3 {kv left:List (Int×Int)} {f:Int×Int->Int} {pre:List Int} {j:Nat} {q:Int×Int} (h:(pre++left.map f).Perm (kv.map f)) (hq:left[j]?=some q) :
  ((pre++[f q])++(left.eraseIdx j).map f).Perm (kv.map f):=by
 have h1:=jaa8 left j q hq
 refine List.Perm.trans ?_ h
 rw[List.append_assoc]
 refine List.Perm.append_left pre ?_
 have h3:=h1.map f
 simpa using h3
theorem jbc6 (b B1:Nat) (kv:List (Int×Int)) (w0:World) (h:jg6 w0 b kv) (hB1:w0.cell? ⟨B1,0,none⟩=some (.map (some b))) :
  zy6 Tryz.prog 140 #[.pointer (some ⟨B1,0,none⟩)] (fun x:Int=>#[.int .i64 x]) (fun ys=>ys.Perm (kv.map (·.2))) (fun pre=>∃rest,(pre++rest).Perm (kv.map (·.2))) (fun c=>c=b\/c=B1) 1 w0:=by
 intro l J Jx W hW hJ hJx hY h0
 have hb:b<w0.heap.size:=h.lt
 have hB1l:B1<w0.heap.size:=World.block_lt_of_cell? _ _ hB1
 have hc1:W.cell? ⟨B1,0,none⟩=some (.map (some b)):=(hW.cell (p:=⟨B1,0,none⟩) hB1l).trans hB1
 have hm1:ja6 W b (jh8 kv):=ja6.below h hW hb
 have HM:=ja0 hm1;clear hm1
 have HY:=ja0 hY;clear hY
 have HJ:=ja0 hJ;clear hJ
 have HJx:=ja0 hJx;clear hJx
 have H0:=ja0 h0;clear h0
 have HW:=ja0 hW;clear hW
 have Hc:=ja0 h;clear h
 clear hB1
 refine callsIn_of_wp Tryz.func140 rfl trivial ?_
 simp only[Tryz.ntmps140,List.size_toArray,List.length_cons,List.length_nil,Nat.reduceAdd,Nat.reduceSub,Array.replicate_succ,Array.replicate_zero,List.push_toArray,List.append_toArray,List.nil_append,List.cons_append]
 gi_wp2_with (first
  | (refine zg8 rfl _ _ rfl Tryz.underlying104 b (jh8 kv) rfl HM.out ?_;intro w1 hi1 hg1 hz1;have HI1:=ja0 hi1;clear hi1))
 gi_loopw [] (fun A=>jdp7 W b B1 kv (·.2) J A) (fun A=>jav7 A W.heap.size)
 case atStart=>
  refine⟨[],kv,HI1.out,?_,by simp,HJ.out _ _ _ _ H0.out hg1 (by simp),by omega⟩
  rw[hg1.cell hc1 (by simp)]
 case round=>
  obtain⟨pre,left,hi,hcb,hp,hJp,hsz⟩:=hrel
  have HI:=ja0 hi;clear hi
  have HP:=ja0 hp;clear hp
  have HJp:=ja0 hJp;clear hJp
  by_cases hl:left=[]
  ·subst hl
   gi_wp2_with (first
    | (refine zd8 rfl _ rfl W.heap.size b rfl HI.out ?_))
   go_end0
   have hp:=HP.out
   simp only[List.map_nil,List.append_nil] at hp
   exact⟨⟨_,rfl⟩,.inl ⟨pre,hp,HJp.out⟩⟩
  ·gi_wp2_with (first
    | (refine zd9 rfl _ rfl W.heap.size b rfl HI.out (fun h=>hl (jac5.1 h)) ?_;intro j p w2 hj hi2 hg2 hz2;obtain⟨q,hq,rfl⟩:=jac4 hj;have HI2:=ja0 hi2;clear hi2;have HP2:=ja0 (jbg3 HP.out hq);have HQ:=ja0 hq;clear hq hj;have HJ2:=ja0 (HJ.out _ _ _ _ HJp.out hg2 (fun c e=>by cases e;omega));obtain⟨fn,tm,as_,bd,hy,hR⟩:=HY.out pre q.2 w2 ⟨_,HP2.out⟩ HJ2.out (by omega);have HR:=ja0 hR;clear hR;have HG:=ja0 hg2;clear hg2)
    | (refine zg7 rfl _ rfl W.heap.size b rfl HI2.out ?_))
   refine⟨rfl,HR.out.mono ?_⟩
   rintro e A (⟨rfl,hJ',hk⟩|⟨rfl,hJx',_⟩)
   ·have HJ':=ja0 hJ';clear hJ'
    have HK:=ja0 hk;clear hk
    gi_wp2
    go_roundw
    case rel=>
     have hI:=HI2.out.nocur
     rw[js4] at hI
     have hK:=HK.out
     have hG:=HG.out
     refine⟨pre++[q.2],left.eraseIdx j,hI.of_blocks (hK.same _ (.inr (by omega))) (hK.same _ (.inl (.inl rfl))),?_,HP2.out,HJ'.out,by have:=hK.size;omega⟩
     rw[World.cell?_of_block (hK.same _ (.inl (.inr rfl))),hG.cell hcb (fun e=>by have e':B1=W.heap.size:=Option.some.inj e;have:=HW.out.size;omega)]
    case measure=>
     have hI:=HI2.out.nocur
     rw[js4] at hI
     have hK:=HK.out
     rw[(hI.of_blocks (hK.same _ (.inr (by omega))) (hK.same _ (.inl (.inl rfl)))).leftN_eq,HI.out.leftN_eq,jn9,jn9,List.length_eraseIdx_of_lt (List.getElem?_eq_some_iff.1 HQ.out).1]
     have:=(List.getElem?_eq_some_iff.1 HQ.out).1
     omega
   ·have HJx':=ja0 hJx';clear hJx'
    gi_wp2
    refine bodyPost_ret (results_none rfl _ _ _) rfl ?_
    exact⟨⟨_,rfl⟩,.inr ⟨pre++[q.2],⟨_,HP2.out⟩,HJx'.out⟩⟩
theorem jbt7 (b B1:Nat) (kv:List (Int×Int)) (w0:World) (h:jg6 w0 b kv) (hB1:w0.cell? ⟨B1,0,none⟩=some (.map (some b))) :
  zy6 Tryz.prog 142 #[.pointer (some ⟨B1,0,none⟩)] (fun x:Int=>#[.int .i64 x]) (fun ys=>ys.Perm (kv.map (·.1))) (fun pre=>∃rest,(pre++rest).Perm (kv.map (·.1))) (fun c=>c=b\/c=B1) 1 w0:=by
 intro l J Jx W hW hJ hJx hY h0
 have hb:b<w0.heap.size:=h.lt
 have hB1l:B1<w0.heap.size:=World.block_lt_of_cell? _ _ hB1
 have hc1:W.cell? ⟨B1,0,none⟩=some (.map (some b)):=(hW.cell (p:=⟨B1,0,none⟩) hB1l).trans hB1
 have hm1:ja6 W b (jh8 kv):=ja6.below h hW hb
 have HM:=ja0 hm1;clear hm1
 have HY:=ja0 hY;clear hY
 have HJ:=ja0 hJ;clear hJ
 have HJx:=ja0 hJx;clear hJx
 have H0:=ja0 h0;clear h0
 have HW:=ja0 hW;clear hW
 have Hc:=ja0 h;clear h
 clear hB1
 refine callsIn_of_wp Tryz.func142 rfl trivial ?_
 simp only[Tryz.ntmps142,List.size_toArray,List.length_cons,List.length_nil,Nat.reduceAdd,Nat.reduceSub,Array.replicate_succ,Array.replicate_zero,List.push_toArray,List.append_toArray,List.nil_append,List.cons_append]
 gi_wp2_with (first
  | (refine zg8 rfl _ _ rfl Tryz.underlying104 b (jh8 kv) rfl HM.out ?_;intro w1 hi1 hg1 hz1;have HI1:=ja0 hi1;clear hi1))
 gi_loopw [] (fun A=>jdp7 W b B1 kv (·.1) J A) (fun A=>jav7 A W.heap.size)
 case atStart=>
  refine⟨[],kv,HI1.out,?_,by simp,HJ.out _ _ _ _ H0.out hg1 (by simp),by omega⟩
  rw[hg1.cell hc1 (by simp)]
 case round=>
  obtain⟨pre,left,hi,hcb,hp,hJp,hsz⟩:=hrel
  have HI:=ja0 hi;clear hi
  have HP:=ja0 hp;clear hp
  have HJp:=ja0 hJp;clear hJp
  by_cases hl:left=[]
  ·subst hl
   gi_wp2_with (first
    | (refine zd8 rfl _ rfl W.heap.size b rfl HI.out ?_))
   go_end0
   have hp:=HP.out
   simp only[List.map_nil,List.append_nil] at hp
   exact⟨⟨_,rfl⟩,.inl ⟨pre,hp,HJp.out⟩⟩
  ·gi_wp2_with (first
    | (refine zd9 rfl _ rfl W.heap.size b rfl HI.out (fun h=>hl (jac5.1 h)) ?_;intro j p w2 hj hi2 hg2 hz2;obtain⟨q,hq,rfl⟩:=jac4 hj;have HI2:=ja0 hi2;clear hi2;have HP2:=ja0 (jbg3 HP.out hq);have HQ:=ja0 hq;clear hq hj;have HJ2:=ja0 (HJ.out _ _ _ _ HJp.out hg2 (fun c e=>by cases e;omega));obtain⟨fn,tm,as_,bd,hy,hR⟩:=HY.out pre q.1 w2 ⟨_,HP2.out⟩ HJ2.out (by omega);have HR:=ja0 hR;clear hR;have HG:=ja0 hg2;clear hg2)
    | (refine zg7 rfl _ rfl W.heap.size b rfl HI2.out ?_))
   refine⟨rfl,HR.out.mono ?_⟩
   rintro e A (⟨rfl,hJ',hk⟩|⟨rfl,hJx',_⟩)
   ·have HJ':=ja0 hJ';clear hJ'
    have HK:=ja0 hk;clear hk
    gi_wp2
    go_roundw
    case rel=>
     have hI:=HI2.out.nocur
     rw[js4] at hI
     have hK:=HK.out
     have hG:=HG.out
     refine⟨pre++[q.1],left.eraseIdx j,hI.of_blocks (hK.same _ (.inr (by omega))) (hK.same _ (.inl (.inl rfl))),?_,HP2.out,HJ'.out,by have:=hK.size;omega⟩
     rw[World.cell?_of_block (hK.same _ (.inl (.inr rfl))),hG.cell hcb (fun e=>by have e':B1=W.heap.size:=Option.some.inj e;have:=HW.out.size;omega)]
    case measure=>
     have hI:=HI2.out.nocur
     rw[js4] at hI
     have hK:=HK.out
     rw[(hI.of_blocks (hK.same _ (.inr (by omega))) (hK.same _ (.inl (.inl rfl)))).leftN_eq,HI.out.leftN_eq,jn9,jn9,List.length_eraseIdx_of_lt (List.getElem?_eq_some_iff.1 HQ.out).1]
     have:=(List.getElem?_eq_some_iff.1 HQ.out).1
     omega
   ·have HJx':=ja0 hJx';clear hJx'
    gi_wp2
    refine bodyPost_ret (results_none rfl _ _ _) rfl ?_
    exact⟨⟨_,rfl⟩,.inr ⟨pre++[q.1],⟨_,HP2.out⟩,HJx'.out⟩⟩
attribute [local go_sem] Oper.semAt_some
theorem Tryz.infoInt:(Tryz.prog.info? 3).map (fun i=>(i.zero,i.size,i.bytes))=some (some (.int .i64 0),1,8):=by kernel_rfl
def jdr5(w:World)(B0 base:Nat)(pre:List Int)(W:World):Prop:=
 ∃v,Box W B0 52 v/\W.ownsRow base 3 1 v pre.length (pre.map (Value.int .i64))/\Below w.heap.size w W
theorem jbb2 {S Sp:List Int->Prop} {R:Nat->Prop} {k gf:Nat} {lb:Array Value} {w0 w:World}
  (eg:∀args w,(callFunc gf args).run Tryz.prog w=.ok (.enter gf args) w)
  (hseq:zy6 Tryz.prog gf lb (fun x:Int=>#[.int .i64 x]) S Sp R k w0) (hb0:Below w0.heap.size w0 w) (hR:∀b,R b->b<w.heap.size) (hN:∀pre,Sp pre->pre.length<=1000000) :
  Calls Tryz.prog 139 #[.slice none 0 0,.func (.func gf) #[] lb] w fun e w'=>∃ys A n c,S ys/\e=.returned (.slice A n c)/\w'.ownsRow w.heap.size 3 1 (.slice A n c) n (ys.map (Value.int .i64))/\Below w.heap.size w w':=by
 obtain⟨i0,hi0,hz0,hz1,hz2⟩:=info_parts Tryz.infoInt
 have Hs:=ja0 hseq;clear hseq
 have Hb:=ja0 hb0;clear hb0
 have HR:=ja0 hR;clear hR
 have HN:=ja0 hN;clear hN
 have HE:=ja0 eg;clear eg
 refine(callsIn_wide (n:=0)).1 ?_
 refine callsIn_of_wp_marks Tryz.func139 rfl trivial ?_ rfl
 simp only[Tryz.ntmps139,List.size_toArray,List.length_cons,List.length_nil,Nat.reduceAdd,Nat.reduceSub,Array.replicate_succ,Array.replicate_zero,List.push_toArray,List.append_toArray,List.nil_append,List.cons_append]
 gi_wp2
 refine zf3 (gf:=gf) (lb:=lb) rfl HE.out Hs.out (w0:=w0) (Hb.out.trans ?_) (fun b hb=>?_) (fun _=>rfl) (fun pre W=>jdr5 w w.heap.size (w.heap.size+3+k) pre W) (fun _ _ _=>False) ?_ ?_ ?_ ?_ ?_ ?_
 ·exact((Below.refl _ w).alloc (Nat.le_refl _) _).mono Hb.out.size
 ·have:=HR.out b hb;simp;omega
 ·rintro s A B row ⟨v,hx,ho,hbl⟩ hg hr
  simp only[World.size_alloc] at hr
  refine⟨v,hx.grown hg (fun e=>by have:=hr _ e;omega),ho.kept hg ?_,hbl.grown hg hbl.size (fun j e=>by have:=hr j e;omega)⟩
  by_cases hv:v.ownBlock=none
  ·exact .inl hv
  ·refine .inr (fun e=>?_)
   cases hrow:row with
   | none=>rw[hrow] at e;exact hv e
   | some j=>have h1:=hr j hrow;rw[hrow] at e;have:=(ho.lt j e).1;omega
 ·rintro _ _ _ _ _ h;exact h.elim
 ·exact⟨_,Box.new w _ _,World.ownsRow_nil _ _ _ _,(Below.refl _ w).alloc (Nat.le_refl _) _⟩
 ·rintro pre x W hsp ⟨v,hx,ho,hbl⟩ hsz
  have hlen:=HN.out _ hsp
  simp only[List.length_append,List.length_cons,List.length_nil] at hlen
  simp only[World.size_alloc] at hsz
  have HX:=ja0 hx;clear hx
  have HO:=ja0 ho;clear ho
  have HBl:=ja0 hbl;clear hbl
  simp only[World.size_alloc]
  gi_wp2
  refine⟨KeepB.refl _ _,?_⟩
  intro W2 hg2 hzz
  have hsz2:w.heap.size+3+k<=W2.heap.size:=by omega
  clear hzz
  have HX2:=ja0 (HX.out.grown hg2 (by simp;omega))
  have HO2:=ja0 (HO.out.kept hg2 (by
   by_cases hv:v.ownBlock=none
   ·exact .inl hv
   ·refine .inr (fun e=>?_)
    have:=(HO.out.lt _ e).1
    omega))
  have HBl2:=ja0 (HBl.out.grown hg2 HBl.out.size (fun j e=>by cases e;omega))
  have hcx:=HX2.out.cell
  have hfx:=HX2.out.free
  have hlt0:=HX2.out.lt
  have Hg2:=ja0 hg2;clear hg2
  gi_wp2_with (first
   | (gi_at_builtin;refine wpListIn_append_own _ rfl _ _ 52 rfl (w.heap.size+3+k) 3 i0 (.int .i64 0) 1 8 Tryz.underlying52 hi0 hz0 hz1 hz2 rfl (by decide) v pre.length _ rfl (HO2.out.alloc _) ⟨W2.heap.size,0,none⟩ 1 1 [.int .i64 x] rfl rfl (jm4 _ _ _) (by simp[Value.oneCell']) (by unfold maxLen;omega) (by omega) (by simp;omega) ?_;intro v' w3 hown' hgrow _;obtain⟨A',c',rfl⟩:=jc1 hown';have hne:=zg0 HO2.out (b:=w.heap.size) (by omega);have hx3:=(HX2.out.alloc (.cells #[.int .i64 x] 3)).grown hgrow hne;have hcx3:=hx3.cell;have hfx3:=hx3.free;have HO3:=ja0 hown';have HX3:=ja0 hx3;have HG3:=ja0 hgrow;clear hown' hx3 hgrow hne))
  ·have hlt:∀b,(R b\/(w.heap.size+1<=b/\b<w.heap.size+1+2+k))->b<W2.heap.size:=by
    rintro b (h|h)
    ·have:=HR.out b h;omega
    ·omega
   have hnb:∀b,v.ownBlock=some b->¬(R b\/(w.heap.size+1<=b/\b<w.heap.size+1+2+k)):=by
    intro b hb
    have h1:=(HO2.out.lt b hb).1
    rintro(h|h)
    ·have:=HR.out b h;omega
    ·omega
   have hkp:=((KeepB.refl (fun b=>R b\/(w.heap.size+1<=b/\b<w.heap.size+1+2+k)) W2).alloc hlt (.cells #[.int .i64 x] 3)).trans (KeepB.of_grown HG3.out (fun b hb=>by have:=hlt b hb;simp;omega) hnb)
   refine⟨hkp.setCell (p:=⟨w.heap.size,0,none⟩) (show ¬(R w.heap.size\/(w.heap.size+1<=w.heap.size/\w.heap.size<w.heap.size+1+2+k)) by
    rintro(h|h)
    ·have:=HR.out _ h;omega
    ·omega) _,?_⟩
   refine⟨_,HX3.out.set_ _,?_,?_⟩
   ·have:=ownsRow_setCell_other HO3.out (a:=⟨w.heap.size,0,none⟩) (zg0 HO3.out (show w.heap.size<_ by omega)) (.slice A' (pre.length+1) c')
    simpa using this
   ·refine(((HBl2.out.alloc HBl2.out.size _).grown HG3.out (by have:=HBl2.out.size;simp;omega) (fun j e=>by have:=(HO2.out.lt j e).1;omega))).setCell (p:=⟨w.heap.size,0,none⟩) (Nat.le_refl _) _
 ·rintro xs W hS ⟨v,hx,ho,hbl⟩ hD
  simp only[World.size_alloc] at hD
  obtain⟨A,c,rfl⟩:=jc1 ho
  have hcx:=hx.cell
  have HO:=ja0 ho;clear ho
  have HX:=ja0 hx;clear hx
  have HB:=ja0 hbl;clear hbl
  have HD:=ja0 hD;clear hD
  simp only[World.size_alloc]
  gi_wp2
  refine⟨by simp,.inl ⟨_,_,rfl,run_takeDeferred HD.out,?_⟩⟩
  refine⟨_,results_tmp rfl _ _ _,xs,A,xs.length,c,hS,rfl,?_,?_⟩
  ·have h1:=HO.out.kept (jd7 (w.heap.size+1) (.deferred none)) (.inr (by
    intro e
    have:=(HO.out.lt _ e).1
    omega))
   obtain⟨h2,h3⟩:=h1
   refine⟨h2,?_⟩
   rcases h3 with h3|⟨g,cap,cur,hv,hb,r⟩
   ·exact .inl h3
   ·exact .inr ⟨g,cap,cur,hv,by omega,r⟩
  ·exact HB.out.grown (jd7 _ _) HB.out.size (fun j e=>by cases e;omega)
 ·rintro _ _ _ _ h;exact h.elim
theorem jay1(b:Nat)(w:World):Calls Tryz.prog 105 #[.map (some b)] w fun e w'=>e=.returned (.func (.func 140) #[] #[.pointer (some ⟨w.heap.size,0,none⟩)])/\w'=w.alloc (.cells #[.map (some b)] 104):=by
 go_enter Tryz.func105,Tryz.ntmps105
 go_wp2
 go_ret
 exact⟨rfl,rfl⟩
theorem jbm4(b:Nat)(w:World):Calls Tryz.prog 107 #[.map (some b)] w fun e w'=>e=.returned (.func (.func 142) #[] #[.pointer (some ⟨w.heap.size,0,none⟩)])/\w'=w.alloc (.cells #[.map (some b)] 104):=by
 go_enter Tryz.func107,Tryz.ntmps107
 go_wp2
 go_ret
 exact⟨rfl,rfl⟩
theorem jam3 {S Sp:List Int->Prop} {R:Nat->Prop} {k gf:Nat} {lb:Array Value} {w0 w:World}
  (eg:∀args w,(callFunc gf args).run Tryz.prog w=.ok (.enter gf args) w)
  (hseq:zy6 Tryz.prog gf lb (fun x:Int=>#[.int .i64 x]) S Sp R k w0) (hb0:Below w0.heap.size w0 w) (hR:∀b,R b->b<w.heap.size) (hN:∀pre,Sp pre->pre.length<=1000000) :
  Calls Tryz.prog 104 #[.func (.func gf) #[] lb] w fun e w'=>∃ys A n c,S ys/\e=.returned (.slice A n c)/\w'.ownsRow w.heap.size 3 1 (.slice A n c) n (ys.map (Value.int .i64))/\Below w.heap.size w w':=by
 have H:=ja0 (jbb2 eg hseq hb0 hR hN)
 clear eg hseq hb0 hR hN
 go_enter Tryz.func104,Tryz.ntmps104
 go_wp2_with fail
 refine H.out.mono ?_
 rintro e w' ⟨ys,A,n,c,hS,rfl,ho,hb⟩
 go_wp2
 go_ret
 exact⟨ys,A,n,c,hS,rfl,ho,hb⟩
theorem jbb7(args:Array Value)(w:World):(callFunc 140 args).run Tryz.prog w=.ok (.enter 140 args) w:=enters_of Tryz.func140 (by kernel_rfl) rfl args w
theorem jbs1(args:Array Value)(w:World):(callFunc 142 args).run Tryz.prog w=.ok (.enter 142 args) w:=enters_of Tryz.func142 (by kernel_rfl) rfl args w
theorem jat1 (b:Nat) (kv:List (Int×Int)) (w:World) (h:jg6 w b kv) (hn:kv.length<=1000000) :
  Calls Tryz.prog 104 #[.func (.func 140) #[] #[.pointer (some ⟨w.heap.size,0,none⟩)]] (w.alloc (.cells #[.map (some b)] 104)) fun e w'=>
   ∃(ys:List Int) (A:Option Addr) (n c:Nat),ys.Perm (kv.map (·.2))/\e=.returned (.slice A n c)/\w'.ownsRow (w.heap.size+1) 3 1 (.slice A n c) n (ys.map (Value.int .i64))/\Below (w.heap.size+1) (w.alloc (.cells #[.map (some b)] 104)) w':=by
 have hb:=h.lt
 have hg:=jbc6 b w.heap.size kv (w.alloc (.cells #[.map (some b)] 104)) (ja6.alloc h _) (Box.new w _ _).cell
 have hc:=jam3 jbb7 hg (Below.refl _ _) (by rintro c (rfl|rfl)<;>simp<;>omega) (by
  rintro pre ⟨rest,hp⟩
  have:=hp.length_eq
  simp at this
  omega)
 simpa using hc
theorem jbj9 (b:Nat) (kv:List (Int×Int)) (w:World) (h:jg6 w b kv) (hn:kv.length<=1000000) :
  Calls Tryz.prog 104 #[.func (.func 142) #[] #[.pointer (some ⟨w.heap.size,0,none⟩)]] (w.alloc (.cells #[.map (some b)] 104)) fun e w'=>
   ∃(ys:List Int) (A:Option Addr) (n c:Nat),ys.Perm (kv.map (·.1))/\e=.returned (.slice A n c)/\w'.ownsRow (w.heap.size+1) 3 1 (.slice A n c) n (ys.map (Value.int .i64))/\Below (w.heap.size+1) (w.alloc (.cells #[.map (some b)] 104)) w':=by
 have hb:=h.lt
 have hg:=jbt7 b w.heap.size kv (w.alloc (.cells #[.map (some b)] 104)) (ja6.alloc h _) (Box.new w _ _).cell
 have hc:=jam3 jbs1 hg (Below.refl _ _) (by rintro c (rfl|rfl)<;>simp<;>omega) (by
  rintro pre ⟨rest,hp⟩
  have:=hp.length_eq
  simp at this
  omega)
 simpa using hc
end Go.Proofs.YtphcodcdfeohhaaGreatDoor
