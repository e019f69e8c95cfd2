import Derived.Test.YtphcodcdfeohhaaGreatDoorRFToKVOps
import Derived.Deep.AppendLies
set_option linter.all false
namespace Go.Proofs.YtphcodcdfeohhaaGreatDoor
set_option maxRecDepth 100000
set_option maxHeartbeats 4000000
open Go.RowKit
def nz(p:Int×Int):Bool:=decide (p.2≠0)
def zs2:List (Int×Int)->Int->List (Int×Int)
 | [],_=>[]
 | (a,x)::t,r=>if r=a then t else(a,x)::zs2 t r
theorem jbm2:∀(kv:List (Int×Int)) (r:Int),zj0 (zM kv) r=zM (zs2 kv r):=by
 intro kv
 induction kv with
 | nil=>intro r;rfl
 | cons p t ih=>
  intro r
  obtain⟨a,x⟩:=p
  have h1:=ih r
  simp only[zM,List.map_cons,zj0,zs2] at h1 ⊢
  split
  ·rfl
  ·rw[h1];rfl
theorem jby5:∀(kv:List (Int×Int)) (r:Int),(zs2 kv r).Sublist kv:=by
 intro kv
 induction kv with
 | nil=>intro r;exact List.Sublist.refl _
 | cons p t ih=>
  intro r
  obtain⟨a,x⟩:=p
  unfold zs2
  split
  ·exact List.sublist_cons_self _ _
  ·exact(ih r).cons_cons _
theorem jby4:∀(kv:List (Int×Int)) (r:Int),(kv.map (·.1)).Nodup->∀q∈zs2 kv r,q.1≠r:=by
 intro kv
 induction kv with
 | nil=>intro r _ q hq;cases hq
 | cons p t ih=>
  intro r hnd q hq
  obtain⟨a,x⟩:=p
  simp only[List.map_cons,List.nodup_cons] at hnd
  unfold zs2 at hq
  split at hq
  ·rename_i hra
   subst hra
   intro he
   exact hnd.1 (List.mem_map.2 ⟨q,hq,he⟩)
  ·rename_i hra
   rcases List.mem_cons.1 hq with rfl|hq
   ·exact λh=>hra h.symm
   ·exact ih r hnd.2 q hq
theorem jaj9:∀(kv:List (Int×Int)) (p:Int×Int),(kv.map (·.1)).Nodup->p∈kv->nz p=false->(zs2 kv p.1).filter nz=kv.filter nz:=by
 intro kv
 induction kv with
 | nil=>intro p _ h;cases h
 | cons y t ih=>
  intro p hnd hp hz
  obtain⟨a,x⟩:=y
  simp only[List.map_cons,List.nodup_cons] at hnd
  unfold zs2
  rcases List.mem_cons.1 hp with rfl|hp'
  ·rw[if_pos rfl,List.filter_cons,hz];rfl
  ·have hne:p.1≠a:=λh=>hnd.1 (List.mem_map.2 ⟨p,hp',h⟩)
   rw[if_neg hne,List.filter_cons,List.filter_cons,ih p hnd.2 hp' hz]
theorem jr5{kv:List (Int×Int)}{j:Nat}{p:Int×Value}(h:(zM kv)[j]?=some p):∃q,kv[j]?=some q/\p=(q.1,.int .i64 q.2):=by
 unfold zM at h
 rw[List.getElem?_map] at h
 cases hk:kv[j]? with
 | none=>rw[hk] at h;cases h
 | some q=>rw[hk] at h;simp only[Option.map_some,Option.some.injEq] at h;exact⟨q,rfl,h.symm⟩
theorem Zu(kv:List (Int×Int))(j:Nat):(zM kv).eraseIdx j=zM (kv.eraseIdx j):=(JZ _ kv j).symm
theorem zy1(kv:List (Int×Int)):(zM kv).map (·.1)=kv.map (·.1):=by simp[zM,Function.comp_def]
theorem jcb2{kv:List (Int×Int)}{q:Int×Int}(h:(q.1,Value.int .i64 q.2)∈zM kv):q∈kv:=by
 obtain⟨y,hy,he⟩:=List.mem_map.1 h
 simp only[Prod.mk.injEq,Value.int.injEq,true_and] at he
 exact(Prod.ext he.1 he.2:y=q)▸hy
theorem jr6{kv:List (Int×Int)}:zM kv=[]↔kv=[]:=by simp[zM]
theorem JN(kv:List (Int×Int)):(zM kv).length=kv.length:=by simp[zM]
theorem js9{α:Type}{l:List α}{j:Nat}{p q:α}(hj:l[j]?=some p)(hq:q∈l)(hne:q≠p):q∈l.eraseIdx j:=by
 obtain⟨i,hi⟩:=List.mem_iff_getElem?.1 hq
 refine List.mem_eraseIdx_iff_getElem?.2 ⟨i,λh=>hne ?_,hi⟩
 subst h
 rw[hj] at hi
 exact(Option.some.inj hi).symm
def jcn6(w:World)(r b:Nat)(kv:List (Int×Int))(W:World):Prop:=
 ∃kv' left:List (Int×Int),zK W r b (zM kv') (zM left) none/\kv'.filter nz=kv.filter nz/\(∀p∈kv',nz p=false->p∈left)/\(∀k,k<w.heap.size->k≠b->W.heap[k]?=w.heap[k]?)/\w.heap.size<=W.heap.size/\W.os=w.os/\W.tape=w.tape/\W.output=w.output
theorem jbp3(a b:Int)(w:World):Calls Tryz.prog 103 #[.int .i64 a,.int .i64 b] w λe w'=>e=.returned (.bool (b==0))/\w'=w:=by
 go_enter Tryz.func103,Tryz.ntmps103
 go_wp2
 all_goals go_ret
 all_goals exact⟨by simp[*],rfl⟩
theorem zj1 (b:Nat) (kv:List (Int×Int)) (w:World) (h:zH w b kv) :
  Calls Tryz.prog 102 #[.map (some b),.func (.func 103) #[] #[]] w λe w'=>e=.returned (.tuple #[])/\zH w' b (kv.filter nz)/\w.grownBy w' (some b):=by
 have hlt:=h.lt
 have H:=ja h;clear h
 go_enter Tryz.func102,Tryz.ntmps102
 go_wp2_with (first
  | (refine qG rfl _ _ rfl Tryz.underlying104 b (zM kv) rfl H.o ?_;intro w1 hi1 hg1 hz1))
 go_frame
 go_loopw [] (λW=>jcn6 w w.heap.size b kv W) (λW=>zk5 W w.heap.size)
 case atStart=>exact⟨kv,kv,hi1,rfl,λp hp _=>hp,λk hk hne=>hg1.block k hk (by simp),hg1.size,hg1.os,hg1.tape,hg1.output⟩
 case round=>
  obtain⟨kv',left,hi,hf,hz,hbl,hsz,hos,htp,hout⟩:=hrel
  have HI:=ja hi;clear hi
  have HF:=ja hf;clear hf
  have HZ:=ja hz;clear hz
  have HB:=ja hbl;clear hbl
  have HO:=ja hos;have HT:=ja htp;have HU:=ja hout;clear hos htp hout
  by_cases hl:left=[]
  ·subst hl
   go_wp2_with (first
    | (refine qm rfl _ rfl w.heap.size b rfl HI.o ?_))
   go_end0
   have hk:kv'=kv.filter nz:=by
    rw[<-HF.o]
    refine(List.filter_eq_self.2 λp hp=>?_).symm
    cases hn:nz p with
    | true=>rfl
    | false=>exact absurd (HZ.o p hp hn) (by simp)
   refine⟨rfl,?_,⟨HO.o,HT.o,HU.o,hsz,λk hk hne=>HB.o k hk (λe=>hne (by rw[e]))⟩⟩
   rw[<-hk]
   exact HI.o.isMap
  ·go_wp2_with (first
    | (refine qn rfl _ rfl w.heap.size b rfl HI.o (λh=>hl (jr6.1 h)) ?_;intro j p w2 hj hi2 hg2 hz2;obtain⟨q,hq,rfl⟩:=jr5 hj;have HI2:=ja hi2;clear hi2)
    | (refine qF rfl _ rfl w.heap.size b rfl HI2.o ?_)
    | (refine jv7 rfl _ _ _ _ rfl Tryz.underlying104 Tryz.underlying3 w.heap.size b rfl rfl HI2.o ?_;intro w4 hi4 hg4 hz4;have HI4:=ja hi4;clear hi4)
    | (go_at_call 103;refine(jbp3 _ _ _).mono ?_;rintro e w3 ⟨rfl,rfl⟩))
   ·have hq0:nz q=false:=by
     have:(q.2==0)=true:=by assumption
     simp only[beq_iff_eq] at this
     simp[nz,this]
    have hqm:q∈kv':=jcb2 HI2.o.cur_mem
    have hnd:(kv'.map (·.1)).Nodup:=by have:=HI2.o.isMap.nodup;rwa [zy1] at this
    have hI:=HI4.o
    rw[jbm2,Zu] at hI
    go_roundw
    case rel=>
     refine⟨zs2 kv' q.1,left.eraseIdx j,hI,?_,?_,?_,?_,?_,?_,?_⟩
     ·rw[jaj9 kv' q hnd hqm hq0];exact HF.o
     ·intro p hp hpz
      refine js9 hq (HZ.o p ((jby5 kv' q.1).subset hp) hpz) (λe=>?_)
      exact jby4 kv' q.1 hnd p hp (by rw[e])
     ·intro k hk hne
      rw[hg4.block k (by omega) (λe=>hne (by cases e;rfl)),hg2.block k (by omega) (λe=>by cases e;omega)]
      exact HB.o k hk hne
     ·omega
     ·rw[hg4.os,hg2.os];exact HO.o
     ·rw[hg4.tape,hg2.tape];exact HT.o
     ·rw[hg4.output,hg2.output];exact HU.o
    case measure=>
     rw[hI.leftN_eq,HI.o.leftN_eq,JN,JN,List.length_eraseIdx_of_lt (by have:=(List.getElem?_eq_some_iff.1 hq).1;exact this)]
     have:=(List.getElem?_eq_some_iff.1 hq).1
     omega
   ·have hq0:nz q=true:=by
     have:(q.2==0)=false:=by assumption
     simp only[beq_eq_false_iff_ne] at this
     simp[nz,this]
    have hI:=HI2.o.nocur
    rw[Zu] at hI
    go_roundw
    case rel=>
     refine⟨kv',left.eraseIdx j,hI,HF.o,?_,?_,?_,?_,?_,?_⟩
     ·intro p hp hpz
      refine js9 hq (HZ.o p hp hpz) (λe=>?_)
      rw[e,hq0] at hpz;cases hpz
     ·intro k hk hne
      rw[hg2.block k (by omega) (λe=>by cases e;omega)]
      exact HB.o k hk hne
     ·omega
     ·rw[hg2.os];exact HO.o
     ·rw[hg2.tape];exact HT.o
     ·rw[hg2.output];exact HU.o
    case measure=>
     rw[hI.leftN_eq,HI.o.leftN_eq,JN,JN,List.length_eraseIdx_of_lt (by have:=(List.getElem?_eq_some_iff.1 hq).1;exact this)]
     have:=(List.getElem?_eq_some_iff.1 hq).1
     omega
attribute [local go_sem] Oper.semAt_some
def jcm6(W0:World)(b B1:Nat)(kv:List (Int×Int))(f:Int×Int->Int)(J:List Int->World->Prop)(A:World):Prop:=
 ∃(pre:List Int) (left:List (Int×Int)),zK A W0.heap.size b (zM kv) (zM left) none/\A.cell? ⟨B1,0,none⟩=some (.map (some b))/\(pre++left.map f).Perm (kv.map f)/\J pre A/\W0.heap.size+1<=A.heap.size
theorem jn5 {α:Type}:∀(l:List α) (j:Nat) (a:α),l[j]?=some a->(a::l.eraseIdx j).Perm l
 | [],_,_,h=>by cases h
 | x::l,0,a,h=>by
  simp only[List.getElem?_cons_zero,Option.some.injEq] at h
  subst h
  exact List.Perm.refl _
 | x::l,j+1,a,h=>by
  simp only[List.getElem?_cons_succ] at h
  simp only[List.eraseIdx_cons_succ]
  exact(List.Perm.swap x a _).trans ((jn5 l j a h).cons x)
theorem zz6 {kv left:List (Int×Int)} {f:Int×Int->Int} {pre:List Int} {j:Nat} {q:Int×Int} (h:(pre++left.map f).Perm (kv.map f)) (hq:left[j]?=some q) :
  ((pre++[f q])++(left.eraseIdx j).map f).Perm (kv.map f):=by
 have h1:=jn5 left j q hq
 refine List.Perm.trans ?_ h
 rw[List.append_assoc]
 refine List.Perm.append_left pre ?_
 have h3:=h1.map f
 simpa using h3
theorem zt5 (b B1:Nat) (kv:List (Int×Int)) (w0:World) (h:zH w0 b kv) (hB1:w0.cell? ⟨B1,0,none⟩=some (.map (some b))) :
  jk6 Tryz.prog 140 #[.pointer (some ⟨B1,0,none⟩)] (λx:Int=>#[.int .i64 x]) (λys=>ys.Perm (kv.map (·.2))) (λpre=>∃rest,(pre++rest).Perm (kv.map (·.2))) (λc=>c=b\/c=B1) 1 w0:=by
 intro l J Jx W hW hJ hJx hY h0
 have hb:b<w0.heap.size:=h.lt
 have hB1l:B1<w0.heap.size:=World.block_lt_of_cell? _ _ hB1
 have hc1:W.cell? ⟨B1,0,none⟩=some (.map (some b)):=(hW.cell (p:=⟨B1,0,none⟩) hB1l).trans hB1
 have hm1:jt W b (zM kv):=jt.below h hW hb
 have HM:=ja hm1;clear hm1
 have HY:=ja hY;clear hY
 have HJ:=ja hJ;clear hJ
 have HJx:=ja hJx;clear hJx
 have H0:=ja h0;clear h0
 have HW:=ja hW;clear hW
 have Hc:=ja h;clear h
 clear hB1
 refine callsIn_of_wp Tryz.func140 rfl trivial ?_
 simp only[Tryz.ntmps140,List.size_toArray,List.length_cons,List.length_nil,Nat.reduceAdd,Nat.reduceSub,Array.replicate_succ,Array.replicate_zero,List.push_toArray,List.append_toArray,List.nil_append,List.cons_append]
 gi_wp2_with (first
  | (refine Qx rfl _ _ rfl Tryz.underlying104 b (zM kv) rfl HM.o ?_;intro w1 hi1 hg1 hz1;have HI1:=ja hi1;clear hi1))
 gi_loopw [] (λA=>jcm6 W b B1 kv (·.2) J A) (λA=>zk5 A W.heap.size)
 case atStart=>
  refine⟨[],kv,HI1.o,?_,by simp,HJ.o _ _ _ _ H0.o hg1 (by simp),by omega⟩
  rw[hg1.cell hc1 (by simp)]
 case round=>
  obtain⟨pre,left,hi,hcb,hp,hJp,hsz⟩:=hrel
  have HI:=ja hi;clear hi
  have HP:=ja hp;clear hp
  have HJp:=ja hJp;clear hJp
  by_cases hl:left=[]
  ·subst hl
   gi_wp2_with (first
    | (refine Qh rfl _ rfl W.heap.size b rfl HI.o ?_))
   go_end0
   have hp:=HP.o
   simp only[List.map_nil,List.append_nil] at hp
   exact⟨⟨_,rfl⟩,.inl ⟨pre,hp,HJp.o⟩⟩
  ·gi_wp2_with (first
    | (refine Qi rfl _ rfl W.heap.size b rfl HI.o (λh=>hl (jr6.1 h)) ?_;intro j p w2 hj hi2 hg2 hz2;obtain⟨q,hq,rfl⟩:=jr5 hj;have HI2:=ja hi2;clear hi2;have HP2:=ja (zz6 HP.o hq);have HQ:=ja hq;clear hq hj;have HJ2:=ja (HJ.o _ _ _ _ HJp.o hg2 (λc e=>by cases e;omega));obtain⟨fn,tm,as_,bd,hy,hR⟩:=HY.o pre q.2 w2 ⟨_,HP2.o⟩ HJ2.o (by omega);have HR:=ja hR;clear hR;have HG:=ja hg2;clear hg2)
    | (refine Qw rfl _ rfl W.heap.size b rfl HI2.o ?_))
   refine⟨rfl,HR.o.mono ?_⟩
   rintro e A (⟨rfl,hJ',hk⟩|⟨rfl,hJx',_⟩)
   ·have HJ':=ja hJ';clear hJ'
    have HK:=ja hk;clear hk
    gi_wp2
    go_roundw
    case rel=>
     have hI:=HI2.o.nocur
     rw[Zu] at hI
     have hK:=HK.o
     have hG:=HG.o
     refine⟨pre++[q.2],left.eraseIdx j,hI.of_blocks (hK.same _ (.inr (by omega))) (hK.same _ (.inl (.inl rfl))),?_,HP2.o,HJ'.o,by have:=hK.size;omega⟩
     rw[World.cell?_of_block (hK.same _ (.inl (.inr rfl))),hG.cell hcb (λe=>by have e':B1=W.heap.size:=Option.some.inj e;have:=HW.o.size;omega)]
    case measure=>
     have hI:=HI2.o.nocur
     rw[Zu] at hI
     have hK:=HK.o
     rw[(hI.of_blocks (hK.same _ (.inr (by omega))) (hK.same _ (.inl (.inl rfl)))).leftN_eq,HI.o.leftN_eq,JN,JN,List.length_eraseIdx_of_lt (List.getElem?_eq_some_iff.1 HQ.o).1]
     have:=(List.getElem?_eq_some_iff.1 HQ.o).1
     omega
   ·have HJx':=ja hJx';clear hJx'
    gi_wp2
    refine bodyPost_ret (results_none rfl _ _ _) rfl ?_
    exact⟨⟨_,rfl⟩,.inr ⟨pre++[q.2],⟨_,HP2.o⟩,HJx'.o⟩⟩
theorem jam7 (b B1:Nat) (kv:List (Int×Int)) (w0:World) (h:zH w0 b kv) (hB1:w0.cell? ⟨B1,0,none⟩=some (.map (some b))) :
  jk6 Tryz.prog 142 #[.pointer (some ⟨B1,0,none⟩)] (λx:Int=>#[.int .i64 x]) (λys=>ys.Perm (kv.map (·.1))) (λpre=>∃rest,(pre++rest).Perm (kv.map (·.1))) (λc=>c=b\/c=B1) 1 w0:=by
 intro l J Jx W hW hJ hJx hY h0
 have hb:b<w0.heap.size:=h.lt
 have hB1l:B1<w0.heap.size:=World.block_lt_of_cell? _ _ hB1
 have hc1:W.cell? ⟨B1,0,none⟩=some (.map (some b)):=(hW.cell (p:=⟨B1,0,none⟩) hB1l).trans hB1
 have hm1:jt W b (zM kv):=jt.below h hW hb
 have HM:=ja hm1;clear hm1
 have HY:=ja hY;clear hY
 have HJ:=ja hJ;clear hJ
 have HJx:=ja hJx;clear hJx
 have H0:=ja h0;clear h0
 have HW:=ja hW;clear hW
 have Hc:=ja h;clear h
 clear hB1
 refine callsIn_of_wp Tryz.func142 rfl trivial ?_
 simp only[Tryz.ntmps142,List.size_toArray,List.length_cons,List.length_nil,Nat.reduceAdd,Nat.reduceSub,Array.replicate_succ,Array.replicate_zero,List.push_toArray,List.append_toArray,List.nil_append,List.cons_append]
 gi_wp2_with (first
  | (refine Qx rfl _ _ rfl Tryz.underlying104 b (zM kv) rfl HM.o ?_;intro w1 hi1 hg1 hz1;have HI1:=ja hi1;clear hi1))
 gi_loopw [] (λA=>jcm6 W b B1 kv (·.1) J A) (λA=>zk5 A W.heap.size)
 case atStart=>
  refine⟨[],kv,HI1.o,?_,by simp,HJ.o _ _ _ _ H0.o hg1 (by simp),by omega⟩
  rw[hg1.cell hc1 (by simp)]
 case round=>
  obtain⟨pre,left,hi,hcb,hp,hJp,hsz⟩:=hrel
  have HI:=ja hi;clear hi
  have HP:=ja hp;clear hp
  have HJp:=ja hJp;clear hJp
  by_cases hl:left=[]
  ·subst hl
   gi_wp2_with (first
    | (refine Qh rfl _ rfl W.heap.size b rfl HI.o ?_))
   go_end0
   have hp:=HP.o
   simp only[List.map_nil,List.append_nil] at hp
   exact⟨⟨_,rfl⟩,.inl ⟨pre,hp,HJp.o⟩⟩
  ·gi_wp2_with (first
    | (refine Qi rfl _ rfl W.heap.size b rfl HI.o (λh=>hl (jr6.1 h)) ?_;intro j p w2 hj hi2 hg2 hz2;obtain⟨q,hq,rfl⟩:=jr5 hj;have HI2:=ja hi2;clear hi2;have HP2:=ja (zz6 HP.o hq);have HQ:=ja hq;clear hq hj;have HJ2:=ja (HJ.o _ _ _ _ HJp.o hg2 (λc e=>by cases e;omega));obtain⟨fn,tm,as_,bd,hy,hR⟩:=HY.o pre q.1 w2 ⟨_,HP2.o⟩ HJ2.o (by omega);have HR:=ja hR;clear hR;have HG:=ja hg2;clear hg2)
    | (refine Qw rfl _ rfl W.heap.size b rfl HI2.o ?_))
   refine⟨rfl,HR.o.mono ?_⟩
   rintro e A (⟨rfl,hJ',hk⟩|⟨rfl,hJx',_⟩)
   ·have HJ':=ja hJ';clear hJ'
    have HK:=ja hk;clear hk
    gi_wp2
    go_roundw
    case rel=>
     have hI:=HI2.o.nocur
     rw[Zu] at hI
     have hK:=HK.o
     have hG:=HG.o
     refine⟨pre++[q.1],left.eraseIdx j,hI.of_blocks (hK.same _ (.inr (by omega))) (hK.same _ (.inl (.inl rfl))),?_,HP2.o,HJ'.o,by have:=hK.size;omega⟩
     rw[World.cell?_of_block (hK.same _ (.inl (.inr rfl))),hG.cell hcb (λe=>by have e':B1=W.heap.size:=Option.some.inj e;have:=HW.o.size;omega)]
    case measure=>
     have hI:=HI2.o.nocur
     rw[Zu] at hI
     have hK:=HK.o
     rw[(hI.of_blocks (hK.same _ (.inr (by omega))) (hK.same _ (.inl (.inl rfl)))).leftN_eq,HI.o.leftN_eq,JN,JN,List.length_eraseIdx_of_lt (List.getElem?_eq_some_iff.1 HQ.o).1]
     have:=(List.getElem?_eq_some_iff.1 HQ.o).1
     omega
   ·have HJx':=ja hJx';clear hJx'
    gi_wp2
    refine bodyPost_ret (results_none rfl _ _ _) rfl ?_
    exact⟨⟨_,rfl⟩,.inr ⟨pre++[q.1],⟨_,HP2.o⟩,HJx'.o⟩⟩
attribute [local go_sem] Oper.semAt_some
theorem Tryz.infoInt:(Tryz.prog.info? 3).map (λi=>(i.zero,i.size,i.bytes))=some (some (.int .i64 0),1,8):=by kernel_rfl
def jcn5(w:World)(B0 base:Nat)(pre:List Int)(W:World):Prop:=
 ∃v,ZG W B0 52 v/\W.ownsRow base 3 1 v pre.length (pre.map (Value.int .i64))/\Below w.heap.size w W
theorem zr9 {S Sp:List Int->Prop} {R:Nat->Prop} {k gf:Nat} {lb:Array Value} {w0 w:World}
  (eg:∀args w,(callFunc gf args).run Tryz.prog w=.ok (.enter gf args) w)
  (hseq:jk6 Tryz.prog gf lb (λx:Int=>#[.int .i64 x]) S Sp R k w0) (hb0:Below w0.heap.size w0 w) (hR:∀b,R b->b<w.heap.size) (hN:∀pre,Sp pre->pre.length<=1000000) :
  Calls Tryz.prog 139 #[.slice none 0 0,.func (.func gf) #[] lb] w λe w'=>∃ys A n c,S ys/\e=.returned (.slice A n c)/\w'.ownsRow w.heap.size 3 1 (.slice A n c) n (ys.map (Value.int .i64))/\Below w.heap.size w w':=by
 obtain⟨i0,hi0,hz0,hz1,hz2⟩:=info_parts Tryz.infoInt
 have Hs:=ja hseq;clear hseq
 have Hb:=ja hb0;clear hb0
 have HR:=ja hR;clear hR
 have HN:=ja hN;clear hN
 have HE:=ja eg;clear eg
 refine(callsIn_wide (n:=0)).1 ?_
 refine callsIn_of_wp_marks Tryz.func139 rfl trivial ?_ rfl
 simp only[Tryz.ntmps139,List.size_toArray,List.length_cons,List.length_nil,Nat.reduceAdd,Nat.reduceSub,Array.replicate_succ,Array.replicate_zero,List.push_toArray,List.append_toArray,List.nil_append,List.cons_append]
 gi_wp2
 refine QV (gf:=gf) (lb:=lb) rfl HE.o Hs.o (w0:=w0) (Hb.o.trans ?_) (λb hb=>?_) (λ_=>rfl) (λpre W=>jcn5 w w.heap.size (w.heap.size+3+k) pre W) (λ_ _ _=>False) ?_ ?_ ?_ ?_ ?_ ?_
 ·exact((Below.refl _ w).alloc (Nat.le_refl _) _).mono Hb.o.size
 ·have:=HR.o b hb;simp;omega
 ·rintro s A B row ⟨v,hx,ho,hbl⟩ hg hr
  simp only[World.size_alloc] at hr
  refine⟨v,hx.grown hg (λe=>by have:=hr _ e;omega),ho.kept hg ?_,hbl.grown hg hbl.size (λj e=>by have:=hr j e;omega)⟩
  by_cases hv:v.ownBlock=none
  ·exact .inl hv
  ·refine .inr (λe=>?_)
   cases hrow:row with
   | none=>rw[hrow] at e;exact hv e
   | some j=>have h1:=hr j hrow;rw[hrow] at e;have:=(ho.lt j e).1;omega
 ·rintro _ _ _ _ _ h;exact h.elim
 ·exact⟨_,ZG.new w _ _,World.ownsRow_nil _ _ _ _,(Below.refl _ w).alloc (Nat.le_refl _) _⟩
 ·rintro pre x W hsp ⟨v,hx,ho,hbl⟩ hsz
  have hlen:=HN.o _ hsp
  simp only[List.length_append,List.length_cons,List.length_nil] at hlen
  simp only[World.size_alloc] at hsz
  have HX:=ja hx;clear hx
  have HO:=ja ho;clear ho
  have HBl:=ja hbl;clear hbl
  simp only[World.size_alloc]
  gi_wp2
  refine⟨KeepB.refl _ _,?_⟩
  intro W2 hg2 hzz
  have hsz2:w.heap.size+3+k<=W2.heap.size:=by omega
  clear hzz
  have HX2:=ja (HX.o.grown hg2 (by simp;omega))
  have HO2:=ja (HO.o.kept hg2 (by
   by_cases hv:v.ownBlock=none
   ·exact .inl hv
   ·refine .inr (λe=>?_)
    have:=(HO.o.lt _ e).1
    omega))
  have HBl2:=ja (HBl.o.grown hg2 HBl.o.size (λj e=>by cases e;omega))
  have hcx:=HX2.o.cell
  have hfx:=HX2.o.free
  have hlt0:=HX2.o.lt
  have Hg2:=ja hg2;clear hg2
  gi_wp2_with (first
   | (gi_at_builtin;refine wpListIn_append_own _ rfl _ _ 52 rfl (w.heap.size+3+k) 3 i0 (.int .i64 0) 1 8 Tryz.underlying52 hi0 hz0 hz1 hz2 rfl (by decide) v pre.length _ rfl (HO2.o.alloc _) ⟨W2.heap.size,0,none⟩ 1 1 [.int .i64 x] rfl rfl (JG _ _ _) (by simp[Value.oneCell']) (by unfold maxLen;omega) (by omega) (by simp;omega) ?_;intro v' w3 hown' hgrow _;obtain⟨A',c',rfl⟩:=jx hown';have hne:=zc7 HO2.o (b:=w.heap.size) (by omega);have hx3:=(HX2.o.alloc (.cells #[.int .i64 x] 3)).grown hgrow hne;have hcx3:=hx3.cell;have hfx3:=hx3.free;have HO3:=ja hown';have HX3:=ja hx3;have HG3:=ja hgrow;clear hown' hx3 hgrow hne))
  ·have hlt:∀b,(R b\/(w.heap.size+1<=b/\b<w.heap.size+1+2+k))->b<W2.heap.size:=by
    rintro b (h|h)
    ·have:=HR.o b h;omega
    ·omega
   have hnb:∀b,v.ownBlock=some b->¬(R b\/(w.heap.size+1<=b/\b<w.heap.size+1+2+k)):=by
    intro b hb
    have h1:=(HO2.o.lt b hb).1
    rintro(h|h)
    ·have:=HR.o b h;omega
    ·omega
   have hkp:=((KeepB.refl (λb=>R b\/(w.heap.size+1<=b/\b<w.heap.size+1+2+k)) W2).alloc hlt (.cells #[.int .i64 x] 3)).trans (KeepB.of_grown HG3.o (λb hb=>by have:=hlt b hb;simp;omega) hnb)
   refine⟨hkp.setCell (p:=⟨w.heap.size,0,none⟩) (show ¬(R w.heap.size\/(w.heap.size+1<=w.heap.size/\w.heap.size<w.heap.size+1+2+k)) by
    rintro(h|h)
    ·have:=HR.o _ h;omega
    ·omega) _,?_⟩
   refine⟨_,HX3.o.set_ _,?_,?_⟩
   ·have:=ownsRow_setCell_other HO3.o (a:=⟨w.heap.size,0,none⟩) (zc7 HO3.o (show w.heap.size<_ by omega)) (.slice A' (pre.length+1) c')
    simpa using this
   ·refine(((HBl2.o.alloc HBl2.o.size _).grown HG3.o (by have:=HBl2.o.size;simp;omega) (λj e=>by have:=(HO2.o.lt j e).1;omega))).setCell (p:=⟨w.heap.size,0,none⟩) (Nat.le_refl _) _
 ·rintro xs W hS ⟨v,hx,ho,hbl⟩ hD
  simp only[World.size_alloc] at hD
  obtain⟨A,c,rfl⟩:=jx ho
  have hcx:=hx.cell
  have HO:=ja ho;clear ho
  have HX:=ja hx;clear hx
  have HB:=ja hbl;clear hbl
  have HD:=ja hD;clear hD
  simp only[World.size_alloc]
  gi_wp2
  refine⟨by simp,.inl ⟨_,_,rfl,run_takeDeferred HD.o,?_⟩⟩
  refine⟨_,results_tmp rfl _ _ _,xs,A,xs.length,c,hS,rfl,?_,?_⟩
  ·have h1:=HO.o.kept (jZ (w.heap.size+1) (.deferred none)) (.inr (by
    intro e
    have:=(HO.o.lt _ e).1
    omega))
   obtain⟨h2,h3⟩:=h1
   refine⟨h2,?_⟩
   rcases h3 with h3|⟨g,cap,cur,hv,hb,r⟩
   ·exact .inl h3
   ·exact .inr ⟨g,cap,cur,hv,by omega,r⟩
  ·exact HB.o.grown (jZ _ _) HB.o.size (λj e=>by cases e;omega)
 ·rintro _ _ _ _ h;exact h.elim
theorem zk8(b:Nat)(w:World):Calls Tryz.prog 105 #[.map (some b)] w λe w'=>e=.returned (.func (.func 140) #[] #[.pointer (some ⟨w.heap.size,0,none⟩)])/\w'=w.alloc (.cells #[.map (some b)] 104):=by
 go_enter Tryz.func105,Tryz.ntmps105
 go_wp2
 go_ret
 exact⟨rfl,rfl⟩
theorem jaf2(b:Nat)(w:World):Calls Tryz.prog 107 #[.map (some b)] w λe w'=>e=.returned (.func (.func 142) #[] #[.pointer (some ⟨w.heap.size,0,none⟩)])/\w'=w.alloc (.cells #[.map (some b)] 104):=by
 go_enter Tryz.func107,Tryz.ntmps107
 go_wp2
 go_ret
 exact⟨rfl,rfl⟩
theorem zb9 {S Sp:List Int->Prop} {R:Nat->Prop} {k gf:Nat} {lb:Array Value} {w0 w:World}
  (eg:∀args w,(callFunc gf args).run Tryz.prog w=.ok (.enter gf args) w)
  (hseq:jk6 Tryz.prog gf lb (λx:Int=>#[.int .i64 x]) S Sp R k w0) (hb0:Below w0.heap.size w0 w) (hR:∀b,R b->b<w.heap.size) (hN:∀pre,Sp pre->pre.length<=1000000) :
  Calls Tryz.prog 104 #[.func (.func gf) #[] lb] w λe w'=>∃ys A n c,S ys/\e=.returned (.slice A n c)/\w'.ownsRow w.heap.size 3 1 (.slice A n c) n (ys.map (Value.int .i64))/\Below w.heap.size w w':=by
 have H:=ja (zr9 eg hseq hb0 hR hN)
 clear eg hseq hb0 hR hN
 go_enter Tryz.func104,Tryz.ntmps104
 go_wp2_with fail
 refine H.o.mono ?_
 rintro e w' ⟨ys,A,n,c,hS,rfl,ho,hb⟩
 go_wp2
 go_ret
 exact⟨ys,A,n,c,hS,rfl,ho,hb⟩
theorem zs4(args:Array Value)(w:World):(callFunc 140 args).run Tryz.prog w=.ok (.enter 140 args) w:=enters_of Tryz.func140 (by kernel_rfl) rfl args w
theorem jak5(args:Array Value)(w:World):(callFunc 142 args).run Tryz.prog w=.ok (.enter 142 args) w:=enters_of Tryz.func142 (by kernel_rfl) rfl args w
theorem zh8 (b:Nat) (kv:List (Int×Int)) (w:World) (h:zH w b kv) (hn:kv.length<=1000000) :
  Calls Tryz.prog 104 #[.func (.func 140) #[] #[.pointer (some ⟨w.heap.size,0,none⟩)]] (w.alloc (.cells #[.map (some b)] 104)) λe w'=>
   ∃(ys:List Int) (A:Option Addr) (n c:Nat),ys.Perm (kv.map (·.2))/\e=.returned (.slice A n c)/\w'.ownsRow (w.heap.size+1) 3 1 (.slice A n c) n (ys.map (Value.int .i64))/\Below (w.heap.size+1) (w.alloc (.cells #[.map (some b)] 104)) w':=by
 have hb:=h.lt
 have hg:=zt5 b w.heap.size kv (w.alloc (.cells #[.map (some b)] 104)) (jt.alloc h _) (ZG.new w _ _).cell
 have hc:=zb9 zs4 hg (Below.refl _ _) (by rintro c (rfl|rfl)<;>simp<;>omega) (by
  rintro pre ⟨rest,hp⟩
  have:=hp.length_eq
  simp at this
  omega)
 simpa using hc
theorem jac3 (b:Nat) (kv:List (Int×Int)) (w:World) (h:zH w b kv) (hn:kv.length<=1000000) :
  Calls Tryz.prog 104 #[.func (.func 142) #[] #[.pointer (some ⟨w.heap.size,0,none⟩)]] (w.alloc (.cells #[.map (some b)] 104)) λe w'=>
   ∃(ys:List Int) (A:Option Addr) (n c:Nat),ys.Perm (kv.map (·.1))/\e=.returned (.slice A n c)/\w'.ownsRow (w.heap.size+1) 3 1 (.slice A n c) n (ys.map (Value.int .i64))/\Below (w.heap.size+1) (w.alloc (.cells #[.map (some b)] 104)) w':=by
 have hb:=h.lt
 have hg:=jam7 b w.heap.size kv (w.alloc (.cells #[.map (some b)] 104)) (jt.alloc h _) (ZG.new w _ _).cell
 have hc:=zb9 jak5 hg (Below.refl _ _) (by rintro c (rfl|rfl)<;>simp<;>omega) (by
  rintro pre ⟨rest,hp⟩
  have:=hp.length_eq
  simp at this
  omega)
 simpa using hc
def jB(l:List (Value×Value)):List Value:=l.flatMap λp=>[p.1,p.2]
theorem Jj(l:List (Value×Value)):(jB l).length=l.length*2:=by
 unfold jB
 induction l with
 | nil=>rfl
 | cons p t ih=>simp only[List.flatMap_cons,List.length_append,List.length_cons,List.length_nil,ih];omega
theorem jm8:∀(l:List (Value×Value)) (i:Nat) (h:i<l.length),(jB l)[i*2]?=some l[i].1/\(jB l)[i*2+1]?=some l[i].2:=by
 intro l
 induction l with
 | nil=>intro i h;simp at h
 | cons p t ih=>
  intro i h
  cases i with
  | zero=>simp[jB]
  | succ i=>
   have h1:=ih i (by simpa using h)
   have e:jB (p::t)=[p.1,p.2]++jB t:=rfl
   rw[e,List.getElem?_append_right (by simp;omega),List.getElem?_append_right (by simp;omega)]
   simpa [show(i+1)*2-2=i*2 by omega,show(i+1)*2+1-2=i*2+1 by omega] using h1
theorem qd{w:World}{B n c:Nat}{A:Option Addr}{l:List (Value×Value)}(h:Rd w B 2 A n c (jB l)):l.length=n:=by
 have h1:=h.len
 rw[Jj] at h1
 omega
theorem zn1 {w:World} {B n c:Nat} {A:Option Addr} {l:List (Value×Value)} (h:Rd w B 2 A n c (jB l)) {i:Nat} (hi:i<l.length) :
  ∃ad:Addr,A=some ad/\w.cell? (ad.add (i*2))=some l[i].1/\w.cell? ⟨(ad.add (i*2)).block,(ad.add (i*2)).off+1,none⟩=some l[i].2:=by
 have hl:=qd h
 obtain⟨ad,e,_,hc⟩:=h.addr (by omega)
 obtain⟨h1,h2⟩:=jm8 l i hi
 exact⟨ad,e,hc _ _ h1,by have h3:=hc _ _ h2;rw[<-zh1] at h3;exact h3⟩
def jf3{α:Type}(l:List α)(p:α->Bool):Int:=match l.findIdx? p with|some i=>(i:Int)|none=>-1
theorem jh9{α:Type}{l:List α}{p:α->Bool}{k:Nat}(h:k<l.length)(hk:p l[k]=true)(hno:∀j (hj:j<k),p (l[j]'(by omega))=false):jf3 l p=(k:Int):=by
 unfold jf3
 rw[List.findIdx?_eq_some_iff_getElem.2 ⟨h,hk,λj hj=>by simp[hno j hj]⟩]
theorem jh8{α:Type}{l:List α}{p:α->Bool}(hno:∀j (h:j<l.length),p l[j]=false):jf3 l p=-1:=by
 unfold jf3
 rw[List.findIdx?_eq_none_iff.2 (λx hx=>by obtain⟨j,hj,rfl⟩:=List.mem_iff_getElem.1 hx;exact hno j hj)]
theorem js3{α:Type}(l:List α)(p:α->Bool):decide (0<=jf3 l p)=l.any p:=by
 unfold jf3
 cases h:l.findIdx? p with
 | none=>
  rw[List.findIdx?_eq_none_iff] at h
  have:l.any p=false:=List.any_eq_false.2 (λx hx=>by simp[h x hx])
  rw[this];decide
 | some i=>
  obtain⟨hi,hp,_⟩:=List.findIdx?_eq_some_iff_getElem.1 h
  have:l.any p=true:=List.any_eq_true.2 ⟨l[i],by simp,hp⟩
  rw[this];simp
theorem jf4 {α:Type} (enc:α->Value×Value) (A:Option Addr) (n c B gf:Nat) (lb:Array Value) (l:List α) (p:α->Bool) (w:World) (hR:Rd w B 2 A n c (jB (l.map enc))) (hB:B<=w.heap.size)
  (eg:∀args w,(callFunc gf args).run Tryz.prog w=.ok (.enter gf args) w)
  (hp:∀W x,x∈l->Below w.heap.size w W->Calls Tryz.prog gf (#[.agg #[(enc x).1,(enc x).2]]++lb) W λe W'=>e=.returned (.bool (p x))/\Below W.heap.size W W') :
  Calls Tryz.prog 101 #[.slice A n c,.func (.func gf) #[] lb] w λe w'=>e=.returned (.int .i64 (jf3 l p))/\Below w.heap.size w w':=by
 have hm:=hR.nmax
 obtain rfl:l.length=n:=by have:=qd hR;simpa using this
 have HP:=ja hp;clear hp
 have HR:=ja hR;clear hR
 go_enter Tryz.func101,Tryz.ntmps101
 go_wp2
 go_loopw [8] (λi W=>∃k:Nat,k<=l.length/\i=.int .i64 (k:Int)/\(∀j (h:j<l.length),j<k->p l[j]=false)/\Below w.heap.size w W) (λi _=>l.length-(intOf i).toNat)
 case atStart=>exact⟨0,by omega,rfl,λj _ h=>by omega,Below.refl _ _⟩
 case round=>
  obtain⟨k,hk,rfl,hno,hbl⟩:=hrel
  have HNO:=ja hno;clear hno
  have HB:=ja hbl;clear hbl
  by_cases hlt:k<l.length
  ·obtain⟨ad,rfl,hc0,hc1⟩:=zn1 (HR.o.below (HB.o.mono hB)) (i:=k) (by simpa using hlt)
   simp only[List.getElem_map] at hc0 hc1
   have HC:=ja (HP.o wr l[k] (by simp) HB.o)
   clear hB
   generalize hx:l[k]=x at *
   have HX:=ja hx;clear hx
   generalize (enc x).1=a at *
   generalize (enc x).2=b at *
   cases hpx:p x
   ·have HPX:=ja hpx;clear hpx
    go_wp2_with (first
     | (refine(HC.o).mono ?_;rintro e w1 ⟨rfl,hb1⟩;rw[HPX.o];have HB1:=ja hb1;clear hb1))
    go_roundw
    case rel=>exact⟨k+1,by omega,by go_num,λj h hj=>by
     rcases Nat.lt_or_ge j k with h1|h1
     ·exact HNO.o j h h1
     ·obtain rfl:j=k:=by omega
      rw[HX.o];exact HPX.o,Zy HB.o HB1.o HB.o.size⟩
    case measure=>simp[intOf];omega
   ·have HPX:=ja hpx;clear hpx
    go_wp2_with (first
     | (refine(HC.o).mono ?_;rintro e w1 ⟨rfl,hb1⟩;rw[HPX.o];have HB1:=ja hb1;clear hb1))
    go_ret
    exact⟨qK (jh9 hlt (by rw[HX.o];exact HPX.o) (λj h=>HNO.o j (by omega) h)).symm,Zy HB.o HB1.o HB.o.size⟩
  ·obtain rfl:k=l.length:=by omega
   go_wp2
   go_ret
   exact⟨qK (jh8 (λj h=>HNO.o j h h)).symm,HB.o⟩
theorem jr1 {α:Type} (enc:α->Value×Value) (A:Option Addr) (n c B gf:Nat) (lb:Array Value) (l:List α) (p:α->Bool) (w:World) (hR:Rd w B 2 A n c (jB (l.map enc))) (hB:B<=w.heap.size)
  (eg:∀args w,(callFunc gf args).run Tryz.prog w=.ok (.enter gf args) w)
  (hp:∀W x,x∈l->Below w.heap.size w W->Calls Tryz.prog gf (#[.agg #[(enc x).1,(enc x).2]]++lb) W λe W'=>e=.returned (.bool (p x))/\Below W.heap.size W W') :
  Calls Tryz.prog 61 #[.slice A n c,.func (.func gf) #[] lb] w λe w'=>e=.returned (.bool (l.any p))/\Below w.heap.size w w':=by
 have H:=ja (jf4 enc A n c B gf lb l p w hR hB eg hp)
 have HI:=ja (js3 l p)
 clear hR hB eg hp
 generalize jf3 l p=i at *
 generalize l.any p=r at *
 go_enter Tryz.func61,Tryz.ntmps61
 go_wp2_with fail
 refine H.o.mono ?_
 rintro e w' ⟨rfl,hb⟩
 have HB:=ja hb;clear hb
 go_wp2
 all_goals go_ret
 all_goals refine⟨?_,HB.o⟩
 all_goals rw[<-HI.o];rfl
theorem jy6 {α:Type} (enc:α->Value×Value) (A:Option Addr) (n c B gf:Nat) (lb:Array Value) (l:List α) (p:α->Bool) (w:World) (hR:Rd w B 2 A n c (jB (l.map enc))) (hB:B<=w.heap.size)
  (eg:∀args w,(callFunc gf args).run Tryz.prog w=.ok (.enter gf args) w)
  (hp:∀W x,x∈l->Below w.heap.size w W->Calls Tryz.prog gf (#[.agg #[(enc x).1,(enc x).2]]++lb) W λe W'=>e=.returned (.bool (p x))/\Below W.heap.size W W') :
  Calls Tryz.prog 143 #[.slice A n c,.func (.func gf) #[] lb] w λe w'=>e=.returned (.int .i64 (jf3 l p))/\Below w.heap.size w w':=by
 have hm:=hR.nmax
 obtain rfl:l.length=n:=by have:=qd hR;simpa using this
 have HP:=ja hp;clear hp
 have HR:=ja hR;clear hR
 go_enter Tryz.func143,Tryz.ntmps143
 go_wp2
 go_loopw [8] (λi W=>∃k:Nat,k<=l.length/\i=.int .i64 (k:Int)/\(∀j (h:j<l.length),j<k->p l[j]=false)/\Below w.heap.size w W) (λi _=>l.length-(intOf i).toNat)
 case atStart=>exact⟨0,by omega,rfl,λj _ h=>by omega,Below.refl _ _⟩
 case round=>
  obtain⟨k,hk,rfl,hno,hbl⟩:=hrel
  have HNO:=ja hno;clear hno
  have HB:=ja hbl;clear hbl
  by_cases hlt:k<l.length
  ·obtain⟨ad,rfl,hc0,hc1⟩:=zn1 (HR.o.below (HB.o.mono hB)) (i:=k) (by simpa using hlt)
   simp only[List.getElem_map] at hc0 hc1
   have HC:=ja (HP.o wr l[k] (by simp) HB.o)
   clear hB
   generalize hx:l[k]=x at *
   have HX:=ja hx;clear hx
   generalize (enc x).1=a at *
   generalize (enc x).2=b at *
   cases hpx:p x
   ·have HPX:=ja hpx;clear hpx
    go_wp2_with (first
     | (refine(HC.o).mono ?_;rintro e w1 ⟨rfl,hb1⟩;rw[HPX.o];have HB1:=ja hb1;clear hb1))
    go_roundw
    case rel=>exact⟨k+1,by omega,by go_num,λj h hj=>by
     rcases Nat.lt_or_ge j k with h1|h1
     ·exact HNO.o j h h1
     ·obtain rfl:j=k:=by omega
      rw[HX.o];exact HPX.o,Zy HB.o HB1.o HB.o.size⟩
    case measure=>simp[intOf];omega
   ·have HPX:=ja hpx;clear hpx
    go_wp2_with (first
     | (refine(HC.o).mono ?_;rintro e w1 ⟨rfl,hb1⟩;rw[HPX.o];have HB1:=ja hb1;clear hb1))
    go_ret
    exact⟨qK (jh9 hlt (by rw[HX.o];exact HPX.o) (λj h=>HNO.o j (by omega) h)).symm,Zy HB.o HB1.o HB.o.size⟩
  ·obtain rfl:k=l.length:=by omega
   go_wp2
   go_ret
   exact⟨qK (jh8 (λj h=>HNO.o j h h)).symm,HB.o⟩
theorem jk5 {α:Type} (enc:α->Value×Value) (A:Option Addr) (n c B gf:Nat) (lb:Array Value) (l:List α) (p:α->Bool) (w:World) (hR:Rd w B 2 A n c (jB (l.map enc))) (hB:B<=w.heap.size)
  (eg:∀args w,(callFunc gf args).run Tryz.prog w=.ok (.enter gf args) w)
  (hp:∀W x,x∈l->Below w.heap.size w W->Calls Tryz.prog gf (#[.agg #[(enc x).1,(enc x).2]]++lb) W λe W'=>e=.returned (.bool (p x))/\Below W.heap.size W W') :
  Calls Tryz.prog 109 #[.slice A n c,.func (.func gf) #[] lb] w λe w'=>e=.returned (.bool (l.any p))/\Below w.heap.size w w':=by
 have H:=ja (jy6 enc A n c B gf lb l p w hR hB eg hp)
 have HI:=ja (js3 l p)
 clear hR hB eg hp
 generalize jf3 l p=i at *
 generalize l.any p=r at *
 go_enter Tryz.func109,Tryz.ntmps109
 go_wp2_with fail
 refine H.o.mono ?_
 rintro e w' ⟨rfl,hb⟩
 have HB:=ja hb;clear hb
 go_wp2
 all_goals go_ret
 all_goals refine⟨?_,HB.o⟩
 all_goals rw[<-HI.o];rfl
def jr7(t:Int×Int):Value×Value:=(.int .i64 t.1,.int .i64 t.2)
def jr(ts:List (Int×Int)):List Value:=jB (ts.map jr7)
def ji(w:World)(B:Nat)(A:Option Addr)(n c:Nat)(ts:List (Int×Int)):Prop:=Rd w B 2 A n c (jr ts)
theorem ji.len{w:World}{B n c:Nat}{A:Option Addr}{ts:List (Int×Int)}(h:ji w B A n c ts):ts.length=n:=by
 have:=qd h;simpa using this
theorem ji.at_ {w:World} {B n c:Nat} {A:Option Addr} {ts:List (Int×Int)} (h:ji w B A n c ts) {i:Nat} (hi:i<ts.length) :
  ∃ad:Addr,A=some ad/\w.cell? (ad.add (i*2))=some (.int .i64 ts[i].1)/\w.cell? ⟨(ad.add (i*2)).block,(ad.add (i*2)).off+1,none⟩=some (.int .i64 ts[i].2):=by
 obtain⟨ad,e,h1,h2⟩:=zn1 h (i:=i) (by simpa using hi)
 simp only[List.getElem_map] at h1 h2
 exact⟨ad,e,h1,h2⟩
theorem ji.below{w w':World}{B n c:Nat}{A:Option Addr}{ts:List (Int×Int)}(h:ji w B A n c ts)(hb:Below B w w'):ji w' B A n c ts:=Rd.below h hb
theorem ji.more{w:World}{B B' n c:Nat}{A:Option Addr}{ts:List (Int×Int)}(h:ji w B A n c ts)(hb:B<=B'):ji w B' A n c ts:=Rd.more h hb
theorem ji.nmax{w:World}{B n c:Nat}{A:Option Addr}{ts:List (Int×Int)}(h:ji w B A n c ts):n<=9223372036854775807:=Rd.nmax h
def okT(last:Int)(t:Int×Int):Bool:=decide (last<t.2)&&decide (t.2<=1000)&&decide (t.1≠0)&&zz t.1 (-100000) 100000&&decide ((jo t.2.toNat).1<=1)
def Qj:Int->List (Int×Int)->Bool
 | _,[]=>true
 | last,t::ts=>okT last t&&Qj t.2 ts
def js(den:Int)(ts:List (Int×Int)):Bool:=zz den 1 100000&&decide (ts.length<=4)&&Qj 0 ts&&decide (jM (den::ts.map (·.1))=1)
def QK(b:Bool):Int:=if b then 0 else 2
theorem zv9{ts:List (Int×Int)}{last:Int}{k:Nat}(hk:k<ts.length)(h:Qj 0 ts=Qj last (ts.drop k)):Qj 0 ts=(okT last ts[k]&&Qj ts[k].2 (ts.drop (k+1))):=by
 rw[h,List.drop_eq_getElem_cons hk];rfl
theorem zf4{l m:List Int}(h:l.Perm m):∀g:Nat,l.foldl (λg x=>Nat.gcd g x.natAbs) g=m.foldl (λg x=>Nat.gcd g x.natAbs) g:=by
 induction h with
 | nil=>intro g;rfl
 | cons x _ ih=>intro g;exact ih _
 | swap x y l=>
  intro g
  simp only[List.foldl_cons]
  rw[Nat.gcd_assoc,Nat.gcd_assoc,Nat.gcd_comm y.natAbs]
 | trans _ _ ih1 ih2=>intro g;rw[ih1,ih2]
theorem jh5{l m:List Int}(h:l.Perm m):jM l=jM m:=zf4 h 0
theorem qT(l:List Int):∀x∈l,jM l∣x.natAbs:=by
 intro x hx
 obtain⟨a,b,rfl⟩:=List.append_of_mem hx
 have hp:(a++x::b).Perm ((a++b)++[x]):=by
  refine List.Perm.trans (List.perm_middle) ?_
  exact(List.perm_append_singleton x (a++b)).symm
 rw[jh5 hp,jh6]
 exact Nat.gcd_dvd_right _ _
theorem ZK{l:List Int}{x:Int}(hx:x∈l)(h0:x≠0):1<=jM l:=by
 have h:=qT l x hx
 rcases Nat.eq_zero_or_pos (jM l)with h1|h1
 ·rw[h1] at h
  have:=Nat.eq_zero_of_zero_dvd h
  omega
 ·exact h1
def jcn4(w:World)(den:Int)(ts:List (Int×Int))(v l i:Value)(W:World):Prop:=
 ∃(k:Nat) (last:Int),k<=ts.length/\i=.int .i64 (k:Int)/\l=.int .i64 last/\0<=last/\last<=1000/\W.ownsRow (w.heap.size+1) 3 1 v (k+1) ((den::(ts.take k).map (·.1)).map (Value.int .i64)) /\
  Qj 0 ts=Qj last (ts.drop k)/\(∀x∈ts.take k,-100000<=x.1/\x.1<=100000)/\Below w.heap.size w W
theorem jy3 (den:Int) (A:Option Addr) (n c B:Nat) (ts:List (Int×Int)) (w:World) (hR:ji w B A n c ts) (hB:B<=w.heap.size) :
  Calls Tryz.prog 49 #[.agg #[.int .i64 den,.slice A n c]] w λe w'=>e=.returned (.int .i64 (QK (js den ts)))/\Below w.heap.size w w':=by
 have hm:=hR.nmax
 obtain rfl:=hR.len
 have HR:=ja hR;clear hR
 obtain⟨i0,hi0,hz0,hz1,hz2⟩:=info_parts Tryz.infoInt
 cases hd:zz den 1 100000
 ·have HN:=ja (show js den ts=false by unfold js;rw[hd];rfl)
  have HD:=ja hd;clear hd
  go_enter Tryz.func49,Tryz.ntmps49
  go_wp2_with (first
   | (go_at_call 60;refine(zj _ _ _ _).mono ?_;rintro e w1 ⟨rfl,rfl⟩;rw[HD.o]))
  go_ret
  exact⟨by rw[HN.o];rfl,(Below.refl _ _).alloc (Nat.le_refl _) _⟩
 ·have HD:=ja hd;clear hd
  by_cases h4:ts.length<=4
  ·have hd4:decide (4<(ts.length:Int))=false:=by simp;omega
   go_enter Tryz.func49,Tryz.ntmps49
   go_wp2_with (first
    | (go_at_call 60;refine(zj _ _ _ _).mono ?_;rintro e w1 ⟨rfl,rfl⟩;rw[HD.o]))
   go_loopw [3,4,25] (λv l i W=>jcn4 w den ts v l i W) (λ_ _ i _=>ts.length-(intOf i).toNat)
   case atStart=>
    refine⟨0,0,by omega,rfl,rfl,by omega,by omega,?_,rfl,by simp,((Below.refl _ _).alloc (Nat.le_refl _) _).alloc (by simp) _⟩
    have:=World.ownsRow_lit (base:=w.heap.size+1) (e:=3) (size:=1) (w.alloc (.cells #[.int .i64 den,.slice A ts.length c] 24)) #[.int .i64 den] 1 (by simp) (by unfold maxLen;omega) rfl
    simpa using this
   case round=>
    obtain⟨k,last,hk,rfl,rfl,hl0,hl1,ho,hchk,hco,hbl⟩:=hrel
    have HO:=ja ho;clear ho
    have HC:=ja hchk;clear hchk
    have HX:=ja hco;clear hco
    have HB:=ja hbl;clear hbl
    by_cases hlt:k<ts.length
    ·obtain⟨ad,rfl,hc0,hc1⟩:=(HR.o.below (HB.o.mono hB)).at_ hlt
     have HT:=ja (zv9 hlt HC.o)
     have HF:=ja (show(ts.take (k+1)).map (·.1)=(ts.take k).map (·.1)++[ts[k].1] by rw[jw ts k hlt,List.map_append];rfl)
     have HM:=ja (show ∀x∈ts.take (k+1),x∈ts.take k\/x=ts[k] by
      intro x hx
      rw[jw ts k hlt,List.mem_append,List.mem_singleton] at hx
      exact hx)
     generalize ts[k]=t at *
     obtain⟨co,ro⟩:=t
     dsimp only at hc0 hc1
     cases ht:okT last (co,ro)
     ·have HN:=ja (show js den ts=false by unfold js;rw[HT.o,ht];simp)
      have hcase:ro<=last\/(last<ro/\1000<ro)\/(last<ro/\ro<=1000/\(co==0)=true)\/(last<ro/\ro<=1000/\(co==0)=false/\zz co (-100000) 100000=false)\/(last<ro/\ro<=1000/\(co==0)=false/\zz co (-100000) 100000=true/\1<(jo ro.toNat).1):=by
       by_cases a1:ro<=last
       ·exact .inl a1
       by_cases a2:1000<ro
       ·exact .inr (.inl ⟨by omega,a2⟩)
       by_cases a3:co=0
       ·exact .inr (.inr (.inl ⟨by omega,by omega,by simpa using a3⟩))
       cases a4:zz co (-100000) 100000
       ·exact .inr (.inr (.inr (.inl ⟨by omega,by omega,by simpa using a3,rfl⟩)))
       ·refine .inr (.inr (.inr (.inr ⟨by omega,by omega,by simpa using a3,rfl,?_⟩)))
        unfold okT at ht
        simp only[Bool.and_eq_false_iff,decide_eq_false_iff_not] at ht
        rcases ht with(((h|h)|h)|h)|h
        ·exact absurd (show last<(co,ro).2 from by show last<ro;omega) h
        ·exact absurd (show(co,ro).2<=1000 from by show ro<=1000;omega) h
        ·exact absurd a3 h
        ·rw[show zz (co,ro).1 (-100000) 100000=true from a4] at h;cases h
        ·have h':¬(jo ro.toNat).1<=1:=h
         omega
      clear ht HX HM HF HC HT
      rcases hcase with a1|⟨a1,a2⟩|⟨a1,a2,a3⟩|⟨a1,a2,a3,a4⟩|⟨a1,a2,a3,a4,a5⟩
      ·go_wp2
       go_ret
       exact⟨by rw[HN.o];rfl,HB.o.alloc HB.o.size _⟩
      ·go_wp2
       go_ret
       exact⟨by rw[HN.o];rfl,HB.o.alloc HB.o.size _⟩
      ·go_wp2
       go_ret
       exact⟨by rw[HN.o];rfl,HB.o.alloc HB.o.size _⟩
      ·have A4:=ja a4;clear a4
       go_wp2_with (first
        | (go_at_call 60;refine(zj _ _ _ _).mono ?_;rintro e w1 ⟨rfl,rfl⟩;rw[A4.o]))
       go_ret
       exact⟨by rw[HN.o];rfl,HB.o.alloc HB.o.size _⟩
      ·have A4:=ja a4;clear a4
       obtain⟨m,rfl⟩:=Int.eq_ofNat_of_zero_le (show 0<=ro by omega)
       rw[Int.toNat_natCast] at a5
       have HS:=ja (λW=>jj7 m W (by omega) (by omega))
       generalize (jo m).1=sq at *
       generalize (jo m).2=rs at *
       go_wp2_with (first
        | (go_at_call 60;refine(zj _ _ _ _).mono ?_;rintro e w1 ⟨rfl,rfl⟩;rw[A4.o])
        | (go_at_call 96;refine(HS.o _).mono ?_;rintro e w1 ⟨rfl,q,rfl⟩))
       go_ret
       exact⟨by rw[HN.o];rfl,jp (HB.o.alloc HB.o.size _) _⟩
     ·have HK:=ja ht
      unfold okT at ht
      simp only[Bool.and_eq_true,decide_eq_true_eq] at ht
      obtain⟨⟨⟨⟨a1,a2⟩,a3⟩,a4⟩,a5⟩:=ht
      have A4:=ja a4;clear a4
      have a6:-100000<=co/\co<=100000:=by
       have:=A4.o
       simpa [zz] using this
      obtain⟨m,rfl⟩:=Int.eq_ofNat_of_zero_le (show 0<=ro by omega)
      rw[Int.toNat_natCast] at a5
      have HS:=ja (λW=>jj7 m W (by omega) (by omega))
      have a3':(co==0)=false:=by simpa using a3
      clear a3
      generalize (jo m).1=sq at *
      generalize (jo m).2=rs at *
      have a5':¬(1:Int)<(sq:Int):=by omega
      go_wp2_with (first
       | (go_at_call 60;refine(zj _ _ _ _).mono ?_;rintro e w1 ⟨rfl,rfl⟩;rw[A4.o])
       | (go_at_call 96;refine(HS.o _).mono ?_;rintro e w1 ⟨rfl,q,rfl⟩))
      have HB1:=ja (jp (HB.o.alloc HB.o.size (.cells #[.int .i64 co,.int .i64 (m:Int)] 59)) q)
      have HO1:=ja (show((wr.alloc (.cells #[.int .i64 co,.int .i64 (m:Int)] 59)).drewN q).ownsRow (w.heap.size+1) 3 1 u3 (k+1) ((den::(ts.take k).map (·.1)).map (Value.int .i64))from HO.o.alloc _)
      have hcc0:((wr.alloc (.cells #[.int .i64 co,.int .i64 (m:Int)] 59)).drewN q).cell? ⟨wr.heap.size,0,none⟩=some (.int .i64 co):=by simp
      have hcc1:((wr.alloc (.cells #[.int .i64 co,.int .i64 (m:Int)] 59)).drewN q).cell? ⟨wr.heap.size,1,none⟩=some (.int .i64 (m:Int)):=by simp
      have hsz1:=HB1.o.size
      have hltW:wr.heap.size<((wr.alloc (.cells #[.int .i64 co,.int .i64 (m:Int)] 59)).drewN q).heap.size:=by simp
      have hne3:some wr.heap.size≠u3.ownBlock:=λe=>by have:=(HO.o.lt _ e.symm).2;omega
      have HU:=ja hne3;clear hne3
      generalize (wr.alloc (.cells #[.int .i64 co,.int .i64 (m:Int)] 59)).drewN q=W at *
      go_region_law (first
       | (refine step_append_lies _ rfl _ _ 52 rfl (w.heap.size+1) 3 i0 (.int .i64 0) 1 8 Tryz.underlying52 hi0 hz0 hz1 hz2 rfl (by decide) u3 (k+1) _ rfl (World.ownsRow.alloc HO1.o _) ⟨W.heap.size,0,none⟩ 1 1 [.int .i64 co] rfl rfl (JG _ _ _) (by simp[Value.oneCell']) (by decide) (by unfold maxLen;omega) (by omega) (by simp;omega) _ rfl ?_;intro g cap w3 hown' hgrow hat hlt3;have hc3:w3.cell? ⟨wr.heap.size,1,none⟩=some (.int .i64 (m:Int)):=hgrow.cell (a:=⟨wr.heap.size,1,none⟩) ((World.cell?_alloc_lt _ _ _ hltW).trans hcc1) HU.o;have HO3:=ja hown';have HG3:=ja hgrow;clear hown' hgrow hat hlt3))
      all_goals
       go_wp2
       go_roundw
       case rel=>
        refine⟨k+1,(m:Int),by omega,by go_num,rfl,by omega,by omega,?_,?_,?_,?_⟩
        ·rw[HF.o]
         have:=HO3.o
         simpa using this
        ·rw[HT.o]
         rw[HK.o];rfl
        ·intro x hx
         rcases HM.o x hx with h|rfl
         ·exact HX.o x h
         ·exact a6
        ·exact(jp (HB1.o.alloc hsz1 _) 1).grown HG3.o (by simp;omega) (λj e=>by have:=(HO1.o.lt j e).1;omega)
       case measure=>simp[intOf];omega
    ·obtain rfl:k=ts.length:=by omega
     obtain⟨A3,c3,rfl⟩:=jx HO.o
     have hden:1<=den/\den<=100000:=by
      have:=HD.o
      simpa [zz] using this
     have hrd:=Rd.of_own HO.o
     have hc:=HC.o
     rw[List.drop_length] at hc
     have HN:=ja (show js den ts=decide (jM (den::ts.map (·.1))=1) by unfold js;rw[HD.o,hc];simp[h4,Qj])
     rw[List.take_length] at hrd
     have HDV:=ja (λW (hW:W=wr)=>jd9 A3 (ts.length+1) c3 wr.heap.size (den::ts.map (·.1)) W (by subst hW;exact hrd) (by
      intro x hx
      rcases List.mem_cons.1 hx with rfl|hx
      ·omega
      ·obtain⟨y,hy,rfl⟩:=List.mem_map.1 hx
       have:=HX.o y (by rw[List.take_length];exact hy)
       omega))
     clear hrd hc
     generalize jM (den::ts.map (·.1))=gg at *
     by_cases hg:gg=1
     ·subst hg
      go_wp2_with (first
       | (go_at_call 97;refine(HDV.o _ rfl).mono ?_;rintro e w1 ⟨rfl,q,rfl⟩))
      go_ret
      exact⟨by rw[HN.o];rfl,jp HB.o _⟩
     ·have hg':((gg:Int)==1)=false:=by rw[beq_eq_false_iff_ne];omega
      have HG:=ja hg;clear hg
      go_wp2_with (first
       | (go_at_call 97;refine(HDV.o _ rfl).mono ?_;rintro e w1 ⟨rfl,q,rfl⟩))
      go_ret
      exact⟨by rw[HN.o];simp[HG.o,QK],jp HB.o _⟩
  ·have hd4:decide (4<(ts.length:Int))=true:=by simp;omega
   have HN:=ja (show js den ts=false by unfold js;rw[HD.o];simp[h4])
   go_enter Tryz.func49,Tryz.ntmps49
   go_wp2_with (first
    | (go_at_call 60;refine(zj _ _ _ _).mono ?_;rintro e w1 ⟨rfl,rfl⟩;rw[HD.o]))
   go_ret
   exact⟨by rw[HN.o];rfl,(Below.refl _ _).alloc (Nat.le_refl _) _⟩
