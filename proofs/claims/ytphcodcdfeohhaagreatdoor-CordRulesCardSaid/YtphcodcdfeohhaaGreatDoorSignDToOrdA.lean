import Derived.Test.YtphcodcdfeohhaaGreatDoorSignC
import Derived.Test.YtphcodcdfeohhaaGreatDoorLinAToLinD
set_option linter.all false
namespace Go.Proofs.YtphcodcdfeohhaaGreatDoor
set_option maxRecDepth 100000
set_option maxHeartbeats 8000000
open Go.RowKit
theorem jbj1 (B:Nat) (A:Option Addr) (n c:Nat) (ts:List (Int×Int)) (w:World) (h:ji w B A n c ts) (hB:B<=w.heap.size)
  (hc:∀t∈ts,-4000000000000000000<=t.1/\t.1<=4000000000000000000) (hr:∀t∈ts,zu t.2) (hk:(ts.map (·.2)).Nodup) (hl:ts.length<=9) :
  Calls Tryz.prog 69 #[.slice A n c] w λe w'=>∃s,e=.returned (.int .i64 s)/\jA ts s/\Below w.heap.size w w':=by
 obtain⟨K,hK,hV⟩:=jA.exists_ ts hc hr hk hl
 exact jcd9 B A n c ts w h hB (by omega) (List.Nodup.sublist (List.filter_sublist.map _) hk) (λt ht=>⟨hc t ht,by have:=(hr t ht).1;omega,by have:=(hr t ht).2.1;omega⟩) K hK hV
def ze(kv:List (Int×Int))(l:List (Int×Int))(m:Int):List (Int×Int):=l.foldl (λkv t=>addS kv t.2 (t.1*m)) kv
theorem QJ(kv l:List (Int×Int))(m:Int)(t:Int×Int):ze kv (l++[t]) m=addS (ze kv l m) t.2 (t.1*m):=by
 simp[ze,List.foldl_append]
theorem jh1 {N m:Int} (hN:0<=N):∀(l kv:List (Int×Int)) (M:Int),zB kv M->(∀t∈l,-N<=t.1*m/\t.1*m<=N)->zB (ze kv l m) (M+l.length*N)
 | [],kv,M,h,_=>by simpa [ze] using h
 | t::l,kv,M,h,hl=>by
  have h1:=zB.addS h (hl t (by simp)) t.2
  have h2:=jh1 hN l _ _ h1 (λt ht=>hl t (List.mem_cons_of_mem _ ht))
  simp only[ze,List.foldl_cons,List.length_cons] at h2 ⊢
  refine h2.mono ?_
  rw[Int.natCast_add,Int.add_mul]
  simp
  omega
theorem jd3:∀(l kv:List (Int×Int)) (m:Int),(ze kv l m).length<=kv.length+l.length
 | [],kv,m=>by simp[ze]
 | t::l,kv,m=>by
  have h1:=jd4 kv t.2 (t.1*m)
  have h2:=jd3 l (addS kv t.2 (t.1*m)) m
  simp only[ze,List.foldl_cons,List.length_cons] at h2 ⊢
  omega
def ZZ(p:Int×Int):Int×Int:=(p.2,p.1)
def Zl(xt:List (Int×Int))(m:Int)(yt:List (Int×Int))(k:Int):List (Int×Int):=ze (ze [] xt m) yt (-k)
theorem zK.grown{w w':World}{r b:Nat}{kv left:List (Int×Value)}{cur:Option (Int×Value)}(h:zK w r b kv left cur){row:Option Nat}(hg:w.grownBy w' row)(hr:∀j,row=some j->r<j/\b<j):zK w' r b kv left cur:=by
 have hl:=h.lt
 exact h.of_blocks (hg.block r hl.1 (λe=>by have:=(hr r e.symm).1;omega)) (hg.block b hl.2 (λe=>by have:=(hr b e.symm).2;omega))
theorem zK.alloc{w:World}{r b:Nat}{kv left:List (Int×Value)}{cur:Option (Int×Value)}(h:zK w r b kv left cur)(o:Obj):zK (w.alloc o) r b kv left cur:=
 h.of_blocks (Below.heap_alloc w o r h.lt.1) (Below.heap_alloc w o b h.lt.2)
theorem zk7 (xA:Option Addr) (xn xc:Nat) (xt:List (Int×Int)) (m:Int) (yA:Option Addr) (yn yc:Nat) (yt:List (Int×Int)) (k:Int) (B:Nat) (w:World) (hx:ji w B xA xn xc xt) (hy:ji w B yA yn yc yt) (hB:B<=w.heap.size)
  (hlx:xt.length<=4) (hly:yt.length<=4) (hbx:∀t∈xt,-400000000000000000<=t.1*m/\t.1*m<=400000000000000000) (hby:∀t∈yt,-400000000000000000<=t.1*k/\t.1*k<=400000000000000000) :
  Calls Tryz.prog 94 #[.slice xA xn xc,.int .i64 m,.slice yA yn yc,.int .i64 k] w λe w'=>∃(A:Option Addr) (n c:Nat) (l:List (Int×Int)),e=.returned (.slice A n c)/\ji w' w'.heap.size A n c l/\l.Perm ((Zl xt m yt k).map ZZ)/\Below w.heap.size w w':=by
 have hlx':=hx.len
 have hly':=hy.len
 subst hlx'
 subst hly'
 have HBX:=ja hbx;have HBY:=ja hby
 have HX:=ja (Rd.alloc hx hB (.map #[] 0));have HY:=ja (Rd.alloc hy hB (.map #[] 0))
 have HM0:Hid (zH (w.alloc (.map #[] 0)) w.heap.size []):=ja (jt.new w)
 have HB0:=ja ((Below.refl w.heap.size w).alloc (Nat.le_refl _) (.map #[] 0))
 clear hbx hby hx hy
 go_enter Tryz.func94,Tryz.ntmps94
 go_wp2_with (first
  | (refine zi _ rfl _ rfl ?_))
 go_loopw [19] (λi W=>∃j:Nat,j<=xt.length/\i=.int .i64 j/\zH W w.heap.size (ze [] (xt.take j) m)/\ji W B xA xt.length xc xt/\ji W B yA yt.length yc yt/\Below w.heap.size w W) (λi _=>xt.length-(intOf i).toNat)
 case atStart=>exact⟨0,by omega,rfl,HM0.o,HX.o,HY.o,HB0.o⟩
 case round=>
  obtain⟨j,hj,rfl,hm,hx,hy,hb⟩:=hrel
  have HM:=ja hm;have HX':=ja hx;have HY':=ja hy;have HB:=ja hb
  have hlm:=jt.lt hm
  clear hm hx hy hb
  by_cases hlt:j<xt.length
  ·obtain⟨ad,had,hc0,hc1⟩:=HX'.o.at_ hlt
   subst had
   have hbt:=HBX.o xt[j] (List.getElem_mem hlt)
   have HS:=ja (show ze [] (xt.take (j+1)) m=addS (ze [] (xt.take j) m) xt[j].2 (xt[j].1*m) by rw[jw _ j hlt,QJ])
   have hbd:=jh1 (N:=400000000000000000) (m:=m) (by omega) (xt.take j) [] 0 zB.nil (λt ht=>HBX.o t (List.mem_of_mem_take ht))
   have hll:((xt.take j).length:Int)<=4:=by simp;omega
   have hbd2:zB (ze [] (xt.take j) m) 1600000000000000000:=hbd.mono (by omega)
   generalize xt[j]=t at *
   obtain⟨co,ro⟩:=t
   dsimp only at hc0 hc1 hbt HS
   have HU:=ja (jg7 (ze [] (xt.take j) m) ro (co*m))
   have HG:=ja (qN (ze [] (xt.take j) m) ro)
   have hgs:=hbd2 ro
   clear hbd hll hbd2 HX HY HM0 HB0
   generalize ze [] (xt.take j) m=kv at *
   generalize zb kv ro=gv at *
   have hcm:-9000000000000000000<=co*m/\co*m<=9000000000000000000:=by omega
   have hcs:-9000000000000000000<=gv+co*m/\gv+co*m<=9000000000000000000:=by omega
   have HAL:=ja (HB.o.alloc HB.o.size (.cells #[.int .i64 co,.int .i64 ro] 59))
   have HMa:=ja (jt.alloc HM.o (.cells #[.int .i64 co,.int .i64 ro] 59))
   go_wp2_with (first
    | (at_lookup;refine Za _ rfl _ _ _ rfl Tryz.underlying104 Tryz.underlying3 (.int .i64 0) Tryz.zeroValue3 w.heap.size (zM kv) _ rfl rfl HMa.o ?_;rw[HG.o])
    | (at_mapUpdate;refine Zb _ rfl _ _ _ _ rfl Tryz.underlying104 Tryz.underlying3 w.heap.size (zM kv) ro (.int .i64 (gv+co*m)) rfl rfl rfl HMa.o ?_;intro w2 hm2 hg2 hz2))
   refine⟨⟨j+1,by omega,by go_num,?_,Rd.grown (Rd.alloc HX'.o (by omega) _) hg2 (by simp;omega) (λ_ e=>by cases e;omega),Rd.grown (Rd.alloc HY'.o (by omega) _) hg2 (by simp;omega) (λ_ e=>by cases e;omega),HAL.o.grown hg2 (by simp;omega) (λ_ e=>by cases e;exact Nat.le_refl _)⟩,by simp[intOf];omega⟩
   rw[HS.o]
   unfold zH
   rw[<-HU.o]
   exact hm2
  ·obtain rfl:j=xt.length:=by omega
   rw[List.take_length] at HM
   have hbd:=jh1 (N:=400000000000000000) (m:=m) (by omega) xt [] 0 zB.nil HBX.o
   have hbd1:zB (ze [] xt m) 1600000000000000000:=hbd.mono (by omega)
   have HBD:=ja hbd1
   have hl1:=ja (jd3 xt [] m)
   obtain⟨les,hles⟩:∃les,les=Zl xt m yt k:=⟨_,rfl⟩
   have HLES:=ja hles
   have HL:Hid (les=ze (ze [] xt m) yt (-k)):=ja hles
   clear hbd hbd1 HX HY HM0 HB0 HBX hles
   generalize ze [] xt m=kv1 at *
   go_wp2
   go_loopw [35] (λi W=>∃j:Nat,j<=yt.length/\i=.int .i64 j/\zH W w.heap.size (ze kv1 (yt.take j) (-k))/\ji W B yA yt.length yc yt/\Below w.heap.size w W) (λi _=>yt.length-(intOf i).toNat)
   case atStart=>exact⟨0,by omega,rfl,HM.o,HY'.o,HB.o⟩
   case round=>
    obtain⟨j,hj,rfl,hm,hy,hb⟩:=hrel
    have HM2:=ja hm;have HY2:=ja hy;have HB2:=ja hb
    have hlm:=jt.lt hm
    clear hm hy hb
    by_cases hlt:j<yt.length
    ·obtain⟨ad,had,hc0,hc1⟩:=HY2.o.at_ hlt
     subst had
     have hbt:=HBY.o yt[j] (List.getElem_mem hlt)
     have HS:=ja (show ze kv1 (yt.take (j+1)) (-k)=addS (ze kv1 (yt.take j) (-k)) yt[j].2 (yt[j].1*-k) by rw[jw _ j hlt,QJ])
     have hbd:=jh1 (N:=400000000000000000) (m:=-k) (by omega) (yt.take j) kv1 _ HBD.o (λt ht=>by
      have:=HBY.o t (List.mem_of_mem_take ht)
      rw[Int.mul_neg];omega)
     have hll:((yt.take j).length:Int)<=4:=by simp;omega
     have hbd2:zB (ze kv1 (yt.take j) (-k)) 3200000000000000000:=hbd.mono (by omega)
     generalize yt[j]=t at *
     obtain⟨co,ro⟩:=t
     dsimp only at hc0 hc1 hbt HS
     have HU:=ja (show jc9 (zM (ze kv1 (yt.take j) (-k))) ro (.int .i64 (zb (ze kv1 (yt.take j) (-k)) ro-co*k))=zM (addS (ze kv1 (yt.take j) (-k)) ro (co*-k)) by rw[<-jg7,Int.mul_neg,Int.sub_eq_add_neg])
     have HG:=ja (qN (ze kv1 (yt.take j) (-k)) ro)
     have hgs:=hbd2 ro
     clear hbd hll hbd2 HX' HY' HM HB
     generalize ze kv1 (yt.take j) (-k)=kv at *
     generalize zb kv ro=gv at *
     have hcm:-9000000000000000000<=co*k/\co*k<=9000000000000000000:=by omega
     have hcs:-9000000000000000000<=gv-co*k/\gv-co*k<=9000000000000000000:=by omega
     have HAL:=ja (HB2.o.alloc HB2.o.size (.cells #[.int .i64 co,.int .i64 ro] 59))
     have HMa:=ja (jt.alloc HM2.o (.cells #[.int .i64 co,.int .i64 ro] 59))
     go_wp2_with (first
      | (at_lookup;refine Za _ rfl _ _ _ rfl Tryz.underlying104 Tryz.underlying3 (.int .i64 0) Tryz.zeroValue3 w.heap.size (zM kv) _ rfl rfl HMa.o ?_;rw[HG.o])
      | (at_mapUpdate;refine Zb _ rfl _ _ _ _ rfl Tryz.underlying104 Tryz.underlying3 w.heap.size (zM kv) ro (.int .i64 (gv-co*k)) rfl rfl rfl HMa.o ?_;intro w2 hm2 hg2 hz2))
     refine⟨⟨j+1,by omega,by go_num,?_,Rd.grown (Rd.alloc HY2.o (by omega) _) hg2 (by simp;omega) (λ_ e=>by cases e;omega),HAL.o.grown hg2 (by simp;omega) (λ_ e=>by cases e;exact Nat.le_refl _)⟩,by simp[intOf];omega⟩
     rw[HS.o]
     unfold zH
     rw[<-HU.o]
     exact hm2
    ·obtain rfl:j=yt.length:=by omega
     rw[List.take_length] at HM2
     have hl2:=ja (jd3 yt kv1 (-k))
     rw[<-HL.o] at HM2 hl2
     clear HX' HY' HM HB HBY HBD HL HY2
     have hllen:les.length<=8:=by have h1:=hl1.o;have h2:=hl2.o;simp at h1;omega
     clear hl1 hl2
     obtain⟨i1,hi1,hy0,hy1,hy2⟩:=info_parts Tryz.infoTerm
     go_wp2_with (first
      | (refine qG rfl _ _ rfl Tryz.underlying104 w.heap.size (zM les) rfl HM2.o ?_;intro w6 hi6 hg6 hz6
         have HI6:=ja hi6;have HG6:=ja hg6;clear hi6 hg6))
     have HB6:=ja (HB2.o.grown HG6.o HB2.o.size (by simp))
     obtain⟨it,hit⟩:∃it,it=wr.heap.size:=⟨_,rfl⟩
     rw[<-hit] at HI6 ⊢
     have hzi:w.heap.size+1<=it:=by omega
     have hz6':w6.heap.size=it+1:=by omega
     clear HM2 HB2 HG6 hit hz6
     go_frame
     go_loopw [8] (λv W=>∃(left pre:List (Int×Int)),zK W it w.heap.size (zM les) (zM left) none/\W.ownsRow (it+1) 59 2 v pre.length (jr pre)/\(pre++left.map ZZ).Perm (les.map ZZ)/\Below w.heap.size w W/\it+1<=W.heap.size) (λ_ W=>zk5 W it)
     case atStart=>exact⟨les,[],HI6.o,⟨rfl,.inl ⟨rfl,rfl⟩⟩,List.Perm.refl _,HB6.o,by omega⟩
     case round=>
      obtain⟨left,pre,hi,ho,hp,hb,hzw⟩:=hrel
      have hpl:=hp.length_eq
      simp only[List.length_append,List.length_map] at hpl
      have HII:=ja hi;have HOO:=ja ho;have HPP:=ja hp;have HBB:=ja hb
      clear hi ho hp hb HI6 HB6
      obtain⟨A8,c8,rfl⟩:=jx HOO.o
      by_cases hl:left=[]
      ·subst hl
       go_wp2_with (first
        | (refine qm rfl _ rfl it w.heap.size rfl HII.o ?_))
       go_ret
       refine⟨A8,pre.length,c8,pre,rfl,Rd.of_own HOO.o,?_,HBB.o⟩
       have:=HPP.o
       rw[List.map_nil,List.append_nil,HLES.o] at this
       exact this
      ·go_wp2_with (first
        | (refine qn rfl _ rfl it w.heap.size rfl HII.o (λh=>hl (jr6.1 h)) ?_;intro j p w7 hj hi7 hg7 hz7
           obtain⟨q,hq,rfl⟩:=jr5 hj
           have HI7:=ja hi7;have HG7:=ja hg7;have hz7':wr.heap.size<=w7.heap.size:=by omega
           clear hi7 hg7 hz7
           have HO7:=ja (HOO.o.kept HG7.o (by
            rcases hb:(Value.slice A8 pre.length c8).ownBlock with _|b
            ·exact .inl rfl
            ·exact .inr (λe=>by cases e;have:=(HOO.o.lt _ hb).1;omega)))
           have HOA:=ja (World.ownsRow.alloc HO7.o (.cells #[.int .i64 q.2,.int .i64 q.1] 59))
           )
        | (refine qF rfl _ rfl it w.heap.size rfl HI7.o ?_)
        | (at_builtin;refine wpList_append_own _ rfl _ _ 22 rfl (it+1) 59 i1 (.agg #[.int .i64 0,.int .i64 0]) 2 16 Tryz.underlying22 hi1 hy0 hy1 hy2 rfl (by decide) (.slice A8 pre.length c8) pre.length _ rfl HOA.o ⟨w7.heap.size,0,none⟩ 1 1 [.int .i64 q.2,.int .i64 q.1] rfl rfl (zx w7 _ _ _) (by simp[Value.oneCell']) (by unfold maxLen;omega) (by omega) (by simp;omega) ?_;intro v' w8 ho8 hg8 _;have HO8:=ja ho8;have HG8:=ja hg8;clear ho8 hg8))
       have hlt8:=(HO8.o.lt)
       go_roundw
       case rel=>
        obtain⟨A9,c9,rfl⟩:=jx HO8.o
        have hrow:∀j,(Value.slice A8 pre.length c8).ownBlock=some j->it<j/\w.heap.size<j:=λj e=>by have:=(HOA.o.lt _ e).1;omega
        refine⟨left.eraseIdx j,pre++[(q.2,q.1)],?_,?_,?_,?_,?_⟩
        ·have h1:=(HI7.o.nocur.alloc (.cells #[.int .i64 q.2,.int .i64 q.1] 59)).grown HG8.o hrow
         rw[Zu] at h1
         exact h1
        ·have h1:=HO8.o
         rw[List.length_append]
         have h2:jr (pre++[(q.2,q.1)])=jr pre++[.int .i64 q.2,.int .i64 q.1]:=Zz _ _
         rw[h2]
         exact h1
        ·refine List.Perm.trans ?_ HPP.o
         rw[List.append_assoc]
         refine List.Perm.append_left _ ?_
         exact(jn5 left j q hq).map ZZ
        ·exact((HBB.o.grown HG7.o HBB.o.size (λ_ e=>by cases e;omega)).alloc (by omega) _).grown HG8.o (by simp;omega) (λj e=>by have:=(hrow j e).2;omega)
        ·have:=HG8.o.size
         simp at this
         omega
       case measure=>
        have hrow:∀j,(Value.slice A8 pre.length c8).ownBlock=some j->it<j/\w.heap.size<j:=λj e=>by have:=(HOA.o.lt _ e).1;omega
        have h1:=(HI7.o.nocur.alloc (.cells #[.int .i64 q.2,.int .i64 q.1] 59)).grown HG8.o hrow
        rw[h1.leftN_eq,HII.o.leftN_eq,JN,List.length_eraseIdx_of_lt (by rw[JN];exact(List.getElem?_eq_some_iff.1 hq).1),JN]
        have:=(List.getElem?_eq_some_iff.1 hq).1
        omega
theorem jb8{l l':List (Int×Int)}(h:l.Perm l'):l.filter JA=[]↔l'.filter JA=[]:=by
 have h1:=(h.filter JA).length_eq
 constructor
 ·intro h2;rw[h2] at h1;exact List.length_eq_zero_iff.1 h1.symm
 ·intro h2;rw[h2] at h1;exact List.length_eq_zero_iff.1 h1
theorem jag7{l l':List (Int×Int)}(h:l.Perm l')(k:Nat):jy l k=jy l' k:=by
 unfold jy zv Jg zw Jh
 rw[(h.map _).sum_nat,(h.map _).sum_nat,(h.map _).sum_nat,(h.map _).sum_nat]
theorem jA.perm{l l':List (Int×Int)}{s:Int}(h:jA l s)(hp:l.Perm l'):jA l' s:=by
 rcases h with⟨h1,h2⟩|⟨h1,h2,k,h3⟩
 ·exact .inl ⟨(jb8 hp).1 h1,h2⟩
 ·exact .inr ⟨λh=>h1 ((jb8 hp).2 h),h2,k,by rw[<-jag7 (hp.filter JA)];exact h3⟩
theorem jh2:∀(kv:List (Int×Int)) (r c:Int),(addS kv r c).map (·.1)=if r∈kv.map (·.1)then kv.map (·.1)else kv.map (·.1)++[r]
 | [],r,c=>by simp[addS]
 | (a,x)::t,r,c=>by
  by_cases h:r=a
  ·rw[if_pos (by rw[h];simp)]
   unfold addS
   rw[if_pos h];rfl
  ·have h1:=jh2 t r c
   unfold addS
   rw[if_neg h,List.map_cons,h1]
   by_cases hm:r∈t.map (·.1)
   ·rw[if_pos hm,if_pos (by rw[List.map_cons];exact List.mem_cons_of_mem _ hm)];rfl
   ·rw[if_neg hm,if_neg (by rw[List.map_cons,List.mem_cons];exact λe=>e.elim h hm)];rfl
theorem QI {P:Int->Prop}:∀(l kv:List (Int×Int)) (m:Int),(kv.map (·.1)).Nodup->(∀r∈kv.map (·.1),P r)->(∀t∈l,P t.2)->((ze kv l m).map (·.1)).Nodup/\∀r∈(ze kv l m).map (·.1),P r
 | [],kv,m,h1,h2,_=>⟨h1,h2⟩
 | t::l,kv,m,h1,h2,h3=>by
  have hk:=jh2 kv t.2 (t.1*m)
  refine QI (P:=P) l (addS kv t.2 (t.1*m)) m ?_ ?_ (λu hu=>h3 u (List.mem_cons_of_mem _ hu))
  ·rw[hk]
   split
   ·exact h1
   ·rename_i hn
    rw[List.nodup_append]
    exact⟨h1,by simp,λa ha b hb=>by simp at hb;subst hb;exact λe=>hn (e▸ha)⟩
  ·rw[hk]
   intro r hr
   split at hr
   ·exact h2 r hr
   ·rcases List.mem_append.1 hr with hr|hr
    ·exact h2 r hr
    ·rw[List.mem_singleton] at hr
     subst hr;exact h3 t (by simp)
theorem jn2{xt yt:List (Int×Int)}(hx:∀t∈xt,zu t.2)(hy:∀t∈yt,zu t.2)(m k:Int):((Zl xt m yt k).map (·.1)).Nodup/\∀r∈(Zl xt m yt k).map (·.1),zu r:=by
 have h1:=QI (P:=zu) xt [] m (by simp) (by simp) hx
 exact QI (P:=zu) yt _ (-k) h1.1 h1.2 hy
theorem jy9(xt yt:List (Int×Int))(m k:Int):(Zl xt m yt k).length<=xt.length+yt.length:=by
 have h1:=jd3 xt [] m
 have h2:=jd3 yt (ze [] xt m) (-k)
 unfold Zl
 simp at h1
 omega
theorem zk6{xt yt:List (Int×Int)}{m k N:Int}(hN:0<=N)(hx:∀t∈xt,-N<=t.1*m/\t.1*m<=N)(hy:∀t∈yt,-N<=t.1*k/\t.1*k<=N):zB (Zl xt m yt k) ((xt.length+yt.length:Nat)*N):=by
 have h1:=jh1 (m:=m) hN xt [] 0 zB.nil hx
 have h2:=jh1 (m:=-k) hN yt _ _ h1 (λt ht=>by have:=hy t ht;rw[Int.mul_neg];omega)
 refine h2.mono ?_
 rw[Int.natCast_add,Int.add_mul];omega
def zO(xt:List (Int×Int))(m:Int)(yt:List (Int×Int))(k:Int):List (Int×Int):=(Zl xt m yt k).map ZZ
theorem jz0 {l xt yt:List (Int×Int)} {m k:Int} (hp:l.Perm (zO xt m yt k)) (hx:∀t∈xt,zu t.2) (hy:∀t∈yt,zu t.2) (hlx:xt.length<=4) (hly:yt.length<=4)
  (hbx:∀t∈xt,-400000000000000000<=t.1*m/\t.1*m<=400000000000000000) (hby:∀t∈yt,-400000000000000000<=t.1*k/\t.1*k<=400000000000000000)
  (B:Nat) (A:Option Addr) (n c:Nat) (w:World) (h:ji w B A n c l) (hB:B<=w.heap.size) :
  Calls Tryz.prog 69 #[.slice A n c] w λe w'=>∃s,e=.returned (.int .i64 s)/\jA (zO xt m yt k) s/\Below w.heap.size w w':=by
 obtain⟨hk1,hk2⟩:=jn2 hx hy m k
 have hbd:=zk6 (by omega) hbx hby
 have hbd2:zB (Zl xt m yt k) 3200000000000000000:=hbd.mono (by omega)
 have hlen:=jy9 xt yt m k
 have hkeys:(zO xt m yt k).map (·.2)=(Zl xt m yt k).map (·.1):=by simp[zO,ZZ,Function.comp_def]
 refine(jbj1 B A n c l w h hB ?_ ?_ ?_ ?_).mono ?_
 ·intro t ht
  obtain⟨p,hpm,rfl⟩:=List.mem_map.1 (hp.mem_iff.1 ht)
  have h1:=zr hk1 p hpm
  have h2:=hbd2 p.1
  rw[h1] at h2
  show -_<=p.2/\p.2<=_
  omega
 ·intro t ht
  exact hk2 _ (by rw[<-hkeys];exact List.mem_map_of_mem (hp.mem_iff.1 ht))
 ·rw[(hp.map (·.2)).nodup_iff,hkeys];exact hk1
 ·rw[hp.length_eq];simp[zO];omega
 ·rintro e w' ⟨s,rfl,hs,hb⟩
  exact⟨s,rfl,hs.perm hp,hb⟩
theorem zb8:∀ {ts:List (Int×Int)} {last:Int},0<=last->Qj last ts=true->(ts.map (·.2)).Nodup
 | [],_,_,_=>by simp
 | t0::ts,last,hl,h=>by
  simp only[Qj,Bool.and_eq_true] at h
  obtain⟨h1,h2⟩:=h
  unfold okT at h1
  simp only[Bool.and_eq_true,decide_eq_true_eq] at h1
  have h3:0<=t0.2:=by have:=h1.1.1.1.1;omega
  rw[List.map_cons,List.nodup_cons]
  refine⟨λhm=>?_,zb8 h3 h2⟩
  obtain⟨u,hu,e⟩:=List.mem_map.1 hm
  have:=(ja0 h3 h2 u hu).2.2
  omega
theorem Jd{den:Int}{ts:List (Int×Int)}(h:js den ts=true):(∀t∈ts,zu t.2)/\(ts.map (·.2)).Nodup:=by
 have hp:=(jz h).2.2.2
 refine⟨λt ht=>?_,?_⟩
 ·obtain⟨h1,h2⟩:=hp t ht
  have h3:=jm3 t.2.toNat (by have:=h1.1;omega)
  exact⟨h1.1,h1.2.1,(jg6 t.2.toNat (by have:=h1.1;omega)).1 (by omega)⟩
 ·unfold js at h
  simp only[Bool.and_eq_true,decide_eq_true_eq] at h
  exact zb8 (by omega) h.1.2
def jab8(d:Int)(ts:List (Int×Int))(s c:Int):Prop:=(js d ts=true/\jA ts s/\c=0)\/(js d ts=false/\s=0/\c=2)
def jav6(xd:Int)(xt:List (Int×Int))(yd:Int)(yt:List (Int×Int))(s c:Int):Prop:=((js xd xt&&js yd yt)=true/\jA (zO xt yd yt xd) s/\c=0)\/((js xd xt&&js yd yt)=false/\s=0/\c=2)
theorem za5 (d:Int) (A:Option Addr) (n c:Nat) (ts:List (Int×Int)) (B:Nat) (w:World) (hx:ji w B A n c ts) (hB:B<=w.heap.size) :
  Calls Tryz.prog 29 #[.agg #[.int .i64 d,.slice A n c]] w λe w'=>∃s c,e=.returned (.tuple #[.int .i64 s,.int .i64 c])/\jab8 d ts s c/\Below w.heap.size w w':=by
 have HV:=ja (zd7 d A n c ts B (w.alloc (.cells #[.int .i64 d,.slice A n c] 24)) (Rd.alloc hx hB _) (by simp;omega))
 have HT0:=ja (Rd.alloc hx hB (.cells #[.int .i64 d,.slice A n c] 24))
 have HX0:=ja (jh.new w 24 #[.int .i64 d,.slice A n c])
 have HB0:=ja ((Below.refl w.heap.size w).alloc (Nat.le_refl _) (.cells #[.int .i64 d,.slice A n c] 24))
 have hp:=@jz d ts
 have hro:=@Jd d ts
 simp only[World.size_alloc] at HV
 clear hx
 go_enter Tryz.func29,Tryz.ntmps29
 go_wp2_with fail
 refine HV.o.mono ?_
 rintro e w1 ⟨rfl,hb1⟩
 (try simp only[World.size_alloc] at hb1)
 have HX1:=ja (HX0.o.below hb1 (by omega))
 have HT1:=ja (HT0.o.below (hb1.mono (by omega)))
 have HB1:=ja (HB0.o.trans (hb1.mono (by omega)))
 have hz1:=hb1.size
 (try simp only[World.size_alloc] at hz1)
 obtain⟨q1,q2,q3,q4⟩:=HX1.o.two
 clear HV HX0 HT0 HB0 hb1
 cases hok:js d ts
 ·go_wp2
  go_ret2
  exact⟨0,2,rfl,.inr ⟨hok,rfl,rfl⟩,HB1.o⟩
 ·obtain⟨hro1,hro2⟩:=hro hok
  obtain⟨_,_,hp1,hp2⟩:=hp hok
  have HSI:=ja (jbj1 B A n c ts w1 HT1.o (by omega) (λt ht=>by have:=(hp2 t ht).1.2.2.2;omega) hro1 hro2 (by omega))
  have HOK:=ja hok
  clear hok hro hp hro1 hro2 hp1 hp2
  go_wp2_with (first
   | (go_at_call 69;refine HSI.o.mono ?_;rintro e w2 ⟨s,rfl,hs,hb2⟩;have HS:=ja hs;have HB2:=ja hb2;clear hs hb2))
  go_ret2
  exact⟨s,0,rfl,.inl ⟨HOK.o,HS.o,rfl⟩,HB1.o.trans (HB2.o.mono (by omega))⟩
theorem jac4 (xd:Int) (xA:Option Addr) (xn xc:Nat) (xt:List (Int×Int)) (yd:Int) (yA:Option Addr) (yn yc:Nat) (yt:List (Int×Int)) (B:Nat) (w:World) (hx:ji w B xA xn xc xt) (hy:ji w B yA yn yc yt) (hB:B<=w.heap.size) :
  Calls Tryz.prog 51 #[.agg #[.int .i64 xd,.slice xA xn xc],.agg #[.int .i64 yd,.slice yA yn yc]] w λe w'=>∃s c,e=.returned (.tuple #[.int .i64 s,.int .i64 c])/\jav6 xd xt yd yt s c/\Below w.heap.size w w':=by
 have HV:=ja (Qv xd xA xn xc xt yd yA yn yc yt B ((w.alloc (.cells #[.int .i64 xd,.slice xA xn xc] 24)).alloc (.cells #[.int .i64 yd,.slice yA yn yc] 24))
  (Rd.alloc (Rd.alloc hx hB _) (by simp;omega) _) (Rd.alloc (Rd.alloc hy hB _) (by simp;omega) _) (by simp;omega))
 have HX0:=ja ((jh.new w 24 #[.int .i64 xd,.slice xA xn xc]).alloc (.cells #[.int .i64 yd,.slice yA yn yc] 24))
 have HY0:=ja (jh.new (w.alloc (.cells #[.int .i64 xd,.slice xA xn xc] 24)) 24 #[.int .i64 yd,.slice yA yn yc])
 have HXT0:=ja (Rd.alloc (Rd.alloc hx hB (.cells #[.int .i64 xd,.slice xA xn xc] 24)) (by simp;omega) (.cells #[.int .i64 yd,.slice yA yn yc] 24))
 have HYT0:=ja (Rd.alloc (Rd.alloc hy hB (.cells #[.int .i64 xd,.slice xA xn xc] 24)) (by simp;omega) (.cells #[.int .i64 yd,.slice yA yn yc] 24))
 have HB0:=ja (((Below.refl w.heap.size w).alloc (Nat.le_refl _) (.cells #[.int .i64 xd,.slice xA xn xc] 24)).alloc (by simp) (.cells #[.int .i64 yd,.slice yA yn yc] 24))
 simp only[World.size_alloc] at HV HY0
 clear hx hy
 go_enter Tryz.func51,Tryz.ntmps51
 go_wp2_with fail
 refine HV.o.mono ?_
 rintro e w1 ⟨rfl,hb1⟩
 (try simp only[World.size_alloc] at hb1)
 have HX1:=ja (HX0.o.below hb1 (by omega))
 have HY1:=ja (HY0.o.below hb1 (by omega))
 have HXT1:=ja (Rd.below HXT0.o (hb1.mono (by omega)))
 have HYT1:=ja (Rd.below HYT0.o (hb1.mono (by omega)))
 have HB1:=ja (HB0.o.trans (hb1.mono (by omega)))
 have hz1:=hb1.size
 (try simp only[World.size_alloc] at hz1)
 obtain⟨q1,q2,q3,q4⟩:=HX1.o.two
 obtain⟨q5,q6,q7,q8⟩:=HY1.o.two
 clear HV HX0 HY0 HXT0 HYT0 HB0 hb1
 cases hok:(js xd xt&&js yd yt)
 ·go_wp2
  go_ret2
  exact⟨0,2,rfl,.inr ⟨hok,rfl,rfl⟩,HB1.o⟩
 ·have HOK:=ja hok
  rw[Bool.and_eq_true] at hok
  obtain⟨px1,px2,px3,px4⟩:=jz hok.1
  obtain⟨py1,py2,py3,py4⟩:=jz hok.2
  have hbx:∀t∈xt,-400000000000000000<=t.1*yd/\t.1*yd<=400000000000000000:=λt ht=>by
   have:=jE (a:=t.1) (b:=yd) (A:=100000) (B:=100000) (px4 t ht).1.2.2.2 ⟨by omega,by omega⟩
   omega
  have hby:∀t∈yt,-400000000000000000<=t.1*xd/\t.1*xd<=400000000000000000:=λt ht=>by
   have:=jE (a:=t.1) (b:=xd) (A:=100000) (B:=100000) (py4 t ht).1.2.2.2 ⟨by omega,by omega⟩
   omega
  have hrx:=(Jd hok.1).1
  have hry:=(Jd hok.2).1
  have HL:=ja (zk7 xA xn xc xt yd yA yn yc yt xd B w1 HXT1.o HYT1.o (by omega) px3 py3 hbx hby)
  have HSI:=ja (λl hp B A n c w h hB=>jz0 (l:=l) hp hrx hry px3 py3 hbx hby B A n c w h hB)
  clear hok px1 px2 px3 px4 py1 py2 py3 py4 hbx hby hrx hry
  go_wp2_with (first
   | (go_at_call 94;refine HL.o.mono ?_;rintro e w2 ⟨A2,n2,c2,l2,rfl,ht2,hp2,hb2⟩;have HT2:=ja ht2;have HP2:=ja hp2;have HB2:=ja hb2;clear ht2 hp2 hb2)
   | (go_at_call 69;refine(HSI.o _ HP2.o _ _ _ _ _ HT2.o (Nat.le_refl _)).mono ?_;rintro e w3 ⟨s,rfl,hs,hb3⟩;have HS:=ja hs;have HB3:=ja hb3;clear hs hb3))
  go_ret2
  exact⟨s,0,rfl,.inl ⟨HOK.o,HS.o,rfl⟩,(HB1.o.trans (HB2.o.mono (by omega))).trans (HB3.o.mono (by have:=HB2.o.size;omega))⟩
