import Derived.Test.YtphcodcdfeohhaaGreatDoorSignC
import Derived.Test.YtphcodcdfeohhaaGreatDoorLinAToLinD
set_option linter.unusedVariables false
set_option linter.unusedSimpArgs false
namespace Go.Proofs.YtphcodcdfeohhaaGreatDoor
set_option maxRecDepth 100000
set_option maxHeartbeats 8000000
open Go.RowKit
theorem jcn0 (B:Nat) (A:Option Addr) (n c:Nat) (ts:List (Int×Int)) (w:World) (h:ja3 w B A n c ts) (hB:B<=w.heap.size)
  (hc:∀t∈ts,-4000000000000000000<=t.1/\t.1<=4000000000000000000) (hr:∀t∈ts,jg8 t.2) (hk:(ts.map (·.2)).Nodup) (hl:ts.length<=9) :
  Calls Tryz.prog 69 #[.slice A n c] w fun e w'=>∃s,e=.returned (.int .i64 s)/\jb3 ts s/\Below w.heap.size w w':=by
 obtain⟨K,hK,hV⟩:=jb3.exists_ ts hc hr hk hl
 exact jdh9 B A n c ts w h hB (by omega) (List.Nodup.sublist (List.filter_sublist.map _) hk) (fun t ht=>⟨hc t ht,by have:=(hr t ht).1;omega,by have:=(hr t ht).2.1;omega⟩) K hK hV
def jh1(kv:List (Int×Int))(l:List (Int×Int))(m:Int):List (Int×Int):=l.foldl (fun kv t=>addS kv t.2 (t.1*m)) kv
theorem jbd3(kv l:List (Int×Int))(m:Int)(t:Int×Int):jh1 kv (l++[t]) m=addS (jh1 kv l m) t.2 (t.1*m):=by
 simp[jh1,List.foldl_append]
theorem zt8 {N m:Int} (hN:0<=N):∀(l kv:List (Int×Int)) (M:Int),jg2 kv M->(∀t∈l,-N<=t.1*m/\t.1*m<=N)->jg2 (jh1 kv l m) (M+l.length*N)
 | [],kv,M,h,_=>by simpa [jh1] using h
 | t::l,kv,M,h,hl=>by
  have h1:=jg2.addS h (hl t (by simp)) t.2
  have h2:=zt8 hN l _ _ h1 (fun t ht=>hl t (List.mem_cons_of_mem _ ht))
  simp only[jh1,List.foldl_cons,List.length_cons] at h2 ⊢
  refine h2.mono ?_
  rw[Int.natCast_add,Int.add_mul]
  simp
  omega
theorem zp3:∀(l kv:List (Int×Int)) (m:Int),(jh1 kv l m).length<=kv.length+l.length
 | [],kv,m=>by simp[jh1]
 | t::l,kv,m=>by
  have h1:=zp4 kv t.2 (t.1*m)
  have h2:=zp3 l (addS kv t.2 (t.1*m)) m
  simp only[jh1,List.foldl_cons,List.length_cons] at h2 ⊢
  omega
def js2(p:Int×Int):Int×Int:=(p.2,p.1)
def jr1(xt:List (Int×Int))(m:Int)(yt:List (Int×Int))(k:Int):List (Int×Int):=jh1 (jh1 [] xt m) yt (-k)
theorem jh7.grown{w w':World}{r b:Nat}{kv left:List (Int×Value)}{cur:Option (Int×Value)}(h:jh7 w r b kv left cur){row:Option Nat}(hg:w.grownBy w' row)(hr:∀j,row=some j->r<j/\b<j):jh7 w' r b kv left cur:=by
 have hl:=h.lt
 exact h.of_blocks (hg.block r hl.1 (fun e=>by have:=(hr r e.symm).1;omega)) (hg.block b hl.2 (fun e=>by have:=(hr b e.symm).2;omega))
theorem jh7.alloc{w:World}{r b:Nat}{kv left:List (Int×Value)}{cur:Option (Int×Value)}(h:jh7 w r b kv left cur)(o:Obj):jh7 (w.alloc o) r b kv left cur:=
 h.of_blocks (Below.heap_alloc w o r h.lt.1) (Below.heap_alloc w o b h.lt.2)
theorem jav8 (xA:Option Addr) (xn xc:Nat) (xt:List (Int×Int)) (m:Int) (yA:Option Addr) (yn yc:Nat) (yt:List (Int×Int)) (k:Int) (B:Nat) (w:World) (hx:ja3 w B xA xn xc xt) (hy:ja3 w B yA yn yc yt) (hB:B<=w.heap.size)
  (hlx:xt.length<=4) (hly:yt.length<=4) (hbx:∀t∈xt,-400000000000000000<=t.1*m/\t.1*m<=400000000000000000) (hby:∀t∈yt,-400000000000000000<=t.1*k/\t.1*k<=400000000000000000) :
  Calls Tryz.prog 94 #[.slice xA xn xc,.int .i64 m,.slice yA yn yc,.int .i64 k] w fun e w'=>∃(A:Option Addr) (n c:Nat) (l:List (Int×Int)),e=.returned (.slice A n c)/\ja3 w' w'.heap.size A n c l/\l.Perm ((jr1 xt m yt k).map js2)/\Below w.heap.size w w':=by
 have hlx':=hx.len
 have hly':=hy.len
 subst hlx'
 subst hly'
 have HBX:=ja0 hbx;have HBY:=ja0 hby
 have HX:=ja0 (Rd.alloc hx hB (.map #[] 0));have HY:=ja0 (Rd.alloc hy hB (.map #[] 0))
 have HM0:Hid (jg6 (w.alloc (.map #[] 0)) w.heap.size []):=ja0 (ja6.new w)
 have HB0:=ja0 ((Below.refl w.heap.size w).alloc (Nat.le_refl _) (.map #[] 0))
 clear hbx hby hx hy
 go_enter Tryz.func94,Tryz.ntmps94
 go_wp2_with (first
  | (refine jf1 _ rfl _ rfl ?_))
 go_loopw [19] (fun i W=>∃j:Nat,j<=xt.length/\i=.int .i64 j/\jg6 W w.heap.size (jh1 [] (xt.take j) m)/\ja3 W B xA xt.length xc xt/\ja3 W B yA yt.length yc yt/\Below w.heap.size w W) (fun i _=>xt.length-(intOf i).toNat)
 case atStart=>exact⟨0,by omega,rfl,HM0.out,HX.out,HY.out,HB0.out⟩
 case round=>
  obtain⟨j,hj,rfl,hm,hx,hy,hb⟩:=hrel
  have HM:=ja0 hm;have HX':=ja0 hx;have HY':=ja0 hy;have HB:=ja0 hb
  have hlm:=ja6.lt hm
  clear hm hx hy hb
  by_cases hlt:j<xt.length
  ·obtain⟨ad,had,hc0,hc1⟩:=HX'.out.at_ hlt
   subst had
   have hbt:=HBX.out xt[j] (List.getElem_mem hlt)
   have HS:=ja0 (show jh1 [] (xt.take (j+1)) m=addS (jh1 [] (xt.take j) m) xt[j].2 (xt[j].1*m) by rw[jc7 _ j hlt,jbd3])
   have hbd:=zt8 (N:=400000000000000000) (m:=m) (by omega) (xt.take j) [] 0 jg2.nil (fun t ht=>HBX.out t (List.mem_of_mem_take ht))
   have hll:((xt.take j).length:Int)<=4:=by simp;omega
   have hbd2:jg2 (jh1 [] (xt.take j) m) 1600000000000000000:=hbd.mono (by omega)
   generalize xt[j]=t at *
   obtain⟨co,ro⟩:=t
   dsimp only at hc0 hc1 hbt HS
   have HU:=ja0 (zt4 (jh1 [] (xt.take j) m) ro (co*m))
   have HG:=ja0 (zb5 (jh1 [] (xt.take j) m) ro)
   have hgs:=hbd2 ro
   clear hbd hll hbd2 HX HY HM0 HB0
   generalize jh1 [] (xt.take j) m=kv at *
   generalize jc3 kv ro=gv at *
   have hcm:-9000000000000000000<=co*m/\co*m<=9000000000000000000:=by omega
   have hcs:-9000000000000000000<=gv+co*m/\gv+co*m<=9000000000000000000:=by omega
   have HAL:=ja0 (HB.out.alloc HB.out.size (.cells #[.int .i64 co,.int .i64 ro] 59))
   have HMa:=ja0 (ja6.alloc HM.out (.cells #[.int .i64 co,.int .i64 ro] 59))
   go_wp2_with (first
    | (at_lookup;refine jp8 _ rfl _ _ _ rfl Tryz.underlying104 Tryz.underlying3 (.int .i64 0) Tryz.zeroValue3 w.heap.size (jh8 kv) _ rfl rfl HMa.out ?_;rw[HG.out])
    | (at_mapUpdate;refine jp9 _ rfl _ _ _ _ rfl Tryz.underlying104 Tryz.underlying3 w.heap.size (jh8 kv) ro (.int .i64 (gv+co*m)) rfl rfl rfl HMa.out ?_;intro w2 hm2 hg2 hz2))
   refine⟨⟨j+1,by omega,by go_num,?_,Rd.grown (Rd.alloc HX'.out (by omega) _) hg2 (by simp;omega) (fun _ e=>by cases e;omega),Rd.grown (Rd.alloc HY'.out (by omega) _) hg2 (by simp;omega) (fun _ e=>by cases e;omega),HAL.out.grown hg2 (by simp;omega) (fun _ e=>by cases e;exact Nat.le_refl _)⟩,by simp[intOf];omega⟩
   rw[HS.out]
   unfold jg6
   rw[<-HU.out]
   exact hm2
  ·obtain rfl:j=xt.length:=by omega
   rw[List.take_length] at HM
   have hbd:=zt8 (N:=400000000000000000) (m:=m) (by omega) xt [] 0 jg2.nil HBX.out
   have hbd1:jg2 (jh1 [] xt m) 1600000000000000000:=hbd.mono (by omega)
   have HBD:=ja0 hbd1
   have hl1:=ja0 (zp3 xt [] m)
   obtain⟨les,hles⟩:∃les,les=jr1 xt m yt k:=⟨_,rfl⟩
   have HLES:=ja0 hles
   have HL:Hid (les=jh1 (jh1 [] xt m) yt (-k)):=ja0 hles
   clear hbd hbd1 HX HY HM0 HB0 HBX hles
   generalize jh1 [] xt m=kv1 at *
   go_wp2
   go_loopw [35] (fun i W=>∃j:Nat,j<=yt.length/\i=.int .i64 j/\jg6 W w.heap.size (jh1 kv1 (yt.take j) (-k))/\ja3 W B yA yt.length yc yt/\Below w.heap.size w W) (fun i _=>yt.length-(intOf i).toNat)
   case atStart=>exact⟨0,by omega,rfl,HM.out,HY'.out,HB.out⟩
   case round=>
    obtain⟨j,hj,rfl,hm,hy,hb⟩:=hrel
    have HM2:=ja0 hm;have HY2:=ja0 hy;have HB2:=ja0 hb
    have hlm:=ja6.lt hm
    clear hm hy hb
    by_cases hlt:j<yt.length
    ·obtain⟨ad,had,hc0,hc1⟩:=HY2.out.at_ hlt
     subst had
     have hbt:=HBY.out yt[j] (List.getElem_mem hlt)
     have HS:=ja0 (show jh1 kv1 (yt.take (j+1)) (-k)=addS (jh1 kv1 (yt.take j) (-k)) yt[j].2 (yt[j].1*-k) by rw[jc7 _ j hlt,jbd3])
     have hbd:=zt8 (N:=400000000000000000) (m:=-k) (by omega) (yt.take j) kv1 _ HBD.out (fun t ht=>by
      have:=HBY.out t (List.mem_of_mem_take ht)
      rw[Int.mul_neg];omega)
     have hll:((yt.take j).length:Int)<=4:=by simp;omega
     have hbd2:jg2 (jh1 kv1 (yt.take j) (-k)) 3200000000000000000:=hbd.mono (by omega)
     generalize yt[j]=t at *
     obtain⟨co,ro⟩:=t
     dsimp only at hc0 hc1 hbt HS
     have HU:=ja0 (show zp0 (jh8 (jh1 kv1 (yt.take j) (-k))) ro (.int .i64 (jc3 (jh1 kv1 (yt.take j) (-k)) ro-co*k))=jh8 (addS (jh1 kv1 (yt.take j) (-k)) ro (co*-k)) by rw[<-zt4,Int.mul_neg,Int.sub_eq_add_neg])
     have HG:=ja0 (zb5 (jh1 kv1 (yt.take j) (-k)) ro)
     have hgs:=hbd2 ro
     clear hbd hll hbd2 HX' HY' HM HB
     generalize jh1 kv1 (yt.take j) (-k)=kv at *
     generalize jc3 kv ro=gv at *
     have hcm:-9000000000000000000<=co*k/\co*k<=9000000000000000000:=by omega
     have hcs:-9000000000000000000<=gv-co*k/\gv-co*k<=9000000000000000000:=by omega
     have HAL:=ja0 (HB2.out.alloc HB2.out.size (.cells #[.int .i64 co,.int .i64 ro] 59))
     have HMa:=ja0 (ja6.alloc HM2.out (.cells #[.int .i64 co,.int .i64 ro] 59))
     go_wp2_with (first
      | (at_lookup;refine jp8 _ rfl _ _ _ rfl Tryz.underlying104 Tryz.underlying3 (.int .i64 0) Tryz.zeroValue3 w.heap.size (jh8 kv) _ rfl rfl HMa.out ?_;rw[HG.out])
      | (at_mapUpdate;refine jp9 _ rfl _ _ _ _ rfl Tryz.underlying104 Tryz.underlying3 w.heap.size (jh8 kv) ro (.int .i64 (gv-co*k)) rfl rfl rfl HMa.out ?_;intro w2 hm2 hg2 hz2))
     refine⟨⟨j+1,by omega,by go_num,?_,Rd.grown (Rd.alloc HY2.out (by omega) _) hg2 (by simp;omega) (fun _ e=>by cases e;omega),HAL.out.grown hg2 (by simp;omega) (fun _ e=>by cases e;exact Nat.le_refl _)⟩,by simp[intOf];omega⟩
     rw[HS.out]
     unfold jg6
     rw[<-HU.out]
     exact hm2
    ·obtain rfl:j=yt.length:=by omega
     rw[List.take_length] at HM2
     have hl2:=ja0 (zp3 yt kv1 (-k))
     rw[<-HL.out] at HM2 hl2
     clear HX' HY' HM HB HBY HBD HL HY2
     have hllen:les.length<=8:=by have h1:=hl1.out;have h2:=hl2.out;simp at h1;omega
     clear hl1 hl2
     obtain⟨i1,hi1,hy0,hy1,hy2⟩:=info_parts Tryz.infoTerm
     go_wp2_with (first
      | (refine za7 rfl _ _ rfl Tryz.underlying104 w.heap.size (jh8 les) rfl HM2.out ?_;intro w6 hi6 hg6 hz6
         have HI6:=ja0 hi6;have HG6:=ja0 hg6;clear hi6 hg6))
     have HB6:=ja0 (HB2.out.grown HG6.out HB2.out.size (by simp))
     obtain⟨it,hit⟩:∃it,it=wr.heap.size:=⟨_,rfl⟩
     rw[<-hit] at HI6 ⊢
     have hzi:w.heap.size+1<=it:=by omega
     have hz6':w6.heap.size=it+1:=by omega
     clear HM2 HB2 HG6 hit hz6
     go_frame
     go_loopw [8] (fun v W=>∃(left pre:List (Int×Int)),jh7 W it w.heap.size (jh8 les) (jh8 left) none/\W.ownsRow (it+1) 59 2 v pre.length (ja9 pre)/\(pre++left.map js2).Perm (les.map js2)/\Below w.heap.size w W/\it+1<=W.heap.size) (fun _ W=>jav7 W it)
     case atStart=>exact⟨les,[],HI6.out,⟨rfl,.inl ⟨rfl,rfl⟩⟩,List.Perm.refl _,HB6.out,by omega⟩
     case round=>
      obtain⟨left,pre,hi,ho,hp,hb,hzw⟩:=hrel
      have hpl:=hp.length_eq
      simp only[List.length_append,List.length_map] at hpl
      have HII:=ja0 hi;have HOO:=ja0 ho;have HPP:=ja0 hp;have HBB:=ja0 hb
      clear hi ho hp hb HI6 HB6
      obtain⟨A8,c8,rfl⟩:=jc1 HOO.out
      by_cases hl:left=[]
      ·subst hl
       go_wp2_with (first
        | (refine jz1 rfl _ rfl it w.heap.size rfl HII.out ?_))
       go_ret
       refine⟨A8,pre.length,c8,pre,rfl,Rd.of_own HOO.out,?_,HBB.out⟩
       have:=HPP.out
       rw[List.map_nil,List.append_nil,HLES.out] at this
       exact this
      ·go_wp2_with (first
        | (refine jz2 rfl _ rfl it w.heap.size rfl HII.out (fun h=>hl (jac5.1 h)) ?_;intro j p w7 hj hi7 hg7 hz7
           obtain⟨q,hq,rfl⟩:=jac4 hj
           have HI7:=ja0 hi7;have HG7:=ja0 hg7;have hz7':wr.heap.size<=w7.heap.size:=by omega
           clear hi7 hg7 hz7
           have HO7:=ja0 (HOO.out.kept HG7.out (by
            rcases hb:(Value.slice A8 pre.length c8).ownBlock with _|b
            ·exact .inl rfl
            ·exact .inr (fun e=>by cases e;have:=(HOO.out.lt _ hb).1;omega)))
           have HOA:=ja0 (World.ownsRow.alloc HO7.out (.cells #[.int .i64 q.2,.int .i64 q.1] 59))
           )
        | (refine za6 rfl _ rfl it w.heap.size rfl HI7.out ?_)
        | (at_builtin;refine wpList_append_own _ rfl _ _ 22 rfl (it+1) 59 i1 (.agg #[.int .i64 0,.int .i64 0]) 2 16 Tryz.underlying22 hi1 hy0 hy1 hy2 rfl (by decide) (.slice A8 pre.length c8) pre.length _ rfl HOA.out ⟨w7.heap.size,0,none⟩ 1 1 [.int .i64 q.2,.int .i64 q.1] rfl rfl (zb4 w7 _ _ _) (by simp[Value.oneCell']) (by unfold maxLen;omega) (by omega) (by simp;omega) ?_;intro v' w8 ho8 hg8 _;have HO8:=ja0 ho8;have HG8:=ja0 hg8;clear ho8 hg8))
       have hlt8:=(HO8.out.lt)
       go_roundw
       case rel=>
        obtain⟨A9,c9,rfl⟩:=jc1 HO8.out
        have hrow:∀j,(Value.slice A8 pre.length c8).ownBlock=some j->it<j/\w.heap.size<j:=fun j e=>by have:=(HOA.out.lt _ e).1;omega
        refine⟨left.eraseIdx j,pre++[(q.2,q.1)],?_,?_,?_,?_,?_⟩
        ·have h1:=(HI7.out.nocur.alloc (.cells #[.int .i64 q.2,.int .i64 q.1] 59)).grown HG8.out hrow
         rw[js4] at h1
         exact h1
        ·have h1:=HO8.out
         rw[List.length_append]
         have h2:ja9 (pre++[(q.2,q.1)])=ja9 pre++[.int .i64 q.2,.int .i64 q.1]:=jam1 _ _
         rw[h2]
         exact h1
        ·refine List.Perm.trans ?_ HPP.out
         rw[List.append_assoc]
         refine List.Perm.append_left _ ?_
         exact(jaa8 left j q hq).map js2
        ·exact((HBB.out.grown HG7.out HBB.out.size (fun _ e=>by cases e;omega)).alloc (by omega) _).grown HG8.out (by simp;omega) (fun j e=>by have:=(hrow j e).2;omega)
        ·have:=HG8.out.size
         simp at this
         omega
       case measure=>
        have hrow:∀j,(Value.slice A8 pre.length c8).ownBlock=some j->it<j/\w.heap.size<j:=fun j e=>by have:=(HOA.out.lt _ e).1;omega
        have h1:=(HI7.out.nocur.alloc (.cells #[.int .i64 q.2,.int .i64 q.1] 59)).grown HG8.out hrow
        rw[h1.leftN_eq,HII.out.leftN_eq,jn9,List.length_eraseIdx_of_lt (by rw[jn9];exact(List.getElem?_eq_some_iff.1 hq).1),jn9]
        have:=(List.getElem?_eq_some_iff.1 hq).1
        omega
theorem zm9{l l':List (Int×Int)}(h:l.Perm l'):l.filter nzT=[]↔l'.filter nzT=[]:=by
 have h1:=(h.filter nzT).length_eq
 constructor
 ·intro h2;rw[h2] at h1;exact List.length_eq_zero_iff.1 h1.symm
 ·intro h2;rw[h2] at h1;exact List.length_eq_zero_iff.1 h1
theorem jbn5{l l':List (Int×Int)}(h:l.Perm l')(k:Nat):jb9 l k=jb9 l' k:=by
 unfold jb9 jh5 jn5 jh6 jn6
 rw[(h.map _).sum_nat,(h.map _).sum_nat,(h.map _).sum_nat,(h.map _).sum_nat]
theorem jb3.perm{l l':List (Int×Int)}{s:Int}(h:jb3 l s)(hp:l.Perm l'):jb3 l' s:=by
 rcases h with⟨h1,h2⟩|⟨h1,h2,k,h3⟩
 ·exact .inl ⟨(zm9 hp).1 h1,h2⟩
 ·exact .inr ⟨fun h=>h1 ((zm9 hp).2 h),h2,k,by rw[<-jbn5 (hp.filter nzT)];exact h3⟩
theorem zt9:∀(kv:List (Int×Int)) (r c:Int),(addS kv r c).map (·.1)=if r∈kv.map (·.1)then kv.map (·.1)else kv.map (·.1)++[r]
 | [],r,c=>by simp[addS]
 | (a,x)::t,r,c=>by
  by_cases h:r=a
  ·rw[if_pos (by rw[h];simp)]
   unfold addS
   rw[if_pos h];rfl
  ·have h1:=zt9 t r c
   unfold addS
   rw[if_neg h,List.map_cons,h1]
   by_cases hm:r∈t.map (·.1)
   ·rw[if_pos hm,if_pos (by rw[List.map_cons];exact List.mem_cons_of_mem _ hm)];rfl
   ·rw[if_neg hm,if_neg (by rw[List.map_cons,List.mem_cons];exact fun e=>e.elim h hm)];rfl
theorem jag8 {P:Int->Prop}:∀(l kv:List (Int×Int)) (m:Int),(kv.map (·.1)).Nodup->(∀r∈kv.map (·.1),P r)->(∀t∈l,P t.2)->((jh1 kv l m).map (·.1)).Nodup/\∀r∈(jh1 kv l m).map (·.1),P r
 | [],kv,m,h1,h2,_=>⟨h1,h2⟩
 | t::l,kv,m,h1,h2,h3=>by
  have hk:=zt9 kv t.2 (t.1*m)
  refine jag8 (P:=P) l (addS kv t.2 (t.1*m)) m ?_ ?_ (fun u hu=>h3 u (List.mem_cons_of_mem _ hu))
  ·rw[hk]
   split
   ·exact h1
   ·rename_i hn
    rw[List.nodup_append]
    exact⟨h1,by simp,fun a ha b hb=>by simp at hb;subst hb;exact fun e=>hn (e▸ha)⟩
  ·rw[hk]
   intro r hr
   split at hr
   ·exact h2 r hr
   ·rcases List.mem_append.1 hr with hr|hr
    ·exact h2 r hr
    ·rw[List.mem_singleton] at hr
     subst hr;exact h3 t (by simp)
theorem jaa4{xt yt:List (Int×Int)}(hx:∀t∈xt,jg8 t.2)(hy:∀t∈yt,jg8 t.2)(m k:Int):((jr1 xt m yt k).map (·.1)).Nodup/\∀r∈(jr1 xt m yt k).map (·.1),jg8 r:=by
 have h1:=jag8 (P:=jg8) xt [] m (by simp) (by simp) hx
 exact jag8 (P:=jg8) yt _ (-k) h1.1 h1.2 hy
theorem jbf0(xt yt:List (Int×Int))(m k:Int):(jr1 xt m yt k).length<=xt.length+yt.length:=by
 have h1:=zp3 xt [] m
 have h2:=zp3 yt (jh1 [] xt m) (-k)
 unfold jr1
 simp at h1
 omega
theorem jbv4{xt yt:List (Int×Int)}{m k N:Int}(hN:0<=N)(hx:∀t∈xt,-N<=t.1*m/\t.1*m<=N)(hy:∀t∈yt,-N<=t.1*k/\t.1*k<=N):jg2 (jr1 xt m yt k) ((xt.length+yt.length:Nat)*N):=by
 have h1:=zt8 (m:=m) hN xt [] 0 jg2.nil hx
 have h2:=zt8 (m:=-k) hN yt _ _ h1 (fun t ht=>by have:=hy t ht;rw[Int.mul_neg];omega)
 refine h2.mono ?_
 rw[Int.natCast_add,Int.add_mul];omega
def jk5(xt:List (Int×Int))(m:Int)(yt:List (Int×Int))(k:Int):List (Int×Int):=(jr1 xt m yt k).map js2
theorem jah9 {l xt yt:List (Int×Int)} {m k:Int} (hp:l.Perm (jk5 xt m yt k)) (hx:∀t∈xt,jg8 t.2) (hy:∀t∈yt,jg8 t.2) (hlx:xt.length<=4) (hly:yt.length<=4)
  (hbx:∀t∈xt,-400000000000000000<=t.1*m/\t.1*m<=400000000000000000) (hby:∀t∈yt,-400000000000000000<=t.1*k/\t.1*k<=400000000000000000)
  (B:Nat) (A:Option Addr) (n c:Nat) (w:World) (h:ja3 w B A n c l) (hB:B<=w.heap.size) :
  Calls Tryz.prog 69 #[.slice A n c] w fun e w'=>∃s,e=.returned (.int .i64 s)/\jb3 (jk5 xt m yt k) s/\Below w.heap.size w w':=by
 obtain⟨hk1,hk2⟩:=jaa4 hx hy m k
 have hbd:=jbv4 (by omega) hbx hby
 have hbd2:jg2 (jr1 xt m yt k) 3200000000000000000:=hbd.mono (by omega)
 have hlen:=jbf0 xt yt m k
 have hkeys:(jk5 xt m yt k).map (·.2)=(jr1 xt m yt k).map (·.1):=by simp[jk5,js2,Function.comp_def]
 refine(jcn0 B A n c l w h hB ?_ ?_ ?_ ?_).mono ?_
 ·intro t ht
  obtain⟨p,hpm,rfl⟩:=List.mem_map.1 (hp.mem_iff.1 ht)
  have h1:=jg9 hk1 p hpm
  have h2:=hbd2 p.1
  rw[h1] at h2
  show -_<=p.2/\p.2<=_
  omega
 ·intro t ht
  exact hk2 _ (by rw[<-hkeys];exact List.mem_map_of_mem (hp.mem_iff.1 ht))
 ·rw[(hp.map (·.2)).nodup_iff,hkeys];exact hk1
 ·rw[hp.length_eq];simp[jk5];omega
 ·rintro e w' ⟨s,rfl,hs,hb⟩
  exact⟨s,rfl,hs.perm hp,hb⟩
theorem jam2:∀ {ts:List (Int×Int)} {last:Int},0<=last->jt3 last ts=true->(ts.map (·.2)).Nodup
 | [],_,_,_=>by simp
 | t0::ts,last,hl,h=>by
  simp only[jt3,Bool.and_eq_true] at h
  obtain⟨h1,h2⟩:=h
  unfold okT at h1
  simp only[Bool.and_eq_true,decide_eq_true_eq] at h1
  have h3:0<=t0.2:=by have:=h1.1.1.1.1;omega
  rw[List.map_cons,List.nodup_cons]
  refine⟨fun hm=>?_,jam2 h3 h2⟩
  obtain⟨u,hu,e⟩:=List.mem_map.1 hm
  have:=(zk2 h3 h2 u hu).2.2
  omega
theorem jj2{den:Int}{ts:List (Int×Int)}(h:ja7 den ts=true):(∀t∈ts,jg8 t.2)/\(ts.map (·.2)).Nodup:=by
 have hp:=(jb1 h).2.2.2
 refine⟨fun t ht=>?_,?_⟩
 ·obtain⟨h1,h2⟩:=hp t ht
  have h3:=zz3 t.2.toNat (by have:=h1.1;omega)
  exact⟨h1.1,h1.2.1,(zg4 t.2.toNat (by have:=h1.1;omega)).1 (by omega)⟩
 ·unfold ja7 at h
  simp only[Bool.and_eq_true,decide_eq_true_eq] at h
  exact jam2 (by omega) h.1.2
def zt7(d:Int)(ts:List (Int×Int))(s c:Int):Prop:=(ja7 d ts=true/\jb3 ts s/\c=0)\/(ja7 d ts=false/\s=0/\c=2)
def zz6(xd:Int)(xt:List (Int×Int))(yd:Int)(yt:List (Int×Int))(s c:Int):Prop:=((ja7 xd xt&&ja7 yd yt)=true/\jb3 (jk5 xt yd yt xd) s/\c=0)\/((ja7 xd xt&&ja7 yd yt)=false/\s=0/\c=2)
theorem zy0 (d:Int) (A:Option Addr) (n c:Nat) (ts:List (Int×Int)) (B:Nat) (w:World) (hx:ja3 w B A n c ts) (hB:B<=w.heap.size) :
  Calls Tryz.prog 29 #[.agg #[.int .i64 d,.slice A n c]] w fun e w'=>∃s c,e=.returned (.tuple #[.int .i64 s,.int .i64 c])/\zt7 d ts s c/\Below w.heap.size w w':=by
 have HV:=ja0 (jap0 d A n c ts B (w.alloc (.cells #[.int .i64 d,.slice A n c] 24)) (Rd.alloc hx hB _) (by simp;omega))
 have HT0:=ja0 (Rd.alloc hx hB (.cells #[.int .i64 d,.slice A n c] 24))
 have HX0:=ja0 (Blk.new w 24 #[.int .i64 d,.slice A n c])
 have HB0:=ja0 ((Below.refl w.heap.size w).alloc (Nat.le_refl _) (.cells #[.int .i64 d,.slice A n c] 24))
 have hp:=@jb1 d ts
 have hro:=@jj2 d ts
 simp only[World.size_alloc] at HV
 clear hx
 go_enter Tryz.func29,Tryz.ntmps29
 go_wp2_with fail
 refine HV.out.mono ?_
 rintro e w1 ⟨rfl,hb1⟩
 (try simp only[World.size_alloc] at hb1)
 have HX1:=ja0 (HX0.out.below hb1 (by omega))
 have HT1:=ja0 (HT0.out.below (hb1.mono (by omega)))
 have HB1:=ja0 (HB0.out.trans (hb1.mono (by omega)))
 have hz1:=hb1.size
 (try simp only[World.size_alloc] at hz1)
 obtain⟨q1,q2,q3,q4⟩:=HX1.out.two
 clear HV HX0 HT0 HB0 hb1
 cases hok:ja7 d ts
 ·go_wp2
  go_ret2
  exact⟨0,2,rfl,.inr ⟨hok,rfl,rfl⟩,HB1.out⟩
 ·obtain⟨hro1,hro2⟩:=hro hok
  obtain⟨_,_,hp1,hp2⟩:=hp hok
  have HSI:=ja0 (jcn0 B A n c ts w1 HT1.out (by omega) (fun t ht=>by have:=(hp2 t ht).1.2.2.2;omega) hro1 hro2 (by omega))
  have HOK:=ja0 hok
  clear hok hro hp hro1 hro2 hp1 hp2
  go_wp2_with (first
   | (go_at_call 69;refine HSI.out.mono ?_;rintro e w2 ⟨s,rfl,hs,hb2⟩;have HS:=ja0 hs;have HB2:=ja0 hb2;clear hs hb2))
  go_ret2
  exact⟨s,0,rfl,.inl ⟨HOK.out,HS.out,rfl⟩,HB1.out.trans (HB2.out.mono (by omega))⟩
theorem zk3 (xd:Int) (xA:Option Addr) (xn xc:Nat) (xt:List (Int×Int)) (yd:Int) (yA:Option Addr) (yn yc:Nat) (yt:List (Int×Int)) (B:Nat) (w:World) (hx:ja3 w B xA xn xc xt) (hy:ja3 w B yA yn yc yt) (hB:B<=w.heap.size) :
  Calls Tryz.prog 51 #[.agg #[.int .i64 xd,.slice xA xn xc],.agg #[.int .i64 yd,.slice yA yn yc]] w fun e w'=>∃s c,e=.returned (.tuple #[.int .i64 s,.int .i64 c])/\zz6 xd xt yd yt s c/\Below w.heap.size w w':=by
 have HV:=ja0 (zg5 xd xA xn xc xt yd yA yn yc yt B ((w.alloc (.cells #[.int .i64 xd,.slice xA xn xc] 24)).alloc (.cells #[.int .i64 yd,.slice yA yn yc] 24))
  (Rd.alloc (Rd.alloc hx hB _) (by simp;omega) _) (Rd.alloc (Rd.alloc hy hB _) (by simp;omega) _) (by simp;omega))
 have HX0:=ja0 ((Blk.new w 24 #[.int .i64 xd,.slice xA xn xc]).alloc (.cells #[.int .i64 yd,.slice yA yn yc] 24))
 have HY0:=ja0 (Blk.new (w.alloc (.cells #[.int .i64 xd,.slice xA xn xc] 24)) 24 #[.int .i64 yd,.slice yA yn yc])
 have HXT0:=ja0 (Rd.alloc (Rd.alloc hx hB (.cells #[.int .i64 xd,.slice xA xn xc] 24)) (by simp;omega) (.cells #[.int .i64 yd,.slice yA yn yc] 24))
 have HYT0:=ja0 (Rd.alloc (Rd.alloc hy hB (.cells #[.int .i64 xd,.slice xA xn xc] 24)) (by simp;omega) (.cells #[.int .i64 yd,.slice yA yn yc] 24))
 have HB0:=ja0 (((Below.refl w.heap.size w).alloc (Nat.le_refl _) (.cells #[.int .i64 xd,.slice xA xn xc] 24)).alloc (by simp) (.cells #[.int .i64 yd,.slice yA yn yc] 24))
 simp only[World.size_alloc] at HV HY0
 clear hx hy
 go_enter Tryz.func51,Tryz.ntmps51
 go_wp2_with fail
 refine HV.out.mono ?_
 rintro e w1 ⟨rfl,hb1⟩
 (try simp only[World.size_alloc] at hb1)
 have HX1:=ja0 (HX0.out.below hb1 (by omega))
 have HY1:=ja0 (HY0.out.below hb1 (by omega))
 have HXT1:=ja0 (Rd.below HXT0.out (hb1.mono (by omega)))
 have HYT1:=ja0 (Rd.below HYT0.out (hb1.mono (by omega)))
 have HB1:=ja0 (HB0.out.trans (hb1.mono (by omega)))
 have hz1:=hb1.size
 (try simp only[World.size_alloc] at hz1)
 obtain⟨q1,q2,q3,q4⟩:=HX1.out.two
 obtain⟨q5,q6,q7,q8⟩:=HY1.out.two
 clear HV HX0 HY0 HXT0 HYT0 HB0 hb1
 cases hok:(ja7 xd xt&&ja7 yd yt)
 ·go_wp2
  go_ret2
  exact⟨0,2,rfl,.inr ⟨hok,rfl,rfl⟩,HB1.out⟩
 ·have HOK:=ja0 hok
  rw[Bool.and_eq_true] at hok
  obtain⟨px1,px2,px3,px4⟩:=jb1 hok.1
  obtain⟨py1,py2,py3,py4⟩:=jb1 hok.2
  have hbx:∀t∈xt,-400000000000000000<=t.1*yd/\t.1*yd<=400000000000000000:=fun t ht=>by
   have:=jc0 (a:=t.1) (b:=yd) (A:=100000) (B:=100000) (px4 t ht).1.2.2.2 ⟨by omega,by omega⟩
   omega
  have hby:∀t∈yt,-400000000000000000<=t.1*xd/\t.1*xd<=400000000000000000:=fun t ht=>by
   have:=jc0 (a:=t.1) (b:=xd) (A:=100000) (B:=100000) (py4 t ht).1.2.2.2 ⟨by omega,by omega⟩
   omega
  have hrx:=(jj2 hok.1).1
  have hry:=(jj2 hok.2).1
  have HL:=ja0 (jav8 xA xn xc xt yd yA yn yc yt xd B w1 HXT1.out HYT1.out (by omega) px3 py3 hbx hby)
  have HSI:=ja0 (fun l hp B A n c w h hB=>jah9 (l:=l) hp hrx hry px3 py3 hbx hby B A n c w h hB)
  clear hok px1 px2 px3 px4 py1 py2 py3 py4 hbx hby hrx hry
  go_wp2_with (first
   | (go_at_call 94;refine HL.out.mono ?_;rintro e w2 ⟨A2,n2,c2,l2,rfl,ht2,hp2,hb2⟩;have HT2:=ja0 ht2;have HP2:=ja0 hp2;have HB2:=ja0 hb2;clear ht2 hp2 hb2)
   | (go_at_call 69;refine(HSI.out _ HP2.out _ _ _ _ _ HT2.out (Nat.le_refl _)).mono ?_;rintro e w3 ⟨s,rfl,hs,hb3⟩;have HS:=ja0 hs;have HB3:=ja0 hb3;clear hs hb3))
  go_ret2
  exact⟨s,0,rfl,.inl ⟨HOK.out,HS.out,rfl⟩,(HB1.out.trans (HB2.out.mono (by omega))).trans (HB3.out.mono (by have:=HB2.out.size;omega))⟩
end Go.Proofs.YtphcodcdfeohhaaGreatDoor
