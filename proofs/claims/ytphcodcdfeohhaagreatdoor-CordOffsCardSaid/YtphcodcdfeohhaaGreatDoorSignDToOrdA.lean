import Derived.Test.YtphcodcdfeohhaaGreatDoorSignC
import Derived.Test.YtphcodcdfeohhaaGreatDoorLinAToLinD
set_option linter.unusedVariables false
set_option linter.unusedSimpArgs false
namespace Go.Proofs.YtphcodcdfeohhaaGreatDoor
set_option maxRecDepth 100000
set_option maxHeartbeats 8000000
open Go.RowKit
theorem jdg7 (B:Nat) (A:Option Addr) (n c:Nat) (ts:List (Int×Int)) (w:World) (h:ja6 w B A n c ts) (hB:B<=w.heap.size)
  (hc:∀t∈ts,-4000000000000000000<=t.1/\t.1<=4000000000000000000) (hr:∀t∈ts,jg0 t.2) (hk:(ts.map (·.2)).Nodup) (hl:ts.length<=9) :
  Calls Tryz.prog 69 #[.slice A n c] w fun e w'=>∃s,e=.returned (.int .i64 s)/\jc1 ts s/\Below w.heap.size w w':=by
 obtain⟨K,hK,hV⟩:=jc1.exists_ ts hc hr hk hl
 exact jff0 B A n c ts w h hB (by omega) (List.Nodup.sublist (List.filter_sublist.map _) hk) (fun t ht=>⟨hc t ht,by have:=(hr t ht).1;omega,by have:=(hr t ht).2.1;omega⟩) K hK hV
def jg7(kv:List (Int×Int))(l:List (Int×Int))(m:Int):List (Int×Int):=l.foldl (fun kv t=>addS kv t.2 (t.1*m)) kv
theorem zp7(kv l:List (Int×Int))(m:Int)(t:Int×Int):jg7 kv (l++[t]) m=addS (jg7 kv l m) t.2 (t.1*m):=by
 simp[jg7,List.foldl_append]
theorem jac1 {N m:Int} (hN:0<=N):∀(l kv:List (Int×Int)) (M:Int),jh9 kv M->(∀t∈l,-N<=t.1*m/\t.1*m<=N)->jh9 (jg7 kv l m) (M+l.length*N)
 | [],kv,M,h,_=>by simpa [jg7] using h
 | t::l,kv,M,h,hl=>by
  have h1:=jh9.addS h (hl t (by simp)) t.2
  have h2:=jac1 hN l _ _ h1 (fun t ht=>hl t (List.mem_cons_of_mem _ ht))
  simp only[jg7,List.foldl_cons,List.length_cons] at h2 ⊢
  refine h2.mono ?_
  rw[Int.natCast_add,Int.add_mul]
  simp
  omega
theorem zz2:∀(l kv:List (Int×Int)) (m:Int),(jg7 kv l m).length<=kv.length+l.length
 | [],kv,m=>by simp[jg7]
 | t::l,kv,m=>by
  have h1:=zz3 kv t.2 (t.1*m)
  have h2:=zz2 l (addS kv t.2 (t.1*m)) m
  simp only[jg7,List.foldl_cons,List.length_cons] at h2 ⊢
  omega
def jv8(p:Int×Int):Int×Int:=(p.2,p.1)
def jp0(xt:List (Int×Int))(m:Int)(yt:List (Int×Int))(k:Int):List (Int×Int):=jg7 (jg7 [] xt m) yt (-k)
theorem jk4.grown{w w':World}{r b:Nat}{kv left:List (Int×Value)}{cur:Option (Int×Value)}(h:jk4 w r b kv left cur){row:Option Nat}(hg:w.grownBy w' row)(hr:∀j,row=some j->r<j/\b<j):jk4 w' r b kv left cur:=by
 have hl:=h.lt
 exact h.of_blocks (hg.block r hl.1 (fun e=>by have:=(hr r e.symm).1;omega)) (hg.block b hl.2 (fun e=>by have:=(hr b e.symm).2;omega))
theorem jk4.alloc{w:World}{r b:Nat}{kv left:List (Int×Value)}{cur:Option (Int×Value)}(h:jk4 w r b kv left cur)(o:Obj):jk4 (w.alloc o) r b kv left cur:=
 h.of_blocks (Below.heap_alloc w o r h.lt.1) (Below.heap_alloc w o b h.lt.2)
theorem jbg3 (xA:Option Addr) (xn xc:Nat) (xt:List (Int×Int)) (m:Int) (yA:Option Addr) (yn yc:Nat) (yt:List (Int×Int)) (k:Int) (B:Nat) (w:World) (hx:ja6 w B xA xn xc xt) (hy:ja6 w B yA yn yc yt) (hB:B<=w.heap.size)
  (hlx:xt.length<=4) (hly:yt.length<=4) (hbx:∀t∈xt,-400000000000000000<=t.1*m/\t.1*m<=400000000000000000) (hby:∀t∈yt,-400000000000000000<=t.1*k/\t.1*k<=400000000000000000) :
  Calls Tryz.prog 94 #[.slice xA xn xc,.int .i64 m,.slice yA yn yc,.int .i64 k] w fun e w'=>∃(A:Option Addr) (n c:Nat) (l:List (Int×Int)),e=.returned (.slice A n c)/\ja6 w' w'.heap.size A n c l/\l.Perm ((jp0 xt m yt k).map jv8)/\Below w.heap.size w w':=by
 have hlx':=hx.len
 have hly':=hy.len
 subst hlx'
 subst hly'
 have HBX:=ja0 hbx;have HBY:=ja0 hby
 have HX:=ja0 (Rd.alloc hx hB (.map #[] 0));have HY:=ja0 (Rd.alloc hy hB (.map #[] 0))
 have HM0:Hid (jj9 (w.alloc (.map #[] 0)) w.heap.size []):=ja0 (jb7.new w)
 have HB0:=ja0 ((Below.refl w.heap.size w).alloc (Nat.le_refl _) (.map #[] 0))
 clear hbx hby hx hy
 go_enter Tryz.func94,Tryz.ntmps94
 go_wp2_with (first
  | (refine jh0 _ rfl _ rfl ?_))
 go_loopw [19] (fun i W=>∃j:Nat,j<=xt.length/\i=.int .i64 j/\jj9 W w.heap.size (jg7 [] (xt.take j) m)/\ja6 W B xA xt.length xc xt/\ja6 W B yA yt.length yc yt/\Below w.heap.size w W) (fun i _=>xt.length-(intOf i).toNat)
 case atStart=>exact⟨0,by omega,rfl,HM0.out,HX.out,HY.out,HB0.out⟩
 case round=>
  obtain⟨j,hj,rfl,hm,hx,hy,hb⟩:=hrel
  have HM:=ja0 hm;have HX':=ja0 hx;have HY':=ja0 hy;have HB:=ja0 hb
  have hlm:=jb7.lt hm
  clear hm hx hy hb
  by_cases hlt:j<xt.length
  ·obtain⟨ad,had,hc0,hc1⟩:=HX'.out.at_ hlt
   subst had
   have hbt:=HBX.out xt[j] (List.getElem_mem hlt)
   have HS:=ja0 (show jg7 [] (xt.take (j+1)) m=addS (jg7 [] (xt.take j) m) xt[j].2 (xt[j].1*m) by rw[jb8 _ j hlt,zp7])
   have hbd:=jac1 (N:=400000000000000000) (m:=m) (by omega) (xt.take j) [] 0 jh9.nil (fun t ht=>HBX.out t (List.mem_of_mem_take ht))
   have hll:((xt.take j).length:Int)<=4:=by simp;omega
   have hbd2:jh9 (jg7 [] (xt.take j) m) 1600000000000000000:=hbd.mono (by omega)
   generalize xt[j]=t at *
   obtain⟨co,ro⟩:=t
   dsimp only at hc0 hc1 hbt HS
   have HU:=ja0 (jab6 (jg7 [] (xt.take j) m) ro (co*m))
   have HG:=ja0 (zj0 (jg7 [] (xt.take j) m) ro)
   have hgs:=hbd2 ro
   clear hbd hll hbd2 HX HY HM0 HB0
   generalize jg7 [] (xt.take j) m=kv at *
   generalize jd4 kv ro=gv at *
   have hcm:-9000000000000000000<=co*m/\co*m<=9000000000000000000:=by omega
   have hcs:-9000000000000000000<=gv+co*m/\gv+co*m<=9000000000000000000:=by omega
   have HAL:=ja0 (HB.out.alloc HB.out.size (.cells #[.int .i64 co,.int .i64 ro] 59))
   have HMa:=ja0 (jb7.alloc HM.out (.cells #[.int .i64 co,.int .i64 ro] 59))
   go_wp2_with (first
    | (at_lookup;refine jv2 _ rfl _ _ _ rfl Tryz.underlying104 Tryz.underlying3 (.int .i64 0) Tryz.zeroValue3 w.heap.size (jk5 kv) _ rfl rfl HMa.out ?_;rw[HG.out])
    | (at_mapUpdate;refine jv3 _ rfl _ _ _ _ rfl Tryz.underlying104 Tryz.underlying3 w.heap.size (jk5 kv) ro (.int .i64 (gv+co*m)) rfl rfl rfl HMa.out ?_;intro w2 hm2 hg2 hz2))
   refine⟨⟨j+1,by omega,by go_num,?_,Rd.grown (Rd.alloc HX'.out (by omega) _) hg2 (by simp;omega) (fun _ e=>by cases e;omega),Rd.grown (Rd.alloc HY'.out (by omega) _) hg2 (by simp;omega) (fun _ e=>by cases e;omega),HAL.out.grown hg2 (by simp;omega) (fun _ e=>by cases e;exact Nat.le_refl _)⟩,by simp[intOf];omega⟩
   rw[HS.out]
   unfold jj9
   rw[<-HU.out]
   exact hm2
  ·obtain rfl:j=xt.length:=by omega
   rw[List.take_length] at HM
   have hbd:=jac1 (N:=400000000000000000) (m:=m) (by omega) xt [] 0 jh9.nil HBX.out
   have hbd1:jh9 (jg7 [] xt m) 1600000000000000000:=hbd.mono (by omega)
   have HBD:=ja0 hbd1
   have hl1:=ja0 (zz2 xt [] m)
   obtain⟨les,hles⟩:∃les,les=jp0 xt m yt k:=⟨_,rfl⟩
   have HLES:=ja0 hles
   have HL:Hid (les=jg7 (jg7 [] xt m) yt (-k)):=ja0 hles
   clear hbd hbd1 HX HY HM0 HB0 HBX hles
   generalize jg7 [] xt m=kv1 at *
   go_wp2
   go_loopw [35] (fun i W=>∃j:Nat,j<=yt.length/\i=.int .i64 j/\jj9 W w.heap.size (jg7 kv1 (yt.take j) (-k))/\ja6 W B yA yt.length yc yt/\Below w.heap.size w W) (fun i _=>yt.length-(intOf i).toNat)
   case atStart=>exact⟨0,by omega,rfl,HM.out,HY'.out,HB.out⟩
   case round=>
    obtain⟨j,hj,rfl,hm,hy,hb⟩:=hrel
    have HM2:=ja0 hm;have HY2:=ja0 hy;have HB2:=ja0 hb
    have hlm:=jb7.lt hm
    clear hm hy hb
    by_cases hlt:j<yt.length
    ·obtain⟨ad,had,hc0,hc1⟩:=HY2.out.at_ hlt
     subst had
     have hbt:=HBY.out yt[j] (List.getElem_mem hlt)
     have HS:=ja0 (show jg7 kv1 (yt.take (j+1)) (-k)=addS (jg7 kv1 (yt.take j) (-k)) yt[j].2 (yt[j].1*-k) by rw[jb8 _ j hlt,zp7])
     have hbd:=jac1 (N:=400000000000000000) (m:=-k) (by omega) (yt.take j) kv1 _ HBD.out (fun t ht=>by
      have:=HBY.out t (List.mem_of_mem_take ht)
      rw[Int.mul_neg];omega)
     have hll:((yt.take j).length:Int)<=4:=by simp;omega
     have hbd2:jh9 (jg7 kv1 (yt.take j) (-k)) 3200000000000000000:=hbd.mono (by omega)
     generalize yt[j]=t at *
     obtain⟨co,ro⟩:=t
     dsimp only at hc0 hc1 hbt HS
     have HU:=ja0 (show zy9 (jk5 (jg7 kv1 (yt.take j) (-k))) ro (.int .i64 (jd4 (jg7 kv1 (yt.take j) (-k)) ro-co*k))=jk5 (addS (jg7 kv1 (yt.take j) (-k)) ro (co*-k)) by rw[<-jab6,Int.mul_neg,Int.sub_eq_add_neg])
     have HG:=ja0 (zj0 (jg7 kv1 (yt.take j) (-k)) ro)
     have hgs:=hbd2 ro
     clear hbd hll hbd2 HX' HY' HM HB
     generalize jg7 kv1 (yt.take j) (-k)=kv at *
     generalize jd4 kv ro=gv at *
     have hcm:-9000000000000000000<=co*k/\co*k<=9000000000000000000:=by omega
     have hcs:-9000000000000000000<=gv-co*k/\gv-co*k<=9000000000000000000:=by omega
     have HAL:=ja0 (HB2.out.alloc HB2.out.size (.cells #[.int .i64 co,.int .i64 ro] 59))
     have HMa:=ja0 (jb7.alloc HM2.out (.cells #[.int .i64 co,.int .i64 ro] 59))
     go_wp2_with (first
      | (at_lookup;refine jv2 _ rfl _ _ _ rfl Tryz.underlying104 Tryz.underlying3 (.int .i64 0) Tryz.zeroValue3 w.heap.size (jk5 kv) _ rfl rfl HMa.out ?_;rw[HG.out])
      | (at_mapUpdate;refine jv3 _ rfl _ _ _ _ rfl Tryz.underlying104 Tryz.underlying3 w.heap.size (jk5 kv) ro (.int .i64 (gv-co*k)) rfl rfl rfl HMa.out ?_;intro w2 hm2 hg2 hz2))
     refine⟨⟨j+1,by omega,by go_num,?_,Rd.grown (Rd.alloc HY2.out (by omega) _) hg2 (by simp;omega) (fun _ e=>by cases e;omega),HAL.out.grown hg2 (by simp;omega) (fun _ e=>by cases e;exact Nat.le_refl _)⟩,by simp[intOf];omega⟩
     rw[HS.out]
     unfold jj9
     rw[<-HU.out]
     exact hm2
    ·obtain rfl:j=yt.length:=by omega
     rw[List.take_length] at HM2
     have hl2:=ja0 (zz2 yt kv1 (-k))
     rw[<-HL.out] at HM2 hl2
     clear HX' HY' HM HB HBY HBD HL HY2
     have hllen:les.length<=8:=by have h1:=hl1.out;have h2:=hl2.out;simp at h1;omega
     clear hl1 hl2
     obtain⟨i1,hi1,hy0,hy1,hy2⟩:=info_parts Tryz.infoTerm
     go_wp2_with (first
      | (refine zh0 rfl _ _ rfl Tryz.underlying104 w.heap.size (jk5 les) rfl HM2.out ?_;intro w6 hi6 hg6 hz6
         have HI6:=ja0 hi6;have HG6:=ja0 hg6;clear hi6 hg6))
     have HB6:=ja0 (HB2.out.grown HG6.out HB2.out.size (by simp))
     obtain⟨it,hit⟩:∃it,it=wr.heap.size:=⟨_,rfl⟩
     rw[<-hit] at HI6 ⊢
     have hzi:w.heap.size+1<=it:=by omega
     have hz6':w6.heap.size=it+1:=by omega
     clear HM2 HB2 HG6 hit hz6
     go_frame
     go_loopw [8] (fun v W=>∃(left pre:List (Int×Int)),jk4 W it w.heap.size (jk5 les) (jk5 left) none/\W.ownsRow (it+1) 59 2 v pre.length (jb4 pre)/\(pre++left.map jv8).Perm (les.map jv8)/\Below w.heap.size w W/\it+1<=W.heap.size) (fun _ W=>jbg2 W it)
     case atStart=>exact⟨les,[],HI6.out,⟨rfl,.inl ⟨rfl,rfl⟩⟩,List.Perm.refl _,HB6.out,by omega⟩
     case round=>
      obtain⟨left,pre,hi,ho,hp,hb,hzw⟩:=hrel
      have hpl:=hp.length_eq
      simp only[List.length_append,List.length_map] at hpl
      have HII:=ja0 hi;have HOO:=ja0 ho;have HPP:=ja0 hp;have HBB:=ja0 hb
      clear hi ho hp hb HI6 HB6
      obtain⟨A8,c8,rfl⟩:=jc3 HOO.out
      by_cases hl:left=[]
      ·subst hl
       go_wp2_with (first
        | (refine zd9 rfl _ rfl it w.heap.size rfl HII.out ?_))
       go_ret
       refine⟨A8,pre.length,c8,pre,rfl,Rd.of_own HOO.out,?_,HBB.out⟩
       have:=HPP.out
       rw[List.map_nil,List.append_nil,HLES.out] at this
       exact this
      ·go_wp2_with (first
        | (refine zf2 rfl _ rfl it w.heap.size rfl HII.out (fun h=>hl (jam4.1 h)) ?_;intro j p w7 hj hi7 hg7 hz7
           obtain⟨q,hq,rfl⟩:=jam3 hj
           have HI7:=ja0 hi7;have HG7:=ja0 hg7;have hz7':wr.heap.size<=w7.heap.size:=by omega
           clear hi7 hg7 hz7
           have HO7:=ja0 (HOO.out.kept HG7.out (by
            rcases hb:(Value.slice A8 pre.length c8).ownBlock with _|b
            ·exact .inl rfl
            ·exact .inr (fun e=>by cases e;have:=(HOO.out.lt _ hb).1;omega)))
           have HOA:=ja0 (World.ownsRow.alloc HO7.out (.cells #[.int .i64 q.2,.int .i64 q.1] 59))
           )
        | (refine zg9 rfl _ rfl it w.heap.size rfl HI7.out ?_)
        | (at_builtin;refine wpList_append_own _ rfl _ _ 22 rfl (it+1) 59 i1 (.agg #[.int .i64 0,.int .i64 0]) 2 16 Tryz.underlying22 hi1 hy0 hy1 hy2 rfl (by decide) (.slice A8 pre.length c8) pre.length _ rfl HOA.out ⟨w7.heap.size,0,none⟩ 1 1 [.int .i64 q.2,.int .i64 q.1] rfl rfl (jk0 w7 _ _ _) (by simp[Value.oneCell']) (by unfold maxLen;omega) (by omega) (by simp;omega) ?_;intro v' w8 ho8 hg8 _;have HO8:=ja0 ho8;have HG8:=ja0 hg8;clear ho8 hg8))
       have hlt8:=(HO8.out.lt)
       go_roundw
       case rel=>
        obtain⟨A9,c9,rfl⟩:=jc3 HO8.out
        have hrow:∀j,(Value.slice A8 pre.length c8).ownBlock=some j->it<j/\w.heap.size<j:=fun j e=>by have:=(HOA.out.lt _ e).1;omega
        refine⟨left.eraseIdx j,pre++[(q.2,q.1)],?_,?_,?_,?_,?_⟩
        ·have h1:=(HI7.out.nocur.alloc (.cells #[.int .i64 q.2,.int .i64 q.1] 59)).grown HG8.out hrow
         rw[jz6] at h1
         exact h1
        ·have h1:=HO8.out
         rw[List.length_append]
         have h2:jb4 (pre++[(q.2,q.1)])=jb4 pre++[.int .i64 q.2,.int .i64 q.1]:=js9 _ _
         rw[h2]
         exact h1
        ·refine List.Perm.trans ?_ HPP.out
         rw[List.append_assoc]
         refine List.Perm.append_left _ ?_
         exact(jah8 left j q hq).map jv8
        ·exact((HBB.out.grown HG7.out HBB.out.size (fun _ e=>by cases e;omega)).alloc (by omega) _).grown HG8.out (by simp;omega) (fun j e=>by have:=(hrow j e).2;omega)
        ·have:=HG8.out.size
         simp at this
         omega
       case measure=>
        have hrow:∀j,(Value.slice A8 pre.length c8).ownBlock=some j->it<j/\w.heap.size<j:=fun j e=>by have:=(HOA.out.lt _ e).1;omega
        have h1:=(HI7.out.nocur.alloc (.cells #[.int .i64 q.2,.int .i64 q.1] 59)).grown HG8.out hrow
        rw[h1.leftN_eq,HII.out.leftN_eq,jt0,List.length_eraseIdx_of_lt (by rw[jt0];exact(List.getElem?_eq_some_iff.1 hq).1),jt0]
        have:=(List.getElem?_eq_some_iff.1 hq).1
        omega
theorem zv8{l l':List (Int×Int)}(h:l.Perm l'):l.filter nzT=[]↔l'.filter nzT=[]:=by
 have h1:=(h.filter nzT).length_eq
 constructor
 ·intro h2;rw[h2] at h1;exact List.length_eq_zero_iff.1 h1.symm
 ·intro h2;rw[h2] at h1;exact List.length_eq_zero_iff.1 h1
theorem jcd5{l l':List (Int×Int)}(h:l.Perm l')(k:Nat):jc5 l k=jc5 l' k:=by
 unfold jc5 jj0 jn5 jj1 jn6
 rw[(h.map _).sum_nat,(h.map _).sum_nat,(h.map _).sum_nat,(h.map _).sum_nat]
theorem jc1.perm{l l':List (Int×Int)}{s:Int}(h:jc1 l s)(hp:l.Perm l'):jc1 l' s:=by
 rcases h with⟨h1,h2⟩|⟨h1,h2,k,h3⟩
 ·exact .inl ⟨(zv8 hp).1 h1,h2⟩
 ·exact .inr ⟨fun h=>h1 ((zv8 hp).2 h),h2,k,by rw[<-jcd5 (hp.filter nzT)];exact h3⟩
theorem zh9:∀(kv:List (Int×Int)) (r c:Int),(addS kv r c).map (·.1)=if r∈kv.map (·.1)then kv.map (·.1)else kv.map (·.1)++[r]
 | [],r,c=>by simp[addS]
 | (a,x)::t,r,c=>by
  by_cases h:r=a
  ·rw[if_pos (by rw[h];simp)]
   unfold addS
   rw[if_pos h];rfl
  ·have h1:=zh9 t r c
   unfold addS
   rw[if_neg h,List.map_cons,h1]
   by_cases hm:r∈t.map (·.1)
   ·rw[if_pos hm,if_pos (by rw[List.map_cons];exact List.mem_cons_of_mem _ hm)];rfl
   ·rw[if_neg hm,if_neg (by rw[List.map_cons,List.mem_cons];exact fun e=>e.elim h hm)];rfl
theorem zh8 {P:Int->Prop}:∀(l kv:List (Int×Int)) (m:Int),(kv.map (·.1)).Nodup->(∀r∈kv.map (·.1),P r)->(∀t∈l,P t.2)->((jg7 kv l m).map (·.1)).Nodup/\∀r∈(jg7 kv l m).map (·.1),P r
 | [],kv,m,h1,h2,_=>⟨h1,h2⟩
 | t::l,kv,m,h1,h2,h3=>by
  have hk:=zh9 kv t.2 (t.1*m)
  refine zh8 (P:=P) l (addS kv t.2 (t.1*m)) m ?_ ?_ (fun u hu=>h3 u (List.mem_cons_of_mem _ hu))
  ·rw[hk]
   split
   ·exact h1
   ·rename_i hn
    rw[List.nodup_append]
    exact⟨h1,by simp,fun a ha b hb=>by simp at hb;subst hb;exact fun e=>hn (e▸ha)⟩
  ·rw[hk]
   intro r hr
   split at hr
   ·exact h2 r hr
   ·rcases List.mem_append.1 hr with hr|hr
    ·exact h2 r hr
    ·rw[List.mem_singleton] at hr
     subst hr;exact h3 t (by simp)
theorem zt0{xt yt:List (Int×Int)}(hx:∀t∈xt,jg0 t.2)(hy:∀t∈yt,jg0 t.2)(m k:Int):((jp0 xt m yt k).map (·.1)).Nodup/\∀r∈(jp0 xt m yt k).map (·.1),jg0 r:=by
 have h1:=zh8 (P:=jg0) xt [] m (by simp) (by simp) hx
 exact zh8 (P:=jg0) yt _ (-k) h1.1 h1.2 hy
theorem jad1(xt yt:List (Int×Int))(m k:Int):(jp0 xt m yt k).length<=xt.length+yt.length:=by
 have h1:=zz2 xt [] m
 have h2:=zz2 yt (jg7 [] xt m) (-k)
 unfold jp0
 simp at h1
 omega
theorem jan3{xt yt:List (Int×Int)}{m k N:Int}(hN:0<=N)(hx:∀t∈xt,-N<=t.1*m/\t.1*m<=N)(hy:∀t∈yt,-N<=t.1*k/\t.1*k<=N):jh9 (jp0 xt m yt k) ((xt.length+yt.length:Nat)*N):=by
 have h1:=jac1 (m:=m) hN xt [] 0 jh9.nil hx
 have h2:=jac1 (m:=-k) hN yt _ _ h1 (fun t ht=>by have:=hy t ht;rw[Int.mul_neg];omega)
 refine h2.mono ?_
 rw[Int.natCast_add,Int.add_mul];omega
def jh2(xt:List (Int×Int))(m:Int)(yt:List (Int×Int))(k:Int):List (Int×Int):=(jp0 xt m yt k).map jv8
theorem jat2 {l xt yt:List (Int×Int)} {m k:Int} (hp:l.Perm (jh2 xt m yt k)) (hx:∀t∈xt,jg0 t.2) (hy:∀t∈yt,jg0 t.2) (hlx:xt.length<=4) (hly:yt.length<=4)
  (hbx:∀t∈xt,-400000000000000000<=t.1*m/\t.1*m<=400000000000000000) (hby:∀t∈yt,-400000000000000000<=t.1*k/\t.1*k<=400000000000000000)
  (B:Nat) (A:Option Addr) (n c:Nat) (w:World) (h:ja6 w B A n c l) (hB:B<=w.heap.size) :
  Calls Tryz.prog 69 #[.slice A n c] w fun e w'=>∃s,e=.returned (.int .i64 s)/\jc1 (jh2 xt m yt k) s/\Below w.heap.size w w':=by
 obtain⟨hk1,hk2⟩:=zt0 hx hy m k
 have hbd:=jan3 (by omega) hbx hby
 have hbd2:jh9 (jp0 xt m yt k) 3200000000000000000:=hbd.mono (by omega)
 have hlen:=jad1 xt yt m k
 have hkeys:(jh2 xt m yt k).map (·.2)=(jp0 xt m yt k).map (·.1):=by simp[jh2,jv8,Function.comp_def]
 refine(jdg7 B A n c l w h hB ?_ ?_ ?_ ?_).mono ?_
 ·intro t ht
  obtain⟨p,hpm,rfl⟩:=List.mem_map.1 (hp.mem_iff.1 ht)
  have h1:=jd5 hk1 p hpm
  have h2:=hbd2 p.1
  rw[h1] at h2
  show -_<=p.2/\p.2<=_
  omega
 ·intro t ht
  exact hk2 _ (by rw[<-hkeys];exact List.mem_map_of_mem (hp.mem_iff.1 ht))
 ·rw[(hp.map (·.2)).nodup_iff,hkeys];exact hk1
 ·rw[hp.length_eq];simp[jh2];omega
 ·rintro e w' ⟨s,rfl,hs,hb⟩
  exact⟨s,rfl,hs.perm hp,hb⟩
theorem jay3:∀ {ts:List (Int×Int)} {last:Int},0<=last->jv9 last ts=true->(ts.map (·.2)).Nodup
 | [],_,_,_=>by simp
 | t0::ts,last,hl,h=>by
  simp only[jv9,Bool.and_eq_true] at h
  obtain⟨h1,h2⟩:=h
  unfold okT at h1
  simp only[Bool.and_eq_true,decide_eq_true_eq] at h1
  have h3:0<=t0.2:=by have:=h1.1.1.1.1;omega
  rw[List.map_cons,List.nodup_cons]
  refine⟨fun hm=>?_,jay3 h3 h2⟩
  obtain⟨u,hu,e⟩:=List.mem_map.1 hm
  have:=(zs4 h3 h2 u hu).2.2
  omega
theorem jc9{den:Int}{ts:List (Int×Int)}(h:jb3 den ts=true):(∀t∈ts,jg0 t.2)/\(ts.map (·.2)).Nodup:=by
 have hp:=(jb2 h).2.2.2
 refine⟨fun t ht=>?_,?_⟩
 ·obtain⟨h1,h2⟩:=hp t ht
  have h3:=jag6 t.2.toNat (by have:=h1.1;omega)
  exact⟨h1.1,h1.2.1,(zn4 t.2.toNat (by have:=h1.1;omega)).1 (by omega)⟩
 ·unfold jb3 at h
  simp only[Bool.and_eq_true,decide_eq_true_eq] at h
  exact jay3 (by omega) h.1.2
def jbz1(d:Int)(ts:List (Int×Int))(s c:Int):Prop:=(jb3 d ts=true/\jc1 ts s/\c=0)\/(jb3 d ts=false/\s=0/\c=2)
def jby7(xd:Int)(xt:List (Int×Int))(yd:Int)(yt:List (Int×Int))(s c:Int):Prop:=((jb3 xd xt&&jb3 yd yt)=true/\jc1 (jh2 xt yd yt xd) s/\c=0)\/((jb3 xd xt&&jb3 yd yt)=false/\s=0/\c=2)
theorem jat9 (d:Int) (A:Option Addr) (n c:Nat) (ts:List (Int×Int)) (B:Nat) (w:World) (hx:ja6 w B A n c ts) (hB:B<=w.heap.size) :
  Calls Tryz.prog 29 #[.agg #[.int .i64 d,.slice A n c]] w fun e w'=>∃s c,e=.returned (.tuple #[.int .i64 s,.int .i64 c])/\jbz1 d ts s c/\Below w.heap.size w w':=by
 have HV:=ja0 (jba5 d A n c ts B (w.alloc (.cells #[.int .i64 d,.slice A n c] 24)) (Rd.alloc hx hB _) (by simp;omega))
 have HT0:=ja0 (Rd.alloc hx hB (.cells #[.int .i64 d,.slice A n c] 24))
 have HX0:=ja0 (Blk.new w 24 #[.int .i64 d,.slice A n c])
 have HB0:=ja0 ((Below.refl w.heap.size w).alloc (Nat.le_refl _) (.cells #[.int .i64 d,.slice A n c] 24))
 have hp:=@jb2 d ts
 have hro:=@jc9 d ts
 simp only[World.size_alloc] at HV
 clear hx
 go_enter Tryz.func29,Tryz.ntmps29
 go_wp2_with fail
 refine HV.out.mono ?_
 rintro e w1 ⟨rfl,hb1⟩
 (try simp only[World.size_alloc] at hb1)
 have HX1:=ja0 (HX0.out.below hb1 (by omega))
 have HT1:=ja0 (HT0.out.below (hb1.mono (by omega)))
 have HB1:=ja0 (HB0.out.trans (hb1.mono (by omega)))
 have hz1:=hb1.size
 (try simp only[World.size_alloc] at hz1)
 obtain⟨q1,q2,q3,q4⟩:=HX1.out.two
 clear HV HX0 HT0 HB0 hb1
 cases hok:jb3 d ts
 ·go_wp2
  go_ret2
  exact⟨0,2,rfl,.inr ⟨hok,rfl,rfl⟩,HB1.out⟩
 ·obtain⟨hro1,hro2⟩:=hro hok
  obtain⟨_,_,hp1,hp2⟩:=hp hok
  have HSI:=ja0 (jdg7 B A n c ts w1 HT1.out (by omega) (fun t ht=>by have:=(hp2 t ht).1.2.2.2;omega) hro1 hro2 (by omega))
  have HOK:=ja0 hok
  clear hok hro hp hro1 hro2 hp1 hp2
  go_wp2_with (first
   | (go_at_call 69;refine HSI.out.mono ?_;rintro e w2 ⟨s,rfl,hs,hb2⟩;have HS:=ja0 hs;have HB2:=ja0 hb2;clear hs hb2))
  go_ret2
  exact⟨s,0,rfl,.inl ⟨HOK.out,HS.out,rfl⟩,HB1.out.trans (HB2.out.mono (by omega))⟩
theorem zs5 (xd:Int) (xA:Option Addr) (xn xc:Nat) (xt:List (Int×Int)) (yd:Int) (yA:Option Addr) (yn yc:Nat) (yt:List (Int×Int)) (B:Nat) (w:World) (hx:ja6 w B xA xn xc xt) (hy:ja6 w B yA yn yc yt) (hB:B<=w.heap.size) :
  Calls Tryz.prog 51 #[.agg #[.int .i64 xd,.slice xA xn xc],.agg #[.int .i64 yd,.slice yA yn yc]] w fun e w'=>∃s c,e=.returned (.tuple #[.int .i64 s,.int .i64 c])/\jby7 xd xt yd yt s c/\Below w.heap.size w w':=by
 have HV:=ja0 (zn6 xd xA xn xc xt yd yA yn yc yt B ((w.alloc (.cells #[.int .i64 xd,.slice xA xn xc] 24)).alloc (.cells #[.int .i64 yd,.slice yA yn yc] 24))
  (Rd.alloc (Rd.alloc hx hB _) (by simp;omega) _) (Rd.alloc (Rd.alloc hy hB _) (by simp;omega) _) (by simp;omega))
 have HX0:=ja0 ((Blk.new w 24 #[.int .i64 xd,.slice xA xn xc]).alloc (.cells #[.int .i64 yd,.slice yA yn yc] 24))
 have HY0:=ja0 (Blk.new (w.alloc (.cells #[.int .i64 xd,.slice xA xn xc] 24)) 24 #[.int .i64 yd,.slice yA yn yc])
 have HXT0:=ja0 (Rd.alloc (Rd.alloc hx hB (.cells #[.int .i64 xd,.slice xA xn xc] 24)) (by simp;omega) (.cells #[.int .i64 yd,.slice yA yn yc] 24))
 have HYT0:=ja0 (Rd.alloc (Rd.alloc hy hB (.cells #[.int .i64 xd,.slice xA xn xc] 24)) (by simp;omega) (.cells #[.int .i64 yd,.slice yA yn yc] 24))
 have HB0:=ja0 (((Below.refl w.heap.size w).alloc (Nat.le_refl _) (.cells #[.int .i64 xd,.slice xA xn xc] 24)).alloc (by simp) (.cells #[.int .i64 yd,.slice yA yn yc] 24))
 simp only[World.size_alloc] at HV HY0
 clear hx hy
 go_enter Tryz.func51,Tryz.ntmps51
 go_wp2_with fail
 refine HV.out.mono ?_
 rintro e w1 ⟨rfl,hb1⟩
 (try simp only[World.size_alloc] at hb1)
 have HX1:=ja0 (HX0.out.below hb1 (by omega))
 have HY1:=ja0 (HY0.out.below hb1 (by omega))
 have HXT1:=ja0 (Rd.below HXT0.out (hb1.mono (by omega)))
 have HYT1:=ja0 (Rd.below HYT0.out (hb1.mono (by omega)))
 have HB1:=ja0 (HB0.out.trans (hb1.mono (by omega)))
 have hz1:=hb1.size
 (try simp only[World.size_alloc] at hz1)
 obtain⟨q1,q2,q3,q4⟩:=HX1.out.two
 obtain⟨q5,q6,q7,q8⟩:=HY1.out.two
 clear HV HX0 HY0 HXT0 HYT0 HB0 hb1
 cases hok:(jb3 xd xt&&jb3 yd yt)
 ·go_wp2
  go_ret2
  exact⟨0,2,rfl,.inr ⟨hok,rfl,rfl⟩,HB1.out⟩
 ·have HOK:=ja0 hok
  rw[Bool.and_eq_true] at hok
  obtain⟨px1,px2,px3,px4⟩:=jb2 hok.1
  obtain⟨py1,py2,py3,py4⟩:=jb2 hok.2
  have hbx:∀t∈xt,-400000000000000000<=t.1*yd/\t.1*yd<=400000000000000000:=fun t ht=>by
   have:=jc2 (a:=t.1) (b:=yd) (A:=100000) (B:=100000) (px4 t ht).1.2.2.2 ⟨by omega,by omega⟩
   omega
  have hby:∀t∈yt,-400000000000000000<=t.1*xd/\t.1*xd<=400000000000000000:=fun t ht=>by
   have:=jc2 (a:=t.1) (b:=xd) (A:=100000) (B:=100000) (py4 t ht).1.2.2.2 ⟨by omega,by omega⟩
   omega
  have hrx:=(jc9 hok.1).1
  have hry:=(jc9 hok.2).1
  have HL:=ja0 (jbg3 xA xn xc xt yd yA yn yc yt xd B w1 HXT1.out HYT1.out (by omega) px3 py3 hbx hby)
  have HSI:=ja0 (fun l hp B A n c w h hB=>jat2 (l:=l) hp hrx hry px3 py3 hbx hby B A n c w h hB)
  clear hok px1 px2 px3 px4 py1 py2 py3 py4 hbx hby hrx hry
  go_wp2_with (first
   | (go_at_call 94;refine HL.out.mono ?_;rintro e w2 ⟨A2,n2,c2,l2,rfl,ht2,hp2,hb2⟩;have HT2:=ja0 ht2;have HP2:=ja0 hp2;have HB2:=ja0 hb2;clear ht2 hp2 hb2)
   | (go_at_call 69;refine(HSI.out _ HP2.out _ _ _ _ _ HT2.out (Nat.le_refl _)).mono ?_;rintro e w3 ⟨s,rfl,hs,hb3⟩;have HS:=ja0 hs;have HB3:=ja0 hb3;clear hs hb3))
  go_ret2
  exact⟨s,0,rfl,.inl ⟨HOK.out,HS.out,rfl⟩,(HB1.out.trans (HB2.out.mono (by omega))).trans (HB3.out.mono (by have:=HB2.out.size;omega))⟩
end Go.Proofs.YtphcodcdfeohhaaGreatDoor
