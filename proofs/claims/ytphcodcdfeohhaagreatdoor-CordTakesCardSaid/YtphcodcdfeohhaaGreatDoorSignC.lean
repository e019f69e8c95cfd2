import Derived.Test.YtphcodcdfeohhaaGreatDoorSignMToSignB
import Derived.Test.YtphcodcdfeohhaaGreatDoorBaseToStage
set_option linter.unusedVariables false
set_option linter.unusedSimpArgs false
namespace Go.Proofs.YtphcodcdfeohhaaGreatDoor
set_option maxRecDepth 100000
set_option maxHeartbeats 8000000
open Go.RowKit
theorem jdh9 (B:Nat) (A:Option Addr) (n c:Nat) (ts:List (Int×Int)) (w:World) (h:ja3 w B A n c ts) (hB:B<=w.heap.size) (hlen:ts.length<=1000) (hnd:((ts.filter nzT).map (·.2)).Nodup)
  (hbd:∀t∈ts,(-4000000000000000000<=t.1/\t.1<=4000000000000000000)/\0<=t.2/\t.2<=4000000000000000000) (K:Nat) (hK:K<=500000000000) (hV:ts.filter nzT=[]\/jb9 (ts.filter nzT) K≠0) :
  Calls Tryz.prog 69 #[.slice A n c] w fun e w'=>∃s,e=.returned (.int .i64 s)/\jb3 ts s/\Below w.heap.size w w':=by
 have hl:=h.len
 subst hl
 have HCL:=ja0 (jas9 B A ts.length c ts w h hB (by omega))
 clear h
 go_enter Tryz.func69,Tryz.ntmps69
 go_wp2_with fail
 refine HCL.out.mono ?_
 rintro e w1 ⟨A1,c1,rfl,ho1,hb1⟩
 have HDL:=ja0 (jbr6 A1 ts.length c1 _ ts w1 ho1 Tryz.zeroValue59)
 have HO1:=ja0 ho1;have HB1:=ja0 hb1
 clear ho1 hb1 HCL
 go_wp2_with fail
 refine HDL.out.mono ?_
 rintro e w2 ⟨n2,rfl,hn2,ht2,hg2⟩
 have HB2:Hid (Below w.heap.size w w2):=ja0 (HB1.out.grown hg2 HB1.out.size (fun j e=>(HO1.out.lt j e).1))
 clear HO1 HB1 HDL hg2
 have hfl:=ht2.len
 have HT2:=ja0 ht2
 have hbf:∀t∈ts.filter nzT,(-4000000000000000000<=t.1/\t.1<=4000000000000000000)/\0<=t.2/\t.2<=4000000000000000000:=fun t ht=>hbd t (List.mem_filter.1 ht).1
 have HBF:=ja0 hbf
 have HS0:=ja0 (fun h:ts.filter nzT=[]=>(show jb3 ts 0 from .inl ⟨h,rfl⟩))
 have HS1:=ja0 (fun(h:ts.filter nzT≠[]) (s:Int) (hs:s≠0) (k:Nat) (hk:jb9 (ts.filter nzT) k=s)=>(show jb3 ts s from .inr ⟨h,hs,k,hk⟩))
 have HND:=ja0 hnd
 have HV:=ja0 hV
 clear ht2 hbf hbd hnd hV
 generalize ts.filter nzT=fs at *
 subst hfl
 by_cases hemp:fs=[]
 ·have h0:fs.length=0:=by rw[hemp];rfl
  go_wp2
  go_ret
  exact⟨0,rfl,HS0.out hemp,HB2.out⟩
 have hpos:0<fs.length:=List.length_pos_iff.2 hemp
 have hne0:((fs.length:Int)==0)=false:=beq_eq_false_iff_ne.2 (by omega)
 have hvk:=HV.out.resolve_left hemp
 have HVK:=ja0 hvk
 have HS:=ja0 (HS1.out hemp)
 clear HS0 HS1 HV hvk hemp
 have HM0:=ja0 (ja6.new w2)
 have HT3:=ja0 (Rd.alloc HT2.out (Nat.le_refl _) (.map #[] 0))
 have HB3:=ja0 ((Below.refl w2.heap.size w2).alloc (Nat.le_refl _) (.map #[] 0))
 go_wp2_with (first
  | (refine jf1 _ rfl _ rfl ?_))
 go_loopw [23] (fun i W=>∃(k:Nat) (rr:Int->Nat),k<=fs.length/\i=.int .i64 k/\ja6 W w2.heap.size (zh0 (fs.take k) rr)/\jd3 W (w2.heap.size+1) (fs.take k) rr (fun _=>0)/\jab7 (w2.heap.size+1) (fs.take k) rr/\ja3 W w2.heap.size A1 fs.length c1 fs/\Below w2.heap.size w2 W/\w2.heap.size+1<=W.heap.size) (fun i _=>fs.length-(intOf i).toNat)
 case atStart=>
  exact⟨0,fun _=>0,by omega,rfl,HM0.out,by intro t ht;simp at ht,⟨by simp,by simp⟩,HT3.out,HB3.out,by simp⟩
 case round=>
  obtain⟨k,rr,hk,rfl,hm,hr,ha,ht,hb,hz⟩:=hrel
  have HM:=ja0 hm;have HR:=ja0 hr;have HA:=ja0 ha;have HT:=ja0 ht;have HB:=ja0 hb
  clear hm hr ha ht hb HM0 HT3 HB3
  by_cases hlt:k<fs.length
  ·obtain⟨ad,had,hc0,hc1⟩:=HT.out.at_ hlt
   subst had
   have htb:=HBF.out fs[k] (List.getElem_mem hlt)
   have hnk:fs[k].2∉(fs.take k).map (·.2):=by
    intro hm
    obtain⟨u,hu,he⟩:=List.mem_map.1 hm
    obtain⟨j,hj,rfl⟩:=List.mem_iff_getElem.1 hu
    simp only[List.length_take] at hj
    rw[List.getElem_take] at he
    have h1:(fs.map (·.2))[j]?=(fs.map (·.2))[k]?:=by
     rw[List.getElem?_map,List.getElem?_map,List.getElem?_eq_getElem (show j<fs.length by omega),List.getElem?_eq_getElem hlt]
     simp[he]
    have:=(List.getElem?_inj (by simp;omega) HND.out).1 h1
    omega
   have hts:=ja0 (jc7 fs k hlt)
   generalize fs[k]=t at *
   obtain⟨co,ro⟩:=t
   dsimp only at htb hc0 hc1 hnk
   have hts2:Hid (fs.take (k+1)=fs.take k++[(co,ro)]):=hts
   have HNK:=ja0 hnk
   clear hts hnk
   have HST:=ja0 (fun W=>jcz1 co ro W htb.1 htb.2)
   obtain⟨wa,hwa⟩:∃wa,wa=wr.alloc (.cells #[.int .i64 co,.int .i64 ro] 59):=⟨_,rfl⟩
   have hza:wa.heap.size=wr.heap.size+1:=by rw[hwa];simp
   have HTB:Hid (Blk wa wr.heap.size 59 #[.int .i64 co,.int .i64 ro]):=ja0 (by rw[hwa];exact Blk.new _ _ _)
   have HMa:Hid (ja6 wa w2.heap.size (zh0 (fs.take k) rr)):=ja0 (by rw[hwa];exact HM.out.alloc _)
   have HRa:Hid (jd3 wa (w2.heap.size+1) (fs.take k) rr (fun _=>0)):=ja0 (by rw[hwa];exact HR.out.below ((Below.refl _ _).alloc (Nat.le_refl _) _))
   have HTa:Hid (ja3 wa w2.heap.size (some ad) fs.length c1 fs):=ja0 (by rw[hwa];exact Rd.alloc HT.out (by omega) _)
   have HBa:Hid (Below w2.heap.size w2 wa):=ja0 (by rw[hwa];exact HB.out.alloc HB.out.size _)
   clear HM HR HT HB
   go_wp2
   rw[<-hwa]
   clear hwa
   obtain⟨p0,p1,p2,p3⟩:=HTB.out.two
   have hfin:∀(r5 R5 T5:Nat) (w5 w6:World),wa.drew.heap.size<=r5->jd4 w5 wa.drew.heap.size r5 R5 T5 96->jm1 (co.natAbs*co.natAbs*ro.toNat) R5 T5->Below wa.drew.heap.size wa.drew w5 ->
     ja6 w6 w2.heap.size (zp0 (zh0 (fs.take k) rr) ro (.pointer (some ⟨r5,0,none⟩)))->w5.grownBy w6 (some w2.heap.size) ->
     ∃(k_1:Nat) (rr:Int->Nat),k_1<=fs.length/\Value.int .i64 ((k:Int)+1)=.int .i64 k_1/\ja6 w6 w2.heap.size (zh0 (fs.take k_1) rr)/\jd3 w6 (w2.heap.size+1) (fs.take k_1) rr (fun _=>0)/\jab7 (w2.heap.size+1) (fs.take k_1) rr/\ja3 w6 w2.heap.size (some ad) fs.length c1 fs/\Below w2.heap.size w2 w6/\w2.heap.size+1<=w6.heap.size:=by
    intro r5 R5 T5 w5 w6 hr5 hra5 hsq5 hb5 hm6 hg6
    have hz5:wa.heap.size<=w5.heap.size:=hb5.size
    have hrl5:=hra5.lt
    have hq:=jcd7 (t:=(co,ro)) hsq5
    rw[hq.1,hq.2] at hra5
    have hR5:jd3 w5 (w2.heap.size+1) (fs.take k) rr (fun _=>0):=jd3.below (W:=wa.drew) HRa.out hb5
    have hra6:jd4 w5 (w2.heap.size+1) r5 (jg3 (co,ro) 0) (zc8 (co,ro) 0) 96:=hra5.less (by simp;omega) (Nat.le_refl _)
    have hr5':wr.heap.size+1<=r5:=by simp at hr5;omega
    have hap:=jab7.snoc (t:=(co,ro)) HA.out (show w2.heap.size+1<=r5 by omega) HNK.out (fun u hu e=>by have h1:=(HRa.out u hu).lt;rw[e] at h1;omega)
    have hsn:=jd3.snoc (t:=(co,ro)) hR5 hra6 HNK.out
    refine⟨k+1,upd rr ro r5,by omega,by go_num,?_,?_,?_,?_,?_,?_⟩
    ·rw[hts2.out,<-jct1 (t:=(co,ro)) r5 HNK.out];exact hm6
    ·rw[hts2.out]
     exact hsn.row hg6 (fun b e=>by cases e;omega) hap.1
    ·rw[hts2.out];exact hap
    ·exact Rd.grown (Rd.below (Rd.drew HTa.out) (hb5.mono (by simp;omega))) hg6 (by omega) (fun j e=>by cases e;exact Nat.le_refl _)
    ·exact(HBa.out.drew.trans (hb5.mono (by simp;omega))).grown hg6 (by omega) (fun j e=>by cases e;exact Nat.le_refl _)
    ·have:=hg6.size;omega
   have HFIN:=ja0 hfin
   clear hfin
   go_region_with (first
    | (go_at_call 113;refine(HST.out _).mono ?_;rintro e w5 ⟨r5,R5,T5,rfl,hr5,hra5,hsq5,hb5⟩
       have hlm5:w2.heap.size<wa.drew.heap.size:=by simp;omega
       have HTB5:=Blk.below (Blk.drew HTB.out) hb5 (show wr.heap.size<wa.drew.heap.size by simp;omega)
       obtain⟨v0,v1,v2,v3⟩:=HTB5.two
       have hm5:=ja6.below (ja6.drew HMa.out) hb5 hlm5
       obtain⟨w6,hmu,hm6,hg6,hz6⟩:=zh3 (P:=Tryz.prog) hm5 Tryz.underlying145 Tryz.underlying3 ro (.pointer (some ⟨r5,0,none⟩))
       have HF5:=ja0 (HFIN.out r5 R5 T5 w5 w6 hr5 hra5 hsq5 hb5 hm6 hg6)
       clear HTB5 hm5 hm6 hg6 hz6 hb5 hra5 hsq5 hr5))
   all_goals
    go_wp2
    exact⟨HF5.out,by simp[intOf];omega⟩
  ·obtain rfl:k=fs.length:=by omega
   rw[List.take_length] at HM HR HA
   clear HT2
   go_wp2
   go_loopg [] K (fun gg W=>∃lev,lev<=K/\K-lev<=gg/\ja6 W w2.heap.size (zh0 fs rr)/\jd3 W (w2.heap.size+1) fs rr (fun _=>lev)/\ja3 W w2.heap.size A1 fs.length c1 fs/\Below w2.heap.size w2 W/\w2.heap.size+1<=W.heap.size)
   case atStart=>exact⟨0,by omega,by omega,HM.out,HR.out,HT.out,HB.out,hz⟩
   case round=>
    obtain⟨lev,hlv,hgg,hm,hr,ht,hb,hzr⟩:=hrel
    obtain⟨P0,hP0⟩:∃P0,P0=wr.heap.size:=⟨_,rfl⟩
    have HI0:Hid (jk6 w2 ((wr.alloc (.cells #[.slice none 0 0,.slice none 0 0] 150)).alloc (.cells #[.slice none 0 0,.slice none 0 0] 150)) w2.heap.size P0 lev fs rr A1 c1 0):=ja0 (by
     have hs1:=(jk3.new wr).below ((Below.refl _ _).alloc (Nat.le_refl _) (.cells #[.slice none 0 0,.slice none 0 0] 150))
     have hs2:=jk3.new (wr.alloc (.cells #[.slice none 0 0,.slice none 0 0] 150))
     rw[World.size_alloc] at hs2
     rw[hP0]
     have hbb:Below wr.heap.size wr ((wr.alloc (.cells #[.slice none 0 0,.slice none 0 0] 150)).alloc (.cells #[.slice none 0 0,.slice none 0 0] 150)):=((Below.refl _ _).alloc (Nat.le_refl _) _).alloc (by simp) _
     exact⟨hs1.more (by omega),hs2.more (by omega),(hm.alloc _).alloc _,hr.below hbb,Rd.below ht (hbb.mono (by omega)),hb.trans (hbb.mono (by omega)),by omega,Nat.le_refl _⟩)
    clear hm hr ht hb HM HR HT HB hk
    go_wp2
    rw[<-hP0]
    clear hP0
    go_loopw [38] (fun i W=>∃k:Nat,k<=fs.length/\i=.int .i64 k/\jk6 w2 W w2.heap.size P0 lev fs rr A1 c1 k) (fun i _=>fs.length-(intOf i).toNat)
    case atStart=>exact⟨0,by omega,rfl,HI0.out⟩
    case round=>
     obtain⟨k,hk,rfl,hi⟩:=hrel
     have hzr2:w2.heap.size+1<=wr.heap.size:=by have h1:=hi.lt;have h2:=hi.2.2.2.2.2.2.1;omega
     by_cases hlt:k<fs.length
     ·have HII:=ja0 hi
      obtain⟨ad,had,hc0,hc1⟩:=(show ja3 wr w2.heap.size A1 fs.length c1 fs from hi.2.2.2.2.1).at_ hlt
      subst had
      have hts:=ja0 (jc7 fs k hlt)
      have htb:=HBF.out fs[k] (List.getElem_mem hlt)
      have htm:=List.getElem_mem hlt
      generalize fs[k]=t at *
      obtain⟨co,ro⟩:=t
      dsimp only at hc0 hc1 htb
      have hts2:Hid (fs.take (k+1)=fs.take k++[(co,ro)]):=hts
      have HTM:Hid ((co,ro)∈fs):=htm
      clear hts hi htm HI0
      obtain⟨wa,hwa⟩:∃wa,wa=wr.alloc (.cells #[.int .i64 co,.int .i64 ro] 59):=⟨_,rfl⟩
      have hza:wa.heap.size=wr.heap.size+1:=by rw[hwa];simp
      have HTB:Hid (Blk wa wr.heap.size 59 #[.int .i64 co,.int .i64 ro]):=ja0 (by rw[hwa];exact Blk.new _ _ _)
      have HI:Hid (jk6 w2 wa w2.heap.size P0 lev fs rr (some ad) c1 k):=ja0 (by rw[hwa];exact HII.out.below ((Below.refl _ _).alloc (Nat.le_refl _) _))
      have hlk:(Instr.lookup 145 (.map (some w2.heap.size)) (.int .i64 ro) false).run Tryz.prog (wr.alloc (.cells #[.int .i64 co,.int .i64 ro] 59))=.ok (.pointer (some ⟨rr ro,0,none⟩)) (wr.alloc (.cells #[.int .i64 co,.int .i64 ro] 59)):=by
       rw[<-jcc7 (rr:=rr) (z:=.pointer none) HTM.out]
       exact jz6 (by have:=HI.out.2.2.1;rw[hwa] at this;exact this) Tryz.underlying145 Tryz.underlying3 (.pointer none) Tryz.zeroValue146 ro
      clear HII
      by_cases hneg:co<0
      ·have HNEG:Hid ((co,ro).1<0):=ja0 hneg
       go_wp2
       rw[<-hwa]
       clear hwa hlk
       obtain⟨A0,n0,c0,A9,n9,c9,hbk,hx,hy,hn0,hn9⟩:jk3 wa (P0+1) (jh6 (fs.take k) lev) (jn6 (fs.take k) lev) (97+16*lev+k):=HI.out.2.1
       have hrt:=HI.out.2.2.2.1 (co,ro) HTM.out
       obtain⟨Ar,nr,cr,At,nt,ct,hrb,hlr,hlt',hnr,hnt,_,_⟩:=hrt
       have hrt:jd4 wa (w2.heap.size+1) (rr ro) (jg3 (co,ro) lev) (zc8 (co,ro) lev) (96+16*lev):=HI.out.2.2.2.1 (co,ro) HTM.out
       dsimp only at hrb hlr hlt' hnr hnt
       have HP1:=ja0 (fun(Wc:World) (hb:Below wa.heap.size wa Wc)=>jr8 _ A0 n0 c0 (jh6 (fs.take k) lev) _ Ar nr cr (jg3 (co,ro) lev) Wc (hx.below hb) (hlr.below hb) (by omega) (by omega))
       have HHI:=ja0 (fun(Wc:World) (hb:Below wa.heap.size wa Wc)=>jbt1 _ (rr ro) _ _ _ Wc (hrt.below hb) (by omega))
       have HP2:=ja0 (fun(Wc:World) (Ah:Option Addr) (nh ch:Nat) (hb:Below wa.heap.size wa Wc) (hh:LW Wc Ah nh ch (jr4 (co,ro) lev)) (hn:nh<=96+16*lev+1)=>jr8 _ A9 n9 c9 (jn6 (fs.take k) lev) _ Ah nh ch (jr4 (co,ro) lev) Wc (hy.below hb) hh (by omega) (by omega))
       have CELLS:=ja0 (fun(Wc:World) (hb:Below wa.heap.size wa Wc)=>And.intro (hbk.below hb hbk.lt).two (hrb.below hb hrb.lt).two)
       have HFIN:Hid (∀(w8:World) (A5:Option Addr) (n5 c5:Nat) (A6:Option Addr) (n6 c6:Nat),Below wa.heap.size wa w8->LW w8 A5 n5 c5 (jh6 (fs.take k) lev+jg3 (co,ro) lev)->LW w8 A6 n6 c6 (jn6 (fs.take k) lev+jr4 (co,ro) lev)->n5<=97+16*lev+k+1->n6<=97+16*lev+k+1 ->
         jk6 w2 ((w8.setCell ⟨(P0+1),0,none⟩ (.slice A5 n5 c5)).setCell ⟨(P0+1),1,none⟩ (.slice A6 n6 c6)) w2.heap.size P0 lev fs rr (some ad) c1 (k+1) /\
         jk6 w2 ((w8.setCell ⟨(P0+1),1,none⟩ (.slice A6 n6 c6)).setCell ⟨(P0+1),0,none⟩ (.slice A5 n5 c5)) w2.heap.size P0 lev fs rr (some ad) c1 (k+1)):=ja0 (by
        intro w8 A5 n5 c5 A6 n6 c6 hb h5 h6 hn5 hn6
        have hI8:=HI.out.below hb
        have hb8:=hbk.below hb hbk.lt
        exact⟨hI8.neg (t:=(co,ro)) hts2.out (by have h9:=HNEG.out;(first|exact h9|exact Int.not_lt.2 h9)) HA.out (jf6 (jf6 (World.grownBy.refl _ _) _ _) _ _) (jk3.set_ hb8 h5 h6 hn5 hn6),hI8.neg (t:=(co,ro)) hts2.out (by have h9:=HNEG.out;(first|exact h9|exact Int.not_lt.2 h9)) HA.out (jf6 (jf6 (World.grownBy.refl _ _) _ _) _ _) (jk3.set_' hb8 h5 h6 hn5 hn6)⟩)
       have HBc:Hid (Below wa.heap.size wa wa.drew):=ja0 (Below.drew (Below.refl _ _))
       obtain⟨⟨q1,q2,q3,q4⟩,q5,q6,q7,q8⟩:=CELLS.out wa (Below.refl _ _)
       have hne1:¬rr ro=(P0+1):=fun e=>by
        rw[e] at hrb
        unfold Blk at hrb hbk
        rw[hbk] at hrb
        injection hrb with hrb
        injection hrb with _ hrb
        exact absurd hrb (by decide)
       have hne2:¬(P0+1)=rr ro:=fun e=>hne1 e.symm
       clear hbk hx hy hrt hrb hlr hlt'
       refine jj7 (fun w'=>w'.cell? ⟨rr ro,0,none⟩=some (.slice Ar nr cr)) 20 (fun w'=>w'.cell? ⟨(P0+1),0,none⟩=some (.slice A0 n0 c0)) 23 (fun w'=>w'.cell? ⟨(P0+1),1,none⟩=some (.slice A9 n9 c9)) (by kernel_rfl) ⟨(CELLS.out _ HBc.out).2.1,fun _=>(CELLS.out _ HBc.out).1.1,fun _=>(CELLS.out _ HBc.out).1.2.1⟩ (fun ja1=>?_)
       refine ja2 0 rfl (by decide +kernel) (fun _ _ _ h=>h) (by rfl) (v:=?_) ?_ ja1 (fun ja4=>?_)
       rotate_left 1
       focus (intro w' hSw;obtain⟨hC,hF,hG⟩:=hSw;clear hF;clear hG;go_simp;try with_reducible rfl)
       clear ja1
       rename ja8 _ _ _ _ _ _ _=>ja1
       simp only[Act.put,lA,lB,lC]
       refine ja2 1 rfl (by decide +kernel) (fun _ _ _ h=>h) (by rfl) (v:=?_) ?_ ja1 (fun ja4=>?_)
       rotate_left 1
       focus (intro w' hSw;obtain⟨hC,hF,hG⟩:=hSw;clear hF;clear hG;go_simp;try with_reducible rfl)
       clear ja1
       rename ja8 _ _ _ _ _ _ _=>ja1
       simp only[Act.put,lA,lB,lC]
       refine ja2 2 rfl (by decide +kernel) (fun _ _ _ h=>h) (by rfl) (v:=?_) ?_ ja1 (fun ja4=>?_)
       rotate_left 1
       focus (intro w' hSw;obtain⟨hC,hF,hG⟩:=hSw;clear hF;clear hG;go_simp;try with_reducible rfl)
       clear ja1
       rename ja8 _ _ _ _ _ _ _=>ja1
       simp only[Act.put,lA,lB,lC]
       refine ja2 3 rfl (by decide +kernel) (fun _ _ _ h=>h) (by rfl) (v:=?_) ?_ ja1 (fun ja4=>?_)
       rotate_left 1
       focus (intro w' hSw;obtain⟨hC,hF,hG⟩:=hSw;clear hF;clear hG;go_simp;try with_reducible rfl)
       clear ja1
       rename ja8 _ _ _ _ _ _ _=>ja1
       simp only[Act.put,lA,lB,lC]
       refine ja2 4 rfl (by decide +kernel) (fun _ _ _ h=>h) (by rfl) (v:=?_) ?_ ja1 (fun ja4=>?_)
       rotate_left 1
       focus (intro w' hSw;obtain⟨hC,hF,hG⟩:=hSw;clear hF;clear hG;go_simp;try with_reducible rfl)
       clear ja1
       rename ja8 _ _ _ _ _ _ _=>ja1
       simp only[Act.put,lA,lB,lC]
       refine ja2 5 rfl (by decide +kernel) (fun _ _ _ h=>h) (by rfl) (v:=?_) ?_ ja1 (fun ja4=>?_)
       rotate_left 1
       focus (intro w' hSw;obtain⟨hC,hF,hG⟩:=hSw;have hF:=hF (by decide +kernel);clear hG;go_simp;try with_reducible rfl)
       clear ja1
       rename ja8 _ _ _ _ _ _ _=>ja1
       simp only[Act.put,lA,lB,lC]
       refine ja2 6 rfl (by decide +kernel) (fun _ _ _ h=>h) (by rfl) (v:=?_) ?_ ja1 (fun ja4=>?_)
       rotate_left 1
       focus (intro w' hSw;obtain⟨hC,hF,hG⟩:=hSw;clear hF;clear hG;go_simp;try with_reducible rfl)
       clear ja1
       rename ja8 _ _ _ _ _ _ _=>ja1
       simp only[Act.put,lA,lB,lC]
       refine ja2 7 rfl (by decide +kernel) (fun _ _ _ h=>h) (by rfl) (v:=?_) ?_ ja1 (fun ja4=>?_)
       rotate_left 1
       focus (intro w' hSw;obtain⟨hC,hF,hG⟩:=hSw;clear hF;clear hG;go_simp;try with_reducible rfl)
       clear ja1
       rename ja8 _ _ _ _ _ _ _=>ja1
       simp only[Act.put,lA,lB,lC]
       refine ja2 8 rfl (by decide +kernel) (fun _ _ _ h=>h) (by rfl) (v:=?_) ?_ ja1 (fun ja4=>?_)
       rotate_left 1
       focus (intro w' hSw;obtain⟨hC,hF,hG⟩:=hSw;clear hF;clear hG;go_simp;try with_reducible rfl)
       clear ja1
       rename ja8 _ _ _ _ _ _ _=>ja1
       simp only[Act.put,lA,lB,lC]
       refine ja2 9 rfl (by decide +kernel) (fun _ _ _ h=>h) (by rfl) (v:=?_) ?_ ja1 (fun ja4=>?_)
       rotate_left 1
       focus (intro w' hSw;obtain⟨hC,hF,hG⟩:=hSw;clear hF;clear hG;go_simp;try with_reducible rfl)
       clear ja1
       rename ja8 _ _ _ _ _ _ _=>ja1
       simp only[Act.put,lA,lB,lC]
       refine ja2 11 rfl (by decide +kernel) (fun _ _ _ h=>h) (by rfl) (v:=?_) ?_ ja1 (fun ja4=>?_)
       rotate_left 1
       focus (intro w' hSw;obtain⟨hC,hF,hG⟩:=hSw;clear hF;clear hG;go_simp;try with_reducible rfl)
       clear ja1
       rename ja8 _ _ _ _ _ _ _=>ja1
       simp only[Act.put,lA,lB,lC]
       refine ja2 12 rfl (by decide +kernel) (fun _ _ _ h=>h) (by rfl) (v:=?_) ?_ ja1 (fun ja4=>?_)
       rotate_left 1
       focus (intro w' hSw;obtain⟨hC,hF,hG⟩:=hSw;clear hF;clear hG;go_simp;try with_reducible rfl)
       clear ja1
       rename ja8 _ _ _ _ _ _ _=>ja1
       simp only[Act.put,lA,lB,lC]
       refine ja2 13 rfl (by decide +kernel) (fun _ _ _ h=>h) (by rfl) (v:=?_) ?_ ja1 (fun ja4=>?_)
       rotate_left 1
       focus (intro w' hSw;obtain⟨hC,hF,hG⟩:=hSw;clear hF;clear hG;go_simp;try with_reducible rfl)
       clear ja1
       rename ja8 _ _ _ _ _ _ _=>ja1
       simp only[Act.put,lA,lB,lC]
       refine ja2 14 rfl (by decide +kernel) (fun _ _ _ h=>h) (by rfl) (v:=?_) ?_ ja1 (fun ja4=>?_)
       rotate_left 1
       focus (intro w' hSw;obtain⟨hC,hF,hG⟩:=hSw;clear hF;have hG:=hG (by decide +kernel);go_simp;try with_reducible rfl)
       clear ja1
       rename ja8 _ _ _ _ _ _ _=>ja1
       simp only[Act.put,lA,lB,lC]
       refine ja2 15 rfl (by decide +kernel) (fun _ _ _ h=>h) (by rfl) (v:=?_) ?_ ja1 (fun ja4=>?_)
       rotate_left 1
       focus (intro w' hSw;obtain⟨hC,hF,hG⟩:=hSw;clear hF;clear hG;go_simp;try with_reducible rfl)
       clear ja1
       rename ja8 _ _ _ _ _ _ _=>ja1
       simp only[Act.put,lA,lB,lC]
       refine ja2 18 rfl (by decide +kernel) (fun _ _ _ h=>h) (by rfl) (v:=?_) ?_ ja1 (fun ja4=>?_)
       rotate_left 1
       focus (intro w' hSw;obtain⟨hC,hF,hG⟩:=hSw;clear hF;clear hG;go_simp;try with_reducible rfl)
       clear ja1
       rename ja8 _ _ _ _ _ _ _=>ja1
       simp only[Act.put,lA,lB,lC]
       refine ja2 21 rfl (by decide +kernel) (fun _ _ _ h=>h) (by rfl) (v:=?_) ?_ ja1 (fun ja4=>?_)
       rotate_left 1
       focus (intro w' hSw;obtain⟨hC,hF,hG⟩:=hSw;clear hF;clear hG;go_simp;try with_reducible rfl)
       clear ja1
       rename ja8 _ _ _ _ _ _ _=>ja1
       simp only[Act.put,lA,lB,lC]
       refine jb5 10 rfl (by decide +kernel) (fun K hK=>?_)
       go_simp
       go_wp2_with (first
        | (go_at_call 114;refine(HP1.out _ HBc.out).mono ?_;rintro e w5 ⟨A5,n5,c5,rfl,hw5,hn5,hb5⟩
           have HBc:=ja0 (HBc.out.trans (hb5.mono HBc.out.size))
           obtain⟨⟨q1,q2,q3,q4⟩,q5,q6,q7,q8⟩:=CELLS.out _ HBc.out
           have HW5:Hid (LW w5 A5 n5 c5 (jh6 (fs.take k) lev+jg3 (co,ro) lev)):=ja0 hw5
           have HN5:n5<=97+16*lev+k+1:=by omega
           clear hb5 hw5))
       refine hK.out _ _ ⟨(CELLS.out _ HBc.out).2.1,fun _=>(CELLS.out _ HBc.out).1.1,fun _=>(CELLS.out _ HBc.out).1.2.1⟩ (fun ja1=>?_)
       clear hK K
       refine jb5 16 rfl (by decide +kernel) (fun K hK=>?_)
       go_simp
       go_wp2_with (first
        | (go_at_call 115;refine(HHI.out _ HBc.out).mono ?_;rintro e w6 ⟨A7,n7,c7,rfl,hw7,hn7,hb5⟩
           have HBc:=ja0 (HBc.out.trans (hb5.mono HBc.out.size))
           obtain⟨⟨q1,q2,q3,q4⟩,q5,q6,q7,q8⟩:=CELLS.out _ HBc.out
           have HWh:Hid (LW w6 A7 n7 c7 (jr4 (co,ro) lev)):=ja0 hw7
           have HW5:=ja0 (LW.below HW5.out hb5)
           clear hb5 hw7))
       refine hK.out _ _ ⟨(CELLS.out _ HBc.out).2.1,fun _=>(CELLS.out _ HBc.out).1.1,fun _=>(CELLS.out _ HBc.out).1.2.1⟩ (fun ja1=>?_)
       clear hK K
       refine jb5 17 rfl (by decide +kernel) (fun K hK=>?_)
       go_simp
       go_wp2_with (first
        | (go_at_call 114;refine(HP2.out _ _ _ _ HBc.out HWh.out hn7).mono ?_;rintro e w7 ⟨A6,n6,c6,rfl,hw6,hn6,hb5⟩
           have HBc:=ja0 (HBc.out.trans (hb5.mono HBc.out.size))
           obtain⟨⟨q1,q2,q3,q4⟩,q5,q6,q7,q8⟩:=CELLS.out _ HBc.out
           have HW6:Hid (LW w7 A6 n6 c6 (jn6 (fs.take k) lev+jr4 (co,ro) lev)):=ja0 hw6
           have HN6:n6<=97+16*lev+k+1:=by omega
           have HW5:=ja0 (LW.below HW5.out hb5)
           clear hb5 hw6))
       refine hK.out _ _ ⟨(CELLS.out _ HBc.out).2.1,fun _=>(CELLS.out _ HBc.out).1.1,fun _=>(CELLS.out _ HBc.out).1.2.1⟩ (fun ja1=>?_)
       clear hK K
       refine ja2 19 rfl (by decide +kernel) (fun _ _ _ h=>h) (by rfl) (v:=?_) ?_ ja1 (fun ja4=>?_)
       rotate_left 1
       focus (intro w' hSw;obtain⟨hC,hF,hG⟩:=hSw;clear hF;clear hG;go_simp;try with_reducible rfl)
       clear ja1
       rename ja8 _ _ _ _ _ _ _=>ja1
       simp only[Act.put,lA,lB,lC]
       refine jb5 20 rfl (by decide +kernel) (fun K hK=>?_)
       go_simp
       refine hK.out _ _ ⟨(World.cell?_setCell_far _ _ _ _ hne2).trans (CELLS.out _ HBc.out).2.1,fun h=>absurd h (by decide +kernel),fun _=>(World.cell?_setCell_other _ _ _ _ (by simp)).trans (CELLS.out _ HBc.out).1.2.1⟩ (fun ja1=>?_)
       clear hK K
       refine ja2 22 rfl (by decide +kernel) (fun _ _ _ h=>h) (by rfl) (v:=?_) ?_ ja1 (fun ja4=>?_)
       rotate_left 1
       focus (intro w' hSw;obtain⟨hC,hF,hG⟩:=hSw;clear hF;clear hG;go_simp;try with_reducible rfl)
       clear ja1
       rename ja8 _ _ _ _ _ _ _=>ja1
       simp only[Act.put,lA,lB,lC]
       refine jb5 23 rfl (by decide +kernel) (fun K hK=>?_)
       go_simp
       refine hK.out _ _ ⟨(World.cell?_setCell_far _ _ _ _ hne2).trans ((World.cell?_setCell_far _ _ _ _ hne2).trans (CELLS.out _ HBc.out).2.1),fun h=>absurd h (by decide +kernel),fun h=>absurd h (by decide +kernel)⟩ (fun ja1=>?_)
       clear hK K
       refine jf8 (by decide +kernel) ?_
       clear ja1
       all_goals
        have HZ:=HFIN.out _ _ _ _ _ _ _ HBc.out HW5.out HW6.out HN5 HN6
        clear HFIN HP1 HP2 HHI CELLS
        go_wp2
        refine⟨⟨k+1,by omega,by go_num,?_⟩,by simp[intOf];omega⟩
        first
         | exact HZ.1
         | exact HZ.2
      ·have HNEG:Hid (¬(co,ro).1<0):=ja0 hneg
       go_wp2
       rw[<-hwa]
       clear hwa hlk
       obtain⟨A0,n0,c0,A9,n9,c9,hbk,hx,hy,hn0,hn9⟩:jk3 wa P0 (jh5 (fs.take k) lev) (jn5 (fs.take k) lev) (97+16*lev+k):=HI.out.1
       have hrt:=HI.out.2.2.2.1 (co,ro) HTM.out
       obtain⟨Ar,nr,cr,At,nt,ct,hrb,hlr,hlt',hnr,hnt,_,_⟩:=hrt
       have hrt:jd4 wa (w2.heap.size+1) (rr ro) (jg3 (co,ro) lev) (zc8 (co,ro) lev) (96+16*lev):=HI.out.2.2.2.1 (co,ro) HTM.out
       dsimp only at hrb hlr hlt' hnr hnt
       have HP1:=ja0 (fun(Wc:World) (hb:Below wa.heap.size wa Wc)=>jr8 _ A0 n0 c0 (jh5 (fs.take k) lev) _ Ar nr cr (jg3 (co,ro) lev) Wc (hx.below hb) (hlr.below hb) (by omega) (by omega))
       have HHI:=ja0 (fun(Wc:World) (hb:Below wa.heap.size wa Wc)=>jbt1 _ (rr ro) _ _ _ Wc (hrt.below hb) (by omega))
       have HP2:=ja0 (fun(Wc:World) (Ah:Option Addr) (nh ch:Nat) (hb:Below wa.heap.size wa Wc) (hh:LW Wc Ah nh ch (jr4 (co,ro) lev)) (hn:nh<=96+16*lev+1)=>jr8 _ A9 n9 c9 (jn5 (fs.take k) lev) _ Ah nh ch (jr4 (co,ro) lev) Wc (hy.below hb) hh (by omega) (by omega))
       have CELLS:=ja0 (fun(Wc:World) (hb:Below wa.heap.size wa Wc)=>And.intro (hbk.below hb hbk.lt).two (hrb.below hb hrb.lt).two)
       have HFIN:Hid (∀(w8:World) (A5:Option Addr) (n5 c5:Nat) (A6:Option Addr) (n6 c6:Nat),Below wa.heap.size wa w8->LW w8 A5 n5 c5 (jh5 (fs.take k) lev+jg3 (co,ro) lev)->LW w8 A6 n6 c6 (jn5 (fs.take k) lev+jr4 (co,ro) lev)->n5<=97+16*lev+k+1->n6<=97+16*lev+k+1 ->
         jk6 w2 ((w8.setCell ⟨P0,0,none⟩ (.slice A5 n5 c5)).setCell ⟨P0,1,none⟩ (.slice A6 n6 c6)) w2.heap.size P0 lev fs rr (some ad) c1 (k+1) /\
         jk6 w2 ((w8.setCell ⟨P0,1,none⟩ (.slice A6 n6 c6)).setCell ⟨P0,0,none⟩ (.slice A5 n5 c5)) w2.heap.size P0 lev fs rr (some ad) c1 (k+1)):=ja0 (by
        intro w8 A5 n5 c5 A6 n6 c6 hb h5 h6 hn5 hn6
        have hI8:=HI.out.below hb
        have hb8:=hbk.below hb hbk.lt
        exact⟨hI8.pos (t:=(co,ro)) hts2.out (by have h9:=HNEG.out;(first|exact h9|exact Int.not_lt.2 h9)) HA.out (jf6 (jf6 (World.grownBy.refl _ _) _ _) _ _) (jk3.set_ hb8 h5 h6 hn5 hn6),hI8.pos (t:=(co,ro)) hts2.out (by have h9:=HNEG.out;(first|exact h9|exact Int.not_lt.2 h9)) HA.out (jf6 (jf6 (World.grownBy.refl _ _) _ _) _ _) (jk3.set_' hb8 h5 h6 hn5 hn6)⟩)
       have HBc:Hid (Below wa.heap.size wa wa.drew):=ja0 (Below.drew (Below.refl _ _))
       obtain⟨⟨q1,q2,q3,q4⟩,q5,q6,q7,q8⟩:=CELLS.out wa (Below.refl _ _)
       have hne1:¬rr ro=P0:=fun e=>by
        rw[e] at hrb
        unfold Blk at hrb hbk
        rw[hbk] at hrb
        injection hrb with hrb
        injection hrb with _ hrb
        exact absurd hrb (by decide)
       have hne2:¬P0=rr ro:=fun e=>hne1 e.symm
       clear hbk hx hy hrt hrb hlr hlt'
       refine jj7 (fun w'=>w'.cell? ⟨rr ro,0,none⟩=some (.slice Ar nr cr)) 20 (fun w'=>w'.cell? ⟨P0,0,none⟩=some (.slice A0 n0 c0)) 23 (fun w'=>w'.cell? ⟨P0,1,none⟩=some (.slice A9 n9 c9)) (by kernel_rfl) ⟨(CELLS.out _ HBc.out).2.1,fun _=>(CELLS.out _ HBc.out).1.1,fun _=>(CELLS.out _ HBc.out).1.2.1⟩ (fun ja1=>?_)
       refine ja2 0 rfl (by decide +kernel) (fun _ _ _ h=>h) (by rfl) (v:=?_) ?_ ja1 (fun ja4=>?_)
       rotate_left 1
       focus (intro w' hSw;obtain⟨hC,hF,hG⟩:=hSw;clear hF;clear hG;go_simp;try with_reducible rfl)
       clear ja1
       rename ja8 _ _ _ _ _ _ _=>ja1
       simp only[Act.put,lA,lB,lC]
       refine ja2 1 rfl (by decide +kernel) (fun _ _ _ h=>h) (by rfl) (v:=?_) ?_ ja1 (fun ja4=>?_)
       rotate_left 1
       focus (intro w' hSw;obtain⟨hC,hF,hG⟩:=hSw;clear hF;clear hG;go_simp;try with_reducible rfl)
       clear ja1
       rename ja8 _ _ _ _ _ _ _=>ja1
       simp only[Act.put,lA,lB,lC]
       refine ja2 2 rfl (by decide +kernel) (fun _ _ _ h=>h) (by rfl) (v:=?_) ?_ ja1 (fun ja4=>?_)
       rotate_left 1
       focus (intro w' hSw;obtain⟨hC,hF,hG⟩:=hSw;clear hF;clear hG;go_simp;try with_reducible rfl)
       clear ja1
       rename ja8 _ _ _ _ _ _ _=>ja1
       simp only[Act.put,lA,lB,lC]
       refine ja2 3 rfl (by decide +kernel) (fun _ _ _ h=>h) (by rfl) (v:=?_) ?_ ja1 (fun ja4=>?_)
       rotate_left 1
       focus (intro w' hSw;obtain⟨hC,hF,hG⟩:=hSw;clear hF;clear hG;go_simp;try with_reducible rfl)
       clear ja1
       rename ja8 _ _ _ _ _ _ _=>ja1
       simp only[Act.put,lA,lB,lC]
       refine ja2 4 rfl (by decide +kernel) (fun _ _ _ h=>h) (by rfl) (v:=?_) ?_ ja1 (fun ja4=>?_)
       rotate_left 1
       focus (intro w' hSw;obtain⟨hC,hF,hG⟩:=hSw;clear hF;clear hG;go_simp;try with_reducible rfl)
       clear ja1
       rename ja8 _ _ _ _ _ _ _=>ja1
       simp only[Act.put,lA,lB,lC]
       refine ja2 5 rfl (by decide +kernel) (fun _ _ _ h=>h) (by rfl) (v:=?_) ?_ ja1 (fun ja4=>?_)
       rotate_left 1
       focus (intro w' hSw;obtain⟨hC,hF,hG⟩:=hSw;have hF:=hF (by decide +kernel);clear hG;go_simp;try with_reducible rfl)
       clear ja1
       rename ja8 _ _ _ _ _ _ _=>ja1
       simp only[Act.put,lA,lB,lC]
       refine ja2 6 rfl (by decide +kernel) (fun _ _ _ h=>h) (by rfl) (v:=?_) ?_ ja1 (fun ja4=>?_)
       rotate_left 1
       focus (intro w' hSw;obtain⟨hC,hF,hG⟩:=hSw;clear hF;clear hG;go_simp;try with_reducible rfl)
       clear ja1
       rename ja8 _ _ _ _ _ _ _=>ja1
       simp only[Act.put,lA,lB,lC]
       refine ja2 7 rfl (by decide +kernel) (fun _ _ _ h=>h) (by rfl) (v:=?_) ?_ ja1 (fun ja4=>?_)
       rotate_left 1
       focus (intro w' hSw;obtain⟨hC,hF,hG⟩:=hSw;clear hF;clear hG;go_simp;try with_reducible rfl)
       clear ja1
       rename ja8 _ _ _ _ _ _ _=>ja1
       simp only[Act.put,lA,lB,lC]
       refine ja2 8 rfl (by decide +kernel) (fun _ _ _ h=>h) (by rfl) (v:=?_) ?_ ja1 (fun ja4=>?_)
       rotate_left 1
       focus (intro w' hSw;obtain⟨hC,hF,hG⟩:=hSw;clear hF;clear hG;go_simp;try with_reducible rfl)
       clear ja1
       rename ja8 _ _ _ _ _ _ _=>ja1
       simp only[Act.put,lA,lB,lC]
       refine ja2 9 rfl (by decide +kernel) (fun _ _ _ h=>h) (by rfl) (v:=?_) ?_ ja1 (fun ja4=>?_)
       rotate_left 1
       focus (intro w' hSw;obtain⟨hC,hF,hG⟩:=hSw;clear hF;clear hG;go_simp;try with_reducible rfl)
       clear ja1
       rename ja8 _ _ _ _ _ _ _=>ja1
       simp only[Act.put,lA,lB,lC]
       refine ja2 11 rfl (by decide +kernel) (fun _ _ _ h=>h) (by rfl) (v:=?_) ?_ ja1 (fun ja4=>?_)
       rotate_left 1
       focus (intro w' hSw;obtain⟨hC,hF,hG⟩:=hSw;clear hF;clear hG;go_simp;try with_reducible rfl)
       clear ja1
       rename ja8 _ _ _ _ _ _ _=>ja1
       simp only[Act.put,lA,lB,lC]
       refine ja2 12 rfl (by decide +kernel) (fun _ _ _ h=>h) (by rfl) (v:=?_) ?_ ja1 (fun ja4=>?_)
       rotate_left 1
       focus (intro w' hSw;obtain⟨hC,hF,hG⟩:=hSw;clear hF;clear hG;go_simp;try with_reducible rfl)
       clear ja1
       rename ja8 _ _ _ _ _ _ _=>ja1
       simp only[Act.put,lA,lB,lC]
       refine ja2 13 rfl (by decide +kernel) (fun _ _ _ h=>h) (by rfl) (v:=?_) ?_ ja1 (fun ja4=>?_)
       rotate_left 1
       focus (intro w' hSw;obtain⟨hC,hF,hG⟩:=hSw;clear hF;clear hG;go_simp;try with_reducible rfl)
       clear ja1
       rename ja8 _ _ _ _ _ _ _=>ja1
       simp only[Act.put,lA,lB,lC]
       refine ja2 14 rfl (by decide +kernel) (fun _ _ _ h=>h) (by rfl) (v:=?_) ?_ ja1 (fun ja4=>?_)
       rotate_left 1
       focus (intro w' hSw;obtain⟨hC,hF,hG⟩:=hSw;clear hF;have hG:=hG (by decide +kernel);go_simp;try with_reducible rfl)
       clear ja1
       rename ja8 _ _ _ _ _ _ _=>ja1
       simp only[Act.put,lA,lB,lC]
       refine ja2 15 rfl (by decide +kernel) (fun _ _ _ h=>h) (by rfl) (v:=?_) ?_ ja1 (fun ja4=>?_)
       rotate_left 1
       focus (intro w' hSw;obtain⟨hC,hF,hG⟩:=hSw;clear hF;clear hG;go_simp;try with_reducible rfl)
       clear ja1
       rename ja8 _ _ _ _ _ _ _=>ja1
       simp only[Act.put,lA,lB,lC]
       refine ja2 18 rfl (by decide +kernel) (fun _ _ _ h=>h) (by rfl) (v:=?_) ?_ ja1 (fun ja4=>?_)
       rotate_left 1
       focus (intro w' hSw;obtain⟨hC,hF,hG⟩:=hSw;clear hF;clear hG;go_simp;try with_reducible rfl)
       clear ja1
       rename ja8 _ _ _ _ _ _ _=>ja1
       simp only[Act.put,lA,lB,lC]
       refine ja2 21 rfl (by decide +kernel) (fun _ _ _ h=>h) (by rfl) (v:=?_) ?_ ja1 (fun ja4=>?_)
       rotate_left 1
       focus (intro w' hSw;obtain⟨hC,hF,hG⟩:=hSw;clear hF;clear hG;go_simp;try with_reducible rfl)
       clear ja1
       rename ja8 _ _ _ _ _ _ _=>ja1
       simp only[Act.put,lA,lB,lC]
       refine jb5 10 rfl (by decide +kernel) (fun K hK=>?_)
       go_simp
       go_wp2_with (first
        | (go_at_call 114;refine(HP1.out _ HBc.out).mono ?_;rintro e w5 ⟨A5,n5,c5,rfl,hw5,hn5,hb5⟩
           have HBc:=ja0 (HBc.out.trans (hb5.mono HBc.out.size))
           obtain⟨⟨q1,q2,q3,q4⟩,q5,q6,q7,q8⟩:=CELLS.out _ HBc.out
           have HW5:Hid (LW w5 A5 n5 c5 (jh5 (fs.take k) lev+jg3 (co,ro) lev)):=ja0 hw5
           have HN5:n5<=97+16*lev+k+1:=by omega
           clear hb5 hw5))
       refine hK.out _ _ ⟨(CELLS.out _ HBc.out).2.1,fun _=>(CELLS.out _ HBc.out).1.1,fun _=>(CELLS.out _ HBc.out).1.2.1⟩ (fun ja1=>?_)
       clear hK K
       refine jb5 16 rfl (by decide +kernel) (fun K hK=>?_)
       go_simp
       go_wp2_with (first
        | (go_at_call 115;refine(HHI.out _ HBc.out).mono ?_;rintro e w6 ⟨A7,n7,c7,rfl,hw7,hn7,hb5⟩
           have HBc:=ja0 (HBc.out.trans (hb5.mono HBc.out.size))
           obtain⟨⟨q1,q2,q3,q4⟩,q5,q6,q7,q8⟩:=CELLS.out _ HBc.out
           have HWh:Hid (LW w6 A7 n7 c7 (jr4 (co,ro) lev)):=ja0 hw7
           have HW5:=ja0 (LW.below HW5.out hb5)
           clear hb5 hw7))
       refine hK.out _ _ ⟨(CELLS.out _ HBc.out).2.1,fun _=>(CELLS.out _ HBc.out).1.1,fun _=>(CELLS.out _ HBc.out).1.2.1⟩ (fun ja1=>?_)
       clear hK K
       refine jb5 17 rfl (by decide +kernel) (fun K hK=>?_)
       go_simp
       go_wp2_with (first
        | (go_at_call 114;refine(HP2.out _ _ _ _ HBc.out HWh.out hn7).mono ?_;rintro e w7 ⟨A6,n6,c6,rfl,hw6,hn6,hb5⟩
           have HBc:=ja0 (HBc.out.trans (hb5.mono HBc.out.size))
           obtain⟨⟨q1,q2,q3,q4⟩,q5,q6,q7,q8⟩:=CELLS.out _ HBc.out
           have HW6:Hid (LW w7 A6 n6 c6 (jn5 (fs.take k) lev+jr4 (co,ro) lev)):=ja0 hw6
           have HN6:n6<=97+16*lev+k+1:=by omega
           have HW5:=ja0 (LW.below HW5.out hb5)
           clear hb5 hw6))
       refine hK.out _ _ ⟨(CELLS.out _ HBc.out).2.1,fun _=>(CELLS.out _ HBc.out).1.1,fun _=>(CELLS.out _ HBc.out).1.2.1⟩ (fun ja1=>?_)
       clear hK K
       refine ja2 19 rfl (by decide +kernel) (fun _ _ _ h=>h) (by rfl) (v:=?_) ?_ ja1 (fun ja4=>?_)
       rotate_left 1
       focus (intro w' hSw;obtain⟨hC,hF,hG⟩:=hSw;clear hF;clear hG;go_simp;try with_reducible rfl)
       clear ja1
       rename ja8 _ _ _ _ _ _ _=>ja1
       simp only[Act.put,lA,lB,lC]
       refine jb5 20 rfl (by decide +kernel) (fun K hK=>?_)
       go_simp
       refine hK.out _ _ ⟨(World.cell?_setCell_far _ _ _ _ hne2).trans (CELLS.out _ HBc.out).2.1,fun h=>absurd h (by decide +kernel),fun _=>(World.cell?_setCell_other _ _ _ _ (by simp)).trans (CELLS.out _ HBc.out).1.2.1⟩ (fun ja1=>?_)
       clear hK K
       refine ja2 22 rfl (by decide +kernel) (fun _ _ _ h=>h) (by rfl) (v:=?_) ?_ ja1 (fun ja4=>?_)
       rotate_left 1
       focus (intro w' hSw;obtain⟨hC,hF,hG⟩:=hSw;clear hF;clear hG;go_simp;try with_reducible rfl)
       clear ja1
       rename ja8 _ _ _ _ _ _ _=>ja1
       simp only[Act.put,lA,lB,lC]
       refine jb5 23 rfl (by decide +kernel) (fun K hK=>?_)
       go_simp
       refine hK.out _ _ ⟨(World.cell?_setCell_far _ _ _ _ hne2).trans ((World.cell?_setCell_far _ _ _ _ hne2).trans (CELLS.out _ HBc.out).2.1),fun h=>absurd h (by decide +kernel),fun h=>absurd h (by decide +kernel)⟩ (fun ja1=>?_)
       clear hK K
       refine jf8 (by decide +kernel) ?_
       clear ja1
       all_goals
        have HZ:=HFIN.out _ _ _ _ _ _ _ HBc.out HW5.out HW6.out HN5 HN6
        clear HFIN HP1 HP2 HHI CELLS
        go_wp2
        refine⟨⟨k+1,by omega,by go_num,?_⟩,by simp[intOf];omega⟩
        first
         | exact HZ.1
         | exact HZ.2
     ·obtain rfl:k=fs.length:=by omega
      unfold jk6 at hi
      rw[List.take_length] at hi
      have HI:=ja0 hi
      clear hi HI0
      obtain⟨A0,n0,c0,A9,n9,c9,hbk,hx,hy,_,_⟩:=HI.out.1
      obtain⟨B0,m0,d0,B9,m9,d9,hbk',hx',hy',_,_⟩:=HI.out.2.1
      have HC1:=ja0 (zp7 _ A0 n0 c0 (jh5 fs lev) _ B9 m9 d9 (jn6 fs lev) wr hx hy')
      have HC2:=ja0 (fun q=>zp7 _ A9 n9 c9 (jn5 fs lev) _ B0 m0 d0 (jh6 fs lev) (wr.drewN q) (hy.drewN q) (hx'.drewN q))
      obtain⟨q1,q2,q3,q4⟩:=hbk.two
      obtain⟨q5,q6,q7,q8⟩:=hbk'.two
      have hbb:=HB2.out.trans (HI.out.2.2.2.2.2.1.mono HB2.out.size)
      have HBB:=ja0 hbb
      clear hbk hbk' hx hy hx' hy' hbb
      by_cases hv1:jn6 fs lev<jh5 fs lev
      ·have hc1:jn3 (jh5 fs lev) (jn6 fs lev)=1:=by unfold jn3;rw[if_neg (by omega),if_pos (by omega)]
       rw[hc1] at HC1
       have HSS:=ja0 (HS.out 1 (by decide) lev (jv5 hv1))
       clear hc1 hv1 HC2
       go_wp2_with (first
        | (go_at_call 116;refine HC1.out.mono ?_;rintro e w4 ⟨rfl,q,rfl⟩))
       go_ret
       exact⟨1,rfl,HSS.out,jc8 HBB.out _⟩
      ·have hc1:jn3 (jh5 fs lev) (jn6 fs lev)<=0:=by unfold jn3;(repeat' split)<;>omega
       generalize jn3 (jh5 fs lev) (jn6 fs lev)=cv1 at *
       by_cases hv2:jn5 fs lev<jh6 fs lev
       ·have hc2:jn3 (jn5 fs lev) (jh6 fs lev)=-1:=by unfold jn3;rw[if_pos hv2]
        rw[hc2] at HC2
        have HSS:=ja0 (HS.out (-1) (by decide) lev (jv4 hv2))
        clear hc2 hv1 hv2
        go_wp2_with (first
         | (go_at_call_of 116 A0;refine HC1.out.mono ?_;rintro e w4 ⟨rfl,q,rfl⟩
            have hq1:(wr.drewN q).cell? ⟨P0,1,none⟩=_:=q2
            have hq2:(wr.drewN q).cell? ⟨P0+1,0,none⟩=_:=q5)
         | (go_at_call_of 116 A9;refine(HC2.out _).mono ?_;rintro e w4 ⟨rfl,q',rfl⟩))
        go_ret
        exact⟨-1,rfl,HSS.out,by first|exact jc8 HBB.out _|exact jc8 (jc8 HBB.out _) _⟩
       ·have hc2:0<=jn3 (jn5 fs lev) (jh6 fs lev):=by unfold jn3;rw[if_neg hv2];split<;>omega
        generalize jn3 (jn5 fs lev) (jh6 fs lev)=cv2 at *
        have hlev:lev<K:=by
         rcases Nat.lt_or_ge lev K with h9|h9
         ·exact h9
         ·have:lev=K:=by omega
          subst this
          exact absurd (show jb9 fs lev=0 by unfold jb9;rw[if_neg hv1,if_neg hv2]) HVK.out
        clear hv1 hv2 HBB
        go_wp2_with (first
         | (go_at_call_of 116 A0;refine HC1.out.mono ?_;rintro e w4 ⟨rfl,q,rfl⟩
            have hq1:(wr.drewN q).cell? ⟨P0,1,none⟩=_:=q2
            have hq2:(wr.drewN q).cell? ⟨P0+1,0,none⟩=_:=q5)
         | (go_at_call_of 116 A9;refine(HC2.out _).mono ?_;rintro e w4 ⟨rfl,q',rfl⟩
            have HM3:Hid (ja6 ((wr.drewN q).drewN q') w2.heap.size (zh0 fs rr)):=ja0 (HI.out.2.2.1)
            have HR3:Hid (jd3 ((wr.drewN q).drewN q') (w2.heap.size+1) fs rr (fun _=>lev)):=ja0 (HI.out.2.2.2.1)
            have HT3:Hid (ja3 ((wr.drewN q).drewN q') w2.heap.size A1 fs.length c1 fs):=ja0 (HI.out.2.2.2.2.1)
            have HB3:Hid (Below w2.heap.size w2 ((wr.drewN q).drewN q')):=ja0 (jc8 (jc8 HI.out.2.2.2.2.2.1 _) _)
            have hzz:w2.heap.size+1<=((wr.drewN q).drewN q').heap.size:=hzr2
            clear q1 q2 q3 q4 q5 q6 q7 q8 hq1 hq2 HC1 HC2 HI
            generalize (wr.drewN q).drewN q'=w5 at *)
         | (refine za7 rfl _ _ rfl Tryz.underlying145 w2.heap.size (zh0 fs rr) rfl HM3.out ?_;intro w6 hi6 hg6 hz6
            have HI6:=ja0 hi6;have HG6:=ja0 hg6;clear hi6 hg6))
        have hz56:=HG6.out.size
        have hB56:Below w5.heap.size w5 w6:=zf5 HG6.out
        have HR6:Hid (jd3 w6 (w2.heap.size+1) fs rr (zs4 (zh0 fs rr) lev)):=ja0 (by
         intro t ht
         have h1:zs4 (zh0 fs rr) lev t.2=lev:=by unfold zs4;rw[if_pos (by rw[jbf2];exact List.mem_map.2 ⟨t,ht,rfl⟩)]
         rw[h1]
         exact(HR3.out t ht).below hB56)
        have HT6:Hid (ja3 w6 w2.heap.size A1 fs.length c1 fs):=ja0 (Rd.below HT3.out (hB56.mono (by omega)))
        have HB6:Hid (Below w2.heap.size w2 w6):=ja0 (HB3.out.trans (hB56.mono (by omega)))
        obtain⟨it,hit⟩:∃it,it=w5.heap.size:=⟨_,rfl⟩
        rw[<-hit] at HI6 ⊢
        have hzi:w2.heap.size+1<=it:=by omega
        clear HR3 HT3 HB3 HM3 HG6 hB56 hit
        go_frame
        go_loopw [] (fun W=>∃left,jh7 W it w2.heap.size (zh0 fs rr) left none/\jd3 W (w2.heap.size+1) fs rr (zs4 left lev)/\ja3 W w2.heap.size A1 fs.length c1 fs/\Below w2.heap.size w2 W/\w2.heap.size+1<=W.heap.size) (fun W=>jav7 W it)
        case atStart=>exact⟨zh0 fs rr,HI6.out,HR6.out,HT6.out,HB6.out,by omega⟩
        case round=>
         obtain⟨left,hi,hr,ht,hb,hzw⟩:=hrel
         have HII:=ja0 hi;have HRR:=ja0 hr;have HTT:=ja0 ht;have HBB:=ja0 hb
         clear hi hr ht hb HI6 HR6 HT6 HB6
         by_cases hl:left=[]
         ·subst hl
          go_wp2_with (first
           | (refine jz1 rfl _ rfl it w2.heap.size rfl HII.out ?_))
          go_roundg (K-(lev+1))
          case measure=>omega
          case rel=>
           refine⟨lev+1,by omega,Nat.le_refl _,HII.out.isMap,?_,HTT.out,HBB.out,hzw⟩
           intro t ht
           have:=HRR.out t ht
           rwa [show zs4 [] lev t.2=lev+1 from rfl] at this
         ·go_wp2_with (first
           | (refine jz2 rfl _ rfl it w2.heap.size rfl HII.out hl ?_;intro j p w7 hj hi7 hg7 hz7
              have hkn:(left.map (·.1)).Nodup:=List.Nodup.sublist (jcs6 HII.out) HII.out.isMap.nodup
              obtain⟨t,htm,rfl⟩:=jdf3 hi7.cur_mem
              have HKN:=ja0 hkn
              have HI7:=ja0 hi7;have HG7:=ja0 hg7;clear hi7 hg7 hkn)
           | (refine za6 rfl _ rfl it w2.heap.size rfl HI7.out ?_))
          have hAt:=HA.out.1 t htm
          have HTM:Hid (t∈fs):=htm
          have hll:=HII.out.lt
          have hlv:zs4 left lev t.2=lev:=by
           unfold zs4
           rw[if_pos (List.mem_map.2 ⟨_,List.mem_of_getElem? hj,rfl⟩)]
          have hR7:jd3 w7 (w2.heap.size+1) fs rr (zs4 left lev):=fun u hu=>(HRR.out u hu).iter HII.out HG7.out
          have hr0:=hR7 t htm
          rw[hlv] at hr0
          have hr0':jd4 w7 (w2.heap.size+1) (rr t.2) (jg3 t lev) (zc8 t lev) (96+16*lev+0):=hr0
          have HO7:=ja0 (jz7.of hR7 t.2)
          have HR0:=ja0 hr0'
          have HT7:Hid (ja3 w7 w2.heap.size A1 fs.length c1 fs):=ja0 (Rd.grown HTT.out HG7.out (by omega) (fun j e=>by cases e;omega))
          have HB7:Hid (Below w2.heap.size w2 w7):=ja0 (HBB.out.grown HG7.out (by omega) (fun j e=>by cases e;omega))
          have HJ:=ja0 hj
          clear hR7 hr0 hr0' hlv HRR HTT HBB HG7 hj
          go_loopw [92] (fun i W=>∃j':Nat,j'<=16/\i=.int .i64 j'/\jh7 W it w2.heap.size (zh0 fs rr) (left.eraseIdx j) none/\jd4 W (w2.heap.size+1) (rr t.2) (jan1 j' (jg3 t lev,zc8 t lev)).1 (jan1 j' (jg3 t lev,zc8 t lev)).2 (96+16*lev+j') /\
           jz7 W (w2.heap.size+1) fs rr (zs4 left lev) t.2/\ja3 W w2.heap.size A1 fs.length c1 fs/\Below w2.heap.size w2 W/\w2.heap.size+1<=W.heap.size) (fun i _=>16-(intOf i).toNat)
          case atStart=>exact⟨0,by omega,rfl,HI7.out.nocur,HR0.out,HO7.out,HT7.out,HB7.out,by omega⟩
          case round=>
           obtain⟨j',hj',rfl,hi,hr,ho,ht,hb,hzz8⟩:=hrel
           have HI8:=ja0 hi;have HR8:=ja0 hr;have HO8:=ja0 ho;have HT8:=ja0 ht;have HB8:=ja0 hb
           clear hi hr ho ht hb HI7 HR0 HO7 HT7 HB7
           by_cases hlt:j'<16
           ·have HNX:=ja0 (jby5 _ _ _ _ _ 0 wr HR8.out hzz8 (by omega) (by omega))
            rw[show((0:Nat):Int)=0 from rfl] at HNX
            go_wp2_with (first
             | (go_at_call 117;refine HNX.out.mono ?_;rintro e w9 ⟨rfl,hr9,hg9⟩;have HR9:=ja0 hr9;have HG9:=ja0 hg9;clear hr9 hg9))
            go_roundw
            case rel=>
             have hsz9:=HG9.out.size
             exact⟨j'+1,by omega,by go_num,HI8.out.root HR8.out (by omega) hAt HG9.out,HR9.out,HO8.out.grown HTM.out HA.out HR8.out HG9.out,Rd.grown HT8.out HG9.out (by omega) (fun _ e=>by cases e;omega),HB8.out.grown HG9.out (by omega) (fun _ e=>by cases e;omega),by omega⟩
            case measure=>simp[intOf];omega
           ·obtain rfl:j'=16:=by omega
            have hnx:=jcs8 t lev
            have hrs:jd3 wr (w2.heap.size+1) fs rr (zs4 (left.eraseIdx j) lev):=jd3.step HO8.out (by have h1:=HR8.out;rw[hnx.1,hnx.2] at h1;exact h1.less (Nat.le_refl _) (by omega)) HND.out HTM.out HJ.out rfl HKN.out
            have HRS:=ja0 hrs
            clear hrs hnx HR8 HO8
            go_wp2
            go_roundw
            case rel=>exact⟨left.eraseIdx j,HI8.out,HRS.out,HT8.out,HB8.out,hzz8⟩
            case measure=>
             rw[HI8.out.leftN_eq,HII.out.leftN_eq,List.length_eraseIdx_of_lt (List.getElem?_eq_some_iff.1 HJ.out).1]
             have:=(List.getElem?_eq_some_iff.1 HJ.out).1
             omega
end Go.Proofs.YtphcodcdfeohhaaGreatDoor
