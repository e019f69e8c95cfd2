import Derived.Test.YtphcodcdfeohhaaGreatDoorSignMToSignB
set_option linter.all false
namespace Go.Proofs.YtphcodcdfeohhaaGreatDoor
set_option maxRecDepth 100000
set_option maxHeartbeats 8000000
open Go.RowKit
theorem jcd9 (B:Nat) (A:Option Addr) (n c:Nat) (ts:List (Int×Int)) (w:World) (h:ji w B A n c ts) (hB:B<=w.heap.size) (hlen:ts.length<=1000) (hnd:((ts.filter JA).map (·.2)).Nodup)
  (hbd:∀t∈ts,(-4000000000000000000<=t.1/\t.1<=4000000000000000000)/\0<=t.2/\t.2<=4000000000000000000) (K:Nat) (hK:K<=500000000000) (hV:ts.filter JA=[]\/jy (ts.filter JA) K≠0) :
  Calls Tryz.prog 69 #[.slice A n c] w λe w'=>∃s,e=.returned (.int .i64 s)/\jA ts s/\Below w.heap.size w w':=by
 have hl:=h.len
 subst hl
 have HCL:=ja (zh7 B A ts.length c ts w h hB (by omega))
 clear h
 go_enter Tryz.func69,Tryz.ntmps69
 go_wp2_with fail
 refine HCL.o.mono ?_
 rintro e w1 ⟨A1,c1,rfl,ho1,hb1⟩
 have HDL:=ja (jak0 A1 ts.length c1 _ ts w1 ho1 Tryz.zeroValue59)
 have HO1:=ja ho1;have HB1:=ja hb1
 clear ho1 hb1 HCL
 go_wp2_with fail
 refine HDL.o.mono ?_
 rintro e w2 ⟨n2,rfl,hn2,ht2,hg2⟩
 have HB2:Hid (Below w.heap.size w w2):=ja (HB1.o.grown hg2 HB1.o.size (λj e=>(HO1.o.lt j e).1))
 clear HO1 HB1 HDL hg2
 have hfl:=ht2.len
 have HT2:=ja ht2
 have hbf:∀t∈ts.filter JA,(-4000000000000000000<=t.1/\t.1<=4000000000000000000)/\0<=t.2/\t.2<=4000000000000000000:=λt ht=>hbd t (List.mem_filter.1 ht).1
 have HBF:=ja hbf
 have HS0:=ja (λh:ts.filter JA=[]=>(show jA ts 0 from .inl ⟨h,rfl⟩))
 have HS1:=ja (λ(h:ts.filter JA≠[]) (s:Int) (hs:s≠0) (k:Nat) (hk:jy (ts.filter JA) k=s)=>(show jA ts s from .inr ⟨h,hs,k,hk⟩))
 have HND:=ja hnd
 have HV:=ja hV
 clear ht2 hbf hbd hnd hV
 generalize ts.filter JA=fs at *
 subst hfl
 by_cases hemp:fs=[]
 ·have h0:fs.length=0:=by rw[hemp];rfl
  go_wp2
  go_ret
  exact⟨0,rfl,HS0.o hemp,HB2.o⟩
 have hpos:0<fs.length:=List.length_pos_iff.2 hemp
 have hne0:((fs.length:Int)==0)=false:=beq_eq_false_iff_ne.2 (by omega)
 have hvk:=HV.o.resolve_left hemp
 have HVK:=ja hvk
 have HS:=ja (HS1.o hemp)
 clear HS0 HS1 HV hvk hemp
 have HM0:=ja (jt.new w2)
 have HT3:=ja (Rd.alloc HT2.o (Nat.le_refl _) (.map #[] 0))
 have HB3:=ja ((Below.refl w2.heap.size w2).alloc (Nat.le_refl _) (.map #[] 0))
 go_wp2_with (first
  | (refine zi _ rfl _ rfl ?_))
 go_loopw [23] (λi W=>∃(k:Nat) (rr:Int->Nat),k<=fs.length/\i=.int .i64 k/\jt W w2.heap.size (Qz (fs.take k) rr)/\jR W (w2.heap.size+1) (fs.take k) rr (λ_=>0)/\jp6 (w2.heap.size+1) (fs.take k) rr/\ji W w2.heap.size A1 fs.length c1 fs/\Below w2.heap.size w2 W/\w2.heap.size+1<=W.heap.size) (λi _=>fs.length-(intOf i).toNat)
 case atStart=>
  exact⟨0,λ_=>0,by omega,rfl,HM0.o,by intro t ht;simp at ht,⟨by simp,by simp⟩,HT3.o,HB3.o,by simp⟩
 case round=>
  obtain⟨k,rr,hk,rfl,hm,hr,ha,ht,hb,hz⟩:=hrel
  have HM:=ja hm;have HR:=ja hr;have HA:=ja ha;have HT:=ja ht;have HB:=ja hb
  clear hm hr ha ht hb HM0 HT3 HB3
  by_cases hlt:k<fs.length
  ·obtain⟨ad,had,hc0,hc1⟩:=HT.o.at_ hlt
   subst had
   have htb:=HBF.o fs[k] (List.getElem_mem hlt)
   have hnk:fs[k].2∉(fs.take k).map (·.2):=by
    intro hm
    obtain⟨u,hu,he⟩:=List.mem_map.1 hm
    obtain⟨j,hj,rfl⟩:=List.mem_iff_getElem.1 hu
    simp only[List.length_take] at hj
    rw[List.getElem_take] at he
    have h1:(fs.map (·.2))[j]?=(fs.map (·.2))[k]?:=by
     rw[List.getElem?_map,List.getElem?_map,List.getElem?_eq_getElem (show j<fs.length by omega),List.getElem?_eq_getElem hlt]
     simp[he]
    have:=(List.getElem?_inj (by simp;omega) HND.o).1 h1
    omega
   have hts:=ja (jw fs k hlt)
   generalize fs[k]=t at *
   obtain⟨co,ro⟩:=t
   dsimp only at htb hc0 hc1 hnk
   have hts2:Hid (fs.take (k+1)=fs.take k++[(co,ro)]):=hts
   have HNK:=ja hnk
   clear hts hnk
   have HST:=ja (λW=>jbs4 co ro W htb.1 htb.2)
   obtain⟨wa,hwa⟩:∃wa,wa=wr.alloc (.cells #[.int .i64 co,.int .i64 ro] 59):=⟨_,rfl⟩
   have hza:wa.heap.size=wr.heap.size+1:=by rw[hwa];simp
   have HTB:Hid (jh wa wr.heap.size 59 #[.int .i64 co,.int .i64 ro]):=ja (by rw[hwa];exact jh.new _ _ _)
   have HMa:Hid (jt wa w2.heap.size (Qz (fs.take k) rr)):=ja (by rw[hwa];exact HM.o.alloc _)
   have HRa:Hid (jR wa (w2.heap.size+1) (fs.take k) rr (λ_=>0)):=ja (by rw[hwa];exact HR.o.below ((Below.refl _ _).alloc (Nat.le_refl _) _))
   have HTa:Hid (ji wa w2.heap.size (some ad) fs.length c1 fs):=ja (by rw[hwa];exact Rd.alloc HT.o (by omega) _)
   have HBa:Hid (Below w2.heap.size w2 wa):=ja (by rw[hwa];exact HB.o.alloc HB.o.size _)
   clear HM HR HT HB
   go_wp2
   rw[<-hwa]
   clear hwa
   obtain⟨p0,p1,p2,p3⟩:=HTB.o.two
   have hfin:∀(r5 R5 T5:Nat) (w5 w6:World),wa.drew.heap.size<=r5->jS w5 wa.drew.heap.size r5 R5 T5 96->Jn (co.natAbs*co.natAbs*ro.toNat) R5 T5->Below wa.drew.heap.size wa.drew w5 ->
     jt w6 w2.heap.size (jc9 (Qz (fs.take k) rr) ro (.pointer (some ⟨r5,0,none⟩)))->w5.grownBy w6 (some w2.heap.size) ->
     ∃(k_1:Nat) (rr:Int->Nat),k_1<=fs.length/\Value.int .i64 ((k:Int)+1)=.int .i64 k_1/\jt w6 w2.heap.size (Qz (fs.take k_1) rr)/\jR w6 (w2.heap.size+1) (fs.take k_1) rr (λ_=>0)/\jp6 (w2.heap.size+1) (fs.take k_1) rr/\ji w6 w2.heap.size (some ad) fs.length c1 fs/\Below w2.heap.size w2 w6/\w2.heap.size+1<=w6.heap.size:=by
    intro r5 R5 T5 w5 w6 hr5 hra5 hsq5 hb5 hm6 hg6
    have hz5:wa.heap.size<=w5.heap.size:=hb5.size
    have hrl5:=hra5.lt
    have hq:=jbb0 (t:=(co,ro)) hsq5
    rw[hq.1,hq.2] at hra5
    have hR5:jR w5 (w2.heap.size+1) (fs.take k) rr (λ_=>0):=jR.below (W:=wa.drew) HRa.o hb5
    have hra6:jS w5 (w2.heap.size+1) r5 (zh (co,ro) 0) (qY (co,ro) 0) 96:=hra5.less (by simp;omega) (Nat.le_refl _)
    have hr5':wr.heap.size+1<=r5:=by simp at hr5;omega
    have hap:=jp6.snoc (t:=(co,ro)) HA.o (show w2.heap.size+1<=r5 by omega) HNK.o (λu hu e=>by have h1:=(HRa.o u hu).lt;rw[e] at h1;omega)
    have hsn:=jR.snoc (t:=(co,ro)) hR5 hra6 HNK.o
    refine⟨k+1,upd rr ro r5,by omega,by go_num,?_,?_,?_,?_,?_,?_⟩
    ·rw[hts2.o,<-jbn5 (t:=(co,ro)) r5 HNK.o];exact hm6
    ·rw[hts2.o]
     exact hsn.row hg6 (λb e=>by cases e;omega) hap.1
    ·rw[hts2.o];exact hap
    ·exact Rd.grown (Rd.below (Rd.drew HTa.o) (hb5.mono (by simp;omega))) hg6 (by omega) (λj e=>by cases e;exact Nat.le_refl _)
    ·exact(HBa.o.drew.trans (hb5.mono (by simp;omega))).grown hg6 (by omega) (λj e=>by cases e;exact Nat.le_refl _)
    ·have:=hg6.size;omega
   have HFIN:=ja hfin
   clear hfin
   go_region_with (first
    | (go_at_call 113;refine(HST.o _).mono ?_;rintro e w5 ⟨r5,R5,T5,rfl,hr5,hra5,hsq5,hb5⟩
       have hlm5:w2.heap.size<wa.drew.heap.size:=by simp;omega
       have HTB5:=jh.below (jh.drew HTB.o) hb5 (show wr.heap.size<wa.drew.heap.size by simp;omega)
       obtain⟨v0,v1,v2,v3⟩:=HTB5.two
       have hm5:=jt.below (jt.drew HMa.o) hb5 hlm5
       obtain⟨w6,hmu,hm6,hg6,hz6⟩:=QE (P:=Tryz.prog) hm5 Tryz.underlying145 Tryz.underlying3 ro (.pointer (some ⟨r5,0,none⟩))
       have HF5:=ja (HFIN.o r5 R5 T5 w5 w6 hr5 hra5 hsq5 hb5 hm6 hg6)
       clear HTB5 hm5 hm6 hg6 hz6 hb5 hra5 hsq5 hr5))
   all_goals
    go_wp2
    exact⟨HF5.o,by simp[intOf];omega⟩
  ·obtain rfl:k=fs.length:=by omega
   rw[List.take_length] at HM HR HA
   clear HT2
   go_wp2
   go_loopg [] K (λgg W=>∃lev,lev<=K/\K-lev<=gg/\jt W w2.heap.size (Qz fs rr)/\jR W (w2.heap.size+1) fs rr (λ_=>lev)/\ji W w2.heap.size A1 fs.length c1 fs/\Below w2.heap.size w2 W/\w2.heap.size+1<=W.heap.size)
   case atStart=>exact⟨0,by omega,by omega,HM.o,HR.o,HT.o,HB.o,hz⟩
   case round=>
    obtain⟨lev,hlv,hgg,hm,hr,ht,hb,hzr⟩:=hrel
    obtain⟨P0,hP0⟩:∃P0,P0=wr.heap.size:=⟨_,rfl⟩
    have HI0:Hid (Jf w2 ((wr.alloc (.cells #[.slice none 0 0,.slice none 0 0] 150)).alloc (.cells #[.slice none 0 0,.slice none 0 0] 150)) w2.heap.size P0 lev fs rr A1 c1 0):=ja (by
     have hs1:=(Jb.new wr).below ((Below.refl _ _).alloc (Nat.le_refl _) (.cells #[.slice none 0 0,.slice none 0 0] 150))
     have hs2:=Jb.new (wr.alloc (.cells #[.slice none 0 0,.slice none 0 0] 150))
     rw[World.size_alloc] at hs2
     rw[hP0]
     have hbb:Below wr.heap.size wr ((wr.alloc (.cells #[.slice none 0 0,.slice none 0 0] 150)).alloc (.cells #[.slice none 0 0,.slice none 0 0] 150)):=((Below.refl _ _).alloc (Nat.le_refl _) _).alloc (by simp) _
     exact⟨hs1.more (by omega),hs2.more (by omega),(hm.alloc _).alloc _,hr.below hbb,Rd.below ht (hbb.mono (by omega)),hb.trans (hbb.mono (by omega)),by omega,Nat.le_refl _⟩)
    clear hm hr ht hb HM HR HT HB hk
    go_wp2
    rw[<-hP0]
    clear hP0
    go_loopw [38] (λi W=>∃k:Nat,k<=fs.length/\i=.int .i64 k/\Jf w2 W w2.heap.size P0 lev fs rr A1 c1 k) (λi _=>fs.length-(intOf i).toNat)
    case atStart=>exact⟨0,by omega,rfl,HI0.o⟩
    case round=>
     obtain⟨k,hk,rfl,hi⟩:=hrel
     have hzr2:w2.heap.size+1<=wr.heap.size:=by have h1:=hi.lt;have h2:=hi.2.2.2.2.2.2.1;omega
     by_cases hlt:k<fs.length
     ·have HII:=ja hi
      obtain⟨ad,had,hc0,hc1⟩:=(show ji wr w2.heap.size A1 fs.length c1 fs from hi.2.2.2.2.1).at_ hlt
      subst had
      have hts:=ja (jw fs k hlt)
      have htb:=HBF.o fs[k] (List.getElem_mem hlt)
      have htm:=List.getElem_mem hlt
      generalize fs[k]=t at *
      obtain⟨co,ro⟩:=t
      dsimp only at hc0 hc1 htb
      have hts2:Hid (fs.take (k+1)=fs.take k++[(co,ro)]):=hts
      have HTM:Hid ((co,ro)∈fs):=htm
      clear hts hi htm HI0
      obtain⟨wa,hwa⟩:∃wa,wa=wr.alloc (.cells #[.int .i64 co,.int .i64 ro] 59):=⟨_,rfl⟩
      have hza:wa.heap.size=wr.heap.size+1:=by rw[hwa];simp
      have HTB:Hid (jh wa wr.heap.size 59 #[.int .i64 co,.int .i64 ro]):=ja (by rw[hwa];exact jh.new _ _ _)
      have HI:Hid (Jf w2 wa w2.heap.size P0 lev fs rr (some ad) c1 k):=ja (by rw[hwa];exact HII.o.below ((Below.refl _ _).alloc (Nat.le_refl _) _))
      have hlk:(Instr.lookup 145 (.map (some w2.heap.size)) (.int .i64 ro) false).run Tryz.prog (wr.alloc (.cells #[.int .i64 co,.int .i64 ro] 59))=.ok (.pointer (some ⟨rr ro,0,none⟩)) (wr.alloc (.cells #[.int .i64 co,.int .i64 ro] 59)):=by
       rw[<-jaz7 (rr:=rr) (z:=.pointer none) HTM.o]
       exact qu (by have:=HI.o.2.2.1;rw[hwa] at this;exact this) Tryz.underlying145 Tryz.underlying3 (.pointer none) Tryz.zeroValue146 ro
      clear HII
      by_cases hneg:co<0
      ·have HNEG:Hid ((co,ro).1<0):=ja hneg
       go_wp2
       rw[<-hwa]
       clear hwa hlk
       obtain⟨A0,n0,c0,A9,n9,c9,hbk,hx,hy,hn0,hn9⟩:Jb wa (P0+1) (zw (fs.take k) lev) (Jh (fs.take k) lev) (97+16*lev+k):=HI.o.2.1
       have hrt:=HI.o.2.2.2.1 (co,ro) HTM.o
       obtain⟨Ar,nr,cr,At,nt,ct,hrb,hlr,hlt',hnr,hnt,_,_⟩:=hrt
       have hrt:jS wa (w2.heap.size+1) (rr ro) (zh (co,ro) lev) (qY (co,ro) lev) (96+16*lev):=HI.o.2.2.2.1 (co,ro) HTM.o
       dsimp only at hrb hlr hlt' hnr hnt
       have HP1:=ja (λ(Wc:World) (hb:Below wa.heap.size wa Wc)=>Zn _ A0 n0 c0 (zw (fs.take k) lev) _ Ar nr cr (zh (co,ro) lev) Wc (hx.below hb) (hlr.below hb) (by omega) (by omega))
       have HHI:=ja (λ(Wc:World) (hb:Below wa.heap.size wa Wc)=>jam1 _ (rr ro) _ _ _ Wc (hrt.below hb) (by omega))
       have HP2:=ja (λ(Wc:World) (Ah:Option Addr) (nh ch:Nat) (hb:Below wa.heap.size wa Wc) (hh:LW Wc Ah nh ch (Jr (co,ro) lev)) (hn:nh<=96+16*lev+1)=>Zn _ A9 n9 c9 (Jh (fs.take k) lev) _ Ah nh ch (Jr (co,ro) lev) Wc (hy.below hb) hh (by omega) (by omega))
       have CELLS:=ja (λ(Wc:World) (hb:Below wa.heap.size wa Wc)=>And.intro (hbk.below hb hbk.lt).two (hrb.below hb hrb.lt).two)
       have HFIN:Hid (∀(w8:World) (A5:Option Addr) (n5 c5:Nat) (A6:Option Addr) (n6 c6:Nat),Below wa.heap.size wa w8->LW w8 A5 n5 c5 (zw (fs.take k) lev+zh (co,ro) lev)->LW w8 A6 n6 c6 (Jh (fs.take k) lev+Jr (co,ro) lev)->n5<=97+16*lev+k+1->n6<=97+16*lev+k+1 ->
         Jf w2 ((w8.setCell ⟨(P0+1),0,none⟩ (.slice A5 n5 c5)).setCell ⟨(P0+1),1,none⟩ (.slice A6 n6 c6)) w2.heap.size P0 lev fs rr (some ad) c1 (k+1) /\
         Jf w2 ((w8.setCell ⟨(P0+1),1,none⟩ (.slice A6 n6 c6)).setCell ⟨(P0+1),0,none⟩ (.slice A5 n5 c5)) w2.heap.size P0 lev fs rr (some ad) c1 (k+1)):=ja (by
        intro w8 A5 n5 c5 A6 n6 c6 hb h5 h6 hn5 hn6
        have hI8:=HI.o.below hb
        have hb8:=hbk.below hb hbk.lt
        exact⟨hI8.neg (t:=(co,ro)) hts2.o (by have h9:=HNEG.o;(first|exact h9|exact Int.not_lt.2 h9)) HA.o (zn (zn (World.grownBy.refl _ _) _ _) _ _) (Jb.set_ hb8 h5 h6 hn5 hn6),hI8.neg (t:=(co,ro)) hts2.o (by have h9:=HNEG.o;(first|exact h9|exact Int.not_lt.2 h9)) HA.o (zn (zn (World.grownBy.refl _ _) _ _) _ _) (Jb.set_' hb8 h5 h6 hn5 hn6)⟩)
       have HBc:Hid (Below wa.heap.size wa wa.drew):=ja (Below.drew (Below.refl _ _))
       obtain⟨⟨q1,q2,q3,q4⟩,q5,q6,q7,q8⟩:=CELLS.o wa (Below.refl _ _)
       have hne1:¬rr ro=(P0+1):=λe=>by
        rw[e] at hrb
        unfold jh at hrb hbk
        rw[hbk] at hrb
        injection hrb with hrb
        injection hrb with _ hrb
        exact absurd hrb (by decide)
       have hne2:¬(P0+1)=rr ro:=λe=>hne1 e.symm
       clear hbk hx hy hrt hrb hlr hlt'
       refine jk (λw'=>w'.cell? ⟨rr ro,0,none⟩=some (.slice Ar nr cr)) 20 (λw'=>w'.cell? ⟨(P0+1),0,none⟩=some (.slice A0 n0 c0)) 23 (λw'=>w'.cell? ⟨(P0+1),1,none⟩=some (.slice A9 n9 c9)) (by kernel_rfl) ⟨(CELLS.o _ HBc.o).2.1,λ_=>(CELLS.o _ HBc.o).1.1,λ_=>(CELLS.o _ HBc.o).1.2.1⟩ (λjb=>?_)
       revert jb
       refine jtk 0 ?_ ?_ ?_
       rotate_left 1
       focus(intro w' hSw;obtain⟨hC,hF,hG⟩:=hSw;clear hF;clear hG;go_simp;try with_reducible rfl)
       intro jb
       simp only[Act.put,lA,lB,lC]
       revert jb
       refine jtk 1 ?_ ?_ ?_
       rotate_left 1
       focus(intro w' hSw;obtain⟨hC,hF,hG⟩:=hSw;clear hF;clear hG;go_simp;try with_reducible rfl)
       intro jb
       simp only[Act.put,lA,lB,lC]
       revert jb
       refine jtk 2 ?_ ?_ ?_
       rotate_left 1
       focus(intro w' hSw;obtain⟨hC,hF,hG⟩:=hSw;clear hF;clear hG;go_simp;try with_reducible rfl)
       intro jb
       simp only[Act.put,lA,lB,lC]
       revert jb
       refine jtk 3 ?_ ?_ ?_
       rotate_left 1
       focus(intro w' hSw;obtain⟨hC,hF,hG⟩:=hSw;clear hF;clear hG;go_simp;try with_reducible rfl)
       intro jb
       simp only[Act.put,lA,lB,lC]
       revert jb
       refine jtk 4 ?_ ?_ ?_
       rotate_left 1
       focus(intro w' hSw;obtain⟨hC,hF,hG⟩:=hSw;clear hF;clear hG;go_simp;try with_reducible rfl)
       intro jb
       simp only[Act.put,lA,lB,lC]
       revert jb
       refine jtk 5 ?_ ?_ ?_
       rotate_left 1
       focus(intro w' hSw;obtain⟨hC,hF,hG⟩:=hSw;have hF:=hF (by decide +kernel);clear hG;go_simp;try with_reducible rfl)
       intro jb
       simp only[Act.put,lA,lB,lC]
       revert jb
       refine jtk 6 ?_ ?_ ?_
       rotate_left 1
       focus(intro w' hSw;obtain⟨hC,hF,hG⟩:=hSw;clear hF;clear hG;go_simp;try with_reducible rfl)
       intro jb
       simp only[Act.put,lA,lB,lC]
       revert jb
       refine jtk 7 ?_ ?_ ?_
       rotate_left 1
       focus(intro w' hSw;obtain⟨hC,hF,hG⟩:=hSw;clear hF;clear hG;go_simp;try with_reducible rfl)
       intro jb
       simp only[Act.put,lA,lB,lC]
       revert jb
       refine jtk 8 ?_ ?_ ?_
       rotate_left 1
       focus(intro w' hSw;obtain⟨hC,hF,hG⟩:=hSw;clear hF;clear hG;go_simp;try with_reducible rfl)
       intro jb
       simp only[Act.put,lA,lB,lC]
       revert jb
       refine jtk 9 ?_ ?_ ?_
       rotate_left 1
       focus(intro w' hSw;obtain⟨hC,hF,hG⟩:=hSw;clear hF;clear hG;go_simp;try with_reducible rfl)
       intro jb
       simp only[Act.put,lA,lB,lC]
       revert jb
       refine jtk 11 ?_ ?_ ?_
       rotate_left 1
       focus(intro w' hSw;obtain⟨hC,hF,hG⟩:=hSw;clear hF;clear hG;go_simp;try with_reducible rfl)
       intro jb
       simp only[Act.put,lA,lB,lC]
       revert jb
       refine jtk 12 ?_ ?_ ?_
       rotate_left 1
       focus(intro w' hSw;obtain⟨hC,hF,hG⟩:=hSw;clear hF;clear hG;go_simp;try with_reducible rfl)
       intro jb
       simp only[Act.put,lA,lB,lC]
       revert jb
       refine jtk 13 ?_ ?_ ?_
       rotate_left 1
       focus(intro w' hSw;obtain⟨hC,hF,hG⟩:=hSw;clear hF;clear hG;go_simp;try with_reducible rfl)
       intro jb
       simp only[Act.put,lA,lB,lC]
       revert jb
       refine jtk 14 ?_ ?_ ?_
       rotate_left 1
       focus(intro w' hSw;obtain⟨hC,hF,hG⟩:=hSw;clear hF;have hG:=hG (by decide +kernel);go_simp;try with_reducible rfl)
       intro jb
       simp only[Act.put,lA,lB,lC]
       revert jb
       refine jtk 15 ?_ ?_ ?_
       rotate_left 1
       focus(intro w' hSw;obtain⟨hC,hF,hG⟩:=hSw;clear hF;clear hG;go_simp;try with_reducible rfl)
       intro jb
       simp only[Act.put,lA,lB,lC]
       revert jb
       refine jtk 18 ?_ ?_ ?_
       rotate_left 1
       focus(intro w' hSw;obtain⟨hC,hF,hG⟩:=hSw;clear hF;clear hG;go_simp;try with_reducible rfl)
       intro jb
       simp only[Act.put,lA,lB,lC]
       revert jb
       refine jtk 21 ?_ ?_ ?_
       rotate_left 1
       focus(intro w' hSw;obtain⟨hC,hF,hG⟩:=hSw;clear hF;clear hG;go_simp;try with_reducible rfl)
       intro jb
       simp only[Act.put,lA,lB,lC]
       refine je 10 rfl (by decide +kernel) (λK hK=>?_)
       go_simp
       go_wp2_with (first
        | (go_at_call 114;refine(HP1.o _ HBc.o).mono ?_;rintro e w5 ⟨A5,n5,c5,rfl,hw5,hn5,hb5⟩
           have HBc:=ja (HBc.o.trans (hb5.mono HBc.o.size))
           obtain⟨⟨q1,q2,q3,q4⟩,q5,q6,q7,q8⟩:=CELLS.o _ HBc.o
           have HW5:Hid (LW w5 A5 n5 c5 (zw (fs.take k) lev+zh (co,ro) lev)):=ja hw5
           have HN5:n5<=97+16*lev+k+1:=by omega
           clear hb5 hw5))
       refine hK.out _ _ ⟨(CELLS.o _ HBc.o).2.1,λ_=>(CELLS.o _ HBc.o).1.1,λ_=>(CELLS.o _ HBc.o).1.2.1⟩ (λjb=>?_)
       clear hK K
       refine je 16 rfl (by decide +kernel) (λK hK=>?_)
       go_simp
       go_wp2_with (first
        | (go_at_call 115;refine(HHI.o _ HBc.o).mono ?_;rintro e w6 ⟨A7,n7,c7,rfl,hw7,hn7,hb5⟩
           have HBc:=ja (HBc.o.trans (hb5.mono HBc.o.size))
           obtain⟨⟨q1,q2,q3,q4⟩,q5,q6,q7,q8⟩:=CELLS.o _ HBc.o
           have HWh:Hid (LW w6 A7 n7 c7 (Jr (co,ro) lev)):=ja hw7
           have HW5:=ja (LW.below HW5.o hb5)
           clear hb5 hw7))
       refine hK.out _ _ ⟨(CELLS.o _ HBc.o).2.1,λ_=>(CELLS.o _ HBc.o).1.1,λ_=>(CELLS.o _ HBc.o).1.2.1⟩ (λjb=>?_)
       clear hK K
       refine je 17 rfl (by decide +kernel) (λK hK=>?_)
       go_simp
       go_wp2_with (first
        | (go_at_call 114;refine(HP2.o _ _ _ _ HBc.o HWh.o hn7).mono ?_;rintro e w7 ⟨A6,n6,c6,rfl,hw6,hn6,hb5⟩
           have HBc:=ja (HBc.o.trans (hb5.mono HBc.o.size))
           obtain⟨⟨q1,q2,q3,q4⟩,q5,q6,q7,q8⟩:=CELLS.o _ HBc.o
           have HW6:Hid (LW w7 A6 n6 c6 (Jh (fs.take k) lev+Jr (co,ro) lev)):=ja hw6
           have HN6:n6<=97+16*lev+k+1:=by omega
           have HW5:=ja (LW.below HW5.o hb5)
           clear hb5 hw6))
       refine hK.out _ _ ⟨(CELLS.o _ HBc.o).2.1,λ_=>(CELLS.o _ HBc.o).1.1,λ_=>(CELLS.o _ HBc.o).1.2.1⟩ (λjb=>?_)
       clear hK K
       revert jb
       refine jtk 19 ?_ ?_ ?_
       rotate_left 1
       focus(intro w' hSw;obtain⟨hC,hF,hG⟩:=hSw;clear hF;clear hG;go_simp;try with_reducible rfl)
       intro jb
       simp only[Act.put,lA,lB,lC]
       refine je 20 rfl (by decide +kernel) (λK hK=>?_)
       go_simp
       refine hK.out _ _ ⟨(World.cell?_setCell_far _ _ _ _ hne2).trans (CELLS.o _ HBc.o).2.1,λh=>absurd h (by decide +kernel),λ_=>(World.cell?_setCell_other _ _ _ _ (by simp)).trans (CELLS.o _ HBc.o).1.2.1⟩ (λjb=>?_)
       clear hK K
       revert jb
       refine jtk 22 ?_ ?_ ?_
       rotate_left 1
       focus(intro w' hSw;obtain⟨hC,hF,hG⟩:=hSw;clear hF;clear hG;go_simp;try with_reducible rfl)
       intro jb
       simp only[Act.put,lA,lB,lC]
       refine je 23 rfl (by decide +kernel) (λK hK=>?_)
       go_simp
       refine hK.out _ _ ⟨(World.cell?_setCell_far _ _ _ _ hne2).trans ((World.cell?_setCell_far _ _ _ _ hne2).trans (CELLS.o _ HBc.o).2.1),λh=>absurd h (by decide +kernel),λh=>absurd h (by decide +kernel)⟩ (λjb=>?_)
       clear hK K
       refine jl (by decide +kernel) ?_
       clear jb
       all_goals
        have HZ:=HFIN.o _ _ _ _ _ _ _ HBc.o HW5.o HW6.o HN5 HN6
        clear HFIN HP1 HP2 HHI CELLS
        go_wp2
        refine⟨⟨k+1,by omega,by go_num,?_⟩,by simp[intOf];omega⟩
        first
         | exact HZ.1
         | exact HZ.2
      ·have HNEG:Hid (¬(co,ro).1<0):=ja hneg
       go_wp2
       rw[<-hwa]
       clear hwa hlk
       obtain⟨A0,n0,c0,A9,n9,c9,hbk,hx,hy,hn0,hn9⟩:Jb wa P0 (zv (fs.take k) lev) (Jg (fs.take k) lev) (97+16*lev+k):=HI.o.1
       have hrt:=HI.o.2.2.2.1 (co,ro) HTM.o
       obtain⟨Ar,nr,cr,At,nt,ct,hrb,hlr,hlt',hnr,hnt,_,_⟩:=hrt
       have hrt:jS wa (w2.heap.size+1) (rr ro) (zh (co,ro) lev) (qY (co,ro) lev) (96+16*lev):=HI.o.2.2.2.1 (co,ro) HTM.o
       dsimp only at hrb hlr hlt' hnr hnt
       have HP1:=ja (λ(Wc:World) (hb:Below wa.heap.size wa Wc)=>Zn _ A0 n0 c0 (zv (fs.take k) lev) _ Ar nr cr (zh (co,ro) lev) Wc (hx.below hb) (hlr.below hb) (by omega) (by omega))
       have HHI:=ja (λ(Wc:World) (hb:Below wa.heap.size wa Wc)=>jam1 _ (rr ro) _ _ _ Wc (hrt.below hb) (by omega))
       have HP2:=ja (λ(Wc:World) (Ah:Option Addr) (nh ch:Nat) (hb:Below wa.heap.size wa Wc) (hh:LW Wc Ah nh ch (Jr (co,ro) lev)) (hn:nh<=96+16*lev+1)=>Zn _ A9 n9 c9 (Jg (fs.take k) lev) _ Ah nh ch (Jr (co,ro) lev) Wc (hy.below hb) hh (by omega) (by omega))
       have CELLS:=ja (λ(Wc:World) (hb:Below wa.heap.size wa Wc)=>And.intro (hbk.below hb hbk.lt).two (hrb.below hb hrb.lt).two)
       have HFIN:Hid (∀(w8:World) (A5:Option Addr) (n5 c5:Nat) (A6:Option Addr) (n6 c6:Nat),Below wa.heap.size wa w8->LW w8 A5 n5 c5 (zv (fs.take k) lev+zh (co,ro) lev)->LW w8 A6 n6 c6 (Jg (fs.take k) lev+Jr (co,ro) lev)->n5<=97+16*lev+k+1->n6<=97+16*lev+k+1 ->
         Jf w2 ((w8.setCell ⟨P0,0,none⟩ (.slice A5 n5 c5)).setCell ⟨P0,1,none⟩ (.slice A6 n6 c6)) w2.heap.size P0 lev fs rr (some ad) c1 (k+1) /\
         Jf w2 ((w8.setCell ⟨P0,1,none⟩ (.slice A6 n6 c6)).setCell ⟨P0,0,none⟩ (.slice A5 n5 c5)) w2.heap.size P0 lev fs rr (some ad) c1 (k+1)):=ja (by
        intro w8 A5 n5 c5 A6 n6 c6 hb h5 h6 hn5 hn6
        have hI8:=HI.o.below hb
        have hb8:=hbk.below hb hbk.lt
        exact⟨hI8.pos (t:=(co,ro)) hts2.o (by have h9:=HNEG.o;(first|exact h9|exact Int.not_lt.2 h9)) HA.o (zn (zn (World.grownBy.refl _ _) _ _) _ _) (Jb.set_ hb8 h5 h6 hn5 hn6),hI8.pos (t:=(co,ro)) hts2.o (by have h9:=HNEG.o;(first|exact h9|exact Int.not_lt.2 h9)) HA.o (zn (zn (World.grownBy.refl _ _) _ _) _ _) (Jb.set_' hb8 h5 h6 hn5 hn6)⟩)
       have HBc:Hid (Below wa.heap.size wa wa.drew):=ja (Below.drew (Below.refl _ _))
       obtain⟨⟨q1,q2,q3,q4⟩,q5,q6,q7,q8⟩:=CELLS.o wa (Below.refl _ _)
       have hne1:¬rr ro=P0:=λe=>by
        rw[e] at hrb
        unfold jh at hrb hbk
        rw[hbk] at hrb
        injection hrb with hrb
        injection hrb with _ hrb
        exact absurd hrb (by decide)
       have hne2:¬P0=rr ro:=λe=>hne1 e.symm
       clear hbk hx hy hrt hrb hlr hlt'
       refine jk (λw'=>w'.cell? ⟨rr ro,0,none⟩=some (.slice Ar nr cr)) 20 (λw'=>w'.cell? ⟨P0,0,none⟩=some (.slice A0 n0 c0)) 23 (λw'=>w'.cell? ⟨P0,1,none⟩=some (.slice A9 n9 c9)) (by kernel_rfl) ⟨(CELLS.o _ HBc.o).2.1,λ_=>(CELLS.o _ HBc.o).1.1,λ_=>(CELLS.o _ HBc.o).1.2.1⟩ (λjb=>?_)
       revert jb
       refine jtk 0 ?_ ?_ ?_
       rotate_left 1
       focus(intro w' hSw;obtain⟨hC,hF,hG⟩:=hSw;clear hF;clear hG;go_simp;try with_reducible rfl)
       intro jb
       simp only[Act.put,lA,lB,lC]
       revert jb
       refine jtk 1 ?_ ?_ ?_
       rotate_left 1
       focus(intro w' hSw;obtain⟨hC,hF,hG⟩:=hSw;clear hF;clear hG;go_simp;try with_reducible rfl)
       intro jb
       simp only[Act.put,lA,lB,lC]
       revert jb
       refine jtk 2 ?_ ?_ ?_
       rotate_left 1
       focus(intro w' hSw;obtain⟨hC,hF,hG⟩:=hSw;clear hF;clear hG;go_simp;try with_reducible rfl)
       intro jb
       simp only[Act.put,lA,lB,lC]
       revert jb
       refine jtk 3 ?_ ?_ ?_
       rotate_left 1
       focus(intro w' hSw;obtain⟨hC,hF,hG⟩:=hSw;clear hF;clear hG;go_simp;try with_reducible rfl)
       intro jb
       simp only[Act.put,lA,lB,lC]
       revert jb
       refine jtk 4 ?_ ?_ ?_
       rotate_left 1
       focus(intro w' hSw;obtain⟨hC,hF,hG⟩:=hSw;clear hF;clear hG;go_simp;try with_reducible rfl)
       intro jb
       simp only[Act.put,lA,lB,lC]
       revert jb
       refine jtk 5 ?_ ?_ ?_
       rotate_left 1
       focus(intro w' hSw;obtain⟨hC,hF,hG⟩:=hSw;have hF:=hF (by decide +kernel);clear hG;go_simp;try with_reducible rfl)
       intro jb
       simp only[Act.put,lA,lB,lC]
       revert jb
       refine jtk 6 ?_ ?_ ?_
       rotate_left 1
       focus(intro w' hSw;obtain⟨hC,hF,hG⟩:=hSw;clear hF;clear hG;go_simp;try with_reducible rfl)
       intro jb
       simp only[Act.put,lA,lB,lC]
       revert jb
       refine jtk 7 ?_ ?_ ?_
       rotate_left 1
       focus(intro w' hSw;obtain⟨hC,hF,hG⟩:=hSw;clear hF;clear hG;go_simp;try with_reducible rfl)
       intro jb
       simp only[Act.put,lA,lB,lC]
       revert jb
       refine jtk 8 ?_ ?_ ?_
       rotate_left 1
       focus(intro w' hSw;obtain⟨hC,hF,hG⟩:=hSw;clear hF;clear hG;go_simp;try with_reducible rfl)
       intro jb
       simp only[Act.put,lA,lB,lC]
       revert jb
       refine jtk 9 ?_ ?_ ?_
       rotate_left 1
       focus(intro w' hSw;obtain⟨hC,hF,hG⟩:=hSw;clear hF;clear hG;go_simp;try with_reducible rfl)
       intro jb
       simp only[Act.put,lA,lB,lC]
       revert jb
       refine jtk 11 ?_ ?_ ?_
       rotate_left 1
       focus(intro w' hSw;obtain⟨hC,hF,hG⟩:=hSw;clear hF;clear hG;go_simp;try with_reducible rfl)
       intro jb
       simp only[Act.put,lA,lB,lC]
       revert jb
       refine jtk 12 ?_ ?_ ?_
       rotate_left 1
       focus(intro w' hSw;obtain⟨hC,hF,hG⟩:=hSw;clear hF;clear hG;go_simp;try with_reducible rfl)
       intro jb
       simp only[Act.put,lA,lB,lC]
       revert jb
       refine jtk 13 ?_ ?_ ?_
       rotate_left 1
       focus(intro w' hSw;obtain⟨hC,hF,hG⟩:=hSw;clear hF;clear hG;go_simp;try with_reducible rfl)
       intro jb
       simp only[Act.put,lA,lB,lC]
       revert jb
       refine jtk 14 ?_ ?_ ?_
       rotate_left 1
       focus(intro w' hSw;obtain⟨hC,hF,hG⟩:=hSw;clear hF;have hG:=hG (by decide +kernel);go_simp;try with_reducible rfl)
       intro jb
       simp only[Act.put,lA,lB,lC]
       revert jb
       refine jtk 15 ?_ ?_ ?_
       rotate_left 1
       focus(intro w' hSw;obtain⟨hC,hF,hG⟩:=hSw;clear hF;clear hG;go_simp;try with_reducible rfl)
       intro jb
       simp only[Act.put,lA,lB,lC]
       revert jb
       refine jtk 18 ?_ ?_ ?_
       rotate_left 1
       focus(intro w' hSw;obtain⟨hC,hF,hG⟩:=hSw;clear hF;clear hG;go_simp;try with_reducible rfl)
       intro jb
       simp only[Act.put,lA,lB,lC]
       revert jb
       refine jtk 21 ?_ ?_ ?_
       rotate_left 1
       focus(intro w' hSw;obtain⟨hC,hF,hG⟩:=hSw;clear hF;clear hG;go_simp;try with_reducible rfl)
       intro jb
       simp only[Act.put,lA,lB,lC]
       refine je 10 rfl (by decide +kernel) (λK hK=>?_)
       go_simp
       go_wp2_with (first
        | (go_at_call 114;refine(HP1.o _ HBc.o).mono ?_;rintro e w5 ⟨A5,n5,c5,rfl,hw5,hn5,hb5⟩
           have HBc:=ja (HBc.o.trans (hb5.mono HBc.o.size))
           obtain⟨⟨q1,q2,q3,q4⟩,q5,q6,q7,q8⟩:=CELLS.o _ HBc.o
           have HW5:Hid (LW w5 A5 n5 c5 (zv (fs.take k) lev+zh (co,ro) lev)):=ja hw5
           have HN5:n5<=97+16*lev+k+1:=by omega
           clear hb5 hw5))
       refine hK.out _ _ ⟨(CELLS.o _ HBc.o).2.1,λ_=>(CELLS.o _ HBc.o).1.1,λ_=>(CELLS.o _ HBc.o).1.2.1⟩ (λjb=>?_)
       clear hK K
       refine je 16 rfl (by decide +kernel) (λK hK=>?_)
       go_simp
       go_wp2_with (first
        | (go_at_call 115;refine(HHI.o _ HBc.o).mono ?_;rintro e w6 ⟨A7,n7,c7,rfl,hw7,hn7,hb5⟩
           have HBc:=ja (HBc.o.trans (hb5.mono HBc.o.size))
           obtain⟨⟨q1,q2,q3,q4⟩,q5,q6,q7,q8⟩:=CELLS.o _ HBc.o
           have HWh:Hid (LW w6 A7 n7 c7 (Jr (co,ro) lev)):=ja hw7
           have HW5:=ja (LW.below HW5.o hb5)
           clear hb5 hw7))
       refine hK.out _ _ ⟨(CELLS.o _ HBc.o).2.1,λ_=>(CELLS.o _ HBc.o).1.1,λ_=>(CELLS.o _ HBc.o).1.2.1⟩ (λjb=>?_)
       clear hK K
       refine je 17 rfl (by decide +kernel) (λK hK=>?_)
       go_simp
       go_wp2_with (first
        | (go_at_call 114;refine(HP2.o _ _ _ _ HBc.o HWh.o hn7).mono ?_;rintro e w7 ⟨A6,n6,c6,rfl,hw6,hn6,hb5⟩
           have HBc:=ja (HBc.o.trans (hb5.mono HBc.o.size))
           obtain⟨⟨q1,q2,q3,q4⟩,q5,q6,q7,q8⟩:=CELLS.o _ HBc.o
           have HW6:Hid (LW w7 A6 n6 c6 (Jg (fs.take k) lev+Jr (co,ro) lev)):=ja hw6
           have HN6:n6<=97+16*lev+k+1:=by omega
           have HW5:=ja (LW.below HW5.o hb5)
           clear hb5 hw6))
       refine hK.out _ _ ⟨(CELLS.o _ HBc.o).2.1,λ_=>(CELLS.o _ HBc.o).1.1,λ_=>(CELLS.o _ HBc.o).1.2.1⟩ (λjb=>?_)
       clear hK K
       revert jb
       refine jtk 19 ?_ ?_ ?_
       rotate_left 1
       focus(intro w' hSw;obtain⟨hC,hF,hG⟩:=hSw;clear hF;clear hG;go_simp;try with_reducible rfl)
       intro jb
       simp only[Act.put,lA,lB,lC]
       refine je 20 rfl (by decide +kernel) (λK hK=>?_)
       go_simp
       refine hK.out _ _ ⟨(World.cell?_setCell_far _ _ _ _ hne2).trans (CELLS.o _ HBc.o).2.1,λh=>absurd h (by decide +kernel),λ_=>(World.cell?_setCell_other _ _ _ _ (by simp)).trans (CELLS.o _ HBc.o).1.2.1⟩ (λjb=>?_)
       clear hK K
       revert jb
       refine jtk 22 ?_ ?_ ?_
       rotate_left 1
       focus(intro w' hSw;obtain⟨hC,hF,hG⟩:=hSw;clear hF;clear hG;go_simp;try with_reducible rfl)
       intro jb
       simp only[Act.put,lA,lB,lC]
       refine je 23 rfl (by decide +kernel) (λK hK=>?_)
       go_simp
       refine hK.out _ _ ⟨(World.cell?_setCell_far _ _ _ _ hne2).trans ((World.cell?_setCell_far _ _ _ _ hne2).trans (CELLS.o _ HBc.o).2.1),λh=>absurd h (by decide +kernel),λh=>absurd h (by decide +kernel)⟩ (λjb=>?_)
       clear hK K
       refine jl (by decide +kernel) ?_
       clear jb
       all_goals
        have HZ:=HFIN.o _ _ _ _ _ _ _ HBc.o HW5.o HW6.o HN5 HN6
        clear HFIN HP1 HP2 HHI CELLS
        go_wp2
        refine⟨⟨k+1,by omega,by go_num,?_⟩,by simp[intOf];omega⟩
        first
         | exact HZ.1
         | exact HZ.2
     ·obtain rfl:k=fs.length:=by omega
      unfold Jf at hi
      rw[List.take_length] at hi
      have HI:=ja hi
      clear hi HI0
      obtain⟨A0,n0,c0,A9,n9,c9,hbk,hx,hy,_,_⟩:=HI.o.1
      obtain⟨B0,m0,d0,B9,m9,d9,hbk',hx',hy',_,_⟩:=HI.o.2.1
      have HC1:=ja (jd7 _ A0 n0 c0 (zv fs lev) _ B9 m9 d9 (Jh fs lev) wr hx hy')
      have HC2:=ja (λq=>jd7 _ A9 n9 c9 (Jg fs lev) _ B0 m0 d0 (zw fs lev) (wr.drewN q) (hy.drewN q) (hx'.drewN q))
      obtain⟨q1,q2,q3,q4⟩:=hbk.two
      obtain⟨q5,q6,q7,q8⟩:=hbk'.two
      have hbb:=HB2.o.trans (HI.o.2.2.2.2.2.1.mono HB2.o.size)
      have HBB:=ja hbb
      clear hbk hbk' hx hy hx' hy' hbb
      by_cases hv1:Jh fs lev<zv fs lev
      ·have hc1:Jz (zv fs lev) (Jh fs lev)=1:=by unfold Jz;rw[if_neg (by omega),if_pos (by omega)]
       rw[hc1] at HC1
       have HSS:=ja (HS.o 1 (by decide) lev (ZT hv1))
       clear hc1 hv1 HC2
       go_wp2_with (first
        | (go_at_call 116;refine HC1.o.mono ?_;rintro e w4 ⟨rfl,q,rfl⟩))
       go_ret
       exact⟨1,rfl,HSS.o,jp HBB.o _⟩
      ·have hc1:Jz (zv fs lev) (Jh fs lev)<=0:=by unfold Jz;(repeat' split)<;>omega
       generalize Jz (zv fs lev) (Jh fs lev)=cv1 at *
       by_cases hv2:Jg fs lev<zw fs lev
       ·have hc2:Jz (Jg fs lev) (zw fs lev)=-1:=by unfold Jz;rw[if_pos hv2]
        rw[hc2] at HC2
        have HSS:=ja (HS.o (-1) (by decide) lev (ZS hv2))
        clear hc2 hv1 hv2
        go_wp2_with (first
         | (go_at_call_of 116 A0;refine HC1.o.mono ?_;rintro e w4 ⟨rfl,q,rfl⟩
            have hq1:(wr.drewN q).cell? ⟨P0,1,none⟩=_:=q2
            have hq2:(wr.drewN q).cell? ⟨P0+1,0,none⟩=_:=q5)
         | (go_at_call_of 116 A9;refine(HC2.o _).mono ?_;rintro e w4 ⟨rfl,q',rfl⟩))
        go_ret
        exact⟨-1,rfl,HSS.o,by first|exact jp HBB.o _|exact jp (jp HBB.o _) _⟩
       ·have hc2:0<=Jz (Jg fs lev) (zw fs lev):=by unfold Jz;rw[if_neg hv2];split<;>omega
        generalize Jz (Jg fs lev) (zw fs lev)=cv2 at *
        have hlev:lev<K:=by
         rcases Nat.lt_or_ge lev K with h9|h9
         ·exact h9
         ·have:lev=K:=by omega
          subst this
          exact absurd (show jy fs lev=0 by unfold jy;rw[if_neg hv1,if_neg hv2]) HVK.o
        clear hv1 hv2 HBB
        go_wp2_with (first
         | (go_at_call_of 116 A0;refine HC1.o.mono ?_;rintro e w4 ⟨rfl,q,rfl⟩
            have hq1:(wr.drewN q).cell? ⟨P0,1,none⟩=_:=q2
            have hq2:(wr.drewN q).cell? ⟨P0+1,0,none⟩=_:=q5)
         | (go_at_call_of 116 A9;refine(HC2.o _).mono ?_;rintro e w4 ⟨rfl,q',rfl⟩
            have HM3:Hid (jt ((wr.drewN q).drewN q') w2.heap.size (Qz fs rr)):=ja (HI.o.2.2.1)
            have HR3:Hid (jR ((wr.drewN q).drewN q') (w2.heap.size+1) fs rr (λ_=>lev)):=ja (HI.o.2.2.2.1)
            have HT3:Hid (ji ((wr.drewN q).drewN q') w2.heap.size A1 fs.length c1 fs):=ja (HI.o.2.2.2.2.1)
            have HB3:Hid (Below w2.heap.size w2 ((wr.drewN q).drewN q')):=ja (jp (jp HI.o.2.2.2.2.2.1 _) _)
            have hzz:w2.heap.size+1<=((wr.drewN q).drewN q').heap.size:=hzr2
            clear q1 q2 q3 q4 q5 q6 q7 q8 hq1 hq2 HC1 HC2 HI
            generalize (wr.drewN q).drewN q'=w5 at *)
         | (refine qG rfl _ _ rfl Tryz.underlying145 w2.heap.size (Qz fs rr) rfl HM3.o ?_;intro w6 hi6 hg6 hz6
            have HI6:=ja hi6;have HG6:=ja hg6;clear hi6 hg6))
        have hz56:=HG6.o.size
        have hB56:Below w5.heap.size w5 w6:=Qk HG6.o
        have HR6:Hid (jR w6 (w2.heap.size+1) fs rr (jg1 (Qz fs rr) lev)):=ja (by
         intro t ht
         have h1:jg1 (Qz fs rr) lev t.2=lev:=by unfold jg1;rw[if_pos (by rw[zy7];exact List.mem_map.2 ⟨t,ht,rfl⟩)]
         rw[h1]
         exact(HR3.o t ht).below hB56)
        have HT6:Hid (ji w6 w2.heap.size A1 fs.length c1 fs):=ja (Rd.below HT3.o (hB56.mono (by omega)))
        have HB6:Hid (Below w2.heap.size w2 w6):=ja (HB3.o.trans (hB56.mono (by omega)))
        obtain⟨it,hit⟩:∃it,it=w5.heap.size:=⟨_,rfl⟩
        rw[<-hit] at HI6 ⊢
        have hzi:w2.heap.size+1<=it:=by omega
        clear HR3 HT3 HB3 HM3 HG6 hB56 hit
        go_frame
        go_loopw [] (λW=>∃left,zK W it w2.heap.size (Qz fs rr) left none/\jR W (w2.heap.size+1) fs rr (jg1 left lev)/\ji W w2.heap.size A1 fs.length c1 fs/\Below w2.heap.size w2 W/\w2.heap.size+1<=W.heap.size) (λW=>zk5 W it)
        case atStart=>exact⟨Qz fs rr,HI6.o,HR6.o,HT6.o,HB6.o,by omega⟩
        case round=>
         obtain⟨left,hi,hr,ht,hb,hzw⟩:=hrel
         have HII:=ja hi;have HRR:=ja hr;have HTT:=ja ht;have HBB:=ja hb
         clear hi hr ht hb HI6 HR6 HT6 HB6
         by_cases hl:left=[]
         ·subst hl
          go_wp2_with (first
           | (refine qm rfl _ rfl it w2.heap.size rfl HII.o ?_))
          go_roundg (K-(lev+1))
          case measure=>omega
          case rel=>
           refine⟨lev+1,by omega,Nat.le_refl _,HII.o.isMap,?_,HTT.o,HBB.o,hzw⟩
           intro t ht
           have:=HRR.o t ht
           rwa [show jg1 [] lev t.2=lev+1 from rfl] at this
         ·go_wp2_with (first
           | (refine qn rfl _ rfl it w2.heap.size rfl HII.o hl ?_;intro j p w7 hj hi7 hg7 hz7
              have hkn:(left.map (·.1)).Nodup:=List.Nodup.sublist (jbn2 HII.o) HII.o.isMap.nodup
              obtain⟨t,htm,rfl⟩:=jcb3 hi7.cur_mem
              have HKN:=ja hkn
              have HI7:=ja hi7;have HG7:=ja hg7;clear hi7 hg7 hkn)
           | (refine qF rfl _ rfl it w2.heap.size rfl HI7.o ?_))
          have hAt:=HA.o.1 t htm
          have HTM:Hid (t∈fs):=htm
          have hll:=HII.o.lt
          have hlv:jg1 left lev t.2=lev:=by
           unfold jg1
           rw[if_pos (List.mem_map.2 ⟨_,List.mem_of_getElem? hj,rfl⟩)]
          have hR7:jR w7 (w2.heap.size+1) fs rr (jg1 left lev):=λu hu=>(HRR.o u hu).iter HII.o HG7.o
          have hr0:=hR7 t htm
          rw[hlv] at hr0
          have hr0':jS w7 (w2.heap.size+1) (rr t.2) (zh t lev) (qY t lev) (96+16*lev+0):=hr0
          have HO7:=ja (qv.of hR7 t.2)
          have HR0:=ja hr0'
          have HT7:Hid (ji w7 w2.heap.size A1 fs.length c1 fs):=ja (Rd.grown HTT.o HG7.o (by omega) (λj e=>by cases e;omega))
          have HB7:Hid (Below w2.heap.size w2 w7):=ja (HBB.o.grown HG7.o (by omega) (λj e=>by cases e;omega))
          have HJ:=ja hj
          clear hR7 hr0 hr0' hlv HRR HTT HBB HG7 hj
          go_loopw [92] (λi W=>∃j':Nat,j'<=16/\i=.int .i64 j'/\zK W it w2.heap.size (Qz fs rr) (left.eraseIdx j) none/\jS W (w2.heap.size+1) (rr t.2) (zc6 j' (zh t lev,qY t lev)).1 (zc6 j' (zh t lev,qY t lev)).2 (96+16*lev+j') /\
           qv W (w2.heap.size+1) fs rr (jg1 left lev) t.2/\ji W w2.heap.size A1 fs.length c1 fs/\Below w2.heap.size w2 W/\w2.heap.size+1<=W.heap.size) (λi _=>16-(intOf i).toNat)
          case atStart=>exact⟨0,by omega,rfl,HI7.o.nocur,HR0.o,HO7.o,HT7.o,HB7.o,by omega⟩
          case round=>
           obtain⟨j',hj',rfl,hi,hr,ho,ht,hb,hzz8⟩:=hrel
           have HI8:=ja hi;have HR8:=ja hr;have HO8:=ja ho;have HT8:=ja ht;have HB8:=ja hb
           clear hi hr ho ht hb HI7 HR0 HO7 HT7 HB7
           by_cases hlt:j'<16
           ·have HNX:=ja (jap6 _ _ _ _ _ 0 wr HR8.o hzz8 (by omega) (by omega))
            rw[show((0:Nat):Int)=0 from rfl] at HNX
            go_wp2_with (first
             | (go_at_call 117;refine HNX.o.mono ?_;rintro e w9 ⟨rfl,hr9,hg9⟩;have HR9:=ja hr9;have HG9:=ja hg9;clear hr9 hg9))
            go_roundw
            case rel=>
             have hsz9:=HG9.o.size
             exact⟨j'+1,by omega,by go_num,HI8.o.root HR8.o (by omega) hAt HG9.o,HR9.o,HO8.o.grown HTM.o HA.o HR8.o HG9.o,Rd.grown HT8.o HG9.o (by omega) (λ_ e=>by cases e;omega),HB8.o.grown HG9.o (by omega) (λ_ e=>by cases e;omega),by omega⟩
            case measure=>simp[intOf];omega
           ·obtain rfl:j'=16:=by omega
            have hnx:=jbn4 t lev
            have hrs:jR wr (w2.heap.size+1) fs rr (jg1 (left.eraseIdx j) lev):=jR.step HO8.o (by have h1:=HR8.o;rw[hnx.1,hnx.2] at h1;exact h1.less (Nat.le_refl _) (by omega)) HND.o HTM.o HJ.o rfl HKN.o
            have HRS:=ja hrs
            clear hrs hnx HR8 HO8
            go_wp2
            go_roundw
            case rel=>exact⟨left.eraseIdx j,HI8.o,HRS.o,HT8.o,HB8.o,hzz8⟩
            case measure=>
             rw[HI8.o.leftN_eq,HII.o.leftN_eq,List.length_eraseIdx_of_lt (List.getElem?_eq_some_iff.1 HJ.o).1]
             have:=(List.getElem?_eq_some_iff.1 HJ.o).1
             omega
