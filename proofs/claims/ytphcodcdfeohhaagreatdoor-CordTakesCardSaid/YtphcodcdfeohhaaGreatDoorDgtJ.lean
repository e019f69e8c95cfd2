import Derived.Test.YtphcodcdfeohhaaGreatDoorDigIToDgtI
import Derived.Test.YtphcodcdfeohhaaGreatDoorLinAToLinD
set_option linter.unusedVariables false
set_option linter.unusedSimpArgs false
namespace Go.Proofs.YtphcodcdfeohhaaGreatDoor
set_option maxRecDepth 100000
set_option maxHeartbeats 16000000
open Go Go.RowKit
theorem jfs2{ts:List (Int×Int)}(h:ts.any nzT=false):ts.filter nzT=[]:=by
 rw[List.filter_eq_nil_iff]
 intro t ht
 have:=List.any_eq_false.1 h t ht
 simpa using this
theorem jfp2 {ts:List (Int×Int)} {K:Nat} (hl:ts.length<=9) (hV:ts.filter nzT=[]\/jb9 (ts.filter nzT) K≠0) (hz:ts.any nzT=true) :
  ∃s,jb3 ts s/\∀more,jba3 ts (10 ^ more)≠0->jba3 ts (10 ^ more)=s:=by
 have hne:ts.filter nzT≠[]:=by
  obtain⟨t,ht,h1⟩:=List.any_eq_true.1 hz
  intro e
  have:t∈ts.filter nzT:=List.mem_filter.2 ⟨ht,h1⟩
  rw[e] at this
  cases this
 rcases hV with h|h
 ·exact absurd h hne
 ·have hs:jb3 ts (jb9 (ts.filter nzT) K):=.inr ⟨hne,h,K,rfl⟩
  exact⟨_,hs,fun more hm=>jfg2 (Nat.pow_pos (by decide)) hs hm⟩
theorem jfp0{ts:List (Int×Int)}{K more:Nat}(hl:ts.length<=9)(hV:ts.filter nzT=[]\/jb9 (ts.filter nzT) K≠0)(hz:ts.any nzT=true)(h0:jba3 ts (10 ^ more)=0):more<5*K+2:=by
 have hne:ts.filter nzT≠[]:=by
  obtain⟨t,ht,h1⟩:=List.any_eq_true.1 hz
  intro e
  have:t∈ts.filter nzT:=List.mem_filter.2 ⟨ht,h1⟩
  rw[e] at this
  cases this
 rcases hV with h|h
 ·exact absurd h hne
 ·rcases Nat.lt_or_ge more (5*K+2)with h1|h1
  ·exact h1
  ·exfalso
   have h2:=jfj7 (D:=10 ^ more) h (jfr5 h1 (Nat.le_trans (List.length_filter_le _ _) hl))
   rw[jdz6] at h2
   exact h2 h0
theorem jfp1 (A:Option Addr) (n c B:Nat) (ts:List (Int×Int)) (w:World) (hx:jas0 w B A n c ts) (hB:B<=w.heap.size)
  (hc:∀t∈ts,-4000000000000000000<=t.1/\t.1<=4000000000000000000) (hr:∀t∈ts,jg8 t.2) (hk:(ts.map (·.2)).Nodup) (hl:ts.length<=9) :
  Calls Tryz.prog 41 #[.slice A n c] w fun e w'=>∃s,e=.returned (.int .i64 s)/\jb3 ts s/\Below w.heap.size w w':=by
 obtain⟨K,hK,hV⟩:=jb3.exists_ ts hc hr hk hl
 have e1:=hx.len
 subst e1
 have HT:=ja0 (fun W (hb:Below w.heap.size w W)=>Rq.below hx (hb.mono hB))
 have HCR:=ja0 (fun t ht=>And.intro (hc t ht) (hr t ht))
 have HZERO:=ja0 (@jfs2 ts)
 have HSC:=ja0 (jfp2 hl hV)
 have HLATE:=ja0 (fun more=>jfp0 (more:=more) hl hV)
 clear hx hc hr hk hV
 obtain⟨M,hM⟩:∃M,M=5*K+2:=⟨_,rfl⟩
 have hMb:M<=2500000000002:=by omega
 rw[<-hM] at HLATE
 clear hK hM
 go_enter Tryz.func41,Tryz.ntmps41
 go_wp2
 go_loopw [3,4] (fun b i W=>∃k:Nat,k<=ts.length/\i=.int .i64 k/\b=.bool ((ts.take k).any nzT)/\Below w.heap.size w W) (fun _ i _=>ts.length-(intOf i).toNat)
 case atStart=>exact⟨0,by omega,rfl,rfl,Below.refl _ _⟩
 case round=>
  obtain⟨k,hk,rfl,rfl,hb⟩:=hrel
  have HB:=ja0 hb
  clear hb
  by_cases hkl:(k:Int)<(ts.length:Int)
  ·have hk1:k<ts.length:=by omega
   obtain⟨ad,rfl,had,ha0,ha1⟩:=jas0.at_ (HT.out _ HB.out) hk1
   have HTS:=ja0 (jc7 ts k hk1)
   generalize ts[k]=t at *
   obtain⟨co,ro⟩:=t
   dsimp only at ha0 ha1
   have HAN:Hid ((ts.take (k+1)).any nzT=((ts.take k).any nzT || !(co==0))):=ja0 (by rw[HTS.out,List.any_append];simp[nzT])
   clear HTS
   generalize (ts.take k).any nzT=b at *
   cases b
   ·go_wp2
    exact⟨⟨k+1,by omega,by go_num,by rw[HAN.out];simp[bne],HB.out⟩,by simp only[intOf];omega⟩
   ·go_wp2
    exact⟨⟨k+1,by omega,by go_num,by rw[HAN.out];simp,HB.out⟩,by simp only[intOf];omega⟩
  ·obtain rfl:k=ts.length:=by omega
   rw[List.take_length]
   cases hz:ts.any nzT
   ·have HZ:=ja0 (HZERO.out hz)
    clear hz HSC HLATE
    go_wp2
    go_ret
    exact⟨0,rfl,.inl ⟨HZ.out,rfl⟩,HB.out⟩
   ·obtain⟨s0,hs0,hsc⟩:=HSC.out hz
    have HS0:=ja0 hs0
    have HSV:=ja0 hsc
    have HLT:=ja0 (fun more=>HLATE.out more hz)
    clear hz hs0 hsc HSC HLATE HZERO
    go_wp2
    go_loopw [5] (fun mv W=>∃more:Nat,mv=.int .i64 more/\more<=M+8/\Below w.heap.size w W) (fun mv _=>M+8-(intOf mv).toNat)
    case atStart=>exact⟨0,rfl,by omega,HB.out⟩
    case round=>
     obtain⟨more,rfl,hmore,hb⟩:=hrel
     clear HB
     have HB:=ja0 hb
     clear hb
     go_upto_region 11 with fail
     obtain⟨W0,hW0⟩:∃W0,W0=(wr.alloc (.cells #[.slice none 0 0,.slice none 0 0] 125)).alloc (.cells #[.slice none 0 0,.slice none 0 0] 125):=⟨_,rfl⟩
     obtain⟨X6,hX6⟩:∃X,X=wr.heap.size:=⟨_,rfl⟩
     obtain⟨X7,hX7⟩:∃X,X=wr.heap.size+1:=⟨_,rfl⟩
     obtain⟨Y,hY⟩:∃Y,Y=wr.heap.size+2:=⟨_,rfl⟩
     obtain⟨D,hD⟩:∃D,D=10 ^ more:=⟨_,rfl⟩
     obtain⟨m,hm⟩:∃m,m=more+101:=⟨_,rfl⟩
     rw[<-hW0,<-hX7,<-hX6]
     have HS0s:Hid (SignS W0 X6 X7 Y ts D 0 0 m ⟨none,0,[]⟩ ⟨none,0,[]⟩ ⟨none,0,[]⟩ ⟨none,0,[]⟩):=ja0 (SignS.start hW0 hX6 hX7 hY ts D m)
     have HB0:Hid (Below w.heap.size w W0):=ja0 (by rw[hW0];exact(HB.out.alloc HB.out.size _).alloc (by have:=HB.out.size;simp;omega) _)
     have hX6w:w.heap.size<=X6:=by have:=HB.out.size;omega
     have hX7w:w.heap.size<=X7:=by omega
     have HD:=ja0 hD
     clear hW0 hX6 hX7 hY hD HB
     go_wp2
     go_loopw [8] (fun iv W=>∃(i:Nat) (a0 a1 b0 b1:DSl),iv=.int .i64 i/\i<=ts.length/\SignS W X6 X7 Y ts D i i m a0 a1 b0 b1/\Below w.heap.size w W) (fun iv _=>ts.length-(intOf iv).toNat)
     case atStart=>exact⟨0,_,_,_,_,rfl,by omega,HS0s.out,HB0.out⟩
     case round=>
      obtain⟨i,a0,a1,b0,b1,rfl,hi,hS,hb⟩:=hrel
      clear HS0s HB0
      have HS:=ja0 hS
      have HB:=ja0 hb
      clear hS hb
      by_cases hil:(i:Int)<(ts.length:Int)
      ·have hi1:i<ts.length:=by omega
       obtain⟨⟨hcb1,hcb2⟩,hrok⟩:=HCR.out ts[i] (List.getElem_mem hi1)
       obtain⟨t,ht⟩:∃t,t=ts[i]:=⟨_,rfl⟩
       rw[<-ht] at hcb1 hcb2 hrok
       have HTI:=ja0 ht
       clear ht
       obtain⟨co,ro⟩:=t
       dsimp only at hcb1 hcb2 hrok
       have hro1:=hrok.1
       have hro2:=hrok.2.1
       clear hrok
       obtain⟨ad0,had0,hadb0,hb0,hb1⟩:=jas0.at_ (HT.out _ HB.out) hi1
       rw[<-HTI.out] at hb0 hb1
       dsimp only at hb0 hb1
       subst had0
       by_cases hneg:co<0
       ·go_upto_region 17 with fail
        refine jj7 (fun W'=>Below wr.drew.heap.size wr.drew W') 16 (fun _=>True) 16 (fun _=>True) (by kernel_rfl) ⟨Below.refl _ _,fun _=>trivial,fun _=>trivial⟩ (fun ja1=>?_)
        have HSd:=ja0 (HS.out.below (Below.drew (Below.refl wr.heap.size wr)))
        have HBd:=ja0 (HB.out.trans ((Below.drew (Below.refl wr.heap.size wr)).mono HB.out.size))
        obtain⟨ad,hadE,hadb,ha0,ha1⟩:=jas0.at_ (HT.out _ HBd.out) hi1
        cases hadE
        replace hadb:ad0.block<wr.drew.heap.size:=by have:=HBd.out.size;omega
        rw[<-HTI.out] at ha0 ha1
        dsimp only at ha0 ha1
        clear HS HB
        generalize wr.drew=Wd at *
        refine ja2 0 rfl (by decide +kernel) (fun _ _ _ h=>h) (by rfl) (v:=?_) ?_ ja1 (fun ja4=>?_)
        rotate_left 1
        focus (intro w' hSw;clear hSw;go_simp;try with_reducible rfl)
        clear ja1
        rename ja8 _ _ _ _ _ _ _=>ja1
        (try simp only[Act.put,lA,lB,lC])
        refine ja2 1 rfl (by decide +kernel) (fun _ _ _ h=>h) (by rfl) (v:=?_) ?_ ja1 (fun ja4=>?_)
        rotate_left 1
        focus (intro w' hSw;clear hSw;go_simp;try with_reducible rfl)
        clear ja1
        rename ja8 _ _ _ _ _ _ _=>ja1
        (try simp only[Act.put,lA,lB,lC])
        refine ja2 2 rfl (by decide +kernel) (fun _ _ _ h=>h) (by rfl) (v:=?_) ?_ ja1 (fun ja4=>?_)
        rotate_left 1
        focus (intro w' hSw;clear hSw;go_simp;try with_reducible rfl)
        clear ja1
        rename ja8 _ _ _ _ _ _ _=>ja1
        (try simp only[Act.put,lA,lB,lC])
        refine ja2 3 rfl (by decide +kernel) (fun _ _ _ h=>h) (by rfl) (v:=?_) ?_ ja1 (fun ja4=>?_)
        rotate_left 1
        focus (intro w' hSw;clear hSw;go_simp;try with_reducible rfl)
        clear ja1
        rename ja8 _ _ _ _ _ _ _=>ja1
        (try simp only[Act.put,lA,lB,lC])
        refine ja2 4 rfl (by decide +kernel) (fun _ _ _ h=>h) (by rfl) (v:=?_) ?_ ja1 (fun ja4=>?_)
        rotate_left 1
        focus (intro w' hSw;obtain⟨hC,hF,hG⟩:=hSw;clear hG;clear hF;have e1:=(hC.cell (p:=ad0.add (i*2)) (by rw[jn2];exact hadb)).trans ha0;clear hC;go_simp;try with_reducible rfl)
        clear ja1
        rename ja8 _ _ _ _ _ _ _=>ja1
        (try simp only[Act.put,lA,lB,lC])
        refine ja2 5 rfl (by decide +kernel) (fun _ _ _ h=>h) (by rfl) (v:=?_) ?_ ja1 (fun ja4=>?_)
        rotate_left 1
        focus (intro w' hSw;clear hSw;go_simp;try with_reducible rfl)
        clear ja1
        rename ja8 _ _ _ _ _ _ _=>ja1
        (try simp only[Act.put,lA,lB,lC])
        refine ja2 6 rfl (by decide +kernel) (fun _ _ _ h=>h) (by rfl) (v:=?_) ?_ ja1 (fun ja4=>?_)
        rotate_left 1
        focus (intro w' hSw;clear hSw;go_simp;try with_reducible rfl)
        clear ja1
        rename ja8 _ _ _ _ _ _ _=>ja1
        (try simp only[Act.put,lA,lB,lC])
        refine ja2 7 rfl (by decide +kernel) (fun _ _ _ h=>h) (by rfl) (v:=?_) ?_ ja1 (fun ja4=>?_)
        rotate_left 1
        focus (intro w' hSw;clear hSw;go_simp;try with_reducible rfl)
        clear ja1
        rename ja8 _ _ _ _ _ _ _=>ja1
        (try simp only[Act.put,lA,lB,lC])
        refine ja2 8 rfl (by decide +kernel) (fun _ _ _ h=>h) (by rfl) (v:=?_) ?_ ja1 (fun ja4=>?_)
        rotate_left 1
        focus (intro w' hSw;clear hSw;go_simp;try with_reducible rfl)
        clear ja1
        rename ja8 _ _ _ _ _ _ _=>ja1
        (try simp only[Act.put,lA,lB,lC])
        refine ja2 9 rfl (by decide +kernel) (fun _ _ _ h=>h) (by rfl) (v:=?_) ?_ ja1 (fun ja4=>?_)
        rotate_left 1
        focus (intro w' hSw;obtain⟨hC,hF,hG⟩:=hSw;clear hG;clear hF;have e1:=(hC.cell (p:=⟨(ad0.add (i*2)).block,(ad0.add (i*2)).off+1,none⟩) (by show(ad0.add (i*2)).block<_;rw[jn2];exact hadb)).trans ha1;clear hC;go_simp;try with_reducible rfl)
        clear ja1
        rename ja8 _ _ _ _ _ _ _=>ja1
        (try simp only[Act.put,lA,lB,lC])
        refine ja2 11 rfl (by decide +kernel) (fun _ _ _ h=>h) (by rfl) (v:=?_) ?_ ja1 (fun ja4=>?_)
        rotate_left 1
        focus (intro w' hSw;clear hSw;go_simp;try with_reducible rfl)
        clear ja1
        rename ja8 _ _ _ _ _ _ _=>ja1
        (try simp only[Act.put,lA,lB,lC])
        refine jb5 10 rfl (by decide +kernel) (fun K hK=>?_)
        go_simp
        have HC:=ja0 (jfa8 co ro Wd (by omega) (by omega))
        go_wp2_with (first
         | (go_at_call 86;refine HC.out.mono ?_;rintro e w10 ⟨nl,A10,c10,rfl,hq,hd,hv,he,hlq,hb⟩;have HQ:=ja0 hq;have HQD:=ja0 (And.intro hd hv);have HB10:=ja0 hb;clear hq hd hv hb))
        refine hK.out _ _ ⟨HB10.out,fun _=>trivial,fun _=>trivial⟩ (fun ja1=>?_)
        clear hK K HC
        (try simp only[Act.put,lA,lB,lC])
        refine jb5 12 rfl (by decide +kernel) (fun K hK=>?_)
        go_simp
        have HC:=ja0 (jfc2 A10 nl.length c10 w10.heap.size nl more w10 HQ.out (Nat.le_refl _) HQD.out.1 he (by omega))
        have HB12:Hid (∀w12,Below w10.heap.size w10 w12->Below Wd.heap.size Wd w12):=ja0 (fun w12 h=>HB10.out.trans (h.mono HB10.out.size))
        go_wp2_with (first
         | (go_at_call 85;refine HC.out.mono ?_;rintro e w12 ⟨R,T,A12,c12,rfl,ho,hd,hlr,hsq,hb⟩;have HO:=ja0 ho;have HSQ:=ja0 hsq;have HDR:=ja0 hd;have HBB:=ja0 (HB12.out w12 hb);obtain⟨ex,hex⟩:∃b,b=decide (valD T=0):=⟨_,rfl⟩;rw[<-hex];have HEX:=ja0 hex;have hRl:R.length<=more+100:=(by omega);clear ho hd hsq hb hex hlr))
        refine hK.out _ _ ⟨HBB.out,fun _=>trivial,fun _=>trivial⟩ (fun ja1=>?_)
        clear hK K HC
        (try simp only[Act.put,lA,lB,lC])
        refine ja2 13 rfl (by decide +kernel) (fun _ _ _ h=>h) (by rfl) (v:=?_) ?_ ja1 (fun ja4=>?_)
        rotate_left 1
        focus (intro w' hSw;clear hSw;go_simp;try with_reducible rfl)
        clear ja1
        rename ja8 _ _ _ _ _ _ _=>ja1
        (try simp only[Act.put,lA,lB,lC])
        refine ja2 14 rfl (by decide +kernel) (fun _ _ _ h=>h) (by rfl) (v:=?_) ?_ ja1 (fun ja4=>?_)
        rotate_left 1
        focus (intro w' hSw;clear hSw;go_simp;try with_reducible rfl)
        clear ja1
        rename ja8 _ _ _ _ _ _ _=>ja1
        (try simp only[Act.put,lA,lB,lC])
        refine ja2 15 rfl (by decide +kernel) (fun _ _ _ h=>h) (by rfl) (v:=?_) ?_ ja1 (fun ja4=>?_)
        rotate_left 1
        focus (intro w' hSw;clear hSw;go_simp;try with_reducible rfl)
        clear ja1
        rename ja8 _ _ _ _ _ _ _=>ja1
        (try simp only[Act.put,lA,lB,lC])
        refine jb5 16 rfl (by decide +kernel) (fun K hK=>?_)
        go_simp
        refine hK.out _ _ ⟨HBB.out,fun h=>absurd h (by decide +kernel),fun h=>absurd h (by decide +kernel)⟩ (fun ja1=>?_)
        clear hK K
        (try simp only[Act.put,lA,lB,lC])
        refine ja2 17 rfl (by decide +kernel) (fun _ _ _ h=>h) (by rfl) (v:=?_) ?_ ja1 (fun ja4=>?_)
        rotate_left 1
        focus (intro w' hSw;clear hSw;go_simp;try with_reducible rfl)
        clear ja1
        rename ja8 _ _ _ _ _ _ _=>ja1
        (try simp only[Act.put,lA,lB,lC])
        refine jf8 (by decide +kernel) ?_
        clear ja1 ha0 ha1 hadb
        have HRT:=ja0 (jfh0 (t:=(co,ro)) (more:=more) (by dsimp only;omega) (HQD.out.2▸HSQ.out))
        rw[<-HD.out] at HRT
        have HOK0:Hid (DOk w12 Y ⟨A12,c12,R⟩ (lowS (co,ro) D) (more+100)):=ja0 ⟨World.ownsRow.mono HO.out (Nat.le_trans HSd.out.hY HB10.out.size),HDR.out,HRT.out.1,hRl⟩
        have HS:=ja0 (HSd.out.below HBB.out)
        have HB:=ja0 (HBd.out.trans (HBB.out.mono HBd.out.size))
        have HTOP:Hid ((ex=true->valD R=(topS (co,ro) D:Int))/\(ex=false->valD R+1=(topS (co,ro) D:Int))):=ja0 (by
         have h:=HRT.out.2
         rw[HEX.out]
         constructor
         ·intro e
          rw[if_pos (of_decide_eq_true e)] at h;exact h
         ·intro e
          rw[if_neg (of_decide_eq_false e)] at h;exact h)
        clear HQ HQD HB10 HO HSQ HDR HBB HEX HSd HBd HRT HB12 he hlq
        obtain⟨x0,x1,xf0,xf1⟩:=HS.out.b6.two
        unfold DSl.v at x0 x1
        go_upto_region 19 with(first
         | (go_at_call 87;refine(jbb1 a1.A a1.l.length a1.c a1.l A12 R.length c12 R w12.heap.size w12 (DOk.read HS.out.oa1) (DOk.read HOK0.out) (Nat.le_refl _) HS.out.oa1.dig HOK0.out.dig (by have:=HS.out.oa1.len;omega) (by omega)).mono ?_;rintro e w18 ⟨L18,A18,c18,rfl,ho18,hd18,hv18,hl18,hb18⟩;obtain⟨q0,q1,qf0,qf1⟩:=(HS.out.b6.below hb18 HS.out.b6.lt).two;have HO18:=ja0 ho18;have HD18:=ja0 (And.intro hd18 (And.intro hv18 hl18));have HB18:=ja0 hb18;clear ho18 hd18 hv18 hl18 hb18))
        clear x0 x1 xf0 xf1 q0 q1 qf0 qf1
        have HSa:=ja0 (HS.out.below HB18.out)
        have HBa:=ja0 (HB.out.trans (HB18.out.mono HB.out.size))
        have HOKa:=ja0 (HOK0.out.below HB18.out)
        have HN18:Hid (DOk w18 Y ⟨A18,c18,L18⟩ (jdm2 (ts.take i) D+lowS ts[i] D) (m+(i+1))):=ja0 ⟨World.ownsRow.mono HO18.out HS.out.hY,HD18.out.1,by rw[HD18.out.2.1,HS.out.oa1.val,HOK0.out.val,<-HTI.out,Int.natCast_add],by have h1:=HD18.out.2.2;have h2:=HS.out.oa1.len;show L18.length<=_;(try dsimp only at h1);omega⟩
        have HS1:=ja0 (HSa.out.least1 hi1 (by rw[<-HTI.out];show co<0;omega) HN18.out)
        have HB1:=ja0 (HBa.out.setCell (p:=⟨X6,1,none⟩) (by show _<=X6;omega) (DSl.v ⟨A18,c18,L18⟩))
        have HOK1:=ja0 (HOKa.out.far (p:=⟨X6,1,none⟩) HS.out.h6 (DSl.v ⟨A18,c18,L18⟩))
        clear HS HB HOK0 HSa HBa HOKa HN18 HO18 HD18 HB18
        unfold DSl.v at HS1 HB1 HOK1
        dsimp only at HS1 HB1 HOK1
        generalize w18.setCell ⟨X6,1,none⟩ (.slice A18 L18.length c18)=V at *
        cases ex
        ·have HW:Hid (zh7 (V.alloc (.cells #[.int .i64 1] 3)) (V.alloc (.cells #[.int .i64 1] 3)).heap.size (some ⟨V.heap.size,0,none⟩) 1 1 [1]):=ja0 (DRow.read (jdy0 V.heap.size V 1 (Nat.le_refl _)))
         have HBz:=ja0 ((Below.refl V.heap.size V).alloc (Nat.le_refl _) (.cells #[.int .i64 1] 3))
         have HSz:=ja0 (HS1.out.below HBz.out)
         have HOKz:=ja0 (HOK1.out.below HBz.out)
         have HB1z:=ja0 (HB1.out.trans (HBz.out.mono HB1.out.size))
         clear HS1 HOK1 HB1 HBz
         go_upto_region 21 with(first
          | (go_at_call 87;refine(jbb1 A12 R.length c12 R (some ⟨V.heap.size,0,none⟩) 1 1 [1] (V.alloc (.cells #[.int .i64 1] 3)).heap.size (V.alloc (.cells #[.int .i64 1] 3)) (DOk.read HOKz.out) HW.out (Nat.le_refl _) HOKz.out.dig (Dig.nil.cons (by omega)) (by omega) (by omega)).mono ?_;rintro e w20 ⟨L20,A20,c20,rfl,ho20,hd20,hv20,hl20,hb20⟩;have HO20:=ja0 ho20;have HD20:=ja0 (And.intro hd20 (And.intro hv20 hl20));have HB20:=ja0 hb20;clear ho20 hd20 hv20 hl20 hb20))
         have HS1:=ja0 (HSz.out.below HB20.out)
         have HB1:=ja0 (HB1z.out.trans (HB20.out.mono HB1z.out.size))
         have HN20:Hid (DOk w20 Y ⟨A20,c20,L20⟩ (topS (co,ro) D) (more+101)):=ja0 ⟨World.ownsRow.mono HO20.out HSz.out.hY,HD20.out.1,by rw[HD20.out.2.1,<-HTOP.out.2 (by first|rfl|trivial)];simp[valD],by have h1:=HD20.out.2.2;show L20.length<=_;omega⟩
         clear HSz HOKz HB1z HW HO20 HD20 HB20
         obtain⟨x0,x1,xf0,xf1⟩:=HS1.out.b7.two
         unfold DSl.v at x0 x1
         go_wp2_with (first
          | (go_at_call 87;refine(jbb1 b1.A b1.l.length b1.c b1.l A20 L20.length c20 L20 w20.heap.size w20 (DOk.read HS1.out.ob1) (DOk.read HN20.out) (Nat.le_refl _) HS1.out.ob1.dig HN20.out.dig (by have:=HS1.out.ob1.len;omega) (by have:=HN20.out.len;dsimp only at this;omega)).mono ?_;rintro e w21 ⟨L21,A21,c21,rfl,ho21,hd21,hv21,hl21,hb21⟩;obtain⟨q0,q1,qf0,qf1⟩:=(HS1.out.b7.below hb21 HS1.out.b7.lt).two;have HO21:=ja0 ho21;have HD21:=ja0 (And.intro hd21 (And.intro hv21 hl21));have HB21:=ja0 hb21;clear ho21 hd21 hv21 hl21 hb21))
         have HSb:=ja0 (HS1.out.below HB21.out)
         have HBb:=ja0 (HB1.out.trans (HB21.out.mono HB1.out.size))
         have HN21:Hid (DOk w21 Y ⟨A21,c21,L21⟩ (jdp5 (ts.take i) D+topS ts[i] D) (m+(i+1))):=ja0 ⟨World.ownsRow.mono HO21.out HS1.out.hY,HD21.out.1,by rw[HD21.out.2.1,HS1.out.ob1.val,<-HTI.out,Int.natCast_add];congr 1;exact HN20.out.val,by have h1:=HD21.out.2.2;have h2:=HS1.out.ob1.len;have h3:=HN20.out.len;show L21.length<=_;(try dsimp only at h1 h3);omega⟩
         have HS2:=ja0 (HSb.out.most1 hi1 (by rw[<-HTI.out];show co<0;omega) HN21.out)
         have HB2:=ja0 (HBb.out.setCell (p:=⟨X7,1,none⟩) (by show _<=X7;omega) (DSl.v ⟨A21,c21,L21⟩))
         exact⟨⟨i+1,a0,⟨A18,c18,L18⟩,b0,⟨A21,c21,L21⟩,by go_num,by omega,HS2.out,HB2.out⟩,by simp only[intOf];omega⟩
        ·go_upto_region 21 with fail
         obtain⟨x0,x1,xf0,xf1⟩:=HS1.out.b7.two
         unfold DSl.v at x0 x1
         go_wp2_with (first
          | (go_at_call 87;refine(jbb1 b1.A b1.l.length b1.c b1.l A12 R.length c12 R V.heap.size V (DOk.read HS1.out.ob1) (DOk.read HOK1.out) (Nat.le_refl _) HS1.out.ob1.dig HOK1.out.dig (by have:=HS1.out.ob1.len;omega) (by have:=HOK1.out.len;dsimp only at this;omega)).mono ?_;rintro e w21 ⟨L21,A21,c21,rfl,ho21,hd21,hv21,hl21,hb21⟩;obtain⟨q0,q1,qf0,qf1⟩:=(HS1.out.b7.below hb21 HS1.out.b7.lt).two;have HO21:=ja0 ho21;have HD21:=ja0 (And.intro hd21 (And.intro hv21 hl21));have HB21:=ja0 hb21;clear ho21 hd21 hv21 hl21 hb21))
         have HSb:=ja0 (HS1.out.below HB21.out)
         have HBb:=ja0 (HB1.out.trans (HB21.out.mono HB1.out.size))
         have HN21:Hid (DOk w21 Y ⟨A21,c21,L21⟩ (jdp5 (ts.take i) D+topS ts[i] D) (m+(i+1))):=ja0 ⟨World.ownsRow.mono HO21.out HS1.out.hY,HD21.out.1,by rw[HD21.out.2.1,HS1.out.ob1.val,<-HTI.out,Int.natCast_add];congr 1;exact HTOP.out.1 (by first|rfl|trivial),by have h1:=HD21.out.2.2;have h2:=HS1.out.ob1.len;have h3:=HOK1.out.len;show L21.length<=_;(try dsimp only at h1 h3);omega⟩
         have HS2:=ja0 (HSb.out.most1 hi1 (by rw[<-HTI.out];show co<0;omega) HN21.out)
         have HB2:=ja0 (HBb.out.setCell (p:=⟨X7,1,none⟩) (by show _<=X7;omega) (DSl.v ⟨A21,c21,L21⟩))
         exact⟨⟨i+1,a0,⟨A18,c18,L18⟩,b0,⟨A21,c21,L21⟩,by go_num,by omega,HS2.out,HB2.out⟩,by simp only[intOf];omega⟩
       ·go_upto_region 17 with fail
        refine jj7 (fun W'=>Below wr.drew.heap.size wr.drew W') 16 (fun _=>True) 16 (fun _=>True) (by kernel_rfl) ⟨Below.refl _ _,fun _=>trivial,fun _=>trivial⟩ (fun ja1=>?_)
        have HSd:=ja0 (HS.out.below (Below.drew (Below.refl wr.heap.size wr)))
        have HBd:=ja0 (HB.out.trans ((Below.drew (Below.refl wr.heap.size wr)).mono HB.out.size))
        obtain⟨ad,hadE,hadb,ha0,ha1⟩:=jas0.at_ (HT.out _ HBd.out) hi1
        cases hadE
        replace hadb:ad0.block<wr.drew.heap.size:=by have:=HBd.out.size;omega
        rw[<-HTI.out] at ha0 ha1
        dsimp only at ha0 ha1
        clear HS HB
        generalize wr.drew=Wd at *
        refine ja2 0 rfl (by decide +kernel) (fun _ _ _ h=>h) (by rfl) (v:=?_) ?_ ja1 (fun ja4=>?_)
        rotate_left 1
        focus (intro w' hSw;clear hSw;go_simp;try with_reducible rfl)
        clear ja1
        rename ja8 _ _ _ _ _ _ _=>ja1
        (try simp only[Act.put,lA,lB,lC])
        refine ja2 1 rfl (by decide +kernel) (fun _ _ _ h=>h) (by rfl) (v:=?_) ?_ ja1 (fun ja4=>?_)
        rotate_left 1
        focus (intro w' hSw;clear hSw;go_simp;try with_reducible rfl)
        clear ja1
        rename ja8 _ _ _ _ _ _ _=>ja1
        (try simp only[Act.put,lA,lB,lC])
        refine ja2 2 rfl (by decide +kernel) (fun _ _ _ h=>h) (by rfl) (v:=?_) ?_ ja1 (fun ja4=>?_)
        rotate_left 1
        focus (intro w' hSw;clear hSw;go_simp;try with_reducible rfl)
        clear ja1
        rename ja8 _ _ _ _ _ _ _=>ja1
        (try simp only[Act.put,lA,lB,lC])
        refine ja2 3 rfl (by decide +kernel) (fun _ _ _ h=>h) (by rfl) (v:=?_) ?_ ja1 (fun ja4=>?_)
        rotate_left 1
        focus (intro w' hSw;clear hSw;go_simp;try with_reducible rfl)
        clear ja1
        rename ja8 _ _ _ _ _ _ _=>ja1
        (try simp only[Act.put,lA,lB,lC])
        refine ja2 4 rfl (by decide +kernel) (fun _ _ _ h=>h) (by rfl) (v:=?_) ?_ ja1 (fun ja4=>?_)
        rotate_left 1
        focus (intro w' hSw;obtain⟨hC,hF,hG⟩:=hSw;clear hG;clear hF;have e1:=(hC.cell (p:=ad0.add (i*2)) (by rw[jn2];exact hadb)).trans ha0;clear hC;go_simp;try with_reducible rfl)
        clear ja1
        rename ja8 _ _ _ _ _ _ _=>ja1
        (try simp only[Act.put,lA,lB,lC])
        refine ja2 5 rfl (by decide +kernel) (fun _ _ _ h=>h) (by rfl) (v:=?_) ?_ ja1 (fun ja4=>?_)
        rotate_left 1
        focus (intro w' hSw;clear hSw;go_simp;try with_reducible rfl)
        clear ja1
        rename ja8 _ _ _ _ _ _ _=>ja1
        (try simp only[Act.put,lA,lB,lC])
        refine ja2 6 rfl (by decide +kernel) (fun _ _ _ h=>h) (by rfl) (v:=?_) ?_ ja1 (fun ja4=>?_)
        rotate_left 1
        focus (intro w' hSw;clear hSw;go_simp;try with_reducible rfl)
        clear ja1
        rename ja8 _ _ _ _ _ _ _=>ja1
        (try simp only[Act.put,lA,lB,lC])
        refine ja2 7 rfl (by decide +kernel) (fun _ _ _ h=>h) (by rfl) (v:=?_) ?_ ja1 (fun ja4=>?_)
        rotate_left 1
        focus (intro w' hSw;clear hSw;go_simp;try with_reducible rfl)
        clear ja1
        rename ja8 _ _ _ _ _ _ _=>ja1
        (try simp only[Act.put,lA,lB,lC])
        refine ja2 8 rfl (by decide +kernel) (fun _ _ _ h=>h) (by rfl) (v:=?_) ?_ ja1 (fun ja4=>?_)
        rotate_left 1
        focus (intro w' hSw;clear hSw;go_simp;try with_reducible rfl)
        clear ja1
        rename ja8 _ _ _ _ _ _ _=>ja1
        (try simp only[Act.put,lA,lB,lC])
        refine ja2 9 rfl (by decide +kernel) (fun _ _ _ h=>h) (by rfl) (v:=?_) ?_ ja1 (fun ja4=>?_)
        rotate_left 1
        focus (intro w' hSw;obtain⟨hC,hF,hG⟩:=hSw;clear hG;clear hF;have e1:=(hC.cell (p:=⟨(ad0.add (i*2)).block,(ad0.add (i*2)).off+1,none⟩) (by show(ad0.add (i*2)).block<_;rw[jn2];exact hadb)).trans ha1;clear hC;go_simp;try with_reducible rfl)
        clear ja1
        rename ja8 _ _ _ _ _ _ _=>ja1
        (try simp only[Act.put,lA,lB,lC])
        refine ja2 11 rfl (by decide +kernel) (fun _ _ _ h=>h) (by rfl) (v:=?_) ?_ ja1 (fun ja4=>?_)
        rotate_left 1
        focus (intro w' hSw;clear hSw;go_simp;try with_reducible rfl)
        clear ja1
        rename ja8 _ _ _ _ _ _ _=>ja1
        (try simp only[Act.put,lA,lB,lC])
        refine jb5 10 rfl (by decide +kernel) (fun K hK=>?_)
        go_simp
        have HC:=ja0 (jfa8 co ro Wd (by omega) (by omega))
        go_wp2_with (first
         | (go_at_call 86;refine HC.out.mono ?_;rintro e w10 ⟨nl,A10,c10,rfl,hq,hd,hv,he,hlq,hb⟩;have HQ:=ja0 hq;have HQD:=ja0 (And.intro hd hv);have HB10:=ja0 hb;clear hq hd hv hb))
        refine hK.out _ _ ⟨HB10.out,fun _=>trivial,fun _=>trivial⟩ (fun ja1=>?_)
        clear hK K HC
        (try simp only[Act.put,lA,lB,lC])
        refine jb5 12 rfl (by decide +kernel) (fun K hK=>?_)
        go_simp
        have HC:=ja0 (jfc2 A10 nl.length c10 w10.heap.size nl more w10 HQ.out (Nat.le_refl _) HQD.out.1 he (by omega))
        have HB12:Hid (∀w12,Below w10.heap.size w10 w12->Below Wd.heap.size Wd w12):=ja0 (fun w12 h=>HB10.out.trans (h.mono HB10.out.size))
        go_wp2_with (first
         | (go_at_call 85;refine HC.out.mono ?_;rintro e w12 ⟨R,T,A12,c12,rfl,ho,hd,hlr,hsq,hb⟩;have HO:=ja0 ho;have HSQ:=ja0 hsq;have HDR:=ja0 hd;have HBB:=ja0 (HB12.out w12 hb);obtain⟨ex,hex⟩:∃b,b=decide (valD T=0):=⟨_,rfl⟩;rw[<-hex];have HEX:=ja0 hex;have hRl:R.length<=more+100:=(by omega);clear ho hd hsq hb hex hlr))
        refine hK.out _ _ ⟨HBB.out,fun _=>trivial,fun _=>trivial⟩ (fun ja1=>?_)
        clear hK K HC
        (try simp only[Act.put,lA,lB,lC])
        refine ja2 13 rfl (by decide +kernel) (fun _ _ _ h=>h) (by rfl) (v:=?_) ?_ ja1 (fun ja4=>?_)
        rotate_left 1
        focus (intro w' hSw;clear hSw;go_simp;try with_reducible rfl)
        clear ja1
        rename ja8 _ _ _ _ _ _ _=>ja1
        (try simp only[Act.put,lA,lB,lC])
        refine ja2 14 rfl (by decide +kernel) (fun _ _ _ h=>h) (by rfl) (v:=?_) ?_ ja1 (fun ja4=>?_)
        rotate_left 1
        focus (intro w' hSw;clear hSw;go_simp;try with_reducible rfl)
        clear ja1
        rename ja8 _ _ _ _ _ _ _=>ja1
        (try simp only[Act.put,lA,lB,lC])
        refine ja2 15 rfl (by decide +kernel) (fun _ _ _ h=>h) (by rfl) (v:=?_) ?_ ja1 (fun ja4=>?_)
        rotate_left 1
        focus (intro w' hSw;clear hSw;go_simp;try with_reducible rfl)
        clear ja1
        rename ja8 _ _ _ _ _ _ _=>ja1
        (try simp only[Act.put,lA,lB,lC])
        refine jb5 16 rfl (by decide +kernel) (fun K hK=>?_)
        go_simp
        refine hK.out _ _ ⟨HBB.out,fun h=>absurd h (by decide +kernel),fun h=>absurd h (by decide +kernel)⟩ (fun ja1=>?_)
        clear hK K
        (try simp only[Act.put,lA,lB,lC])
        refine ja2 17 rfl (by decide +kernel) (fun _ _ _ h=>h) (by rfl) (v:=?_) ?_ ja1 (fun ja4=>?_)
        rotate_left 1
        focus (intro w' hSw;clear hSw;go_simp;try with_reducible rfl)
        clear ja1
        rename ja8 _ _ _ _ _ _ _=>ja1
        (try simp only[Act.put,lA,lB,lC])
        refine jf8 (by decide +kernel) ?_
        clear ja1 ha0 ha1 hadb
        have HRT:=ja0 (jfh0 (t:=(co,ro)) (more:=more) (by dsimp only;omega) (HQD.out.2▸HSQ.out))
        rw[<-HD.out] at HRT
        have HOK0:Hid (DOk w12 Y ⟨A12,c12,R⟩ (lowS (co,ro) D) (more+100)):=ja0 ⟨World.ownsRow.mono HO.out (Nat.le_trans HSd.out.hY HB10.out.size),HDR.out,HRT.out.1,hRl⟩
        have HS:=ja0 (HSd.out.below HBB.out)
        have HB:=ja0 (HBd.out.trans (HBB.out.mono HBd.out.size))
        have HTOP:Hid ((ex=true->valD R=(topS (co,ro) D:Int))/\(ex=false->valD R+1=(topS (co,ro) D:Int))):=ja0 (by
         have h:=HRT.out.2
         rw[HEX.out]
         constructor
         ·intro e
          rw[if_pos (of_decide_eq_true e)] at h;exact h
         ·intro e
          rw[if_neg (of_decide_eq_false e)] at h;exact h)
        clear HQ HQD HB10 HO HSQ HDR HBB HEX HSd HBd HRT HB12 he hlq
        obtain⟨x0,x1,xf0,xf1⟩:=HS.out.b6.two
        unfold DSl.v at x0 x1
        go_upto_region 19 with(first
         | (go_at_call 87;refine(jbb1 a0.A a0.l.length a0.c a0.l A12 R.length c12 R w12.heap.size w12 (DOk.read HS.out.oa0) (DOk.read HOK0.out) (Nat.le_refl _) HS.out.oa0.dig HOK0.out.dig (by have:=HS.out.oa0.len;omega) (by omega)).mono ?_;rintro e w18 ⟨L18,A18,c18,rfl,ho18,hd18,hv18,hl18,hb18⟩;obtain⟨q0,q1,qf0,qf1⟩:=(HS.out.b6.below hb18 HS.out.b6.lt).two;have HO18:=ja0 ho18;have HD18:=ja0 (And.intro hd18 (And.intro hv18 hl18));have HB18:=ja0 hb18;clear ho18 hd18 hv18 hl18 hb18))
        clear x0 x1 xf0 xf1 q0 q1 qf0 qf1
        have HSa:=ja0 (HS.out.below HB18.out)
        have HBa:=ja0 (HB.out.trans (HB18.out.mono HB.out.size))
        have HOKa:=ja0 (HOK0.out.below HB18.out)
        have HN18:Hid (DOk w18 Y ⟨A18,c18,L18⟩ (jdv2 (ts.take i) D+lowS ts[i] D) (m+(i+1))):=ja0 ⟨World.ownsRow.mono HO18.out HS.out.hY,HD18.out.1,by rw[HD18.out.2.1,HS.out.oa0.val,HOK0.out.val,<-HTI.out,Int.natCast_add],by have h1:=HD18.out.2.2;have h2:=HS.out.oa0.len;show L18.length<=_;(try dsimp only at h1);omega⟩
        have HS1:=ja0 (HSa.out.least0 hi1 (by rw[<-HTI.out];show ¬co<0;omega) HN18.out)
        have HB1:=ja0 (HBa.out.setCell (p:=⟨X6,0,none⟩) (by show _<=X6;omega) (DSl.v ⟨A18,c18,L18⟩))
        have HOK1:=ja0 (HOKa.out.far (p:=⟨X6,0,none⟩) HS.out.h6 (DSl.v ⟨A18,c18,L18⟩))
        clear HS HB HOK0 HSa HBa HOKa HN18 HO18 HD18 HB18
        unfold DSl.v at HS1 HB1 HOK1
        dsimp only at HS1 HB1 HOK1
        generalize w18.setCell ⟨X6,0,none⟩ (.slice A18 L18.length c18)=V at *
        cases ex
        ·have HW:Hid (zh7 (V.alloc (.cells #[.int .i64 1] 3)) (V.alloc (.cells #[.int .i64 1] 3)).heap.size (some ⟨V.heap.size,0,none⟩) 1 1 [1]):=ja0 (DRow.read (jdy0 V.heap.size V 1 (Nat.le_refl _)))
         have HBz:=ja0 ((Below.refl V.heap.size V).alloc (Nat.le_refl _) (.cells #[.int .i64 1] 3))
         have HSz:=ja0 (HS1.out.below HBz.out)
         have HOKz:=ja0 (HOK1.out.below HBz.out)
         have HB1z:=ja0 (HB1.out.trans (HBz.out.mono HB1.out.size))
         clear HS1 HOK1 HB1 HBz
         go_upto_region 21 with(first
          | (go_at_call 87;refine(jbb1 A12 R.length c12 R (some ⟨V.heap.size,0,none⟩) 1 1 [1] (V.alloc (.cells #[.int .i64 1] 3)).heap.size (V.alloc (.cells #[.int .i64 1] 3)) (DOk.read HOKz.out) HW.out (Nat.le_refl _) HOKz.out.dig (Dig.nil.cons (by omega)) (by omega) (by omega)).mono ?_;rintro e w20 ⟨L20,A20,c20,rfl,ho20,hd20,hv20,hl20,hb20⟩;have HO20:=ja0 ho20;have HD20:=ja0 (And.intro hd20 (And.intro hv20 hl20));have HB20:=ja0 hb20;clear ho20 hd20 hv20 hl20 hb20))
         have HS1:=ja0 (HSz.out.below HB20.out)
         have HB1:=ja0 (HB1z.out.trans (HB20.out.mono HB1z.out.size))
         have HN20:Hid (DOk w20 Y ⟨A20,c20,L20⟩ (topS (co,ro) D) (more+101)):=ja0 ⟨World.ownsRow.mono HO20.out HSz.out.hY,HD20.out.1,by rw[HD20.out.2.1,<-HTOP.out.2 (by first|rfl|trivial)];simp[valD],by have h1:=HD20.out.2.2;show L20.length<=_;omega⟩
         clear HSz HOKz HB1z HW HO20 HD20 HB20
         obtain⟨x0,x1,xf0,xf1⟩:=HS1.out.b7.two
         unfold DSl.v at x0 x1
         go_wp2_with (first
          | (go_at_call 87;refine(jbb1 b0.A b0.l.length b0.c b0.l A20 L20.length c20 L20 w20.heap.size w20 (DOk.read HS1.out.ob0) (DOk.read HN20.out) (Nat.le_refl _) HS1.out.ob0.dig HN20.out.dig (by have:=HS1.out.ob0.len;omega) (by have:=HN20.out.len;dsimp only at this;omega)).mono ?_;rintro e w21 ⟨L21,A21,c21,rfl,ho21,hd21,hv21,hl21,hb21⟩;obtain⟨q0,q1,qf0,qf1⟩:=(HS1.out.b7.below hb21 HS1.out.b7.lt).two;have HO21:=ja0 ho21;have HD21:=ja0 (And.intro hd21 (And.intro hv21 hl21));have HB21:=ja0 hb21;clear ho21 hd21 hv21 hl21 hb21))
         have HSb:=ja0 (HS1.out.below HB21.out)
         have HBb:=ja0 (HB1.out.trans (HB21.out.mono HB1.out.size))
         have HN21:Hid (DOk w21 Y ⟨A21,c21,L21⟩ (jdk1 (ts.take i) D+topS ts[i] D) (m+(i+1))):=ja0 ⟨World.ownsRow.mono HO21.out HS1.out.hY,HD21.out.1,by rw[HD21.out.2.1,HS1.out.ob0.val,<-HTI.out,Int.natCast_add];congr 1;exact HN20.out.val,by have h1:=HD21.out.2.2;have h2:=HS1.out.ob0.len;have h3:=HN20.out.len;show L21.length<=_;(try dsimp only at h1 h3);omega⟩
         have HS2:=ja0 (HSb.out.most0 hi1 (by rw[<-HTI.out];show ¬co<0;omega) HN21.out)
         have HB2:=ja0 (HBb.out.setCell (p:=⟨X7,0,none⟩) (by show _<=X7;omega) (DSl.v ⟨A21,c21,L21⟩))
         exact⟨⟨i+1,⟨A18,c18,L18⟩,a1,⟨A21,c21,L21⟩,b1,by go_num,by omega,HS2.out,HB2.out⟩,by simp only[intOf];omega⟩
        ·go_upto_region 21 with fail
         obtain⟨x0,x1,xf0,xf1⟩:=HS1.out.b7.two
         unfold DSl.v at x0 x1
         go_wp2_with (first
          | (go_at_call 87;refine(jbb1 b0.A b0.l.length b0.c b0.l A12 R.length c12 R V.heap.size V (DOk.read HS1.out.ob0) (DOk.read HOK1.out) (Nat.le_refl _) HS1.out.ob0.dig HOK1.out.dig (by have:=HS1.out.ob0.len;omega) (by have:=HOK1.out.len;dsimp only at this;omega)).mono ?_;rintro e w21 ⟨L21,A21,c21,rfl,ho21,hd21,hv21,hl21,hb21⟩;obtain⟨q0,q1,qf0,qf1⟩:=(HS1.out.b7.below hb21 HS1.out.b7.lt).two;have HO21:=ja0 ho21;have HD21:=ja0 (And.intro hd21 (And.intro hv21 hl21));have HB21:=ja0 hb21;clear ho21 hd21 hv21 hl21 hb21))
         have HSb:=ja0 (HS1.out.below HB21.out)
         have HBb:=ja0 (HB1.out.trans (HB21.out.mono HB1.out.size))
         have HN21:Hid (DOk w21 Y ⟨A21,c21,L21⟩ (jdk1 (ts.take i) D+topS ts[i] D) (m+(i+1))):=ja0 ⟨World.ownsRow.mono HO21.out HS1.out.hY,HD21.out.1,by rw[HD21.out.2.1,HS1.out.ob0.val,<-HTI.out,Int.natCast_add];congr 1;exact HTOP.out.1 (by first|rfl|trivial),by have h1:=HD21.out.2.2;have h2:=HS1.out.ob0.len;have h3:=HOK1.out.len;show L21.length<=_;(try dsimp only at h1 h3);omega⟩
         have HS2:=ja0 (HSb.out.most0 hi1 (by rw[<-HTI.out];show ¬co<0;omega) HN21.out)
         have HB2:=ja0 (HBb.out.setCell (p:=⟨X7,0,none⟩) (by show _<=X7;omega) (DSl.v ⟨A21,c21,L21⟩))
         exact⟨⟨i+1,⟨A18,c18,L18⟩,a1,⟨A21,c21,L21⟩,b1,by go_num,by omega,HS2.out,HB2.out⟩,by simp only[intOf];omega⟩
      ·obtain rfl:i=ts.length:=by omega
       obtain⟨v1,v2,v3,v4⟩:=HS.out.all
       have HV:=ja0 (And.intro v1 (And.intro v2 (And.intro v3 v4)))
       have HLEN:=ja0 (And.intro HS.out.oa0.len (And.intro HS.out.oa1.len (And.intro HS.out.ob0.len HS.out.ob1.len)))
       clear v1 v2 v3 v4
       obtain⟨x0,x1,xf0,xf1⟩:=HS.out.b6.two
       obtain⟨y0,y1,yf0,yf1⟩:=HS.out.b7.two
       have HAL1:=ja0 (jby2 b1.A b1.l.length b1.c b1.l a0.A a0.l.length a0.c a0.l wr.heap.size wr (DOk.read HS.out.ob1) (DOk.read HS.out.oa0) (Nat.le_refl _) HS.out.ob1.dig HS.out.oa0.dig (by have:=HLEN.out.2.2.2;omega) (by have:=HLEN.out.1;omega))
       rw[HV.out.2.2.2,HV.out.1] at HAL1
       have HDEF:=ja0 (show jba3 ts D=if jdp5 ts D<jdv2 ts D then 1 else if jdk1 ts D<jdm2 ts D then -1 else 0 from rfl)
       unfold DSl.v at x0 x1 y0 y1
       by_cases h1:jdp5 ts D<jdv2 ts D
       ·have HV1:=ja0 (HDEF.out.trans (if_pos h1))
        have hd1:decide ((jdv2 ts D:Int)<=(jdp5 ts D:Int))=false:=decide_eq_false (by omega)
        rw[hd1] at HAL1
        clear hd1
        go_wp2_with (first
         | (go_at_call 88;refine HAL1.out.mono ?_;rintro e w22 ⟨rfl,hb22⟩;have HB22:=ja0 hb22;clear hb22))
        go_ret
        have hs:=HSV.out more (by rw[<-HD.out,HV1.out];decide)
        rw[<-HD.out,HV1.out] at hs
        exact⟨1,rfl,hs▸HS0.out,HB.out.trans (HB22.out.mono HB.out.size)⟩
       ·have HDEF1:=ja0 (HDEF.out.trans (if_neg h1))
        have hd1:decide ((jdv2 ts D:Int)<=(jdp5 ts D:Int))=true:=decide_eq_true (by omega)
        rw[hd1] at HAL1
        clear hd1 HDEF
        go_upto_region 24 with(first
         | (go_at_call 88;refine HAL1.out.mono ?_;rintro e w22 ⟨rfl,hb22⟩;have HB22:=ja0 hb22;clear hb22))
        clear x0 x1 xf0 xf1 y0 y1 yf0 yf1 HAL1
        have HS2:=ja0 (HS.out.below HB22.out)
        have HB2:=ja0 (HB.out.trans (HB22.out.mono HB.out.size))
        clear HS HB HB22
        obtain⟨x0,x1,xf0,xf1⟩:=HS2.out.b6.two
        obtain⟨y0,y1,yf0,yf1⟩:=HS2.out.b7.two
        unfold DSl.v at x0 x1 y0 y1
        have HAL2:=ja0 (jby2 b0.A b0.l.length b0.c b0.l a1.A a1.l.length a1.c a1.l w22.heap.size w22 (DOk.read HS2.out.ob0) (DOk.read HS2.out.oa1) (Nat.le_refl _) HS2.out.ob0.dig HS2.out.oa1.dig (by have:=HLEN.out.2.2.1;omega) (by have:=HLEN.out.2.1;omega))
        rw[HV.out.2.2.1,HV.out.2.1] at HAL2
        by_cases h2:jdk1 ts D<jdm2 ts D
        ·have HV1:=ja0 (HDEF1.out.trans (if_pos h2))
         have hd1:decide ((jdm2 ts D:Int)<=(jdk1 ts D:Int))=false:=decide_eq_false (by omega)
         rw[hd1] at HAL2
         clear hd1
         go_wp2_with (first
          | (go_at_call 88;refine HAL2.out.mono ?_;rintro e w24 ⟨rfl,hb24⟩;have HB24:=ja0 hb24;clear hb24))
         go_ret
         have hs:=HSV.out more (by rw[<-HD.out,HV1.out];decide)
         rw[<-HD.out,HV1.out] at hs
         exact⟨-1,rfl,hs▸HS0.out,HB2.out.trans (HB24.out.mono HB2.out.size)⟩
        ·have HV1:=ja0 (HDEF1.out.trans (if_neg h2))
         have hd1:decide ((jdm2 ts D:Int)<=(jdk1 ts D:Int))=true:=decide_eq_true (by omega)
         rw[hd1] at HAL2
         clear hd1
         have hlate:=HLT.out more (by rw[<-HD.out];exact HV1.out)
         go_wp2_with (first
          | (go_at_call 88;refine HAL2.out.mono ?_;rintro e w24 ⟨rfl,hb24⟩;have HB24:=ja0 hb24;clear hb24))
         exact⟨⟨more+8,by go_num,by omega,HB2.out.trans (HB24.out.mono HB2.out.size)⟩,by simp only[intOf];omega⟩
end Go.Proofs.YtphcodcdfeohhaaGreatDoor
