import Derived.Test.YtphcodcdfeohhaaGreatDoorRootAToRootB
set_option linter.all false
namespace Go.Proofs.YtphcodcdfeohhaaGreatDoor
set_option maxRecDepth 100000
set_option maxHeartbeats 16000000
open Go Go.RowKit
theorem jbv7{ts:List (Int×Int)}(h:ts.any JA=false):ts.filter JA=[]:=by
 rw[List.filter_eq_nil_iff]
 intro t ht
 have:=List.any_eq_false.1 h t ht
 simpa using this
theorem jbd2 {ts:List (Int×Int)} {K:Nat} (hl:ts.length<=9) (hV:ts.filter JA=[]\/jy (ts.filter JA) K≠0) (hz:ts.any JA=true) :
  ∃s,jA ts s/\∀more,Je ts (10 ^ more)≠0->Je ts (10 ^ more)=s:=by
 have hne:ts.filter JA≠[]:=by
  obtain⟨t,ht,h1⟩:=List.any_eq_true.1 hz
  intro e
  have:t∈ts.filter JA:=List.mem_filter.2 ⟨ht,h1⟩
  rw[e] at this
  cases this
 rcases hV with h|h
 ·exact absurd h hne
 ·have hs:jA ts (jy (ts.filter JA) K):=.inr ⟨hne,h,K,rfl⟩
  exact⟨_,hs,λmore hm=>zt6 (Nat.pow_pos (by decide)) hs hm⟩
theorem jbd0{ts:List (Int×Int)}{K more:Nat}(hl:ts.length<=9)(hV:ts.filter JA=[]\/jy (ts.filter JA) K≠0)(hz:ts.any JA=true)(h0:Je ts (10 ^ more)=0):more<5*K+2:=by
 have hne:ts.filter JA≠[]:=by
  obtain⟨t,ht,h1⟩:=List.any_eq_true.1 hz
  intro e
  have:t∈ts.filter JA:=List.mem_filter.2 ⟨ht,h1⟩
  rw[e] at this
  cases this
 rcases hV with h|h
 ·exact absurd h hne
 ·rcases Nat.lt_or_ge more (5*K+2)with h1|h1
  ·exact h1
  ·exfalso
   have h2:=jag6 (D:=10 ^ more) h (jbs0 h1 (Nat.le_trans (List.length_filter_le _ _) hl))
   rw[jc3] at h2
   exact h2 h0
theorem jbd1 (A:Option Addr) (n c B:Nat) (ts:List (Int×Int)) (w:World) (hx:jJ w B A n c ts) (hB:B<=w.heap.size)
  (hc:∀t∈ts,-4000000000000000000<=t.1/\t.1<=4000000000000000000) (hr:∀t∈ts,zu t.2) (hk:(ts.map (·.2)).Nodup) (hl:ts.length<=9) :
  Calls Tryz.prog 41 #[.slice A n c] w λe w'=>∃s,e=.returned (.int .i64 s)/\jA ts s/\Below w.heap.size w w':=by
 obtain⟨K,hK,hV⟩:=jA.exists_ ts hc hr hk hl
 have e1:=hx.len
 subst e1
 have HT:=ja (λW (hb:Below w.heap.size w W)=>Rq.below hx (hb.mono hB))
 have HCR:=ja (λt ht=>And.intro (hc t ht) (hr t ht))
 have HZERO:=ja (@jbv7 ts)
 have HSC:=ja (jbd2 hl hV)
 have HLATE:=ja (λmore=>jbd0 (more:=more) hl hV)
 clear hx hc hr hk hV
 obtain⟨M,hM⟩:∃M,M=5*K+2:=⟨_,rfl⟩
 have hMb:M<=2500000000002:=by omega
 rw[<-hM] at HLATE
 clear hK hM
 go_enter Tryz.func41,Tryz.ntmps41
 go_wp2
 go_loopw [3,4] (λb i W=>∃k:Nat,k<=ts.length/\i=.int .i64 k/\b=.bool ((ts.take k).any JA)/\Below w.heap.size w W) (λ_ i _=>ts.length-(intOf i).toNat)
 case atStart=>exact⟨0,by omega,rfl,rfl,Below.refl _ _⟩
 case round=>
  obtain⟨k,hk,rfl,rfl,hb⟩:=hrel
  have HB:=ja hb
  clear hb
  by_cases hkl:(k:Int)<(ts.length:Int)
  ·have hk1:k<ts.length:=by omega
   obtain⟨ad,rfl,had,ha0,ha1⟩:=jJ.at_ (HT.o _ HB.o) hk1
   have HTS:=ja (jw ts k hk1)
   generalize ts[k]=t at *
   obtain⟨co,ro⟩:=t
   dsimp only at ha0 ha1
   have HAN:Hid ((ts.take (k+1)).any JA=((ts.take k).any JA || !(co==0))):=ja (by rw[HTS.o,List.any_append];simp[JA])
   clear HTS
   generalize (ts.take k).any JA=b at *
   cases b
   ·go_wp2
    exact⟨⟨k+1,by omega,by go_num,by rw[HAN.o];simp[bne],HB.o⟩,by simp only[intOf];omega⟩
   ·go_wp2
    exact⟨⟨k+1,by omega,by go_num,by rw[HAN.o];simp,HB.o⟩,by simp only[intOf];omega⟩
  ·obtain rfl:k=ts.length:=by omega
   rw[List.take_length]
   cases hz:ts.any JA
   ·have HZ:=ja (HZERO.o hz)
    clear hz HSC HLATE
    go_wp2
    go_ret
    exact⟨0,rfl,.inl ⟨HZ.o,rfl⟩,HB.o⟩
   ·obtain⟨s0,hs0,hsc⟩:=HSC.o hz
    have HS0:=ja hs0
    have HSV:=ja hsc
    have HLT:=ja (λmore=>HLATE.o more hz)
    clear hz hs0 hsc HSC HLATE HZERO
    go_wp2
    go_loopw [5] (λmv W=>∃more:Nat,mv=.int .i64 more/\more<=M+8/\Below w.heap.size w W) (λmv _=>M+8-(intOf mv).toNat)
    case atStart=>exact⟨0,rfl,by omega,HB.o⟩
    case round=>
     obtain⟨more,rfl,hmore,hb⟩:=hrel
     clear HB
     have HB:=ja hb
     clear hb
     go_upto_region 11 with fail
     obtain⟨W0,hW0⟩:∃W0,W0=(wr.alloc (.cells #[.slice none 0 0,.slice none 0 0] 125)).alloc (.cells #[.slice none 0 0,.slice none 0 0] 125):=⟨_,rfl⟩
     obtain⟨X6,hX6⟩:∃X,X=wr.heap.size:=⟨_,rfl⟩
     obtain⟨X7,hX7⟩:∃X,X=wr.heap.size+1:=⟨_,rfl⟩
     obtain⟨Y,hY⟩:∃Y,Y=wr.heap.size+2:=⟨_,rfl⟩
     obtain⟨D,hD⟩:∃D,D=10 ^ more:=⟨_,rfl⟩
     obtain⟨m,hm⟩:∃m,m=more+101:=⟨_,rfl⟩
     rw[<-hW0,<-hX7,<-hX6]
     have HS0s:Hid (SignS W0 X6 X7 Y ts D 0 0 m ⟨none,0,[]⟩ ⟨none,0,[]⟩ ⟨none,0,[]⟩ ⟨none,0,[]⟩):=ja (SignS.start hW0 hX6 hX7 hY ts D m)
     have HB0:Hid (Below w.heap.size w W0):=ja (by rw[hW0];exact(HB.o.alloc HB.o.size _).alloc (by have:=HB.o.size;simp;omega) _)
     have hX6w:w.heap.size<=X6:=by have:=HB.o.size;omega
     have hX7w:w.heap.size<=X7:=by omega
     have HD:=ja hD
     clear hW0 hX6 hX7 hY hD HB
     go_wp2
     go_loopw [8] (λiv W=>∃(i:Nat) (a0 a1 b0 b1:DSl),iv=.int .i64 i/\i<=ts.length/\SignS W X6 X7 Y ts D i i m a0 a1 b0 b1/\Below w.heap.size w W) (λiv _=>ts.length-(intOf iv).toNat)
     case atStart=>exact⟨0,_,_,_,_,rfl,by omega,HS0s.o,HB0.o⟩
     case round=>
      obtain⟨i,a0,a1,b0,b1,rfl,hi,hS,hb⟩:=hrel
      clear HS0s HB0
      have HS:=ja hS
      have HB:=ja hb
      clear hS hb
      by_cases hil:(i:Int)<(ts.length:Int)
      ·have hi1:i<ts.length:=by omega
       obtain⟨⟨hcb1,hcb2⟩,hrok⟩:=HCR.o ts[i] (List.getElem_mem hi1)
       obtain⟨t,ht⟩:∃t,t=ts[i]:=⟨_,rfl⟩
       rw[<-ht] at hcb1 hcb2 hrok
       have HTI:=ja ht
       clear ht
       obtain⟨co,ro⟩:=t
       dsimp only at hcb1 hcb2 hrok
       have hro1:=hrok.1
       have hro2:=hrok.2.1
       clear hrok
       obtain⟨ad0,had0,hadb0,hb0,hb1⟩:=jJ.at_ (HT.o _ HB.o) hi1
       rw[<-HTI.o] at hb0 hb1
       dsimp only at hb0 hb1
       subst had0
       by_cases hneg:co<0
       ·go_upto_region 17 with fail
        refine jk (λW'=>Below wr.drew.heap.size wr.drew W') 16 (λ_=>True) 16 (λ_=>True) (by kernel_rfl) ⟨Below.refl _ _,λ_=>trivial,λ_=>trivial⟩ (λjb=>?_)
        have HSd:=ja (HS.o.below (Below.drew (Below.refl wr.heap.size wr)))
        have HBd:=ja (HB.o.trans ((Below.drew (Below.refl wr.heap.size wr)).mono HB.o.size))
        obtain⟨ad,hadE,hadb,ha0,ha1⟩:=jJ.at_ (HT.o _ HBd.o) hi1
        cases hadE
        replace hadb:ad0.block<wr.drew.heap.size:=by have:=HBd.o.size;omega
        rw[<-HTI.o] at ha0 ha1
        dsimp only at ha0 ha1
        clear HS HB
        generalize wr.drew=Wd at *
        revert jb
        refine jtq 0 ?_ ?_ ?_
        rotate_left 1
        focus(intro;go_simp;try with_reducible rfl)
        (try simp only[Act.put,lA,lB,lC])
        refine jtq 1 ?_ ?_ ?_
        rotate_left 1
        focus(intro;go_simp;try with_reducible rfl)
        (try simp only[Act.put,lA,lB,lC])
        refine jtq 2 ?_ ?_ ?_
        rotate_left 1
        focus(intro;go_simp;try with_reducible rfl)
        (try simp only[Act.put,lA,lB,lC])
        refine jtq 3 ?_ ?_ ?_
        rotate_left 1
        focus(intro;go_simp;try with_reducible rfl)
        (try simp only[Act.put,lA,lB,lC])
        refine jtk 4 ?_ ?_ ?_
        rotate_left 1
        focus(intro w' hSw;obtain⟨hC,hF,hG⟩:=hSw;clear hG;clear hF;have e1:=(hC.cell (p:=ad0.add (i*2)) (by rw[jH];exact hadb)).trans ha0;clear hC;go_simp;try with_reducible rfl)
        (try simp only[Act.put,lA,lB,lC])
        refine jtq 5 ?_ ?_ ?_
        rotate_left 1
        focus(intro;go_simp;try with_reducible rfl)
        (try simp only[Act.put,lA,lB,lC])
        refine jtq 6 ?_ ?_ ?_
        rotate_left 1
        focus(intro;go_simp;try with_reducible rfl)
        (try simp only[Act.put,lA,lB,lC])
        refine jtq 7 ?_ ?_ ?_
        rotate_left 1
        focus(intro;go_simp;try with_reducible rfl)
        (try simp only[Act.put,lA,lB,lC])
        refine jtq 8 ?_ ?_ ?_
        rotate_left 1
        focus(intro;go_simp;try with_reducible rfl)
        (try simp only[Act.put,lA,lB,lC])
        refine jtk 9 ?_ ?_ ?_
        rotate_left 1
        focus(intro w' hSw;obtain⟨hC,hF,hG⟩:=hSw;clear hG;clear hF;have e1:=(hC.cell (p:=⟨(ad0.add (i*2)).block,(ad0.add (i*2)).off+1,none⟩) (by show(ad0.add (i*2)).block<_;rw[jH];exact hadb)).trans ha1;clear hC;go_simp;try with_reducible rfl)
        (try simp only[Act.put,lA,lB,lC])
        refine jtq 11 ?_ ?_ ?_
        rotate_left 1
        focus(intro;go_simp;try with_reducible rfl)
        (try simp only[Act.put,lA,lB,lC])
        intro jb
        refine je 10 rfl (by decide +kernel) (λK hK=>?_)
        go_simp
        have HC:=ja (jm4 co ro Wd (by omega) (by omega))
        go_wp2_with (first
         | (go_at_call 86;refine HC.o.mono ?_;rintro e w10 ⟨nl,A10,c10,rfl,hq,hd,hv,he,hlq,hb⟩;have HQ:=ja hq;have HQD:=ja (And.intro hd hv);have HB10:=ja hb;clear hq hd hv hb))
        refine hK.out _ _ ⟨HB10.o,λ_=>trivial,λ_=>trivial⟩ (λjb=>?_)
        clear hK K HC
        (try simp only[Act.put,lA,lB,lC])
        refine je 12 rfl (by decide +kernel) (λK hK=>?_)
        go_simp
        have HC:=ja (jv0 A10 nl.length c10 w10.heap.size nl more w10 HQ.o (Nat.le_refl _) HQD.o.1 he (by omega))
        have HB12:Hid (∀w12,Below w10.heap.size w10 w12->Below Wd.heap.size Wd w12):=ja (λw12 h=>HB10.o.trans (h.mono HB10.o.size))
        go_wp2_with (first
         | (go_at_call 85;refine HC.o.mono ?_;rintro e w12 ⟨R,T,A12,c12,rfl,ho,hd,hlr,hsq,hb⟩;have HO:=ja ho;have HSQ:=ja hsq;have HDR:=ja hd;have HBB:=ja (HB12.o w12 hb);obtain⟨ex,hex⟩:∃b,b=decide (jj T=0):=⟨_,rfl⟩;rw[<-hex];have HEX:=ja hex;have hRl:R.length<=more+100:=(by omega);clear ho hd hsq hb hex hlr))
        refine hK.out _ _ ⟨HBB.o,λ_=>trivial,λ_=>trivial⟩ (λjb=>?_)
        clear hK K HC
        (try simp only[Act.put,lA,lB,lC])
        revert jb
        refine jtq 13 ?_ ?_ ?_
        rotate_left 1
        focus(intro;go_simp;try with_reducible rfl)
        (try simp only[Act.put,lA,lB,lC])
        refine jtq 14 ?_ ?_ ?_
        rotate_left 1
        focus(intro;go_simp;try with_reducible rfl)
        (try simp only[Act.put,lA,lB,lC])
        refine jtq 15 ?_ ?_ ?_
        rotate_left 1
        focus(intro;go_simp;try with_reducible rfl)
        (try simp only[Act.put,lA,lB,lC])
        intro jb
        refine je 16 rfl (by decide +kernel) (λK hK=>?_)
        go_simp
        refine hK.out _ _ ⟨HBB.o,λh=>absurd h (by decide +kernel),λh=>absurd h (by decide +kernel)⟩ (λjb=>?_)
        clear hK K
        (try simp only[Act.put,lA,lB,lC])
        revert jb
        refine jtq 17 ?_ ?_ ?_
        rotate_left 1
        focus(intro;go_simp;try with_reducible rfl)
        (try simp only[Act.put,lA,lB,lC])
        intro jb
        refine jl (by decide +kernel) ?_
        clear jb ha0 ha1 hadb
        have HRT:=ja (zz9 (t:=(co,ro)) (more:=more) (by dsimp only;omega) (HQD.o.2▸HSQ.o))
        rw[<-HD.o] at HRT
        have HOK0:Hid (DOk w12 Y ⟨A12,c12,R⟩ (qJ (co,ro) D) (more+100)):=ja ⟨World.ownsRow.mono HO.o (Nat.le_trans HSd.o.hY HB10.o.size),HDR.o,HRT.o.1,hRl⟩
        have HS:=ja (HSd.o.below HBB.o)
        have HB:=ja (HBd.o.trans (HBB.o.mono HBd.o.size))
        have HTOP:Hid ((ex=true->jj R=(ZW (co,ro) D:Int))/\(ex=false->jj R+1=(ZW (co,ro) D:Int))):=ja (by
         have h:=HRT.o.2
         rw[HEX.o]
         constructor
         ·intro e
          rw[if_pos (of_decide_eq_true e)] at h;exact h
         ·intro e
          rw[if_neg (of_decide_eq_false e)] at h;exact h)
        clear HQ HQD HB10 HO HSQ HDR HBB HEX HSd HBd HRT HB12 he hlq
        obtain⟨x0,x1,xf0,xf1⟩:=HS.o.b6.two
        unfold DSl.v at x0 x1
        go_upto_region 19 with(first
         | (go_at_call 87;refine(Jp a1.A a1.l.length a1.c a1.l A12 R.length c12 R w12.heap.size w12 (DOk.read HS.o.oa1) (DOk.read HOK0.o) (Nat.le_refl _) HS.o.oa1.dig HOK0.o.dig (by have:=HS.o.oa1.len;omega) (by omega)).mono ?_;rintro e w18 ⟨L18,A18,c18,rfl,ho18,hd18,hv18,hl18,hb18⟩;obtain⟨q0,q1,qf0,qf1⟩:=(HS.o.b6.below hb18 HS.o.b6.lt).two;have HO18:=ja ho18;have HD18:=ja (And.intro hd18 (And.intro hv18 hl18));have HB18:=ja hb18;clear ho18 hd18 hv18 hl18 hb18))
        clear x0 x1 xf0 xf1 q0 q1 qf0 qf1
        have HSa:=ja (HS.o.below HB18.o)
        have HBa:=ja (HB.o.trans (HB18.o.mono HB.o.size))
        have HOKa:=ja (HOK0.o.below HB18.o)
        have HN18:Hid (DOk w18 Y ⟨A18,c18,L18⟩ (Zf (ts.take i) D+qJ ts[i] D) (m+(i+1))):=ja ⟨World.ownsRow.mono HO18.o HS.o.hY,HD18.o.1,by rw[HD18.o.2.1,HS.o.oa1.val,HOK0.o.val,<-HTI.o,Int.natCast_add],by have h1:=HD18.o.2.2;have h2:=HS.o.oa1.len;show L18.length<=_;(try dsimp only at h1);omega⟩
        have HS1:=ja (HSa.o.least1 hi1 (by rw[<-HTI.o];show co<0;omega) HN18.o)
        have HB1:=ja (HBa.o.setCell (p:=⟨X6,1,none⟩) (by show _<=X6;omega) (DSl.v ⟨A18,c18,L18⟩))
        have HOK1:=ja (HOKa.o.far (p:=⟨X6,1,none⟩) HS.o.h6 (DSl.v ⟨A18,c18,L18⟩))
        clear HS HB HOK0 HSa HBa HOKa HN18 HO18 HD18 HB18
        unfold DSl.v at HS1 HB1 HOK1
        dsimp only at HS1 HB1 HOK1
        generalize w18.setCell ⟨X6,1,none⟩ (.slice A18 L18.length c18)=V at *
        cases ex
        ·have HW:Hid (jP (V.alloc (.cells #[.int .i64 1] 3)) (V.alloc (.cells #[.int .i64 1] 3)).heap.size (some ⟨V.heap.size,0,none⟩) 1 1 [1]):=ja (zd.read (qt V.heap.size V 1 (Nat.le_refl _)))
         have HBz:=ja ((Below.refl V.heap.size V).alloc (Nat.le_refl _) (.cells #[.int .i64 1] 3))
         have HSz:=ja (HS1.o.below HBz.o)
         have HOKz:=ja (HOK1.o.below HBz.o)
         have HB1z:=ja (HB1.o.trans (HBz.o.mono HB1.o.size))
         clear HS1 HOK1 HB1 HBz
         go_upto_region 21 with(first
          | (go_at_call 87;refine(Jp A12 R.length c12 R (some ⟨V.heap.size,0,none⟩) 1 1 [1] (V.alloc (.cells #[.int .i64 1] 3)).heap.size (V.alloc (.cells #[.int .i64 1] 3)) (DOk.read HOKz.o) HW.o (Nat.le_refl _) HOKz.o.dig (zD.nil.cons (by omega)) (by omega) (by omega)).mono ?_;rintro e w20 ⟨L20,A20,c20,rfl,ho20,hd20,hv20,hl20,hb20⟩;have HO20:=ja ho20;have HD20:=ja (And.intro hd20 (And.intro hv20 hl20));have HB20:=ja hb20;clear ho20 hd20 hv20 hl20 hb20))
         have HS1:=ja (HSz.o.below HB20.o)
         have HB1:=ja (HB1z.o.trans (HB20.o.mono HB1z.o.size))
         have HN20:Hid (DOk w20 Y ⟨A20,c20,L20⟩ (ZW (co,ro) D) (more+101)):=ja ⟨World.ownsRow.mono HO20.o HSz.o.hY,HD20.o.1,by rw[HD20.o.2.1,<-HTOP.o.2 (by first|rfl|trivial)];simp[jj],by have h1:=HD20.o.2.2;show L20.length<=_;omega⟩
         clear HSz HOKz HB1z HW HO20 HD20 HB20
         obtain⟨x0,x1,xf0,xf1⟩:=HS1.o.b7.two
         unfold DSl.v at x0 x1
         go_wp2_with (first
          | (go_at_call 87;refine(Jp b1.A b1.l.length b1.c b1.l A20 L20.length c20 L20 w20.heap.size w20 (DOk.read HS1.o.ob1) (DOk.read HN20.o) (Nat.le_refl _) HS1.o.ob1.dig HN20.o.dig (by have:=HS1.o.ob1.len;omega) (by have:=HN20.o.len;dsimp only at this;omega)).mono ?_;rintro e w21 ⟨L21,A21,c21,rfl,ho21,hd21,hv21,hl21,hb21⟩;obtain⟨q0,q1,qf0,qf1⟩:=(HS1.o.b7.below hb21 HS1.o.b7.lt).two;have HO21:=ja ho21;have HD21:=ja (And.intro hd21 (And.intro hv21 hl21));have HB21:=ja hb21;clear ho21 hd21 hv21 hl21 hb21))
         have HSb:=ja (HS1.o.below HB21.o)
         have HBb:=ja (HB1.o.trans (HB21.o.mono HB1.o.size))
         have HN21:Hid (DOk w21 Y ⟨A21,c21,L21⟩ (Zg (ts.take i) D+ZW ts[i] D) (m+(i+1))):=ja ⟨World.ownsRow.mono HO21.o HS1.o.hY,HD21.o.1,by rw[HD21.o.2.1,HS1.o.ob1.val,<-HTI.o,Int.natCast_add];congr 1;exact HN20.o.val,by have h1:=HD21.o.2.2;have h2:=HS1.o.ob1.len;have h3:=HN20.o.len;show L21.length<=_;(try dsimp only at h1 h3);omega⟩
         have HS2:=ja (HSb.o.most1 hi1 (by rw[<-HTI.o];show co<0;omega) HN21.o)
         have HB2:=ja (HBb.o.setCell (p:=⟨X7,1,none⟩) (by show _<=X7;omega) (DSl.v ⟨A21,c21,L21⟩))
         exact⟨⟨i+1,a0,⟨A18,c18,L18⟩,b0,⟨A21,c21,L21⟩,by go_num,by omega,HS2.o,HB2.o⟩,by simp only[intOf];omega⟩
        ·go_upto_region 21 with fail
         obtain⟨x0,x1,xf0,xf1⟩:=HS1.o.b7.two
         unfold DSl.v at x0 x1
         go_wp2_with (first
          | (go_at_call 87;refine(Jp b1.A b1.l.length b1.c b1.l A12 R.length c12 R V.heap.size V (DOk.read HS1.o.ob1) (DOk.read HOK1.o) (Nat.le_refl _) HS1.o.ob1.dig HOK1.o.dig (by have:=HS1.o.ob1.len;omega) (by have:=HOK1.o.len;dsimp only at this;omega)).mono ?_;rintro e w21 ⟨L21,A21,c21,rfl,ho21,hd21,hv21,hl21,hb21⟩;obtain⟨q0,q1,qf0,qf1⟩:=(HS1.o.b7.below hb21 HS1.o.b7.lt).two;have HO21:=ja ho21;have HD21:=ja (And.intro hd21 (And.intro hv21 hl21));have HB21:=ja hb21;clear ho21 hd21 hv21 hl21 hb21))
         have HSb:=ja (HS1.o.below HB21.o)
         have HBb:=ja (HB1.o.trans (HB21.o.mono HB1.o.size))
         have HN21:Hid (DOk w21 Y ⟨A21,c21,L21⟩ (Zg (ts.take i) D+ZW ts[i] D) (m+(i+1))):=ja ⟨World.ownsRow.mono HO21.o HS1.o.hY,HD21.o.1,by rw[HD21.o.2.1,HS1.o.ob1.val,<-HTI.o,Int.natCast_add];congr 1;exact HTOP.o.1 (by first|rfl|trivial),by have h1:=HD21.o.2.2;have h2:=HS1.o.ob1.len;have h3:=HOK1.o.len;show L21.length<=_;(try dsimp only at h1 h3);omega⟩
         have HS2:=ja (HSb.o.most1 hi1 (by rw[<-HTI.o];show co<0;omega) HN21.o)
         have HB2:=ja (HBb.o.setCell (p:=⟨X7,1,none⟩) (by show _<=X7;omega) (DSl.v ⟨A21,c21,L21⟩))
         exact⟨⟨i+1,a0,⟨A18,c18,L18⟩,b0,⟨A21,c21,L21⟩,by go_num,by omega,HS2.o,HB2.o⟩,by simp only[intOf];omega⟩
       ·go_upto_region 17 with fail
        refine jk (λW'=>Below wr.drew.heap.size wr.drew W') 16 (λ_=>True) 16 (λ_=>True) (by kernel_rfl) ⟨Below.refl _ _,λ_=>trivial,λ_=>trivial⟩ (λjb=>?_)
        have HSd:=ja (HS.o.below (Below.drew (Below.refl wr.heap.size wr)))
        have HBd:=ja (HB.o.trans ((Below.drew (Below.refl wr.heap.size wr)).mono HB.o.size))
        obtain⟨ad,hadE,hadb,ha0,ha1⟩:=jJ.at_ (HT.o _ HBd.o) hi1
        cases hadE
        replace hadb:ad0.block<wr.drew.heap.size:=by have:=HBd.o.size;omega
        rw[<-HTI.o] at ha0 ha1
        dsimp only at ha0 ha1
        clear HS HB
        generalize wr.drew=Wd at *
        revert jb
        refine jtq 0 ?_ ?_ ?_
        rotate_left 1
        focus(intro;go_simp;try with_reducible rfl)
        (try simp only[Act.put,lA,lB,lC])
        refine jtq 1 ?_ ?_ ?_
        rotate_left 1
        focus(intro;go_simp;try with_reducible rfl)
        (try simp only[Act.put,lA,lB,lC])
        refine jtq 2 ?_ ?_ ?_
        rotate_left 1
        focus(intro;go_simp;try with_reducible rfl)
        (try simp only[Act.put,lA,lB,lC])
        refine jtq 3 ?_ ?_ ?_
        rotate_left 1
        focus(intro;go_simp;try with_reducible rfl)
        (try simp only[Act.put,lA,lB,lC])
        refine jtk 4 ?_ ?_ ?_
        rotate_left 1
        focus(intro w' hSw;obtain⟨hC,hF,hG⟩:=hSw;clear hG;clear hF;have e1:=(hC.cell (p:=ad0.add (i*2)) (by rw[jH];exact hadb)).trans ha0;clear hC;go_simp;try with_reducible rfl)
        (try simp only[Act.put,lA,lB,lC])
        refine jtq 5 ?_ ?_ ?_
        rotate_left 1
        focus(intro;go_simp;try with_reducible rfl)
        (try simp only[Act.put,lA,lB,lC])
        refine jtq 6 ?_ ?_ ?_
        rotate_left 1
        focus(intro;go_simp;try with_reducible rfl)
        (try simp only[Act.put,lA,lB,lC])
        refine jtq 7 ?_ ?_ ?_
        rotate_left 1
        focus(intro;go_simp;try with_reducible rfl)
        (try simp only[Act.put,lA,lB,lC])
        refine jtq 8 ?_ ?_ ?_
        rotate_left 1
        focus(intro;go_simp;try with_reducible rfl)
        (try simp only[Act.put,lA,lB,lC])
        refine jtk 9 ?_ ?_ ?_
        rotate_left 1
        focus(intro w' hSw;obtain⟨hC,hF,hG⟩:=hSw;clear hG;clear hF;have e1:=(hC.cell (p:=⟨(ad0.add (i*2)).block,(ad0.add (i*2)).off+1,none⟩) (by show(ad0.add (i*2)).block<_;rw[jH];exact hadb)).trans ha1;clear hC;go_simp;try with_reducible rfl)
        (try simp only[Act.put,lA,lB,lC])
        refine jtq 11 ?_ ?_ ?_
        rotate_left 1
        focus(intro;go_simp;try with_reducible rfl)
        (try simp only[Act.put,lA,lB,lC])
        intro jb
        refine je 10 rfl (by decide +kernel) (λK hK=>?_)
        go_simp
        have HC:=ja (jm4 co ro Wd (by omega) (by omega))
        go_wp2_with (first
         | (go_at_call 86;refine HC.o.mono ?_;rintro e w10 ⟨nl,A10,c10,rfl,hq,hd,hv,he,hlq,hb⟩;have HQ:=ja hq;have HQD:=ja (And.intro hd hv);have HB10:=ja hb;clear hq hd hv hb))
        refine hK.out _ _ ⟨HB10.o,λ_=>trivial,λ_=>trivial⟩ (λjb=>?_)
        clear hK K HC
        (try simp only[Act.put,lA,lB,lC])
        refine je 12 rfl (by decide +kernel) (λK hK=>?_)
        go_simp
        have HC:=ja (jv0 A10 nl.length c10 w10.heap.size nl more w10 HQ.o (Nat.le_refl _) HQD.o.1 he (by omega))
        have HB12:Hid (∀w12,Below w10.heap.size w10 w12->Below Wd.heap.size Wd w12):=ja (λw12 h=>HB10.o.trans (h.mono HB10.o.size))
        go_wp2_with (first
         | (go_at_call 85;refine HC.o.mono ?_;rintro e w12 ⟨R,T,A12,c12,rfl,ho,hd,hlr,hsq,hb⟩;have HO:=ja ho;have HSQ:=ja hsq;have HDR:=ja hd;have HBB:=ja (HB12.o w12 hb);obtain⟨ex,hex⟩:∃b,b=decide (jj T=0):=⟨_,rfl⟩;rw[<-hex];have HEX:=ja hex;have hRl:R.length<=more+100:=(by omega);clear ho hd hsq hb hex hlr))
        refine hK.out _ _ ⟨HBB.o,λ_=>trivial,λ_=>trivial⟩ (λjb=>?_)
        clear hK K HC
        (try simp only[Act.put,lA,lB,lC])
        revert jb
        refine jtq 13 ?_ ?_ ?_
        rotate_left 1
        focus(intro;go_simp;try with_reducible rfl)
        (try simp only[Act.put,lA,lB,lC])
        refine jtq 14 ?_ ?_ ?_
        rotate_left 1
        focus(intro;go_simp;try with_reducible rfl)
        (try simp only[Act.put,lA,lB,lC])
        refine jtq 15 ?_ ?_ ?_
        rotate_left 1
        focus(intro;go_simp;try with_reducible rfl)
        (try simp only[Act.put,lA,lB,lC])
        intro jb
        refine je 16 rfl (by decide +kernel) (λK hK=>?_)
        go_simp
        refine hK.out _ _ ⟨HBB.o,λh=>absurd h (by decide +kernel),λh=>absurd h (by decide +kernel)⟩ (λjb=>?_)
        clear hK K
        (try simp only[Act.put,lA,lB,lC])
        revert jb
        refine jtq 17 ?_ ?_ ?_
        rotate_left 1
        focus(intro;go_simp;try with_reducible rfl)
        (try simp only[Act.put,lA,lB,lC])
        intro jb
        refine jl (by decide +kernel) ?_
        clear jb ha0 ha1 hadb
        have HRT:=ja (zz9 (t:=(co,ro)) (more:=more) (by dsimp only;omega) (HQD.o.2▸HSQ.o))
        rw[<-HD.o] at HRT
        have HOK0:Hid (DOk w12 Y ⟨A12,c12,R⟩ (qJ (co,ro) D) (more+100)):=ja ⟨World.ownsRow.mono HO.o (Nat.le_trans HSd.o.hY HB10.o.size),HDR.o,HRT.o.1,hRl⟩
        have HS:=ja (HSd.o.below HBB.o)
        have HB:=ja (HBd.o.trans (HBB.o.mono HBd.o.size))
        have HTOP:Hid ((ex=true->jj R=(ZW (co,ro) D:Int))/\(ex=false->jj R+1=(ZW (co,ro) D:Int))):=ja (by
         have h:=HRT.o.2
         rw[HEX.o]
         constructor
         ·intro e
          rw[if_pos (of_decide_eq_true e)] at h;exact h
         ·intro e
          rw[if_neg (of_decide_eq_false e)] at h;exact h)
        clear HQ HQD HB10 HO HSQ HDR HBB HEX HSd HBd HRT HB12 he hlq
        obtain⟨x0,x1,xf0,xf1⟩:=HS.o.b6.two
        unfold DSl.v at x0 x1
        go_upto_region 19 with(first
         | (go_at_call 87;refine(Jp a0.A a0.l.length a0.c a0.l A12 R.length c12 R w12.heap.size w12 (DOk.read HS.o.oa0) (DOk.read HOK0.o) (Nat.le_refl _) HS.o.oa0.dig HOK0.o.dig (by have:=HS.o.oa0.len;omega) (by omega)).mono ?_;rintro e w18 ⟨L18,A18,c18,rfl,ho18,hd18,hv18,hl18,hb18⟩;obtain⟨q0,q1,qf0,qf1⟩:=(HS.o.b6.below hb18 HS.o.b6.lt).two;have HO18:=ja ho18;have HD18:=ja (And.intro hd18 (And.intro hv18 hl18));have HB18:=ja hb18;clear ho18 hd18 hv18 hl18 hb18))
        clear x0 x1 xf0 xf1 q0 q1 qf0 qf1
        have HSa:=ja (HS.o.below HB18.o)
        have HBa:=ja (HB.o.trans (HB18.o.mono HB.o.size))
        have HOKa:=ja (HOK0.o.below HB18.o)
        have HN18:Hid (DOk w18 Y ⟨A18,c18,L18⟩ (Zx (ts.take i) D+qJ ts[i] D) (m+(i+1))):=ja ⟨World.ownsRow.mono HO18.o HS.o.hY,HD18.o.1,by rw[HD18.o.2.1,HS.o.oa0.val,HOK0.o.val,<-HTI.o,Int.natCast_add],by have h1:=HD18.o.2.2;have h2:=HS.o.oa0.len;show L18.length<=_;(try dsimp only at h1);omega⟩
        have HS1:=ja (HSa.o.least0 hi1 (by rw[<-HTI.o];show ¬co<0;omega) HN18.o)
        have HB1:=ja (HBa.o.setCell (p:=⟨X6,0,none⟩) (by show _<=X6;omega) (DSl.v ⟨A18,c18,L18⟩))
        have HOK1:=ja (HOKa.o.far (p:=⟨X6,0,none⟩) HS.o.h6 (DSl.v ⟨A18,c18,L18⟩))
        clear HS HB HOK0 HSa HBa HOKa HN18 HO18 HD18 HB18
        unfold DSl.v at HS1 HB1 HOK1
        dsimp only at HS1 HB1 HOK1
        generalize w18.setCell ⟨X6,0,none⟩ (.slice A18 L18.length c18)=V at *
        cases ex
        ·have HW:Hid (jP (V.alloc (.cells #[.int .i64 1] 3)) (V.alloc (.cells #[.int .i64 1] 3)).heap.size (some ⟨V.heap.size,0,none⟩) 1 1 [1]):=ja (zd.read (qt V.heap.size V 1 (Nat.le_refl _)))
         have HBz:=ja ((Below.refl V.heap.size V).alloc (Nat.le_refl _) (.cells #[.int .i64 1] 3))
         have HSz:=ja (HS1.o.below HBz.o)
         have HOKz:=ja (HOK1.o.below HBz.o)
         have HB1z:=ja (HB1.o.trans (HBz.o.mono HB1.o.size))
         clear HS1 HOK1 HB1 HBz
         go_upto_region 21 with(first
          | (go_at_call 87;refine(Jp A12 R.length c12 R (some ⟨V.heap.size,0,none⟩) 1 1 [1] (V.alloc (.cells #[.int .i64 1] 3)).heap.size (V.alloc (.cells #[.int .i64 1] 3)) (DOk.read HOKz.o) HW.o (Nat.le_refl _) HOKz.o.dig (zD.nil.cons (by omega)) (by omega) (by omega)).mono ?_;rintro e w20 ⟨L20,A20,c20,rfl,ho20,hd20,hv20,hl20,hb20⟩;have HO20:=ja ho20;have HD20:=ja (And.intro hd20 (And.intro hv20 hl20));have HB20:=ja hb20;clear ho20 hd20 hv20 hl20 hb20))
         have HS1:=ja (HSz.o.below HB20.o)
         have HB1:=ja (HB1z.o.trans (HB20.o.mono HB1z.o.size))
         have HN20:Hid (DOk w20 Y ⟨A20,c20,L20⟩ (ZW (co,ro) D) (more+101)):=ja ⟨World.ownsRow.mono HO20.o HSz.o.hY,HD20.o.1,by rw[HD20.o.2.1,<-HTOP.o.2 (by first|rfl|trivial)];simp[jj],by have h1:=HD20.o.2.2;show L20.length<=_;omega⟩
         clear HSz HOKz HB1z HW HO20 HD20 HB20
         obtain⟨x0,x1,xf0,xf1⟩:=HS1.o.b7.two
         unfold DSl.v at x0 x1
         go_wp2_with (first
          | (go_at_call 87;refine(Jp b0.A b0.l.length b0.c b0.l A20 L20.length c20 L20 w20.heap.size w20 (DOk.read HS1.o.ob0) (DOk.read HN20.o) (Nat.le_refl _) HS1.o.ob0.dig HN20.o.dig (by have:=HS1.o.ob0.len;omega) (by have:=HN20.o.len;dsimp only at this;omega)).mono ?_;rintro e w21 ⟨L21,A21,c21,rfl,ho21,hd21,hv21,hl21,hb21⟩;obtain⟨q0,q1,qf0,qf1⟩:=(HS1.o.b7.below hb21 HS1.o.b7.lt).two;have HO21:=ja ho21;have HD21:=ja (And.intro hd21 (And.intro hv21 hl21));have HB21:=ja hb21;clear ho21 hd21 hv21 hl21 hb21))
         have HSb:=ja (HS1.o.below HB21.o)
         have HBb:=ja (HB1.o.trans (HB21.o.mono HB1.o.size))
         have HN21:Hid (DOk w21 Y ⟨A21,c21,L21⟩ (Zd (ts.take i) D+ZW ts[i] D) (m+(i+1))):=ja ⟨World.ownsRow.mono HO21.o HS1.o.hY,HD21.o.1,by rw[HD21.o.2.1,HS1.o.ob0.val,<-HTI.o,Int.natCast_add];congr 1;exact HN20.o.val,by have h1:=HD21.o.2.2;have h2:=HS1.o.ob0.len;have h3:=HN20.o.len;show L21.length<=_;(try dsimp only at h1 h3);omega⟩
         have HS2:=ja (HSb.o.most0 hi1 (by rw[<-HTI.o];show ¬co<0;omega) HN21.o)
         have HB2:=ja (HBb.o.setCell (p:=⟨X7,0,none⟩) (by show _<=X7;omega) (DSl.v ⟨A21,c21,L21⟩))
         exact⟨⟨i+1,⟨A18,c18,L18⟩,a1,⟨A21,c21,L21⟩,b1,by go_num,by omega,HS2.o,HB2.o⟩,by simp only[intOf];omega⟩
        ·go_upto_region 21 with fail
         obtain⟨x0,x1,xf0,xf1⟩:=HS1.o.b7.two
         unfold DSl.v at x0 x1
         go_wp2_with (first
          | (go_at_call 87;refine(Jp b0.A b0.l.length b0.c b0.l A12 R.length c12 R V.heap.size V (DOk.read HS1.o.ob0) (DOk.read HOK1.o) (Nat.le_refl _) HS1.o.ob0.dig HOK1.o.dig (by have:=HS1.o.ob0.len;omega) (by have:=HOK1.o.len;dsimp only at this;omega)).mono ?_;rintro e w21 ⟨L21,A21,c21,rfl,ho21,hd21,hv21,hl21,hb21⟩;obtain⟨q0,q1,qf0,qf1⟩:=(HS1.o.b7.below hb21 HS1.o.b7.lt).two;have HO21:=ja ho21;have HD21:=ja (And.intro hd21 (And.intro hv21 hl21));have HB21:=ja hb21;clear ho21 hd21 hv21 hl21 hb21))
         have HSb:=ja (HS1.o.below HB21.o)
         have HBb:=ja (HB1.o.trans (HB21.o.mono HB1.o.size))
         have HN21:Hid (DOk w21 Y ⟨A21,c21,L21⟩ (Zd (ts.take i) D+ZW ts[i] D) (m+(i+1))):=ja ⟨World.ownsRow.mono HO21.o HS1.o.hY,HD21.o.1,by rw[HD21.o.2.1,HS1.o.ob0.val,<-HTI.o,Int.natCast_add];congr 1;exact HTOP.o.1 (by first|rfl|trivial),by have h1:=HD21.o.2.2;have h2:=HS1.o.ob0.len;have h3:=HOK1.o.len;show L21.length<=_;(try dsimp only at h1 h3);omega⟩
         have HS2:=ja (HSb.o.most0 hi1 (by rw[<-HTI.o];show ¬co<0;omega) HN21.o)
         have HB2:=ja (HBb.o.setCell (p:=⟨X7,0,none⟩) (by show _<=X7;omega) (DSl.v ⟨A21,c21,L21⟩))
         exact⟨⟨i+1,⟨A18,c18,L18⟩,a1,⟨A21,c21,L21⟩,b1,by go_num,by omega,HS2.o,HB2.o⟩,by simp only[intOf];omega⟩
      ·obtain rfl:i=ts.length:=by omega
       obtain⟨v1,v2,v3,v4⟩:=HS.o.all
       have HV:=ja (And.intro v1 (And.intro v2 (And.intro v3 v4)))
       have HLEN:=ja (And.intro HS.o.oa0.len (And.intro HS.o.oa1.len (And.intro HS.o.ob0.len HS.o.ob1.len)))
       clear v1 v2 v3 v4
       obtain⟨x0,x1,xf0,xf1⟩:=HS.o.b6.two
       obtain⟨y0,y1,yf0,yf1⟩:=HS.o.b7.two
       have HAL1:=ja (JE b1.A b1.l.length b1.c b1.l a0.A a0.l.length a0.c a0.l wr.heap.size wr (DOk.read HS.o.ob1) (DOk.read HS.o.oa0) (Nat.le_refl _) HS.o.ob1.dig HS.o.oa0.dig (by have:=HLEN.o.2.2.2;omega) (by have:=HLEN.o.1;omega))
       rw[HV.o.2.2.2,HV.o.1] at HAL1
       have HDEF:=ja (show Je ts D=if Zg ts D<Zx ts D then 1 else if Zd ts D<Zf ts D then -1 else 0 from rfl)
       unfold DSl.v at x0 x1 y0 y1
       by_cases h1:Zg ts D<Zx ts D
       ·have HV1:=ja (HDEF.o.trans (if_pos h1))
        have hd1:decide ((Zx ts D:Int)<=(Zg ts D:Int))=false:=decide_eq_false (by omega)
        rw[hd1] at HAL1
        clear hd1
        go_wp2_with (first
         | (go_at_call 88;refine HAL1.o.mono ?_;rintro e w22 ⟨rfl,hb22⟩;have HB22:=ja hb22;clear hb22))
        go_ret
        have hs:=HSV.o more (by rw[<-HD.o,HV1.o];decide)
        rw[<-HD.o,HV1.o] at hs
        exact⟨1,rfl,hs▸HS0.o,HB.o.trans (HB22.o.mono HB.o.size)⟩
       ·have HDEF1:=ja (HDEF.o.trans (if_neg h1))
        have hd1:decide ((Zx ts D:Int)<=(Zg ts D:Int))=true:=decide_eq_true (by omega)
        rw[hd1] at HAL1
        clear hd1 HDEF
        go_upto_region 24 with(first
         | (go_at_call 88;refine HAL1.o.mono ?_;rintro e w22 ⟨rfl,hb22⟩;have HB22:=ja hb22;clear hb22))
        clear x0 x1 xf0 xf1 y0 y1 yf0 yf1 HAL1
        have HS2:=ja (HS.o.below HB22.o)
        have HB2:=ja (HB.o.trans (HB22.o.mono HB.o.size))
        clear HS HB HB22
        obtain⟨x0,x1,xf0,xf1⟩:=HS2.o.b6.two
        obtain⟨y0,y1,yf0,yf1⟩:=HS2.o.b7.two
        unfold DSl.v at x0 x1 y0 y1
        have HAL2:=ja (JE b0.A b0.l.length b0.c b0.l a1.A a1.l.length a1.c a1.l w22.heap.size w22 (DOk.read HS2.o.ob0) (DOk.read HS2.o.oa1) (Nat.le_refl _) HS2.o.ob0.dig HS2.o.oa1.dig (by have:=HLEN.o.2.2.1;omega) (by have:=HLEN.o.2.1;omega))
        rw[HV.o.2.2.1,HV.o.2.1] at HAL2
        by_cases h2:Zd ts D<Zf ts D
        ·have HV1:=ja (HDEF1.o.trans (if_pos h2))
         have hd1:decide ((Zf ts D:Int)<=(Zd ts D:Int))=false:=decide_eq_false (by omega)
         rw[hd1] at HAL2
         clear hd1
         go_wp2_with (first
          | (go_at_call 88;refine HAL2.o.mono ?_;rintro e w24 ⟨rfl,hb24⟩;have HB24:=ja hb24;clear hb24))
         go_ret
         have hs:=HSV.o more (by rw[<-HD.o,HV1.o];decide)
         rw[<-HD.o,HV1.o] at hs
         exact⟨-1,rfl,hs▸HS0.o,HB2.o.trans (HB24.o.mono HB2.o.size)⟩
        ·have HV1:=ja (HDEF1.o.trans (if_neg h2))
         have hd1:decide ((Zf ts D:Int)<=(Zd ts D:Int))=true:=decide_eq_true (by omega)
         rw[hd1] at HAL2
         clear hd1
         have hlate:=HLT.o more (by rw[<-HD.o];exact HV1.o)
         go_wp2_with (first
          | (go_at_call 88;refine HAL2.o.mono ?_;rintro e w24 ⟨rfl,hb24⟩;have HB24:=ja hb24;clear hb24))
         exact⟨⟨more+8,by go_num,by omega,HB2.o.trans (HB24.o.mono HB2.o.size)⟩,by simp only[intOf];omega⟩
