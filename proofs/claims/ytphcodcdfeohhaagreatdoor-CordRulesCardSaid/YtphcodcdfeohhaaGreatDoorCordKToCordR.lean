import Derived.Test.YtphcodcdfeohhaaGreatDoorCordIToCordJ
set_option linter.all false
namespace Go.Proofs.YtphcodcdfeohhaaGreatDoor
set_option maxRecDepth 100000
set_option maxHeartbeats 8000000
open Go.RowKit
theorem Tryz.infoPiece:(Tryz.prog.info? 94).map (λi=>(i.zero,i.size,i.bytes))=some (some (.agg #[.bool false,.slice none 0 0]),2,32):=by kernel_rfl
theorem jay7 (B:Nat) (A:Option Addr) (n c:Nat) (ds:List Int) (w:World) (h:qP w B A n c ds) (hB:B<=w.heap.size) (hn:n<=1000000000) :
  Calls Tryz.prog 156 #[.slice A n c] w λe w'=>∃(A':Option Addr) (c':Nat),e=.returned (.slice A' n c')/\w'.ownsRow w.heap.size 3 1 (.slice A' n c') n (ds.map (Value.int .i64))/\Below w.heap.size w w':=by
 have hl:=h.len
 subst hl
 obtain⟨i0,hi0,hz0,hz1,hz2⟩:=info_parts Tryz.infoInt
 have q208:∀(w:World) (a:Option Addr) (n c n' c':Nat),(binOp .eql 52 (.slice a n c) (.slice none n' c')).run Tryz.prog w=.ok (.bool a.isNone) w:=λw a n c n' c'=>Lib.run_eql_slice_nil w _ _ a n c n' c' Tryz.underlying52
 rcases h.2.2.2 with⟨rfl,rfl⟩|⟨ad,rfl,hb,hc⟩
 ·have h0:ds.length=0:=by have:=h.2.1;omega
  have h1:ds=[]:=List.length_eq_zero_iff.1 h0
  subst h1
  clear h h0
  go_enter Tryz.func156,Tryz.ntmps156
  go_wp2
  go_ret
  exact⟨none,0,rfl,⟨rfl,.inl ⟨rfl,rfl⟩⟩,Below.refl _ _⟩
 ·have HO:=ja (World.ownsRow_lit (base:=w.heap.size) (e:=3) (size:=1) w #[] 0 (Nat.le_refl _) (by unfold maxLen;omega) rfl)
  have hnew:∀j u,(ds.map (Value.int .i64))[j]?=some u->(w.alloc (.cells #[] 3)).cell? (ad.add j)=some u:=λj u hu=>(World.cell?_alloc_lt _ _ _ (by rw[jH];omega)).trans (hc j u hu)
  have hnew:=ja hnew
  clear h hc
  go_enter Tryz.func156,Tryz.ntmps156
  go_wp2_with (first
   | (at_builtin;refine wpList_append_own _ rfl _ _ 52 rfl w.heap.size 3 i0 (.int .i64 0) 1 8 Tryz.underlying52 hi0 hz0 hz1 hz2 rfl (by decide) (.slice (some ⟨w.heap.size,0,none⟩) 0 0) 0 [] rfl HO.o ad ds.length c (ds.map (Value.int .i64)) rfl (by simp) hnew.o (by intro u hu;obtain⟨d,_,rfl⟩:=List.mem_map.1 hu;rfl) (by unfold maxLen;omega) (by omega) (by simp) ?_;intro v' w3 ho3 hg3 _;obtain⟨A4,c4,rfl⟩:=jx ho3;have HO3:=ja ho3;have HG3:=ja hg3;clear ho3 hg3))
  go_ret
  have hO:=HO3.o
  simp only[Nat.zero_add,List.nil_append] at hO
  refine⟨A4,c4,?_,hO,(((Below.refl w.heap.size w).alloc (Nat.le_refl _) _).grown HG3.o (by simp) (by simp[Value.ownBlock]))⟩
  simp
theorem jbb8(l:List PieceV):∀u∈jB (l.map PieceV.enc),u.oneCell'=true:=by
 intro u hu
 unfold jB at hu
 simp only[List.mem_flatMap,List.mem_map] at hu
 obtain⟨p,⟨t,_,rfl⟩,hu⟩:=hu
 simp only[PieceV.enc,List.mem_cons,List.not_mem_nil,or_false] at hu
 rcases hu with rfl|rfl<;>rfl
theorem jay8 (B:Nat) (A:Option Addr) (n c:Nat) (l:List PieceV) (w:World) (h:Rd w B 2 A n c (jB (l.map PieceV.enc))) (hl:l.length=n) (hB:B<=w.heap.size) (hn:n<=1000000000) :
  Calls Tryz.prog 128 #[.slice A n c] w λe w'=>∃(A':Option Addr) (c':Nat),e=.returned (.slice A' n c')/\w'.ownsRow w.heap.size 94 2 (.slice A' n c') n (jB (l.map PieceV.enc))/\Below w.heap.size w w':=by
 subst hl
 obtain⟨i0,hi0,hz0,hz1,hz2⟩:=info_parts Tryz.infoPiece
 have q208:∀(w:World) (a:Option Addr) (n c n' c':Nat),(binOp .eql 41 (.slice a n c) (.slice none n' c')).run Tryz.prog w=.ok (.bool a.isNone) w:=λw a n c n' c'=>Lib.run_eql_slice_nil w _ _ a n c n' c' Tryz.underlying41
 have hcl:=h.1
 rcases h.2.2.2 with⟨rfl,rfl⟩|⟨ad,rfl,hb,hc⟩
 ·have h0:l.length=0:=by have:=h.2.1;omega
  have h1:l=[]:=List.length_eq_zero_iff.1 h0
  subst h1
  clear h h0
  go_enter Tryz.func128,Tryz.ntmps128
  go_wp2
  go_ret
  exact⟨none,0,rfl,⟨rfl,.inl ⟨rfl,rfl⟩⟩,Below.refl _ _⟩
 ·have HO:=ja (World.ownsRow_lit (base:=w.heap.size) (e:=94) (size:=2) w #[] 0 (Nat.le_refl _) (by unfold maxLen;omega) rfl)
  have hnew:∀j u,(jB (l.map PieceV.enc))[j]?=some u->(w.alloc (.cells #[] 94)).cell? (ad.add j)=some u:=λj u hu=>(World.cell?_alloc_lt _ _ _ (by rw[jH];omega)).trans (hc j u hu)
  have hnew:=ja hnew
  have hone:=ja (jbb8 l)
  have HCL:=ja hcl
  clear h hc hcl
  go_enter Tryz.func128,Tryz.ntmps128
  go_wp2_with (first
   | (at_builtin;refine wpList_append_own _ rfl _ _ 41 rfl w.heap.size 94 i0 (.agg #[.bool false,.slice none 0 0]) 2 32 Tryz.underlying41 hi0 hz0 hz1 hz2 rfl (by decide) (.slice (some ⟨w.heap.size,0,none⟩) 0 0) 0 [] rfl HO.o ad l.length c (jB (l.map PieceV.enc)) rfl HCL.o hnew.o hone.o (by unfold maxLen;omega) (by omega) (by simp) ?_;intro v' w3 ho3 hg3 _;obtain⟨A4,c4,rfl⟩:=jx ho3;have HO3:=ja ho3;have HG3:=ja hg3;clear ho3 hg3))
  go_ret
  have hO:=HO3.o
  simp only[Nat.zero_add,List.nil_append] at hO
  refine⟨A4,c4,?_,hO,(((Below.refl w.heap.size w).alloc (Nat.le_refl _) _).grown HG3.o (by simp) (by simp[Value.ownBlock]))⟩
  simp
def QA(l:List (Bool×List Int))(d:Int):List Int:=
 match l.getLast? with
 | none=>[d]
 | some p=>if d.tmod (zJ 1 p.2)=0/\zz (d.tdiv (zJ 1 p.2)) 2 1000=true then p.2++[d.tdiv (zJ 1 p.2)] else [d]
def jbj8(w:World)(ms:List Int)(e:Ending)(w':World):Prop:=
 ∃(A:Option Addr) (c:Nat),e=.returned (.slice A ms.length c)/\w'.ownsRow w.heap.size 3 1 (.slice A ms.length c) ms.length (ms.map (Value.int .i64))/\Below w.heap.size w w'
theorem jbn6 (wh:Int) (A:Option Addr) (n c B:Nat) (l:List PieceV) (d:Int) (w:World) (hp:jD w B A n c l) (hB:B<=w.heap.size) (hd:0<=d/\d<=1000000000000000000)
  (hms:∀p∈l,p.ms.length<=100/\(∀m∈p.ms,0<=m/\m<=1000)/\1<=zJ 1 p.ms) :
  Calls Tryz.prog 127 #[.agg #[.int .i64 wh,.slice A n c],.int .i64 d] w (jbj8 w (QA (l.map PieceV.flat) d)):=by
 have hl:=hp.len
 subst hl
 have hnm:=hp.1.nmax
 have HX0:=ja (jh.new w 43 #[.int .i64 wh,.slice A l.length c])
 have HB0:=ja ((Below.refl w.heap.size w).alloc (Nat.le_refl _) (.cells #[.int .i64 wh,.slice A l.length c] 43))
 have HP0:=ja (hp.alloc hB (.cells #[.int .i64 wh,.slice A l.length c] 43))
 obtain⟨x0,x1,_,_⟩:=HX0.o.two
 have HLIT:=ja (show((w.alloc (.cells #[.int .i64 wh,.slice A l.length c] 43)).alloc (.cells #[.int .i64 d] 3)).ownsRow (w.heap.size+1) 3 1 (.slice (some ⟨w.heap.size+1,0,none⟩) 1 1) 1 [.int .i64 d] by
  have h:=World.ownsRow_lit (base:=w.heap.size+1) (e:=3) (size:=1) (w.alloc (.cells #[.int .i64 wh,.slice A l.length c] 43)) #[.int .i64 d] 1 (by simp) (by unfold maxLen;omega) rfl
  rwa [World.size_alloc] at h)
 by_cases hl0:l=[]
 ·have HM:Hid (QA (l.map PieceV.flat) d=[d]):=ja (by rw[hl0];rfl)
  have hz:(l.length:Int)=0:=by rw[hl0];rfl
  clear hms hp HP0 hl0
  go_enter Tryz.func127,Tryz.ntmps127
  go_wp2
  go_ret
  rw[HM.o]
  exact⟨_,1,rfl,jO HLIT.o (by omega),HB0.o.alloc (by simp) _⟩
 ·have hlp:0<l.length:=List.length_pos_iff.2 hl0
  have hll:l.length-1<l.length:=by omega
  obtain⟨ad,had,hc0,hc1⟩:=HP0.o.at_ hll
  have hpi:=HP0.o.2 l[l.length-1] (List.getElem_mem hll)
  obtain⟨m1,m2,m3⟩:=hms l[l.length-1] (List.getElem_mem hll)
  have hgl:(l.map PieceV.flat).getLast?=some (l[l.length-1].flat):=by
   rw[List.getLast?_eq_getElem?,List.getElem?_map,List.length_map,List.getElem?_eq_getElem hll];rfl
  have hM:QA (l.map PieceV.flat) d=if d.tmod (zJ 1 l[l.length-1].ms)=0/\zz (d.tdiv (zJ 1 l[l.length-1].ms)) 2 1000=true then l[l.length-1].ms++[d.tdiv (zJ 1 l[l.length-1].ms)] else [d]:=by
   unfold QA
   rw[hgl]
   rfl
  generalize QA (l.map PieceV.flat) d=MM at *
  generalize l[l.length-1]=p at *
  obtain⟨mi,A2,n2,c2,ms⟩:=p
  dsimp only at hc0 hc1 hM m1 m2 m3
  have hml:ms.length=n2:=qP.len hpi
  subst hml
  have hI:qP (w.alloc (.cells #[.int .i64 wh,.slice A l.length c] 43)) B A2 ms.length c2 ms:=hpi
  have HPR:=ja (qz A2 ms.length c2 B ms _ hI m2)
  have HCL:=ja (λW hb=>jay7 B A2 ms.length c2 ms W (Rd.below hI hb) )
  generalize hq:zJ 1 ms=q at *
  have hq0:q≠0:=by omega
  have HT:=ja (λW=>jN (d.tdiv q) 2 1000 W)
  subst had
  clear hpi hq hgl HP0 hp hms hl0
  have hdb:0<=d.tdiv q/\d.tdiv q<=d:=by
   rw[Int.tdiv_eq_ediv_of_nonneg hd.1]
   exact⟨Int.ediv_nonneg hd.1 (by omega),Int.ediv_le_self _ hd.1⟩
  have hwr:IntKind.i64.wrap (d.tdiv q)=d.tdiv q:=by rw[IntKind.wrap_i64];omega
  have hli:(0:Int)<(l.length:Int):=by omega
  by_cases h1:d.tmod q=0
  ·cases h2:zz (d.tdiv q) 2 1000
   ·rw[h2] at HT
    have HM:Hid (MM=[d]):=ja (hM.trans (if_neg (by rw[h2];simp)))
    clear hM h2
    go_enter Tryz.func127,Tryz.ntmps127
    go_wp2_with (first
     | (go_at_call 76;refine HPR.o.mono ?_;rintro e w5 ⟨rfl,hw5⟩;subst w5)
     | (go_at_call 54;refine(HT.o _).mono ?_;rintro e w2 ⟨rfl,hw⟩;subst w2))
    go_ret
    rw[HM.o]
    exact⟨_,1,rfl,jO HLIT.o (by omega),HB0.o.alloc (by simp) _⟩
   ·rw[h2] at HT
    have HM:Hid (MM=ms++[d.tdiv q]):=ja (hM.trans (if_pos ⟨h1,h2⟩))
    clear hM h2 HLIT
    go_enter Tryz.func127,Tryz.ntmps127
    go_wp2_with (first
     | (go_at_call 76;refine HPR.o.mono ?_;rintro e w5 ⟨rfl,hw5⟩;subst w5)
     | (go_at_call 54;refine(HT.o _).mono ?_;rintro e w2 ⟨rfl,hw⟩;subst w2))
    clear HPR HT x0 x1 HX0 hc0 hc1
    have hza:(w.alloc (.cells #[.int .i64 wh,.slice (some ad) l.length c] 43)).heap.size=w.heap.size+1:=by simp
    generalize w.alloc (.cells #[.int .i64 wh,.slice (some ad) l.length c] 43)=wa at *
    have HBA:Hid (Below wa.heap.size wa wa.drew):=ja (Below.drew (Below.refl _ _))
    have HBB:Hid (Below wa.heap.size wa (wa.drew.alloc (.cells #[.int .i64 (d.tdiv q)] 3))):=ja ((Below.drew (Below.refl _ _)).alloc (Nat.le_refl _) _)
    have HLB:=ja (ZG.new wa.drew 3 (.int .i64 (d.tdiv q)))
    obtain⟨i0,hi0,hz0,hz1,hz2⟩:=info_parts Tryz.infoInt
    have HCA:=ja (HCL.o _ (HBA.o.mono (by omega)) (show B<=wa.heap.size by omega) (by omega))
    have HCB:=ja (HCL.o _ (HBB.o.mono (by omega)) (show B<=(wa.drew.alloc _).heap.size by simp;omega) (by omega))
    clear HCL
    go_region_law (first
     | (refine step_append_lies _ rfl _ _ 52 rfl w.heap.size 3 i0 (.int .i64 0) 1 8 Tryz.underlying52 hi0 hz0 hz1 hz2 rfl (by decide) (.slice A5 ms.length c5) ms.length _ rfl (World.ownsRow.alloc HO5.o _) ⟨w5.heap.size,0,none⟩ 1 1 [.int .i64 (d.tdiv q)] rfl rfl (JG _ _ _) (by simp[Value.oneCell']) (by decide) (by unfold maxLen;omega) (by omega) (by simp;omega) _ rfl ?_;intro g cap w7 hown' hgrow hat hlt3;have HO7:=ja hown';have HB7:=ja ((HB5.o.alloc (by omega) _).grown hgrow (by simp;omega) (λ_ e=>(HO5.o.lt _ e).1));clear hown' hgrow hat hlt3)
     | (go_simp;go_at_call 156;refine HCA.o.mono ?_;rintro e w5 ⟨A5,c5,rfl,ho5,hb5⟩;have HO5:=ja (jO ho5 (show w.heap.size<=_ by simp;omega));have HB5:=ja (HB0.o.trans ((HBA.o.trans hb5).mono (by omega)));have hz5:=HB5.o.size;clear ho5 hb5)
     | (go_simp;go_at_call 156;refine HCB.o.mono ?_;rintro e w5 ⟨A5,c5,rfl,ho5,hb5⟩;have HO5:=ja (jO ho5 (show w.heap.size<=_ by simp;omega));have HB5:=ja (HB0.o.trans ((HBB.o.trans (hb5.mono (by simp))).mono (by omega)));have hz5:=HB5.o.size;have HL5:Hid (ZG w5 (w.heap.size+1) 3 (.int .i64 (d.tdiv q))):=ja (hza▸HLB.o.below hb5 (by simp));clear ho5 hb5)
     | (refine step_append_lies _ rfl _ _ 52 rfl w.heap.size 3 i0 (.int .i64 0) 1 8 Tryz.underlying52 hi0 hz0 hz1 hz2 rfl (by decide) (.slice A5 ms.length c5) ms.length _ rfl HO5.o ⟨w.heap.size+1,0,none⟩ 1 1 [.int .i64 (d.tdiv q)] rfl rfl (World.news_of_block HL5.o) (by simp[Value.oneCell']) (by decide) (by unfold maxLen;omega) (by omega) (by first|omega|(simp;omega)) _ rfl ?_;intro g cap w7 hown' hgrow hat hlt3;have HO7:=ja hown';have HB7:=ja (HB5.o.grown hgrow (by first|omega|(simp;omega)) (λ_ e=>(HO5.o.lt _ e).1));clear hown' hgrow hat hlt3))
    all_goals
     go_wp2
     go_ret
     rw[HM.o]
     refine⟨_,cap,by rw[show(ms++[d.tdiv q]).length=ms.length+1 by simp];rfl,?_,HB7.o⟩
     have h:=HO7.o
     simpa using h
  ·have HM:Hid (MM=[d]):=ja (hM.trans (if_neg (λh=>h1 h.1)))
   have hre:¬d % q=0:=by rw[<-Int.tmod_eq_emod_of_nonneg hd.1];exact h1
   clear hM
   go_enter Tryz.func127,Tryz.ntmps127
   go_wp2_with (first
    | (go_at_call 76;refine HPR.o.mono ?_;rintro e w5 ⟨rfl,hw5⟩;subst w5))
   go_ret
   rw[HM.o]
   exact⟨_,1,rfl,jO HLIT.o (by omega),HB0.o.alloc (by simp) _⟩
def jQ(g:Nat)(A:Option Addr)(l:List PieceV):Prop:=(∀ad,A=some ad->ad.block≠g)/\∀p∈l,∀ad,p.A=some ad->ad.block≠g
theorem Rd.off_set{w:World}{B k n c:Nat}{A:Option Addr}{xs:List Value}(h:Rd w B k A n c xs){g i:Nat}(hg:∀ad,A=some ad->ad.block≠g)(u:Value):Rd (w.setCell ⟨g,i,none⟩ u) B k A n c xs:=by
 refine⟨h.1,h.2.1,h.2.2.1,?_⟩
 rcases h.2.2.2 with h0|⟨ad,rfl,hb,hc⟩
 ·exact .inl h0
 ·refine .inr ⟨ad,rfl,hb,λj u hu=>?_⟩
  rw[World.cell?_setCell_other _ _ _ _ (by intro e;exact hg ad rfl (by rw[<-jH ad j,<-e]))]
  exact hc j u hu
theorem jD.off_set{w:World}{B n c:Nat}{A:Option Addr}{l:List PieceV}(h:jD w B A n c l){g i:Nat}(hg:jQ g A l)(u:Value):jD (w.setCell ⟨g,i,none⟩ u) B A n c l:=
 ⟨Rd.off_set h.1 hg.1 u,λp hp=>Rd.off_set (h.2 p hp) (hg.2 p hp) u⟩
theorem Rd.off_of{w:World}{B k n c:Nat}{A:Option Addr}{xs:List Value}(h:Rd w B k A n c xs){g:Nat}(hg:B<=g):∀ad,A=some ad->ad.block≠g:=by
 intro ad e
 rcases h.2.2.2 with⟨h0,_⟩|⟨ad',e',hb,_⟩
 ·rw[h0] at e;cases e
 ·rw[e'] at e;cases e;omega
theorem jD.off_of{w:World}{B n c:Nat}{A:Option Addr}{l:List PieceV}(h:jD w B A n c l){g:Nat}(hg:B<=g):jQ g A l:=
 ⟨Rd.off_of h.1 hg,λp hp=>Rd.off_of (h.2 p hp) hg⟩
theorem jQ.nil(g:Nat):jQ g none []:=⟨λ_ e=>by simp at e,λ_ h=>by simp at h⟩
theorem jD.nil(w:World)(B:Nat):jD w B none 0 0 []:=⟨⟨by simp[jB],Nat.le_refl _,by omega,.inl ⟨rfl,rfl⟩⟩,λ_ h=>by simp at h⟩
def jh0(w:World)(Ai:Option Addr)(li:List PieceV)(res:Int×List (Bool×List Int)×Int)(e:Ending)(w':World):Prop:=
 ∃(A:Option Addr) (n c:Nat) (l:List PieceV),e=.returned (.tuple #[.agg #[.int .i64 res.1,.slice A n c],.int .i64 res.2.2])/\jD w' w'.heap.size A n c l/\l.map PieceV.flat=res.2.1 /\
  (∀g,g<w.heap.size->jQ g Ai li->jQ g A l)/\Below w.heap.size w w'
def byS(d:Int)(t:List (Int×Int))(n:Int):Int:=n*(jn d t).2.1*(jn d t).2.1-(jn d t).1*(jn d t).1
def ofS(d:Int)(t:List (Int×Int)):Int:=2*(jn d t).1*(jn d t).2.1
def jca3(l:List Int):Int:=(l.getLast?).getD 0
def zg1(wh:Int)(l:List (Bool×List Int))(minus:Bool)(ms:List Int):Int×List (Bool×List Int)×Int:=
 if 6<ms.length\/1000<jca3 ms then(0,[],10)else(wh,l++[(minus,ms)],0)
def jac8(wh:Int)(l:List (Bool×List Int))(by_ of_:Int):Int×List (Bool×List Int)×Int:=
 if by_=0 then(0,[],9)
 else if of_.tmod (max by_ (-by_))≠0\/of_=max by_ (-by_)then(0,[],7)
 else if 8<=l.length then(0,[],8)
 else zg1 wh l (decide (by_<0)) (QA l (of_.tdiv (max by_ (-by_))))
def qp(wh:Int)(l:List (Bool×List Int))(n:Int):Int×List (Bool×List Int)×Int:=
 if ZO wh l=false then(0,[],2)
 else if zz n 1 1000=false then(0,[],3)
 else if(Jk wh l).2.2≠0 then(0,[],(Jk wh l).2.2)
 else if(jn (Jk wh l).1 (Jk wh l).2.1).1<=0 then(0,[],3)
 else jac8 wh l (byS (Jk wh l).1 (Jk wh l).2.1 n) (ofS (Jk wh l).1 (Jk wh l).2.1)
def NumB(d:Int)(t:List (Int×Int)):Prop:=1<=d/\d<=100000/\∀x∈t,-100000<=x.1/\x.1<=100000
theorem jbp5{kv:List (Int×Int)}{den:Int}(h:1<=den):1<=den.tdiv (jU kv den):=by
 unfold jU
 rw[if_neg (by omega)]
 have h1:=qT ((kv.filter nz).map (·.2)++[den]) den (by simp)
 have h2:=ZK (l:=(kv.filter nz).map (·.2)++[den]) (x:=den) (by simp) (by omega)
 generalize jM ((kv.filter nz).map (·.2)++[den])=g at *
 have h3:=Nat.le_of_dvd (by omega) h1
 rw[Int.tdiv_eq_ediv_of_nonneg (by omega)]
 exact Int.le_ediv_of_mul_le (by omega) (by omega)
theorem jcj8{kv:List (Int×Int)}{den d:Int}{t:List (Int×Int)}(h:jY kv den=(d,t,0))(hd:1<=den):NumB d t:=by
 unfold jY at h
 split at h
 ·simp at h
 ·split at h
  ·simp at h
  ·rename_i h1 h2
   simp only[Prod.mk.injEq] at h
   obtain⟨rfl,rfl,_⟩:=h
   simp only[Bool.or_eq_true,decide_eq_true_eq,not_or,List.any_eq_true,not_exists,not_and] at h2
   refine⟨jbp5 hd,by omega,λx hx=>?_⟩
   have h3:=h2.2 x hx
   unfold jW at h3
   simp only[Bool.or_eq_true,decide_eq_true_eq,not_or,Bool.not_eq_true',Bool.not_eq_false] at h3
   simpa [zz] using h3.2
theorem jbh9{xd yd:Int}{xt yt:List (Int×Int)}{k d:Int}{t:List (Int×Int)}(h:jL xd xt yd yt k=(d,t,0)):NumB d t:=by
 unfold jL at h
 split at h
 ·rename_i hk
  simp only[Bool.and_eq_true] at hk
  have h1:=jz hk.1
  have h2:=jz hk.2
  refine jcj8 h ?_
  have:=Int.mul_le_mul h1.1 h2.1 (by omega) (by omega)
  omega
 ·simp at h
theorem jab1:∀(ps:List (Bool×List Int)) (x:Int×List (Int×Int)) {d:Int} {t:List (Int×Int)},NumB x.1 x.2->JB x ps=(d,t,0)->NumB d t
 | [],x,d,t,hx,h=>by
  simp only[JB,Prod.mk.injEq] at h
  obtain⟨rfl,rfl,_⟩:=h
  exact hx
 | p::ps,x,d,t,hx,h=>by
  rcases hs:jL x.1 x.2 (zJ 1 p.2) [(1,1)] (if p.1 then -1 else 1)with⟨d1,l1,c1⟩
  rw[jb2 x p ps d1 c1 l1 hs] at h
  by_cases h0:c1=0
  ·subst h0
   rw[if_pos rfl] at h
   exact jab1 ps (d1,l1) (jbh9 hs) h
  ·rw[if_neg h0] at h
   simp only[Prod.mk.injEq] at h
   exact absurd h.2.2 h0
theorem jcg5{wh:Int}{l:List (Bool×List Int)}{d:Int}{t:List (Int×Int)}(h:Jk wh l=(d,t,0)):NumB d t/\∀p∈l,zJ 1 p.2≠0:=by
 unfold Jk at h
 split at h
 ·rename_i hok
  obtain⟨hw,_,_⟩:=qx hok
  split at h
  ·simp at h
  ·rename_i hany
   refine⟨jab1 l _ ?_ h,λp hp h0=>hany (List.any_eq_true.2 ⟨p,hp,by simpa using h0⟩)⟩
   unfold jI
   split
   ·exact⟨by decide,by decide,λ_ h=>by simp at h⟩
   ·refine⟨by show(1:Int)<=1;omega,by show(1:Int)<=100000;omega,λx hx=>?_⟩
    simp only[List.mem_singleton] at hx
    subst hx
    show -100000<=wh/\wh<=100000
    omega
 ·simp at h
theorem jcc8{d:Int}{t:List (Int×Int)}(h:NumB d t):-100000<=(jn d t).1/\(jn d t).1<=100000/\0<=(jn d t).2.1/\(jn d t).2.1<=100000:=by
 obtain⟨h1,h2,h3⟩:=h
 unfold jn
 split
 ·exact⟨by decide,by decide,by decide,by decide⟩
 ·split
  ·have:=h3 _ (List.mem_singleton.2 rfl)
   exact⟨this.1,this.2,by show 0<=d;omega,h2⟩
  ·exact⟨by decide,by decide,by decide,by decide⟩
 ·exact⟨by decide,by decide,by decide,by decide⟩
theorem jt5:∀(ms:List Int) (n:Int),0<=n->(∀m∈ms,0<=m)->0<=zJ n ms
 | [],n,hn,_=>hn
 | m::ms,n,hn,h=>by
  rw[jn6]
  split
  ·omega
  ·exact jt5 ms _ (Int.mul_nonneg hn (h m (by simp))) (λx hx=>h x (List.mem_cons_of_mem _ hx))
theorem jbb1(l:List (Bool×List Int))(d:Int):0<(QA l d).length:=by
 unfold QA
 split
 ·simp
 ·split<;>simp
theorem jca4{l:List Int}(h:l.length-1<l.length):jca3 l=l[l.length-1]:=by
 unfold jca3
 rw[List.getLast?_eq_getElem?,List.getElem?_eq_getElem h];rfl
theorem Jt(l:List PieceV)(p:PieceV):jB ((l++[p]).map PieceV.enc)=jB (l.map PieceV.enc)++[.bool p.minus,.slice p.A p.n p.c]:=by
 unfold jB
 rw[List.map_append,List.flatMap_append]
 rfl
theorem zg4{w:World}{base size n m c:Nat}{e:TypeId}{A:Option Addr}{xs:List Value}(h:w.ownsRow base e size (.slice A m c) n xs){g:Nat}(hg:g<base):∀ad,A=some ad->ad.block≠g:=by
 rintro ad rfl e
 have:=(h.lt ad.block rfl).1
 omega
theorem jaz3 {w w8:World} {B n c c5 c8 base:Nat} {A A5 A8:Option Addr} {l:List PieceV} {mi:Bool} {ms:List Int} (hp:jD w8 B A n c l) (hB:B<=w8.heap.size)
  (ho:w8.ownsRow base 94 2 (.slice A8 (l.length+1) c8) (l.length+1) (jB (l.map PieceV.enc)++[.bool mi,.slice A5 ms.length c5])) (hm:w8.ownsRow base 3 1 (.slice A5 ms.length c5) ms.length (ms.map (Value.int .i64)))
  (hbase:w.heap.size+2<=base) :
  jD w8 w8.heap.size A8 (l.length+1) c8 (l++[⟨mi,A5,ms.length,c5,ms⟩])/\(∀g,g<w.heap.size+2->jQ g A l->jQ g A8 (l++[⟨mi,A5,ms.length,c5,ms⟩])):=by
 refine⟨⟨?_,?_⟩,?_⟩
 ·rw[Jt]
  exact Rd.of_own ho
 ·intro p hp'
  rcases List.mem_append.1 hp' with h|h
  ·exact Rd.more (hp.2 p h) hB
  ·rw[List.mem_singleton] at h
   subst h
   exact Rd.of_own hm
 ·intro g hg ⟨h1,h2⟩
  refine⟨zg4 ho (by omega),λp hp'=>?_⟩
  rcases List.mem_append.1 hp' with h|h
  ·exact h2 p h
  ·rw[List.mem_singleton] at h
   subst h
   exact zg4 hm (by omega)
theorem Tryz.sizeOld:(Tryz.prog.info? 43).map (·.size)=some 2:=by kernel_rfl
theorem jaz2 (wh:Int) (A:Option Addr) (n c B:Nat) (l:List PieceV) (m:Int) (w:World) (hp:jD w B A n c l) (hB:B<=w.heap.size) :
  Calls Tryz.prog 73 #[.agg #[.int .i64 wh,.slice A n c],.int .i64 m] w (jh0 w A l (qp wh (l.map PieceV.flat) m)):=by
 have hl:=hp.len
 subst hl
 obtain⟨w0,hw0⟩:∃w0,w0=(w.alloc (.cells #[.int .i64 wh,.slice A l.length c] 43)).alloc (.cells #[.int .i64 0,.slice none 0 0] 43):=⟨_,rfl⟩
 have hz0:w0.heap.size=w.heap.size+2:=by rw[hw0];simp
 have h01:Below w.heap.size w w0:=by rw[hw0];exact((Below.refl _ _).alloc (Nat.le_refl _) _).alloc (by simp) _
 have HX0:Hid (jh w0 w.heap.size 43 #[.int .i64 wh,.slice A l.length c]):=ja (by rw[hw0];exact(jh.new w _ _).alloc _)
 have HR0:Hid (jh w0 (w.heap.size+1) 43 #[.int .i64 0,.slice none 0 0]):=ja (by
  rw[hw0]
  have h:=jh.new (w.alloc (.cells #[.int .i64 wh,.slice A l.length c] 43)) 43 #[.int .i64 0,.slice none 0 0]
  rwa [World.size_alloc] at h)
 have HP0:=ja (hp.below (h01.mono hB))
 have HCK:=ja (Zi wh A l.length c B l w0 HP0.o (by omega))
 have HVL:=ja (λ(W:World) (hb:Below w0.heap.size w0 W)=>jab3 wh A l.length c B l W (HP0.o.below (hb.mono (by omega))) (by have:=hb.size;omega))
 have HB0:=ja h01
 obtain⟨res,hres⟩:∃res,qp wh (l.map PieceV.flat) m=res:=⟨_,rfl⟩
 have hpost0:∀(W:World) (a:Act) (x:Int) (A':Option Addr) (n' c':Nat) (l':List PieceV) (y:Int),res=(x,l'.map PieceV.flat,y)->jD W W.heap.size A' n' c' l'->(∀g,g<w.heap.size->jQ g A l->jQ g A' l')->Below w.heap.size w W->jh W (w.heap.size+1) 43 #[.int .i64 x,.slice A' n' c'] ->
   a.tmps.getD 4 undef=.pointer (some ⟨w.heap.size+1,0,none⟩)->a.tmps.getD 5 undef=.int .i64 y->a.defers=[] ->
   bodyPost Tryz.prog Tryz.f73 (jh0 w A l res) .ret a W:=by
  intro W a x A' n' c' l' y e1 e8 e9 e3 e4 e5 e6 e7
  refine jq (p:=4) (u:=5) (ty:=43) rfl e5 e4 Tryz.underlying43 rfl Tryz.sizeOld e7 ?_
  rw[e6,e1]
  exact⟨A',n',c',l',rfl,e8,rfl,e9,e3⟩
 have HPOST0:=ja hpost0
 have hpost:∀(W:World) (a:Act) (y:Int),res=(0,[],y)->Below w.heap.size w W->jh W (w.heap.size+1) 43 #[.int .i64 0,.slice none 0 0] ->
   a.tmps.getD 4 undef=.pointer (some ⟨w.heap.size+1,0,none⟩)->a.tmps.getD 5 undef=.int .i64 y->a.defers=[] ->
   bodyPost Tryz.prog Tryz.f73 (jh0 w A l res) .ret a W:=by
  intro W a y e1 e3 e4 e5 e6 e7
  exact HPOST0.o W a 0 none 0 0 [] y e1 (jD.nil _ _) (λg _ _=>jQ.nil g) e3 e4 e5 e6 e7
 have HPOST:=ja hpost
 rw[hres]
 unfold qp at hres
 clear hp h01 hpost hpost0
 go_enter Tryz.func73,Tryz.ntmps73
 go_wp2_with fail
 rw[<-hw0]
 clear hw0
 obtain⟨x0,x1,xf0,xf1⟩:=HX0.o.two
 obtain⟨r0,r1,rf0,rf1⟩:=HR0.o.two
 cases hok:ZO wh (l.map PieceV.flat)
 ·rw[if_pos hok] at hres
  have HV:=ja hres.symm
  rw[hok] at HCK
  simp only[QK] at HCK
  clear hok hres HVL
  go_wp2_with (first
   | (go_at_call 71;refine HCK.o.mono ?_;rintro e w1 ⟨rfl,hb1⟩
      have HR1:=ja (HR0.o.below hb1 (by omega));have HB1:=ja (HB0.o.trans (hb1.mono (by omega)))
      obtain⟨u0,u1,uf0,uf1⟩:=HR1.o.two
      clear hb1))
  exact HPOST.o _ _ 2 HV.o (Below.setCell (Below.setCell HB1.o (p:=⟨w.heap.size+1,0,none⟩) (by simp) _) (p:=⟨w.heap.size+1,1,none⟩) (by simp) _) ((HR1.o.set_ 0 _).set_ 1 _) rfl rfl rfl
 ·rw[if_neg (by simp[hok])] at hres
  rw[hok] at HCK
  simp only[QK] at HCK
  cases hin:zz m 1 1000
  ·rw[if_pos hin] at hres
   have HV:=ja hres.symm
   have HW:=ja (λW=>jN m 1 1000 W)
   rw[hin] at HW
   clear hok hin hres HVL
   go_wp2_with (first
    | (go_at_call 71;refine HCK.o.mono ?_;rintro e w1 ⟨rfl,hb1⟩
       have HR1:=ja (HR0.o.below hb1 (by omega));have HB1:=ja (HB0.o.trans (hb1.mono (by omega)))
       obtain⟨u0,u1,uf0,uf1⟩:=HR1.o.two
       clear hb1)
    | (go_at_call 54;refine(HW.o _).mono ?_;rintro e w2 ⟨rfl,hw⟩;subst w2))
   exact HPOST.o _ _ 3 HV.o (Below.setCell (Below.setCell HB1.o (p:=⟨w.heap.size+1,0,none⟩) (by simp) _) (p:=⟨w.heap.size+1,1,none⟩) (by simp) _) ((HR1.o.set_ 0 _).set_ 1 _) rfl rfl rfl
  ·rw[if_neg (by simp[hin])] at hres
   have HW:=ja (λW=>jN m 1 1000 W)
   rw[hin] at HW
   have hm:1<=m/\m<=1000:=by simpa [zz] using hin
   have hVB:=@jcg5 wh (l.map PieceV.flat)
   have hOP:=qx hok
   generalize Jk wh (l.map PieceV.flat)=vs at *
   obtain⟨vd,vt,vc⟩:=vs
   dsimp only at hres
   clear hok hin
   by_cases hvc:vc=0
   ·subst hvc
    rw[if_neg (by simp)] at hres
    obtain⟨hNB,hq0⟩:=hVB rfl
    have hPB:=jcc8 hNB
    have HPT:=ja (λ(W:World) (B:Nat) (A:Option Addr) (n c:Nat) (hx:ji W B A n c vt) (hB:B<=W.heap.size)=>jz6 vd A n c B vt W hx hB)
    unfold jac8 byS ofS at hres
    generalize jn vd vt=ps at *
    obtain⟨P,Q,K⟩:=ps
    dsimp only at hres hPB
    have e1:=jE (a:=m) (b:=Q) (A:=1000) (B:=100000) (by omega) (by omega)
    generalize hq1:m*Q=q1 at *
    have e2:=jE (a:=q1) (b:=Q) (A:=100000000) (B:=100000) (by omega) (by omega)
    generalize hq2:q1*Q=q2 at *
    have e3:=jE (a:=P) (b:=P) (A:=100000) (B:=100000) (by omega) (by omega)
    generalize hq3:P*P=q3 at *
    have e4:=jE (a:=2*P) (b:=Q) (A:=200000) (B:=100000) (by omega) (by omega)
    have HOF:=ja (show 0<P->0<=2*P*Q from λh=>Int.mul_nonneg (by omega) (by omega))
    generalize hq4:2*P*Q=of at *
    obtain⟨b,hb⟩:∃b,q2-q3=b:=⟨_,rfl⟩
    rw[hb] at hres
    obtain⟨bb,hbb⟩:∃bb,max b (-b)=bb:=⟨_,rfl⟩
    have hbb0:0<=bb/\bb<=20000000000000:=by rw[<-hbb];omega
    have hb0:b=0↔bb=0:=by rw[<-hbb];omega
    rw[hbb] at hres
    have H3:Hid (P<=0->res=(0,[],3)):=ja (λh=>by rw[if_pos h] at hres;exact hres.symm)
    have H9:Hid (¬P<=0->bb=0->res=(0,[],9)):=ja (λh h9=>by rw[if_neg h,if_pos (hb0.2 h9)] at hres;exact hres.symm)
    have H7:Hid (¬P<=0->¬bb=0->¬of.tmod bb=0->res=(0,[],7)):=ja (λh h9 h7=>by rw[if_neg h,if_neg (λe=>h9 (hb0.1 e)),if_pos (.inl h7)] at hres;exact hres.symm)
    have H6:Hid (¬P<=0->¬bb=0->of=bb->res=(0,[],7)):=ja (λh h9 h7=>by rw[if_neg h,if_neg (λe=>h9 (hb0.1 e)),if_pos (.inr h7)] at hres;exact hres.symm)
    have H8:Hid (¬P<=0->¬bb=0->of.tmod bb=0->¬of=bb->8<=l.length->res=(0,[],8)):=ja (λh h9 h7 h6 h8=>by
     rw[if_neg h,if_neg (λe=>h9 (hb0.1 e)),if_neg (by rintro(h|h);exact h h7;exact h6 h),if_pos (by simpa using h8)] at hres;exact hres.symm)
    have HE:Hid (¬P<=0->¬bb=0->of.tmod bb=0->¬of=bb->¬8<=l.length->res=zg1 wh (l.map PieceV.flat) (decide (b<0)) (QA (l.map PieceV.flat) (of.tdiv bb))):=ja (λh h9 h7 h6 h8=>by
     rw[if_neg h,if_neg (λe=>h9 (hb0.1 e)),if_neg (by rintro(h|h);exact h h7;exact h6 h),if_neg (by simpa using h8)] at hres;exact hres.symm)
    have hbl:-20000000000000<=b/\b<=20000000000000:=by omega
    clear hVB hNB hres hb0
    go_wp2_with (first
     | (go_at_call 71;refine HCK.o.mono ?_;rintro e w1 ⟨rfl,hb1⟩
        have hz1:=hb1.size
        have HR1:=ja (HR0.o.below hb1 (by omega));have HX1:=ja (HX0.o.below hb1 (by omega));have HB1:=ja (HB0.o.trans (hb1.mono (by omega)))
        have HV1:=ja (HVL.o _ hb1)
        obtain⟨u0,u1,uf0,uf1⟩:=HR1.o.two
        obtain⟨y0,y1,yf0,yf1⟩:=HX1.o.two
        have HP1:=ja (HP0.o.below (hb1.mono (by omega)))
        clear hb1 HVL)
     | (go_at_call 54;refine(HW.o _).mono ?_;rintro e w2 ⟨rfl,hw⟩;subst w2)
     | (go_at_call 33;refine HV1.o.mono ?_;rintro e w3 ⟨A3,n3,c3,rfl,ho3,hb3⟩
        have hz3:=hb3.size
        have hba:Below w1.heap.size w1 (w3.alloc (.cells #[.int .i64 vd,.slice A3 n3 c3] 24)):=hb3.alloc (by omega) _
        have HN3:=ja (jh.new w3 24 #[.int .i64 vd,.slice A3 n3 c3])
        have HR3:=ja (HR1.o.below hba (by omega));have HX3:=ja (HX1.o.below hba (by omega));have HB3:=ja (HB1.o.trans (hba.mono (by omega)))
        have HP3:=ja (HP1.o.below (hba.mono (by omega)))
        have HPT3:=ja (HPT.o (w3.alloc (.cells #[.int .i64 vd,.slice A3 n3 c3] 24)) w3.heap.size A3 n3 c3 (Rd.alloc (Rd.of_own ho3) (Nat.le_refl _) _) (by simp))
        obtain⟨p0,p1,pf0,pf1⟩:=HN3.o.two
        obtain⟨k0,k1,kf0,kf1⟩:=HR3.o.two
        clear ho3 hb3 hba HR1 HX1 HB1 HV1 HP1)
     | (go_at_call 53;refine HPT3.o.mono ?_;rintro e w4 ⟨rfl,hb4⟩
        (try simp only[World.size_alloc] at hb4)
        have hz4:=hb4.size
        simp only[World.size_alloc] at hz4
        have HR4:=ja (HR3.o.below hb4 (by omega));have HX4:=ja (HX3.o.below hb4 (by omega));have HB4:=ja (HB3.o.trans (hb4.mono (by omega)))
        have HP4:=ja (HP3.o.below (hb4.mono (by omega)))
        obtain⟨v0,v1,vf0,vf1⟩:=HR4.o.two
        obtain⟨z0,z1,zf0,zf1⟩:=HX4.o.two
        clear hb4 HR3 HX3 HB3 HP3 HPT3))
    all_goals try (exfalso;have h0:=‹(bb==0)=false›;have h1:=‹bb=0›;simp[h1] at h0;done)
    all_goals try (exact HPOST.o _ _ 3 (H3.o (by omega)) (Below.setCell (Below.setCell HB4.o (p:=⟨w.heap.size+1,0,none⟩) (by simp) _) (p:=⟨w.heap.size+1,1,none⟩) (by simp) _) ((HR4.o.set_ 0 _).set_ 1 _) rfl rfl rfl)
    all_goals try (exact HPOST.o _ _ 9 (H9.o (by omega) (by simpa using ‹(bb==0)=true›)) (Below.setCell (Below.setCell HB4.o (p:=⟨w.heap.size+1,0,none⟩) (by simp) _) (p:=⟨w.heap.size+1,1,none⟩) (by simp) _) ((HR4.o.set_ 0 _).set_ 1 _) rfl rfl rfl)
    all_goals try (exact HPOST.o _ _ 7 (H7.o (by omega) (by assumption) (by assumption)) (Below.setCell (Below.setCell HB4.o (p:=⟨w.heap.size+1,0,none⟩) (by simp) _) (p:=⟨w.heap.size+1,1,none⟩) (by simp) _) ((HR4.o.set_ 0 _).set_ 1 _) rfl rfl rfl)
    all_goals try (exact HPOST.o _ _ 7 (H6.o (by omega) (by assumption) (by simpa using ‹(of==bb)=true›)) (Below.setCell (Below.setCell HB4.o (p:=⟨w.heap.size+1,0,none⟩) (by simp) _) (p:=⟨w.heap.size+1,1,none⟩) (by simp) _) ((HR4.o.set_ 0 _).set_ 1 _) rfl rfl rfl)
    all_goals try (exact HPOST.o _ _ 8 (H8.o (by omega) (by assumption) (by assumption) (by simpa using ‹(of==bb)=false›) (by omega)) (Below.setCell (Below.setCell HB4.o (p:=⟨w.heap.size+1,0,none⟩) (by simp) _) (p:=⟨w.heap.size+1,1,none⟩) (by simp) _) ((HR4.o.set_ 0 _).set_ 1 _) rfl rfl rfl)
    have hPp:¬P<=0:=by omega
    have hEq:=HE.o (by omega) (by assumption) (by assumption) (by simpa using ‹(of==bb)=false›) (by omega)
    have hof:=HOF.o (by omega)
    have hl8:l.length<8:=by omega
    have hbp:0<bb:=by omega
    obtain⟨d,hd⟩:∃d,of.tdiv bb=d:=⟨_,rfl⟩
    have hd0:0<=d/\d<=of:=by
     rw[<-hd,Int.tdiv_eq_ediv_of_nonneg hof]
     exact⟨Int.ediv_nonneg hof (by omega),Int.ediv_le_self _ hof⟩
    have hwr:IntKind.i64.wrap (of.tdiv bb)=d:=by rw[hd,IntKind.wrap_i64];omega
    have hms:∀p∈l,p.ms.length<=100/\(∀m∈p.ms,0<=m/\m<=1000)/\1<=zJ 1 p.ms:=by
     intro p hp
     have hpf:p.flat∈l.map PieceV.flat:=List.mem_map_of_mem hp
     obtain⟨_,h1,h2⟩:=hOP.2.2 _ hpf
     have h3:=hq0 _ hpf
     have h4:=jt5 p.ms 1 (by omega) (λm hm=>by have:=h2 m hm;omega)
     have h2':∀m∈p.ms,2<=m/\m<=1000:=h2
     have h1':p.ms.length<=6:=h1
     have h3':zJ 1 p.ms≠0:=h3
     exact⟨by omega,λm hm=>by have:=h2' m hm;omega,by omega⟩
    have HMK:=ja (λ(W:World) (hb:Below w4.heap.size w4 W)=>jbn6 wh A l.length c B l d W (HP4.o.below (hb.mono (by omega))) (by have:=hb.size;omega) (by omega) hms)
    rw[hd] at hEq
    have HEQ:=ja hEq
    have hn4:=HP4.o.1.nmax
    clear hEq hms hq0 hOP HE H3 H9 H7 H6 H8 HOF hd HPT HW HCK
    have hb4:Hid (Below w4.heap.size w4 w4.drew):=ja (Below.drew (Below.refl _ _))
    have hb4':Hid (Below w4.heap.size w4 (w4.alloc (.cells #[.bool false,.slice none 0 0] 94)).drew):=ja (Below.drew ((Below.refl _ _).alloc (Nat.le_refl _) _))
    have HN4:=ja (jh.new w4 94 #[.bool false,.slice none 0 0])
    have HMA:=ja (HMK.o _ hb4.o)
    have HMB:=ja (HMK.o _ hb4'.o)
    have hmp:=jbb1 (l.map PieceV.flat) d
    generalize QA (l.map PieceV.flat) d=ms at *
    have za0:∀o,(w4.alloc o).cell? ⟨w.heap.size,0,none⟩=some (.int .i64 wh):=λo=>(HX4.o.alloc o).cell 0
    have za1:∀o,(w4.alloc o).cell? ⟨w.heap.size,1,none⟩=some (.slice A l.length c):=λo=>(HX4.o.alloc o).cell 1
    go_region_law (first
     | (go_simp;go_at_call 127;refine HMA.o.mono ?_;rintro e w5 ⟨A5,c5,rfl,ho5,hb5⟩;have HO5:=ja (jO ho5 (show w4.heap.size<=_ by simp));have HB5:=ja (hb4.o.trans hb5);clear ho5 hb5)
     | (go_simp;go_at_call 127;refine HMB.o.mono ?_;rintro e w5 ⟨A5,c5,rfl,ho5,hb5⟩;have HO5:=ja (jO ho5 (show w4.heap.size+1<=_ by simp));have HB5:=ja (hb4'.o.trans (hb5.mono (by simp)));have HN5:=ja (HN4.o.drew.below hb5 (by simp));obtain⟨n50,n51,nf50,nf51⟩:=HN5.o.two;clear ho5 hb5))
    all_goals
     first
     | (obtain⟨W6,hW6⟩:∃W6,W6=w5.alloc (.cells #[.bool (decide (b<0)),.slice A5 ms.length c5] 94):=⟨_,rfl⟩
        obtain⟨Y,hY⟩:∃Y,Y=w5.heap.size:=⟨_,rfl⟩
        rw[<-hW6,<-hY]
        have HN6:Hid (jh W6 Y 94 #[.bool (decide (b<0)),.slice A5 ms.length c5]):=ja (by rw[hW6,hY];exact jh.new _ _ _)
        have HO6:Hid (W6.ownsRow w4.heap.size 3 1 (.slice A5 ms.length c5) ms.length (ms.map (Value.int .i64))):=ja (by rw[hW6];exact World.ownsRow.alloc HO5.o _)
        have HB6:Hid (Below w4.heap.size w4 W6):=ja (by rw[hW6];exact HB5.o.alloc HB5.o.size _)
        have hY4:w4.heap.size<=Y:=by rw[hY];exact HB5.o.size
        clear hW6 hY)
     | (obtain⟨W6,hW6⟩:∃W6,W6=(w5.setCell ⟨w4.heap.size,0,none⟩ (.bool (decide (b<0)))).setCell ⟨w4.heap.size,1,none⟩ (.slice A5 ms.length c5):=⟨_,rfl⟩
        obtain⟨Y,hY⟩:∃Y,Y=w4.heap.size:=⟨_,rfl⟩
        rw[<-hW6]
        have HN6:Hid (jh W6 Y 94 #[.bool (decide (b<0)),.slice A5 ms.length c5]):=ja (by rw[hW6,hY];exact(HN5.o.set_ 0 _).set_ 1 _)
        have HO6:Hid (W6.ownsRow w4.heap.size 3 1 (.slice A5 ms.length c5) ms.length (ms.map (Value.int .i64))):=ja (by rw[hW6];exact jO (jC (jC HO5.o HN5.o (by decide)) (HN5.o.set_ 0 _) (by decide)) (by omega))
        have HB6:Hid (Below w4.heap.size w4 W6):=ja (by rw[hW6];exact(HB5.o.setCell (by show _<=w4.heap.size;omega) _).setCell (by show _<=w4.heap.size;omega) _)
        have hY4:w4.heap.size<=Y:=by omega
        clear hW6 HN5 n50 n51 nf50 nf51
        subst hY)
     have hz6:=HB6.o.size
     have HX6:=ja (HX4.o.below HB6.o (by omega));have HR6:=ja (HR4.o.below HB6.o (by omega));have HP6:=ja (HP4.o.below (HB6.o.mono (by omega)))
     have HB6w:=ja (HB4.o.trans (HB6.o.mono (by omega)))
     clear HMA HMB za0 za1 HMK hb4 hb4' HN4 HO5 HB5 z0 z1 zf0 zf1 v0 v1 vf0 vf1 HX4 HR4 HP4 HB4
     obtain⟨n60,n61,nf60,nf61⟩:=HN6.o.two
     obtain⟨z0,z1,zf0,zf1⟩:=HX6.o.two
     obtain⟨v0,v1,vf0,vf1⟩:=HR6.o.two
     have hI6:qP W6 W6.heap.size A5 ms.length c5 ms:=Rd.of_own HO6.o
     have hml:ms.length-1<ms.length:=by omega
     obtain⟨ad5,hA5,hc5⟩:=qP.at_ hI6 hml
     have heq:=HEQ.o
     unfold zg1 at heq
     rw[jca4 hml] at heq
     generalize ms[ms.length-1]=lm at *
     subst hA5
     clear hI6
     by_cases h6:6<(ms.length:Int)
     case' pos=>
      have HV:=ja (heq.trans (if_pos (.inl (by omega))))
      clear heq HEQ
      go_wp2
      exact HPOST.o _ _ 10 HV.o (Below.setCell (Below.setCell HB6w.o (p:=⟨w.heap.size+1,0,none⟩) (by simp) _) (p:=⟨w.heap.size+1,1,none⟩) (by simp) _) ((HR6.o.set_ 0 _).set_ 1 _) rfl rfl rfl
     by_cases h1000:1000<lm
     case' pos=>
      have HV:=ja (heq.trans (if_pos (.inr h1000)))
      clear heq HEQ
      go_wp2
      exact HPOST.o _ _ 10 HV.o (Below.setCell (Below.setCell HB6w.o (p:=⟨w.heap.size+1,0,none⟩) (by simp) _) (p:=⟨w.heap.size+1,1,none⟩) (by simp) _) ((HR6.o.set_ 0 _).set_ 1 _) rfl rfl rfl
     have HV:=ja (heq.trans (if_neg (by rintro(h|h);exact h6 (by omega);exact h1000 h)))
     clear heq HEQ
     go_wp2
     clear HN3 p0 p1 pf0 pf1 hc5
     have hP6:=HP6.o
     have hCP:=ja (λ(W:World) (hb:Below W6.heap.size W6 W)=>jay8 B A l.length c l W (hP6.1.below (hb.mono (by omega))) rfl (by have:=hb.size;omega) (by omega))
     obtain⟨i1,hi1,hy0,hy1,hy2⟩:=info_parts Tryz.infoPiece
     have hbA:Hid (Below W6.heap.size W6 W6.drew):=ja (Below.drew (Below.refl _ _))
     have hbB:Hid (Below W6.heap.size W6 (W6.alloc (.cells #[.bool (decide (b<0)),.slice (some ad5) ms.length c5] 94)).drew):=ja (Below.drew ((Below.refl _ _).alloc (Nat.le_refl _) _))
     have HLB:=ja (jh.new W6 94 #[.bool (decide (b<0)),.slice (some ad5) ms.length c5])
     have HCA:=ja (hCP.o _ hbA.o)
     have HCB:=ja (hCP.o _ hbB.o)
     have za0:∀o,(W6.alloc o).cell? ⟨w.heap.size,0,none⟩=some (.int .i64 wh):=λo=>(HX6.o.alloc o).cell 0
     have za1:∀o,(W6.alloc o).cell? ⟨w.heap.size,1,none⟩=some (.slice A l.length c):=λo=>(HX6.o.alloc o).cell 1
     clear hP6 hCP
     go_region_law (first
      | (refine step_append_lies _ rfl _ _ 41 rfl W6.heap.size 94 i1 (.agg #[.bool false,.slice none 0 0]) 2 32 Tryz.underlying41 hi1 hy0 hy1 hy2 rfl (by decide) (.slice A7 l.length c7) l.length _ rfl (World.ownsRow.alloc HO7.o _) ⟨w7.heap.size,0,none⟩ 1 1 [.bool (decide (b<0)),.slice (some ad5) ms.length c5] rfl rfl (zx _ _ _ _) (by simp[Value.oneCell']) (by decide) (by unfold maxLen;omega) (by omega) (by first|omega|(simp;omega)) _ rfl ?_;intro g cap w8 hown' hgrow hat hlt3;have HO8:=ja hown';have HB8:=ja ((HB7.o.alloc (by first|omega|(simp;omega)) _).grown hgrow (by first|omega|(simp;omega)) (λ_ e=>(HO7.o.lt _ e).1));have HX8:=ja (HX6.o.below HB8.o HX6.o.lt);obtain⟨x80,x81,xf80,xf81⟩:=HX8.o.two;clear hown' hgrow hat hlt3)
      | (go_simp;go_at_call 128;refine HCA.o.mono ?_;rintro e w7 ⟨A7,c7,rfl,ho7,hb7⟩;have HO7:=ja (jO ho7 (show W6.heap.size<=_ by simp));have HB7:=ja (hbA.o.trans hb7);have hz7:=HB7.o.size;have HN7:=ja (HN6.o.drew.below hb7 HN6.o.lt);obtain⟨n70,n71,nf70,nf71⟩:=HN7.o.two;clear ho7 hb7)
      | (go_simp;go_at_call 128;refine HCB.o.mono ?_;rintro e w7 ⟨A7,c7,rfl,ho7,hb7⟩;have HO7:=ja (jO ho7 (show W6.heap.size<=_ by simp));have HB7:=ja (hbB.o.trans (hb7.mono (by simp)));have hz7:=HB7.o.size;have HL7:=ja (HLB.o.drew.below hb7 (by simp));clear ho7 hb7)
      | (refine step_append_lies _ rfl _ _ 41 rfl W6.heap.size 94 i1 (.agg #[.bool false,.slice none 0 0]) 2 32 Tryz.underlying41 hi1 hy0 hy1 hy2 rfl (by decide) (.slice A7 l.length c7) l.length _ rfl HO7.o ⟨W6.heap.size,0,none⟩ 1 1 [.bool (decide (b<0)),.slice (some ad5) ms.length c5] rfl rfl (World.news_of_block HL7.o) (by simp[Value.oneCell']) (by decide) (by unfold maxLen;omega) (by omega) (by first|omega|(simp;omega)) _ rfl ?_;intro g cap w8 hown' hgrow hat hlt3;have HO8:=ja hown';have HB8:=ja (HB7.o.grown hgrow (by first|omega|(simp;omega)) (λ_ e=>(HO7.o.lt _ e).1));have HX8:=ja (HX6.o.below HB8.o HX6.o.lt);obtain⟨x80,x81,xf80,xf81⟩:=HX8.o.two;clear hown' hgrow hat hlt3))
     all_goals
      have hz8:=HB8.o.size
      obtain⟨hp8,hoff8⟩:=jaz3 (w:=w) (HP6.o.below (HB8.o.mono (by omega))) (by omega) (jO HO8.o (show w4.heap.size<=_ by omega)) (jG HO6.o HB8.o) (by omega)
      have HR8:=HR6.o.below HB8.o HR6.o.lt
      have HBz:=HB6w.o.trans (HB8.o.mono (by omega))
      have HX9:Hid (jh (w8.setCell ⟨w.heap.size,1,none⟩ (.slice (some ⟨g,0,none⟩) (l.length+1) cap)) w.heap.size 43 #[.int .i64 wh,.slice (some ⟨g,0,none⟩) (l.length+1) cap]):=ja (HX8.o.set_ 1 _)
      have HR9:=ja (HR8.far (p:=⟨w.heap.size,1,none⟩) (by simp) (.slice (some ⟨g,0,none⟩) (l.length+1) cap))
      have HP9:=ja (hp8.off_set (i:=1) (hoff8 w.heap.size (by omega) (HP6.o.off_of hB)) (.slice (some ⟨g,0,none⟩) (l.length+1) cap))
      have HB9:=ja (HBz.setCell (p:=⟨w.heap.size,1,none⟩) (by simp) (.slice (some ⟨g,0,none⟩) (l.length+1) cap))
      have HOF9:=ja hoff8
      have hoff2:=hoff8 (w.heap.size+1) (by omega) (HP6.o.off_of (by omega))
      have HOFF2:=ja hoff2
      have HPO:=ja (HP6.o.off_of (Nat.le_refl _))
      have hz9:(w8.setCell ⟨w.heap.size,1,none⟩ (.slice (some ⟨g,0,none⟩) (l.length+1) cap)).heap.size=w8.heap.size:=by simp
      rw[<-hz9] at HP9
      clear hp8 hoff8 HR8 HBz HO8 HB8 HX8 x80 x81 xf80 xf81 HO6 HN6 HB6 HX6 HR6 HP6 HB6w HO7 HB7 HCA HCB HLB za0 za1 hbA hbB n60 n61 nf60 nf61 z0 z1 zf0 zf1 v0 v1 vf0 vf1 hoff2 hz9 hz8
      generalize w8.setCell ⟨w.heap.size,1,none⟩ (.slice (some ⟨g,0,none⟩) (l.length+1) cap)=W9 at *
      obtain⟨z0,z1,zf0,zf1⟩:=HX9.o.two
      obtain⟨v0,v1,vf0,vf1⟩:=HR9.o.two
      go_wp2
      have hpq:=((HP9.o.off_set (i:=0) HOFF2.o (.int .i64 wh)).off_set (i:=1) HOFF2.o (.slice (some ⟨g,0,none⟩) (l.length+1) cap))
      refine HPOST0.o _ _ wh (some ⟨g,0,none⟩) (l.length+1) cap _ 0 (HV.o.trans (by simp[PieceV.flat])) (hpq.more (by simp)) (λg' hg' h=>HOF9.o g' (by omega) h) (Below.setCell (Below.setCell HB9.o (p:=⟨w.heap.size+1,0,none⟩) (by simp) _) (p:=⟨w.heap.size+1,1,none⟩) (by simp) _) ((HR9.o.set_ 0 _).set_ 1 _) rfl rfl rfl
   ·rw[if_pos hvc] at hres
    have HV:=ja hres.symm
    have hn3:(vc !=0)=true:=by simpa using hvc
    clear hres hVB hOP hvc
    go_wp2_with (first
     | (go_at_call 71;refine HCK.o.mono ?_;rintro e w1 ⟨rfl,hb1⟩
        have hz1:=hb1.size
        have HR1:=ja (HR0.o.below hb1 (by omega));have HX1:=ja (HX0.o.below hb1 (by omega));have HB1:=ja (HB0.o.trans (hb1.mono (by omega)))
        have HV1:=ja (HVL.o _ hb1)
        obtain⟨u0,u1,uf0,uf1⟩:=HR1.o.two
        obtain⟨y0,y1,yf0,yf1⟩:=HX1.o.two
        clear hb1 HVL)
     | (go_at_call 54;refine(HW.o _).mono ?_;rintro e w2 ⟨rfl,hw⟩;subst w2)
     | (go_at_call 33;refine HV1.o.mono ?_;rintro e w3 ⟨A3,n3,c3,rfl,ho3,hb3⟩
        have hz3:=hb3.size
        have hba:Below w1.heap.size w1 (w3.alloc (.cells #[.int .i64 vd,.slice A3 n3 c3] 24)):=hb3.alloc (by omega) _
        have HR3:=ja (HR1.o.below hba (by omega));have HB3:=ja (HB1.o.trans (hba.mono (by omega)))
        obtain⟨k0,k1,kf0,kf1⟩:=HR3.o.two
        clear ho3 hb3 hba HR1 HX1 HB1 HV1))
    exact HPOST.o _ _ vc HV.o (Below.setCell (Below.setCell HB3.o (p:=⟨w.heap.size+1,0,none⟩) (by simp) _) (p:=⟨w.heap.size+1,1,none⟩) (by simp) _) ((HR3.o.set_ 0 _).set_ 1 _) rfl rfl rfl
def jy2 (n:Int):Nat->Int->List (Bool×List Int)->List (Bool×List Int)
 | 0,_,l=>l
 | k+1,wh,l=>if(qp wh l n).2.2=0 then jy2 n k wh (qp wh l n).2.1 else l
def jac2(wh:Int)(l:List (Bool×List Int))(n most:Int):Int×List (Bool×List Int)×Int:=
 if ZO wh l=false then(0,[],2)
 else if zz n 1 1000=false\/zz most 0 8=false then(0,[],3)
 else(wh,jy2 n most.toNat wh l,0)
theorem jaz1{wh n:Int}{l:List (Bool×List Int)}(h:(qp wh l n).2.2=0):(qp wh l n).1=wh:=by
 have key:∀(r:Int×List (Bool×List Int)×Int),qp wh l n=r->r.2.2=0->r.1=wh:=by
  intro r hr h0
  unfold qp at hr
  split at hr
  ·subst hr;simp at h0
  ·split at hr
   ·subst hr;simp at h0
   ·split at hr
    ·rename_i h2
     subst hr;exact absurd h0 h2
    ·split at hr
     ·subst hr;simp at h0
     ·unfold jac8 at hr
      split at hr
      ·subst hr;simp at h0
      ·split at hr
       ·subst hr;simp at h0
       ·split at hr
        ·subst hr;simp at h0
        ·unfold zg1 at hr
         split at hr
         ·subst hr;simp at h0
         ·subst hr;rfl
 exact key _ rfl h
theorem jbk9 (wh:Int) (A:Option Addr) (n c B:Nat) (l:List PieceV) (m most:Int) (w:World) (hp:jD w B A n c l) (hB:B<=w.heap.size) :
  Calls Tryz.prog 31 #[.agg #[.int .i64 wh,.slice A n c],.int .i64 m,.int .i64 most] w (jh0 w A l (jac2 wh (l.map PieceV.flat) m most)):=by
 have hl:=hp.len
 subst hl
 obtain⟨w0,hw0⟩:∃w0,w0=(w.alloc (.cells #[.int .i64 wh,.slice A l.length c] 43)).alloc (.cells #[.int .i64 0,.slice none 0 0] 43):=⟨_,rfl⟩
 have hz0:w0.heap.size=w.heap.size+2:=by rw[hw0];simp
 have h01:Below w.heap.size w w0:=by rw[hw0];exact((Below.refl _ _).alloc (Nat.le_refl _) _).alloc (by simp) _
 have HX0:Hid (jh w0 w.heap.size 43 #[.int .i64 wh,.slice A l.length c]):=ja (by rw[hw0];exact(jh.new w _ _).alloc _)
 have HR0:Hid (jh w0 (w.heap.size+1) 43 #[.int .i64 0,.slice none 0 0]):=ja (by
  rw[hw0]
  have h:=jh.new (w.alloc (.cells #[.int .i64 wh,.slice A l.length c] 43)) 43 #[.int .i64 0,.slice none 0 0]
  rwa [World.size_alloc] at h)
 have HP0:=ja (hp.below (h01.mono hB))
 have HPA:=ja (λg (h:B<=g)=>hp.off_of h)
 have HCK:=ja (Zi wh A l.length c B l w0 HP0.o (by omega))
 have HB0:=ja h01
 obtain⟨res,hres⟩:∃res,jac2 wh (l.map PieceV.flat) m most=res:=⟨_,rfl⟩
 have hpost0:∀(W:World) (a:Act) (x:Int) (A':Option Addr) (n' c':Nat) (l':List PieceV) (y:Int),res=(x,l'.map PieceV.flat,y)->jD W W.heap.size A' n' c' l'->(∀g,g<w.heap.size->jQ g A l->jQ g A' l')->Below w.heap.size w W->jh W (w.heap.size+1) 43 #[.int .i64 x,.slice A' n' c'] ->
   a.tmps.getD 6 undef=.pointer (some ⟨w.heap.size+1,0,none⟩)->a.tmps.getD 7 undef=.int .i64 y->a.defers=[] ->
   bodyPost Tryz.prog Tryz.f31 (jh0 w A l res) .ret a W:=by
  intro W a x A' n' c' l' y e1 e8 e9 e3 e4 e5 e6 e7
  refine jq (p:=6) (u:=7) (ty:=43) rfl e5 e4 Tryz.underlying43 rfl Tryz.sizeOld e7 ?_
  rw[e6,e1]
  exact⟨A',n',c',l',rfl,e8,rfl,e9,e3⟩
 have HPOST0:=ja hpost0
 have hpost:∀(W:World) (a:Act) (y:Int),res=(0,[],y)->Below w.heap.size w W->jh W (w.heap.size+1) 43 #[.int .i64 0,.slice none 0 0] ->
   a.tmps.getD 6 undef=.pointer (some ⟨w.heap.size+1,0,none⟩)->a.tmps.getD 7 undef=.int .i64 y->a.defers=[] ->
   bodyPost Tryz.prog Tryz.f31 (jh0 w A l res) .ret a W:=by
  intro W a y e1 e3 e4 e5 e6 e7
  exact HPOST0.o W a 0 none 0 0 [] y e1 (jD.nil _ _) (λg _ _=>jQ.nil g) e3 e4 e5 e6 e7
 have HPOST:=ja hpost
 rw[hres]
 unfold jac2 at hres
 clear hp h01 hpost hpost0
 have HW1:=ja (λW=>jN m 1 1000 W)
 have HW2:=ja (λW=>jN most 0 8 W)
 go_enter Tryz.func31,Tryz.ntmps31
 go_wp2_with fail
 rw[<-hw0]
 clear hw0
 obtain⟨x0,x1,xf0,xf1⟩:=HX0.o.two
 obtain⟨r0,r1,rf0,rf1⟩:=HR0.o.two
 cases hok:ZO wh (l.map PieceV.flat)
 ·rw[if_pos hok] at hres
  have HV:=ja hres.symm
  rw[hok] at HCK
  simp only[QK] at HCK
  clear hok hres
  go_wp2_with (first
   | (go_at_call 71;refine HCK.o.mono ?_;rintro e w1 ⟨rfl,hb1⟩
      have HR1:=ja (HR0.o.below hb1 (by omega));have HB1:=ja (HB0.o.trans (hb1.mono (by omega)))
      obtain⟨u0,u1,uf0,uf1⟩:=HR1.o.two
      clear hb1))
  exact HPOST.o _ _ 2 HV.o (Below.setCell (Below.setCell HB1.o (p:=⟨w.heap.size+1,0,none⟩) (by simp) _) (p:=⟨w.heap.size+1,1,none⟩) (by simp) _) ((HR1.o.set_ 0 _).set_ 1 _) rfl rfl rfl
 ·rw[if_neg (by simp[hok])] at hres
  rw[hok] at HCK
  simp only[QK] at HCK
  clear hok
  by_cases hin:zz m 1 1000=false\/zz most 0 8=false
  ·rw[if_pos hin] at hres
   have HV:=ja hres.symm
   clear hres
   generalize zz m 1 1000=i1 at *
   generalize zz most 0 8=i2 at *
   cases i1
   all_goals
    try (have h2:i2=false:=by simpa using hin)
    try subst h2
    clear hin
    go_wp2_with (first
     | (go_at_call 71;refine HCK.o.mono ?_;rintro e w1 ⟨rfl,hb1⟩
        have HR1:=ja (HR0.o.below hb1 (by omega));have HB1:=ja (HB0.o.trans (hb1.mono (by omega)))
        obtain⟨u0,u1,uf0,uf1⟩:=HR1.o.two
        clear hb1)
     | (go_at_call_of 54 m;refine(HW1.o _).mono ?_;rintro e w2 ⟨rfl,hw⟩;subst w2)
     | (go_at_call_of 54 most;refine(HW2.o _).mono ?_;rintro e w2 ⟨rfl,hw⟩;subst w2))
    exact HPOST.o _ _ 3 HV.o (Below.setCell (Below.setCell HB1.o (p:=⟨w.heap.size+1,0,none⟩) (by simp) _) (p:=⟨w.heap.size+1,1,none⟩) (by simp) _) ((HR1.o.set_ 0 _).set_ 1 _) rfl rfl rfl
  ·rw[if_neg hin] at hres
   have h1:zz m 1 1000=true:=by
    cases h:zz m 1 1000
    ·exact absurd (.inl h) hin
    ·rfl
   have h2:zz most 0 8=true:=by
    cases h:zz most 0 8
    ·exact absurd (.inr h) hin
    ·rfl
   rw[h1] at HW1
   rw[h2] at HW2
   have hmb:0<=most/\most<=8:=by simpa [zz] using h2
   obtain⟨M,rfl⟩:∃M:Nat,most=M:=⟨most.toNat,by omega⟩
   rw[Int.toNat_natCast] at hres
   have HV:=ja hres.symm
   clear hin h1 h2 hres
   go_wp2_with (first
    | (go_at_call 71;refine HCK.o.mono ?_;rintro e w1 ⟨rfl,hb1⟩
       have hz1:=hb1.size
       have HR1:=ja (HR0.o.below hb1 (by omega));have HX1:=ja (HX0.o.below hb1 (by omega));have HB1:=ja (HB0.o.trans (hb1.mono (by omega)))
       have HP1:=ja (HP0.o.below (hb1.mono (by omega)))
       clear hb1)
    | (go_at_call_of 54 m;refine(HW1.o _).mono ?_;rintro e w2 ⟨rfl,hw⟩;subst w2)
    | (go_at_call_of 54 (M:Int);refine(HW2.o _).mono ?_;rintro e w2 ⟨rfl,hw⟩;subst w2))
   go_loopw [27] (λi W=>∃(k:Nat) (A':Option Addr) (c':Nat) (l':List PieceV),k<=M/\i=.int .i64 k/\jy2 m (M-k) wh (l'.map PieceV.flat)=jy2 m M wh (l.map PieceV.flat) /\
    jh W w.heap.size 43 #[.int .i64 wh,.slice A' l'.length c']/\jh W (w.heap.size+1) 43 #[.int .i64 0,.slice none 0 0]/\jD W W.heap.size A' l'.length c' l' /\
    (∀g,g<w.heap.size+2->jQ g A l->jQ g A' l')/\Below w.heap.size w W) (λi _=>M-(intOf i).toNat)
   case atStart=>exact⟨0,A,c,l,by omega,rfl,by simp,HX1.o,HR1.o,HP1.o.more (by omega),λg _ h=>h,HB1.o⟩
   case round=>
    obtain⟨k,A',c',l',hk,rfl,hch,hx,hr,hp',hoff,hbl⟩:=hrel
    have HCH:=ja hch;have HX:=ja hx;have HR:=ja hr;have HP:=ja hp';have HOFF:=ja hoff;have HBL:=ja hbl
    have hzr:=hbl.size
    have hlt:=hr.lt
    clear hch hx hr hp' hoff hbl HX1 HR1 HP1 HB1 HX0 HR0 HP0 HB0 HCK HW1 HW2 x0 x1 xf0 xf1 r0 r1 rf0 rf1
    obtain⟨x0,x1,xf0,xf1⟩:=HX.o.two
    obtain⟨r0,r1,rf0,rf1⟩:=HR.o.two
    by_cases hkM:(k:Int)<M
    ·obtain⟨j,hj⟩:∃j,M-k=j+1:=⟨M-k-1,by omega⟩
     have hch:=HCH.o
     rw[hj,jy2] at hch
     have hwh:=@jaz1 wh m (l'.map PieceV.flat)
     have HEX:=ja (jaz2 wh A' l'.length c' wr.heap.size l' m wr HP.o (Nat.le_refl _))
     generalize qp wh (l'.map PieceV.flat) m=ex at *
     obtain⟨ex1,ex2,ex3⟩:=ex
     dsimp only at hch hwh
     by_cases h0:ex3=0
     ·subst h0
      rw[if_pos rfl] at hch
      have hex:=hwh rfl
      subst hex
      have HCH2:=ja hch
      clear hch hwh HCH
      go_wp2_with (first
       | (go_at_call 73;refine HEX.o.mono ?_;rintro e w3 ⟨A3,n3,c3,l3,rfl,hp3,hl3,hoff3,hb3⟩
          have hz3:=hb3.size
          have hln3:=hp3.len
          subst hln3
          have HXa:=ja ((HX.o.below hb3 (by omega)).alloc (.cells #[.int .i64 ex1,.slice A3 l3.length c3] 43))
          have HRa:=ja ((HR.o.below hb3 (by omega)).alloc (.cells #[.int .i64 ex1,.slice A3 l3.length c3] 43))
          have HNa:=ja (jh.new w3 43 #[.int .i64 ex1,.slice A3 l3.length c3])
          have HPa:=ja (hp3.alloc (Nat.le_refl _) (.cells #[.int .i64 ex1,.slice A3 l3.length c3] 43))
          have HBa:=ja ((HBL.o.trans (hb3.mono (by omega))).alloc (by omega) (.cells #[.int .i64 ex1,.slice A3 l3.length c3] 43))
          have HOF3:=ja hoff3
          have HL3:=ja hl3
          obtain⟨y0,y1,yf0,yf1⟩:=HXa.o.two
          obtain⟨n0,n1,nf0,nf1⟩:=HNa.o.two
          clear hp3 hl3 hoff3 hb3))
      go_roundw
      case rel=>
       have hch2:=HCH2.o
       rw[<-HL3.o] at hch2
       have hoffX:jQ w.heap.size A3 l3:=HOF3.o _ (by omega) (HOFF.o _ (by omega) (HPA.o _ hB))
       refine⟨k+1,A3,c3,l3,by omega,by go_num,by rw[show M-(k+1)=j by omega];exact hch2,(HXa.o.set_ 0 _).set_ 1 _,(HRa.o.far (by simp) _).far (by simp) _,?_,λg hg h=>HOF3.o g (by omega) (HOFF.o g hg h),
        Below.setCell (Below.setCell HBa.o (p:=⟨w.heap.size,0,none⟩) (by simp) _) (p:=⟨w.heap.size,1,none⟩) (by simp) _⟩
       exact((HPa.o.off_set hoffX _).off_set hoffX _).more (by simp)
      case measure=>simp[intOf];omega
     ·rw[if_neg h0] at hch
      have hn3:(ex3 !=0)=true:=by simpa using h0
      have HV2:=ja (HV.o.trans (by rw[<-hch]))
      clear hch hwh HCH h0
      go_wp2_with (first
       | (go_at_call 73;refine HEX.o.mono ?_;rintro e w3 ⟨A3,n3,c3,l3,rfl,_,_,_,hb3⟩
          have hz3:=hb3.size
          have HXa:=ja ((HX.o.below hb3 (by omega)).alloc (.cells #[.int .i64 ex1,.slice A3 n3 c3] 43))
          have HRa:=ja ((HR.o.below hb3 (by omega)).alloc (.cells #[.int .i64 ex1,.slice A3 n3 c3] 43))
          have HPa:=ja ((HP.o.below hb3).alloc hz3 (.cells #[.int .i64 ex1,.slice A3 n3 c3] 43))
          have HBa:=ja ((HBL.o.trans (hb3.mono (by omega))).alloc (by omega) (.cells #[.int .i64 ex1,.slice A3 n3 c3] 43))
          obtain⟨y0,y1,yf0,yf1⟩:=HXa.o.two
          obtain⟨n0,n1,nf0,nf1⟩:=HRa.o.two
          clear hb3))
      have hoffX:jQ (w.heap.size+1) A' l':=HOFF.o _ (by omega) (HPA.o _ (by omega))
      exact HPOST0.o _ _ wh A' l'.length c' l' 0 HV2.o (((HPa.o.off_set hoffX _).off_set hoffX _).more (by simp;omega)) (λg hg h=>HOFF.o g (by omega) h)
       (Below.setCell (Below.setCell HBa.o (p:=⟨w.heap.size+1,0,none⟩) (by simp) _) (p:=⟨w.heap.size+1,1,none⟩) (by simp) _) ((HRa.o.set_ 0 _).set_ 1 _) rfl rfl rfl
    ·have hch:=HCH.o
     rw[show M-k=0 by omega,jy2] at hch
     have HV2:=ja (HV.o.trans (by rw[<-hch]))
     clear hch HCH
     go_wp2
     have hoffX:jQ (w.heap.size+1) A' l':=HOFF.o _ (by omega) (HPA.o _ (by omega))
     exact HPOST0.o _ _ wh A' l'.length c' l' 0 HV2.o (((HP.o.off_set hoffX _).off_set hoffX _).more (by simp)) (λg hg h=>HOFF.o g (by omega) h)
      (Below.setCell (Below.setCell HBL.o (p:=⟨w.heap.size+1,0,none⟩) (by simp) _) (p:=⟨w.heap.size+1,1,none⟩) (by simp) _) ((HR.o.set_ 0 _).set_ 1 _) rfl rfl rfl
