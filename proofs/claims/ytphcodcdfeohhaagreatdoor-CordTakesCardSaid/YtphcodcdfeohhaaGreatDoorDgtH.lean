import Derived.Test.YtphcodcdfeohhaaGreatDoorDgtG
set_option linter.unusedVariables false
set_option linter.unusedSimpArgs false
namespace Go.Proofs.YtphcodcdfeohhaaGreatDoor
set_option maxRecDepth 100000
set_option maxHeartbeats 8000000
open Go Go.RowKit
theorem jfs1(n:Int)(w:World)(h:-9000000000000000000<=n/\n<=9000000000000000000):Calls Tryz.prog 130 #[.int .i64 n] w fun e w'=>e=.returned (.int .i64 (n.natAbs:Int))/\w'=w:=by
 have hm:max n (-n)=(n.natAbs:Int):=by omega
 have hw:IntKind.i64.wrap (-n)=-n:=by rw[IntKind.wrap_i64];omega
 go_enter Tryz.func130,Tryz.ntmps130
 go_wp2
 go_ret
 exact⟨by first|rfl|simp[hm]|(congr 1;congr 1),rfl⟩
theorem jfg9{w w':World}{base s n:Nat}{e:TypeId}{v:Value}{xs:List Value}(h:w.ownsRow base e s v n xs){row:Option Nat}(hg:w.grownBy w' row)(hne:∀g,v.ownBlock=some g->row≠some g):w'.ownsRow base e s v n xs:=by
 refine h.kept hg ?_
 cases hv:v.ownBlock with
 | none=>exact .inl rfl
 | some g=>exact .inr (fun e=>hne g hv e.symm)
theorem jfa5 {ops:Array Oper} {o:Oper} {a:Act} {K:Act->World->Prop} {Q:Exit->Act->World->Prop} {E:Prop} {w:World} (hgd:o.guard=none) (s x:Operand)
  (ho:o.op=.call { callee:=.builtin .append,args:=#[s,x],argTypes:=#[52,52] }) (base:Nat) (A1:Option Addr) (n1 c1:Nat) (l1:List Int) (A:Option Addr) (n c B:Nat) (l:List Int)
  (hs:a.eval s=.slice A1 n1 c1) (hx:a.eval x=.slice A n c) (h1:w.ownsRow base 3 1 (.slice A1 n1 c1) n1 (l1.map (Value.int .i64))) (hl:zh7 w B A n c l) (hb:base<=w.heap.size) (hn:n1+n<=15000000000000)
  (h:∀A' c' w',w'.ownsRow base 3 1 (.slice A' (n1+n) c') (n1+n) ((l1++l).map (Value.int .i64))->w.grownBy w' (Value.slice A1 n1 c1).ownBlock->Below base w w'->K (a.put o.dst (.slice A' (n1+n) c')) w') :
  if Region.wanted o (yielded ops a.tmps)=true then Oper.wp Tryz.prog o a w K Q else E:=by
 obtain⟨i1,hi1,hy0,hy1,hy2⟩:=info_parts Tryz.infoIntD
 refine jfg1 hgd s x 52 ho base 3 i1 (.int .i64 0) 1 8 Tryz.underlying52 hi1 hy0 hy1 hy2 rfl (by decide) _ n1 (l1.map (Value.int .i64)) hs h1 A n c B (l.map (Value.int .i64)) hx hl (jfb9 l) (by unfold maxLen;omega) (by omega) hb ?_
 intro A' c' w' h3 h4
 rw[<-List.map_append] at h3
 exact h A' c' w' h3 h4 ((Below.refl base w).grown h4 hb (fun j e=>(h1.lt j e).1))
theorem jfc7 {ops:Array Oper} {o:Oper} {a:Act} {K:Act->World->Prop} {Q:Exit->Act->World->Prop} {E:Prop} {w:World} (hgd:o.guard=none) (s x:Operand)
  (ho:o.op=.call { callee:=.builtin .append,args:=#[s,x],argTypes:=#[52,52] }) (base:Nat) (A1:Option Addr) (A:Option Addr) (n c B:Nat) (l:List Int)
  (hs:a.eval s=.slice A1 0 0) (hx:a.eval x=.slice A n c) (h1:w.ownsRow base 3 1 (.slice A1 0 0) 0 []) (hl:zh7 w B A n c l) (hb:base<=w.heap.size) (hn:n<=15000000000000)
  (h:∀A' c' w',w'.ownsRow base 3 1 (.slice A' n c') n (l.map (Value.int .i64))->w.grownBy w' (Value.slice A1 0 0).ownBlock->Below base w w'->K (a.put o.dst (.slice A' n c')) w') :
  if Region.wanted o (yielded ops a.tmps)=true then Oper.wp Tryz.prog o a w K Q else E:=by
 refine jfa5 hgd s x ho base A1 0 0 [] A n c B l hs hx h1 hl hb (by omega) ?_
 intro A' c' w' h3 h4 h5
 rw[Nat.zero_add] at h3 ⊢
 exact h A' c' w' h3 h4 h5
def jfj9(w:World)(v:Int)(e:Ending)(w':World):Prop:=
 ∃(L:List Int) (A:Option Addr) (c:Nat),e=.returned (.slice A L.length c)/\zh7 w' w'.heap.size A L.length c L/\Dig L/\valD L=v/\L.length % 2=0/\L.length<=200/\Below w.heap.size w w'
theorem jfa8(c n:Int)(w:World)(hc:-9000000000000000000<=c/\c<=9000000000000000000)(hn:0<=n/\n<=9223372036854775807):Calls Tryz.prog 86 #[.int .i64 c,.int .i64 n] w (jfj9 w (c*c*n)):=by
 obtain⟨ab,hab⟩:∃ab:Nat,ab=c.natAbs:=⟨_,rfl⟩
 have HAB:Hid (∀W,Calls Tryz.prog 130 #[.int .i64 c] W fun e w'=>e=.returned (.int .i64 (ab:Int))/\w'=W):=ja0 (fun W=>hab▸jfs1 c W hc)
 have hab1:(ab:Int)<=9000000000000000000:=by omega
 have HSQ:Hid (c*c*n=n*(ab:Int) ^ 2):=ja0 (by
  have:c*c=(ab:Int) ^ 2:=by
   rw[hab,Int.pow_succ,Int.pow_succ,Int.pow_zero,Int.one_mul]
   rcases Int.natAbs_eq c with h|h
   ·rw[<-h]
   ·have h2:(c.natAbs:Int)=-c:=by omega
    rw[h2,Int.neg_mul_neg]
  rw[this,Int.mul_comm])
 clear hab
 rw[HSQ.out]
 clear HSQ hc
 go_enter Tryz.func86,Tryz.ntmps86
 go_wp2_with (first
  | (go_at_call 134;refine(jfb6 n w hn.1 hn.2).mono ?_;rintro e w11 ⟨o1,A11,c11,rfl,ho,hd,hv,he,hl,hb⟩;have HO:=ja0 ho;have HD:=ja0 (And.intro hd (And.intro hv hl));have HB11:=ja0 hb;clear ho hd hv he hl hb))
 go_loopw [5,6] (fun ov kv W=>∃(k:Nat) (o:List Int) (A:Option Addr) (c':Nat),ov=.slice A o.length c'/\kv=.int .i64 k/\k<=2/\Dig o/\valD o=n*(ab:Int) ^ k/\o.length<=20+45*k/\zh7 W W.heap.size A o.length c' o/\Below w.heap.size w W) (fun _ kv _=>2-(intOf kv).toNat)
 case atStart=>exact⟨0,o1,A11,c11,rfl,rfl,by omega,HD.out.1,by rw[HD.out.2.1];simp,by have:=HD.out.2.2;omega,DRow.read HO.out,HB11.out⟩
 case round=>
  obtain⟨k,o,Ao,co,rfl,rfl,hk2,hdo,hvo,hlo,hqo,hb⟩:=hrel
  have HQO:=ja0 hqo
  have HDO:=ja0 hdo
  have HVO:=ja0 hvo
  have HB:=ja0 hb
  have hol:o.length<=110:=by omega
  clear hqo hdo hvo hb HO HD HB11
  by_cases hk:(k:Int)<2
  ·go_upto_region 6 with(first
    | (go_at_call 134;refine(jfb6 (ab:Int) _ (by omega) (by omega)).mono ?_;rintro e w19 ⟨l,Al,cl,rfl,ho,hd,hv,he,hl,hb⟩;have HO19:=ja0 ho;have HD19:=ja0 (And.intro hd hv);have HB19:=ja0 hb;clear ho hd hv he hb)
    | (go_at_call 130;refine(HAB.out _).mono ?_;rintro e w1 ⟨rfl,hw1⟩;subst w1))
   have HBa:=ja0 ((Below.refl wr.heap.size wr).alloc (Nat.le_refl _) (.cells #[] 3))
   have HB2:=ja0 (HBa.out.trans (HB19.out.mono HBa.out.size))
   have HQo:Hid (∀W,Below w19.heap.size w19 W->zh7 W w19.heap.size Ao o.length co o):=ja0 (fun W hb=>Rq.below (jab0 HQO.out HB2.out) hb)
   have HQl:Hid (∀W,Below w19.heap.size w19 W->zh7 W w19.heap.size Al l.length cl l):=ja0 (fun W hb=>Rq.below (DRow.read HO19.out) hb)
   have HBo:=ja0 (HB.out.trans (HB2.out.mono HB.out.size))
   have HDl:=ja0 HD19.out.1
   have HVl:=ja0 HD19.out.2
   clear HQO HB HBa HB2 HB19 HO19 HD19
   go_wp2
   go_loopw [7,9] (fun sv jv W=>∃(j:Nat) (S:List Int) (AS:Option Addr) (cS:Nat),sv=.slice AS S.length cS/\jv=.int .i64 j/\j<=l.length/\Dig S/\valD S=valD o*valD (l.take j)/\S.length<=o.length+3+2*j/\zh7 W W.heap.size AS S.length cS S/\Below w19.heap.size w19 W) (fun _ jv _=>l.length-(intOf jv).toNat)
   case atStart=>exact⟨0,[],_,0,rfl,rfl,Nat.zero_le _,Dig.nil,by simp[valD],by simp,⟨by simp,by simp,by omega,.inl rfl⟩,Below.refl _ _⟩
   case round=>
    obtain⟨j,S,AS,cS,rfl,rfl,hjl',hdS,hvS,hlS,hqS,hbi⟩:=hrel
    have HDS:=ja0 hdS
    have HVS:=ja0 hvS
    have HSi:=ja0 hqS
    have HBi:=ja0 hbi
    clear hdS hvS hqS hbi
    have hSb:S.length<=160:=by omega
    by_cases hj:(j:Int)<(l.length:Int)
    ·have hjl:j<l.length:=by omega
     go_upto_region 9 with fail
     refine jj7 (fun W'=>Below wr.drew.heap.size wr.drew W') 12 (fun _=>True) 12 (fun _=>True) (by kernel_rfl) ⟨Below.refl _ _,fun _=>trivial,fun _=>trivial⟩ (fun ja1=>?_)
     have HBw:=ja0 (HBi.out.trans ((Below.drew (Below.refl wr.heap.size wr)).mono HBi.out.size))
     have HSd:=ja0 (jab0 HSi.out (Below.drew (Below.refl wr.heap.size wr)))
     have HQd:=ja0 (Rq.more (HQo.out _ HBw.out) HBw.out.size)
     obtain⟨ad,rfl,hadb,h1⟩:=zh7.at_ (HQl.out _ HBw.out) hjl
     replace hadb:ad.block<wr.drew.heap.size:=Nat.lt_of_lt_of_le hadb HBw.out.size
     obtain⟨d,hdj⟩:∃d,d=l[j]:=⟨_,rfl⟩
     have hd9:0<=d/\d<=9:=hdj▸HDl.out.at_ hjl
     rw[<-hdj] at h1
     have HDJ:=ja0 hdj
     clear HBi HSi hdj
     generalize wr.drew=Wd at *
     refine ja2 1 rfl (by decide +kernel) (fun c a w h=>by first|exact h|(cases h;done)) (by rfl) (v:=?_) ?_ ja1 (fun ja4=>?_)
     rotate_left 1
     focus (intro w' hSw;clear hSw;go_simp;try with_reducible rfl)
     clear ja1
     rename ja8 _ _ _ _ _ _ _=>ja1
     (try simp only[Act.put,lA,lB,lC])
     refine ja2 5 rfl (by decide +kernel) (fun c a w h=>by first|exact h|(cases h;done)) (by rfl) (v:=?_) ?_ ja1 (fun ja4=>?_)
     rotate_left 1
     focus (intro w' hSw;clear hSw;go_simp;try with_reducible rfl)
     clear ja1
     rename ja8 _ _ _ _ _ _ _=>ja1
     (try simp only[Act.put,lA,lB,lC])
     refine ja2 6 rfl (by decide +kernel) (fun c a w h=>by first|exact h|(cases h;done)) (by rfl) (v:=?_) ?_ ja1 (fun ja4=>?_)
     rotate_left 1
     focus (intro w' hSw;clear hSw;go_simp;try with_reducible rfl)
     clear ja1
     rename ja8 _ _ _ _ _ _ _=>ja1
     (try simp only[Act.put,lA,lB,lC])
     refine ja2 7 rfl (by decide +kernel) (fun c a w h=>by first|exact h|(cases h;done)) (by rfl) (v:=?_) ?_ ja1 (fun ja4=>?_)
     rotate_left 1
     focus (intro w' hSw;clear hSw;go_simp;try with_reducible rfl)
     clear ja1
     rename ja8 _ _ _ _ _ _ _=>ja1
     (try simp only[Act.put,lA,lB,lC])
     refine ja2 8 rfl (by decide +kernel) (fun c a w h=>by first|exact h|(cases h;done)) (by rfl) (v:=?_) ?_ ja1 (fun ja4=>?_)
     rotate_left 1
     focus (intro w' hSw;clear hSw;go_simp;try with_reducible rfl)
     clear ja1
     rename ja8 _ _ _ _ _ _ _=>ja1
     (try simp only[Act.put,lA,lB,lC])
     refine ja2 9 rfl (by decide +kernel) (fun c a w h=>by first|exact h|(cases h;done)) (by rfl) (v:=?_) ?_ ja1 (fun ja4=>?_)
     rotate_left 1
     focus (intro w' hSw;obtain⟨hC,hF,hG⟩:=hSw;clear hG;have hF:=hC;have e1:=(hF.cell (p:=ad.add j) (by rw[jn2];exact hadb)).trans h1;clear hF;go_simp;try with_reducible rfl)
     clear ja1
     rename ja8 _ _ _ _ _ _ _=>ja1
     (try simp only[Act.put,lA,lB,lC])
     refine jff3 0 3 rfl rfl (by decide +kernel) (fun K hK=>?_) (fun K hK=>?_)
     ·go_simp
      have HBe:=ja0 ((Below.refl _ Wd).alloc (Nat.le_refl _) (.cells #[] 3))
      refine hK.out _ _ ⟨HBe.out,fun _=>trivial,fun _=>trivial⟩ (fun ja1=>?_)
      clear hK K
      (try simp only[Act.put,lA,lB,lC])
      refine jff3 2 3 rfl rfl (by decide +kernel) (fun K hK=>?_) (fun K hK=>?_)
      ·refine jfc7 rfl _ _ rfl Wd.heap.size (some ⟨Wd.heap.size,0,none⟩) AS S.length cS Wd.heap.size S rfl rfl (World.ownsRow_lit (base:=Wd.heap.size) (e:=3) (size:=1) Wd #[] 0 (Nat.le_refl _) (by unfold maxLen;omega) rfl) (Rq.below HSd.out ((Below.refl _ Wd).alloc (Nat.le_refl _) (.cells #[] 3))) (((Below.refl _ Wd).alloc (Nat.le_refl _) (.cells #[] 3))).size (by omega) ?_
       intro A2 c2 w2 ho2 hg2 hb2
       have HO2:=ja0 ho2
       have HB2:=ja0 ((((Below.refl _ Wd).alloc (Nat.le_refl _) (.cells #[] 3))).trans hb2)
       clear ho2 hg2 hb2
       refine hK.out _ _ ⟨HB2.out,fun _=>trivial,fun _=>trivial⟩ (fun ja1=>?_)
       clear hK K
       (try simp only[Act.put,lA,lB,lC])
       refine jb5 3 rfl (by decide +kernel) (fun K hK=>?_)
       go_simp
       have HB3:=ja0 (HB2.out.alloc HB2.out.size (.cells #[.int .i64 0] 3))
       refine hK.out _ _ ⟨HB3.out,fun _=>trivial,fun _=>trivial⟩ (fun ja1=>?_)
       clear hK K
       (try simp only[Act.put,lA,lB,lC])
       refine jb5 4 rfl (by decide +kernel) (fun K hK=>?_)
       refine jfa5 rfl _ _ rfl Wd.heap.size A2 S.length c2 S (some ⟨w2.heap.size,0,none⟩) 1 1 (w2.alloc (.cells #[.int .i64 0] 3)).heap.size [0] rfl rfl (World.ownsRow.alloc HO2.out _) (DRow.read (jdy0 Wd.heap.size w2 0 HB2.out.size)) (HB3.out).size (by omega) ?_
       intro A4 c4 w4 ho4 hg4 hb4
       have HO4:=ja0 ho4
       have HB4:=ja0 ((HB3.out).trans hb4)
       clear ho4 hg4 hb4
       clear HO2 HB2 HB3
       refine hK.out _ _ ⟨HB4.out,fun _=>trivial,fun _=>trivial⟩ (fun ja1=>?_)
       clear hK K
       (try simp only[Act.put,lA,lB,lC])
       refine jb5 10 rfl (by decide +kernel) (fun K hK=>?_)
       go_simp
       have HC:=ja0 (jcb2 Ao o.length co Wd.heap.size o d w4 (Rq.below HQd.out HB4.out) HB4.out.size HDO.out (by omega) (by omega))
       go_wp2_with (first
        | (go_at_call 132;refine HC.out.mono ?_;rintro e w36 ⟨p,A36,c36,rfl,ho36,hd36,hv36,hl36,hb36⟩;have HO36:=ja0 ho36;have HD36:=ja0 (And.intro hd36 (And.intro hv36 hl36));have HB36:=ja0 hb36;clear ho36 hd36 hv36 hl36 hb36))
       have HB5:=ja0 (HB4.out.trans (HB36.out.mono HB4.out.size))
       refine hK.out _ _ ⟨HB5.out,fun _=>trivial,fun _=>trivial⟩ (fun ja1=>?_)
       clear hK K HC
       (try simp only[Act.put,lA,lB,lC])
       refine jb5 11 rfl (by decide +kernel) (fun K hK=>?_)
       go_simp
       have hpl:=HD36.out.2.2
       have HC:=ja0 (jbb1 A4 (S.length+1) c4 (S++[0]) A36 p.length c36 p w36.heap.size w36 (jab0 (DRow.read HO4.out) HB36.out) (DRow.read HO36.out) (Nat.le_refl _) (HDS.out.append (Dig.zeros 1)) HD36.out.1 (by omega) (by omega))
       go_wp2_with (first
        | (go_at_call 87;refine HC.out.mono ?_;rintro e w37 ⟨S2,A37,c37,rfl,ho37,hd37,hv37,hl37,hb37⟩;have HO37:=ja0 ho37;have HD37:=ja0 (And.intro hd37 (And.intro hv37 hl37));have HB37:=ja0 hb37;clear ho37 hd37 hv37 hl37 hb37))
       have HB6:=ja0 (HB5.out.trans (HB37.out.mono HB5.out.size))
       refine hK.out _ _ ⟨HB6.out,fun _=>trivial,fun _=>trivial⟩ (fun ja1=>?_)
       clear hK K HC
       (try simp only[Act.put,lA,lB,lC])
       refine jb5 12 rfl (by decide +kernel) (fun K hK=>?_)
       go_simp
       refine hK.out _ _ ⟨HB6.out,fun _=>trivial,fun _=>trivial⟩ (fun ja1=>?_)
       clear hK K
       (try simp only[Act.put,lA,lB,lC])
       refine jf8 (by decide +kernel) ?_
       clear ja1
       have HF:=ja0 (And.intro HO37.out (And.intro HD37.out HB6.out))
       have HV2:Hid (valD S2=valD o*valD (l.take (j+1))):=ja0 (jfd9 hjl rfl HVS.out (by rw[HD37.out.2.1,HD36.out.2.1,HDJ.out]))
       have hS2:S2.length<=o.length+3+2*(j+1):=by have:=HD37.out.2.2;omega
       clear HO4 HB4 HB5 HB6 HO36 HB36 HB37 HO37 HD36 HD37
       go_wp2
       exact⟨⟨j+1,S2,A37,c37,rfl,by go_num,by omega,HF.out.2.1.1,HV2.out,hS2,DRow.read HF.out.1,HBw.out.trans (HF.out.2.2.mono HBw.out.size)⟩,by simp only[intOf];omega⟩
      ·go_simp
       have HB3:=ja0 (((Below.refl _ Wd).alloc (Nat.le_refl _) (.cells #[] 3)).alloc (by simp) (.cells #[.int .i64 0] 3))
       refine hK.out _ _ ⟨HB3.out,fun _=>trivial,fun _=>trivial⟩ (fun ja1=>?_)
       clear hK K
       (try simp only[Act.put,lA,lB,lC])
       refine jb5 2 rfl (by decide +kernel) (fun K hK=>?_)
       refine jfc7 rfl _ _ rfl Wd.heap.size (some ⟨Wd.heap.size,0,none⟩) AS S.length cS Wd.heap.size S rfl rfl (World.ownsRow.alloc (World.ownsRow_lit (base:=Wd.heap.size) (e:=3) (size:=1) Wd #[] 0 (Nat.le_refl _) (by unfold maxLen;omega) rfl) _) (Rq.below HSd.out HB3.out) (HB3.out).size (by omega) ?_
       intro A2 c2 w2 ho2 hg2 hb2
       have HO2:=ja0 ho2
       have HB2:=ja0 ((HB3.out).trans hb2)
       have HZ:Hid (w2.ownsRow Wd.heap.size 3 1 (.slice (some ⟨Wd.heap.size+1,0,none⟩) 1 1) 1 [.int .i64 0]):=ja0 (jfg9 (by have h:=(World.ownsRow_lit (base:=Wd.heap.size) (e:=3) (size:=1) (Wd.alloc (.cells #[] 3)) #[.int .i64 0] 1 (by simp) (by unfold maxLen;omega) rfl);rw[World.size_alloc] at h;exact h) hg2 (fun g e1 e2=>by
        have e3:Wd.heap.size+1=g:=Option.some.inj e1
        have e4:Wd.heap.size=g:=Option.some.inj e2
        omega))
       clear ho2 hg2 hb2
       refine hK.out _ _ ⟨HB2.out,fun _=>trivial,fun _=>trivial⟩ (fun ja1=>?_)
       clear hK K
       (try simp only[Act.put,lA,lB,lC])
       refine jb5 4 rfl (by decide +kernel) (fun K hK=>?_)
       refine jfa5 rfl _ _ rfl Wd.heap.size A2 S.length c2 S (some ⟨Wd.heap.size+1,0,none⟩) 1 1 (w2).heap.size [0] rfl rfl HO2.out (DRow.read HZ.out) (HB2.out).size (by omega) ?_
       intro A4 c4 w4 ho4 hg4 hb4
       have HO4:=ja0 ho4
       have HB4:=ja0 ((HB2.out).trans hb4)
       clear ho4 hg4 hb4
       clear HO2 HB2 HB3 HZ
       refine hK.out _ _ ⟨HB4.out,fun _=>trivial,fun _=>trivial⟩ (fun ja1=>?_)
       clear hK K
       (try simp only[Act.put,lA,lB,lC])
       refine jb5 10 rfl (by decide +kernel) (fun K hK=>?_)
       go_simp
       have HC:=ja0 (jcb2 Ao o.length co Wd.heap.size o d w4 (Rq.below HQd.out HB4.out) HB4.out.size HDO.out (by omega) (by omega))
       go_wp2_with (first
        | (go_at_call 132;refine HC.out.mono ?_;rintro e w36 ⟨p,A36,c36,rfl,ho36,hd36,hv36,hl36,hb36⟩;have HO36:=ja0 ho36;have HD36:=ja0 (And.intro hd36 (And.intro hv36 hl36));have HB36:=ja0 hb36;clear ho36 hd36 hv36 hl36 hb36))
       have HB5:=ja0 (HB4.out.trans (HB36.out.mono HB4.out.size))
       refine hK.out _ _ ⟨HB5.out,fun _=>trivial,fun _=>trivial⟩ (fun ja1=>?_)
       clear hK K HC
       (try simp only[Act.put,lA,lB,lC])
       refine jb5 11 rfl (by decide +kernel) (fun K hK=>?_)
       go_simp
       have hpl:=HD36.out.2.2
       have HC:=ja0 (jbb1 A4 (S.length+1) c4 (S++[0]) A36 p.length c36 p w36.heap.size w36 (jab0 (DRow.read HO4.out) HB36.out) (DRow.read HO36.out) (Nat.le_refl _) (HDS.out.append (Dig.zeros 1)) HD36.out.1 (by omega) (by omega))
       go_wp2_with (first
        | (go_at_call 87;refine HC.out.mono ?_;rintro e w37 ⟨S2,A37,c37,rfl,ho37,hd37,hv37,hl37,hb37⟩;have HO37:=ja0 ho37;have HD37:=ja0 (And.intro hd37 (And.intro hv37 hl37));have HB37:=ja0 hb37;clear ho37 hd37 hv37 hl37 hb37))
       have HB6:=ja0 (HB5.out.trans (HB37.out.mono HB5.out.size))
       refine hK.out _ _ ⟨HB6.out,fun _=>trivial,fun _=>trivial⟩ (fun ja1=>?_)
       clear hK K HC
       (try simp only[Act.put,lA,lB,lC])
       refine jb5 12 rfl (by decide +kernel) (fun K hK=>?_)
       go_simp
       refine hK.out _ _ ⟨HB6.out,fun _=>trivial,fun _=>trivial⟩ (fun ja1=>?_)
       clear hK K
       (try simp only[Act.put,lA,lB,lC])
       refine jf8 (by decide +kernel) ?_
       clear ja1
       have HF:=ja0 (And.intro HO37.out (And.intro HD37.out HB6.out))
       have HV2:Hid (valD S2=valD o*valD (l.take (j+1))):=ja0 (jfd9 hjl rfl HVS.out (by rw[HD37.out.2.1,HD36.out.2.1,HDJ.out]))
       have hS2:S2.length<=o.length+3+2*(j+1):=by have:=HD37.out.2.2;omega
       clear HO4 HB4 HB5 HB6 HO36 HB36 HB37 HO37 HD36 HD37
       go_wp2
       exact⟨⟨j+1,S2,A37,c37,rfl,by go_num,by omega,HF.out.2.1.1,HV2.out,hS2,DRow.read HF.out.1,HBw.out.trans (HF.out.2.2.mono HBw.out.size)⟩,by simp only[intOf];omega⟩
     ·go_simp
      have HB3:=ja0 ((Below.refl _ Wd).alloc (Nat.le_refl _) (.cells #[.int .i64 0] 3))
      refine hK.out _ _ ⟨HB3.out,fun _=>trivial,fun _=>trivial⟩ (fun ja1=>?_)
      clear hK K
      (try simp only[Act.put,lA,lB,lC])
      refine jb5 0 rfl (by decide +kernel) (fun K hK=>?_)
      go_simp
      have HB1:=ja0 (HB3.out.alloc (by simp) (.cells #[] 3))
      refine hK.out _ _ ⟨HB1.out,fun _=>trivial,fun _=>trivial⟩ (fun ja1=>?_)
      clear hK K
      (try simp only[Act.put,lA,lB,lC])
      refine jb5 2 rfl (by decide +kernel) (fun K hK=>?_)
      refine jfc7 rfl _ _ rfl Wd.heap.size (some ⟨Wd.heap.size+1,0,none⟩) AS S.length cS Wd.heap.size S rfl rfl (by have h:=(World.ownsRow_lit (base:=Wd.heap.size) (e:=3) (size:=1) (Wd.alloc (.cells #[.int .i64 0] 3)) #[] 0 (by simp) (by unfold maxLen;omega) rfl);rw[World.size_alloc] at h;exact h) (Rq.below HSd.out HB1.out) (HB1.out).size (by omega) ?_
      intro A2 c2 w2 ho2 hg2 hb2
      have HO2:=ja0 ho2
      have HB2:=ja0 ((HB1.out).trans hb2)
      have HZ:Hid (w2.ownsRow Wd.heap.size 3 1 (.slice (some ⟨Wd.heap.size,0,none⟩) 1 1) 1 [.int .i64 0]):=ja0 (jfg9 (World.ownsRow.alloc (World.ownsRow_lit (base:=Wd.heap.size) (e:=3) (size:=1) Wd #[.int .i64 0] 1 (Nat.le_refl _) (by unfold maxLen;omega) rfl) _) hg2 (fun g e1 e2=>by
       have e3:Wd.heap.size=g:=Option.some.inj e1
       have e4:Wd.heap.size+1=g:=Option.some.inj e2
       omega))
      clear ho2 hg2 hb2
      refine hK.out _ _ ⟨HB2.out,fun _=>trivial,fun _=>trivial⟩ (fun ja1=>?_)
      clear hK K
      (try simp only[Act.put,lA,lB,lC])
      refine jb5 4 rfl (by decide +kernel) (fun K hK=>?_)
      refine jfa5 rfl _ _ rfl Wd.heap.size A2 S.length c2 S (some ⟨Wd.heap.size,0,none⟩) 1 1 (w2).heap.size [0] rfl rfl HO2.out (DRow.read HZ.out) (HB2.out).size (by omega) ?_
      intro A4 c4 w4 ho4 hg4 hb4
      have HO4:=ja0 ho4
      have HB4:=ja0 ((HB2.out).trans hb4)
      clear ho4 hg4 hb4
      clear HO2 HB2 HB3 HB1 HZ
      refine hK.out _ _ ⟨HB4.out,fun _=>trivial,fun _=>trivial⟩ (fun ja1=>?_)
      clear hK K
      (try simp only[Act.put,lA,lB,lC])
      refine jb5 10 rfl (by decide +kernel) (fun K hK=>?_)
      go_simp
      have HC:=ja0 (jcb2 Ao o.length co Wd.heap.size o d w4 (Rq.below HQd.out HB4.out) HB4.out.size HDO.out (by omega) (by omega))
      go_wp2_with (first
       | (go_at_call 132;refine HC.out.mono ?_;rintro e w36 ⟨p,A36,c36,rfl,ho36,hd36,hv36,hl36,hb36⟩;have HO36:=ja0 ho36;have HD36:=ja0 (And.intro hd36 (And.intro hv36 hl36));have HB36:=ja0 hb36;clear ho36 hd36 hv36 hl36 hb36))
      have HB5:=ja0 (HB4.out.trans (HB36.out.mono HB4.out.size))
      refine hK.out _ _ ⟨HB5.out,fun _=>trivial,fun _=>trivial⟩ (fun ja1=>?_)
      clear hK K HC
      (try simp only[Act.put,lA,lB,lC])
      refine jb5 11 rfl (by decide +kernel) (fun K hK=>?_)
      go_simp
      have hpl:=HD36.out.2.2
      have HC:=ja0 (jbb1 A4 (S.length+1) c4 (S++[0]) A36 p.length c36 p w36.heap.size w36 (jab0 (DRow.read HO4.out) HB36.out) (DRow.read HO36.out) (Nat.le_refl _) (HDS.out.append (Dig.zeros 1)) HD36.out.1 (by omega) (by omega))
      go_wp2_with (first
       | (go_at_call 87;refine HC.out.mono ?_;rintro e w37 ⟨S2,A37,c37,rfl,ho37,hd37,hv37,hl37,hb37⟩;have HO37:=ja0 ho37;have HD37:=ja0 (And.intro hd37 (And.intro hv37 hl37));have HB37:=ja0 hb37;clear ho37 hd37 hv37 hl37 hb37))
      have HB6:=ja0 (HB5.out.trans (HB37.out.mono HB5.out.size))
      refine hK.out _ _ ⟨HB6.out,fun _=>trivial,fun _=>trivial⟩ (fun ja1=>?_)
      clear hK K HC
      (try simp only[Act.put,lA,lB,lC])
      refine jb5 12 rfl (by decide +kernel) (fun K hK=>?_)
      go_simp
      refine hK.out _ _ ⟨HB6.out,fun _=>trivial,fun _=>trivial⟩ (fun ja1=>?_)
      clear hK K
      (try simp only[Act.put,lA,lB,lC])
      refine jf8 (by decide +kernel) ?_
      clear ja1
      have HF:=ja0 (And.intro HO37.out (And.intro HD37.out HB6.out))
      have HV2:Hid (valD S2=valD o*valD (l.take (j+1))):=ja0 (jfd9 hjl rfl HVS.out (by rw[HD37.out.2.1,HD36.out.2.1,HDJ.out]))
      have hS2:S2.length<=o.length+3+2*(j+1):=by have:=HD37.out.2.2;omega
      clear HO4 HB4 HB5 HB6 HO36 HB36 HB37 HO37 HD36 HD37
      go_wp2
      exact⟨⟨j+1,S2,A37,c37,rfl,by go_num,by omega,HF.out.2.1.1,HV2.out,hS2,DRow.read HF.out.1,HBw.out.trans (HF.out.2.2.mono HBw.out.size)⟩,by simp only[intOf];omega⟩
    ·obtain rfl:j=l.length:=by omega
     have HVX:Hid (valD S=n*(ab:Int) ^ (k+1)):=ja0 (by
      have h:=HVS.out
      rw[List.take_length,HVl.out,HVO.out,Int.mul_assoc,<-Int.pow_succ] at h
      exact h)
     have HBX:=ja0 (HBo.out.trans (HBi.out.mono HBo.out.size))
     go_wp2
     exact⟨⟨k+1,S,AS,cS,rfl,by go_num,by omega,HDS.out,HVX.out,by omega,HSi.out,HBX.out⟩,by simp only[intOf];omega⟩
  ·obtain rfl:k=2:=by omega
   go_upto_region 12 with(first
    | (go_at_call 131;refine(jdv1 Ao o.length co wr.heap.size o wr HQO.out HDO.out).mono ?_;rintro e w40 ⟨L,AL,cL,rfl,hL,hdL,hvL,htr,hlL,hb40⟩;have HL:=ja0 hL;have HDL:=ja0 hdL;have HVL:=ja0 hvL;have HB40:=ja0 hb40;clear hL hdL hvL htr hb40))
   have HVS:Hid (valD L=n*(ab:Int) ^ 2):=ja0 (by rw[HVL.out,HVO.out])
   have HBA:=ja0 (HB.out.trans (HB40.out.mono HB.out.size))
   have HQL:Hid (zh7 w40 w40.heap.size AL L.length cL L):=ja0 (Rq.more HL.out HB40.out.size)
   clear HVO HQO HB HL HB40 HVL
   have hmod:IntKind.i64.wrap ((L.length:Int) % 2)=(L.length:Int) % 2:=by rw[IntKind.wrap_i64];omega
   by_cases hodd:(L.length:Int) % 2=1
   ·go_wp2_with (first
     | (at_builtin;refine jbb5 rfl _ _ rfl 0 w40.heap.size AL L.length cL L rfl rfl HQL.out (Nat.le_refl _) (by omega) ?_;intro A47 c47 w47 ho hb;have HO47:=ja0 ho;have HB47:=ja0 hb;clear ho hb))
    go_ret
    exact⟨0::L,A47,c47,rfl,DRow.read HO47.out,Dig.cons (by omega) HDL.out,by rw[jdv5];exact HVS.out,by simp only[List.length_cons];omega,by simp only[List.length_cons];omega,HBA.out.trans (HB47.out.mono HBA.out.size)⟩
   ·go_wp2
    go_ret
    exact⟨L,AL,cL,rfl,HQL.out,HDL.out,HVS.out,by omega,by omega,HBA.out⟩
end Go.Proofs.YtphcodcdfeohhaaGreatDoor
