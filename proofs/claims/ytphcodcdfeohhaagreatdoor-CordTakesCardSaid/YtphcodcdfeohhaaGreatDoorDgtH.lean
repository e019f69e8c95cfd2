import Derived.Test.YtphcodcdfeohhaaGreatDoorDgtG
set_option linter.all false
namespace Go.Proofs.YtphcodcdfeohhaaGreatDoor
set_option maxRecDepth 100000
set_option maxHeartbeats 8000000
open Go Go.RowKit
theorem jbv5(n:Int)(w:World)(h:-9000000000000000000<=n/\n<=9000000000000000000):Calls Tryz.prog 130 #[.int .i64 n] w λe w'=>e=.returned (.int .i64 (n.natAbs:Int))/\w'=w:=by
 have hm:max n (-n)=(n.natAbs:Int):=by omega
 have hw:IntKind.i64.wrap (-n)=-n:=by rw[IntKind.wrap_i64];omega
 go_enter Tryz.func130,Tryz.ntmps130
 go_wp2
 go_ret
 exact⟨by first|rfl|simp[hm]|(congr 1;congr 1),rfl⟩
theorem zz3{w w':World}{base s n:Nat}{e:TypeId}{v:Value}{xs:List Value}(h:w.ownsRow base e s v n xs){row:Option Nat}(hg:w.grownBy w' row)(hne:∀g,v.ownBlock=some g->row≠some g):w'.ownsRow base e s v n xs:=by
 refine h.kept hg ?_
 cases hv:v.ownBlock with
 | none=>exact .inl rfl
 | some g=>exact .inr (λe=>hne g hv e.symm)
theorem jj8 {ops:Array Oper} {o:Oper} {a:Act} {K:Act->World->Prop} {Q:Exit->Act->World->Prop} {E:Prop} {w:World} (hgd:o.guard=none) (s x:Operand)
  (ho:o.op=.call { callee:=.builtin .append,args:=#[s,x],argTypes:=#[52,52] }) (base:Nat) (A1:Option Addr) (n1 c1:Nat) (l1:List Int) (A:Option Addr) (n c B:Nat) (l:List Int)
  (hs:a.eval s=.slice A1 n1 c1) (hx:a.eval x=.slice A n c) (h1:w.ownsRow base 3 1 (.slice A1 n1 c1) n1 (l1.map (Value.int .i64))) (hl:jP w B A n c l) (hb:base<=w.heap.size) (hn:n1+n<=15000000000000)
  (h:∀A' c' w',w'.ownsRow base 3 1 (.slice A' (n1+n) c') (n1+n) ((l1++l).map (Value.int .i64))->w.grownBy w' (Value.slice A1 n1 c1).ownBlock->Below base w w'->K (a.put o.dst (.slice A' (n1+n) c')) w') :
  if Region.wanted o (yielded ops a.tmps)=true then Oper.wp Tryz.prog o a w K Q else E:=by
 obtain⟨i1,hi1,hy0,hy1,hy2⟩:=info_parts Tryz.infoIntD
 refine zt3 hgd s x 52 ho base 3 i1 (.int .i64 0) 1 8 Tryz.underlying52 hi1 hy0 hy1 hy2 rfl (by decide) _ n1 (l1.map (Value.int .i64)) hs h1 A n c B (l.map (Value.int .i64)) hx hl (js4 l) (by unfold maxLen;omega) (by omega) hb ?_
 intro A' c' w' h3 h4
 rw[<-List.map_append] at h3
 exact h A' c' w' h3 h4 ((Below.refl base w).grown h4 hb (λj e=>(h1.lt j e).1))
theorem zb0 {ops:Array Oper} {o:Oper} {a:Act} {K:Act->World->Prop} {Q:Exit->Act->World->Prop} {E:Prop} {w:World} (hgd:o.guard=none) (s x:Operand)
  (ho:o.op=.call { callee:=.builtin .append,args:=#[s,x],argTypes:=#[52,52] }) (base:Nat) (A1:Option Addr) (A:Option Addr) (n c B:Nat) (l:List Int)
  (hs:a.eval s=.slice A1 0 0) (hx:a.eval x=.slice A n c) (h1:w.ownsRow base 3 1 (.slice A1 0 0) 0 []) (hl:jP w B A n c l) (hb:base<=w.heap.size) (hn:n<=15000000000000)
  (h:∀A' c' w',w'.ownsRow base 3 1 (.slice A' n c') n (l.map (Value.int .i64))->w.grownBy w' (Value.slice A1 0 0).ownBlock->Below base w w'->K (a.put o.dst (.slice A' n c')) w') :
  if Region.wanted o (yielded ops a.tmps)=true then Oper.wp Tryz.prog o a w K Q else E:=by
 refine jj8 hgd s x ho base A1 0 0 [] A n c B l hs hx h1 hl hb (by omega) ?_
 intro A' c' w' h3 h4 h5
 rw[Nat.zero_add] at h3 ⊢
 exact h A' c' w' h3 h4 h5
def jah2(w:World)(v:Int)(e:Ending)(w':World):Prop:=
 ∃(L:List Int) (A:Option Addr) (c:Nat),e=.returned (.slice A L.length c)/\jP w' w'.heap.size A L.length c L/\zD L/\jj L=v/\L.length % 2=0/\L.length<=200/\Below w.heap.size w w'
theorem jm4(c n:Int)(w:World)(hc:-9000000000000000000<=c/\c<=9000000000000000000)(hn:0<=n/\n<=9223372036854775807):Calls Tryz.prog 86 #[.int .i64 c,.int .i64 n] w (jah2 w (c*c*n)):=by
 obtain⟨ab,hab⟩:∃ab:Nat,ab=c.natAbs:=⟨_,rfl⟩
 have HAB:Hid (∀W,Calls Tryz.prog 130 #[.int .i64 c] W λe w'=>e=.returned (.int .i64 (ab:Int))/\w'=W):=ja (λW=>hab▸jbv5 c W hc)
 have hab1:(ab:Int)<=9000000000000000000:=by omega
 have HSQ:Hid (c*c*n=n*(ab:Int) ^ 2):=ja (by
  have:c*c=(ab:Int) ^ 2:=by
   rw[hab,Int.pow_succ,Int.pow_succ,Int.pow_zero,Int.one_mul]
   rcases Int.natAbs_eq c with h|h
   ·rw[<-h]
   ·have h2:(c.natAbs:Int)=-c:=by omega
    rw[h2,Int.neg_mul_neg]
  rw[this,Int.mul_comm])
 clear hab
 rw[HSQ.o]
 clear HSQ hc
 go_enter Tryz.func86,Tryz.ntmps86
 go_wp2_with (first
  | (go_at_call 134;refine(jr4 n w hn.1 hn.2).mono ?_;rintro e w11 ⟨o1,A11,c11,rfl,ho,hd,hv,he,hl,hb⟩;have HO:=ja ho;have HD:=ja (And.intro hd (And.intro hv hl));have HB11:=ja hb;clear ho hd hv he hl hb))
 go_loopw [5,6] (λov kv W=>∃(k:Nat) (o:List Int) (A:Option Addr) (c':Nat),ov=.slice A o.length c'/\kv=.int .i64 k/\k<=2/\zD o/\jj o=n*(ab:Int) ^ k/\o.length<=20+45*k/\jP W W.heap.size A o.length c' o/\Below w.heap.size w W) (λ_ kv _=>2-(intOf kv).toNat)
 case atStart=>exact⟨0,o1,A11,c11,rfl,rfl,by omega,HD.o.1,by rw[HD.o.2.1];simp,by have:=HD.o.2.2;omega,zd.read HO.o,HB11.o⟩
 case round=>
  obtain⟨k,o,Ao,co,rfl,rfl,hk2,hdo,hvo,hlo,hqo,hb⟩:=hrel
  have HQO:=ja hqo
  have HDO:=ja hdo
  have HVO:=ja hvo
  have HB:=ja hb
  have hol:o.length<=110:=by omega
  clear hqo hdo hvo hb HO HD HB11
  by_cases hk:(k:Int)<2
  ·go_upto_region 6 with(first
    | (go_at_call 134;refine(jr4 (ab:Int) _ (by omega) (by omega)).mono ?_;rintro e w19 ⟨l,Al,cl,rfl,ho,hd,hv,he,hl,hb⟩;have HO19:=ja ho;have HD19:=ja (And.intro hd hv);have HB19:=ja hb;clear ho hd hv he hb)
    | (go_at_call 130;refine(HAB.o _).mono ?_;rintro e w1 ⟨rfl,hw1⟩;subst w1))
   have HBa:=ja ((Below.refl wr.heap.size wr).alloc (Nat.le_refl _) (.cells #[] 3))
   have HB2:=ja (HBa.o.trans (HB19.o.mono HBa.o.size))
   have HQo:Hid (∀W,Below w19.heap.size w19 W->jP W w19.heap.size Ao o.length co o):=ja (λW hb=>Rq.below (jm HQO.o HB2.o) hb)
   have HQl:Hid (∀W,Below w19.heap.size w19 W->jP W w19.heap.size Al l.length cl l):=ja (λW hb=>Rq.below (zd.read HO19.o) hb)
   have HBo:=ja (HB.o.trans (HB2.o.mono HB.o.size))
   have HDl:=ja HD19.o.1
   have HVl:=ja HD19.o.2
   clear HQO HB HBa HB2 HB19 HO19 HD19
   go_wp2
   go_loopw [7,9] (λsv jv W=>∃(j:Nat) (S:List Int) (AS:Option Addr) (cS:Nat),sv=.slice AS S.length cS/\jv=.int .i64 j/\j<=l.length/\zD S/\jj S=jj o*jj (l.take j)/\S.length<=o.length+3+2*j/\jP W W.heap.size AS S.length cS S/\Below w19.heap.size w19 W) (λ_ jv _=>l.length-(intOf jv).toNat)
   case atStart=>exact⟨0,[],_,0,rfl,rfl,Nat.zero_le _,zD.nil,by simp[jj],by simp,⟨by simp,by simp,by omega,.inl rfl⟩,Below.refl _ _⟩
   case round=>
    obtain⟨j,S,AS,cS,rfl,rfl,hjl',hdS,hvS,hlS,hqS,hbi⟩:=hrel
    have HDS:=ja hdS
    have HVS:=ja hvS
    have HSi:=ja hqS
    have HBi:=ja hbi
    clear hdS hvS hqS hbi
    have hSb:S.length<=160:=by omega
    by_cases hj:(j:Int)<(l.length:Int)
    ·have hjl:j<l.length:=by omega
     go_upto_region 9 with fail
     refine jk (λW'=>Below wr.drew.heap.size wr.drew W') 12 (λ_=>True) 12 (λ_=>True) (by kernel_rfl) ⟨Below.refl _ _,λ_=>trivial,λ_=>trivial⟩ (λjb=>?_)
     have HBw:=ja (HBi.o.trans ((Below.drew (Below.refl wr.heap.size wr)).mono HBi.o.size))
     have HSd:=ja (jm HSi.o (Below.drew (Below.refl wr.heap.size wr)))
     have HQd:=ja (Rq.more (HQo.o _ HBw.o) HBw.o.size)
     obtain⟨ad,rfl,hadb,h1⟩:=jP.at_ (HQl.o _ HBw.o) hjl
     replace hadb:ad.block<wr.drew.heap.size:=Nat.lt_of_lt_of_le hadb HBw.o.size
     obtain⟨d,hdj⟩:∃d,d=l[j]:=⟨_,rfl⟩
     have hd9:0<=d/\d<=9:=hdj▸HDl.o.at_ hjl
     rw[<-hdj] at h1
     have HDJ:=ja hdj
     clear HBi HSi hdj
     generalize wr.drew=Wd at *
     refine jc 1 rfl (by decide +kernel) (λc a w h=>by first|exact h|(cases h;done)) (by rfl) (v:=?_) ?_ jb (λjd=>?_)
     rotate_left 1
     focus (intro w' hSw;clear hSw;go_simp;try with_reducible rfl)
     clear jb
     rename jf _ _ _ _ _ _ _=>jb
     (try simp only[Act.put,lA,lB,lC])
     refine jc 5 rfl (by decide +kernel) (λc a w h=>by first|exact h|(cases h;done)) (by rfl) (v:=?_) ?_ jb (λjd=>?_)
     rotate_left 1
     focus (intro w' hSw;clear hSw;go_simp;try with_reducible rfl)
     clear jb
     rename jf _ _ _ _ _ _ _=>jb
     (try simp only[Act.put,lA,lB,lC])
     refine jc 6 rfl (by decide +kernel) (λc a w h=>by first|exact h|(cases h;done)) (by rfl) (v:=?_) ?_ jb (λjd=>?_)
     rotate_left 1
     focus (intro w' hSw;clear hSw;go_simp;try with_reducible rfl)
     clear jb
     rename jf _ _ _ _ _ _ _=>jb
     (try simp only[Act.put,lA,lB,lC])
     refine jc 7 rfl (by decide +kernel) (λc a w h=>by first|exact h|(cases h;done)) (by rfl) (v:=?_) ?_ jb (λjd=>?_)
     rotate_left 1
     focus (intro w' hSw;clear hSw;go_simp;try with_reducible rfl)
     clear jb
     rename jf _ _ _ _ _ _ _=>jb
     (try simp only[Act.put,lA,lB,lC])
     refine jc 8 rfl (by decide +kernel) (λc a w h=>by first|exact h|(cases h;done)) (by rfl) (v:=?_) ?_ jb (λjd=>?_)
     rotate_left 1
     focus (intro w' hSw;clear hSw;go_simp;try with_reducible rfl)
     clear jb
     rename jf _ _ _ _ _ _ _=>jb
     (try simp only[Act.put,lA,lB,lC])
     refine jc 9 rfl (by decide +kernel) (λc a w h=>by first|exact h|(cases h;done)) (by rfl) (v:=?_) ?_ jb (λjd=>?_)
     rotate_left 1
     focus (intro w' hSw;obtain⟨hC,hF,hG⟩:=hSw;clear hG;have hF:=hC;have e1:=(hF.cell (p:=ad.add j) (by rw[jH];exact hadb)).trans h1;clear hF;go_simp;try with_reducible rfl)
     clear jb
     rename jf _ _ _ _ _ _ _=>jb
     (try simp only[Act.put,lA,lB,lC])
     refine jb4 0 3 rfl rfl (by decide +kernel) (λK hK=>?_) (λK hK=>?_)
     ·go_simp
      have HBe:=ja ((Below.refl _ Wd).alloc (Nat.le_refl _) (.cells #[] 3))
      refine hK.out _ _ ⟨HBe.o,λ_=>trivial,λ_=>trivial⟩ (λjb=>?_)
      clear hK K
      (try simp only[Act.put,lA,lB,lC])
      refine jb4 2 3 rfl rfl (by decide +kernel) (λK hK=>?_) (λK hK=>?_)
      ·refine zb0 rfl _ _ rfl Wd.heap.size (some ⟨Wd.heap.size,0,none⟩) AS S.length cS Wd.heap.size S rfl rfl (World.ownsRow_lit (base:=Wd.heap.size) (e:=3) (size:=1) Wd #[] 0 (Nat.le_refl _) (by unfold maxLen;omega) rfl) (Rq.below HSd.o ((Below.refl _ Wd).alloc (Nat.le_refl _) (.cells #[] 3))) (((Below.refl _ Wd).alloc (Nat.le_refl _) (.cells #[] 3))).size (by omega) ?_
       intro A2 c2 w2 ho2 hg2 hb2
       have HO2:=ja ho2
       have HB2:=ja ((((Below.refl _ Wd).alloc (Nat.le_refl _) (.cells #[] 3))).trans hb2)
       clear ho2 hg2 hb2
       refine hK.out _ _ ⟨HB2.o,λ_=>trivial,λ_=>trivial⟩ (λjb=>?_)
       clear hK K
       (try simp only[Act.put,lA,lB,lC])
       refine je 3 rfl (by decide +kernel) (λK hK=>?_)
       go_simp
       have HB3:=ja (HB2.o.alloc HB2.o.size (.cells #[.int .i64 0] 3))
       refine hK.out _ _ ⟨HB3.o,λ_=>trivial,λ_=>trivial⟩ (λjb=>?_)
       clear hK K
       (try simp only[Act.put,lA,lB,lC])
       refine je 4 rfl (by decide +kernel) (λK hK=>?_)
       refine jj8 rfl _ _ rfl Wd.heap.size A2 S.length c2 S (some ⟨w2.heap.size,0,none⟩) 1 1 (w2.alloc (.cells #[.int .i64 0] 3)).heap.size [0] rfl rfl (World.ownsRow.alloc HO2.o _) (zd.read (qt Wd.heap.size w2 0 HB2.o.size)) (HB3.o).size (by omega) ?_
       intro A4 c4 w4 ho4 hg4 hb4
       have HO4:=ja ho4
       have HB4:=ja ((HB3.o).trans hb4)
       clear ho4 hg4 hb4
       clear HO2 HB2 HB3
       refine hK.out _ _ ⟨HB4.o,λ_=>trivial,λ_=>trivial⟩ (λjb=>?_)
       clear hK K
       (try simp only[Act.put,lA,lB,lC])
       refine je 10 rfl (by decide +kernel) (λK hK=>?_)
       go_simp
       have HC:=ja (JS Ao o.length co Wd.heap.size o d w4 (Rq.below HQd.o HB4.o) HB4.o.size HDO.o (by omega) (by omega))
       go_wp2_with (first
        | (go_at_call 132;refine HC.o.mono ?_;rintro e w36 ⟨p,A36,c36,rfl,ho36,hd36,hv36,hl36,hb36⟩;have HO36:=ja ho36;have HD36:=ja (And.intro hd36 (And.intro hv36 hl36));have HB36:=ja hb36;clear ho36 hd36 hv36 hl36 hb36))
       have HB5:=ja (HB4.o.trans (HB36.o.mono HB4.o.size))
       refine hK.out _ _ ⟨HB5.o,λ_=>trivial,λ_=>trivial⟩ (λjb=>?_)
       clear hK K HC
       (try simp only[Act.put,lA,lB,lC])
       refine je 11 rfl (by decide +kernel) (λK hK=>?_)
       go_simp
       have hpl:=HD36.o.2.2
       have HC:=ja (Jp A4 (S.length+1) c4 (S++[0]) A36 p.length c36 p w36.heap.size w36 (jm (zd.read HO4.o) HB36.o) (zd.read HO36.o) (Nat.le_refl _) (HDS.o.append (zD.zeros 1)) HD36.o.1 (by omega) (by omega))
       go_wp2_with (first
        | (go_at_call 87;refine HC.o.mono ?_;rintro e w37 ⟨S2,A37,c37,rfl,ho37,hd37,hv37,hl37,hb37⟩;have HO37:=ja ho37;have HD37:=ja (And.intro hd37 (And.intro hv37 hl37));have HB37:=ja hb37;clear ho37 hd37 hv37 hl37 hb37))
       have HB6:=ja (HB5.o.trans (HB37.o.mono HB5.o.size))
       refine hK.out _ _ ⟨HB6.o,λ_=>trivial,λ_=>trivial⟩ (λjb=>?_)
       clear hK K HC
       (try simp only[Act.put,lA,lB,lC])
       refine je 12 rfl (by decide +kernel) (λK hK=>?_)
       go_simp
       refine hK.out _ _ ⟨HB6.o,λ_=>trivial,λ_=>trivial⟩ (λjb=>?_)
       clear hK K
       (try simp only[Act.put,lA,lB,lC])
       refine jl (by decide +kernel) ?_
       clear jb
       have HF:=ja (And.intro HO37.o (And.intro HD37.o HB6.o))
       have HV2:Hid (jj S2=jj o*jj (l.take (j+1))):=ja (zm0 hjl rfl HVS.o (by rw[HD37.o.2.1,HD36.o.2.1,HDJ.o]))
       have hS2:S2.length<=o.length+3+2*(j+1):=by have:=HD37.o.2.2;omega
       clear HO4 HB4 HB5 HB6 HO36 HB36 HB37 HO37 HD36 HD37
       go_wp2
       exact⟨⟨j+1,S2,A37,c37,rfl,by go_num,by omega,HF.o.2.1.1,HV2.o,hS2,zd.read HF.o.1,HBw.o.trans (HF.o.2.2.mono HBw.o.size)⟩,by simp only[intOf];omega⟩
      ·go_simp
       have HB3:=ja (((Below.refl _ Wd).alloc (Nat.le_refl _) (.cells #[] 3)).alloc (by simp) (.cells #[.int .i64 0] 3))
       refine hK.out _ _ ⟨HB3.o,λ_=>trivial,λ_=>trivial⟩ (λjb=>?_)
       clear hK K
       (try simp only[Act.put,lA,lB,lC])
       refine je 2 rfl (by decide +kernel) (λK hK=>?_)
       refine zb0 rfl _ _ rfl Wd.heap.size (some ⟨Wd.heap.size,0,none⟩) AS S.length cS Wd.heap.size S rfl rfl (World.ownsRow.alloc (World.ownsRow_lit (base:=Wd.heap.size) (e:=3) (size:=1) Wd #[] 0 (Nat.le_refl _) (by unfold maxLen;omega) rfl) _) (Rq.below HSd.o HB3.o) (HB3.o).size (by omega) ?_
       intro A2 c2 w2 ho2 hg2 hb2
       have HO2:=ja ho2
       have HB2:=ja ((HB3.o).trans hb2)
       have HZ:Hid (w2.ownsRow Wd.heap.size 3 1 (.slice (some ⟨Wd.heap.size+1,0,none⟩) 1 1) 1 [.int .i64 0]):=ja (zz3 (by have h:=(World.ownsRow_lit (base:=Wd.heap.size) (e:=3) (size:=1) (Wd.alloc (.cells #[] 3)) #[.int .i64 0] 1 (by simp) (by unfold maxLen;omega) rfl);rw[World.size_alloc] at h;exact h) hg2 (λg e1 e2=>by
        have e3:Wd.heap.size+1=g:=Option.some.inj e1
        have e4:Wd.heap.size=g:=Option.some.inj e2
        omega))
       clear ho2 hg2 hb2
       refine hK.out _ _ ⟨HB2.o,λ_=>trivial,λ_=>trivial⟩ (λjb=>?_)
       clear hK K
       (try simp only[Act.put,lA,lB,lC])
       refine je 4 rfl (by decide +kernel) (λK hK=>?_)
       refine jj8 rfl _ _ rfl Wd.heap.size A2 S.length c2 S (some ⟨Wd.heap.size+1,0,none⟩) 1 1 (w2).heap.size [0] rfl rfl HO2.o (zd.read HZ.o) (HB2.o).size (by omega) ?_
       intro A4 c4 w4 ho4 hg4 hb4
       have HO4:=ja ho4
       have HB4:=ja ((HB2.o).trans hb4)
       clear ho4 hg4 hb4
       clear HO2 HB2 HB3 HZ
       refine hK.out _ _ ⟨HB4.o,λ_=>trivial,λ_=>trivial⟩ (λjb=>?_)
       clear hK K
       (try simp only[Act.put,lA,lB,lC])
       refine je 10 rfl (by decide +kernel) (λK hK=>?_)
       go_simp
       have HC:=ja (JS Ao o.length co Wd.heap.size o d w4 (Rq.below HQd.o HB4.o) HB4.o.size HDO.o (by omega) (by omega))
       go_wp2_with (first
        | (go_at_call 132;refine HC.o.mono ?_;rintro e w36 ⟨p,A36,c36,rfl,ho36,hd36,hv36,hl36,hb36⟩;have HO36:=ja ho36;have HD36:=ja (And.intro hd36 (And.intro hv36 hl36));have HB36:=ja hb36;clear ho36 hd36 hv36 hl36 hb36))
       have HB5:=ja (HB4.o.trans (HB36.o.mono HB4.o.size))
       refine hK.out _ _ ⟨HB5.o,λ_=>trivial,λ_=>trivial⟩ (λjb=>?_)
       clear hK K HC
       (try simp only[Act.put,lA,lB,lC])
       refine je 11 rfl (by decide +kernel) (λK hK=>?_)
       go_simp
       have hpl:=HD36.o.2.2
       have HC:=ja (Jp A4 (S.length+1) c4 (S++[0]) A36 p.length c36 p w36.heap.size w36 (jm (zd.read HO4.o) HB36.o) (zd.read HO36.o) (Nat.le_refl _) (HDS.o.append (zD.zeros 1)) HD36.o.1 (by omega) (by omega))
       go_wp2_with (first
        | (go_at_call 87;refine HC.o.mono ?_;rintro e w37 ⟨S2,A37,c37,rfl,ho37,hd37,hv37,hl37,hb37⟩;have HO37:=ja ho37;have HD37:=ja (And.intro hd37 (And.intro hv37 hl37));have HB37:=ja hb37;clear ho37 hd37 hv37 hl37 hb37))
       have HB6:=ja (HB5.o.trans (HB37.o.mono HB5.o.size))
       refine hK.out _ _ ⟨HB6.o,λ_=>trivial,λ_=>trivial⟩ (λjb=>?_)
       clear hK K HC
       (try simp only[Act.put,lA,lB,lC])
       refine je 12 rfl (by decide +kernel) (λK hK=>?_)
       go_simp
       refine hK.out _ _ ⟨HB6.o,λ_=>trivial,λ_=>trivial⟩ (λjb=>?_)
       clear hK K
       (try simp only[Act.put,lA,lB,lC])
       refine jl (by decide +kernel) ?_
       clear jb
       have HF:=ja (And.intro HO37.o (And.intro HD37.o HB6.o))
       have HV2:Hid (jj S2=jj o*jj (l.take (j+1))):=ja (zm0 hjl rfl HVS.o (by rw[HD37.o.2.1,HD36.o.2.1,HDJ.o]))
       have hS2:S2.length<=o.length+3+2*(j+1):=by have:=HD37.o.2.2;omega
       clear HO4 HB4 HB5 HB6 HO36 HB36 HB37 HO37 HD36 HD37
       go_wp2
       exact⟨⟨j+1,S2,A37,c37,rfl,by go_num,by omega,HF.o.2.1.1,HV2.o,hS2,zd.read HF.o.1,HBw.o.trans (HF.o.2.2.mono HBw.o.size)⟩,by simp only[intOf];omega⟩
     ·go_simp
      have HB3:=ja ((Below.refl _ Wd).alloc (Nat.le_refl _) (.cells #[.int .i64 0] 3))
      refine hK.out _ _ ⟨HB3.o,λ_=>trivial,λ_=>trivial⟩ (λjb=>?_)
      clear hK K
      (try simp only[Act.put,lA,lB,lC])
      refine je 0 rfl (by decide +kernel) (λK hK=>?_)
      go_simp
      have HB1:=ja (HB3.o.alloc (by simp) (.cells #[] 3))
      refine hK.out _ _ ⟨HB1.o,λ_=>trivial,λ_=>trivial⟩ (λjb=>?_)
      clear hK K
      (try simp only[Act.put,lA,lB,lC])
      refine je 2 rfl (by decide +kernel) (λK hK=>?_)
      refine zb0 rfl _ _ rfl Wd.heap.size (some ⟨Wd.heap.size+1,0,none⟩) AS S.length cS Wd.heap.size S rfl rfl (by have h:=(World.ownsRow_lit (base:=Wd.heap.size) (e:=3) (size:=1) (Wd.alloc (.cells #[.int .i64 0] 3)) #[] 0 (by simp) (by unfold maxLen;omega) rfl);rw[World.size_alloc] at h;exact h) (Rq.below HSd.o HB1.o) (HB1.o).size (by omega) ?_
      intro A2 c2 w2 ho2 hg2 hb2
      have HO2:=ja ho2
      have HB2:=ja ((HB1.o).trans hb2)
      have HZ:Hid (w2.ownsRow Wd.heap.size 3 1 (.slice (some ⟨Wd.heap.size,0,none⟩) 1 1) 1 [.int .i64 0]):=ja (zz3 (World.ownsRow.alloc (World.ownsRow_lit (base:=Wd.heap.size) (e:=3) (size:=1) Wd #[.int .i64 0] 1 (Nat.le_refl _) (by unfold maxLen;omega) rfl) _) hg2 (λg e1 e2=>by
       have e3:Wd.heap.size=g:=Option.some.inj e1
       have e4:Wd.heap.size+1=g:=Option.some.inj e2
       omega))
      clear ho2 hg2 hb2
      refine hK.out _ _ ⟨HB2.o,λ_=>trivial,λ_=>trivial⟩ (λjb=>?_)
      clear hK K
      (try simp only[Act.put,lA,lB,lC])
      refine je 4 rfl (by decide +kernel) (λK hK=>?_)
      refine jj8 rfl _ _ rfl Wd.heap.size A2 S.length c2 S (some ⟨Wd.heap.size,0,none⟩) 1 1 (w2).heap.size [0] rfl rfl HO2.o (zd.read HZ.o) (HB2.o).size (by omega) ?_
      intro A4 c4 w4 ho4 hg4 hb4
      have HO4:=ja ho4
      have HB4:=ja ((HB2.o).trans hb4)
      clear ho4 hg4 hb4
      clear HO2 HB2 HB3 HB1 HZ
      refine hK.out _ _ ⟨HB4.o,λ_=>trivial,λ_=>trivial⟩ (λjb=>?_)
      clear hK K
      (try simp only[Act.put,lA,lB,lC])
      refine je 10 rfl (by decide +kernel) (λK hK=>?_)
      go_simp
      have HC:=ja (JS Ao o.length co Wd.heap.size o d w4 (Rq.below HQd.o HB4.o) HB4.o.size HDO.o (by omega) (by omega))
      go_wp2_with (first
       | (go_at_call 132;refine HC.o.mono ?_;rintro e w36 ⟨p,A36,c36,rfl,ho36,hd36,hv36,hl36,hb36⟩;have HO36:=ja ho36;have HD36:=ja (And.intro hd36 (And.intro hv36 hl36));have HB36:=ja hb36;clear ho36 hd36 hv36 hl36 hb36))
      have HB5:=ja (HB4.o.trans (HB36.o.mono HB4.o.size))
      refine hK.out _ _ ⟨HB5.o,λ_=>trivial,λ_=>trivial⟩ (λjb=>?_)
      clear hK K HC
      (try simp only[Act.put,lA,lB,lC])
      refine je 11 rfl (by decide +kernel) (λK hK=>?_)
      go_simp
      have hpl:=HD36.o.2.2
      have HC:=ja (Jp A4 (S.length+1) c4 (S++[0]) A36 p.length c36 p w36.heap.size w36 (jm (zd.read HO4.o) HB36.o) (zd.read HO36.o) (Nat.le_refl _) (HDS.o.append (zD.zeros 1)) HD36.o.1 (by omega) (by omega))
      go_wp2_with (first
       | (go_at_call 87;refine HC.o.mono ?_;rintro e w37 ⟨S2,A37,c37,rfl,ho37,hd37,hv37,hl37,hb37⟩;have HO37:=ja ho37;have HD37:=ja (And.intro hd37 (And.intro hv37 hl37));have HB37:=ja hb37;clear ho37 hd37 hv37 hl37 hb37))
      have HB6:=ja (HB5.o.trans (HB37.o.mono HB5.o.size))
      refine hK.out _ _ ⟨HB6.o,λ_=>trivial,λ_=>trivial⟩ (λjb=>?_)
      clear hK K HC
      (try simp only[Act.put,lA,lB,lC])
      refine je 12 rfl (by decide +kernel) (λK hK=>?_)
      go_simp
      refine hK.out _ _ ⟨HB6.o,λ_=>trivial,λ_=>trivial⟩ (λjb=>?_)
      clear hK K
      (try simp only[Act.put,lA,lB,lC])
      refine jl (by decide +kernel) ?_
      clear jb
      have HF:=ja (And.intro HO37.o (And.intro HD37.o HB6.o))
      have HV2:Hid (jj S2=jj o*jj (l.take (j+1))):=ja (zm0 hjl rfl HVS.o (by rw[HD37.o.2.1,HD36.o.2.1,HDJ.o]))
      have hS2:S2.length<=o.length+3+2*(j+1):=by have:=HD37.o.2.2;omega
      clear HO4 HB4 HB5 HB6 HO36 HB36 HB37 HO37 HD36 HD37
      go_wp2
      exact⟨⟨j+1,S2,A37,c37,rfl,by go_num,by omega,HF.o.2.1.1,HV2.o,hS2,zd.read HF.o.1,HBw.o.trans (HF.o.2.2.mono HBw.o.size)⟩,by simp only[intOf];omega⟩
    ·obtain rfl:j=l.length:=by omega
     have HVX:Hid (jj S=n*(ab:Int) ^ (k+1)):=ja (by
      have h:=HVS.o
      rw[List.take_length,HVl.o,HVO.o,Int.mul_assoc,<-Int.pow_succ] at h
      exact h)
     have HBX:=ja (HBo.o.trans (HBi.o.mono HBo.o.size))
     go_wp2
     exact⟨⟨k+1,S,AS,cS,rfl,by go_num,by omega,HDS.o,HVX.o,by omega,HSi.o,HBX.o⟩,by simp only[intOf];omega⟩
  ·obtain rfl:k=2:=by omega
   go_upto_region 12 with(first
    | (go_at_call 131;refine(Zw Ao o.length co wr.heap.size o wr HQO.o HDO.o).mono ?_;rintro e w40 ⟨L,AL,cL,rfl,hL,hdL,hvL,htr,hlL,hb40⟩;have HL:=ja hL;have HDL:=ja hdL;have HVL:=ja hvL;have HB40:=ja hb40;clear hL hdL hvL htr hb40))
   have HVS:Hid (jj L=n*(ab:Int) ^ 2):=ja (by rw[HVL.o,HVO.o])
   have HBA:=ja (HB.o.trans (HB40.o.mono HB.o.size))
   have HQL:Hid (jP w40 w40.heap.size AL L.length cL L):=ja (Rq.more HL.o HB40.o.size)
   clear HVO HQO HB HL HB40 HVL
   have hmod:IntKind.i64.wrap ((L.length:Int) % 2)=(L.length:Int) % 2:=by rw[IntKind.wrap_i64];omega
   by_cases hodd:(L.length:Int) % 2=1
   ·go_wp2_with (first
     | (at_builtin;refine Js rfl _ _ rfl 0 w40.heap.size AL L.length cL L rfl rfl HQL.o (Nat.le_refl _) (by omega) ?_;intro A47 c47 w47 ho hb;have HO47:=ja ho;have HB47:=ja hb;clear ho hb))
    go_ret
    exact⟨0::L,A47,c47,rfl,zd.read HO47.o,zD.cons (by omega) HDL.o,by rw[ZR];exact HVS.o,by simp only[List.length_cons];omega,by simp only[List.length_cons];omega,HBA.o.trans (HB47.o.mono HBA.o.size)⟩
   ·go_wp2
    go_ret
    exact⟨L,AL,cL,rfl,HQL.o,HDL.o,HVS.o,by omega,by omega,HBA.o⟩
