import Derived.Test.YtphcodcdfeohhaaGreatDoorDigAToDgtF
set_option linter.all false
namespace Go.Proofs.YtphcodcdfeohhaaGreatDoor
set_option maxRecDepth 100000
set_option maxHeartbeats 8000000
open Go Go.RowKit
theorem jcg2{l:List Int}{m:Nat}(h:zD l)(ht:∀d t,l=d::t->d≠0)(hv:jj l<10 ^ m):l.length<=m:=by
 cases l with
 | nil=>simp
 | cons d t=>
  have h0:=ht d t rfl
  have h1:=h.head
  have h2:=h.tail.bounds
  rw[zQ] at hv
  have h3:=Int.mul_le_mul_of_nonneg_right (show 1<=d by omega) (Int.le_of_lt (zA t.length))
  rw[Int.one_mul] at h3
  rcases Nat.lt_or_ge t.length m with h4|h4
  ·exact h4
  ·exfalso
   obtain⟨j,hj⟩:=Nat.exists_eq_add_of_le h4
   have h5:(10:Int) ^ t.length=10 ^ m*10 ^ j:=by rw[hj,Int.pow_add]
   have h6:=Int.mul_le_mul_of_nonneg_left (show(1:Int)<=10 ^ j from zA j) (Int.le_of_lt (zA m))
   omega
theorem Jw {ops:Array Oper} {rest:List Oper} {o:Oper} {a:Act} {Q:Exit->Act->World->Prop} {w:World} (hgd:o.guard=none) (s x:Operand)
  (ho:o.op=.call { callee:=.builtin .append,args:=#[s,x],argTypes:=#[52,52] }) (base:Nat) (A1:Option Addr) (n1 c1:Nat) (l1:List Int) (A:Option Addr) (n c:Nat) (l:List Int)
  (hs:a.eval s=.slice A1 n1 c1) (hx:a.eval x=.slice A n c) (h1:w.ownsRow base 3 1 (.slice A1 n1 c1) n1 (l1.map (Value.int .i64))) (hl:jP w w.heap.size A n c l) (hb:base<=w.heap.size) (hn:n1+n<=15000000000000)
  (h:∀A' c' w',w'.ownsRow base 3 1 (.slice A' (n1+n) c') (n1+n) ((l1++l).map (Value.int .i64))->Below base w w'->wpList Tryz.prog ops Q rest (a.put o.dst (.slice A' (n1+n) c')) w') :
  wpList Tryz.prog ops Q (o::rest) a w:=by
 obtain⟨i1,hi1,hy0,hy1,hy2⟩:=info_parts Tryz.infoIntD
 refine Zt hgd s x 52 ho base 3 i1 (.int .i64 0) 1 8 Tryz.underlying52 hi1 hy0 hy1 hy2 rfl (by decide) _ n1 (l1.map (Value.int .i64)) hs h1 A n c w.heap.size (l.map (Value.int .i64)) hx hl (js4 l) (by unfold maxLen;omega) (by omega) hb ?_
 intro A' c' w' h3 h4
 rw[<-List.map_append] at h3
 exact h A' c' w' h3 ((Below.refl base w).grown h4 hb (λj e=>(h1.lt j e).1))
theorem jm{w w':World}{A:Option Addr}{n c:Nat}{l:List Int}(h:jP w w.heap.size A n c l)(hb:Below w.heap.size w w'):jP w' w'.heap.size A n c l:=Rq.more (Rq.below h hb) hb.size
def ZA(l:List Int)(more:Nat):List Int:=l++List.replicate (2*more) 0
theorem jbp7{nl:List Int}{more i:Nat}(hi:nl.length<=i)(he:i % 2=0)(hev:nl.length % 2=0)(h:i<nl.length+2*more):((ZA nl more).drop i).take 2=[0,0]:=by
 unfold ZA
 obtain⟨j,hj⟩:∃j,2*more-(i-nl.length)=j+2:=⟨2*more-(i-nl.length)-2,by omega⟩
 rw[List.drop_append,List.drop_of_length_le hi,List.nil_append,List.drop_replicate,hj]
 rfl
theorem jck1{nl:List Int}{more i:Nat}(hi:i+1<nl.length):((ZA nl more).drop i).take 2=[nl[i]'(by omega),nl[i+1]'hi]:=by
 unfold ZA
 rw[List.drop_append_of_le_length (by omega),List.drop_eq_getElem_cons (show i<nl.length by omega),List.drop_eq_getElem_cons hi]
 rfl
theorem jt3{w w':World}{base s n:Nat}{e:TypeId}{v:Value}{xs:List Value}(h:w.ownsRow base e s v n xs)(hb:Below w.heap.size w w'):w'.ownsRow base e s v n xs:=by
 obtain⟨hl,h⟩:=h
 refine⟨hl,?_⟩
 rcases h with h|⟨g,cap,cur,rfl,hb',hw,h1,h2,h3,h4⟩
 ·exact .inl h
 ·exact .inr ⟨g,cap,cur,rfl,hb',(hb.block g (lt_of_block hw)).trans hw,h1,h2,h3,h4⟩
structure RootI(nl:List Int)(more i:Nat)(R T:List Int):Prop where
 even:i % 2=0
 le:i<=nl.length+2*more
 dr:zD R
 dt:zD T
 tr:∀d t,T=d::t->d≠0
 at_:SqAt (jj ((ZA nl more).take i)) (jj R) (jj T)
 len:R.length=i/2
theorem RootI.start(nl:List Int)(more:Nat):RootI nl more 0 [] []:=⟨rfl,by omega,zD.nil,zD.nil,(λ_ _ h=>by cases h),(by simpa [jj] using SqAt.start),rfl⟩
theorem RootI.tlen{nl R T:List Int}{more i:Nat}(h:RootI nl more i R T):T.length<=R.length+1:=by
 refine jcg2 h.dt h.tr ?_
 have h1:=h.at_.le
 have h2:=h.dr.bounds
 rw[qU]
 omega
theorem RootI.step {nl R T T':List Int} {more i:Nat} {d p part:Int} (h:RootI nl more i R T) (hi:i<nl.length+2*more) (hnl:zD nl) (hne:nl.length % 2=0) (hp:p=jj (((ZA nl more).drop i).take 2)) (hd:0<=d/\d<=9)
  (hs:SqAt (100*jj ((ZA nl more).take i)+p) (10*jj R+d) (100*jj T+p-part)) (hT:zD T') (htr:∀d t,T'=d::t->d≠0) (hv:jj T'=100*jj T+p-part):RootI nl more (i+2) (R++[d]) T':=by
 have he:=h.even
 have hlen:(ZA nl more).length=nl.length+2*more:=by unfold ZA;simp
 refine⟨by omega,by omega,h.dr.append (zD.nil.cons hd),hT,htr,?_,by rw[List.length_append,h.len,List.length_singleton];omega⟩
 rw[QU,hv]
 have e:(ZA nl more).take (i+2)=(ZA nl more).take i++((ZA nl more).drop i).take 2:=by rw[List.take_add]
 have e2:(((ZA nl more).drop i).take 2).length=2:=by rw[List.length_take,List.length_drop,hlen];omega
 rw[e,Jv,e2,<-hp]
 have e3:jj ((ZA nl more).take i)*10 ^ 2+p=100*jj ((ZA nl more).take i)+p:=by
  have:(10:Int) ^ 2=100:=by decide
  rw[this];omega
 rw[e3,show jj R*10+d=10*jj R+d by omega]
 exact hs
theorem FitI.fin{V R T L p next d part:Int}(hs:SqAt V R T)(hp:0<=p/\p<=99)(hL:L=100*T+p)(h:FitI R L next d part)(he:9<next\/(next<=9/\L<(20*R+next)*next)):(0<=d/\d<=9)/\SqAt (100*V+p) (10*R+d) (100*T+p-part)/\part<=L:=by
 subst hL
 have h1:=FitI.last hs hp h he
 exact⟨⟨h1.1,h1.2.1⟩,h1.2.2,h.fits⟩
def jav8(w:World)(nl:List Int)(more:Nat)(e:Ending)(w':World):Prop:=
 ∃(R T:List Int) (A:Option Addr) (c:Nat),e=.returned (.tuple #[.slice A R.length c,.bool (decide (jj T=0))])/\zd w.heap.size (.slice A R.length c) R w'/\zD R/\R.length=(nl.length+2*more)/2/\SqAt (jj nl*10 ^ (2*more)) (jj R) (jj T)/\Below w.heap.size w w'
theorem jv0 (A0:Option Addr) (n0 c0 B:Nat) (nl:List Int) (more:Nat) (w:World) (hq:jP w B A0 n0 c0 nl) (hB:B<=w.heap.size) (hd:zD nl) (hev:nl.length % 2=0) (hl:n0+2*more<=12000000000000) :
  Calls Tryz.prog 85 #[.slice A0 n0 c0,.int .i64 more] w (jav8 w nl more):=by
 have e1:=hq.len
 subst e1
 have HQ0:=ja (λW (hb:Below w.heap.size w W)=>Rq.below hq (hb.mono hB))
 clear hq
 obtain⟨M,hM⟩:∃M,M=nl.length+2*more:=⟨_,rfl⟩
 have hMb:M<=12000000000000:=by omega
 have HM:=ja hM
 have hsum:(nl.length:Int)+2*(more:Int)=(M:Int):=by omega
 have hnM:nl.length<=M:=by omega
 clear hM
 go_enter Tryz.func85,Tryz.ntmps85
 go_wp2
 go_loopw [6,7,8] (λrv tv iv W=>∃(i:Nat) (R T:List Int) (AR AT:Option Addr) (cR cT:Nat),iv=.int .i64 i/\rv=.slice AR R.length cR/\tv=.slice AT T.length cT/\RootI nl more i R T/\zd w.heap.size (.slice AR R.length cR) R W/\jP W W.heap.size AT T.length cT T/\Below w.heap.size w W) (λ_ _ iv _=>M-(intOf iv).toNat)
 case atStart=>
  refine⟨0,[],[],_,_,_,_,rfl,rfl,rfl,RootI.start nl more,?_,?_,((Below.refl _ _).alloc (Nat.le_refl _) _).alloc (by simp) _⟩
  ·exact World.ownsRow.alloc (World.ownsRow_lit (base:=w.heap.size) (e:=3) (size:=1) w #[] 0 (Nat.le_refl _) (by unfold maxLen;omega) rfl) _
  ·exact⟨by simp,by simp,by omega,.inl rfl⟩
 case round=>
  obtain⟨i,R,T,AR,AT,cR,cT,rfl,rfl,rfl,hI,hR,hT,hb⟩:=hrel
  have hiM:i<=M:=by have:=hI.le;have:=HM.o;omega
  have hRl:R.length<=6000000000000:=by have:=hI.len;omega
  have hTl:=hI.tlen
  have hTb:T.length<=6000000000001:=by omega
  have HI:=ja hI
  have HR:=ja (zd.read hR)
  have HRo:=ja hR
  have HT:=ja hT
  have HB:=ja hb
  clear hI hR hT hb hTl
  by_cases hi:(i:Int)<(M:Int)
  ·have hiN:=hi
   go_upto_region 6 with fail
   have hX:(wr.alloc (.cells #[.int .i64 0,.int .i64 0] 3)).heap.size=wr.heap.size+1:=by simp
   have HBa:=ja ((Below.refl wr.heap.size wr).alloc (Nat.le_refl _) (.cells #[.int .i64 0,.int .i64 0] 3))
   by_cases hin:(i:Int)<(nl.length:Int)
   rotate_left 1
   focus
    have HPAIR:Hid ([(0:Int),0]=((ZA nl more).drop i).take 2):=ja (jbp7 (by omega) HI.o.even hev (by have:=HM.o;omega)).symm
    have HPD:Hid (zD [(0:Int),0]):=ja (zD.zeros 2)
    have HPR:Hid (jP (wr.alloc (.cells #[.int .i64 0,.int .i64 0] 3)) (wr.alloc (.cells #[.int .i64 0,.int .i64 0] 3)).heap.size (some ⟨wr.heap.size,0,none⟩) 2 2 [0,0]):=ja (zd.read (World.ownsRow_lit (base:=wr.heap.size) (e:=3) (size:=1) wr #[.int .i64 0,.int .i64 0] 2 (Nat.le_refl _) (by unfold maxLen;omega) rfl))
    have HR2:=ja (jm HR.o HBa.o)
    have HT2:=ja (jm HT.o HBa.o)
    have HB2:=ja (HB.o.trans (HBa.o.mono HB.o.size))
    go_upto_region 8 with fail
    obtain⟨Xp,hXp⟩:∃X,X=wr.heap.size:=⟨_,rfl⟩
    rw[<-hXp] at HPR ⊢
    generalize wr.alloc (.cells #[.int .i64 0,.int .i64 0] 3)=W2 at *
    clear hX HBa hXp
    have HD8:Hid (zD (T++[0,0])):=ja (HI.o.dt.append HPD.o)
    go_upto_region 9 with(first
     | (go_at_call 131;refine(Zw A9 (T.length+2) c9 w9.heap.size (T++[0,0]) w9 (zd.read HO9.o) HD8.o).mono ?_;rintro e w10 ⟨L,AL,cL,rfl,hL,hdL,hvL,htr,hlL,hb10⟩
        have HL:=ja hL;have HLD:=ja (And.intro hdL (And.intro hvL (And.intro htr hlL)));have HB10:=ja hb10;clear hL hdL hvL htr hlL hb10)
     | (at_builtin;refine Jw rfl _ _ rfl W2.heap.size A8 T.length c8 T (some ⟨Xp,0,none⟩) 2 2 [0,0] rfl rfl HO8.o (jm HPR.o HB8.o) HB8.o.size (by omega) ?_;intro A9 c9 w9 ho hb;have HO9:=ja ho;have HB9:=ja hb;clear ho hb)
     | (at_builtin;refine JU rfl _ _ rfl W2.heap.size AT T.length cT T rfl rfl HT2.o (Nat.le_refl _) (by omega) ?_;intro A8 c8 w8 ho hb;have HO8:=ja ho;have HB8:=ja hb;clear ho hb))
    have HBc:=ja (HB8.o.trans (HB9.o.trans (HB10.o.mono (Nat.le_trans HB8.o.size HB9.o.size))))
    have HR3:=ja (jm HR2.o HBc.o)
    have HL3:Hid (jP w10 w10.heap.size AL L.length cL L):=ja (Rq.more HL.o HB10.o.size)
    have HB3:=ja (HB2.o.trans (HBc.o.mono HB2.o.size))
    have HVL:Hid (jj L=100*jj T+jj [0,0]):=ja (by
     rw[HLD.o.2.1,Jv]
     have h100:∀q:Int,jj T*10 ^ 2+q=100*jj T+q:=λq=>by
      have:(10:Int) ^ 2=100:=by decide
      rw[this];omega
     exact h100 _)
    have hLb:L.length<=6000000000003:=by have:=HLD.o.2.2.2;rw[List.length_append] at this;simp at this;omega
    have HDL:=ja HLD.o.1
    clear HBc HR2 HL HB2 HB8 HB9 HB10 HO8 HO9 HT2 HPR HD8 HLD
    have HBa:=ja ((Below.refl w10.heap.size w10).alloc (Nat.le_refl _) (.cells #[] 3))
    have HR4:=ja (jm HR3.o HBa.o)
    have HL4:=ja (jm HL3.o HBa.o)
    have HB4:=ja (HB3.o.trans (HBa.o.mono HB3.o.size))
    clear HR3 HL3 HB3 HBa
    go_wp2
    generalize w10.alloc (.cells #[] 3)=wi at *
    go_loopw [10,11,12] (λdv pv nv W=>∃(next d:Int) (pl:List Int) (Ap:Option Addr) (cp:Nat),dv=.int .i64 d/\pv=.slice Ap pl.length cp/\nv=.int .i64 next/\FitI (jj R) (jj L) next d (jj pl)/\jP W W.heap.size Ap pl.length cp pl/\zD pl/\pl.length<=R.length+6/\Below wi.heap.size wi W) (λ_ _ nv _=>(10-intOf nv).toNat)
    case atStart=>exact⟨1,0,[],_,0,rfl,rfl,rfl,FitI.start (by have:=HDL.o.bounds;omega),⟨by simp,by simp,by omega,.inl rfl⟩,zD.nil,by simp,Below.refl _ _⟩
    case round=>
     obtain⟨next,d,pl,Ap,cp,rfl,rfl,rfl,hF,hP,hPd,hPl,hB⟩:=hrel
     have HF:=ja hF
     have HPp:=ja (And.intro hPd (And.intro hP hB))
     have hn0:1<=next:=by have:=hF.d0;have:=hF.nx;omega
     have hpb:pl.length<=6000000000006:=by omega
     clear hF hP hPd hPl hB
     by_cases h9:next<=9
     rotate_left 1
     ·have HR5:=ja (jm HR4.o HPp.o.2.2)
      have HL5:=ja (jm HL4.o HPp.o.2.2)
      have HP5:=ja HPp.o.2.1
      have HPd:=ja HPp.o.1
      have HB5:=ja (HB4.o.trans (HPp.o.2.2.mono HB4.o.size))
      clear HR4 HL4 HB4 HPp
      have HFIN:=ja (FitI.fin (p:=jj [0,0]) HI.o.at_ (by decide) HVL.o HF.o (.inl (by omega)))
      have hplb:pl.length<=6000000000006:=by omega
      go_wp2_with (first
       | (go_at_call 131;refine(Zw A72 s72.length c72 w72.heap.size s72 w72 (zd.read HO72.o) HD72.o.1).mono ?_;rintro e w73 ⟨T73,A73,c73,rfl,h73,hd73,hv73,htr73,hl73,hb73⟩;have H73:=ja h73;have HD73:=ja (And.intro hd73 (And.intro hv73 htr73));have HB73:=ja hb73;clear h73 hd73 hv73 htr73 hl73 hb73)
       | (go_at_call 133;refine(jj9 AL L.length cL L Ap pl.length cp pl wr.heap.size w69 (Rq.below HL5.o HB69.o) (Rq.below HP5.o HB69.o) HB69.o.size HDL.o HPd.o (by omega) (by omega) HFIN.o.2.2).mono ?_;rintro e w72 ⟨s72,A72,c72,rfl,ho72,hd72,hv72,hl72,hb72⟩;have HO72:=ja ho72;have HD72:=ja (And.intro hd72 (And.intro hv72 hl72));have HB72:=ja hb72;clear ho72 hd72 hv72 hl72 hb72)
       | (at_builtin;refine Jw rfl _ _ rfl wr.heap.size A66 R.length c66 R (some ⟨w66.heap.size,0,none⟩) 1 1 [d] rfl rfl (World.ownsRow.alloc HO66.o _) (zd.read (qt w66.heap.size w66 d (Nat.le_refl _))) (by rw[World.size_alloc];have:=HB66.o.size;omega) (by omega) ?_;intro A69 c69 w69 ho69 hb69;have HO69:=ja ho69;have HB69:=ja (HB66.o.trans (((Below.refl _ _).alloc HB66.o.size _).trans hb69));clear ho69 hb69)
       | (at_builtin;refine JU rfl _ _ rfl wr.heap.size AR R.length cR R rfl rfl HR5.o (Nat.le_refl _) (by omega) ?_;intro A66 c66 w66 ho66 hb66;have HO66:=ja ho66;have HB66:=ja hb66;clear ho66 hb66))
      have HBw:=ja (HB72.o.trans (HB73.o.mono HB72.o.size))
      have HBz:=ja (HB69.o.trans (HBw.o.mono HB69.o.size))
      have hl9:(R++[d]).length=R.length+1:=by simp
      have HRz:Hid (zd w.heap.size (.slice A69 (R.length+1) c69) (R++[d]) w73):=ja (by unfold zd;rw[hl9];exact jt3 (World.ownsRow.mono HO69.o HB5.o.size) HBw.o)
      refine⟨⟨i+2,R++[d],T73,A69,A73,c69,c73,by go_num,by rw[hl9],rfl,RootI.step (p:=jj [0,0]) HI.o (by have:=HM.o;omega) hd hev (congrArg jj HPAIR.o) HFIN.o.1 HFIN.o.2.1 HD73.o.1 HD73.o.2.2 ?_,by rw[hl9];exact HRz.o,Rq.more H73.o HB73.o.size,HB5.o.trans (HBz.o.mono HB5.o.size)⟩,by simp only[intOf];omega⟩
      rw[HD73.o.2.1,HD72.o.2.1,HVL.o]
     have hq0:=HI.o.dr.bounds
     have HD13:∀o:List Int,zD o->zD (o++[next]):=λo ho=>ho.append (zD.nil.cons ⟨by omega,h9⟩)
     have HD13':=ja HD13
     have HVP:Hid (∀o p:List Int,jj o=2*jj R->jj p=next*jj (o++[next])->jj p=(20*jj R+next)*next):=ja (λo p h1 h2=>by rw[h2,QU,h1];grind)
     clear HD13
     have HR5:=ja (jm HR4.o HPp.o.2.2)
     have HL5:=ja (jm HL4.o HPp.o.2.2)
     go_upto_region 14 with(first
      | (go_at_call 132;refine(JS A55 (o1.length+1) c55 w55.heap.size (o1++[next]) next w55 (zd.read HO55.o) (Nat.le_refl _) (HD13'.o o1 HD52.o.1) ⟨by omega,by omega⟩ (by omega)).mono ?_;rintro e w57 ⟨pp,A57,c57,rfl,ho57,hd57,hv57,hl57,hb57⟩;have HO57:=ja ho57;have HD57:=ja (And.intro hd57 (And.intro hv57 hl57));have HB57:=ja hb57;clear ho57 hd57 hv57 hl57 hb57)
      | (at_builtin;refine Jw rfl _ _ rfl wr.heap.size A52 o1.length c52 o1 (some ⟨w52.heap.size,0,none⟩) 1 1 [next] rfl rfl (World.ownsRow.alloc HO52.o _) (zd.read (qt w52.heap.size w52 next (Nat.le_refl _))) (by rw[World.size_alloc];have:=HB52.o.size;omega) (by have:=HD52.o.2.2;omega) ?_;intro A55 c55 w55 ho55 hb55;have HO55:=ja ho55;have HB55:=ja hb55;have hl52:=HD52.o.2.2;clear ho55 hb55)
      | (go_at_call 132;refine(JS AR R.length cR wr.heap.size R 2 wr HR5.o (Nat.le_refl _) HI.o.dr (by decide) (by omega)).mono ?_;rintro e w52 ⟨o1,A52,c52,rfl,ho52,hd52,hv52,hl52,hb52⟩;have HO52:=ja ho52;have HD52:=ja (And.intro hd52 (And.intro hv52 hl52));have HB52:=ja hb52;clear ho52 hd52 hv52 hl52 hb52))
     have HBx:=ja (HB52.o.trans (((Below.refl _ _).alloc HB52.o.size _).trans (HB55.o.trans (HB57.o.mono (Nat.le_trans HB52.o.size (Nat.le_trans (by simp) HB55.o.size))))))
     have HR6:=ja (jm HR5.o HBx.o)
     have HL6:=ja (jm HL5.o HBx.o)
     have HP6:=ja (jm HPp.o.2.1 HBx.o)
     have HB6:=ja (HB4.o.trans ((HPp.o.2.2.trans (HBx.o.mono HPp.o.2.2.size)).mono HB4.o.size))
     have HBi:=ja (HPp.o.2.2.trans (HBx.o.mono HPp.o.2.2.size))
     have HPd:=ja HPp.o.1
     have HVp:Hid (jj pp=(20*jj R+next)*next):=ja (HVP.o o1 pp HD52.o.2.1 HD57.o.2.1)
     have HDp:=ja HD57.o.1
     have hppl:pp.length<=R.length+5:=by have:=HD57.o.2.2;rw[List.length_append,List.length_singleton] at this;omega
     have HQp:=ja (zd.read HO57.o)
     clear HR4 HL4 HB4 HR5 HL5 HPp HVP HD13' HB52 HO52 HD52 hl52 HB55 HO55 HB57 HO57 HD57 HBx
     by_cases hfit:jj pp<=jj L
     ·have HFS:=ja (HF.o.step h9 HVp.o hfit)
      go_wp2_with (first
       | (go_at_call 88;refine(JE AL L.length cL L A57 pp.length c57 pp w57.heap.size w57 HL6.o HQp.o (Nat.le_refl _) HDL.o HDp.o (by omega) (by omega)).mono ?_;rintro e w60 ⟨rfl,hb60⟩;rw[decide_eq_true hfit];have HB60:=ja hb60;clear hb60))
      exact⟨⟨next+1,next,pp,A57,c57,rfl,rfl,rfl,HFS.o,jm HQp.o HB60.o,HDp.o,by omega,HBi.o.trans (HB60.o.mono HBi.o.size)⟩,by simp only[intOf];omega⟩
     ·have hlt:jj L<jj pp:=by omega
      go_upto_region 16 with(first
       | (go_at_call 88;refine(JE AL L.length cL L A57 pp.length c57 pp w57.heap.size w57 HL6.o HQp.o (Nat.le_refl _) HDL.o HDp.o (by omega) (by omega)).mono ?_;rintro e w60 ⟨rfl,hb60⟩;rw[decide_eq_false hfit];have HB60:=ja hb60;clear hb60))
      have HR5:=ja (jm HR6.o HB60.o)
      have HL5:=ja (jm HL6.o HB60.o)
      have HP5:=ja (jm HP6.o HB60.o)
      have HB5:=ja (HB6.o.trans (HB60.o.mono HB6.o.size))
      clear HR6 HL6 HP6 HB6 HBi HQp HB60
      have HFIN:=ja (FitI.fin (p:=jj [0,0]) HI.o.at_ (by decide) HVL.o HF.o (.inr ⟨h9,by rw[<-HVp.o];exact hlt⟩))
      have hplb:pl.length<=6000000000006:=by omega
      go_wp2_with (first
       | (go_at_call 131;refine(Zw A72 s72.length c72 w72.heap.size s72 w72 (zd.read HO72.o) HD72.o.1).mono ?_;rintro e w73 ⟨T73,A73,c73,rfl,h73,hd73,hv73,htr73,hl73,hb73⟩;have H73:=ja h73;have HD73:=ja (And.intro hd73 (And.intro hv73 htr73));have HB73:=ja hb73;clear h73 hd73 hv73 htr73 hl73 hb73)
       | (go_at_call 133;refine(jj9 AL L.length cL L Ap pl.length cp pl w60.heap.size w69 (Rq.below HL5.o HB69.o) (Rq.below HP5.o HB69.o) HB69.o.size HDL.o HPd.o (by omega) (by omega) HFIN.o.2.2).mono ?_;rintro e w72 ⟨s72,A72,c72,rfl,ho72,hd72,hv72,hl72,hb72⟩;have HO72:=ja ho72;have HD72:=ja (And.intro hd72 (And.intro hv72 hl72));have HB72:=ja hb72;clear ho72 hd72 hv72 hl72 hb72)
       | (at_builtin;refine Jw rfl _ _ rfl w60.heap.size A66 R.length c66 R (some ⟨w66.heap.size,0,none⟩) 1 1 [d] rfl rfl (World.ownsRow.alloc HO66.o _) (zd.read (qt w66.heap.size w66 d (Nat.le_refl _))) (by rw[World.size_alloc];have:=HB66.o.size;omega) (by omega) ?_;intro A69 c69 w69 ho69 hb69;have HO69:=ja ho69;have HB69:=ja (HB66.o.trans (((Below.refl _ _).alloc HB66.o.size _).trans hb69));clear ho69 hb69)
       | (at_builtin;refine JU rfl _ _ rfl w60.heap.size AR R.length cR R rfl rfl HR5.o (Nat.le_refl _) (by omega) ?_;intro A66 c66 w66 ho66 hb66;have HO66:=ja ho66;have HB66:=ja hb66;clear ho66 hb66))
      have HBw:=ja (HB72.o.trans (HB73.o.mono HB72.o.size))
      have HBz:=ja (HB69.o.trans (HBw.o.mono HB69.o.size))
      have hl9:(R++[d]).length=R.length+1:=by simp
      have HRz:Hid (zd w.heap.size (.slice A69 (R.length+1) c69) (R++[d]) w73):=ja (by unfold zd;rw[hl9];exact jt3 (World.ownsRow.mono HO69.o HB5.o.size) HBw.o)
      refine⟨⟨i+2,R++[d],T73,A69,A73,c69,c73,by go_num,by rw[hl9],rfl,RootI.step (p:=jj [0,0]) HI.o (by have:=HM.o;omega) hd hev (congrArg jj HPAIR.o) HFIN.o.1 HFIN.o.2.1 HD73.o.1 HD73.o.2.2 ?_,by rw[hl9];exact HRz.o,Rq.more H73.o HB73.o.size,HB5.o.trans (HBz.o.mono HB5.o.size)⟩,by simp only[intOf];omega⟩
      rw[HD73.o.2.1,HD72.o.2.1,HVL.o]
   have hi1:i+1<nl.length:=by have:=HI.o.even;omega
   have hi0:i<nl.length:=by omega
   have HPAIR:=ja (jck1 (more:=more) hi1).symm
   have HPD:Hid (zD [nl[i],nl[i+1]]):=ja (λx hx=>by
    rcases List.mem_cons.1 hx with rfl|hx
    ·exact hd.at_ hi0
    ·obtain rfl:=List.mem_singleton.1 hx
     exact hd.at_ hi1)
   have hpp:0<=jj [nl[i],nl[i+1]]/\jj [nl[i],nl[i+1]]<=99:=by
    have h:=HPD.o.bounds
    have:(10:Int) ^ [nl[i],nl[i+1]].length=100:=by simp
    omega
   have HNW:=ja (HQ0.o _ (HB.o.trans (HBa.o.mono HB.o.size)))
   have HR2':=ja (jm HR.o HBa.o)
   have HT2':=ja (jm HT.o HBa.o)
   have HB2':=ja (HB.o.trans (HBa.o.mono HB.o.size))
   go_upto_region 7 with fail
   generalize wr.alloc (.cells #[.int .i64 0,.int .i64 0] 3)=W1 at *
   obtain⟨ad,hA0,-,h1⟩:=jP.at_ HNW.o hi0
   obtain⟨ad',hA0',-,h2⟩:=jP.at_ HNW.o hi1
   rw[hA0] at hA0'
   cases hA0'
   subst hA0
   generalize nl[i]=p1 at *
   generalize nl[i+1]=p2 at *
   have hw7:IntKind.i64.wrap ((i:Int)+1)=(i:Int)+1:=by rw[IntKind.wrap_i64];omega
   have hi1':(i:Int)+1<(nl.length:Int):=by omega
   have hi0':0<=(i:Int)+1:=by omega
   refine jk (λ_=>True) 9 (λW'=>W'.cell? (ad.add i)=some (.int .i64 p1)/\W'.cell? (ad.add (i+1))=some (.int .i64 p2)) 9 (λ_=>True) (by kernel_rfl) ⟨trivial,λ_=>⟨h1,h2⟩,λ_=>trivial⟩ (λjb=>?_)
   have HB7:=ja (HB2'.o.trans ((Below.drew (Below.refl W1.heap.size W1)).mono HB2'.o.size))
   have HR7:=ja (jm HR2'.o (Below.drew (Below.refl W1.heap.size W1)))
   have HT7:=ja (jm HT2'.o (Below.drew (Below.refl W1.heap.size W1)))
   clear HB2' HR2' HT2' hX HBa HNW h1 h2
   generalize W1.drew=Wd at *
   refine jc 0 rfl (by decide +kernel) (λc a w h=>by first|exact h|(cases h;done)) (by rfl) (v:=?_) ?_ jb (λjd=>?_)
   rotate_left 1
   focus (intro w' hSw;clear hSw;go_simp;try with_reducible rfl)
   clear jb
   rename jf _ _ _ _ _ _ _=>jb
   (try simp only[Act.put,lA,lB,lC])
   refine jc 1 rfl (by decide +kernel) (λc a w h=>by first|exact h|(cases h;done)) (by rfl) (v:=?_) ?_ jb (λjd=>?_)
   rotate_left 1
   focus (intro w' hSw;clear hSw;go_simp;try with_reducible rfl)
   clear jb
   rename jf _ _ _ _ _ _ _=>jb
   (try simp only[Act.put,lA,lB,lC])
   refine jc 2 rfl (by decide +kernel) (λc a w h=>by first|exact h|(cases h;done)) (by rfl) (v:=?_) ?_ jb (λjd=>?_)
   rotate_left 1
   focus (intro w' hSw;clear hSw;go_simp;try with_reducible rfl)
   clear jb
   rename jf _ _ _ _ _ _ _=>jb
   (try simp only[Act.put,lA,lB,lC])
   refine jc 3 rfl (by decide +kernel) (λc a w h=>by first|exact h|(cases h;done)) (by rfl) (v:=?_) ?_ jb (λjd=>?_)
   rotate_left 1
   focus (intro w' hSw;obtain⟨hC,hF,hG⟩:=hSw;clear hG;have hF:=hF (by decide +kernel);have e1:=hF.1;have e2:=hF.2;have e3:w'.cell? ⟨ad.block,ad.off+(i+1),none⟩=some (.int .i64 p2):=e2;clear hF;go_simp;try with_reducible rfl)
   clear jb
   rename jf _ _ _ _ _ _ _=>jb
   (try simp only[Act.put,lA,lB,lC])
   refine jc 4 rfl (by decide +kernel) (λc a w h=>by first|exact h|(cases h;done)) (by rfl) (v:=?_) ?_ jb (λjd=>?_)
   rotate_left 1
   focus (intro w' hSw;clear hSw;go_simp;try with_reducible rfl)
   clear jb
   rename jf _ _ _ _ _ _ _=>jb
   (try simp only[Act.put,lA,lB,lC])
   refine jc 5 rfl (by decide +kernel) (λc a w h=>by first|exact h|(cases h;done)) (by rfl) (v:=?_) ?_ jb (λjd=>?_)
   rotate_left 1
   focus (intro w' hSw;clear hSw;go_simp;try with_reducible rfl)
   clear jb
   rename jf _ _ _ _ _ _ _=>jb
   (try simp only[Act.put,lA,lB,lC])
   refine jc 6 rfl (by decide +kernel) (λc a w h=>by first|exact h|(cases h;done)) (by rfl) (v:=?_) ?_ jb (λjd=>?_)
   rotate_left 1
   focus (intro w' hSw;clear hSw;go_simp;try with_reducible rfl)
   clear jb
   rename jf _ _ _ _ _ _ _=>jb
   (try simp only[Act.put,lA,lB,lC])
   refine jc 7 rfl (by decide +kernel) (λc a w h=>by first|exact h|(cases h;done)) (by rfl) (v:=?_) ?_ jb (λjd=>?_)
   rotate_left 1
   focus (intro w' hSw;clear hSw;go_simp;try with_reducible rfl)
   clear jb
   rename jf _ _ _ _ _ _ _=>jb
   (try simp only[Act.put,lA,lB,lC])
   refine jc 8 rfl (by decide +kernel) (λc a w h=>by first|exact h|(cases h;done)) (by rfl) (v:=?_) ?_ jb (λjd=>?_)
   rotate_left 1
   focus (intro w' hSw;obtain⟨hC,hF,hG⟩:=hSw;clear hG;have hF:=hF (by decide +kernel);have e1:=hF.1;have e2:=hF.2;have e3:w'.cell? ⟨ad.block,ad.off+(i+1),none⟩=some (.int .i64 p2):=e2;clear hF;go_simp;try with_reducible rfl)
   clear jb
   rename jf _ _ _ _ _ _ _=>jb
   (try simp only[Act.put,lA,lB,lC])
   refine je 9 rfl (by decide +kernel) (λK hK=>?_)
   go_simp
   refine hK.out _ _ ⟨trivial,λh=>absurd h (by decide +kernel),λ_=>trivial⟩ (λjb=>?_)
   clear hK K
   (try simp only[Act.put,lA,lB,lC])
   refine je 10 rfl (by decide +kernel) (λK hK=>?_)
   go_simp
   refine hK.out _ _ ⟨trivial,λh=>absurd h (by decide +kernel),λ_=>trivial⟩ (λjb=>?_)
   clear hK K
   (try simp only[Act.put,lA,lB,lC])
   refine jl (by decide +kernel) ?_
   clear jb
   have HPR:Hid (jP (Wd.alloc (.cells #[.int .i64 p1,.int .i64 p2] 3)) (Wd.alloc (.cells #[.int .i64 p1,.int .i64 p2] 3)).heap.size (some ⟨Wd.heap.size,0,none⟩) 2 2 [p1,p2]):=ja (zd.read (World.ownsRow_lit (base:=Wd.heap.size) (e:=3) (size:=1) Wd #[.int .i64 p1,.int .i64 p2] 2 (Nat.le_refl _) (by unfold maxLen;omega) rfl))
   have HBa:=ja ((Below.refl Wd.heap.size Wd).alloc (Nat.le_refl _) (.cells #[.int .i64 p1,.int .i64 p2] 3))
   have HR2:=ja (jm (show jP Wd Wd.heap.size AR R.length cR R from HR7.o) HBa.o)
   have HT2:=ja (jm (show jP Wd Wd.heap.size AT T.length cT T from HT7.o) HBa.o)
   have HB2:=ja (HB7.o.trans (HBa.o.mono HB7.o.size))
   obtain⟨Xp,hXp⟩:∃X,X=Wd.heap.size:=⟨_,rfl⟩
   rw[<-hXp] at HPR ⊢
   clear hXp HBa HR7 HT7 HB7
   generalize Wd.alloc (.cells #[.int .i64 p1,.int .i64 p2] 3)=W2 at *
   have HD8:Hid (zD (T++[p1,p2])):=ja (HI.o.dt.append HPD.o)
   go_upto_region 9 with(first
    | (go_at_call 131;refine(Zw A9 (T.length+2) c9 w9.heap.size (T++[p1,p2]) w9 (zd.read HO9.o) HD8.o).mono ?_;rintro e w10 ⟨L,AL,cL,rfl,hL,hdL,hvL,htr,hlL,hb10⟩
       have HL:=ja hL;have HLD:=ja (And.intro hdL (And.intro hvL (And.intro htr hlL)));have HB10:=ja hb10;clear hL hdL hvL htr hlL hb10)
    | (at_builtin;refine Jw rfl _ _ rfl W2.heap.size A8 T.length c8 T (some ⟨Xp,0,none⟩) 2 2 [p1,p2] rfl rfl HO8.o (jm HPR.o HB8.o) HB8.o.size (by omega) ?_;intro A9 c9 w9 ho hb;have HO9:=ja ho;have HB9:=ja hb;clear ho hb)
    | (at_builtin;refine JU rfl _ _ rfl W2.heap.size AT T.length cT T rfl rfl HT2.o (Nat.le_refl _) (by omega) ?_;intro A8 c8 w8 ho hb;have HO8:=ja ho;have HB8:=ja hb;clear ho hb))
   have HBc:=ja (HB8.o.trans (HB9.o.trans (HB10.o.mono (Nat.le_trans HB8.o.size HB9.o.size))))
   have HR3:=ja (jm HR2.o HBc.o)
   have HL3:Hid (jP w10 w10.heap.size AL L.length cL L):=ja (Rq.more HL.o HB10.o.size)
   have HB3:=ja (HB2.o.trans (HBc.o.mono HB2.o.size))
   have HVL:Hid (jj L=100*jj T+jj [p1,p2]):=ja (by
    rw[HLD.o.2.1,Jv]
    have h100:∀q:Int,jj T*10 ^ 2+q=100*jj T+q:=λq=>by
     have:(10:Int) ^ 2=100:=by decide
     rw[this];omega
    exact h100 _)
   have hLb:L.length<=6000000000003:=by have:=HLD.o.2.2.2;rw[List.length_append] at this;simp at this;omega
   have HDL:=ja HLD.o.1
   clear HBc HR2 HL HB2 HB8 HB9 HB10 HO8 HO9 HT2 HPR HD8 HLD
   have HBa:=ja ((Below.refl w10.heap.size w10).alloc (Nat.le_refl _) (.cells #[] 3))
   have HR4:=ja (jm HR3.o HBa.o)
   have HL4:=ja (jm HL3.o HBa.o)
   have HB4:=ja (HB3.o.trans (HBa.o.mono HB3.o.size))
   clear HR3 HL3 HB3 HBa
   go_wp2
   generalize w10.alloc (.cells #[] 3)=wi at *
   go_loopw [10,11,12] (λdv pv nv W=>∃(next d:Int) (pl:List Int) (Ap:Option Addr) (cp:Nat),dv=.int .i64 d/\pv=.slice Ap pl.length cp/\nv=.int .i64 next/\FitI (jj R) (jj L) next d (jj pl)/\jP W W.heap.size Ap pl.length cp pl/\zD pl/\pl.length<=R.length+6/\Below wi.heap.size wi W) (λ_ _ nv _=>(10-intOf nv).toNat)
   case atStart=>exact⟨1,0,[],_,0,rfl,rfl,rfl,FitI.start (by have:=HDL.o.bounds;omega),⟨by simp,by simp,by omega,.inl rfl⟩,zD.nil,by simp,Below.refl _ _⟩
   case round=>
    obtain⟨next,d,pl,Ap,cp,rfl,rfl,rfl,hF,hP,hPd,hPl,hB⟩:=hrel
    have HF:=ja hF
    have HPp:=ja (And.intro hPd (And.intro hP hB))
    have hn0:1<=next:=by have:=hF.d0;have:=hF.nx;omega
    have hpb:pl.length<=6000000000006:=by omega
    clear hF hP hPd hPl hB
    by_cases h9:next<=9
    rotate_left 1
    ·have HR5:=ja (jm HR4.o HPp.o.2.2)
     have HL5:=ja (jm HL4.o HPp.o.2.2)
     have HP5:=ja HPp.o.2.1
     have HPd:=ja HPp.o.1
     have HB5:=ja (HB4.o.trans (HPp.o.2.2.mono HB4.o.size))
     clear HR4 HL4 HB4 HPp
     have HFIN:=ja (FitI.fin (p:=jj [p1,p2]) HI.o.at_ (hpp) HVL.o HF.o (.inl (by omega)))
     have hplb:pl.length<=6000000000006:=by omega
     go_wp2_with (first
      | (go_at_call 131;refine(Zw A72 s72.length c72 w72.heap.size s72 w72 (zd.read HO72.o) HD72.o.1).mono ?_;rintro e w73 ⟨T73,A73,c73,rfl,h73,hd73,hv73,htr73,hl73,hb73⟩;have H73:=ja h73;have HD73:=ja (And.intro hd73 (And.intro hv73 htr73));have HB73:=ja hb73;clear h73 hd73 hv73 htr73 hl73 hb73)
      | (go_at_call 133;refine(jj9 AL L.length cL L Ap pl.length cp pl wr.heap.size w69 (Rq.below HL5.o HB69.o) (Rq.below HP5.o HB69.o) HB69.o.size HDL.o HPd.o (by omega) (by omega) HFIN.o.2.2).mono ?_;rintro e w72 ⟨s72,A72,c72,rfl,ho72,hd72,hv72,hl72,hb72⟩;have HO72:=ja ho72;have HD72:=ja (And.intro hd72 (And.intro hv72 hl72));have HB72:=ja hb72;clear ho72 hd72 hv72 hl72 hb72)
      | (at_builtin;refine Jw rfl _ _ rfl wr.heap.size A66 R.length c66 R (some ⟨w66.heap.size,0,none⟩) 1 1 [d] rfl rfl (World.ownsRow.alloc HO66.o _) (zd.read (qt w66.heap.size w66 d (Nat.le_refl _))) (by rw[World.size_alloc];have:=HB66.o.size;omega) (by omega) ?_;intro A69 c69 w69 ho69 hb69;have HO69:=ja ho69;have HB69:=ja (HB66.o.trans (((Below.refl _ _).alloc HB66.o.size _).trans hb69));clear ho69 hb69)
      | (at_builtin;refine JU rfl _ _ rfl wr.heap.size AR R.length cR R rfl rfl HR5.o (Nat.le_refl _) (by omega) ?_;intro A66 c66 w66 ho66 hb66;have HO66:=ja ho66;have HB66:=ja hb66;clear ho66 hb66))
     have HBw:=ja (HB72.o.trans (HB73.o.mono HB72.o.size))
     have HBz:=ja (HB69.o.trans (HBw.o.mono HB69.o.size))
     have hl9:(R++[d]).length=R.length+1:=by simp
     have HRz:Hid (zd w.heap.size (.slice A69 (R.length+1) c69) (R++[d]) w73):=ja (by unfold zd;rw[hl9];exact jt3 (World.ownsRow.mono HO69.o HB5.o.size) HBw.o)
     refine⟨⟨i+2,R++[d],T73,A69,A73,c69,c73,by go_num,by rw[hl9],rfl,RootI.step (p:=jj [p1,p2]) HI.o (by have:=HM.o;omega) hd hev (congrArg jj HPAIR.o) HFIN.o.1 HFIN.o.2.1 HD73.o.1 HD73.o.2.2 ?_,by rw[hl9];exact HRz.o,Rq.more H73.o HB73.o.size,HB5.o.trans (HBz.o.mono HB5.o.size)⟩,by simp only[intOf];omega⟩
     rw[HD73.o.2.1,HD72.o.2.1,HVL.o]
    have hq0:=HI.o.dr.bounds
    have HD13:∀o:List Int,zD o->zD (o++[next]):=λo ho=>ho.append (zD.nil.cons ⟨by omega,h9⟩)
    have HD13':=ja HD13
    have HVP:Hid (∀o p:List Int,jj o=2*jj R->jj p=next*jj (o++[next])->jj p=(20*jj R+next)*next):=ja (λo p h1 h2=>by rw[h2,QU,h1];grind)
    clear HD13
    have HR5:=ja (jm HR4.o HPp.o.2.2)
    have HL5:=ja (jm HL4.o HPp.o.2.2)
    go_upto_region 14 with(first
     | (go_at_call 132;refine(JS A55 (o1.length+1) c55 w55.heap.size (o1++[next]) next w55 (zd.read HO55.o) (Nat.le_refl _) (HD13'.o o1 HD52.o.1) ⟨by omega,by omega⟩ (by omega)).mono ?_;rintro e w57 ⟨pp,A57,c57,rfl,ho57,hd57,hv57,hl57,hb57⟩;have HO57:=ja ho57;have HD57:=ja (And.intro hd57 (And.intro hv57 hl57));have HB57:=ja hb57;clear ho57 hd57 hv57 hl57 hb57)
     | (at_builtin;refine Jw rfl _ _ rfl wr.heap.size A52 o1.length c52 o1 (some ⟨w52.heap.size,0,none⟩) 1 1 [next] rfl rfl (World.ownsRow.alloc HO52.o _) (zd.read (qt w52.heap.size w52 next (Nat.le_refl _))) (by rw[World.size_alloc];have:=HB52.o.size;omega) (by have:=HD52.o.2.2;omega) ?_;intro A55 c55 w55 ho55 hb55;have HO55:=ja ho55;have HB55:=ja hb55;have hl52:=HD52.o.2.2;clear ho55 hb55)
     | (go_at_call 132;refine(JS AR R.length cR wr.heap.size R 2 wr HR5.o (Nat.le_refl _) HI.o.dr (by decide) (by omega)).mono ?_;rintro e w52 ⟨o1,A52,c52,rfl,ho52,hd52,hv52,hl52,hb52⟩;have HO52:=ja ho52;have HD52:=ja (And.intro hd52 (And.intro hv52 hl52));have HB52:=ja hb52;clear ho52 hd52 hv52 hl52 hb52))
    have HBx:=ja (HB52.o.trans (((Below.refl _ _).alloc HB52.o.size _).trans (HB55.o.trans (HB57.o.mono (Nat.le_trans HB52.o.size (Nat.le_trans (by simp) HB55.o.size))))))
    have HR6:=ja (jm HR5.o HBx.o)
    have HL6:=ja (jm HL5.o HBx.o)
    have HP6:=ja (jm HPp.o.2.1 HBx.o)
    have HB6:=ja (HB4.o.trans ((HPp.o.2.2.trans (HBx.o.mono HPp.o.2.2.size)).mono HB4.o.size))
    have HBi:=ja (HPp.o.2.2.trans (HBx.o.mono HPp.o.2.2.size))
    have HPd:=ja HPp.o.1
    have HVp:Hid (jj pp=(20*jj R+next)*next):=ja (HVP.o o1 pp HD52.o.2.1 HD57.o.2.1)
    have HDp:=ja HD57.o.1
    have hppl:pp.length<=R.length+5:=by have:=HD57.o.2.2;rw[List.length_append,List.length_singleton] at this;omega
    have HQp:=ja (zd.read HO57.o)
    clear HR4 HL4 HB4 HR5 HL5 HPp HVP HD13' HB52 HO52 HD52 hl52 HB55 HO55 HB57 HO57 HD57 HBx
    by_cases hfit:jj pp<=jj L
    ·have HFS:=ja (HF.o.step h9 HVp.o hfit)
     go_wp2_with (first
      | (go_at_call 88;refine(JE AL L.length cL L A57 pp.length c57 pp w57.heap.size w57 HL6.o HQp.o (Nat.le_refl _) HDL.o HDp.o (by omega) (by omega)).mono ?_;rintro e w60 ⟨rfl,hb60⟩;rw[decide_eq_true hfit];have HB60:=ja hb60;clear hb60))
     exact⟨⟨next+1,next,pp,A57,c57,rfl,rfl,rfl,HFS.o,jm HQp.o HB60.o,HDp.o,by omega,HBi.o.trans (HB60.o.mono HBi.o.size)⟩,by simp only[intOf];omega⟩
    ·have hlt:jj L<jj pp:=by omega
     go_upto_region 16 with(first
      | (go_at_call 88;refine(JE AL L.length cL L A57 pp.length c57 pp w57.heap.size w57 HL6.o HQp.o (Nat.le_refl _) HDL.o HDp.o (by omega) (by omega)).mono ?_;rintro e w60 ⟨rfl,hb60⟩;rw[decide_eq_false hfit];have HB60:=ja hb60;clear hb60))
     have HR5:=ja (jm HR6.o HB60.o)
     have HL5:=ja (jm HL6.o HB60.o)
     have HP5:=ja (jm HP6.o HB60.o)
     have HB5:=ja (HB6.o.trans (HB60.o.mono HB6.o.size))
     clear HR6 HL6 HP6 HB6 HBi HQp HB60
     have HFIN:=ja (FitI.fin (p:=jj [p1,p2]) HI.o.at_ (hpp) HVL.o HF.o (.inr ⟨h9,by rw[<-HVp.o];exact hlt⟩))
     have hplb:pl.length<=6000000000006:=by omega
     go_wp2_with (first
      | (go_at_call 131;refine(Zw A72 s72.length c72 w72.heap.size s72 w72 (zd.read HO72.o) HD72.o.1).mono ?_;rintro e w73 ⟨T73,A73,c73,rfl,h73,hd73,hv73,htr73,hl73,hb73⟩;have H73:=ja h73;have HD73:=ja (And.intro hd73 (And.intro hv73 htr73));have HB73:=ja hb73;clear h73 hd73 hv73 htr73 hl73 hb73)
      | (go_at_call 133;refine(jj9 AL L.length cL L Ap pl.length cp pl w60.heap.size w69 (Rq.below HL5.o HB69.o) (Rq.below HP5.o HB69.o) HB69.o.size HDL.o HPd.o (by omega) (by omega) HFIN.o.2.2).mono ?_;rintro e w72 ⟨s72,A72,c72,rfl,ho72,hd72,hv72,hl72,hb72⟩;have HO72:=ja ho72;have HD72:=ja (And.intro hd72 (And.intro hv72 hl72));have HB72:=ja hb72;clear ho72 hd72 hv72 hl72 hb72)
      | (at_builtin;refine Jw rfl _ _ rfl w60.heap.size A66 R.length c66 R (some ⟨w66.heap.size,0,none⟩) 1 1 [d] rfl rfl (World.ownsRow.alloc HO66.o _) (zd.read (qt w66.heap.size w66 d (Nat.le_refl _))) (by rw[World.size_alloc];have:=HB66.o.size;omega) (by omega) ?_;intro A69 c69 w69 ho69 hb69;have HO69:=ja ho69;have HB69:=ja (HB66.o.trans (((Below.refl _ _).alloc HB66.o.size _).trans hb69));clear ho69 hb69)
      | (at_builtin;refine JU rfl _ _ rfl w60.heap.size AR R.length cR R rfl rfl HR5.o (Nat.le_refl _) (by omega) ?_;intro A66 c66 w66 ho66 hb66;have HO66:=ja ho66;have HB66:=ja hb66;clear ho66 hb66))
     have HBw:=ja (HB72.o.trans (HB73.o.mono HB72.o.size))
     have HBz:=ja (HB69.o.trans (HBw.o.mono HB69.o.size))
     have hl9:(R++[d]).length=R.length+1:=by simp
     have HRz:Hid (zd w.heap.size (.slice A69 (R.length+1) c69) (R++[d]) w73):=ja (by unfold zd;rw[hl9];exact jt3 (World.ownsRow.mono HO69.o HB5.o.size) HBw.o)
     refine⟨⟨i+2,R++[d],T73,A69,A73,c69,c73,by go_num,by rw[hl9],rfl,RootI.step (p:=jj [p1,p2]) HI.o (by have:=HM.o;omega) hd hev (congrArg jj HPAIR.o) HFIN.o.1 HFIN.o.2.1 HD73.o.1 HD73.o.2.2 ?_,by rw[hl9];exact HRz.o,Rq.more H73.o HB73.o.size,HB5.o.trans (HBz.o.mono HB5.o.size)⟩,by simp only[intOf];omega⟩
     rw[HD73.o.2.1,HD72.o.2.1,HVL.o]
  ·obtain rfl:i=M:=by omega
   have HTZ:Hid ((T.length=0)=(jj T=0)):=ja (by
    have:=jcg3 HI.o.dt HI.o.tr
    rw[List.length_eq_zero_iff,eq_iff_iff];exact this.symm)
   go_wp2
   go_ret2
   have hbz:((T.length:Int)==0)=decide (jj T=0):=by
    rw[Bool.eq_iff_iff,beq_iff_eq,decide_eq_true_eq,<-HTZ.o]
    omega
   have hlong:(ZA nl more).length=i:=by unfold ZA;rw[HM.o];simp
   have hsq:=HI.o.at_
   rw[<-hlong,List.take_length] at hsq
   have hv:jj (ZA nl more)=jj nl*10 ^ (2*more):=by
    unfold ZA
    rw[Jv,List.length_replicate]
    have:=jp3 (2*more) []
    rw[List.append_nil] at this
    rw[this]
    simp[jj]
   rw[hv] at hsq
   refine⟨R,T,AR,cR,?_,HRo.o,HI.o.dr,by rw[HI.o.len,HM.o],hsq,HB.o⟩
   show Ending.returned (.tuple #[.slice AR R.length cR,.bool ((T.length:Int)==0)])=_
   rw[hbz]
