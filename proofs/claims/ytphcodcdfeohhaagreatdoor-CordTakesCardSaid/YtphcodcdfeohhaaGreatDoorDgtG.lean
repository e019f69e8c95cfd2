import Derived.Test.YtphcodcdfeohhaaGreatDoorDigAToDgtF
set_option linter.unusedVariables false
set_option linter.unusedSimpArgs false
namespace Go.Proofs.YtphcodcdfeohhaaGreatDoor
set_option maxRecDepth 100000
set_option maxHeartbeats 8000000
open Go Go.RowKit
theorem jft9{l:List Int}{m:Nat}(h:Dig l)(ht:∀d t,l=d::t->d≠0)(hv:valD l<10 ^ m):l.length<=m:=by
 cases l with
 | nil=>simp
 | cons d t=>
  have h0:=ht d t rfl
  have h1:=h.head
  have h2:=h.tail.bounds
  rw[jap8] at hv
  have h3:=Int.mul_le_mul_of_nonneg_right (show 1<=d by omega) (Int.le_of_lt (jaf0 t.length))
  rw[Int.one_mul] at h3
  rcases Nat.lt_or_ge t.length m with h4|h4
  ·exact h4
  ·exfalso
   obtain⟨j,hj⟩:=Nat.exists_eq_add_of_le h4
   have h5:(10:Int) ^ t.length=10 ^ m*10 ^ j:=by rw[hj,Int.pow_add]
   have h6:=Int.mul_le_mul_of_nonneg_left (show(1:Int)<=10 ^ j from jaf0 j) (Int.le_of_lt (jaf0 m))
   omega
theorem jbn9 {ops:Array Oper} {rest:List Oper} {o:Oper} {a:Act} {Q:Exit->Act->World->Prop} {w:World} (hgd:o.guard=none) (s x:Operand)
  (ho:o.op=.call { callee:=.builtin .append,args:=#[s,x],argTypes:=#[52,52] }) (base:Nat) (A1:Option Addr) (n1 c1:Nat) (l1:List Int) (A:Option Addr) (n c:Nat) (l:List Int)
  (hs:a.eval s=.slice A1 n1 c1) (hx:a.eval x=.slice A n c) (h1:w.ownsRow base 3 1 (.slice A1 n1 c1) n1 (l1.map (Value.int .i64))) (hl:zh7 w w.heap.size A n c l) (hb:base<=w.heap.size) (hn:n1+n<=15000000000000)
  (h:∀A' c' w',w'.ownsRow base 3 1 (.slice A' (n1+n) c') (n1+n) ((l1++l).map (Value.int .i64))->Below base w w'->wpList Tryz.prog ops Q rest (a.put o.dst (.slice A' (n1+n) c')) w') :
  wpList Tryz.prog ops Q (o::rest) a w:=by
 obtain⟨i1,hi1,hy0,hy1,hy2⟩:=info_parts Tryz.infoIntD
 refine jap9 hgd s x 52 ho base 3 i1 (.int .i64 0) 1 8 Tryz.underlying52 hi1 hy0 hy1 hy2 rfl (by decide) _ n1 (l1.map (Value.int .i64)) hs h1 A n c w.heap.size (l.map (Value.int .i64)) hx hl (jfb9 l) (by unfold maxLen;omega) (by omega) hb ?_
 intro A' c' w' h3 h4
 rw[<-List.map_append] at h3
 exact h A' c' w' h3 ((Below.refl base w).grown h4 hb (fun j e=>(h1.lt j e).1))
theorem jab0{w w':World}{A:Option Addr}{n c:Nat}{l:List Int}(h:zh7 w w.heap.size A n c l)(hb:Below w.heap.size w w'):zh7 w' w'.heap.size A n c l:=Rq.more (Rq.below h hb) hb.size
def jdv3(l:List Int)(more:Nat):List Int:=l++List.replicate (2*more) 0
theorem jfr4{nl:List Int}{more i:Nat}(hi:nl.length<=i)(he:i % 2=0)(hev:nl.length % 2=0)(h:i<nl.length+2*more):((jdv3 nl more).drop i).take 2=[0,0]:=by
 unfold jdv3
 obtain⟨j,hj⟩:∃j,2*more-(i-nl.length)=j+2:=⟨2*more-(i-nl.length)-2,by omega⟩
 rw[List.drop_append,List.drop_of_length_le hi,List.nil_append,List.drop_replicate,hj]
 rfl
theorem jfv6{nl:List Int}{more i:Nat}(hi:i+1<nl.length):((jdv3 nl more).drop i).take 2=[nl[i]'(by omega),nl[i+1]'hi]:=by
 unfold jdv3
 rw[List.drop_append_of_le_length (by omega),List.drop_eq_getElem_cons (show i<nl.length by omega),List.drop_eq_getElem_cons hi]
 rfl
theorem jfc0{w w':World}{base s n:Nat}{e:TypeId}{v:Value}{xs:List Value}(h:w.ownsRow base e s v n xs)(hb:Below w.heap.size w w'):w'.ownsRow base e s v n xs:=by
 obtain⟨hl,h⟩:=h
 refine⟨hl,?_⟩
 rcases h with h|⟨g,cap,cur,rfl,hb',hw,h1,h2,h3,h4⟩
 ·exact .inl h
 ·exact .inr ⟨g,cap,cur,rfl,hb',(hb.block g (lt_of_block hw)).trans hw,h1,h2,h3,h4⟩
structure RootI(nl:List Int)(more i:Nat)(R T:List Int):Prop where
 even:i % 2=0
 le:i<=nl.length+2*more
 dr:Dig R
 dt:Dig T
 tr:∀d t,T=d::t->d≠0
 at_:SqAt (valD ((jdv3 nl more).take i)) (valD R) (valD T)
 len:R.length=i/2
theorem RootI.start(nl:List Int)(more:Nat):RootI nl more 0 [] []:=⟨rfl,by omega,Dig.nil,Dig.nil,(fun _ _ h=>by cases h),(by simpa [valD] using SqAt.start),rfl⟩
theorem RootI.tlen{nl R T:List Int}{more i:Nat}(h:RootI nl more i R T):T.length<=R.length+1:=by
 refine jft9 h.dt h.tr ?_
 have h1:=h.at_.le
 have h2:=h.dr.bounds
 rw[jdy4]
 omega
theorem RootI.step {nl R T T':List Int} {more i:Nat} {d p part:Int} (h:RootI nl more i R T) (hi:i<nl.length+2*more) (hnl:Dig nl) (hne:nl.length % 2=0) (hp:p=valD (((jdv3 nl more).drop i).take 2)) (hd:0<=d/\d<=9)
  (hs:SqAt (100*valD ((jdv3 nl more).take i)+p) (10*valD R+d) (100*valD T+p-part)) (hT:Dig T') (htr:∀d t,T'=d::t->d≠0) (hv:valD T'=100*valD T+p-part):RootI nl more (i+2) (R++[d]) T':=by
 have he:=h.even
 have hlen:(jdv3 nl more).length=nl.length+2*more:=by unfold jdv3;simp
 refine⟨by omega,by omega,h.dr.append (Dig.nil.cons hd),hT,htr,?_,by rw[List.length_append,h.len,List.length_singleton];omega⟩
 rw[jdz1,hv]
 have e:(jdv3 nl more).take (i+2)=(jdv3 nl more).take i++((jdv3 nl more).drop i).take 2:=by rw[List.take_add]
 have e2:(((jdv3 nl more).drop i).take 2).length=2:=by rw[List.length_take,List.length_drop,hlen];omega
 rw[e,jbc2,e2,<-hp]
 have e3:valD ((jdv3 nl more).take i)*10 ^ 2+p=100*valD ((jdv3 nl more).take i)+p:=by
  have:(10:Int) ^ 2=100:=by decide
  rw[this];omega
 rw[e3,show valD R*10+d=10*valD R+d by omega]
 exact hs
theorem FitI.fin{V R T L p next d part:Int}(hs:SqAt V R T)(hp:0<=p/\p<=99)(hL:L=100*T+p)(h:FitI R L next d part)(he:9<next\/(next<=9/\L<(20*R+next)*next)):(0<=d/\d<=9)/\SqAt (100*V+p) (10*R+d) (100*T+p-part)/\part<=L:=by
 subst hL
 have h1:=FitI.last hs hp h he
 exact⟨⟨h1.1,h1.2.1⟩,h1.2.2,h.fits⟩
def jfn1(w:World)(nl:List Int)(more:Nat)(e:Ending)(w':World):Prop:=
 ∃(R T:List Int) (A:Option Addr) (c:Nat),e=.returned (.tuple #[.slice A R.length c,.bool (decide (valD T=0))])/\DRow w.heap.size (.slice A R.length c) R w'/\Dig R/\R.length=(nl.length+2*more)/2/\SqAt (valD nl*10 ^ (2*more)) (valD R) (valD T)/\Below w.heap.size w w'
theorem jfc2 (A0:Option Addr) (n0 c0 B:Nat) (nl:List Int) (more:Nat) (w:World) (hq:zh7 w B A0 n0 c0 nl) (hB:B<=w.heap.size) (hd:Dig nl) (hev:nl.length % 2=0) (hl:n0+2*more<=12000000000000) :
  Calls Tryz.prog 85 #[.slice A0 n0 c0,.int .i64 more] w (jfn1 w nl more):=by
 have e1:=hq.len
 subst e1
 have HQ0:=ja0 (fun W (hb:Below w.heap.size w W)=>Rq.below hq (hb.mono hB))
 clear hq
 obtain⟨M,hM⟩:∃M,M=nl.length+2*more:=⟨_,rfl⟩
 have hMb:M<=12000000000000:=by omega
 have HM:=ja0 hM
 have hsum:(nl.length:Int)+2*(more:Int)=(M:Int):=by omega
 have hnM:nl.length<=M:=by omega
 clear hM
 go_enter Tryz.func85,Tryz.ntmps85
 go_wp2
 go_loopw [6,7,8] (fun rv tv iv W=>∃(i:Nat) (R T:List Int) (AR AT:Option Addr) (cR cT:Nat),iv=.int .i64 i/\rv=.slice AR R.length cR/\tv=.slice AT T.length cT/\RootI nl more i R T/\DRow w.heap.size (.slice AR R.length cR) R W/\zh7 W W.heap.size AT T.length cT T/\Below w.heap.size w W) (fun _ _ iv _=>M-(intOf iv).toNat)
 case atStart=>
  refine⟨0,[],[],_,_,_,_,rfl,rfl,rfl,RootI.start nl more,?_,?_,((Below.refl _ _).alloc (Nat.le_refl _) _).alloc (by simp) _⟩
  ·exact World.ownsRow.alloc (World.ownsRow_lit (base:=w.heap.size) (e:=3) (size:=1) w #[] 0 (Nat.le_refl _) (by unfold maxLen;omega) rfl) _
  ·exact⟨by simp,by simp,by omega,.inl rfl⟩
 case round=>
  obtain⟨i,R,T,AR,AT,cR,cT,rfl,rfl,rfl,hI,hR,hT,hb⟩:=hrel
  have hiM:i<=M:=by have:=hI.le;have:=HM.out;omega
  have hRl:R.length<=6000000000000:=by have:=hI.len;omega
  have hTl:=hI.tlen
  have hTb:T.length<=6000000000001:=by omega
  have HI:=ja0 hI
  have HR:=ja0 (DRow.read hR)
  have HRo:=ja0 hR
  have HT:=ja0 hT
  have HB:=ja0 hb
  clear hI hR hT hb hTl
  by_cases hi:(i:Int)<(M:Int)
  ·have hiN:=hi
   go_upto_region 6 with fail
   have hX:(wr.alloc (.cells #[.int .i64 0,.int .i64 0] 3)).heap.size=wr.heap.size+1:=by simp
   have HBa:=ja0 ((Below.refl wr.heap.size wr).alloc (Nat.le_refl _) (.cells #[.int .i64 0,.int .i64 0] 3))
   by_cases hin:(i:Int)<(nl.length:Int)
   rotate_left 1
   focus
    have HPAIR:Hid ([(0:Int),0]=((jdv3 nl more).drop i).take 2):=ja0 (jfr4 (by omega) HI.out.even hev (by have:=HM.out;omega)).symm
    have HPD:Hid (Dig [(0:Int),0]):=ja0 (Dig.zeros 2)
    have HPR:Hid (zh7 (wr.alloc (.cells #[.int .i64 0,.int .i64 0] 3)) (wr.alloc (.cells #[.int .i64 0,.int .i64 0] 3)).heap.size (some ⟨wr.heap.size,0,none⟩) 2 2 [0,0]):=ja0 (DRow.read (World.ownsRow_lit (base:=wr.heap.size) (e:=3) (size:=1) wr #[.int .i64 0,.int .i64 0] 2 (Nat.le_refl _) (by unfold maxLen;omega) rfl))
    have HR2:=ja0 (jab0 HR.out HBa.out)
    have HT2:=ja0 (jab0 HT.out HBa.out)
    have HB2:=ja0 (HB.out.trans (HBa.out.mono HB.out.size))
    go_upto_region 8 with fail
    obtain⟨Xp,hXp⟩:∃X,X=wr.heap.size:=⟨_,rfl⟩
    rw[<-hXp] at HPR ⊢
    generalize wr.alloc (.cells #[.int .i64 0,.int .i64 0] 3)=W2 at *
    clear hX HBa hXp
    have HD8:Hid (Dig (T++[0,0])):=ja0 (HI.out.dt.append HPD.out)
    go_upto_region 9 with(first
     | (go_at_call 131;refine(jdv1 A9 (T.length+2) c9 w9.heap.size (T++[0,0]) w9 (DRow.read HO9.out) HD8.out).mono ?_;rintro e w10 ⟨L,AL,cL,rfl,hL,hdL,hvL,htr,hlL,hb10⟩
        have HL:=ja0 hL;have HLD:=ja0 (And.intro hdL (And.intro hvL (And.intro htr hlL)));have HB10:=ja0 hb10;clear hL hdL hvL htr hlL hb10)
     | (at_builtin;refine jbn9 rfl _ _ rfl W2.heap.size A8 T.length c8 T (some ⟨Xp,0,none⟩) 2 2 [0,0] rfl rfl HO8.out (jab0 HPR.out HB8.out) HB8.out.size (by omega) ?_;intro A9 c9 w9 ho hb;have HO9:=ja0 ho;have HB9:=ja0 hb;clear ho hb)
     | (at_builtin;refine jcn9 rfl _ _ rfl W2.heap.size AT T.length cT T rfl rfl HT2.out (Nat.le_refl _) (by omega) ?_;intro A8 c8 w8 ho hb;have HO8:=ja0 ho;have HB8:=ja0 hb;clear ho hb))
    have HBc:=ja0 (HB8.out.trans (HB9.out.trans (HB10.out.mono (Nat.le_trans HB8.out.size HB9.out.size))))
    have HR3:=ja0 (jab0 HR2.out HBc.out)
    have HL3:Hid (zh7 w10 w10.heap.size AL L.length cL L):=ja0 (Rq.more HL.out HB10.out.size)
    have HB3:=ja0 (HB2.out.trans (HBc.out.mono HB2.out.size))
    have HVL:Hid (valD L=100*valD T+valD [0,0]):=ja0 (by
     rw[HLD.out.2.1,jbc2]
     have h100:∀q:Int,valD T*10 ^ 2+q=100*valD T+q:=fun q=>by
      have:(10:Int) ^ 2=100:=by decide
      rw[this];omega
     exact h100 _)
    have hLb:L.length<=6000000000003:=by have:=HLD.out.2.2.2;rw[List.length_append] at this;simp at this;omega
    have HDL:=ja0 HLD.out.1
    clear HBc HR2 HL HB2 HB8 HB9 HB10 HO8 HO9 HT2 HPR HD8 HLD
    have HBa:=ja0 ((Below.refl w10.heap.size w10).alloc (Nat.le_refl _) (.cells #[] 3))
    have HR4:=ja0 (jab0 HR3.out HBa.out)
    have HL4:=ja0 (jab0 HL3.out HBa.out)
    have HB4:=ja0 (HB3.out.trans (HBa.out.mono HB3.out.size))
    clear HR3 HL3 HB3 HBa
    go_wp2
    generalize w10.alloc (.cells #[] 3)=wi at *
    go_loopw [10,11,12] (fun dv pv nv W=>∃(next d:Int) (pl:List Int) (Ap:Option Addr) (cp:Nat),dv=.int .i64 d/\pv=.slice Ap pl.length cp/\nv=.int .i64 next/\FitI (valD R) (valD L) next d (valD pl)/\zh7 W W.heap.size Ap pl.length cp pl/\Dig pl/\pl.length<=R.length+6/\Below wi.heap.size wi W) (fun _ _ nv _=>(10-intOf nv).toNat)
    case atStart=>exact⟨1,0,[],_,0,rfl,rfl,rfl,FitI.start (by have:=HDL.out.bounds;omega),⟨by simp,by simp,by omega,.inl rfl⟩,Dig.nil,by simp,Below.refl _ _⟩
    case round=>
     obtain⟨next,d,pl,Ap,cp,rfl,rfl,rfl,hF,hP,hPd,hPl,hB⟩:=hrel
     have HF:=ja0 hF
     have HPp:=ja0 (And.intro hPd (And.intro hP hB))
     have hn0:1<=next:=by have:=hF.d0;have:=hF.nx;omega
     have hpb:pl.length<=6000000000006:=by omega
     clear hF hP hPd hPl hB
     by_cases h9:next<=9
     rotate_left 1
     ·have HR5:=ja0 (jab0 HR4.out HPp.out.2.2)
      have HL5:=ja0 (jab0 HL4.out HPp.out.2.2)
      have HP5:=ja0 HPp.out.2.1
      have HPd:=ja0 HPp.out.1
      have HB5:=ja0 (HB4.out.trans (HPp.out.2.2.mono HB4.out.size))
      clear HR4 HL4 HB4 HPp
      have HFIN:=ja0 (FitI.fin (p:=valD [0,0]) HI.out.at_ (by decide) HVL.out HF.out (.inl (by omega)))
      have hplb:pl.length<=6000000000006:=by omega
      go_wp2_with (first
       | (go_at_call 131;refine(jdv1 A72 s72.length c72 w72.heap.size s72 w72 (DRow.read HO72.out) HD72.out.1).mono ?_;rintro e w73 ⟨T73,A73,c73,rfl,h73,hd73,hv73,htr73,hl73,hb73⟩;have H73:=ja0 h73;have HD73:=ja0 (And.intro hd73 (And.intro hv73 htr73));have HB73:=ja0 hb73;clear h73 hd73 hv73 htr73 hl73 hb73)
       | (go_at_call 133;refine(jfa6 AL L.length cL L Ap pl.length cp pl wr.heap.size w69 (Rq.below HL5.out HB69.out) (Rq.below HP5.out HB69.out) HB69.out.size HDL.out HPd.out (by omega) (by omega) HFIN.out.2.2).mono ?_;rintro e w72 ⟨s72,A72,c72,rfl,ho72,hd72,hv72,hl72,hb72⟩;have HO72:=ja0 ho72;have HD72:=ja0 (And.intro hd72 (And.intro hv72 hl72));have HB72:=ja0 hb72;clear ho72 hd72 hv72 hl72 hb72)
       | (at_builtin;refine jbn9 rfl _ _ rfl wr.heap.size A66 R.length c66 R (some ⟨w66.heap.size,0,none⟩) 1 1 [d] rfl rfl (World.ownsRow.alloc HO66.out _) (DRow.read (jdy0 w66.heap.size w66 d (Nat.le_refl _))) (by rw[World.size_alloc];have:=HB66.out.size;omega) (by omega) ?_;intro A69 c69 w69 ho69 hb69;have HO69:=ja0 ho69;have HB69:=ja0 (HB66.out.trans (((Below.refl _ _).alloc HB66.out.size _).trans hb69));clear ho69 hb69)
       | (at_builtin;refine jcn9 rfl _ _ rfl wr.heap.size AR R.length cR R rfl rfl HR5.out (Nat.le_refl _) (by omega) ?_;intro A66 c66 w66 ho66 hb66;have HO66:=ja0 ho66;have HB66:=ja0 hb66;clear ho66 hb66))
      have HBw:=ja0 (HB72.out.trans (HB73.out.mono HB72.out.size))
      have HBz:=ja0 (HB69.out.trans (HBw.out.mono HB69.out.size))
      have hl9:(R++[d]).length=R.length+1:=by simp
      have HRz:Hid (DRow w.heap.size (.slice A69 (R.length+1) c69) (R++[d]) w73):=ja0 (by unfold DRow;rw[hl9];exact jfc0 (World.ownsRow.mono HO69.out HB5.out.size) HBw.out)
      refine⟨⟨i+2,R++[d],T73,A69,A73,c69,c73,by go_num,by rw[hl9],rfl,RootI.step (p:=valD [0,0]) HI.out (by have:=HM.out;omega) hd hev (congrArg valD HPAIR.out) HFIN.out.1 HFIN.out.2.1 HD73.out.1 HD73.out.2.2 ?_,by rw[hl9];exact HRz.out,Rq.more H73.out HB73.out.size,HB5.out.trans (HBz.out.mono HB5.out.size)⟩,by simp only[intOf];omega⟩
      rw[HD73.out.2.1,HD72.out.2.1,HVL.out]
     have hq0:=HI.out.dr.bounds
     have HD13:∀o:List Int,Dig o->Dig (o++[next]):=fun o ho=>ho.append (Dig.nil.cons ⟨by omega,h9⟩)
     have HD13':=ja0 HD13
     have HVP:Hid (∀o p:List Int,valD o=2*valD R->valD p=next*valD (o++[next])->valD p=(20*valD R+next)*next):=ja0 (fun o p h1 h2=>by rw[h2,jdz1,h1];grind)
     clear HD13
     have HR5:=ja0 (jab0 HR4.out HPp.out.2.2)
     have HL5:=ja0 (jab0 HL4.out HPp.out.2.2)
     go_upto_region 14 with(first
      | (go_at_call 132;refine(jcb2 A55 (o1.length+1) c55 w55.heap.size (o1++[next]) next w55 (DRow.read HO55.out) (Nat.le_refl _) (HD13'.out o1 HD52.out.1) ⟨by omega,by omega⟩ (by omega)).mono ?_;rintro e w57 ⟨pp,A57,c57,rfl,ho57,hd57,hv57,hl57,hb57⟩;have HO57:=ja0 ho57;have HD57:=ja0 (And.intro hd57 (And.intro hv57 hl57));have HB57:=ja0 hb57;clear ho57 hd57 hv57 hl57 hb57)
      | (at_builtin;refine jbn9 rfl _ _ rfl wr.heap.size A52 o1.length c52 o1 (some ⟨w52.heap.size,0,none⟩) 1 1 [next] rfl rfl (World.ownsRow.alloc HO52.out _) (DRow.read (jdy0 w52.heap.size w52 next (Nat.le_refl _))) (by rw[World.size_alloc];have:=HB52.out.size;omega) (by have:=HD52.out.2.2;omega) ?_;intro A55 c55 w55 ho55 hb55;have HO55:=ja0 ho55;have HB55:=ja0 hb55;have hl52:=HD52.out.2.2;clear ho55 hb55)
      | (go_at_call 132;refine(jcb2 AR R.length cR wr.heap.size R 2 wr HR5.out (Nat.le_refl _) HI.out.dr (by decide) (by omega)).mono ?_;rintro e w52 ⟨o1,A52,c52,rfl,ho52,hd52,hv52,hl52,hb52⟩;have HO52:=ja0 ho52;have HD52:=ja0 (And.intro hd52 (And.intro hv52 hl52));have HB52:=ja0 hb52;clear ho52 hd52 hv52 hl52 hb52))
     have HBx:=ja0 (HB52.out.trans (((Below.refl _ _).alloc HB52.out.size _).trans (HB55.out.trans (HB57.out.mono (Nat.le_trans HB52.out.size (Nat.le_trans (by simp) HB55.out.size))))))
     have HR6:=ja0 (jab0 HR5.out HBx.out)
     have HL6:=ja0 (jab0 HL5.out HBx.out)
     have HP6:=ja0 (jab0 HPp.out.2.1 HBx.out)
     have HB6:=ja0 (HB4.out.trans ((HPp.out.2.2.trans (HBx.out.mono HPp.out.2.2.size)).mono HB4.out.size))
     have HBi:=ja0 (HPp.out.2.2.trans (HBx.out.mono HPp.out.2.2.size))
     have HPd:=ja0 HPp.out.1
     have HVp:Hid (valD pp=(20*valD R+next)*next):=ja0 (HVP.out o1 pp HD52.out.2.1 HD57.out.2.1)
     have HDp:=ja0 HD57.out.1
     have hppl:pp.length<=R.length+5:=by have:=HD57.out.2.2;rw[List.length_append,List.length_singleton] at this;omega
     have HQp:=ja0 (DRow.read HO57.out)
     clear HR4 HL4 HB4 HR5 HL5 HPp HVP HD13' HB52 HO52 HD52 hl52 HB55 HO55 HB57 HO57 HD57 HBx
     by_cases hfit:valD pp<=valD L
     ·have HFS:=ja0 (HF.out.step h9 HVp.out hfit)
      go_wp2_with (first
       | (go_at_call 88;refine(jby2 AL L.length cL L A57 pp.length c57 pp w57.heap.size w57 HL6.out HQp.out (Nat.le_refl _) HDL.out HDp.out (by omega) (by omega)).mono ?_;rintro e w60 ⟨rfl,hb60⟩;rw[decide_eq_true hfit];have HB60:=ja0 hb60;clear hb60))
      exact⟨⟨next+1,next,pp,A57,c57,rfl,rfl,rfl,HFS.out,jab0 HQp.out HB60.out,HDp.out,by omega,HBi.out.trans (HB60.out.mono HBi.out.size)⟩,by simp only[intOf];omega⟩
     ·have hlt:valD L<valD pp:=by omega
      go_upto_region 16 with(first
       | (go_at_call 88;refine(jby2 AL L.length cL L A57 pp.length c57 pp w57.heap.size w57 HL6.out HQp.out (Nat.le_refl _) HDL.out HDp.out (by omega) (by omega)).mono ?_;rintro e w60 ⟨rfl,hb60⟩;rw[decide_eq_false hfit];have HB60:=ja0 hb60;clear hb60))
      have HR5:=ja0 (jab0 HR6.out HB60.out)
      have HL5:=ja0 (jab0 HL6.out HB60.out)
      have HP5:=ja0 (jab0 HP6.out HB60.out)
      have HB5:=ja0 (HB6.out.trans (HB60.out.mono HB6.out.size))
      clear HR6 HL6 HP6 HB6 HBi HQp HB60
      have HFIN:=ja0 (FitI.fin (p:=valD [0,0]) HI.out.at_ (by decide) HVL.out HF.out (.inr ⟨h9,by rw[<-HVp.out];exact hlt⟩))
      have hplb:pl.length<=6000000000006:=by omega
      go_wp2_with (first
       | (go_at_call 131;refine(jdv1 A72 s72.length c72 w72.heap.size s72 w72 (DRow.read HO72.out) HD72.out.1).mono ?_;rintro e w73 ⟨T73,A73,c73,rfl,h73,hd73,hv73,htr73,hl73,hb73⟩;have H73:=ja0 h73;have HD73:=ja0 (And.intro hd73 (And.intro hv73 htr73));have HB73:=ja0 hb73;clear h73 hd73 hv73 htr73 hl73 hb73)
       | (go_at_call 133;refine(jfa6 AL L.length cL L Ap pl.length cp pl w60.heap.size w69 (Rq.below HL5.out HB69.out) (Rq.below HP5.out HB69.out) HB69.out.size HDL.out HPd.out (by omega) (by omega) HFIN.out.2.2).mono ?_;rintro e w72 ⟨s72,A72,c72,rfl,ho72,hd72,hv72,hl72,hb72⟩;have HO72:=ja0 ho72;have HD72:=ja0 (And.intro hd72 (And.intro hv72 hl72));have HB72:=ja0 hb72;clear ho72 hd72 hv72 hl72 hb72)
       | (at_builtin;refine jbn9 rfl _ _ rfl w60.heap.size A66 R.length c66 R (some ⟨w66.heap.size,0,none⟩) 1 1 [d] rfl rfl (World.ownsRow.alloc HO66.out _) (DRow.read (jdy0 w66.heap.size w66 d (Nat.le_refl _))) (by rw[World.size_alloc];have:=HB66.out.size;omega) (by omega) ?_;intro A69 c69 w69 ho69 hb69;have HO69:=ja0 ho69;have HB69:=ja0 (HB66.out.trans (((Below.refl _ _).alloc HB66.out.size _).trans hb69));clear ho69 hb69)
       | (at_builtin;refine jcn9 rfl _ _ rfl w60.heap.size AR R.length cR R rfl rfl HR5.out (Nat.le_refl _) (by omega) ?_;intro A66 c66 w66 ho66 hb66;have HO66:=ja0 ho66;have HB66:=ja0 hb66;clear ho66 hb66))
      have HBw:=ja0 (HB72.out.trans (HB73.out.mono HB72.out.size))
      have HBz:=ja0 (HB69.out.trans (HBw.out.mono HB69.out.size))
      have hl9:(R++[d]).length=R.length+1:=by simp
      have HRz:Hid (DRow w.heap.size (.slice A69 (R.length+1) c69) (R++[d]) w73):=ja0 (by unfold DRow;rw[hl9];exact jfc0 (World.ownsRow.mono HO69.out HB5.out.size) HBw.out)
      refine⟨⟨i+2,R++[d],T73,A69,A73,c69,c73,by go_num,by rw[hl9],rfl,RootI.step (p:=valD [0,0]) HI.out (by have:=HM.out;omega) hd hev (congrArg valD HPAIR.out) HFIN.out.1 HFIN.out.2.1 HD73.out.1 HD73.out.2.2 ?_,by rw[hl9];exact HRz.out,Rq.more H73.out HB73.out.size,HB5.out.trans (HBz.out.mono HB5.out.size)⟩,by simp only[intOf];omega⟩
      rw[HD73.out.2.1,HD72.out.2.1,HVL.out]
   have hi1:i+1<nl.length:=by have:=HI.out.even;omega
   have hi0:i<nl.length:=by omega
   have HPAIR:=ja0 (jfv6 (more:=more) hi1).symm
   have HPD:Hid (Dig [nl[i],nl[i+1]]):=ja0 (fun x hx=>by
    rcases List.mem_cons.1 hx with rfl|hx
    ·exact hd.at_ hi0
    ·obtain rfl:=List.mem_singleton.1 hx
     exact hd.at_ hi1)
   have hpp:0<=valD [nl[i],nl[i+1]]/\valD [nl[i],nl[i+1]]<=99:=by
    have h:=HPD.out.bounds
    have:(10:Int) ^ [nl[i],nl[i+1]].length=100:=by simp
    omega
   have HNW:=ja0 (HQ0.out _ (HB.out.trans (HBa.out.mono HB.out.size)))
   have HR2':=ja0 (jab0 HR.out HBa.out)
   have HT2':=ja0 (jab0 HT.out HBa.out)
   have HB2':=ja0 (HB.out.trans (HBa.out.mono HB.out.size))
   go_upto_region 7 with fail
   generalize wr.alloc (.cells #[.int .i64 0,.int .i64 0] 3)=W1 at *
   obtain⟨ad,hA0,-,h1⟩:=zh7.at_ HNW.out hi0
   obtain⟨ad',hA0',-,h2⟩:=zh7.at_ HNW.out hi1
   rw[hA0] at hA0'
   cases hA0'
   subst hA0
   generalize nl[i]=p1 at *
   generalize nl[i+1]=p2 at *
   have hw7:IntKind.i64.wrap ((i:Int)+1)=(i:Int)+1:=by rw[IntKind.wrap_i64];omega
   have hi1':(i:Int)+1<(nl.length:Int):=by omega
   have hi0':0<=(i:Int)+1:=by omega
   refine jj7 (fun _=>True) 9 (fun W'=>W'.cell? (ad.add i)=some (.int .i64 p1)/\W'.cell? (ad.add (i+1))=some (.int .i64 p2)) 9 (fun _=>True) (by kernel_rfl) ⟨trivial,fun _=>⟨h1,h2⟩,fun _=>trivial⟩ (fun ja1=>?_)
   have HB7:=ja0 (HB2'.out.trans ((Below.drew (Below.refl W1.heap.size W1)).mono HB2'.out.size))
   have HR7:=ja0 (jab0 HR2'.out (Below.drew (Below.refl W1.heap.size W1)))
   have HT7:=ja0 (jab0 HT2'.out (Below.drew (Below.refl W1.heap.size W1)))
   clear HB2' HR2' HT2' hX HBa HNW h1 h2
   generalize W1.drew=Wd at *
   refine ja2 0 rfl (by decide +kernel) (fun c a w h=>by first|exact h|(cases h;done)) (by rfl) (v:=?_) ?_ ja1 (fun ja4=>?_)
   rotate_left 1
   focus (intro w' hSw;clear hSw;go_simp;try with_reducible rfl)
   clear ja1
   rename ja8 _ _ _ _ _ _ _=>ja1
   (try simp only[Act.put,lA,lB,lC])
   refine ja2 1 rfl (by decide +kernel) (fun c a w h=>by first|exact h|(cases h;done)) (by rfl) (v:=?_) ?_ ja1 (fun ja4=>?_)
   rotate_left 1
   focus (intro w' hSw;clear hSw;go_simp;try with_reducible rfl)
   clear ja1
   rename ja8 _ _ _ _ _ _ _=>ja1
   (try simp only[Act.put,lA,lB,lC])
   refine ja2 2 rfl (by decide +kernel) (fun c a w h=>by first|exact h|(cases h;done)) (by rfl) (v:=?_) ?_ ja1 (fun ja4=>?_)
   rotate_left 1
   focus (intro w' hSw;clear hSw;go_simp;try with_reducible rfl)
   clear ja1
   rename ja8 _ _ _ _ _ _ _=>ja1
   (try simp only[Act.put,lA,lB,lC])
   refine ja2 3 rfl (by decide +kernel) (fun c a w h=>by first|exact h|(cases h;done)) (by rfl) (v:=?_) ?_ ja1 (fun ja4=>?_)
   rotate_left 1
   focus (intro w' hSw;obtain⟨hC,hF,hG⟩:=hSw;clear hG;have hF:=hF (by decide +kernel);have e1:=hF.1;have e2:=hF.2;have e3:w'.cell? ⟨ad.block,ad.off+(i+1),none⟩=some (.int .i64 p2):=e2;clear hF;go_simp;try with_reducible rfl)
   clear ja1
   rename ja8 _ _ _ _ _ _ _=>ja1
   (try simp only[Act.put,lA,lB,lC])
   refine ja2 4 rfl (by decide +kernel) (fun c a w h=>by first|exact h|(cases h;done)) (by rfl) (v:=?_) ?_ ja1 (fun ja4=>?_)
   rotate_left 1
   focus (intro w' hSw;clear hSw;go_simp;try with_reducible rfl)
   clear ja1
   rename ja8 _ _ _ _ _ _ _=>ja1
   (try simp only[Act.put,lA,lB,lC])
   refine ja2 5 rfl (by decide +kernel) (fun c a w h=>by first|exact h|(cases h;done)) (by rfl) (v:=?_) ?_ ja1 (fun ja4=>?_)
   rotate_left 1
   focus (intro w' hSw;clear hSw;go_simp;try with_reducible rfl)
   clear ja1
   rename ja8 _ _ _ _ _ _ _=>ja1
   (try simp only[Act.put,lA,lB,lC])
   refine ja2 6 rfl (by decide +kernel) (fun c a w h=>by first|exact h|(cases h;done)) (by rfl) (v:=?_) ?_ ja1 (fun ja4=>?_)
   rotate_left 1
   focus (intro w' hSw;clear hSw;go_simp;try with_reducible rfl)
   clear ja1
   rename ja8 _ _ _ _ _ _ _=>ja1
   (try simp only[Act.put,lA,lB,lC])
   refine ja2 7 rfl (by decide +kernel) (fun c a w h=>by first|exact h|(cases h;done)) (by rfl) (v:=?_) ?_ ja1 (fun ja4=>?_)
   rotate_left 1
   focus (intro w' hSw;clear hSw;go_simp;try with_reducible rfl)
   clear ja1
   rename ja8 _ _ _ _ _ _ _=>ja1
   (try simp only[Act.put,lA,lB,lC])
   refine ja2 8 rfl (by decide +kernel) (fun c a w h=>by first|exact h|(cases h;done)) (by rfl) (v:=?_) ?_ ja1 (fun ja4=>?_)
   rotate_left 1
   focus (intro w' hSw;obtain⟨hC,hF,hG⟩:=hSw;clear hG;have hF:=hF (by decide +kernel);have e1:=hF.1;have e2:=hF.2;have e3:w'.cell? ⟨ad.block,ad.off+(i+1),none⟩=some (.int .i64 p2):=e2;clear hF;go_simp;try with_reducible rfl)
   clear ja1
   rename ja8 _ _ _ _ _ _ _=>ja1
   (try simp only[Act.put,lA,lB,lC])
   refine jb5 9 rfl (by decide +kernel) (fun K hK=>?_)
   go_simp
   refine hK.out _ _ ⟨trivial,fun h=>absurd h (by decide +kernel),fun _=>trivial⟩ (fun ja1=>?_)
   clear hK K
   (try simp only[Act.put,lA,lB,lC])
   refine jb5 10 rfl (by decide +kernel) (fun K hK=>?_)
   go_simp
   refine hK.out _ _ ⟨trivial,fun h=>absurd h (by decide +kernel),fun _=>trivial⟩ (fun ja1=>?_)
   clear hK K
   (try simp only[Act.put,lA,lB,lC])
   refine jf8 (by decide +kernel) ?_
   clear ja1
   have HPR:Hid (zh7 (Wd.alloc (.cells #[.int .i64 p1,.int .i64 p2] 3)) (Wd.alloc (.cells #[.int .i64 p1,.int .i64 p2] 3)).heap.size (some ⟨Wd.heap.size,0,none⟩) 2 2 [p1,p2]):=ja0 (DRow.read (World.ownsRow_lit (base:=Wd.heap.size) (e:=3) (size:=1) Wd #[.int .i64 p1,.int .i64 p2] 2 (Nat.le_refl _) (by unfold maxLen;omega) rfl))
   have HBa:=ja0 ((Below.refl Wd.heap.size Wd).alloc (Nat.le_refl _) (.cells #[.int .i64 p1,.int .i64 p2] 3))
   have HR2:=ja0 (jab0 (show zh7 Wd Wd.heap.size AR R.length cR R from HR7.out) HBa.out)
   have HT2:=ja0 (jab0 (show zh7 Wd Wd.heap.size AT T.length cT T from HT7.out) HBa.out)
   have HB2:=ja0 (HB7.out.trans (HBa.out.mono HB7.out.size))
   obtain⟨Xp,hXp⟩:∃X,X=Wd.heap.size:=⟨_,rfl⟩
   rw[<-hXp] at HPR ⊢
   clear hXp HBa HR7 HT7 HB7
   generalize Wd.alloc (.cells #[.int .i64 p1,.int .i64 p2] 3)=W2 at *
   have HD8:Hid (Dig (T++[p1,p2])):=ja0 (HI.out.dt.append HPD.out)
   go_upto_region 9 with(first
    | (go_at_call 131;refine(jdv1 A9 (T.length+2) c9 w9.heap.size (T++[p1,p2]) w9 (DRow.read HO9.out) HD8.out).mono ?_;rintro e w10 ⟨L,AL,cL,rfl,hL,hdL,hvL,htr,hlL,hb10⟩
       have HL:=ja0 hL;have HLD:=ja0 (And.intro hdL (And.intro hvL (And.intro htr hlL)));have HB10:=ja0 hb10;clear hL hdL hvL htr hlL hb10)
    | (at_builtin;refine jbn9 rfl _ _ rfl W2.heap.size A8 T.length c8 T (some ⟨Xp,0,none⟩) 2 2 [p1,p2] rfl rfl HO8.out (jab0 HPR.out HB8.out) HB8.out.size (by omega) ?_;intro A9 c9 w9 ho hb;have HO9:=ja0 ho;have HB9:=ja0 hb;clear ho hb)
    | (at_builtin;refine jcn9 rfl _ _ rfl W2.heap.size AT T.length cT T rfl rfl HT2.out (Nat.le_refl _) (by omega) ?_;intro A8 c8 w8 ho hb;have HO8:=ja0 ho;have HB8:=ja0 hb;clear ho hb))
   have HBc:=ja0 (HB8.out.trans (HB9.out.trans (HB10.out.mono (Nat.le_trans HB8.out.size HB9.out.size))))
   have HR3:=ja0 (jab0 HR2.out HBc.out)
   have HL3:Hid (zh7 w10 w10.heap.size AL L.length cL L):=ja0 (Rq.more HL.out HB10.out.size)
   have HB3:=ja0 (HB2.out.trans (HBc.out.mono HB2.out.size))
   have HVL:Hid (valD L=100*valD T+valD [p1,p2]):=ja0 (by
    rw[HLD.out.2.1,jbc2]
    have h100:∀q:Int,valD T*10 ^ 2+q=100*valD T+q:=fun q=>by
     have:(10:Int) ^ 2=100:=by decide
     rw[this];omega
    exact h100 _)
   have hLb:L.length<=6000000000003:=by have:=HLD.out.2.2.2;rw[List.length_append] at this;simp at this;omega
   have HDL:=ja0 HLD.out.1
   clear HBc HR2 HL HB2 HB8 HB9 HB10 HO8 HO9 HT2 HPR HD8 HLD
   have HBa:=ja0 ((Below.refl w10.heap.size w10).alloc (Nat.le_refl _) (.cells #[] 3))
   have HR4:=ja0 (jab0 HR3.out HBa.out)
   have HL4:=ja0 (jab0 HL3.out HBa.out)
   have HB4:=ja0 (HB3.out.trans (HBa.out.mono HB3.out.size))
   clear HR3 HL3 HB3 HBa
   go_wp2
   generalize w10.alloc (.cells #[] 3)=wi at *
   go_loopw [10,11,12] (fun dv pv nv W=>∃(next d:Int) (pl:List Int) (Ap:Option Addr) (cp:Nat),dv=.int .i64 d/\pv=.slice Ap pl.length cp/\nv=.int .i64 next/\FitI (valD R) (valD L) next d (valD pl)/\zh7 W W.heap.size Ap pl.length cp pl/\Dig pl/\pl.length<=R.length+6/\Below wi.heap.size wi W) (fun _ _ nv _=>(10-intOf nv).toNat)
   case atStart=>exact⟨1,0,[],_,0,rfl,rfl,rfl,FitI.start (by have:=HDL.out.bounds;omega),⟨by simp,by simp,by omega,.inl rfl⟩,Dig.nil,by simp,Below.refl _ _⟩
   case round=>
    obtain⟨next,d,pl,Ap,cp,rfl,rfl,rfl,hF,hP,hPd,hPl,hB⟩:=hrel
    have HF:=ja0 hF
    have HPp:=ja0 (And.intro hPd (And.intro hP hB))
    have hn0:1<=next:=by have:=hF.d0;have:=hF.nx;omega
    have hpb:pl.length<=6000000000006:=by omega
    clear hF hP hPd hPl hB
    by_cases h9:next<=9
    rotate_left 1
    ·have HR5:=ja0 (jab0 HR4.out HPp.out.2.2)
     have HL5:=ja0 (jab0 HL4.out HPp.out.2.2)
     have HP5:=ja0 HPp.out.2.1
     have HPd:=ja0 HPp.out.1
     have HB5:=ja0 (HB4.out.trans (HPp.out.2.2.mono HB4.out.size))
     clear HR4 HL4 HB4 HPp
     have HFIN:=ja0 (FitI.fin (p:=valD [p1,p2]) HI.out.at_ (hpp) HVL.out HF.out (.inl (by omega)))
     have hplb:pl.length<=6000000000006:=by omega
     go_wp2_with (first
      | (go_at_call 131;refine(jdv1 A72 s72.length c72 w72.heap.size s72 w72 (DRow.read HO72.out) HD72.out.1).mono ?_;rintro e w73 ⟨T73,A73,c73,rfl,h73,hd73,hv73,htr73,hl73,hb73⟩;have H73:=ja0 h73;have HD73:=ja0 (And.intro hd73 (And.intro hv73 htr73));have HB73:=ja0 hb73;clear h73 hd73 hv73 htr73 hl73 hb73)
      | (go_at_call 133;refine(jfa6 AL L.length cL L Ap pl.length cp pl wr.heap.size w69 (Rq.below HL5.out HB69.out) (Rq.below HP5.out HB69.out) HB69.out.size HDL.out HPd.out (by omega) (by omega) HFIN.out.2.2).mono ?_;rintro e w72 ⟨s72,A72,c72,rfl,ho72,hd72,hv72,hl72,hb72⟩;have HO72:=ja0 ho72;have HD72:=ja0 (And.intro hd72 (And.intro hv72 hl72));have HB72:=ja0 hb72;clear ho72 hd72 hv72 hl72 hb72)
      | (at_builtin;refine jbn9 rfl _ _ rfl wr.heap.size A66 R.length c66 R (some ⟨w66.heap.size,0,none⟩) 1 1 [d] rfl rfl (World.ownsRow.alloc HO66.out _) (DRow.read (jdy0 w66.heap.size w66 d (Nat.le_refl _))) (by rw[World.size_alloc];have:=HB66.out.size;omega) (by omega) ?_;intro A69 c69 w69 ho69 hb69;have HO69:=ja0 ho69;have HB69:=ja0 (HB66.out.trans (((Below.refl _ _).alloc HB66.out.size _).trans hb69));clear ho69 hb69)
      | (at_builtin;refine jcn9 rfl _ _ rfl wr.heap.size AR R.length cR R rfl rfl HR5.out (Nat.le_refl _) (by omega) ?_;intro A66 c66 w66 ho66 hb66;have HO66:=ja0 ho66;have HB66:=ja0 hb66;clear ho66 hb66))
     have HBw:=ja0 (HB72.out.trans (HB73.out.mono HB72.out.size))
     have HBz:=ja0 (HB69.out.trans (HBw.out.mono HB69.out.size))
     have hl9:(R++[d]).length=R.length+1:=by simp
     have HRz:Hid (DRow w.heap.size (.slice A69 (R.length+1) c69) (R++[d]) w73):=ja0 (by unfold DRow;rw[hl9];exact jfc0 (World.ownsRow.mono HO69.out HB5.out.size) HBw.out)
     refine⟨⟨i+2,R++[d],T73,A69,A73,c69,c73,by go_num,by rw[hl9],rfl,RootI.step (p:=valD [p1,p2]) HI.out (by have:=HM.out;omega) hd hev (congrArg valD HPAIR.out) HFIN.out.1 HFIN.out.2.1 HD73.out.1 HD73.out.2.2 ?_,by rw[hl9];exact HRz.out,Rq.more H73.out HB73.out.size,HB5.out.trans (HBz.out.mono HB5.out.size)⟩,by simp only[intOf];omega⟩
     rw[HD73.out.2.1,HD72.out.2.1,HVL.out]
    have hq0:=HI.out.dr.bounds
    have HD13:∀o:List Int,Dig o->Dig (o++[next]):=fun o ho=>ho.append (Dig.nil.cons ⟨by omega,h9⟩)
    have HD13':=ja0 HD13
    have HVP:Hid (∀o p:List Int,valD o=2*valD R->valD p=next*valD (o++[next])->valD p=(20*valD R+next)*next):=ja0 (fun o p h1 h2=>by rw[h2,jdz1,h1];grind)
    clear HD13
    have HR5:=ja0 (jab0 HR4.out HPp.out.2.2)
    have HL5:=ja0 (jab0 HL4.out HPp.out.2.2)
    go_upto_region 14 with(first
     | (go_at_call 132;refine(jcb2 A55 (o1.length+1) c55 w55.heap.size (o1++[next]) next w55 (DRow.read HO55.out) (Nat.le_refl _) (HD13'.out o1 HD52.out.1) ⟨by omega,by omega⟩ (by omega)).mono ?_;rintro e w57 ⟨pp,A57,c57,rfl,ho57,hd57,hv57,hl57,hb57⟩;have HO57:=ja0 ho57;have HD57:=ja0 (And.intro hd57 (And.intro hv57 hl57));have HB57:=ja0 hb57;clear ho57 hd57 hv57 hl57 hb57)
     | (at_builtin;refine jbn9 rfl _ _ rfl wr.heap.size A52 o1.length c52 o1 (some ⟨w52.heap.size,0,none⟩) 1 1 [next] rfl rfl (World.ownsRow.alloc HO52.out _) (DRow.read (jdy0 w52.heap.size w52 next (Nat.le_refl _))) (by rw[World.size_alloc];have:=HB52.out.size;omega) (by have:=HD52.out.2.2;omega) ?_;intro A55 c55 w55 ho55 hb55;have HO55:=ja0 ho55;have HB55:=ja0 hb55;have hl52:=HD52.out.2.2;clear ho55 hb55)
     | (go_at_call 132;refine(jcb2 AR R.length cR wr.heap.size R 2 wr HR5.out (Nat.le_refl _) HI.out.dr (by decide) (by omega)).mono ?_;rintro e w52 ⟨o1,A52,c52,rfl,ho52,hd52,hv52,hl52,hb52⟩;have HO52:=ja0 ho52;have HD52:=ja0 (And.intro hd52 (And.intro hv52 hl52));have HB52:=ja0 hb52;clear ho52 hd52 hv52 hl52 hb52))
    have HBx:=ja0 (HB52.out.trans (((Below.refl _ _).alloc HB52.out.size _).trans (HB55.out.trans (HB57.out.mono (Nat.le_trans HB52.out.size (Nat.le_trans (by simp) HB55.out.size))))))
    have HR6:=ja0 (jab0 HR5.out HBx.out)
    have HL6:=ja0 (jab0 HL5.out HBx.out)
    have HP6:=ja0 (jab0 HPp.out.2.1 HBx.out)
    have HB6:=ja0 (HB4.out.trans ((HPp.out.2.2.trans (HBx.out.mono HPp.out.2.2.size)).mono HB4.out.size))
    have HBi:=ja0 (HPp.out.2.2.trans (HBx.out.mono HPp.out.2.2.size))
    have HPd:=ja0 HPp.out.1
    have HVp:Hid (valD pp=(20*valD R+next)*next):=ja0 (HVP.out o1 pp HD52.out.2.1 HD57.out.2.1)
    have HDp:=ja0 HD57.out.1
    have hppl:pp.length<=R.length+5:=by have:=HD57.out.2.2;rw[List.length_append,List.length_singleton] at this;omega
    have HQp:=ja0 (DRow.read HO57.out)
    clear HR4 HL4 HB4 HR5 HL5 HPp HVP HD13' HB52 HO52 HD52 hl52 HB55 HO55 HB57 HO57 HD57 HBx
    by_cases hfit:valD pp<=valD L
    ·have HFS:=ja0 (HF.out.step h9 HVp.out hfit)
     go_wp2_with (first
      | (go_at_call 88;refine(jby2 AL L.length cL L A57 pp.length c57 pp w57.heap.size w57 HL6.out HQp.out (Nat.le_refl _) HDL.out HDp.out (by omega) (by omega)).mono ?_;rintro e w60 ⟨rfl,hb60⟩;rw[decide_eq_true hfit];have HB60:=ja0 hb60;clear hb60))
     exact⟨⟨next+1,next,pp,A57,c57,rfl,rfl,rfl,HFS.out,jab0 HQp.out HB60.out,HDp.out,by omega,HBi.out.trans (HB60.out.mono HBi.out.size)⟩,by simp only[intOf];omega⟩
    ·have hlt:valD L<valD pp:=by omega
     go_upto_region 16 with(first
      | (go_at_call 88;refine(jby2 AL L.length cL L A57 pp.length c57 pp w57.heap.size w57 HL6.out HQp.out (Nat.le_refl _) HDL.out HDp.out (by omega) (by omega)).mono ?_;rintro e w60 ⟨rfl,hb60⟩;rw[decide_eq_false hfit];have HB60:=ja0 hb60;clear hb60))
     have HR5:=ja0 (jab0 HR6.out HB60.out)
     have HL5:=ja0 (jab0 HL6.out HB60.out)
     have HP5:=ja0 (jab0 HP6.out HB60.out)
     have HB5:=ja0 (HB6.out.trans (HB60.out.mono HB6.out.size))
     clear HR6 HL6 HP6 HB6 HBi HQp HB60
     have HFIN:=ja0 (FitI.fin (p:=valD [p1,p2]) HI.out.at_ (hpp) HVL.out HF.out (.inr ⟨h9,by rw[<-HVp.out];exact hlt⟩))
     have hplb:pl.length<=6000000000006:=by omega
     go_wp2_with (first
      | (go_at_call 131;refine(jdv1 A72 s72.length c72 w72.heap.size s72 w72 (DRow.read HO72.out) HD72.out.1).mono ?_;rintro e w73 ⟨T73,A73,c73,rfl,h73,hd73,hv73,htr73,hl73,hb73⟩;have H73:=ja0 h73;have HD73:=ja0 (And.intro hd73 (And.intro hv73 htr73));have HB73:=ja0 hb73;clear h73 hd73 hv73 htr73 hl73 hb73)
      | (go_at_call 133;refine(jfa6 AL L.length cL L Ap pl.length cp pl w60.heap.size w69 (Rq.below HL5.out HB69.out) (Rq.below HP5.out HB69.out) HB69.out.size HDL.out HPd.out (by omega) (by omega) HFIN.out.2.2).mono ?_;rintro e w72 ⟨s72,A72,c72,rfl,ho72,hd72,hv72,hl72,hb72⟩;have HO72:=ja0 ho72;have HD72:=ja0 (And.intro hd72 (And.intro hv72 hl72));have HB72:=ja0 hb72;clear ho72 hd72 hv72 hl72 hb72)
      | (at_builtin;refine jbn9 rfl _ _ rfl w60.heap.size A66 R.length c66 R (some ⟨w66.heap.size,0,none⟩) 1 1 [d] rfl rfl (World.ownsRow.alloc HO66.out _) (DRow.read (jdy0 w66.heap.size w66 d (Nat.le_refl _))) (by rw[World.size_alloc];have:=HB66.out.size;omega) (by omega) ?_;intro A69 c69 w69 ho69 hb69;have HO69:=ja0 ho69;have HB69:=ja0 (HB66.out.trans (((Below.refl _ _).alloc HB66.out.size _).trans hb69));clear ho69 hb69)
      | (at_builtin;refine jcn9 rfl _ _ rfl w60.heap.size AR R.length cR R rfl rfl HR5.out (Nat.le_refl _) (by omega) ?_;intro A66 c66 w66 ho66 hb66;have HO66:=ja0 ho66;have HB66:=ja0 hb66;clear ho66 hb66))
     have HBw:=ja0 (HB72.out.trans (HB73.out.mono HB72.out.size))
     have HBz:=ja0 (HB69.out.trans (HBw.out.mono HB69.out.size))
     have hl9:(R++[d]).length=R.length+1:=by simp
     have HRz:Hid (DRow w.heap.size (.slice A69 (R.length+1) c69) (R++[d]) w73):=ja0 (by unfold DRow;rw[hl9];exact jfc0 (World.ownsRow.mono HO69.out HB5.out.size) HBw.out)
     refine⟨⟨i+2,R++[d],T73,A69,A73,c69,c73,by go_num,by rw[hl9],rfl,RootI.step (p:=valD [p1,p2]) HI.out (by have:=HM.out;omega) hd hev (congrArg valD HPAIR.out) HFIN.out.1 HFIN.out.2.1 HD73.out.1 HD73.out.2.2 ?_,by rw[hl9];exact HRz.out,Rq.more H73.out HB73.out.size,HB5.out.trans (HBz.out.mono HB5.out.size)⟩,by simp only[intOf];omega⟩
     rw[HD73.out.2.1,HD72.out.2.1,HVL.out]
  ·obtain rfl:i=M:=by omega
   have HTZ:Hid ((T.length=0)=(valD T=0)):=ja0 (by
    have:=jfv0 HI.out.dt HI.out.tr
    rw[List.length_eq_zero_iff,eq_iff_iff];exact this.symm)
   go_wp2
   go_ret2
   have hbz:((T.length:Int)==0)=decide (valD T=0):=by
    rw[Bool.eq_iff_iff,beq_iff_eq,decide_eq_true_eq,<-HTZ.out]
    omega
   have hlong:(jdv3 nl more).length=i:=by unfold jdv3;rw[HM.out];simp
   have hsq:=HI.out.at_
   rw[<-hlong,List.take_length] at hsq
   have hv:valD (jdv3 nl more)=valD nl*10 ^ (2*more):=by
    unfold jdv3
    rw[jbc2,List.length_replicate]
    have:=jfb3 (2*more) []
    rw[List.append_nil] at this
    rw[this]
    simp[valD]
   rw[hv] at hsq
   refine⟨R,T,AR,cR,?_,HRo.out,HI.out.dr,by rw[HI.out.len,HM.out],hsq,HB.out⟩
   show Ending.returned (.tuple #[.slice AR R.length cR,.bool ((T.length:Int)==0)])=_
   rw[hbz]
end Go.Proofs.YtphcodcdfeohhaaGreatDoor
