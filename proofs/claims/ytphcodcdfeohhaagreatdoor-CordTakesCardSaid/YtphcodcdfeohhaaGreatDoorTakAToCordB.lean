import Derived.Test.YtphcodcdfeohhaaGreatDoorRatAToMovB
import Derived.Laws.EntriesVeiled
set_option linter.all false
namespace Go.Proofs.YtphcodcdfeohhaaGreatDoor
set_option maxRecDepth 100000
set_option maxHeartbeats 2000000
open Go Go.RowKit
theorem zh5{num den:Int}(h1:1<=num)(h2:num<den):2<=(den+num-1).tdiv num/\den<=(den+num-1).tdiv num*num/\∀d,d<(den+num-1).tdiv num->d*num<den:=by
 rw[Int.tdiv_eq_ediv_of_nonneg (by omega)]
 have e:=Int.mul_ediv_add_emod (den+num-1) num
 have m1:=Int.emod_nonneg (den+num-1) (show num≠0 by omega)
 have m2:=Int.emod_lt_of_pos (den+num-1) (show 0<num by omega)
 generalize (den+num-1)/num=q at *
 generalize (den+num-1) % num=r at *
 rw[Int.mul_comm] at e
 refine⟨?_,by omega,λd hd=>?_⟩
 ·rcases Int.lt_or_le q 2 with g|g
  ·have:q*num<=1*num:=Int.mul_le_mul_of_nonneg_right (by omega) (by omega)
   omega
  ·exact g
 ·have:d*num<=(q-1)*num:=Int.mul_le_mul_of_nonneg_right (by omega) (by omega)
  rw[Int.sub_mul] at this
  omega
theorem jbb7{v w d:Int}{t:List (Int×Int)}(hw:0<w)(h:jk8 v w=(d,t,0))(h0:0<=v)(h1:v<w):∃c,t=jK c/\(0<=c/\c<d)/\js d (jK c)=true/\c*w=v*d:=by
 obtain⟨c,e1,e2,e3⟩:=jcb7 hw h
 have hd:=zP e3
 refine⟨c,e1,⟨?_,?_⟩,e3,e2⟩
 ·rcases Int.lt_or_le c 0 with g|g
  ·have k1:=Int.mul_neg_of_neg_of_pos g hw
   have k2:=Int.mul_nonneg h0 (Int.le_of_lt hd)
   omega
  ·exact g
 ·have k1:v*d<w*d:=Int.mul_lt_mul_of_pos_right h1 hd
  rw[<-e2,Int.mul_comm w d] at k1
  exact Int.lt_of_mul_lt_mul_right k1 (by omega)
theorem jbc7 {rd num p:Int} (hx:js rd (jK num)=true) (hn:1<=num/\num<rd) (hp:p=(rd+num-1).tdiv num) (hp2:p<=1000) {d:Int} {t:List (Int×Int)} (h:jL rd (jK num) p [(1,1)] (-1)=(d,t,0)) :
  ∃c',t=jK c'/\(0<=c'/\c'<d)/\js d (jK c')=true:=by
 obtain⟨g1,g2,_⟩:=zh5 hn.1 hn.2
 rw[<-hp] at g1 g2
 have hd:=zP hx
 rw[show [((1:Int),(1:Int))]=jK 1 from rfl,jz8 hx (Ja.2 ⟨by omega,by omega,jbm4 _⟩)] at h
 have hw:0<rd*p:=Int.mul_pos hd (by omega)
 have e:num*p+1*(-1*rd)=p*num-rd:=by grind
 rw[e] at h
 have hlt:p*num-rd<rd*p:=by
  have k1:p*num<=p*rd:=Int.mul_le_mul_of_nonneg_left (by omega) (by omega)
  rw[Int.mul_comm rd p]
  omega
 obtain⟨c',k1,k2,k3,_⟩:=jbb7 hw h (by omega) hlt
 exact⟨c',k1,k2,k3⟩
open Go.RowKit
theorem zf5 {α:Type} (enc:α->Value×Value) (A:Option Addr) (n c B gf:Nat) (lb:Array Value) (l:List α) (p:α->Bool) (w:World) (hR:Rd w B 2 A n c (jB (l.map enc))) (hB:B<=w.heap.size)
  (eg:∀args w,(callFunc gf args).run Tryz.prog w=.ok (.enter gf args) w)
  (hp:∀W x,x∈l->Below w.heap.size w W->Calls Tryz.prog gf (#[.agg #[(enc x).1,(enc x).2]]++lb) W λe W'=>e=.returned (.bool (p x))/\Below W.heap.size W W') :
  Calls Tryz.prog 129 #[.slice A n c,.func (.func gf) #[] lb] w λe w'=>e=.returned (.int .i64 (jf3 l p))/\Below w.heap.size w w':=by
 have hm:=hR.nmax
 obtain rfl:l.length=n:=by have:=qd hR;simpa using this
 have HP:=ja hp;clear hp
 have HR:=ja hR;clear hR
 go_enter Tryz.func129,Tryz.ntmps129
 go_wp2
 go_loopw [8] (λi W=>∃k:Nat,k<=l.length/\i=.int .i64 (k:Int)/\(∀j (h:j<l.length),j<k->p l[j]=false)/\Below w.heap.size w W) (λi _=>l.length-(intOf i).toNat)
 case atStart=>exact⟨0,by omega,rfl,λj _ h=>by omega,Below.refl _ _⟩
 case round=>
  obtain⟨k,hk,rfl,hno,hbl⟩:=hrel
  have HNO:=ja hno;clear hno
  have HB:=ja hbl;clear hbl
  by_cases hlt:k<l.length
  ·obtain⟨ad,rfl,hc0,hc1⟩:=zn1 (HR.o.below (HB.o.mono hB)) (i:=k) (by simpa using hlt)
   simp only[List.getElem_map] at hc0 hc1
   have HC:=ja (HP.o wr l[k] (by simp) HB.o)
   clear hB
   generalize hx:l[k]=x at *
   have HX:=ja hx;clear hx
   generalize (enc x).1=a at *
   generalize (enc x).2=b at *
   cases hpx:p x
   ·have HPX:=ja hpx;clear hpx
    go_wp2_with (first
     | (refine(HC.o).mono ?_;rintro e w1 ⟨rfl,hb1⟩;rw[HPX.o];have HB1:=ja hb1;clear hb1))
    go_roundw
    case rel=>exact⟨k+1,by omega,by go_num,λj h hj=>by
     rcases Nat.lt_or_ge j k with h1|h1
     ·exact HNO.o j h h1
     ·obtain rfl:j=k:=by omega
      rw[HX.o];exact HPX.o,Zy HB.o HB1.o HB.o.size⟩
    case measure=>simp[intOf];omega
   ·have HPX:=ja hpx;clear hpx
    go_wp2_with (first
     | (refine(HC.o).mono ?_;rintro e w1 ⟨rfl,hb1⟩;rw[HPX.o];have HB1:=ja hb1;clear hb1))
    go_ret
    exact⟨qK (jh9 hlt (by rw[HX.o];exact HPX.o) (λj h=>HNO.o j (by omega) h)).symm,Zy HB.o HB1.o HB.o.size⟩
  ·obtain rfl:k=l.length:=by omega
   go_wp2
   go_ret
   exact⟨qK (jh8 (λj h=>HNO.o j h h)).symm,HB.o⟩
theorem qR {α:Type} (enc:α->Value×Value) (A:Option Addr) (n c B gf:Nat) (lb:Array Value) (l:List α) (p:α->Bool) (w:World) (hR:Rd w B 2 A n c (jB (l.map enc))) (hB:B<=w.heap.size)
  (eg:∀args w,(callFunc gf args).run Tryz.prog w=.ok (.enter gf args) w)
  (hp:∀W x,x∈l->Below w.heap.size w W->Calls Tryz.prog gf (#[.agg #[(enc x).1,(enc x).2]]++lb) W λe W'=>e=.returned (.bool (p x))/\Below W.heap.size W W') :
  Calls Tryz.prog 74 #[.slice A n c,.func (.func gf) #[] lb] w λe w'=>e=.returned (.bool (l.any p))/\Below w.heap.size w w':=by
 have H:=ja (zf5 enc A n c B gf lb l p w hR hB eg hp)
 have HI:=ja (js3 l p)
 clear hR hB eg hp
 generalize jf3 l p=i at *
 generalize l.any p=r at *
 go_enter Tryz.func74,Tryz.ntmps74
 go_wp2_with fail
 refine H.o.mono ?_
 rintro e w' ⟨rfl,hb⟩
 have HB:=ja hb;clear hb
 go_wp2
 all_goals go_ret
 all_goals refine⟨?_,HB.o⟩
 all_goals rw[<-HI.o];rfl
structure PieceV where
 minus:Bool
 A:Option Addr
 n:Nat
 c:Nat
 ms:List Int
def PieceV.enc(p:PieceV):Value×Value:=(.bool p.minus,.slice p.A p.n p.c)
def PieceV.At(p:PieceV)(w:World)(B:Nat):Prop:=qP w B p.A p.n p.c p.ms
def qC(m:Int):Bool:=zz m 2 1000
def PieceV.ok(p:PieceV):Bool:=zz p.ms.length 1 6&&p.ms.all qC
def jD(w:World)(B:Nat)(A:Option Addr)(n c:Nat)(l:List PieceV):Prop:=Rd w B 2 A n c (jB (l.map PieceV.enc))/\∀p∈l,p.At w B
def PieceV.flat(p:PieceV):Bool×List Int:=(p.minus,p.ms)
def jj3(p:Bool×List Int):Bool:=zz p.2.length 1 6&&p.2.all qC
def ZO(wh:Int)(l:List (Bool×List Int)):Bool:=zz wh 0 1000&&decide (l.length<=8)&&l.all jj3
section
variable {w w' : World} {B B' n c : Nat} {A : Option Addr} {l : List PieceV}
theorem jD.len(h:jD w B A n c l):l.length=n:=by have:=qd h.1;simpa using this
theorem jD.below(h:jD w B A n c l)(hb:Below B w w'):jD w' B A n c l:=⟨h.1.below hb,λp hp=>Rd.below (h.2 p hp) hb⟩
theorem jD.more(h:jD w B A n c l)(hB:B<=B'):jD w B' A n c l:=⟨h.1.more hB,λp hp=>Rd.more (h.2 p hp) hB⟩
theorem jD.alloc(h:jD w B A n c l)(hB:B<=w.heap.size)(o:Obj):jD (w.alloc o) B A n c l:=⟨h.1.alloc hB o,λp hp=>Rd.alloc (h.2 p hp) hB o⟩
theorem jD.at_(h:jD w B A n c l){i:Nat}(hi:i<l.length):∃ad:Addr,A=some ad/\w.cell? (ad.add (i*2))=some (.bool l[i].minus)/\w.cell? ⟨(ad.add (i*2)).block,(ad.add (i*2)).off+1,none⟩=some (.slice l[i].A l[i].n l[i].c):=by
 obtain⟨ad,e,h1,h2⟩:=zn1 h.1 (i:=i) (by simpa using hi)
 simp only[List.getElem_map] at h1 h2
 exact⟨ad,e,h1,h2⟩
end
theorem jN(a b c:Int)(w:World):Calls Tryz.prog 54 #[.int .i64 a,.int .i64 b,.int .i64 c] w λe w'=>e=.returned (.bool (zz a b c))/\w'=w:=by
 unfold zz
 go_enter Tryz.func54,Tryz.ntmps54
 go_wp2
 all_goals go_ret
 ·simp[*]
 ·have h:¬b<=a:=by omega
  simp[h]
theorem jay5(m:Int)(w:World):Calls Tryz.prog 120 #[.int .i64 m] w λe w'=>e=.returned (.bool (qC m))/\w'=w:=by
 have HW:=ja (jN m 2 1000 w)
 unfold qC
 generalize zz m 2 1000=r at *
 go_enter Tryz.func120,Tryz.ntmps120
 go_wp2_with fail
 refine HW.o.mono ?_
 rintro e w1 ⟨rfl,hw⟩
 subst w1
 go_wp2
 go_ret
 exact⟨rfl,rfl⟩
theorem zs5 (A:Option Addr) (n c B gf:Nat) (lb:Array Value) (l:List Int) (p:Int->Bool) (w:World) (hR:qP w B A n c l) (hB:B<=w.heap.size)
  (eg:∀args w,(callFunc gf args).run Tryz.prog w=.ok (.enter gf args) w)
  (hp:∀W x,x∈l->Below w.heap.size w W->Calls Tryz.prog gf (#[.int .i64 x]++lb) W λe W'=>e=.returned (.bool (p x))/\Below W.heap.size W W') :
  Calls Tryz.prog 153 #[.slice A n c,.func (.func gf) #[] lb] w λe w'=>e=.returned (.int .i64 (jf3 l p))/\Below w.heap.size w w':=by
 have hm:=hR.nmax
 obtain rfl:l.length=n:=hR.len
 have HP:=ja hp;clear hp
 have HR:=ja hR;clear hR
 go_enter Tryz.func153,Tryz.ntmps153
 go_wp2
 go_loopw [8] (λi W=>∃k:Nat,k<=l.length/\i=.int .i64 (k:Int)/\(∀j (h:j<l.length),j<k->p l[j]=false)/\Below w.heap.size w W) (λi _=>l.length-(intOf i).toNat)
 case atStart=>exact⟨0,by omega,rfl,λj _ h=>by omega,Below.refl _ _⟩
 case round=>
  obtain⟨k,hk,rfl,hno,hbl⟩:=hrel
  have HNO:=ja hno;clear hno
  have HB:=ja hbl;clear hbl
  by_cases hlt:k<l.length
  ·obtain⟨ad,rfl,hc0⟩:=(show qP wr B A l.length c l from HR.o.below (HB.o.mono hB)).at_ hlt
   have HC:=ja (HP.o wr l[k] (by simp) HB.o)
   clear hB
   generalize hx:l[k]=x at *
   have HX:=ja hx;clear hx
   cases hpx:p x
   ·have HPX:=ja hpx;clear hpx
    go_wp2_with (first
     | (refine(HC.o).mono ?_;rintro e w1 ⟨rfl,hb1⟩;rw[HPX.o];have HB1:=ja hb1;clear hb1))
    go_roundw
    case rel=>exact⟨k+1,by omega,by go_num,λj h hj=>by
     rcases Nat.lt_or_ge j k with h1|h1
     ·exact HNO.o j h h1
     ·obtain rfl:j=k:=by omega
      rw[HX.o];exact HPX.o,Zy HB.o HB1.o HB.o.size⟩
    case measure=>simp[intOf];omega
   ·have HPX:=ja hpx;clear hpx
    go_wp2_with (first
     | (refine(HC.o).mono ?_;rintro e w1 ⟨rfl,hb1⟩;rw[HPX.o];have HB1:=ja hb1;clear hb1))
    go_ret
    exact⟨qK (jh9 hlt (by rw[HX.o];exact HPX.o) (λj h=>HNO.o j (by omega) h)).symm,Zy HB.o HB1.o HB.o.size⟩
  ·obtain rfl:k=l.length:=by omega
   go_wp2
   go_ret
   exact⟨qK (jh8 (λj h=>HNO.o j h h)).symm,HB.o⟩
theorem jy4 (A:Option Addr) (n c B gf:Nat) (lb:Array Value) (l:List Int) (p:Int->Bool) (w:World) (hR:qP w B A n c l) (hB:B<=w.heap.size)
  (eg:∀args w,(callFunc gf args).run Tryz.prog w=.ok (.enter gf args) w)
  (hp:∀W x,x∈l->Below w.heap.size w W->Calls Tryz.prog gf (#[.int .i64 x]++lb) W λe W'=>e=.returned (.bool (p x))/\Below W.heap.size W W') :
  Calls Tryz.prog 122 #[.slice A n c,.func (.func gf) #[] lb] w λe w'=>e=.returned (.bool (l.any p))/\Below w.heap.size w w':=by
 have H:=ja (zs5 A n c B gf lb l p w hR hB eg hp)
 have HI:=ja (js3 l p)
 clear hR hB eg hp
 generalize jf3 l p=i at *
 generalize l.any p=r at *
 go_enter Tryz.func122,Tryz.ntmps122
 go_wp2_with fail
 refine H.o.mono ?_
 rintro e w' ⟨rfl,hb⟩
 have HB:=ja hb;clear hb
 go_wp2
 all_goals go_ret
 all_goals refine⟨?_,HB.o⟩
 all_goals rw[<-HI.o];rfl
theorem jaj5 (m:Int) (b:Nat) (w:World) (hc:w.cell? ⟨b,0,none⟩=some (.func (.func 120) #[] #[])) :
  Calls Tryz.prog 123 #[.int .i64 m,.pointer (some ⟨b,0,none⟩)] w λe w'=>e=.returned (.bool (!qC m))/\w'=w:=by
 have HC:=ja (jay5 m w)
 generalize qC m=r at *
 go_enter Tryz.func123,Tryz.ntmps123
 go_wp2_with fail
 refine HC.o.mono ?_
 rintro e w1 ⟨rfl,hw⟩
 subst w1
 go_wp2
 go_ret
 exact⟨rfl,rfl⟩
theorem jay6 (p:PieceV) (b B:Nat) (w:World) (hp:p.At w B) (hB:B<=w.heap.size) (hc:w.cell? ⟨b,0,none⟩=some (.func (.func 120) #[] #[])) (hb:b<w.heap.size) :
  Calls Tryz.prog 121 #[.agg #[.bool p.minus,.slice p.A p.n p.c],.pointer (some ⟨b,0,none⟩)] w λe w'=>e=.returned (.bool (!p.ok))/\Below w.heap.size w w':=by
 obtain⟨mi,A,n,c,ms⟩:=p
 have hl:ms.length=n:=qP.len hp
 subst hl
 have hcm:=Rd.nmax hp
 have HCF:=ja (jy4 A ms.length c B 123 #[.pointer (some ⟨b,0,none⟩)] ms (λm=>!qC m) (w.alloc (.cells #[.bool mi,.slice A ms.length c] 94)) (Rd.alloc hp hB _) (by simp;omega)
  (λargs w=>enters_of Tryz.func123 (by kernel_rfl) rfl args w) (λW x _ hW=>(jaj5 x b W ((hW.cell (p:=⟨b,0,none⟩) (by simp;omega)).trans ((World.cell?_alloc_lt _ _ _ hb).trans hc))).mono (by rintro e w1 ⟨rfl,h⟩;subst h;exact⟨rfl,Below.refl _ _⟩)))
 have HAN:=ja (show(ms.any λm=>!qC m)=!ms.all qC by rw[List.all_eq_not_any_not];simp)
 have HOK:Hid (PieceV.ok ⟨mi,A,ms.length,c,ms⟩=(zz ms.length 1 6&&ms.all qC)):=ja rfl
 have HW:=ja (λW=>jN ms.length 1 6 W)
 have HBL:=ja ((Below.refl w.heap.size w).alloc (Nat.le_refl _) (.cells #[.bool mi,.slice A ms.length c] 94))
 rw[HAN.o] at HCF
 clear hp HAN
 generalize ms.all qC=r at *
 cases hin:zz ms.length 1 6
 ·rw[hin] at HW HOK
  clear hin HCF
  go_enter Tryz.func121,Tryz.ntmps121
  go_wp2_with (first
   | (go_at_call 54;refine(HW.o _).mono ?_;rintro e w1 ⟨rfl,hw⟩;subst w1))
  go_ret
  exact⟨by rw[HOK.o];rfl,HBL.o⟩
 ·rw[hin] at HW HOK
  clear hin
  go_enter Tryz.func121,Tryz.ntmps121
  go_wp2_with (first
   | (go_at_call 54;refine(HW.o _).mono ?_;rintro e w1 ⟨rfl,hw⟩;subst w1)
   | (go_at_call 122;refine HCF.o.mono ?_;rintro e w1 ⟨rfl,hb1⟩;have HB1:=ja hb1;clear hb1))
  go_ret
  exact⟨by rw[HOK.o];cases r<;>rfl,HBL.o.trans (HB1.o.mono (by simp))⟩
theorem Zi (wh:Int) (A:Option Addr) (n c B:Nat) (l:List PieceV) (w:World) (hp:jD w B A n c l) (hB:B<=w.heap.size) :
  Calls Tryz.prog 71 #[.agg #[.int .i64 wh,.slice A n c]] w λe w'=>e=.returned (.int .i64 (QK (ZO wh (l.map PieceV.flat))))/\Below w.heap.size w w':=by
 have hl:=hp.len
 subst hl
 have hnm:=hp.1.nmax
 have HBa:Hid (Below w.heap.size w ((w.alloc (.cells #[.int .i64 wh,.slice A l.length c] 43)).alloc (.cells #[.func (.func 120) #[] #[]] 123))):=ja (((Below.refl w.heap.size w).alloc (Nat.le_refl _) _).alloc (by simp) _)
 have HCF:=ja (qR PieceV.enc A l.length c B 121 #[.pointer (some ⟨w.heap.size+1,0,none⟩)] l (λp=>!p.ok) ((w.alloc (.cells #[.int .i64 wh,.slice A l.length c] 43)).alloc (.cells #[.func (.func 120) #[] #[]] 123))
  ((hp.1.alloc hB _).alloc (by simp;omega) _) (by simp;omega) (λargs w=>enters_of Tryz.func121 (by kernel_rfl) rfl args w) (λW x hx hW=>by
   have h1:=ZG.new (w.alloc (.cells #[.int .i64 wh,.slice A l.length c] 43)) 123 (.func (.func 120) #[] #[])
   rw[World.size_alloc] at h1
   have hz:=hW.size
   simp only[World.size_alloc] at hz hW
   exact jay6 x (w.heap.size+1) B W (Rd.below (Rd.alloc (Rd.alloc (hp.2 x hx) hB _) (by simp;omega) _) (hW.mono (by omega))) (by omega) (h1.below hW (by omega)).cell (by omega)))
 have HAN:=ja (show(l.any λp=>!p.ok)=!(l.map PieceV.flat).all jj3 by
  rw[List.all_eq_not_any_not,List.any_map];simp[Function.comp_def,PieceV.ok,jj3,PieceV.flat])
 rw[HAN.o] at HCF
 have HOK:Hid (ZO wh (l.map PieceV.flat)=(zz wh 0 1000&&decide (l.length<=8)&&(l.map PieceV.flat).all jj3)):=ja (by unfold ZO;rw[List.length_map])
 have HW:=ja (λW=>jN wh 0 1000 W)
 clear hp HAN
 generalize (l.map PieceV.flat).all jj3=r at *
 cases hin:zz wh 0 1000
 ·rw[hin] at HW HOK
  clear hin HCF
  go_enter Tryz.func71,Tryz.ntmps71
  go_wp2_with (first
   | (go_at_call 54;refine(HW.o _).mono ?_;rintro e w1 ⟨rfl,hw⟩;subst w1))
  go_ret
  exact⟨by rw[HOK.o];rfl,HBa.o⟩
 ·rw[hin] at HW HOK
  clear hin
  by_cases h8:l.length<=8
  ·have h8':decide (8<(l.length:Int))=false:=by simp;omega
   rw[decide_eq_true h8] at HOK
   go_enter Tryz.func71,Tryz.ntmps71
   go_wp2_with (first
    | (go_at_call 54;refine(HW.o _).mono ?_;rintro e w1 ⟨rfl,hw⟩;subst w1)
    | (go_at_call 74;refine HCF.o.mono ?_;rintro e w1 ⟨rfl,hb1⟩;have HB1:=ja hb1;clear hb1))
   all_goals go_ret
   all_goals refine⟨?_,HBa.o.trans (HB1.o.mono (by simp;omega))⟩
   all_goals rw[HOK.o]
   all_goals (cases r<;>simp_all[QK])
  ·have h8':(8:Int)<(l.length:Int):=by omega
   rw[decide_eq_false h8] at HOK
   clear HCF
   go_enter Tryz.func71,Tryz.ntmps71
   go_wp2_with (first
    | (go_at_call 54;refine(HW.o _).mono ?_;rintro e w1 ⟨rfl,hw⟩;subst w1))
   go_ret
   exact⟨by rw[HOK.o];rfl,HBa.o⟩
