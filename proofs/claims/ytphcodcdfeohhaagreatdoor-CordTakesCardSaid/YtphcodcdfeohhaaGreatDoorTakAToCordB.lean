import Derived.Test.YtphcodcdfeohhaaGreatDoorRatAToMovB
import Derived.Test.YtphcodcdfeohhaaGreatDoorIdxToSurdF
import Derived.Test.YtphcodcdfeohhaaGreatDoorRootAToProdB
import Derived.Test.YtphcodcdfeohhaaGreatDoorMakeAToCom
import Derived.Laws.EntriesVeiled
set_option linter.unusedVariables false
set_option linter.unusedSimpArgs false
namespace Go.Proofs.YtphcodcdfeohhaaGreatDoor
set_option maxRecDepth 100000
set_option maxHeartbeats 2000000
open Go Go.RowKit
theorem jfd7{num den:Int}(h1:1<=num)(h2:num<den):2<=(den+num-1).tdiv num/\den<=(den+num-1).tdiv num*num/\∀d,d<(den+num-1).tdiv num->d*num<den:=by
 rw[Int.tdiv_eq_ediv_of_nonneg (by omega)]
 have e:=Int.mul_ediv_add_emod (den+num-1) num
 have m1:=Int.emod_nonneg (den+num-1) (show num≠0 by omega)
 have m2:=Int.emod_lt_of_pos (den+num-1) (show 0<num by omega)
 generalize (den+num-1)/num=q at *
 generalize (den+num-1) % num=r at *
 rw[Int.mul_comm] at e
 refine⟨?_,by omega,fun d hd=>?_⟩
 ·rcases Int.lt_or_le q 2 with g|g
  ·have:q*num<=1*num:=Int.mul_le_mul_of_nonneg_right (by omega) (by omega)
   omega
  ·exact g
 ·have:d*num<=(q-1)*num:=Int.mul_le_mul_of_nonneg_right (by omega) (by omega)
  rw[Int.sub_mul] at this
  omega
theorem jfn6{v w d:Int}{t:List (Int×Int)}(hw:0<w)(h:jbf5 v w=(d,t,0))(h0:0<=v)(h1:v<w):∃c,t=jb2 c/\(0<=c/\c<d)/\ja7 d (jb2 c)=true/\c*w=v*d:=by
 obtain⟨c,e1,e2,e3⟩:=jfs8 hw h
 have hd:=zj3 e3
 refine⟨c,e1,⟨?_,?_⟩,e3,e2⟩
 ·rcases Int.lt_or_le c 0 with g|g
  ·have k1:=Int.mul_neg_of_neg_of_pos g hw
   have k2:=Int.mul_nonneg h0 (Int.le_of_lt hd)
   omega
  ·exact g
 ·have k1:v*d<w*d:=Int.mul_lt_mul_of_pos_right h1 hd
  rw[<-e2,Int.mul_comm w d] at k1
  exact Int.lt_of_mul_lt_mul_right k1 (by omega)
theorem jfn9 {rd num p:Int} (hx:ja7 rd (jb2 num)=true) (hn:1<=num/\num<rd) (hp:p=(rd+num-1).tdiv num) (hp2:p<=1000) {d:Int} {t:List (Int×Int)} (h:jc4 rd (jb2 num) p [(1,1)] (-1)=(d,t,0)) :
  ∃c',t=jb2 c'/\(0<=c'/\c'<d)/\ja7 d (jb2 c')=true:=by
 obtain⟨g1,g2,_⟩:=jfd7 hn.1 hn.2
 rw[<-hp] at g1 g2
 have hd:=zj3 hx
 rw[show [((1:Int),(1:Int))]=jb2 1 from rfl,jfc3 hx (zb6.2 ⟨by omega,by omega,jfr2 _⟩)] at h
 have hw:0<rd*p:=Int.mul_pos hd (by omega)
 have e:num*p+1*(-1*rd)=p*num-rd:=by grind
 rw[e] at h
 have hlt:p*num-rd<rd*p:=by
  have k1:p*num<=p*rd:=Int.mul_le_mul_of_nonneg_left (by omega) (by omega)
  rw[Int.mul_comm rd p]
  omega
 obtain⟨c',k1,k2,k3,_⟩:=jfn6 hw h (by omega) hlt
 exact⟨c',k1,k2,k3⟩
open Go.RowKit
theorem jap5 {α:Type} (enc:α->Value×Value) (A:Option Addr) (n c B gf:Nat) (lb:Array Value) (l:List α) (p:α->Bool) (w:World) (hR:Rd w B 2 A n c (jb7 (l.map enc))) (hB:B<=w.heap.size)
  (eg:∀args w,(callFunc gf args).run Tryz.prog w=.ok (.enter gf args) w)
  (hp:∀W x,x∈l->Below w.heap.size w W->Calls Tryz.prog gf (#[.agg #[(enc x).1,(enc x).2]]++lb) W fun e W'=>e=.returned (.bool (p x))/\Below W.heap.size W W') :
  Calls Tryz.prog 129 #[.slice A n c,.func (.func gf) #[] lb] w fun e w'=>e=.returned (.int .i64 (zr6 l p))/\Below w.heap.size w w':=by
 have hm:=hR.nmax
 obtain rfl:l.length=n:=by have:=jy3 hR;simpa using this
 have HP:=ja0 hp;clear hp
 have HR:=ja0 hR;clear hR
 go_enter Tryz.func129,Tryz.ntmps129
 go_wp2
 go_loopw [8] (fun i W=>∃k:Nat,k<=l.length/\i=.int .i64 (k:Int)/\(∀j (h:j<l.length),j<k->p l[j]=false)/\Below w.heap.size w W) (fun i _=>l.length-(intOf i).toNat)
 case atStart=>exact⟨0,by omega,rfl,fun j _ h=>by omega,Below.refl _ _⟩
 case round=>
  obtain⟨k,hk,rfl,hno,hbl⟩:=hrel
  have HNO:=ja0 hno;clear hno
  have HB:=ja0 hbl;clear hbl
  by_cases hlt:k<l.length
  ·obtain⟨ad,rfl,hc0,hc1⟩:=jaz2 (HR.out.below (HB.out.mono hB)) (i:=k) (by simpa using hlt)
   simp only[List.getElem_map] at hc0 hc1
   have HC:=ja0 (HP.out wr l[k] (by simp) HB.out)
   clear hB
   generalize hx:l[k]=x at *
   have HX:=ja0 hx;clear hx
   generalize (enc x).1=a at *
   generalize (enc x).2=b at *
   cases hpx:p x
   ·have HPX:=ja0 hpx;clear hpx
    go_wp2_with (first
     | (refine(HC.out).mono ?_;rintro e w1 ⟨rfl,hb1⟩;rw[HPX.out];have HB1:=ja0 hb1;clear hb1))
    go_roundw
    case rel=>exact⟨k+1,by omega,by go_num,fun j h hj=>by
     rcases Nat.lt_or_ge j k with h1|h1
     ·exact HNO.out j h h1
     ·obtain rfl:j=k:=by omega
      rw[HX.out];exact HPX.out,js6 HB.out HB1.out HB.out.size⟩
    case measure=>simp[intOf];omega
   ·have HPX:=ja0 hpx;clear hpx
    go_wp2_with (first
     | (refine(HC.out).mono ?_;rintro e w1 ⟨rfl,hb1⟩;rw[HPX.out];have HB1:=ja0 hb1;clear hb1))
    go_ret
    exact⟨zb2 (zv6 hlt (by rw[HX.out];exact HPX.out) (fun j h=>HNO.out j (by omega) h)).symm,js6 HB.out HB1.out HB.out.size⟩
  ·obtain rfl:k=l.length:=by omega
   go_wp2
   go_ret
   exact⟨zb2 (zv5 (fun j h=>HNO.out j h h)).symm,HB.out⟩
theorem zb9 {α:Type} (enc:α->Value×Value) (A:Option Addr) (n c B gf:Nat) (lb:Array Value) (l:List α) (p:α->Bool) (w:World) (hR:Rd w B 2 A n c (jb7 (l.map enc))) (hB:B<=w.heap.size)
  (eg:∀args w,(callFunc gf args).run Tryz.prog w=.ok (.enter gf args) w)
  (hp:∀W x,x∈l->Below w.heap.size w W->Calls Tryz.prog gf (#[.agg #[(enc x).1,(enc x).2]]++lb) W fun e W'=>e=.returned (.bool (p x))/\Below W.heap.size W W') :
  Calls Tryz.prog 74 #[.slice A n c,.func (.func gf) #[] lb] w fun e w'=>e=.returned (.bool (l.any p))/\Below w.heap.size w w':=by
 have H:=ja0 (jap5 enc A n c B gf lb l p w hR hB eg hp)
 have HI:=ja0 (jad2 l p)
 clear hR hB eg hp
 generalize zr6 l p=i at *
 generalize l.any p=r at *
 go_enter Tryz.func74,Tryz.ntmps74
 go_wp2_with fail
 refine H.out.mono ?_
 rintro e w' ⟨rfl,hb⟩
 have HB:=ja0 hb;clear hb
 go_wp2
 all_goals go_ret
 all_goals refine⟨?_,HB.out⟩
 all_goals rw[<-HI.out];rfl
structure PieceV where
 minus:Bool
 A:Option Addr
 n:Nat
 c:Nat
 ms:List Int
def PieceV.enc(p:PieceV):Value×Value:=(.bool p.minus,.slice p.A p.n p.c)
def PieceV.At(p:PieceV)(w:World)(B:Nat):Prop:=zb0 w B p.A p.n p.c p.ms
def za4(m:Int):Bool:=inB m 2 1000
def PieceV.ok(p:PieceV):Bool:=inB p.ms.length 1 6&&p.ms.all za4
def jb6(w:World)(B:Nat)(A:Option Addr)(n c:Nat)(l:List PieceV):Prop:=Rd w B 2 A n c (jb7 (l.map PieceV.enc))/\∀p∈l,p.At w B
def PieceV.flat(p:PieceV):Bool×List Int:=(p.minus,p.ms)
def zv8(p:Bool×List Int):Bool:=inB p.2.length 1 6&&p.2.all za4
def jv0(wh:Int)(l:List (Bool×List Int)):Bool:=inB wh 0 1000&&decide (l.length<=8)&&l.all zv8
section
variable {w w' : World} {B B' n c : Nat} {A : Option Addr} {l : List PieceV}
theorem jb6.len(h:jb6 w B A n c l):l.length=n:=by have:=jy3 h.1;simpa using this
theorem jb6.below(h:jb6 w B A n c l)(hb:Below B w w'):jb6 w' B A n c l:=⟨h.1.below hb,fun p hp=>Rd.below (h.2 p hp) hb⟩
theorem jb6.more(h:jb6 w B A n c l)(hB:B<=B'):jb6 w B' A n c l:=⟨h.1.more hB,fun p hp=>Rd.more (h.2 p hp) hB⟩
theorem jb6.alloc(h:jb6 w B A n c l)(hB:B<=w.heap.size)(o:Obj):jb6 (w.alloc o) B A n c l:=⟨h.1.alloc hB o,fun p hp=>Rd.alloc (h.2 p hp) hB o⟩
theorem jb6.at_(h:jb6 w B A n c l){i:Nat}(hi:i<l.length):∃ad:Addr,A=some ad/\w.cell? (ad.add (i*2))=some (.bool l[i].minus)/\w.cell? ⟨(ad.add (i*2)).block,(ad.add (i*2)).off+1,none⟩=some (.slice l[i].A l[i].n l[i].c):=by
 obtain⟨ad,e,h1,h2⟩:=jaz2 h.1 (i:=i) (by simpa using hi)
 simp only[List.getElem_map] at h1 h2
 exact⟨ad,e,h1,h2⟩
end
theorem jc9(a b c:Int)(w:World):Calls Tryz.prog 54 #[.int .i64 a,.int .i64 b,.int .i64 c] w fun e w'=>e=.returned (.bool (inB a b c))/\w'=w:=by
 unfold inB
 go_enter Tryz.func54,Tryz.ntmps54
 go_wp2
 all_goals go_ret
 ·simp[*]
 ·have h:¬b<=a:=by omega
  simp[h]
theorem jcb6(m:Int)(w:World):Calls Tryz.prog 120 #[.int .i64 m] w fun e w'=>e=.returned (.bool (za4 m))/\w'=w:=by
 have HW:=ja0 (jc9 m 2 1000 w)
 unfold za4
 generalize inB m 2 1000=r at *
 go_enter Tryz.func120,Tryz.ntmps120
 go_wp2_with fail
 refine HW.out.mono ?_
 rintro e w1 ⟨rfl,hw⟩
 subst w1
 go_wp2
 go_ret
 exact⟨rfl,rfl⟩
theorem jbb8 (A:Option Addr) (n c B gf:Nat) (lb:Array Value) (l:List Int) (p:Int->Bool) (w:World) (hR:zb0 w B A n c l) (hB:B<=w.heap.size)
  (eg:∀args w,(callFunc gf args).run Tryz.prog w=.ok (.enter gf args) w)
  (hp:∀W x,x∈l->Below w.heap.size w W->Calls Tryz.prog gf (#[.int .i64 x]++lb) W fun e W'=>e=.returned (.bool (p x))/\Below W.heap.size W W') :
  Calls Tryz.prog 153 #[.slice A n c,.func (.func gf) #[] lb] w fun e w'=>e=.returned (.int .i64 (zr6 l p))/\Below w.heap.size w w':=by
 have hm:=hR.nmax
 obtain rfl:l.length=n:=hR.len
 have HP:=ja0 hp;clear hp
 have HR:=ja0 hR;clear hR
 go_enter Tryz.func153,Tryz.ntmps153
 go_wp2
 go_loopw [8] (fun i W=>∃k:Nat,k<=l.length/\i=.int .i64 (k:Int)/\(∀j (h:j<l.length),j<k->p l[j]=false)/\Below w.heap.size w W) (fun i _=>l.length-(intOf i).toNat)
 case atStart=>exact⟨0,by omega,rfl,fun j _ h=>by omega,Below.refl _ _⟩
 case round=>
  obtain⟨k,hk,rfl,hno,hbl⟩:=hrel
  have HNO:=ja0 hno;clear hno
  have HB:=ja0 hbl;clear hbl
  by_cases hlt:k<l.length
  ·obtain⟨ad,rfl,hc0⟩:=(show zb0 wr B A l.length c l from HR.out.below (HB.out.mono hB)).at_ hlt
   have HC:=ja0 (HP.out wr l[k] (by simp) HB.out)
   clear hB
   generalize hx:l[k]=x at *
   have HX:=ja0 hx;clear hx
   cases hpx:p x
   ·have HPX:=ja0 hpx;clear hpx
    go_wp2_with (first
     | (refine(HC.out).mono ?_;rintro e w1 ⟨rfl,hb1⟩;rw[HPX.out];have HB1:=ja0 hb1;clear hb1))
    go_roundw
    case rel=>exact⟨k+1,by omega,by go_num,fun j h hj=>by
     rcases Nat.lt_or_ge j k with h1|h1
     ·exact HNO.out j h h1
     ·obtain rfl:j=k:=by omega
      rw[HX.out];exact HPX.out,js6 HB.out HB1.out HB.out.size⟩
    case measure=>simp[intOf];omega
   ·have HPX:=ja0 hpx;clear hpx
    go_wp2_with (first
     | (refine(HC.out).mono ?_;rintro e w1 ⟨rfl,hb1⟩;rw[HPX.out];have HB1:=ja0 hb1;clear hb1))
    go_ret
    exact⟨zb2 (zv6 hlt (by rw[HX.out];exact HPX.out) (fun j h=>HNO.out j (by omega) h)).symm,js6 HB.out HB1.out HB.out.size⟩
  ·obtain rfl:k=l.length:=by omega
   go_wp2
   go_ret
   exact⟨zb2 (zv5 (fun j h=>HNO.out j h h)).symm,HB.out⟩
theorem jah3 (A:Option Addr) (n c B gf:Nat) (lb:Array Value) (l:List Int) (p:Int->Bool) (w:World) (hR:zb0 w B A n c l) (hB:B<=w.heap.size)
  (eg:∀args w,(callFunc gf args).run Tryz.prog w=.ok (.enter gf args) w)
  (hp:∀W x,x∈l->Below w.heap.size w W->Calls Tryz.prog gf (#[.int .i64 x]++lb) W fun e W'=>e=.returned (.bool (p x))/\Below W.heap.size W W') :
  Calls Tryz.prog 122 #[.slice A n c,.func (.func gf) #[] lb] w fun e w'=>e=.returned (.bool (l.any p))/\Below w.heap.size w w':=by
 have H:=ja0 (jbb8 A n c B gf lb l p w hR hB eg hp)
 have HI:=ja0 (jad2 l p)
 clear hR hB eg hp
 generalize zr6 l p=i at *
 generalize l.any p=r at *
 go_enter Tryz.func122,Tryz.ntmps122
 go_wp2_with fail
 refine H.out.mono ?_
 rintro e w' ⟨rfl,hb⟩
 have HB:=ja0 hb;clear hb
 go_wp2
 all_goals go_ret
 all_goals refine⟨?_,HB.out⟩
 all_goals rw[<-HI.out];rfl
theorem jbr0 (m:Int) (b:Nat) (w:World) (hc:w.cell? ⟨b,0,none⟩=some (.func (.func 120) #[] #[])) :
  Calls Tryz.prog 123 #[.int .i64 m,.pointer (some ⟨b,0,none⟩)] w fun e w'=>e=.returned (.bool (!za4 m))/\w'=w:=by
 have HC:=ja0 (jcb6 m w)
 generalize za4 m=r at *
 go_enter Tryz.func123,Tryz.ntmps123
 go_wp2_with fail
 refine HC.out.mono ?_
 rintro e w1 ⟨rfl,hw⟩
 subst w1
 go_wp2
 go_ret
 exact⟨rfl,rfl⟩
theorem jcb7 (p:PieceV) (b B:Nat) (w:World) (hp:p.At w B) (hB:B<=w.heap.size) (hc:w.cell? ⟨b,0,none⟩=some (.func (.func 120) #[] #[])) (hb:b<w.heap.size) :
  Calls Tryz.prog 121 #[.agg #[.bool p.minus,.slice p.A p.n p.c],.pointer (some ⟨b,0,none⟩)] w fun e w'=>e=.returned (.bool (!p.ok))/\Below w.heap.size w w':=by
 obtain⟨mi,A,n,c,ms⟩:=p
 have hl:ms.length=n:=zb0.len hp
 subst hl
 have hcm:=Rd.nmax hp
 have HCF:=ja0 (jah3 A ms.length c B 123 #[.pointer (some ⟨b,0,none⟩)] ms (fun m=>!za4 m) (w.alloc (.cells #[.bool mi,.slice A ms.length c] 94)) (Rd.alloc hp hB _) (by simp;omega)
  (fun args w=>enters_of Tryz.func123 (by kernel_rfl) rfl args w) (fun W x _ hW=>(jbr0 x b W ((hW.cell (p:=⟨b,0,none⟩) (by simp;omega)).trans ((World.cell?_alloc_lt _ _ _ hb).trans hc))).mono (by rintro e w1 ⟨rfl,h⟩;subst h;exact⟨rfl,Below.refl _ _⟩)))
 have HAN:=ja0 (show(ms.any fun m=>!za4 m)=!ms.all za4 by rw[List.all_eq_not_any_not];simp)
 have HOK:Hid (PieceV.ok ⟨mi,A,ms.length,c,ms⟩=(inB ms.length 1 6&&ms.all za4)):=ja0 rfl
 have HW:=ja0 (fun W=>jc9 ms.length 1 6 W)
 have HBL:=ja0 ((Below.refl w.heap.size w).alloc (Nat.le_refl _) (.cells #[.bool mi,.slice A ms.length c] 94))
 rw[HAN.out] at HCF
 clear hp HAN
 generalize ms.all za4=r at *
 cases hin:inB ms.length 1 6
 ·rw[hin] at HW HOK
  clear hin HCF
  go_enter Tryz.func121,Tryz.ntmps121
  go_wp2_with (first
   | (go_at_call 54;refine(HW.out _).mono ?_;rintro e w1 ⟨rfl,hw⟩;subst w1))
  go_ret
  exact⟨by rw[HOK.out];rfl,HBL.out⟩
 ·rw[hin] at HW HOK
  clear hin
  go_enter Tryz.func121,Tryz.ntmps121
  go_wp2_with (first
   | (go_at_call 54;refine(HW.out _).mono ?_;rintro e w1 ⟨rfl,hw⟩;subst w1)
   | (go_at_call 122;refine HCF.out.mono ?_;rintro e w1 ⟨rfl,hb1⟩;have HB1:=ja0 hb1;clear hb1))
  go_ret
  exact⟨by rw[HOK.out];cases r<;>rfl,HBL.out.trans (HB1.out.mono (by simp))⟩
theorem jr6 (wh:Int) (A:Option Addr) (n c B:Nat) (l:List PieceV) (w:World) (hp:jb6 w B A n c l) (hB:B<=w.heap.size) :
  Calls Tryz.prog 71 #[.agg #[.int .i64 wh,.slice A n c]] w fun e w'=>e=.returned (.int .i64 (zh8 (jv0 wh (l.map PieceV.flat))))/\Below w.heap.size w w':=by
 have hl:=hp.len
 subst hl
 have hnm:=hp.1.nmax
 have HBa:Hid (Below w.heap.size w ((w.alloc (.cells #[.int .i64 wh,.slice A l.length c] 43)).alloc (.cells #[.func (.func 120) #[] #[]] 123))):=ja0 (((Below.refl w.heap.size w).alloc (Nat.le_refl _) _).alloc (by simp) _)
 have HCF:=ja0 (zb9 PieceV.enc A l.length c B 121 #[.pointer (some ⟨w.heap.size+1,0,none⟩)] l (fun p=>!p.ok) ((w.alloc (.cells #[.int .i64 wh,.slice A l.length c] 43)).alloc (.cells #[.func (.func 120) #[] #[]] 123))
  ((hp.1.alloc hB _).alloc (by simp;omega) _) (by simp;omega) (fun args w=>enters_of Tryz.func121 (by kernel_rfl) rfl args w) (fun W x hx hW=>by
   have h1:=Box.new (w.alloc (.cells #[.int .i64 wh,.slice A l.length c] 43)) 123 (.func (.func 120) #[] #[])
   rw[World.size_alloc] at h1
   have hz:=hW.size
   simp only[World.size_alloc] at hz hW
   exact jcb7 x (w.heap.size+1) B W (Rd.below (Rd.alloc (Rd.alloc (hp.2 x hx) hB _) (by simp;omega) _) (hW.mono (by omega))) (by omega) (h1.below hW (by omega)).cell (by omega)))
 have HAN:=ja0 (show(l.any fun p=>!p.ok)=!(l.map PieceV.flat).all zv8 by
  rw[List.all_eq_not_any_not,List.any_map];simp[Function.comp_def,PieceV.ok,zv8,PieceV.flat])
 rw[HAN.out] at HCF
 have HOK:Hid (jv0 wh (l.map PieceV.flat)=(inB wh 0 1000&&decide (l.length<=8)&&(l.map PieceV.flat).all zv8)):=ja0 (by unfold jv0;rw[List.length_map])
 have HW:=ja0 (fun W=>jc9 wh 0 1000 W)
 clear hp HAN
 generalize (l.map PieceV.flat).all zv8=r at *
 cases hin:inB wh 0 1000
 ·rw[hin] at HW HOK
  clear hin HCF
  go_enter Tryz.func71,Tryz.ntmps71
  go_wp2_with (first
   | (go_at_call 54;refine(HW.out _).mono ?_;rintro e w1 ⟨rfl,hw⟩;subst w1))
  go_ret
  exact⟨by rw[HOK.out];rfl,HBa.out⟩
 ·rw[hin] at HW HOK
  clear hin
  by_cases h8:l.length<=8
  ·have h8':decide (8<(l.length:Int))=false:=by simp;omega
   rw[decide_eq_true h8] at HOK
   go_enter Tryz.func71,Tryz.ntmps71
   go_wp2_with (first
    | (go_at_call 54;refine(HW.out _).mono ?_;rintro e w1 ⟨rfl,hw⟩;subst w1)
    | (go_at_call 74;refine HCF.out.mono ?_;rintro e w1 ⟨rfl,hb1⟩;have HB1:=ja0 hb1;clear hb1))
   all_goals go_ret
   all_goals refine⟨?_,HBa.out.trans (HB1.out.mono (by simp;omega))⟩
   all_goals rw[HOK.out]
   all_goals (cases r<;>simp_all[zh8])
  ·have h8':(8:Int)<(l.length:Int):=by omega
   rw[decide_eq_false h8] at HOK
   clear HCF
   go_enter Tryz.func71,Tryz.ntmps71
   go_wp2_with (first
    | (go_at_call 54;refine(HW.out _).mono ?_;rintro e w1 ⟨rfl,hw⟩;subst w1))
   go_ret
   exact⟨by rw[HOK.out];rfl,HBa.out⟩
end Go.Proofs.YtphcodcdfeohhaaGreatDoor
