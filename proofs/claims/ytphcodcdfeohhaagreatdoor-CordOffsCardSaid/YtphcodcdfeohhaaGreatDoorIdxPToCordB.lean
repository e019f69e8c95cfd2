import Derived.Test.YtphcodcdfeohhaaGreatDoorIdxToSurdF
import Derived.Test.YtphcodcdfeohhaaGreatDoorTimAToAsyY
import Derived.Test.YtphcodcdfeohhaaGreatDoorSurdKToSurdL
import Derived.Test.YtphcodcdfeohhaaGreatDoorProdAToProdM
import Derived.Test.YtphcodcdfeohhaaGreatDoorQuoAToAppQ
import Derived.Test.YtphcodcdfeohhaaGreatDoorFlowToNumK
import Derived.Test.YtphcodcdfeohhaaGreatDoorRootAToMakeR
import Derived.Test.YtphcodcdfeohhaaGreatDoorMakeAToCom
import Derived.Laws.EntriesVeiled
set_option linter.unusedVariables false
set_option linter.unusedSimpArgs false
namespace Go.Proofs.YtphcodcdfeohhaaGreatDoor
set_option maxRecDepth 100000
set_option maxHeartbeats 2000000
open Go.RowKit
theorem jbb0 {α:Type} (enc:α->Value×Value) (A:Option Addr) (n c B gf:Nat) (lb:Array Value) (l:List α) (p:α->Bool) (w:World) (hR:Rd w B 2 A n c (jc7 (l.map enc))) (hB:B<=w.heap.size)
  (eg:∀args w,(callFunc gf args).run Tryz.prog w=.ok (.enter gf args) w)
  (hp:∀W x,x∈l->Below w.heap.size w W->Calls Tryz.prog gf (#[.agg #[(enc x).1,(enc x).2]]++lb) W fun e W'=>e=.returned (.bool (p x))/\Below W.heap.size W W') :
  Calls Tryz.prog 129 #[.slice A n c,.func (.func gf) #[] lb] w fun e w'=>e=.returned (.int .i64 (idxP l p))/\Below w.heap.size w w':=by
 have hm:=hR.nmax
 obtain rfl:l.length=n:=by have:=zc9 hR;simpa using this
 have HP:=ja0 hp;clear hp
 have HR:=ja0 hR;clear hR
 go_enter Tryz.func129,Tryz.ntmps129
 go_wp2
 go_loopw [8] (fun i W=>∃k:Nat,k<=l.length/\i=.int .i64 (k:Int)/\(∀j (h:j<l.length),j<k->p l[j]=false)/\Below w.heap.size w W) (fun i _=>l.length-(intOf i).toNat)
 case atStart=>exact⟨0,by omega,rfl,fun j _ h=>by omega,Below.refl _ _⟩
 case round=>
  obtain⟨k,hk,rfl,hno,hbl⟩:=hrel
  have HNO:=ja0 hno;clear hno
  have HB:=ja0 hbl;clear hbl
  by_cases hlt:k<l.length
  ·obtain⟨ad,rfl,hc0,hc1⟩:=jbj6 (HR.out.below (HB.out.mono hB)) (i:=k) (by simpa using hlt)
   simp only[List.getElem_map] at hc0 hc1
   have HC:=ja0 (HP.out wr l[k] (by simp) HB.out)
   clear hB
   generalize hx:l[k]=x at *
   have HX:=ja0 hx;clear hx
   generalize (enc x).1=a at *
   generalize (enc x).2=b at *
   cases hpx:p x
   ·have HPX:=ja0 hpx;clear hpx
    go_wp2_with (first
     | (refine(HC.out).mono ?_;rintro e w1 ⟨rfl,hb1⟩;rw[HPX.out];have HB1:=ja0 hb1;clear hb1))
    go_roundw
    case rel=>exact⟨k+1,by omega,by go_num,fun j h hj=>by
     rcases Nat.lt_or_ge j k with h1|h1
     ·exact HNO.out j h h1
     ·obtain rfl:j=k:=by omega
      rw[HX.out];exact HPX.out,za3 HB.out HB1.out HB.out.size⟩
    case measure=>simp[intOf];omega
   ·have HPX:=ja0 hpx;clear hpx
    go_wp2_with (first
     | (refine(HC.out).mono ?_;rintro e w1 ⟨rfl,hb1⟩;rw[HPX.out];have HB1:=ja0 hb1;clear hb1))
    go_ret
    exact⟨zh5 (jac9 hlt (by rw[HX.out];exact HPX.out) (fun j h=>HNO.out j (by omega) h)).symm,za3 HB.out HB1.out HB.out.size⟩
  ·obtain rfl:k=l.length:=by omega
   go_wp2
   go_ret
   exact⟨zh5 (jac8 (fun j h=>HNO.out j h h)).symm,HB.out⟩
theorem zj4 {α:Type} (enc:α->Value×Value) (A:Option Addr) (n c B gf:Nat) (lb:Array Value) (l:List α) (p:α->Bool) (w:World) (hR:Rd w B 2 A n c (jc7 (l.map enc))) (hB:B<=w.heap.size)
  (eg:∀args w,(callFunc gf args).run Tryz.prog w=.ok (.enter gf args) w)
  (hp:∀W x,x∈l->Below w.heap.size w W->Calls Tryz.prog gf (#[.agg #[(enc x).1,(enc x).2]]++lb) W fun e W'=>e=.returned (.bool (p x))/\Below W.heap.size W W') :
  Calls Tryz.prog 74 #[.slice A n c,.func (.func gf) #[] lb] w fun e w'=>e=.returned (.bool (l.any p))/\Below w.heap.size w w':=by
 have H:=ja0 (jbb0 enc A n c B gf lb l p w hR hB eg hp)
 have HI:=ja0 (jam9 l p)
 clear hR hB eg hp
 generalize idxP l p=i at *
 generalize l.any p=r at *
 go_enter Tryz.func74,Tryz.ntmps74
 go_wp2_with fail
 refine H.out.mono ?_
 rintro e w' ⟨rfl,hb⟩
 have HB:=ja0 hb;clear hb
 go_wp2
 all_goals go_ret
 all_goals refine⟨?_,HB.out⟩
 all_goals rw[<-HI.out];rfl
open Go Go.RowKit
theorem jdm7{rd:Int}{rt:List (Int×Int)}(h:jb3 rd rt=true):zd1 rd rt 1 [(-1,1)]=jd6 1 [] rd rt (-1):=by
 obtain⟨h0,hN⟩:=jcz5 (IsN.self h)
 have hv:=hN.val
 have hok:=hN.1
 obtain⟨⟨d,ts,c⟩,hr⟩:∃r,jd6 1 [] rd rt (-1)=r:=⟨_,rfl⟩
 rw[hr] at h0 hv hok ⊢
 dsimp only at h0 hv hok
 subst h0
 have hone:jb3 1 [(-1,1)]=true:=by decide +kernel
 refine jfb2 (P:=fun k=>-jj2 rt k) h hone hok ?_ ?_
 ·exact(jp4.cst (-1) (jj2 rt)).congr (fun k=>rfl) (fun k=>by rw[jcm1]) (fun k=>by omega)
 ·exact hv.symm.trans (jf8.of_eq fun k=>by rw[Int.mul_one])
theorem jfk0(kv:List (Int×Int))(den:Int):(jf3 kv den).2.1.length<=4:=by
 unfold jf3
 split
 ·simp
 ·split
  ·simp
  ·dsimp only;omega
theorem jfk4{xd yd m d c:Int}{xt yt ts:List (Int×Int)}(h:jd6 xd xt yd yt m=(d,ts,c)):ts.length<=1000:=by
 have h1:(jd6 xd xt yd yt m).2.1.length<=4:=by
  unfold jd6
  split
  ·exact jfk0 _ _
  ·simp
 rw[h] at h1
 dsimp only at h1
 omega
def jdy4(x:Int×Sl):Value×Value:=(.int .i64 x.1,.slice x.2.1 x.2.2.1 x.2.2.2)
def jcs5(l:List (Int×Sl)):Bool:=l.any fun x=>decide (8<x.2.2.1)
theorem jck7 (A:Option Addr) (n c B:Nat) (l:List (Int×Sl)) (w:World) (hR:Rq w B 2 A n c (jc7 (l.map jdy4))) :
  Calls Tryz.prog 7 #[.slice A n c] w fun e w'=>e=.returned (.bool (jcs5 l))/\w'=w:=by
 have hl:l.length=n:=by
  have h1:=hR.1
  rw[jn7,List.length_map] at h1
  omega
 subst hl
 have hn:=hR.nmax
 have HR:=ja0 hR
 clear hR
 go_enter Tryz.func7,Tryz.ntmps7
 go_wp2
 go_loopw [3] (fun i W=>∃(k:Nat),k<=l.length/\i=.int .i64 k/\(∀j (hj:j<l.length),j<k->¬8<l[j].2.2.1)/\W=w) (fun i _=>l.length-(intOf i).toNat)
 case atStart=>exact⟨0,by omega,rfl,fun j _ hj=>by omega,rfl⟩
 case round=>
  obtain⟨k,hk,rfl,hpre,rfl⟩:=hrel
  have HPRE:=ja0 hpre
  clear hpre
  by_cases hkl:(k:Int)<(l.length:Int)
  ·have hk1:k<l.length:=by omega
   obtain⟨ad,rfl,-,ha0,ha1⟩:=jda5 HR.out (i:=k) (by simpa using hk1)
   simp only[List.getElem_map,jdy4] at ha1
   clear ha0
   by_cases h10:8<(l[k].2.2.1:Int)
   ·have HL:Hid (jcs5 l=true):=ja0 (List.any_eq_true.2 ⟨l[k],List.getElem_mem hk1,decide_eq_true (show 8<l[k].2.2.1 by omega)⟩)
    go_wp2
    go_ret
    exact⟨by rw[HL.out];rfl,rfl⟩
   ·have HN:=ja0 (show ∀j (hj:j<l.length),j<k+1->¬8<l[j].2.2.1 from fun j hj h=>by
     rcases Nat.lt_or_ge j k with h5|h5
     ·exact HPRE.out j hj h5
     ·obtain rfl:j=k:=by omega
      omega)
    go_wp2
    exact⟨⟨k+1,by omega,by go_num,HN.out,by trivial⟩,by simp[intOf];omega⟩
  ·obtain rfl:k=l.length:=by omega
   have HL:Hid (jcs5 l=false):=ja0 (List.any_eq_false.2 fun p hp=>by
    obtain⟨j,hj,rfl⟩:=List.mem_iff_getElem.1 hp
    have h5:=HPRE.out j hj hj
    simpa using h5)
   go_wp2
   go_ret
   exact⟨by rw[HL.out];rfl,rfl⟩
structure PieceV where
 minus:Bool
 A:Option Addr
 n:Nat
 c:Nat
 ms:List Int
def PieceV.enc(p:PieceV):Value×Value:=(.bool p.minus,.slice p.A p.n p.c)
def PieceV.At(p:PieceV)(w:World)(B:Nat):Prop:=zj3 w B p.A p.n p.c p.ms
def zg6(m:Int):Bool:=inB m 2 1000
def PieceV.ok(p:PieceV):Bool:=inB p.ms.length 1 6&&p.ms.all zg6
def jc8(w:World)(B:Nat)(A:Option Addr)(n c:Nat)(l:List PieceV):Prop:=Rd w B 2 A n c (jc7 (l.map PieceV.enc))/\∀p∈l,p.At w B
def PieceV.flat(p:PieceV):Bool×List Int:=(p.minus,p.ms)
def jad6(p:Bool×List Int):Bool:=inB p.2.length 1 6&&p.2.all zg6
def zb9(wh:Int)(l:List (Bool×List Int)):Bool:=inB wh 0 1000&&decide (l.length<=8)&&l.all jad6
section
variable {w w' : World} {B B' n c : Nat} {A : Option Addr} {l : List PieceV}
theorem jc8.len(h:jc8 w B A n c l):l.length=n:=by have:=zc9 h.1;simpa using this
theorem jc8.below(h:jc8 w B A n c l)(hb:Below B w w'):jc8 w' B A n c l:=⟨h.1.below hb,fun p hp=>Rd.below (h.2 p hp) hb⟩
theorem jc8.more(h:jc8 w B A n c l)(hB:B<=B'):jc8 w B' A n c l:=⟨h.1.more hB,fun p hp=>Rd.more (h.2 p hp) hB⟩
theorem jc8.alloc(h:jc8 w B A n c l)(hB:B<=w.heap.size)(o:Obj):jc8 (w.alloc o) B A n c l:=⟨h.1.alloc hB o,fun p hp=>Rd.alloc (h.2 p hp) hB o⟩
theorem jc8.at_(h:jc8 w B A n c l){i:Nat}(hi:i<l.length):∃ad:Addr,A=some ad/\w.cell? (ad.add (i*2))=some (.bool l[i].minus)/\w.cell? ⟨(ad.add (i*2)).block,(ad.add (i*2)).off+1,none⟩=some (.slice l[i].A l[i].n l[i].c):=by
 obtain⟨ad,e,h1,h2⟩:=jbj6 h.1 (i:=i) (by simpa using hi)
 simp only[List.getElem_map] at h1 h2
 exact⟨ad,e,h1,h2⟩
end
theorem jd9(a b c:Int)(w:World):Calls Tryz.prog 54 #[.int .i64 a,.int .i64 b,.int .i64 c] w fun e w'=>e=.returned (.bool (inB a b c))/\w'=w:=by
 unfold inB
 go_enter Tryz.func54,Tryz.ntmps54
 go_wp2
 all_goals go_ret
 ·simp[*]
 ·have h:¬b<=a:=by omega
  simp[h]
theorem jct7(m:Int)(w:World):Calls Tryz.prog 120 #[.int .i64 m] w fun e w'=>e=.returned (.bool (zg6 m))/\w'=w:=by
 have HW:=ja0 (jd9 m 2 1000 w)
 unfold zg6
 generalize inB m 2 1000=r at *
 go_enter Tryz.func120,Tryz.ntmps120
 go_wp2_with fail
 refine HW.out.mono ?_
 rintro e w1 ⟨rfl,hw⟩
 subst w1
 go_wp2
 go_ret
 exact⟨rfl,rfl⟩
theorem jbn9 (A:Option Addr) (n c B gf:Nat) (lb:Array Value) (l:List Int) (p:Int->Bool) (w:World) (hR:zj3 w B A n c l) (hB:B<=w.heap.size)
  (eg:∀args w,(callFunc gf args).run Tryz.prog w=.ok (.enter gf args) w)
  (hp:∀W x,x∈l->Below w.heap.size w W->Calls Tryz.prog gf (#[.int .i64 x]++lb) W fun e W'=>e=.returned (.bool (p x))/\Below W.heap.size W W') :
  Calls Tryz.prog 153 #[.slice A n c,.func (.func gf) #[] lb] w fun e w'=>e=.returned (.int .i64 (idxP l p))/\Below w.heap.size w w':=by
 have hm:=hR.nmax
 obtain rfl:l.length=n:=hR.len
 have HP:=ja0 hp;clear hp
 have HR:=ja0 hR;clear hR
 go_enter Tryz.func153,Tryz.ntmps153
 go_wp2
 go_loopw [8] (fun i W=>∃k:Nat,k<=l.length/\i=.int .i64 (k:Int)/\(∀j (h:j<l.length),j<k->p l[j]=false)/\Below w.heap.size w W) (fun i _=>l.length-(intOf i).toNat)
 case atStart=>exact⟨0,by omega,rfl,fun j _ h=>by omega,Below.refl _ _⟩
 case round=>
  obtain⟨k,hk,rfl,hno,hbl⟩:=hrel
  have HNO:=ja0 hno;clear hno
  have HB:=ja0 hbl;clear hbl
  by_cases hlt:k<l.length
  ·obtain⟨ad,rfl,hc0⟩:=(show zj3 wr B A l.length c l from HR.out.below (HB.out.mono hB)).at_ hlt
   have HC:=ja0 (HP.out wr l[k] (by simp) HB.out)
   clear hB
   generalize hx:l[k]=x at *
   have HX:=ja0 hx;clear hx
   cases hpx:p x
   ·have HPX:=ja0 hpx;clear hpx
    go_wp2_with (first
     | (refine(HC.out).mono ?_;rintro e w1 ⟨rfl,hb1⟩;rw[HPX.out];have HB1:=ja0 hb1;clear hb1))
    go_roundw
    case rel=>exact⟨k+1,by omega,by go_num,fun j h hj=>by
     rcases Nat.lt_or_ge j k with h1|h1
     ·exact HNO.out j h h1
     ·obtain rfl:j=k:=by omega
      rw[HX.out];exact HPX.out,za3 HB.out HB1.out HB.out.size⟩
    case measure=>simp[intOf];omega
   ·have HPX:=ja0 hpx;clear hpx
    go_wp2_with (first
     | (refine(HC.out).mono ?_;rintro e w1 ⟨rfl,hb1⟩;rw[HPX.out];have HB1:=ja0 hb1;clear hb1))
    go_ret
    exact⟨zh5 (jac9 hlt (by rw[HX.out];exact HPX.out) (fun j h=>HNO.out j (by omega) h)).symm,za3 HB.out HB1.out HB.out.size⟩
  ·obtain rfl:k=l.length:=by omega
   go_wp2
   go_ret
   exact⟨zh5 (jac8 (fun j h=>HNO.out j h h)).symm,HB.out⟩
theorem jas5 (A:Option Addr) (n c B gf:Nat) (lb:Array Value) (l:List Int) (p:Int->Bool) (w:World) (hR:zj3 w B A n c l) (hB:B<=w.heap.size)
  (eg:∀args w,(callFunc gf args).run Tryz.prog w=.ok (.enter gf args) w)
  (hp:∀W x,x∈l->Below w.heap.size w W->Calls Tryz.prog gf (#[.int .i64 x]++lb) W fun e W'=>e=.returned (.bool (p x))/\Below W.heap.size W W') :
  Calls Tryz.prog 122 #[.slice A n c,.func (.func gf) #[] lb] w fun e w'=>e=.returned (.bool (l.any p))/\Below w.heap.size w w':=by
 have H:=ja0 (jbn9 A n c B gf lb l p w hR hB eg hp)
 have HI:=ja0 (jam9 l p)
 clear hR hB eg hp
 generalize idxP l p=i at *
 generalize l.any p=r at *
 go_enter Tryz.func122,Tryz.ntmps122
 go_wp2_with fail
 refine H.out.mono ?_
 rintro e w' ⟨rfl,hb⟩
 have HB:=ja0 hb;clear hb
 go_wp2
 all_goals go_ret
 all_goals refine⟨?_,HB.out⟩
 all_goals rw[<-HI.out];rfl
theorem jcg7 (m:Int) (b:Nat) (w:World) (hc:w.cell? ⟨b,0,none⟩=some (.func (.func 120) #[] #[])) :
  Calls Tryz.prog 123 #[.int .i64 m,.pointer (some ⟨b,0,none⟩)] w fun e w'=>e=.returned (.bool (!zg6 m))/\w'=w:=by
 have HC:=ja0 (jct7 m w)
 generalize zg6 m=r at *
 go_enter Tryz.func123,Tryz.ntmps123
 go_wp2_with fail
 refine HC.out.mono ?_
 rintro e w1 ⟨rfl,hw⟩
 subst w1
 go_wp2
 go_ret
 exact⟨rfl,rfl⟩
theorem jct8 (p:PieceV) (b B:Nat) (w:World) (hp:p.At w B) (hB:B<=w.heap.size) (hc:w.cell? ⟨b,0,none⟩=some (.func (.func 120) #[] #[])) (hb:b<w.heap.size) :
  Calls Tryz.prog 121 #[.agg #[.bool p.minus,.slice p.A p.n p.c],.pointer (some ⟨b,0,none⟩)] w fun e w'=>e=.returned (.bool (!p.ok))/\Below w.heap.size w w':=by
 obtain⟨mi,A,n,c,ms⟩:=p
 have hl:ms.length=n:=zj3.len hp
 subst hl
 have hcm:=Rd.nmax hp
 have HCF:=ja0 (jas5 A ms.length c B 123 #[.pointer (some ⟨b,0,none⟩)] ms (fun m=>!zg6 m) (w.alloc (.cells #[.bool mi,.slice A ms.length c] 94)) (Rd.alloc hp hB _) (by simp;omega)
  (fun args w=>enters_of Tryz.func123 (by kernel_rfl) rfl args w) (fun W x _ hW=>(jcg7 x b W ((hW.cell (p:=⟨b,0,none⟩) (by simp;omega)).trans ((World.cell?_alloc_lt _ _ _ hb).trans hc))).mono (by rintro e w1 ⟨rfl,h⟩;subst h;exact⟨rfl,Below.refl _ _⟩)))
 have HAN:=ja0 (show(ms.any fun m=>!zg6 m)=!ms.all zg6 by rw[List.all_eq_not_any_not];simp)
 have HOK:Hid (PieceV.ok ⟨mi,A,ms.length,c,ms⟩=(inB ms.length 1 6&&ms.all zg6)):=ja0 rfl
 have HW:=ja0 (fun W=>jd9 ms.length 1 6 W)
 have HBL:=ja0 ((Below.refl w.heap.size w).alloc (Nat.le_refl _) (.cells #[.bool mi,.slice A ms.length c] 94))
 rw[HAN.out] at HCF
 clear hp HAN
 generalize ms.all zg6=r at *
 cases hin:inB ms.length 1 6
 ·rw[hin] at HW HOK
  clear hin HCF
  go_enter Tryz.func121,Tryz.ntmps121
  go_wp2_with (first
   | (go_at_call 54;refine(HW.out _).mono ?_;rintro e w1 ⟨rfl,hw⟩;subst w1))
  go_ret
  exact⟨by rw[HOK.out];rfl,HBL.out⟩
 ·rw[hin] at HW HOK
  clear hin
  go_enter Tryz.func121,Tryz.ntmps121
  go_wp2_with (first
   | (go_at_call 54;refine(HW.out _).mono ?_;rintro e w1 ⟨rfl,hw⟩;subst w1)
   | (go_at_call 122;refine HCF.out.mono ?_;rintro e w1 ⟨rfl,hb1⟩;have HB1:=ja0 hb1;clear hb1))
  go_ret
  exact⟨by rw[HOK.out];cases r<;>rfl,HBL.out.trans (HB1.out.mono (by simp))⟩
theorem jy6 (wh:Int) (A:Option Addr) (n c B:Nat) (l:List PieceV) (w:World) (hp:jc8 w B A n c l) (hB:B<=w.heap.size) :
  Calls Tryz.prog 71 #[.agg #[.int .i64 wh,.slice A n c]] w fun e w'=>e=.returned (.int .i64 (zp8 (zb9 wh (l.map PieceV.flat))))/\Below w.heap.size w w':=by
 have hl:=hp.len
 subst hl
 have hnm:=hp.1.nmax
 have HBa:Hid (Below w.heap.size w ((w.alloc (.cells #[.int .i64 wh,.slice A l.length c] 43)).alloc (.cells #[.func (.func 120) #[] #[]] 123))):=ja0 (((Below.refl w.heap.size w).alloc (Nat.le_refl _) _).alloc (by simp) _)
 have HCF:=ja0 (zj4 PieceV.enc A l.length c B 121 #[.pointer (some ⟨w.heap.size+1,0,none⟩)] l (fun p=>!p.ok) ((w.alloc (.cells #[.int .i64 wh,.slice A l.length c] 43)).alloc (.cells #[.func (.func 120) #[] #[]] 123))
  ((hp.1.alloc hB _).alloc (by simp;omega) _) (by simp;omega) (fun args w=>enters_of Tryz.func121 (by kernel_rfl) rfl args w) (fun W x hx hW=>by
   have h1:=Box.new (w.alloc (.cells #[.int .i64 wh,.slice A l.length c] 43)) 123 (.func (.func 120) #[] #[])
   rw[World.size_alloc] at h1
   have hz:=hW.size
   simp only[World.size_alloc] at hz hW
   exact jct8 x (w.heap.size+1) B W (Rd.below (Rd.alloc (Rd.alloc (hp.2 x hx) hB _) (by simp;omega) _) (hW.mono (by omega))) (by omega) (h1.below hW (by omega)).cell (by omega)))
 have HAN:=ja0 (show(l.any fun p=>!p.ok)=!(l.map PieceV.flat).all jad6 by
  rw[List.all_eq_not_any_not,List.any_map];simp[Function.comp_def,PieceV.ok,jad6,PieceV.flat])
 rw[HAN.out] at HCF
 have HOK:Hid (zb9 wh (l.map PieceV.flat)=(inB wh 0 1000&&decide (l.length<=8)&&(l.map PieceV.flat).all jad6)):=ja0 (by unfold zb9;rw[List.length_map])
 have HW:=ja0 (fun W=>jd9 wh 0 1000 W)
 clear hp HAN
 generalize (l.map PieceV.flat).all jad6=r at *
 cases hin:inB wh 0 1000
 ·rw[hin] at HW HOK
  clear hin HCF
  go_enter Tryz.func71,Tryz.ntmps71
  go_wp2_with (first
   | (go_at_call 54;refine(HW.out _).mono ?_;rintro e w1 ⟨rfl,hw⟩;subst w1))
  go_ret
  exact⟨by rw[HOK.out];rfl,HBa.out⟩
 ·rw[hin] at HW HOK
  clear hin
  by_cases h8:l.length<=8
  ·have h8':decide (8<(l.length:Int))=false:=by simp;omega
   rw[decide_eq_true h8] at HOK
   go_enter Tryz.func71,Tryz.ntmps71
   go_wp2_with (first
    | (go_at_call 54;refine(HW.out _).mono ?_;rintro e w1 ⟨rfl,hw⟩;subst w1)
    | (go_at_call 74;refine HCF.out.mono ?_;rintro e w1 ⟨rfl,hb1⟩;have HB1:=ja0 hb1;clear hb1))
   all_goals go_ret
   all_goals refine⟨?_,HBa.out.trans (HB1.out.mono (by simp;omega))⟩
   all_goals rw[HOK.out]
   all_goals (cases r<;>simp_all[zp8])
  ·have h8':(8:Int)<(l.length:Int):=by omega
   rw[decide_eq_false h8] at HOK
   clear HCF
   go_enter Tryz.func71,Tryz.ntmps71
   go_wp2_with (first
    | (go_at_call 54;refine(HW.out _).mono ?_;rintro e w1 ⟨rfl,hw⟩;subst w1))
   go_ret
   exact⟨by rw[HOK.out];rfl,HBa.out⟩
end Go.Proofs.YtphcodcdfeohhaaGreatDoor
