import Derived.Test.YtphcodcdfeohhaaGreatDoorTimAToAsyY
import Derived.Test.YtphcodcdfeohhaaGreatDoorFlowToNumK
import Derived.OrdersIn
import Derived.Laws.EntriesVeiled
set_option linter.all false
namespace Go.Proofs.YtphcodcdfeohhaaGreatDoor
set_option maxRecDepth 100000
set_option maxHeartbeats 2000000
open Go.RowKit
def Vr(X:Nat)(d:Int)(A:Option Addr)(n c:Nat)(ts:List (Int×Int))(W:World):Prop:=jh W X 24 #[.int .i64 d,.slice A n c]/\zf3 0 (A,n,c) ts W
instance {X:Nat}{d:Int}{A:Option Addr}{n c:Nat}{ts:List (Int×Int)}:Kept (Vr X d A n c ts):=⟨λ_ _ h hb=>⟨h.1.below hb h.1.lt,jG h.2 hb⟩⟩
theorem Vr.new{W:World}{d:Int}{A:Option Addr}{n c:Nat}{ts:List (Int×Int)}(h:zf3 0 (A,n,c) ts W):Vr W.heap.size d A n c ts (W.alloc (.cells #[.int .i64 d,.slice A n c] 24)):=⟨jh.new W _ _,World.ownsRow.alloc h _⟩
theorem Vr.small{W:World}{X:Nat}{d:Int}{A:Option Addr}{n c:Nat}{v:Int}(h:Vr X d A n c (jK v) W):n<=1000:=by
 have h1:=(ZF (A:=A) (n:=n) (c:=c) h.2).len
 have h2:(jK v).length<=1:=by unfold jK;split<;>simp
 omega
theorem Vr.le{W:World}{X:Nat}{d:Int}{A:Option Addr}{n c:Nat}{ts:List (Int×Int)}(h:Vr X d A n c ts W)(hl:ts.length<=1000):n<=1000:=by
 have h1:=(ZF (A:=A) (n:=n) (c:=c) h.2).len
 omega
theorem Vr.made {S:World->Prop} [Kept S] {W0 W:World} {X:Nat} {d:Int} {x:Sl} {ts:List (Int×Int)} (hS:S W0) (hb:Below W0.heap.size W0 W) (hX:W0.heap.size<=X) (hN:jh W X 24 #[.int .i64 0,.slice none 0 0]) (ho:zf3 0 x ts W) :
  S ((W.setCell ⟨X,0,none⟩ (.int .i64 d)).setCell ⟨X,1,none⟩ (.slice x.1 x.2.1 x.2.2))/\Vr X d x.1 x.2.1 x.2.2 ts ((W.setCell ⟨X,0,none⟩ (.int .i64 d)).setCell ⟨X,1,none⟩ (.slice x.1 x.2.1 x.2.2)):=
 ⟨Kept.keep _ _ hS ((hb.setCell (p:=⟨X,0,none⟩) hX (.int .i64 d)).setCell (p:=⟨X,1,none⟩) hX (.slice x.1 x.2.1 x.2.2)),(hN.set_ 0 (.int .i64 d)).set_ 1 (.slice x.1 x.2.1 x.2.2),
  jC (jC ho hN (i:=0) (u:=.int .i64 d) (by decide)) (hN.set_ 0 (.int .i64 d)) (i:=1) (u:=.slice x.1 x.2.1 x.2.2) (by decide)⟩
open Go Go.RowKit
abbrev jab5:Array Value:=#[.int .i64 0,.slice none 0 0]
def Lay(W0 W:World)(V:Nat->Nat)(C:Nat->Option (Array Value))(R:List (Sl×List (Int×Int))):Prop:=
 Below W0.heap.size W0 W/\(∀i cs,C i=some cs->W0.heap.size<=V i/\jh W (V i) 24 cs)/\(∀i j,i≠j->(C i).isSome=true->(C j).isSome=true->V i≠V j)/\∀q∈R,zf3 0 q.1 q.2 W
section
variable {W0 W : World} {V : Nat → Nat} {C : Nat → Option (Array Value)} {R : List (Sl × List (Int × Int))}
theorem Lay.start(h:Below W0.heap.size W0 W)(hR:∀q∈R,zf3 0 q.1 q.2 W):Lay W0 W (λ_=>0) (λ_=>none) R:=⟨h,λ_ _ h=>(by cases h),λ_ _ _ h=>(by cases h),hR⟩
theorem Lay.add(h:Lay W0 W V C R)(i X:Nat){cs:Array Value}(hX:W0.heap.size<=X)(hB:jh W X 24 cs)(hn:∀j cs,C j=some cs->V j≠X):Lay W0 W (λj=>if j=i then X else V j) (λj=>if j=i then some cs else C j) R:=by
 refine⟨h.1,λj l hj=>?_,λj k hne hj hk=>?_,h.2.2.2⟩
 ·by_cases e:j=i
  ·simp only[if_pos e] at hj ⊢;injection hj with hj;subst hj;exact⟨hX,hB⟩
  ·simp only[if_neg e] at hj ⊢;exact h.2.1 j l hj
 ·by_cases e:j=i
  ·subst e
   simp only[if_pos rfl,if_neg (Ne.symm hne)] at hk ⊢
   obtain⟨l,hl⟩:=Option.isSome_iff_exists.1 hk
   exact(hn k l hl).symm
  ·by_cases e':k=i
   ·subst e'
    simp only[if_pos rfl,if_neg e] at hj ⊢
    obtain⟨l,hl⟩:=Option.isSome_iff_exists.1 hj
    exact hn j l hl
   ·simp only[if_neg e,if_neg e'] at hj hk ⊢
    exact h.2.2.1 j k hne hj hk
theorem Lay.alloc(h:Lay W0 W V C R)(i:Nat)(cs:Array Value):Lay W0 (W.alloc (.cells cs 24)) (λj=>if j=i then W.heap.size else V j) (λj=>if j=i then some cs else C j) R:=
 Lay.add (W:=W.alloc (.cells cs 24)) ⟨h.1.alloc h.1.size _,λj l hj=>⟨(h.2.1 j l hj).1,(h.2.1 j l hj).2.alloc _⟩,h.2.2.1,λq hq=>World.ownsRow.alloc (h.2.2.2 q hq) _⟩ i W.heap.size h.1.size (jh.new W _ _)
  (λj l hj=>Nat.ne_of_lt (h.2.1 j l hj).2.lt)
theorem Lay.put (h:Lay W0 W V C R) (i X:Nat) {a b:Value} (hV:V i=X) (hi:C i=some #[a,b]) (u v:Value) :
  Lay W0 ((W.setCell ⟨X,0,none⟩ u).setCell ⟨X,1,none⟩ v) V (λj=>if j=i then some #[u,v] else C j) R:=by
 subst hV
 obtain⟨hX,hB⟩:=h.2.1 i _ hi
 have hB1:=hB.set_ 0 u
 refine⟨(h.1.setCell (p:=⟨V i,0,none⟩) hX u).setCell (p:=⟨V i,1,none⟩) hX v,λj l hj=>?_,λj k hne hj hk=>?_,λq hq=>jC (jC (h.2.2.2 q hq) hB (i:=0) (u:=u) (by decide)) hB1 (i:=1) (u:=v) (by decide)⟩
 ·by_cases e:j=i
  ·simp only[if_pos e] at hj;injection hj with hj;subst hj;subst e;exact⟨hX,hB1.set_ 1 v⟩
  ·simp only[if_neg e] at hj
   obtain⟨g1,g2⟩:=h.2.1 j l hj
   have hne:V j≠V i:=h.2.2.1 j i e (by rw[hj];rfl) (by rw[hi];rfl)
   exact⟨g1,(g2.far (p:=⟨V i,0,none⟩) hne u).far (p:=⟨V i,1,none⟩) hne v⟩
 ·have hs:∀m,(if m=i then some #[u,v] else C m).isSome=true->(C m).isSome=true:=λm hm=>by
   by_cases e:m=i
   ·rw[e,hi];rfl
   ·rwa [if_neg e] at hm
  exact h.2.2.1 j k hne (hs j hj) (hs k hk)
theorem Lay.blk(h:Lay W0 W V C R)(i:Nat){X:Nat}{cs:Array Value}(hV:V i=X)(hC:C i=some cs):jh W X 24 cs:=hV▸(h.2.1 i _ hC).2
theorem Lay.keep{S:World->Prop}[Kept S](h:Lay W0 W V C R)(hS:S W0):S W:=Kept.keep _ _ hS h.1
end
theorem Lay.one {W0 W:World} {R:List (Sl×List (Int×Int))} (h:Below W0.heap.size W0 W) (hR:∀q∈R,zf3 0 q.1 q.2 W) (i:Nat) {X:Nat} (hX:W0.heap.size<=X) (hB:jh W X 24 jab5) :
  Lay W0 W (λk=>if k=i then X else 0) (λk=>if k=i then some jab5 else none) R:=(Lay.start h hR).add i X hX hB (λ_ _ h=>by cases h)
theorem Lay.two {W0 W:World} {R:List (Sl×List (Int×Int))} (h:Below W0.heap.size W0 W) (hR:∀q∈R,zf3 0 q.1 q.2 W) (i j:Nat) {X Y:Nat} (hX:W0.heap.size<=X) (hB:jh W X 24 jab5) (hY:W0.heap.size<=Y) (hB':jh W Y 24 jab5)
  (hne:(Value.pointer (some ⟨Y,0,none⟩))≠.pointer (some ⟨X,0,none⟩)):Lay W0 W (λk=>if k=j then Y else if k=i then X else 0) (λk=>if k=j then some jab5 else if k=i then some jab5 else none) R:=
 (Lay.one h hR i hX hB).add j Y hY hB' (λk cs hk=>by
  by_cases e:k=i
  ·simp only[if_pos e];intro h;exact hne (by rw[h])
  ·simp only[if_neg e] at hk;cases hk)
section
variable {P : Program} {Q : Exit → Act → World → Prop}
theorem jda1 {c:Code} {a:Act} {w:World} (ds:List Tmp) (R:(Tmp->Value)->World->Prop)
  (h1:∀v W,R v W->Q .normal (ds.foldl (λb d=>b.put (some d) (v d)) a) W)
  (h2:Hid (∀(a':Act) (W:World),R (λd=>a'.tmps.getD d undef) W->a'=ds.foldl (λb d=>b.put (some d) (a'.tmps.getD d undef)) a->Q .normal a' W)->c.wp P Q a w):c.wp P Q a w:=
 h2 (ja λa' W hR ha=>by rw[ha];exact h1 _ W hR)
end
theorem zf5 {α:Type} (enc:α->Value×Value) (A:Option Addr) (n c B gf:Nat) (lb:Array Value) (l:List α) (p:α->Bool) (w:World) (hR:Rd w B 2 A n c (jB (l.map enc))) (hB:B<=w.heap.size)
  (eg:∀args w,(callFunc gf args).run Tryz.prog w=.ok (.enter gf args) w)
  (hp:∀W x,x∈l->Below w.heap.size w W->Calls Tryz.prog gf (#[.agg #[(enc x).1,(enc x).2]]++lb) W λe W'=>e=.returned (.bool (p x))/\Below W.heap.size W W') :
  Calls Tryz.prog 129 #[.slice A n c,.func (.func gf) #[] lb] w λe w'=>e=.returned (.int .i64 (jf3 l p))/\Below w.heap.size w w':=by
 have hm:=hR.nmax
 obtain rfl:l.length=n:=by have:=qd hR;simpa using this
 have HP:=ja hp;clear hp
 have HR:=ja hR;clear hR
 go_enter Tryz.func129,Tryz.ntmps129
 go_wp2
 go_loopw [8] (λi W=>∃k:Nat,k<=l.length/\i=.int .i64 (k:Int)/\(∀j (h:j<l.length),j<k->p l[j]=false)/\Below w.heap.size w W) (λi _=>l.length-(intOf i).toNat)
 case atStart=>exact⟨0,by omega,rfl,λj _ h=>by omega,Below.refl _ _⟩
 case round=>
  obtain⟨k,hk,rfl,hno,hbl⟩:=hrel
  have HNO:=ja hno;clear hno
  have HB:=ja hbl;clear hbl
  by_cases hlt:k<l.length
  ·obtain⟨ad,rfl,hc0,hc1⟩:=zn1 (HR.o.below (HB.o.mono hB)) (i:=k) (by simpa using hlt)
   simp only[List.getElem_map] at hc0 hc1
   have HC:=ja (HP.o wr l[k] (by simp) HB.o)
   clear hB
   generalize hx:l[k]=x at *
   have HX:=ja hx;clear hx
   generalize (enc x).1=a at *
   generalize (enc x).2=b at *
   cases hpx:p x
   ·have HPX:=ja hpx;clear hpx
    go_wp2_with (first
     | (refine(HC.o).mono ?_;rintro e w1 ⟨rfl,hb1⟩;rw[HPX.o];have HB1:=ja hb1;clear hb1))
    go_roundw
    case rel=>exact⟨k+1,by omega,by go_num,λj h hj=>by
     rcases Nat.lt_or_ge j k with h1|h1
     ·exact HNO.o j h h1
     ·obtain rfl:j=k:=by omega
      rw[HX.o];exact HPX.o,Zy HB.o HB1.o HB.o.size⟩
    case measure=>simp[intOf];omega
   ·have HPX:=ja hpx;clear hpx
    go_wp2_with (first
     | (refine(HC.o).mono ?_;rintro e w1 ⟨rfl,hb1⟩;rw[HPX.o];have HB1:=ja hb1;clear hb1))
    go_ret
    exact⟨qK (jh9 hlt (by rw[HX.o];exact HPX.o) (λj h=>HNO.o j (by omega) h)).symm,Zy HB.o HB1.o HB.o.size⟩
  ·obtain rfl:k=l.length:=by omega
   go_wp2
   go_ret
   exact⟨qK (jh8 (λj h=>HNO.o j h h)).symm,HB.o⟩
theorem qR {α:Type} (enc:α->Value×Value) (A:Option Addr) (n c B gf:Nat) (lb:Array Value) (l:List α) (p:α->Bool) (w:World) (hR:Rd w B 2 A n c (jB (l.map enc))) (hB:B<=w.heap.size)
  (eg:∀args w,(callFunc gf args).run Tryz.prog w=.ok (.enter gf args) w)
  (hp:∀W x,x∈l->Below w.heap.size w W->Calls Tryz.prog gf (#[.agg #[(enc x).1,(enc x).2]]++lb) W λe W'=>e=.returned (.bool (p x))/\Below W.heap.size W W') :
  Calls Tryz.prog 74 #[.slice A n c,.func (.func gf) #[] lb] w λe w'=>e=.returned (.bool (l.any p))/\Below w.heap.size w w':=by
 have H:=ja (zf5 enc A n c B gf lb l p w hR hB eg hp)
 have HI:=ja (js3 l p)
 clear hR hB eg hp
 generalize jf3 l p=i at *
 generalize l.any p=r at *
 go_enter Tryz.func74,Tryz.ntmps74
 go_wp2_with fail
 refine H.o.mono ?_
 rintro e w' ⟨rfl,hb⟩
 have HB:=ja hb;clear hb
 go_wp2
 all_goals go_ret
 all_goals refine⟨?_,HB.o⟩
 all_goals rw[<-HI.o];rfl
open Go
theorem jag5{n:Nat}{P:Program}{o:Oper}{a:Act}{K:Act->World->Prop}{Q:Exit->Act->World->Prop}{l:Nat}{r:Result Next}(h:o.uponIn Fence.wide n P a K Q r):o.uponIn (Fence.wide.inRound l) n P a K Q r:=by
 cases r with
 | ok x w'=>cases x<;>exact h
 | halt x w'=>cases x<;>exact h
def jt1(ops:Array Oper):Bool:=ops.all λo=>match o.op with|.defer _=>false|_=>true
theorem jaf4{ops:Array Oper}(h:jt1 ops=true){j:Nat}{o:Oper}(hj:ops[j]?=some o)(c:Call):o.op≠.defer c:=by
 intro e
 unfold jt1 at h
 rw[Array.all_eq_true] at h
 obtain⟨hlt,rfl⟩:=Array.getElem?_eq_some_iff.1 hj
 have:=h j hlt
 rw[e] at this
 simp at this
theorem jag9 {n:Nat} {P:Program} {ops:Array Oper} {K:Act->World->Prop} {Q:Exit->Act->World->Prop} {i:Nat} {a:Act} {w:World} {l:Nat} (hnd:jt1 ops=true)
  (h:wpOpIn Fence.wide n P ops Q i K a w):wpOpIn (Fence.wide.inRound l) n P ops Q i K a w:=by
 unfold wpOpIn at *
 split
 ·rename_i hn;simp only[hn] at h;exact h
 ·rename_i o ho
  simp only[ho] at h
  split
  ·rename_i hw
   simp only[hw,if_true] at h
   unfold Oper.wpIn at *
   refine⟨h.1,?_⟩
   have h2:=h.2
   rw[Oper.semAt_plain _ _ _ (jaf4 hnd ho)] at h2 ⊢
   exact jag5 h2
  ·rename_i hw
   simp only[hw] at h
   exact h
theorem jm6{n:Nat}{P:Program}{ops:Array Oper}{Q:Exit->Act->World->Prop}{md:Region.Mode}{l:Nat}(hnd:jt1 ops=true):∀(fuel:Nat) (listed:Array Bool) (a:Act) (w:World),
  wpAnyIn Fence.wide n P md ops Q fuel listed a w->wpAnyIn (Fence.wide.inRound l) n P md ops Q fuel listed a w
 | 0,_,_,_,h=>h
 | fuel+1,listed,a,w,h=>⟨h.1,λi hi=>jag9 hnd (wpOpIn_mono (λa w h=>jm6 hnd fuel _ a w h) (h.2 i hi))⟩
theorem jv6 {n id:Nat} {P:Program} {ops:Array Oper} {Q:Exit->Act->World->Prop} {l:Nat} {a:Act} {w:World} (hm:P.follows .mixedOrders=true) (hnd:jt1 ops=true)
  (h:wpAnyIn Fence.wide n P .any ops Q ops.size (Array.replicate ops.size false) a w.drew):(Code.region id ops true).wpIn (Fence.wide.inRound l) n P Q a w:=
 wpIn_region_any hm (jm6 hnd _ _ _ _ h)
def VrQ(X:Nat)(d:Int)(A:Option Addr)(n c:Nat)(ts:List (Int×Int))(W:World):Prop:=jh W X 24 #[.int .i64 d,.slice A n c]/\∃B,B<=W.heap.size/\jJ W B A n c ts
instance {X:Nat}{d:Int}{A:Option Addr}{n c:Nat}{ts:List (Int×Int)}:Kept (VrQ X d A n c ts):=⟨λ_ _ h hb=>⟨h.1.below hb h.1.lt,h.2.elim λB h2=>⟨B,Nat.le_trans h2.1 hb.size,Rq.below h2.2 (hb.mono h2.1)⟩⟩⟩
theorem VrQ.read{X:Nat}{d:Int}{A:Option Addr}{n c:Nat}{ts:List (Int×Int)}{W:World}(h:VrQ X d A n c ts W):jJ W W.heap.size A n c ts:=by
 obtain⟨_,B,hB,h2⟩:=h
 exact Rq.more h2 hB
theorem VrQ.new{W:World}{d:Int}{A:Option Addr}{n c:Nat}{ts:List (Int×Int)}(h:jJ W W.heap.size A n c ts):VrQ W.heap.size d A n c ts (W.alloc (.cells #[.int .i64 d,.slice A n c] 24)):=⟨jh.new W _ _,W.heap.size,by simp,Rq.alloc h (Nat.le_refl _) _⟩
def jby8(x:Int×Sl):Value×Value:=(.int .i64 x.1,.slice x.2.1 x.2.2.1 x.2.2.2)
def jav3(l:List (Int×Sl)):Bool:=l.any λx=>decide (8<x.2.2.1)
theorem jan4 (A:Option Addr) (n c B:Nat) (l:List (Int×Sl)) (w:World) (hR:Rq w B 2 A n c (jB (l.map jby8))) :
  Calls Tryz.prog 7 #[.slice A n c] w λe w'=>e=.returned (.bool (jav3 l))/\w'=w:=by
 have hl:l.length=n:=by
  have h1:=hR.1
  rw[Jj,List.length_map] at h1
  omega
 subst hl
 have hn:=hR.nmax
 have HR:=ja hR
 clear hR
 go_enter Tryz.func7,Tryz.ntmps7
 go_wp2
 go_loopw [3] (λi W=>∃(k:Nat),k<=l.length/\i=.int .i64 k/\(∀j (hj:j<l.length),j<k->¬8<l[j].2.2.1)/\W=w) (λi _=>l.length-(intOf i).toNat)
 case atStart=>exact⟨0,by omega,rfl,λj _ hj=>by omega,rfl⟩
 case round=>
  obtain⟨k,hk,rfl,hpre,rfl⟩:=hrel
  have HPRE:=ja hpre
  clear hpre
  by_cases hkl:(k:Int)<(l.length:Int)
  ·have hk1:k<l.length:=by omega
   obtain⟨ad,rfl,-,ha0,ha1⟩:=jbc8 HR.o (i:=k) (by simpa using hk1)
   simp only[List.getElem_map,jby8] at ha1
   clear ha0
   by_cases h10:8<(l[k].2.2.1:Int)
   ·have HL:Hid (jav3 l=true):=ja (List.any_eq_true.2 ⟨l[k],List.getElem_mem hk1,decide_eq_true (show 8<l[k].2.2.1 by omega)⟩)
    go_wp2
    go_ret
    exact⟨by rw[HL.o];rfl,rfl⟩
   ·have HN:=ja (show ∀j (hj:j<l.length),j<k+1->¬8<l[j].2.2.1 from λj hj h=>by
     rcases Nat.lt_or_ge j k with h5|h5
     ·exact HPRE.o j hj h5
     ·obtain rfl:j=k:=by omega
      omega)
    go_wp2
    exact⟨⟨k+1,by omega,by go_num,HN.o,by trivial⟩,by simp[intOf];omega⟩
  ·obtain rfl:k=l.length:=by omega
   have HL:Hid (jav3 l=false):=ja (List.any_eq_false.2 λp hp=>by
    obtain⟨j,hj,rfl⟩:=List.mem_iff_getElem.1 hp
    have h5:=HPRE.o j hj hj
    simpa using h5)
   go_wp2
   go_ret
   exact⟨by rw[HL.o];rfl,rfl⟩
structure PieceV where
 minus:Bool
 A:Option Addr
 n:Nat
 c:Nat
 ms:List Int
def PieceV.enc(p:PieceV):Value×Value:=(.bool p.minus,.slice p.A p.n p.c)
def PieceV.At(p:PieceV)(w:World)(B:Nat):Prop:=qP w B p.A p.n p.c p.ms
def qC(m:Int):Bool:=zz m 2 1000
def PieceV.ok(p:PieceV):Bool:=zz p.ms.length 1 6&&p.ms.all qC
def jD(w:World)(B:Nat)(A:Option Addr)(n c:Nat)(l:List PieceV):Prop:=Rd w B 2 A n c (jB (l.map PieceV.enc))/\∀p∈l,p.At w B
def PieceV.flat(p:PieceV):Bool×List Int:=(p.minus,p.ms)
def jj3(p:Bool×List Int):Bool:=zz p.2.length 1 6&&p.2.all qC
def ZO(wh:Int)(l:List (Bool×List Int)):Bool:=zz wh 0 1000&&decide (l.length<=8)&&l.all jj3
section
variable {w w' : World} {B B' n c : Nat} {A : Option Addr} {l : List PieceV}
theorem jD.len(h:jD w B A n c l):l.length=n:=by have:=qd h.1;simpa using this
theorem jD.below(h:jD w B A n c l)(hb:Below B w w'):jD w' B A n c l:=⟨h.1.below hb,λp hp=>Rd.below (h.2 p hp) hb⟩
theorem jD.more(h:jD w B A n c l)(hB:B<=B'):jD w B' A n c l:=⟨h.1.more hB,λp hp=>Rd.more (h.2 p hp) hB⟩
theorem jD.alloc(h:jD w B A n c l)(hB:B<=w.heap.size)(o:Obj):jD (w.alloc o) B A n c l:=⟨h.1.alloc hB o,λp hp=>Rd.alloc (h.2 p hp) hB o⟩
theorem jD.at_(h:jD w B A n c l){i:Nat}(hi:i<l.length):∃ad:Addr,A=some ad/\w.cell? (ad.add (i*2))=some (.bool l[i].minus)/\w.cell? ⟨(ad.add (i*2)).block,(ad.add (i*2)).off+1,none⟩=some (.slice l[i].A l[i].n l[i].c):=by
 obtain⟨ad,e,h1,h2⟩:=zn1 h.1 (i:=i) (by simpa using hi)
 simp only[List.getElem_map] at h1 h2
 exact⟨ad,e,h1,h2⟩
end
theorem jN(a b c:Int)(w:World):Calls Tryz.prog 54 #[.int .i64 a,.int .i64 b,.int .i64 c] w λe w'=>e=.returned (.bool (zz a b c))/\w'=w:=by
 unfold zz
 go_enter Tryz.func54,Tryz.ntmps54
 go_wp2
 all_goals go_ret
 ·simp[*]
 ·have h:¬b<=a:=by omega
  simp[h]
theorem jay5(m:Int)(w:World):Calls Tryz.prog 120 #[.int .i64 m] w λe w'=>e=.returned (.bool (qC m))/\w'=w:=by
 have HW:=ja (jN m 2 1000 w)
 unfold qC
 generalize zz m 2 1000=r at *
 go_enter Tryz.func120,Tryz.ntmps120
 go_wp2_with fail
 refine HW.o.mono ?_
 rintro e w1 ⟨rfl,hw⟩
 subst w1
 go_wp2
 go_ret
 exact⟨rfl,rfl⟩
theorem zs5 (A:Option Addr) (n c B gf:Nat) (lb:Array Value) (l:List Int) (p:Int->Bool) (w:World) (hR:qP w B A n c l) (hB:B<=w.heap.size)
  (eg:∀args w,(callFunc gf args).run Tryz.prog w=.ok (.enter gf args) w)
  (hp:∀W x,x∈l->Below w.heap.size w W->Calls Tryz.prog gf (#[.int .i64 x]++lb) W λe W'=>e=.returned (.bool (p x))/\Below W.heap.size W W') :
  Calls Tryz.prog 153 #[.slice A n c,.func (.func gf) #[] lb] w λe w'=>e=.returned (.int .i64 (jf3 l p))/\Below w.heap.size w w':=by
 have hm:=hR.nmax
 obtain rfl:l.length=n:=hR.len
 have HP:=ja hp;clear hp
 have HR:=ja hR;clear hR
 go_enter Tryz.func153,Tryz.ntmps153
 go_wp2
 go_loopw [8] (λi W=>∃k:Nat,k<=l.length/\i=.int .i64 (k:Int)/\(∀j (h:j<l.length),j<k->p l[j]=false)/\Below w.heap.size w W) (λi _=>l.length-(intOf i).toNat)
 case atStart=>exact⟨0,by omega,rfl,λj _ h=>by omega,Below.refl _ _⟩
 case round=>
  obtain⟨k,hk,rfl,hno,hbl⟩:=hrel
  have HNO:=ja hno;clear hno
  have HB:=ja hbl;clear hbl
  by_cases hlt:k<l.length
  ·obtain⟨ad,rfl,hc0⟩:=(show qP wr B A l.length c l from HR.o.below (HB.o.mono hB)).at_ hlt
   have HC:=ja (HP.o wr l[k] (by simp) HB.o)
   clear hB
   generalize hx:l[k]=x at *
   have HX:=ja hx;clear hx
   cases hpx:p x
   ·have HPX:=ja hpx;clear hpx
    go_wp2_with (first
     | (refine(HC.o).mono ?_;rintro e w1 ⟨rfl,hb1⟩;rw[HPX.o];have HB1:=ja hb1;clear hb1))
    go_roundw
    case rel=>exact⟨k+1,by omega,by go_num,λj h hj=>by
     rcases Nat.lt_or_ge j k with h1|h1
     ·exact HNO.o j h h1
     ·obtain rfl:j=k:=by omega
      rw[HX.o];exact HPX.o,Zy HB.o HB1.o HB.o.size⟩
    case measure=>simp[intOf];omega
   ·have HPX:=ja hpx;clear hpx
    go_wp2_with (first
     | (refine(HC.o).mono ?_;rintro e w1 ⟨rfl,hb1⟩;rw[HPX.o];have HB1:=ja hb1;clear hb1))
    go_ret
    exact⟨qK (jh9 hlt (by rw[HX.o];exact HPX.o) (λj h=>HNO.o j (by omega) h)).symm,Zy HB.o HB1.o HB.o.size⟩
  ·obtain rfl:k=l.length:=by omega
   go_wp2
   go_ret
   exact⟨qK (jh8 (λj h=>HNO.o j h h)).symm,HB.o⟩
theorem jy4 (A:Option Addr) (n c B gf:Nat) (lb:Array Value) (l:List Int) (p:Int->Bool) (w:World) (hR:qP w B A n c l) (hB:B<=w.heap.size)
  (eg:∀args w,(callFunc gf args).run Tryz.prog w=.ok (.enter gf args) w)
  (hp:∀W x,x∈l->Below w.heap.size w W->Calls Tryz.prog gf (#[.int .i64 x]++lb) W λe W'=>e=.returned (.bool (p x))/\Below W.heap.size W W') :
  Calls Tryz.prog 122 #[.slice A n c,.func (.func gf) #[] lb] w λe w'=>e=.returned (.bool (l.any p))/\Below w.heap.size w w':=by
 have H:=ja (zs5 A n c B gf lb l p w hR hB eg hp)
 have HI:=ja (js3 l p)
 clear hR hB eg hp
 generalize jf3 l p=i at *
 generalize l.any p=r at *
 go_enter Tryz.func122,Tryz.ntmps122
 go_wp2_with fail
 refine H.o.mono ?_
 rintro e w' ⟨rfl,hb⟩
 have HB:=ja hb;clear hb
 go_wp2
 all_goals go_ret
 all_goals refine⟨?_,HB.o⟩
 all_goals rw[<-HI.o];rfl
theorem jaj5 (m:Int) (b:Nat) (w:World) (hc:w.cell? ⟨b,0,none⟩=some (.func (.func 120) #[] #[])) :
  Calls Tryz.prog 123 #[.int .i64 m,.pointer (some ⟨b,0,none⟩)] w λe w'=>e=.returned (.bool (!qC m))/\w'=w:=by
 have HC:=ja (jay5 m w)
 generalize qC m=r at *
 go_enter Tryz.func123,Tryz.ntmps123
 go_wp2_with fail
 refine HC.o.mono ?_
 rintro e w1 ⟨rfl,hw⟩
 subst w1
 go_wp2
 go_ret
 exact⟨rfl,rfl⟩
theorem jay6 (p:PieceV) (b B:Nat) (w:World) (hp:p.At w B) (hB:B<=w.heap.size) (hc:w.cell? ⟨b,0,none⟩=some (.func (.func 120) #[] #[])) (hb:b<w.heap.size) :
  Calls Tryz.prog 121 #[.agg #[.bool p.minus,.slice p.A p.n p.c],.pointer (some ⟨b,0,none⟩)] w λe w'=>e=.returned (.bool (!p.ok))/\Below w.heap.size w w':=by
 obtain⟨mi,A,n,c,ms⟩:=p
 have hl:ms.length=n:=qP.len hp
 subst hl
 have hcm:=Rd.nmax hp
 have HCF:=ja (jy4 A ms.length c B 123 #[.pointer (some ⟨b,0,none⟩)] ms (λm=>!qC m) (w.alloc (.cells #[.bool mi,.slice A ms.length c] 94)) (Rd.alloc hp hB _) (by simp;omega)
  (λargs w=>enters_of Tryz.func123 (by kernel_rfl) rfl args w) (λW x _ hW=>(jaj5 x b W ((hW.cell (p:=⟨b,0,none⟩) (by simp;omega)).trans ((World.cell?_alloc_lt _ _ _ hb).trans hc))).mono (by rintro e w1 ⟨rfl,h⟩;subst h;exact⟨rfl,Below.refl _ _⟩)))
 have HAN:=ja (show(ms.any λm=>!qC m)=!ms.all qC by rw[List.all_eq_not_any_not];simp)
 have HOK:Hid (PieceV.ok ⟨mi,A,ms.length,c,ms⟩=(zz ms.length 1 6&&ms.all qC)):=ja rfl
 have HW:=ja (λW=>jN ms.length 1 6 W)
 have HBL:=ja ((Below.refl w.heap.size w).alloc (Nat.le_refl _) (.cells #[.bool mi,.slice A ms.length c] 94))
 rw[HAN.o] at HCF
 clear hp HAN
 generalize ms.all qC=r at *
 cases hin:zz ms.length 1 6
 ·rw[hin] at HW HOK
  clear hin HCF
  go_enter Tryz.func121,Tryz.ntmps121
  go_wp2_with (first
   | (go_at_call 54;refine(HW.o _).mono ?_;rintro e w1 ⟨rfl,hw⟩;subst w1))
  go_ret
  exact⟨by rw[HOK.o];rfl,HBL.o⟩
 ·rw[hin] at HW HOK
  clear hin
  go_enter Tryz.func121,Tryz.ntmps121
  go_wp2_with (first
   | (go_at_call 54;refine(HW.o _).mono ?_;rintro e w1 ⟨rfl,hw⟩;subst w1)
   | (go_at_call 122;refine HCF.o.mono ?_;rintro e w1 ⟨rfl,hb1⟩;have HB1:=ja hb1;clear hb1))
  go_ret
  exact⟨by rw[HOK.o];cases r<;>rfl,HBL.o.trans (HB1.o.mono (by simp))⟩
theorem Zi (wh:Int) (A:Option Addr) (n c B:Nat) (l:List PieceV) (w:World) (hp:jD w B A n c l) (hB:B<=w.heap.size) :
  Calls Tryz.prog 71 #[.agg #[.int .i64 wh,.slice A n c]] w λe w'=>e=.returned (.int .i64 (QK (ZO wh (l.map PieceV.flat))))/\Below w.heap.size w w':=by
 have hl:=hp.len
 subst hl
 have hnm:=hp.1.nmax
 have HBa:Hid (Below w.heap.size w ((w.alloc (.cells #[.int .i64 wh,.slice A l.length c] 43)).alloc (.cells #[.func (.func 120) #[] #[]] 123))):=ja (((Below.refl w.heap.size w).alloc (Nat.le_refl _) _).alloc (by simp) _)
 have HCF:=ja (qR PieceV.enc A l.length c B 121 #[.pointer (some ⟨w.heap.size+1,0,none⟩)] l (λp=>!p.ok) ((w.alloc (.cells #[.int .i64 wh,.slice A l.length c] 43)).alloc (.cells #[.func (.func 120) #[] #[]] 123))
  ((hp.1.alloc hB _).alloc (by simp;omega) _) (by simp;omega) (λargs w=>enters_of Tryz.func121 (by kernel_rfl) rfl args w) (λW x hx hW=>by
   have h1:=ZG.new (w.alloc (.cells #[.int .i64 wh,.slice A l.length c] 43)) 123 (.func (.func 120) #[] #[])
   rw[World.size_alloc] at h1
   have hz:=hW.size
   simp only[World.size_alloc] at hz hW
   exact jay6 x (w.heap.size+1) B W (Rd.below (Rd.alloc (Rd.alloc (hp.2 x hx) hB _) (by simp;omega) _) (hW.mono (by omega))) (by omega) (h1.below hW (by omega)).cell (by omega)))
 have HAN:=ja (show(l.any λp=>!p.ok)=!(l.map PieceV.flat).all jj3 by
  rw[List.all_eq_not_any_not,List.any_map];simp[Function.comp_def,PieceV.ok,jj3,PieceV.flat])
 rw[HAN.o] at HCF
 have HOK:Hid (ZO wh (l.map PieceV.flat)=(zz wh 0 1000&&decide (l.length<=8)&&(l.map PieceV.flat).all jj3)):=ja (by unfold ZO;rw[List.length_map])
 have HW:=ja (λW=>jN wh 0 1000 W)
 clear hp HAN
 generalize (l.map PieceV.flat).all jj3=r at *
 cases hin:zz wh 0 1000
 ·rw[hin] at HW HOK
  clear hin HCF
  go_enter Tryz.func71,Tryz.ntmps71
  go_wp2_with (first
   | (go_at_call 54;refine(HW.o _).mono ?_;rintro e w1 ⟨rfl,hw⟩;subst w1))
  go_ret
  exact⟨by rw[HOK.o];rfl,HBa.o⟩
 ·rw[hin] at HW HOK
  clear hin
  by_cases h8:l.length<=8
  ·have h8':decide (8<(l.length:Int))=false:=by simp;omega
   rw[decide_eq_true h8] at HOK
   go_enter Tryz.func71,Tryz.ntmps71
   go_wp2_with (first
    | (go_at_call 54;refine(HW.o _).mono ?_;rintro e w1 ⟨rfl,hw⟩;subst w1)
    | (go_at_call 74;refine HCF.o.mono ?_;rintro e w1 ⟨rfl,hb1⟩;have HB1:=ja hb1;clear hb1))
   all_goals go_ret
   all_goals refine⟨?_,HBa.o.trans (HB1.o.mono (by simp;omega))⟩
   all_goals rw[HOK.o]
   all_goals (cases r<;>simp_all[QK])
  ·have h8':(8:Int)<(l.length:Int):=by omega
   rw[decide_eq_false h8] at HOK
   clear HCF
   go_enter Tryz.func71,Tryz.ntmps71
   go_wp2_with (first
    | (go_at_call 54;refine(HW.o _).mono ?_;rintro e w1 ⟨rfl,hw⟩;subst w1))
   go_ret
   exact⟨by rw[HOK.o];rfl,HBa.o⟩
