import Derived.Test.YtphcodcdfeohhaaGreatDoorCordCToCordF
import Derived.Test.YtphcodcdfeohhaaGreatDoorFlowToNumK
import Derived.OrdersIn
set_option linter.all false
namespace Go.Proofs.YtphcodcdfeohhaaGreatDoor
set_option maxRecDepth 100000
set_option maxHeartbeats 2000000
open Go.RowKit
theorem ZJ(num den:Int)(w:World):Calls Tryz.prog 55 #[.int .i64 num,.int .i64 den] w (QY w (den,[(num,1)])):=by
 have HO1:=ja (λx:Array Value=>(show((w.alloc (.cells x 24)).alloc (.cells #[.int .i64 num,.int .i64 1] 59)).ownsRow (w.heap.size+1) 59 2 (.slice (some ⟨w.heap.size+1,0,none⟩) 1 1) 1 (jr [(num,1)]) by
  have h:=World.ownsRow_lit (base:=w.heap.size+1) (e:=59) (size:=2) (w.alloc (.cells x 24)) #[.int .i64 num,.int .i64 1] 1 (by simp) (by unfold maxLen;omega) rfl
  rw[World.size_alloc] at h
  exact h))
 go_enter Tryz.func55,Tryz.ntmps55
 go_wp2
 refine Ji (p:=4) (ty:=24) rfl rfl ((jh.new w _ _).alloc _) (d:=_) rfl Tryz.underlying24 Tryz.sizeNumber rfl ?_
 exact⟨_,_,_,rfl,jO (HO1.o _) (by omega),((Below.refl w.heap.size w).alloc (Nat.le_refl _) _).alloc (by simp) _⟩
theorem jk3(n:Int)(w:World):Calls Tryz.prog 50 #[.int .i64 n] w (QY w (jI n)):=by
 have HR0:=ja (jh.new w 24 #[.int .i64 0,.slice none 0 0])
 have HB0:=ja ((Below.refl w.heap.size w).alloc (Nat.le_refl _) (.cells #[.int .i64 0,.slice none 0 0] 24))
 obtain⟨q1,q2,q3,q4⟩:=HR0.o.two
 by_cases h0:n=0
 ·subst h0
  have HW:Hid (jI 0=(1,[])):=ja rfl
  go_enter Tryz.func50,Tryz.ntmps50
  go_wp2
  refine Ji (p:=2) (ty:=24) rfl rfl (jh.new w _ _) (d:=_) rfl Tryz.underlying24 Tryz.sizeNumber rfl ?_
  rw[HW.o]
  exact⟨none,0,0,rfl,⟨rfl,.inl ⟨rfl,rfl⟩⟩,(Below.refl w.heap.size w).alloc (Nat.le_refl _) _⟩
 ·have HW:=ja (show jI n=(1,[(n,1)])from if_neg h0)
  have hne:(n==0)=false:=beq_eq_false_iff_ne.2 h0
  have HF:=ja (ZJ n 1 (w.alloc (.cells #[.int .i64 0,.slice none 0 0] 24)))
  go_enter Tryz.func50,Tryz.ntmps50
  go_wp2_with (first
   | (go_at_call 55;refine HF.o.mono ?_;rintro e w1 ⟨A,n1,c1,rfl,ho,hb⟩
      (try simp only[World.size_alloc] at hb ho)
      have HR1:=ja (HR0.o.below hb (by omega))
      have HB1:=ja (HB0.o.trans (hb.mono (by omega)))
      obtain⟨u1,u2,u3,u4⟩:=HR1.o.two
      have HO:=ja ho
      clear hb ho))
  refine Ji (p:=2) (ty:=24) rfl rfl ((HR1.o.set_ 0 _).set_ 1 _) (d:=_) rfl Tryz.underlying24 Tryz.sizeNumber rfl ?_
  rw[HW.o]
  exact⟨A,n1,c1,rfl,jO (ownsRow_setCell_below (ownsRow_setCell_below HO.o (by show w.heap.size<_;omega) _) (by show w.heap.size<_;omega) _) (by omega),(HB1.o.setCell (by show _<=w.heap.size;omega) _).setCell (by show _<=w.heap.size;omega) _⟩
theorem jbf3 (p:PieceV) (B:Nat) (w:World) (hp:p.At w B) (hB:B<=w.heap.size) (hm:∀m∈p.ms,0<=m/\m<=1000) :
  Calls Tryz.prog 75 #[.agg #[.bool p.minus,.slice p.A p.n p.c]] w λe w'=>e=.returned (.bool (zJ 1 p.ms==0))/\Below w.heap.size w w':=by
 obtain⟨mi,A,n,c,ms⟩:=p
 have HP:=ja (qz A n c B ms (w.alloc (.cells #[.bool mi,.slice A n c] 94)) (Rd.alloc hp hB _) hm)
 have HB0:=ja ((Below.refl w.heap.size w).alloc (Nat.le_refl _) (.cells #[.bool mi,.slice A n c] 94))
 clear hp hm
 dsimp only
 generalize zJ 1 ms=r at *
 go_enter Tryz.func75,Tryz.ntmps75
 go_wp2_with (first
  | (go_at_call 76;refine HP.o.mono ?_;rintro e w1 ⟨rfl,hw⟩;subst w1))
 all_goals go_ret
 all_goals exact⟨by simp[*],HB0.o⟩
theorem jz6 (xd:Int) (A:Option Addr) (n c B:Nat) (xt:List (Int×Int)) (w:World) (hx:ji w B A n c xt) (hB:B<=w.heap.size) :
  Calls Tryz.prog 53 #[.agg #[.int .i64 xd,.slice A n c]] w λe w'=>e=.returned (.tuple #[.int .i64 (jn xd xt).1,.int .i64 (jn xd xt).2.1,.bool (jn xd xt).2.2])/\Below w.heap.size w w':=by
 have hl:=hx.len
 have hcm:=hx.nmax
 have HXa:=ja (jh.new w 24 #[.int .i64 xd,.slice A n c])
 have HTa:Hid (ji (w.alloc (.cells #[.int .i64 xd,.slice A n c] 24)) B A n c xt):=ja (Rd.alloc hx hB _)
 have HBa:=ja ((Below.refl w.heap.size w).alloc (Nat.le_refl _) (.cells #[.int .i64 xd,.slice A n c] 24))
 clear hx
 rcases xt with _|⟨⟨co,ro⟩,_|⟨u,ts⟩⟩
 ·have HP:Hid (jn xd []=(0,1,true)):=ja rfl
  obtain rfl:n=0:=by simpa using hl.symm
  obtain⟨q1,q2,_,_⟩:=HXa.o.two
  clear hl HTa HXa
  go_enter Tryz.func53,Tryz.ntmps53
  go_wp2
  go_ret3
  rw[HP.o]
  exact⟨rfl,HBa.o⟩
 ·obtain⟨ad,had,hc0,hc1⟩:=HTa.o.at_ (i:=0) (by simp)
  obtain rfl:n=1:=by simpa using hl.symm
  subst had
  obtain⟨q1,q2,_,_⟩:=HXa.o.two
  simp only[Nat.zero_mul,List.getElem_cons_zero,zv6] at hc0 hc1
  by_cases hr:ro=1
  ·subst hr
   have HP:Hid (jn xd [(co,1)]=(co,xd,true)):=ja (by unfold jn;simp)
   have HBd:=ja (λq=>jp HBa.o q)
   clear hl HTa HXa
   go_enter Tryz.func53,Tryz.ntmps53
   go_wp2
   generalize w.alloc (.cells #[.int .i64 xd,.slice (some ad) 1 c] 24)=wa at *
   go_region_held3 (λw'=>w'.cell? ⟨w.heap.size,0,none⟩=some (.int .i64 xd)/\w'.cell? ⟨w.heap.size,1,none⟩=some (.slice (some ad) 1 c)/\w'.cell? ad=some (.int .i64 co)) (exact⟨q1,q2,hc0⟩) (fail)
   all_goals
    go_wp2
    go_ret3
    rw[HP.o]
    exact⟨rfl,HBd.o 1⟩
  ·have HP:Hid (jn xd [(co,ro)]=(0,0,false)):=ja (by unfold jn;exact if_neg hr)
   have hrn:(ro !=1)=true:=by simpa using hr
   clear hl HTa HXa
   go_enter Tryz.func53,Tryz.ntmps53
   go_wp2
   go_ret3
   rw[HP.o]
   exact⟨rfl,HBa.o⟩
 ·have HP:Hid (jn xd ((co,ro)::u::ts)=(0,0,false)):=ja rfl
  have hl2:(1:Int)<(n:Int):=by simp at hl;omega
  have hl0:((n:Int)==0)=false:=beq_eq_false_iff_ne.2 (by omega)
  obtain⟨q1,q2,_,_⟩:=HXa.o.two
  clear HTa hl HXa
  go_enter Tryz.func53,Tryz.ntmps53
  go_wp2
  go_ret3
  rw[HP.o]
  exact⟨rfl,HBa.o⟩
theorem jar6 (d:Int) (A:Option Addr) (n c B:Nat) (ts:List (Int×Int)) (w:World) (hq:jJ w B A n c ts) (hB:B<=w.heap.size) (hn:n<=1000) :
  Calls Tryz.prog 10 #[.agg #[.int .i64 d,.slice A n c]] w (QY w (d,ts)):=by
 obtain rfl:=hq.len
 obtain⟨i1,hi1,hy0,hy1,hy2⟩:=info_parts Tryz.infoTerm
 obtain⟨w0,hw0⟩:∃w0,w0=(w.alloc (.cells #[.int .i64 d,.slice A ts.length c] 24)).alloc (.cells #[.int .i64 0,.slice none 0 0] 24):=⟨_,rfl⟩
 have hz0:w0.heap.size=w.heap.size+2:=by rw[hw0];simp
 have HX0:Hid (jh w0 w.heap.size 24 #[.int .i64 d,.slice A ts.length c]):=ja (by rw[hw0];exact(jh.new w _ _).alloc _)
 have HR0:Hid (jh w0 (w.heap.size+1) 24 #[.int .i64 0,.slice none 0 0]):=ja (by
  rw[hw0]
  have h:=jh.new (w.alloc (.cells #[.int .i64 d,.slice A ts.length c] 24)) 24 #[.int .i64 0,.slice none 0 0]
  rwa [World.size_alloc] at h)
 have HB0:Hid (Below w.heap.size w w0):=ja (by rw[hw0];exact((Below.refl _ _).alloc (Nat.le_refl _) _).alloc (by simp) _)
 have HL0:Hid ((w0.alloc (.cells #[] 59)).ownsRow (w.heap.size+2) 59 2 (.slice (some ⟨w.heap.size+2,0,none⟩) 0 0) 0 []):=ja (by
  have h:=World.ownsRow_lit (base:=w.heap.size+2) (e:=59) (size:=2) w0 #[] 0 (by omega) (by unfold maxLen;omega) rfl
  rwa [hz0] at h)
 have HX1:=ja (HX0.o.alloc (.cells #[] 59));have HR1:=ja (HR0.o.alloc (.cells #[] 59));have HB1:=ja (HB0.o.alloc (by omega) (.cells #[] 59))
 have HQ1:=ja (Rq.alloc (Rq.below hq (HB0.o.mono hB)) (show B<=w0.heap.size by omega) (.cells #[] 59))
 clear hq
 go_enter Tryz.func10,Tryz.ntmps10
 go_upto_region 1 with fail
 rw[<-hw0]
 clear hw0
 obtain⟨x0,x1,xf0,xf1⟩:=HX1.o.two
 go_wp2_with (first
  | (at_builtin;refine Zt rfl _ _ 22 rfl (w.heap.size+2) 59 i1 (.agg #[.int .i64 0,.int .i64 0]) 2 16 Tryz.underlying22 hi1 hy0 hy1 hy2 rfl (by decide) (.slice (some ⟨w.heap.size+2,0,none⟩) 0 0) 0 [] rfl HL0.o A ts.length c B (jr ts) rfl HQ1.o (jay3 ts) (by unfold maxLen;omega) (by omega) (by simp;omega) ?_
     intro A3 c3 w3 ho3 hg3
     have hne:∀j,(Value.slice (some ⟨w.heap.size+2,0,none⟩) 0 0).ownBlock=some j->w.heap.size+2<=j:=λj e=>(HL0.o.lt j e).1
     have HO3:Hid (w3.ownsRow (w.heap.size+2) 59 2 (.slice A3 ts.length c3) ts.length (jr ts)):=ja (by simpa using ho3)
     have HX3:=ja (HX1.o.grown hg3 (λe=>by have:=hne _ e;omega));have HR3:=ja (HR1.o.grown hg3 (λe=>by have:=hne _ e;omega));have HB3:=ja (HB1.o.grown hg3 (by simp;omega) (λj e=>by have:=hne j e;omega))
     obtain⟨x0,x1,xf0,xf1⟩:=HX3.o.two
     obtain⟨r0,r1,rf0,rf1⟩:=HR3.o.two
     rw[Nat.zero_add]
     clear ho3 hg3 hne))
 refine Ji (p:=2) (ty:=24) rfl rfl (((HR3.o.far (p:=⟨w.heap.size,1,none⟩) (by simp) _).set_ 0 _).set_ 1 _) (d:=_) rfl Tryz.underlying24 Tryz.sizeNumber rfl ?_
 exact⟨A3,ts.length,c3,rfl,jO (ownsRow_setCell_below (ownsRow_setCell_below (ownsRow_setCell_below HO3.o (by show w.heap.size<_;omega) _) (by show w.heap.size+1<_;omega) _) (by show w.heap.size+1<_;omega) _) (by omega),
  Below.setCell (Below.setCell (Below.setCell HB3.o (p:=⟨w.heap.size,1,none⟩) (Nat.le_refl _) _) (p:=⟨w.heap.size+1,0,none⟩) (by show w.heap.size<=w.heap.size+1;omega) _) (p:=⟨w.heap.size+1,1,none⟩) (by show w.heap.size<=w.heap.size+1;omega) _⟩
def Vr(X:Nat)(d:Int)(A:Option Addr)(n c:Nat)(ts:List (Int×Int))(W:World):Prop:=jh W X 24 #[.int .i64 d,.slice A n c]/\zf3 0 (A,n,c) ts W
instance {X:Nat}{d:Int}{A:Option Addr}{n c:Nat}{ts:List (Int×Int)}:Kept (Vr X d A n c ts):=⟨λ_ _ h hb=>⟨h.1.below hb h.1.lt,jG h.2 hb⟩⟩
theorem Vr.new{W:World}{d:Int}{A:Option Addr}{n c:Nat}{ts:List (Int×Int)}(h:zf3 0 (A,n,c) ts W):Vr W.heap.size d A n c ts (W.alloc (.cells #[.int .i64 d,.slice A n c] 24)):=⟨jh.new W _ _,World.ownsRow.alloc h _⟩
theorem Vr.small{W:World}{X:Nat}{d:Int}{A:Option Addr}{n c:Nat}{v:Int}(h:Vr X d A n c (jK v) W):n<=1000:=by
 have h1:=(ZF (A:=A) (n:=n) (c:=c) h.2).len
 have h2:(jK v).length<=1:=by unfold jK;split<;>simp
 omega
theorem Vr.le{W:World}{X:Nat}{d:Int}{A:Option Addr}{n c:Nat}{ts:List (Int×Int)}(h:Vr X d A n c ts W)(hl:ts.length<=1000):n<=1000:=by
 have h1:=(ZF (A:=A) (n:=n) (c:=c) h.2).len
 omega
theorem Vr.made {S:World->Prop} [Kept S] {W0 W:World} {X:Nat} {d:Int} {x:Sl} {ts:List (Int×Int)} (hS:S W0) (hb:Below W0.heap.size W0 W) (hX:W0.heap.size<=X) (hN:jh W X 24 #[.int .i64 0,.slice none 0 0]) (ho:zf3 0 x ts W) :
  S ((W.setCell ⟨X,0,none⟩ (.int .i64 d)).setCell ⟨X,1,none⟩ (.slice x.1 x.2.1 x.2.2))/\Vr X d x.1 x.2.1 x.2.2 ts ((W.setCell ⟨X,0,none⟩ (.int .i64 d)).setCell ⟨X,1,none⟩ (.slice x.1 x.2.1 x.2.2)):=
 ⟨Kept.keep _ _ hS ((hb.setCell (p:=⟨X,0,none⟩) hX (.int .i64 d)).setCell (p:=⟨X,1,none⟩) hX (.slice x.1 x.2.1 x.2.2)),(hN.set_ 0 (.int .i64 d)).set_ 1 (.slice x.1 x.2.1 x.2.2),
  jC (jC ho hN (i:=0) (u:=.int .i64 d) (by decide)) (hN.set_ 0 (.int .i64 d)) (i:=1) (u:=.slice x.1 x.2.1 x.2.2) (by decide)⟩
open Go Go.RowKit
abbrev jab5:Array Value:=#[.int .i64 0,.slice none 0 0]
def Lay(W0 W:World)(V:Nat->Nat)(C:Nat->Option (Array Value))(R:List (Sl×List (Int×Int))):Prop:=
 Below W0.heap.size W0 W/\(∀i cs,C i=some cs->W0.heap.size<=V i/\jh W (V i) 24 cs)/\(∀i j,i≠j->(C i).isSome=true->(C j).isSome=true->V i≠V j)/\∀q∈R,zf3 0 q.1 q.2 W
section
variable {W0 W : World} {V : Nat → Nat} {C : Nat → Option (Array Value)} {R : List (Sl × List (Int × Int))}
theorem Lay.start(h:Below W0.heap.size W0 W)(hR:∀q∈R,zf3 0 q.1 q.2 W):Lay W0 W (λ_=>0) (λ_=>none) R:=⟨h,λ_ _ h=>(by cases h),λ_ _ _ h=>(by cases h),hR⟩
theorem Lay.add(h:Lay W0 W V C R)(i X:Nat){cs:Array Value}(hX:W0.heap.size<=X)(hB:jh W X 24 cs)(hn:∀j cs,C j=some cs->V j≠X):Lay W0 W (λj=>if j=i then X else V j) (λj=>if j=i then some cs else C j) R:=by
 refine⟨h.1,λj l hj=>?_,λj k hne hj hk=>?_,h.2.2.2⟩
 ·by_cases e:j=i
  ·simp only[if_pos e] at hj ⊢;injection hj with hj;subst hj;exact⟨hX,hB⟩
  ·simp only[if_neg e] at hj ⊢;exact h.2.1 j l hj
 ·by_cases e:j=i
  ·subst e
   simp only[if_pos rfl,if_neg (Ne.symm hne)] at hk ⊢
   obtain⟨l,hl⟩:=Option.isSome_iff_exists.1 hk
   exact(hn k l hl).symm
  ·by_cases e':k=i
   ·subst e'
    simp only[if_pos rfl,if_neg e] at hj ⊢
    obtain⟨l,hl⟩:=Option.isSome_iff_exists.1 hj
    exact hn j l hl
   ·simp only[if_neg e,if_neg e'] at hj hk ⊢
    exact h.2.2.1 j k hne hj hk
theorem Lay.alloc(h:Lay W0 W V C R)(i:Nat)(cs:Array Value):Lay W0 (W.alloc (.cells cs 24)) (λj=>if j=i then W.heap.size else V j) (λj=>if j=i then some cs else C j) R:=
 Lay.add (W:=W.alloc (.cells cs 24)) ⟨h.1.alloc h.1.size _,λj l hj=>⟨(h.2.1 j l hj).1,(h.2.1 j l hj).2.alloc _⟩,h.2.2.1,λq hq=>World.ownsRow.alloc (h.2.2.2 q hq) _⟩ i W.heap.size h.1.size (jh.new W _ _)
  (λj l hj=>Nat.ne_of_lt (h.2.1 j l hj).2.lt)
theorem Lay.put (h:Lay W0 W V C R) (i X:Nat) {a b:Value} (hV:V i=X) (hi:C i=some #[a,b]) (u v:Value) :
  Lay W0 ((W.setCell ⟨X,0,none⟩ u).setCell ⟨X,1,none⟩ v) V (λj=>if j=i then some #[u,v] else C j) R:=by
 subst hV
 obtain⟨hX,hB⟩:=h.2.1 i _ hi
 have hB1:=hB.set_ 0 u
 refine⟨(h.1.setCell (p:=⟨V i,0,none⟩) hX u).setCell (p:=⟨V i,1,none⟩) hX v,λj l hj=>?_,λj k hne hj hk=>?_,λq hq=>jC (jC (h.2.2.2 q hq) hB (i:=0) (u:=u) (by decide)) hB1 (i:=1) (u:=v) (by decide)⟩
 ·by_cases e:j=i
  ·simp only[if_pos e] at hj;injection hj with hj;subst hj;subst e;exact⟨hX,hB1.set_ 1 v⟩
  ·simp only[if_neg e] at hj
   obtain⟨g1,g2⟩:=h.2.1 j l hj
   have hne:V j≠V i:=h.2.2.1 j i e (by rw[hj];rfl) (by rw[hi];rfl)
   exact⟨g1,(g2.far (p:=⟨V i,0,none⟩) hne u).far (p:=⟨V i,1,none⟩) hne v⟩
 ·have hs:∀m,(if m=i then some #[u,v] else C m).isSome=true->(C m).isSome=true:=λm hm=>by
   by_cases e:m=i
   ·rw[e,hi];rfl
   ·rwa [if_neg e] at hm
  exact h.2.2.1 j k hne (hs j hj) (hs k hk)
theorem Lay.blk(h:Lay W0 W V C R)(i:Nat){X:Nat}{cs:Array Value}(hV:V i=X)(hC:C i=some cs):jh W X 24 cs:=hV▸(h.2.1 i _ hC).2
theorem Lay.keep{S:World->Prop}[Kept S](h:Lay W0 W V C R)(hS:S W0):S W:=Kept.keep _ _ hS h.1
end
theorem Lay.one {W0 W:World} {R:List (Sl×List (Int×Int))} (h:Below W0.heap.size W0 W) (hR:∀q∈R,zf3 0 q.1 q.2 W) (i:Nat) {X:Nat} (hX:W0.heap.size<=X) (hB:jh W X 24 jab5) :
  Lay W0 W (λk=>if k=i then X else 0) (λk=>if k=i then some jab5 else none) R:=(Lay.start h hR).add i X hX hB (λ_ _ h=>by cases h)
theorem Lay.two {W0 W:World} {R:List (Sl×List (Int×Int))} (h:Below W0.heap.size W0 W) (hR:∀q∈R,zf3 0 q.1 q.2 W) (i j:Nat) {X Y:Nat} (hX:W0.heap.size<=X) (hB:jh W X 24 jab5) (hY:W0.heap.size<=Y) (hB':jh W Y 24 jab5)
  (hne:(Value.pointer (some ⟨Y,0,none⟩))≠.pointer (some ⟨X,0,none⟩)):Lay W0 W (λk=>if k=j then Y else if k=i then X else 0) (λk=>if k=j then some jab5 else if k=i then some jab5 else none) R:=
 (Lay.one h hR i hX hB).add j Y hY hB' (λk cs hk=>by
  by_cases e:k=i
  ·simp only[if_pos e];intro h;exact hne (by rw[h])
  ·simp only[if_neg e] at hk;cases hk)
section
variable {P : Program} {Q : Exit → Act → World → Prop}
end
open Go
theorem jag5{n:Nat}{P:Program}{o:Oper}{a:Act}{K:Act->World->Prop}{Q:Exit->Act->World->Prop}{l:Nat}{r:Result Next}(h:o.uponIn Fence.wide n P a K Q r):o.uponIn (Fence.wide.inRound l) n P a K Q r:=by
 cases r with
 | ok x w'=>cases x<;>exact h
 | halt x w'=>cases x<;>exact h
def jt1(ops:Array Oper):Bool:=ops.all λo=>match o.op with|.defer _=>false|_=>true
theorem jaf4{ops:Array Oper}(h:jt1 ops=true){j:Nat}{o:Oper}(hj:ops[j]?=some o)(c:Call):o.op≠.defer c:=by
 intro e
 unfold jt1 at h
 rw[Array.all_eq_true] at h
 obtain⟨hlt,rfl⟩:=Array.getElem?_eq_some_iff.1 hj
 have:=h j hlt
 rw[e] at this
 simp at this
theorem jag9 {n:Nat} {P:Program} {ops:Array Oper} {K:Act->World->Prop} {Q:Exit->Act->World->Prop} {i:Nat} {a:Act} {w:World} {l:Nat} (hnd:jt1 ops=true)
  (h:wpOpIn Fence.wide n P ops Q i K a w):wpOpIn (Fence.wide.inRound l) n P ops Q i K a w:=by
 unfold wpOpIn at *
 split
 ·rename_i hn;simp only[hn] at h;exact h
 ·rename_i o ho
  simp only[ho] at h
  split
  ·rename_i hw
   simp only[hw,if_true] at h
   unfold Oper.wpIn at *
   refine⟨h.1,?_⟩
   have h2:=h.2
   rw[Oper.semAt_plain _ _ _ (jaf4 hnd ho)] at h2 ⊢
   exact jag5 h2
  ·rename_i hw
   simp only[hw] at h
   exact h
theorem jm6{n:Nat}{P:Program}{ops:Array Oper}{Q:Exit->Act->World->Prop}{md:Region.Mode}{l:Nat}(hnd:jt1 ops=true):∀(fuel:Nat) (listed:Array Bool) (a:Act) (w:World),
  wpAnyIn Fence.wide n P md ops Q fuel listed a w->wpAnyIn (Fence.wide.inRound l) n P md ops Q fuel listed a w
 | 0,_,_,_,h=>h
 | fuel+1,listed,a,w,h=>⟨h.1,λi hi=>jag9 hnd (wpOpIn_mono (λa w h=>jm6 hnd fuel _ a w h) (h.2 i hi))⟩
theorem jv6 {n id:Nat} {P:Program} {ops:Array Oper} {Q:Exit->Act->World->Prop} {l:Nat} {a:Act} {w:World} (hm:P.follows .mixedOrders=true) (hnd:jt1 ops=true)
  (h:wpAnyIn Fence.wide n P .any ops Q ops.size (Array.replicate ops.size false) a w.drew):(Code.region id ops true).wpIn (Fence.wide.inRound l) n P Q a w:=
 wpIn_region_any hm (jm6 hnd _ _ _ _ h)
def VrQ(X:Nat)(d:Int)(A:Option Addr)(n c:Nat)(ts:List (Int×Int))(W:World):Prop:=jh W X 24 #[.int .i64 d,.slice A n c]/\∃B,B<=W.heap.size/\jJ W B A n c ts
instance {X:Nat}{d:Int}{A:Option Addr}{n c:Nat}{ts:List (Int×Int)}:Kept (VrQ X d A n c ts):=⟨λ_ _ h hb=>⟨h.1.below hb h.1.lt,h.2.elim λB h2=>⟨B,Nat.le_trans h2.1 hb.size,Rq.below h2.2 (hb.mono h2.1)⟩⟩⟩
theorem VrQ.read{X:Nat}{d:Int}{A:Option Addr}{n c:Nat}{ts:List (Int×Int)}{W:World}(h:VrQ X d A n c ts W):jJ W W.heap.size A n c ts:=by
 obtain⟨_,B,hB,h2⟩:=h
 exact Rq.more h2 hB
theorem VrQ.new{W:World}{d:Int}{A:Option Addr}{n c:Nat}{ts:List (Int×Int)}(h:jJ W W.heap.size A n c ts):VrQ W.heap.size d A n c ts (W.alloc (.cells #[.int .i64 d,.slice A n c] 24)):=⟨jh.new W _ _,W.heap.size,by simp,Rq.alloc h (Nat.le_refl _) _⟩
def jby8(x:Int×Sl):Value×Value:=(.int .i64 x.1,.slice x.2.1 x.2.2.1 x.2.2.2)
def jav3(l:List (Int×Sl)):Bool:=l.any λx=>decide (8<x.2.2.1)
theorem jan4 (A:Option Addr) (n c B:Nat) (l:List (Int×Sl)) (w:World) (hR:Rq w B 2 A n c (jB (l.map jby8))) :
  Calls Tryz.prog 7 #[.slice A n c] w λe w'=>e=.returned (.bool (jav3 l))/\w'=w:=by
 have hl:l.length=n:=by
  have h1:=hR.1
  rw[Jj,List.length_map] at h1
  omega
 subst hl
 have hn:=hR.nmax
 have HR:=ja hR
 clear hR
 go_enter Tryz.func7,Tryz.ntmps7
 go_wp2
 go_loopw [3] (λi W=>∃(k:Nat),k<=l.length/\i=.int .i64 k/\(∀j (hj:j<l.length),j<k->¬8<l[j].2.2.1)/\W=w) (λi _=>l.length-(intOf i).toNat)
 case atStart=>exact⟨0,by omega,rfl,λj _ hj=>by omega,rfl⟩
 case round=>
  obtain⟨k,hk,rfl,hpre,rfl⟩:=hrel
  have HPRE:=ja hpre
  clear hpre
  by_cases hkl:(k:Int)<(l.length:Int)
  ·have hk1:k<l.length:=by omega
   obtain⟨ad,rfl,-,ha0,ha1⟩:=jbc8 HR.o (i:=k) (by simpa using hk1)
   simp only[List.getElem_map,jby8] at ha1
   clear ha0
   by_cases h10:8<(l[k].2.2.1:Int)
   ·have HL:Hid (jav3 l=true):=ja (List.any_eq_true.2 ⟨l[k],List.getElem_mem hk1,decide_eq_true (show 8<l[k].2.2.1 by omega)⟩)
    go_wp2
    go_ret
    exact⟨by rw[HL.o];rfl,rfl⟩
   ·have HN:=ja (show ∀j (hj:j<l.length),j<k+1->¬8<l[j].2.2.1 from λj hj h=>by
     rcases Nat.lt_or_ge j k with h5|h5
     ·exact HPRE.o j hj h5
     ·obtain rfl:j=k:=by omega
      omega)
    go_wp2
    exact⟨⟨k+1,by omega,by go_num,HN.o,by trivial⟩,by simp[intOf];omega⟩
  ·obtain rfl:k=l.length:=by omega
   have HL:Hid (jav3 l=false):=ja (List.any_eq_false.2 λp hp=>by
    obtain⟨j,hj,rfl⟩:=List.mem_iff_getElem.1 hp
    have h5:=HPRE.o j hj hj
    simpa using h5)
   go_wp2
   go_ret
   exact⟨by rw[HL.o];rfl,rfl⟩
