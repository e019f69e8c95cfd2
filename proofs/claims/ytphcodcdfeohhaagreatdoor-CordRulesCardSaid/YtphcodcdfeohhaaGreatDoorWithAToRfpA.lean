import Derived.Test.YtphcodcdfeohhaaGreatDoorKnowToKnown
import Derived.Test.YtphcodcdfeohhaaGreatDoorLesAToBelR
set_option linter.all false
namespace Go.Proofs.YtphcodcdfeohhaaGreatDoor
set_option maxRecDepth 100000
set_option maxHeartbeats 4000000
open Go.RowKit
open Go Go.RowKit
theorem jdc7{n:Int}(hn:1<=n/\n<=1000){r:Int×List (Int×Int)×Int}(h:qI (jI n).1 (jI n).2 r):r=jcy1 1 [(1,n)]:=by
 have hw:jI n=(1,[(n,1)]):=by unfold jI;rw[if_neg (by omega)]
 rw[hw] at h
 have hok:js 1 [(n,1)]=true:=by rw[<-za (show n≠0 by omega)];exact Ja.2 ⟨by omega,by omega,jbz3 _⟩
 have hrp:zd2 1 [(n,1)]=jcy1 1 [(1,n)]:=by
  have e0:zd2 1 [(n,1)]=jY (Jc [] n 1 1) 1:=by unfold zd2;simp
  have e1:jcy1 1 [(1,n)]=jY (ju [] [(1,n)] 1) 1:=by
   unfold jcy1
   rw[if_neg (by simp),if_neg (by
    rintro(h|h)
    ·exact absurd h (by decide)
    ·simp[badT,zz] at h;omega)]
  rw[e0,e1]
  congr 1
  unfold Jc ju
  rw[if_pos (by omega)]
  simp only[List.foldl_cons,List.foldl_nil]
  unfold addRoot
  rw[if_pos (by omega)]
  simp
 rcases h with⟨h,_⟩|⟨_,s,hs,h⟩
 ·rw[hok] at h;cases h
 ·rcases Zp hs with⟨g,_⟩|⟨_,g⟩|⟨g,_⟩
  ·omega
  ·rcases h with⟨h,_⟩|⟨h,_⟩|⟨_,h⟩
   ·omega
   ·omega
   ·rw[h];exact hrp
  ·omega
def jdg5(xd:Int)(xt:List (Int×Int))(n:Int):Int×List (Int×Int)×Int:=
 if js xd xt=false then(0,[],2)else if zz n 1 1000=false then(0,[],3)else jL xd xt (jcy1 1 [(1,n)]).1 (jcy1 1 [(1,n)]).2.1 (-1)
theorem QW.eq{xd n:Int}{xt:List (Int×Int)}{r:Int×List (Int×Int)×Int}(h:QW xd xt n r):r=jdg5 xd xt n:=by
 unfold jdg5
 rcases h with⟨h1,h⟩|⟨h1,h2,h⟩|⟨h1,h2,r0,h3,h⟩
 ·rw[if_pos h1,h]
 ·rw[if_neg (by rw[h1];decide),if_pos h2,h]
 ·rw[if_neg (by rw[h1];decide),if_neg (by rw[h2];decide),h,jdc7 (by simpa [zz] using h2) h3]
theorem jdc0{xd f l l':Int}{xt:List (Int×Int)}(hx:js xd xt=true)(h:jd0 xd xt f l)(h':jd0 xd xt f l'):l=l':=zv0.unique (IsN.self hx).pos ((IsN.self hx).low h) ((IsN.self hx).low h')
theorem jct3{xd den l h c l' h' c':Int}{xt:List (Int×Int)}(g:qc xd xt den l h c)(g':qc xd xt den l' h' c'):l=l'/\h=h'/\c=c':=by
 rcases g with⟨a1,rfl,rfl,rfl⟩|⟨a1,a2,rfl,rfl,rfl⟩|⟨a1,a2,rfl,a3,a4⟩<;>rcases g' with⟨b1,rfl,rfl,rfl⟩|⟨b1,b2,rfl,rfl,rfl⟩|⟨b1,b2,rfl,b3,b4⟩
 ·exact⟨rfl,rfl,rfl⟩
 ·rw[a1] at b1;cases b1
 ·rw[a1] at b1;cases b1
 ·rw[a1] at b1;cases b1
 ·exact⟨rfl,rfl,rfl⟩
 ·rw[a2] at b2;cases b2
 ·rw[a1] at b1;cases b1
 ·rw[a2] at b2;cases b2
 ·obtain rfl:=jdc0 a1 a3 b3
  refine⟨rfl,?_,rfl⟩
  rcases a4 with⟨⟨s,h1,h2⟩,rfl⟩|⟨h2,rfl⟩<;>rcases b4 with⟨⟨s',k1,k2⟩,rfl⟩|⟨k2,rfl⟩
  ·rfl
  ·have:=h2.unique k2;omega
  ·have:=h2.unique k2;omega
  ·rfl
def jdd5(ld:Int)(lt:List (Int×Int))(hd:Int)(ht:List (Int×Int))(r:Bool):Prop:=
 (js ld lt=false/\r=false)\/(js ld lt=true/\js hd ht=false/\r=false) \/
 (js ld lt=true/\js hd ht=true/\∃s,jA lt s/\((¬0<s/\r=false)\/(0<s/\∃o,jA (zO lt hd ht ld) o/\r=decide (o<=0))))
theorem jdh9{ld hd:Int}{lt ht:List (Int×Int)}{r r':Bool}(h:jcm8 ld lt hd ht r)(h':jdd5 ld lt hd ht r'):r=r':=by
 obtain⟨o,e,s,f,h1,h2,rfl⟩:=h
 rcases h' with⟨g1,rfl⟩|⟨g1,g2,rfl⟩|⟨g1,g2,s',g3,g4⟩
 ·rcases h2 with⟨k,_⟩|⟨_,_,rfl⟩
  ·rw[g1] at k;cases k
  ·simp
 ·rcases h1 with⟨k,_⟩|⟨_,_,rfl⟩
  ·rw[g1,g2] at k;cases k
  ·simp
 ·rcases h2 with⟨_,k,rfl⟩|⟨k,_⟩
  ·obtain rfl:=k.unique g3
   rcases h1 with⟨_,m,rfl⟩|⟨m,_⟩
   ·rcases g4 with⟨g,rfl⟩|⟨g,o',g5,rfl⟩
    ·simp[g]
    ·obtain rfl:=m.unique g5
     simp[g]
   ·rw[g1,g2] at m;cases m
  ·rw[g1] at k;cases k
def jdb7(w:World)(ld:Int)(lt:List (Int×Int))(hd:Int)(ht:List (Int×Int))(e:Ending)(w':World):Prop:=∃r,e=.returned (.bool r)/\jdd5 ld lt hd ht r/\Below w.heap.size w w'
theorem jcy6 (ld:Int) (A:Option Addr) (n c:Nat) (lt:List (Int×Int)) (hd:Int) (A2:Option Addr) (n2 c2:Nat) (ht:List (Int×Int)) (B:Nat) (w:World) (hx:jJ w B A n c lt) (hy:jJ w B A2 n2 c2 ht) (hB:B<=w.heap.size) :
  Calls Tryz.prog 40 #[.agg #[.int .i64 ld,.slice A n c,.int .i64 hd,.slice A2 n2 c2]] w (jdb7 w ld lt hd ht):=by
 have HX0:=ja (jh.new w 26 #[.int .i64 ld,.slice A n c,.int .i64 hd,.slice A2 n2 c2])
 have HB0:=ja ((Below.refl w.heap.size w).alloc (Nat.le_refl _) (.cells #[.int .i64 ld,.slice A n c,.int .i64 hd,.slice A2 n2 c2] 26))
 have HPX:=ja (λW (hb:Below w.heap.size w W)=>Rq.below hx (hb.mono hB))
 have HPY:=ja (λW (hb:Below w.heap.size w W)=>Rq.below hy (hb.mono hB))
 have HNL:=ja (λW (hb:Below w.heap.size w W)=>QB ld A n c B lt W (HPX.o W hb) (Nat.le_trans hB hb.size))
 have HNH:=ja (λW (hb:Below w.heap.size w W)=>QB hd A2 n2 c2 B ht W (HPY.o W hb) (Nat.le_trans hB hb.size))
 clear hx hy
 go_enter Tryz.func40,Tryz.ntmps40
 go_upto_region 1 with fail
 obtain⟨X1,hX1⟩:∃X,X=w.heap.size:=⟨_,rfl⟩
 rw[<-hX1] at HX0 ⊢
 have hzw:w.heap.size<=(w.alloc (.cells #[.int .i64 ld,.slice A n c,.int .i64 hd,.slice A2 n2 c2] 26)).heap.size:=by simp
 have HZ:=ja hzw
 clear hX1 hzw
 generalize w.alloc (.cells #[.int .i64 ld,.slice A n c,.int .i64 hd,.slice A2 n2 c2] 26)=W1 at *
 obtain⟨x0,x1,x2,x3⟩:=HX0.o.four
 cases hl:js ld lt
 ·rw[hl] at HNL
  go_wp2_with (first
   | (go_at_call 39;refine(HNL.o _ HB0.o).mono ?_;rintro e w1 ⟨rfl,hb1⟩
      have HB1:=ja (HB0.o.trans (hb1.mono HZ.o))
      clear hb1))
  go_ret
  exact⟨_,rfl,.inl ⟨hl,rfl⟩,HB1.o⟩
 rw[hl] at HNL
 have HL:=ja hl
 clear hl
 cases hh:js hd ht
 ·rw[hh] at HNH
  go_wp2_with (first
   | (go_at_call 39;refine(HNH.o _ HB1.o).mono ?_;rintro e w2 ⟨rfl,hb2⟩
      have HB2:=ja (HB1.o.trans (hb2.mono HB1.o.size))
      clear hb2)
   | (go_at_call 39;refine(HNL.o _ HB0.o).mono ?_;rintro e w1 ⟨rfl,hb1⟩
      have HB1:=ja (HB0.o.trans (hb1.mono HZ.o));have HX1:=ja (HX0.o.below hb1 HX0.o.lt)
      clear hb1 x0 x1 x2 x3
      obtain⟨x0,x1,x2,x3⟩:=HX1.o.four))
  go_ret
  exact⟨_,rfl,.inr (.inl ⟨HL.o,hh,rfl⟩),HB2.o⟩
 rw[hh] at HNH
 have HH:=ja hh
 clear hh
 have HSG:=ja (λW (hb:Below w.heap.size w W)=>jbd1 A n c B lt W (HPX.o W hb) (Nat.le_trans hB hb.size) (λt ht=>by have:=((jz HL.o).2.2.2 t ht).1.2.2.2;omega) (Jd HL.o).1 (Jd HL.o).2 (by have:=(jz HL.o).2.2.1;omega))
 go_wp2_with (first
  | (go_at_call 39;refine(HNH.o _ HB1.o).mono ?_;rintro e w2 ⟨rfl,hb2⟩
     have HB2:=ja (HB1.o.trans (hb2.mono HB1.o.size));have HX2:=ja (HX1.o.below hb2 HX1.o.lt)
     clear hb2 x0 x1 x2 x3
     obtain⟨x0,x1,x2,x3⟩:=HX2.o.four)
  | (go_at_call 39;refine(HNL.o _ HB0.o).mono ?_;rintro e w1 ⟨rfl,hb1⟩
     have HB1:=ja (HB0.o.trans (hb1.mono HZ.o));have HX1:=ja (HX0.o.below hb1 HX0.o.lt)
     clear hb1 x0 x1 x2 x3
     obtain⟨x0,x1,x2,x3⟩:=HX1.o.four))
 refine(HSG.o _ HB2.o).mono ?_
 rintro e w3 ⟨s,rfl,hs,hb3⟩
 have HB3:=ja (HB2.o.trans (hb3.mono HB2.o.size));have HX3:=ja (HX2.o.below hb3 HX2.o.lt)
 have HS:=ja hs
 clear hb3 hs x0 x1 x2 x3 HSG HNH HNL
 obtain⟨x0,x1,x2,x3⟩:=HX3.o.four
 by_cases h0:0<s
 rotate_left 1
 focus
  go_wp2
  go_ret
  exact⟨_,rfl,.inr (.inr ⟨HL.o,HH.o,s,HS.o,.inl ⟨by omega,rfl⟩⟩),HB3.o⟩
 have HC:=ja (qX ld A n c lt hd A2 n2 c2 ht B w3 (HPX.o _ HB3.o) (HPY.o _ HB3.o) (Nat.le_trans hB HB3.o.size) HL.o HH.o)
 go_wp2_with (first
  | (go_at_call 52;refine HC.o.mono ?_;rintro e w4 ⟨o,rfl,ho,hb4⟩
     have HB4:=ja (HB3.o.trans (hb4.mono HB3.o.size))
     have HO:=ja ho
     clear hb4 ho))
 go_ret
 exact⟨_,rfl,.inr (.inr ⟨HL.o,HH.o,s,HS.o,.inr ⟨h0,o,HO.o,rfl⟩⟩),HB4.o⟩
def PT(w:World)(A:Option Addr)(n c:Nat)(ts:List (Int×Int))(W:World):Prop:=w.heap.size<=W.heap.size/\(jJ W w.heap.size A n c ts\/W.ownsRow w.heap.size 59 2 (.slice A n c) n (jr ts))
instance {w:World}{A:Option Addr}{n c:Nat}{ts:List (Int×Int)}:Kept (PT w A n c ts):=⟨λ_ _ h hb=>⟨Nat.le_trans h.1 hb.size,h.2.elim (λx=>.inl (Rq.below x (hb.mono h.1))) λx=>.inr (jG x hb)⟩⟩
section
variable {w W : World} {A : Option Addr} {n c : Nat} {ts : List (Int × Int)}
theorem PT.read(h:PT w A n c ts W):jJ W W.heap.size A n c ts:=h.2.elim (λx=>Rq.more x h.1) λx=>Rq.of (Rd.of_own x)
theorem PT.set(h:PT w A n c ts W){X i:Nat}{t:TypeId}{cs:Array Value}(hX:w.heap.size<=X)(hb:jh W X t cs)(ht:59≠t)(u:Value):PT w A n c ts (W.setCell ⟨X,i,none⟩ u):=
 ⟨by simp;exact h.1,h.2.elim (λx=>.inl (Rq.setCell x (p:=⟨X,i,none⟩) hX u)) λx=>.inr (jC x hb ht)⟩
end
