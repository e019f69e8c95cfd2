import Derived.Test.YtphcodcdfeohhaaGreatDoorGreAToGreB
import Derived.Test.YtphcodcdfeohhaaGreatDoorKnowToCardB
set_option linter.all false
namespace Go.Proofs.YtphcodcdfeohhaaGreatDoor
open Go.RowKit
structure ChainQ(xd xc sd sc rd rc bf:Int):Prop where
 s:js sd (jK sc)=true
 r:js rd (jK rc)=true
 eq:(sc*rd+rc*sd)*xd=xc*(sd*rd)
 pos:0<=rc
 one:1<=bf
 small:rc*bf<rd
theorem ChainQ.diff{xd xc sd sc rd rc bf:Int}(hx:js xd (jK xc)=true)(h:ChainQ xd xc sd sc rd rc bf):jL xd (jK xc) sd (jK sc) (-1)=(rd,jK rc,0):=by
 rw[jz8 hx h.s]
 refine jap8 (Int.mul_pos (zP hx) (zP h.s)) h.r ?_
 have e:=h.eq
 simp only[Int.add_mul,Int.mul_add,Int.neg_mul,Int.mul_neg,Int.one_mul,Int.mul_one,Int.mul_comm,Int.mul_left_comm,Int.mul_assoc] at e ⊢
 omega
theorem ChainQ.last{xd xc sd sc rd rc bf:Int}(hx:js xd (jK xc)=true)(h:ChainQ xd xc sd sc rd rc bf):jL sd (jK sc) rd (jK rc) 1=(xd,jK xc,0):=by
 rw[jz8 h.s h.r]
 refine jap8 (Int.mul_pos (zP h.s) (zP h.r)) hx ?_
 have e:=h.eq
 simp only[Int.add_mul,Int.mul_add,Int.neg_mul,Int.mul_neg,Int.one_mul,Int.mul_one,Int.mul_comm,Int.mul_left_comm,Int.mul_assoc] at e ⊢
 omega
theorem ChainQ.start{xd xc:Int}(hx:js xd (jK xc)=true)(h0:0<=xc)(hw:xc/xd<=1000):ChainQ xd xc 1 (xc/xd) xd (xc % xd) 1/\jL xd (jK xc) 1 (jK (xc/xd)) (-1)=(xd,jK (xc % xd),0):=by
 obtain⟨h1,h2,h3⟩:=Ja.1 hx
 have hq0:0<=xc/xd:=Int.ediv_nonneg h0 (by omega)
 have hr0:0<=xc % xd:=Int.emod_nonneg xc (by omega)
 have hr1:xc % xd<xd:=Int.emod_lt_of_pos xc (by omega)
 have he:=Int.mul_ediv_add_emod xc xd
 have hc:ChainQ xd xc 1 (xc/xd) xd (xc % xd) 1:=by
  refine⟨Ja.2 ⟨by omega,by omega,jbz3 _⟩,Ja.2 ⟨h1,by omega,?_⟩,?_,hr0,Int.le_refl _,by omega⟩
  ·obtain⟨X,rfl⟩:=Int.eq_ofNat_of_zero_le h0
   obtain⟨D,rfl⟩:=Int.eq_ofNat_of_zero_le (show 0<=xd by omega)
   rw[Zj] at h3 ⊢
   rw[show((X:Int) % (D:Int))=((X % D:Nat):Int) by omega]
   rw[Int.natAbs_natCast,Int.natAbs_natCast] at h3 ⊢
   rw[Nat.gcd_comm,<-Nat.gcd_rec]
   exact h3
  ·rw[Int.mul_one,Int.one_mul]
   rw[show xc/xd*xd+xc % xd=xc by rw[Int.mul_comm];exact he]
 exact⟨hc,hc.diff hx⟩
theorem ChainQ.next {xd xc sd sc rd rc bf d s1 c' e1 ec:Int} (hx:js xd (jK xc)=true) (h:ChainQ xd xc sd sc rd rc bf) (hr:0<rc) (h1:rd<=rc*d) (h2:rc*(d-1)<rd) (hbd:bf<d)
  (hc:c'*(rd*d)=(rc*d+1*(-1*rd))*s1) (hn:js s1 (jK c')=true) (hs:ec*(sd*d)=(sc*d+1*(1*sd))*e1) (hm:js e1 (jK ec)=true):ChainQ xd xc e1 ec s1 c' d:=by
 have hd0:0<d:=by have:=h.one;omega
 have hrd:=zP h.r
 have hsd:=zP h.s
 have hs1:=zP hn
 have hxd:=zP hx
 have hrdd:0<rd*d:=Int.mul_pos hrd hd0
 refine⟨hm,hn,?_,?_,by have:=h.one;omega,?_⟩
 ·have k1:=congrArg (λt=>t*(s1*(xd*rd))) hs
  have k2:=congrArg (λt=>t*(e1*(xd*sd))) hc
  have k3:=congrArg (λt=>t*(e1*(s1*d))) h.eq
  have hK:0<sd*(d*rd):=Int.mul_pos hsd (Int.mul_pos hd0 hrd)
  refine Int.eq_of_mul_eq_mul_right (a:=sd*(d*rd)) (by omega) ?_
  try dsimp only at k1 k2 k3
  clear hc hs h1 h2 hrdd hK
  simp only[Int.add_mul,Int.mul_add,Int.neg_mul,Int.mul_neg,Int.one_mul,Int.mul_one,Int.mul_comm,Int.mul_left_comm,Int.mul_assoc] at k1 k2 k3 ⊢
  omega
 ·rcases Int.lt_or_le c' 0 with hneg|hp
  ·have k1:=Int.mul_neg_of_neg_of_pos hneg hrdd
   have k2:0<=(rc*d+1*(-1*rd))*s1:=Int.mul_nonneg (by omega) (by omega)
   omega
  ·exact hp
 ·rcases Int.lt_or_le (c'*d) s1 with hp|hneg
  ·exact hp
  ·have k1:=Int.mul_le_mul_of_nonneg_right hneg (Int.le_of_lt hrd)
   have k2:c'*d*rd=(rc*d-rd)*s1:=by
    rw[Int.mul_assoc,Int.mul_comm d rd,hc]
    congr 1
    omega
   rw[k2,Int.mul_comm s1 rd] at k1
   have k3:rd<=rc*d-rd:=Int.le_of_mul_le_mul_right k1 hs1
   rw[Int.mul_sub,Int.mul_one] at h2
   have k4:rc*1<=rc*bf:=Int.mul_le_mul_of_nonneg_left h.one (Int.le_of_lt hr)
   have k5:=h.small
   omega
theorem zc3 {xd xc mo:Int} (hx:js xd (jK xc)=true) (h0:0<=xc) (hm:0<=mo/\mo<=8):zq xd (jK xc) mo=if 1000<xc/xd then(0,[],(0,[]),3)
  else(xc/xd,(zC mo.toNat (xd,jK (xc % xd))).1,(zC mo.toNat (xd,jK (xc % xd))).2,0):=by
 have hxd:=zP hx
 have hi:zz mo 0 8=true:=by simpa [zz] using hm
 have hq0:0<=xc/xd:=Int.ediv_nonneg h0 (by omega)
 have hp:∃den,jn xd (jK xc)=(xc,den,true)/\xc.tdiv den=xc/xd:=by
  rw[jj2]
  by_cases hc:xc=0
  ·subst hc
   exact⟨1,by rw[if_pos rfl],by simp⟩
  ·exact⟨xd,by rw[if_neg hc],Int.tdiv_eq_ediv_of_nonneg h0⟩
 obtain⟨den,hp,hq⟩:=hp
 unfold zq
 rw[if_neg (by rw[hx];simp)]
 simp only[hp,hq]
 by_cases h1:1000<xc/xd
 ·rw[if_pos h1,if_pos (.inr (.inr (.inl h1)))]
 ·rw[if_neg h1,if_neg,zr0]
  ·simp only[(ChainQ.start hx h0 (by omega)).2]
  ·rintro(h|h|h|h)
   ·cases h
   ·omega
   ·exact h1 h
   ·rw[hi] at h;cases h
open Go Go.RowKit
def zb5(w:World)(Ar:Option Addr)(nr cr:Nat)(rt:List (Int×Int))(W:World):Prop:=(rt=[]/\nr=0/\cr<=maxLen)\/W.ownsRow (w.heap.size+3) 59 2 (.slice Ar nr cr) nr (jr rt)
theorem zb5.read{w W:World}{Ar:Option Addr}{nr cr:Nat}{rt:List (Int×Int)}(h:zb5 w Ar nr cr rt W):jJ W W.heap.size Ar nr cr rt:=by
 rcases h with⟨rfl,rfl,h⟩|h
 ·exact⟨rfl,Nat.zero_le _,h,.inl rfl⟩
 ·exact Rq.of (Rd.of_own h)
def zb3(w:World)(wh:Int)(ms:List Int)(rd:Int)(rt:List (Int×Int))(code:Int)(e:Ending)(w':World):Prop:=
 ∃(A:Option Addr) (c:Nat) (L:List PieceV) (Ar:Option Addr) (nr cr:Nat),e=.returned (.tuple #[.agg #[.int .i64 wh,.slice A L.length c],.agg #[.int .i64 rd,.slice Ar nr cr],.int .i64 code]) /\
  jD w' w'.heap.size A L.length c L/\L.map PieceV.flat=ms.map jz7/\jJ w' w'.heap.size Ar nr cr rt/\Below w.heap.size w w'
structure GrI(w W:World)(X7 X8:Nat)(wh:Int)(v:Value)(A:Option Addr)(c:Nat)(L:List PieceV)(rd:Int)(Ar:Option Addr)(nr cr:Nat)(rt:List (Int×Int)):Prop where
 x4:jh W (w.heap.size+1) 43 #[.int .i64 0,.slice none 0 0]
 x5:jh W (w.heap.size+2) 24 #[.int .i64 0,.slice none 0 0]
 o:jh W X7 43 #[.int .i64 wh,v]
 r:jh W X8 24 #[.int .i64 rd,.slice Ar nr cr]
 row:W.ownsRow (w.heap.size+3) 94 2 (.slice A L.length c) L.length (jB (L.map PieceV.enc))
 marks:∀p∈L,W.ownsRow (w.heap.size+3) 3 1 (.slice p.A p.n p.c) p.n (p.ms.map (Value.int .i64))
 terms:zb5 w Ar nr cr rt W
 below:Below w.heap.size w W
 h7:w.heap.size+3<=X7
 h8:w.heap.size+3<=X8
 hne:X7≠X8
section
variable {w W W' : World} {X7 X8 : Nat} {wh : Int} {v : Value} {A : Option Addr} {c : Nat} {L : List PieceV} {rd : Int} {Ar : Option Addr} {nr cr : Nat} {rt : List (Int × Int)}
theorem zb5.map(h:zb5 w Ar nr cr rt W)(f:∀ {s n:Nat} {e:TypeId} {v:Value} {xs:List Value},e=59->W.ownsRow (w.heap.size+3) e s v n xs->W'.ownsRow (w.heap.size+3) e s v n xs):zb5 w Ar nr cr rt W':=h.elim .inl λh=>.inr (f rfl h)
theorem GrI.under(h:GrI w W X7 X8 wh v A c L rd Ar nr cr rt)(hb:Below W.heap.size W W'):GrI w W' X7 X8 wh v A c L rd Ar nr cr rt:=
 ⟨h.x4.below hb h.x4.lt,h.x5.below hb h.x5.lt,h.o.below hb h.o.lt,h.r.below hb h.r.lt,jG h.row hb,λp hp=>jG (h.marks p hp) hb,h.terms.map λ_ x=>jG x hb,h.below.trans (hb.mono h.below.size),h.h7,h.h8,h.hne⟩
instance:Kept λW=>GrI w W X7 X8 wh v A c L rd Ar nr cr rt:=⟨λ_ _ h hb=>h.under hb⟩
theorem GrI.alloc(h:GrI w W X7 X8 wh v A c L rd Ar nr cr rt)(ob:Obj):GrI w (W.alloc ob) X7 X8 wh v A c L rd Ar nr cr rt:=h.under ((Below.refl _ _).alloc (Nat.le_refl _) ob)
theorem GrI.rest (h:GrI w W X7 X8 wh v A c L rd Ar nr cr rt) {rd':Int} {Ar':Option Addr} {nr' cr':Nat} {rt':List (Int×Int)} (ho:W.ownsRow (w.heap.size+3) 59 2 (.slice Ar' nr' cr') nr' (jr rt')) :
  GrI w ((W.setCell ⟨X8,0,none⟩ (.int .i64 rd')).setCell ⟨X8,1,none⟩ (.slice Ar' nr' cr')) X7 X8 wh v A c L rd' Ar' nr' cr' rt':=by
 have hr1:=h.r.set_ 0 (.int .i64 rd')
 have e4:w.heap.size+1≠X8:=by have:=h.h8;omega
 have e5:w.heap.size+2≠X8:=by have:=h.h8;omega
 have e8:w.heap.size<=X8:=by have:=h.h8;omega
 refine⟨(h.x4.far (p:=⟨X8,0,none⟩) e4 _).far (p:=⟨X8,1,none⟩) e4 _,(h.x5.far (p:=⟨X8,0,none⟩) e5 _).far (p:=⟨X8,1,none⟩) e5 _,(h.o.far (p:=⟨X8,0,none⟩) h.hne _).far (p:=⟨X8,1,none⟩) h.hne _,hr1.set_ 1 _,
  jC (jC h.row h.r (by decide)) hr1 (by decide),λp hp=>jC (jC (h.marks p hp) h.r (by decide)) hr1 (by decide),.inr (jC (jC ho h.r (by decide)) hr1 (by decide)),
  (h.below.setCell (p:=⟨X8,0,none⟩) e8 _).setCell (p:=⟨X8,1,none⟩) e8 _,h.h7,h.h8,h.hne⟩
theorem GrI.second(h:GrI w W X7 X8 wh v A c L rd Ar nr cr rt)(u:Value):GrI w (W.setCell ⟨X7,1,none⟩ u) X7 X8 wh u A c L rd Ar nr cr rt:=by
 have e4:w.heap.size+1≠X7:=by have:=h.h7;omega
 have e5:w.heap.size+2≠X7:=by have:=h.h7;omega
 have e7:w.heap.size<=X7:=by have:=h.h7;omega
 exact⟨h.x4.far (p:=⟨X7,1,none⟩) e4 _,h.x5.far (p:=⟨X7,1,none⟩) e5 _,h.o.set_ 1 _,h.r.far (p:=⟨X7,1,none⟩) h.hne.symm _,
  jC h.row h.o (by decide),λp hp=>jC (h.marks p hp) h.o (by decide),h.terms.map λe x=>jC x h.o (by subst e;decide),h.below.setCell (p:=⟨X7,1,none⟩) e7 _,h.h7,h.h8,h.hne⟩
theorem GrI.first(h:GrI w W X7 X8 wh v A c L rd Ar nr cr rt)(u:Int):GrI w (W.setCell ⟨X7,0,none⟩ (.int .i64 u)) X7 X8 u v A c L rd Ar nr cr rt:=by
 have e4:w.heap.size+1≠X7:=by have:=h.h7;omega
 have e5:w.heap.size+2≠X7:=by have:=h.h7;omega
 have e7:w.heap.size<=X7:=by have:=h.h7;omega
 exact⟨h.x4.far (p:=⟨X7,0,none⟩) e4 _,h.x5.far (p:=⟨X7,0,none⟩) e5 _,h.o.set_ 0 _,h.r.far (p:=⟨X7,0,none⟩) h.hne.symm _,
  jC h.row h.o (by decide),λp hp=>jC (h.marks p hp) h.o (by decide),h.terms.map λe x=>jC x h.o (by subst e;decide),h.below.setCell (p:=⟨X7,0,none⟩) e7 _,h.h7,h.h8,h.hne⟩
theorem GrI.grow {A':Option Addr} {c':Nat} {d:Int} {pA:Option Addr} {pc:Nat} (h:GrI w W X7 X8 wh v A c L rd Ar nr cr rt) (hm:W.ownsRow (w.heap.size+3) 3 1 (.slice pA 1 pc) 1 [.int .i64 d])
  (ho:W'.ownsRow (w.heap.size+3) 94 2 (.slice A' (L.length+1) c') (L.length+1) (jB (L.map PieceV.enc)++[.bool false,.slice pA 1 pc])) (hg:W.grownBy W' (Value.slice A L.length c).ownBlock) :
  GrI w W' X7 X8 wh v A' c' (L++[(⟨false,pA,1,pc,[d]⟩:PieceV)]) rd Ar nr cr rt:=by
 have kp:∀ {e:TypeId} {s n:Nat} {v:Value} {xs:List Value},94≠e->W.ownsRow (w.heap.size+3) e s v n xs->W'.ownsRow (w.heap.size+3) e s v n xs:=λhne x=>
  zF x hg (λg e1 e2=>zS h.row x hne e2 e1)
 have hne:∀j,(Value.slice A L.length c).ownBlock=some j->w.heap.size+3<=j:=λj e=>(h.row.lt j e).1
 refine⟨h.x4.grown hg (λe=>by have:=hne _ e;omega),h.x5.grown hg (λe=>by have:=hne _ e;omega),h.o.grown hg (λe=>JQ h.row h.o (by decide) e),h.r.grown hg (λe=>JQ h.row h.r (by decide) e),?_,λp hp=>?_,h.terms.map λe x=>kp (by subst e;decide) x,h.below.grown hg h.below.size (λj e=>by have:=hne j e;omega),h.h7,h.h8,h.hne⟩
 ·rw[Jt,List.length_append]
  exact ho
 ·rcases List.mem_append.1 hp with hp|hp
  ·exact kp (by decide) (h.marks p hp)
  ·rw[List.mem_singleton.1 hp]
   exact kp (by decide) hm
theorem GrI.done (h:GrI w W X7 X8 wh v A c L rd Ar nr cr rt) (rd2:Int) {Ar2:Option Addr} {nr2 cr2:Nat} {rt2:List (Int×Int)} (hr:zb5 w Ar2 nr2 cr2 rt2 W) {W4:World}
  (e:W4=(((W.setCell ⟨w.heap.size+1,0,none⟩ (.int .i64 wh)).setCell ⟨w.heap.size+1,1,none⟩ (.slice A L.length c)).setCell ⟨w.heap.size+2,0,none⟩ (.int .i64 rd2)).setCell ⟨w.heap.size+2,1,none⟩ (.slice Ar2 nr2 cr2)) :
  jh W4 (w.heap.size+1) 43 #[.int .i64 wh,.slice A L.length c]/\jh W4 (w.heap.size+2) 24 #[.int .i64 rd2,.slice Ar2 nr2 cr2]/\jD W4 W4.heap.size A L.length c L/\jJ W4 W4.heap.size Ar2 nr2 cr2 rt2/\Below w.heap.size w W4:=by
 subst e
 have e1:w.heap.size+1≠w.heap.size+2:=by omega
 have kp:∀ {s n:Nat} {e:TypeId} {v:Value} {xs:List Value},W.ownsRow (w.heap.size+3) e s v n xs->((((W.setCell ⟨w.heap.size+1,0,none⟩ (.int .i64 wh)).setCell ⟨w.heap.size+1,1,none⟩ (.slice A L.length c)).setCell ⟨w.heap.size+2,0,none⟩ (.int .i64 rd2)).setCell ⟨w.heap.size+2,1,none⟩ (.slice Ar2 nr2 cr2)).ownsRow (w.heap.size+3) e s v n xs:=λx=>
  ownsRow_setCell_below (ownsRow_setCell_below (ownsRow_setCell_below (ownsRow_setCell_below x (a:=⟨w.heap.size+1,0,none⟩) (by show w.heap.size+1<_;omega) _) (a:=⟨w.heap.size+1,1,none⟩) (by show w.heap.size+1<_;omega) _) (a:=⟨w.heap.size+2,0,none⟩) (by show w.heap.size+2<_;omega) _) (a:=⟨w.heap.size+2,1,none⟩) (by show w.heap.size+2<_;omega) _
 refine⟨(((h.x4.set_ 0 _).set_ 1 _).far (p:=⟨w.heap.size+2,0,none⟩) e1 _).far (p:=⟨w.heap.size+2,1,none⟩) e1 _,(((h.x5.far (p:=⟨w.heap.size+1,0,none⟩) e1.symm _).far (p:=⟨w.heap.size+1,1,none⟩) e1.symm _).set_ 0 _).set_ 1 _,
  ⟨Rd.of_own (kp h.row),λp hp=>Rd.of_own (kp (h.marks p hp))⟩,zb5.read (w:=w) (hr.map λ_ x=>kp x),?_⟩
 exact(((h.below.setCell (p:=⟨w.heap.size+1,0,none⟩) (by show w.heap.size<=w.heap.size+1;omega) _).setCell (p:=⟨w.heap.size+1,1,none⟩) (by show w.heap.size<=w.heap.size+1;omega) _).setCell (p:=⟨w.heap.size+2,0,none⟩) (by show w.heap.size<=w.heap.size+2;omega) _).setCell (p:=⟨w.heap.size+2,1,none⟩) (by show w.heap.size<=w.heap.size+2;omega) _
end
