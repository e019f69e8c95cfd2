import Derived.Test.YtphcodcdfeohhaaGreatDoorWithAToRfpA
import Derived.Test.YtphcodcdfeohhaaGreatDoorTimB
import Derived.Test.YtphcodcdfeohhaaGreatDoorTimD
set_option linter.all false
namespace Go.Proofs.YtphcodcdfeohhaaGreatDoor
set_option maxRecDepth 100000
set_option maxHeartbeats 16000000
open Go Go.RowKit
theorem Tryz.sizePair:(Tryz.prog.info? 82).map (·.size)=some 5:=by kernel_rfl
theorem jh.five{w:World}{b:Nat}{t:TypeId}{u v x y z:Value}(h:jh w b t #[u,v,x,y,z]):w.cell? ⟨b,0,none⟩=some u/\w.cell? ⟨b,1,none⟩=some v/\w.cell? ⟨b,2,none⟩=some x/\w.cell? ⟨b,3,none⟩=some y/\w.cell? ⟨b,4,none⟩=some z/\w.frozen? ⟨b,0,none⟩=false/\w.frozen? ⟨b,1,none⟩=false/\w.frozen? ⟨b,2,none⟩=false/\w.frozen? ⟨b,3,none⟩=false/\w.frozen? ⟨b,4,none⟩=false:=
 ⟨h.cell 0,h.cell 1,h.cell 2,h.cell 3,h.cell 4,h.free 0,h.free 1,h.free 2,h.free 3,h.free 4⟩
theorem jh.fourF{w:World}{b:Nat}{t:TypeId}{u v x y:Value}(h:jh w b t #[u,v,x,y]):w.cell? ⟨b,0,none⟩=some u/\w.cell? ⟨b,1,none⟩=some v/\w.cell? ⟨b,2,none⟩=some x/\w.cell? ⟨b,3,none⟩=some y/\w.frozen? ⟨b,0,none⟩=false/\w.frozen? ⟨b,1,none⟩=false/\w.frozen? ⟨b,2,none⟩=false/\w.frozen? ⟨b,3,none⟩=false:=
 ⟨h.cell 0,h.cell 1,h.cell 2,h.cell 3,h.free 0,h.free 1,h.free 2,h.free 3⟩
theorem jda0 {c c':Code} {Q Q':Exit->Act->World->Prop} {a:Act} {w:World} {K1:Act->World->Prop} (ds:List Tmp) (R:(Tmp->Value)->World->Prop) (hK:∀a w,c'.wp Tryz.prog Q' a w->K1 a w)
  (h1:∀(v:Tmp->Value) (W:World),R v W->c'.wp Tryz.prog Q' (ds.foldl (λb d=>b.put (some d) (v d)) a) W)
  (h2:Hid (∀(a':Act) (W:World),R (λd=>a'.tmps.getD d undef) W->a'=ds.foldl (λb d=>b.put (some d) (a'.tmps.getD d undef)) a->K1 a' W)->c.wp Tryz.prog Q a w):c.wp Tryz.prog Q a w:=
 h2 (ja λa' W hR ha=>by rw[ha];exact hK _ _ (h1 _ W hR))
def opS(op:Int):jb6:=if op=1 then λx y=>jc7 x.1 x.2 y.1 y.2 else if op=2 then λx y=>jn7 x.1 x.2 y.1 y.2 else λx y=>jL x.1 x.2 y.1 y.2 (-1)
def za8(f:jb6)(e:Int)(a b c d:Num):Num×Num×Int:=
 if e≠0 then(a,b,e)else if(f a c).2.2≠0 then((0,[]),(0,[]),(f a c).2.2)else if(f b d).2.2≠0 then((0,[]),(0,[]),(f b d).2.2)else(jk9 (f a c),jk9 (f b d),0)
def jcp1(w:World)(r:Num×Num×Int)(e:Ending)(w':World):Prop:=
 ∃(Aa:Option Addr) (na ca:Nat) (Ab:Option Addr) (nb cb:Nat),e=.returned (.agg #[.int .i64 r.1.1,.slice Aa na ca,.int .i64 r.2.1.1,.slice Ab nb cb,.int .i64 r.2.2])/\jJ w' w'.heap.size Aa na ca r.1.2/\jJ w' w'.heap.size Ab nb cb r.2.1.2/\Below w.heap.size w w'
def InE(f:jb6)(a b c d:Num)(k:Nat)(a' b':Num):Prop:=
 (k=0/\a'=a/\b'=b)\/(k=1/\(f a c).2.2=0/\a'=jk9 (f a c)/\b'=b)\/(k=2/\(f a c).2.2=0/\(f b d).2.2=0/\a'=jk9 (f a c)/\b'=jk9 (f b d))
def EaI(w:World)(X8 X9 X10:Nat)(a1:Int)(Aa:Option Addr)(na ca:Nat)(at_:List (Int×Int))(b1:Int)(Ab:Option Addr)(nb cb:Nat)(bt:List (Int×Int))(vc:Array Value)(W:World):Prop:=
 (((((Below w.heap.size w W/\w.heap.size<=W.heap.size)/\jh W X8 82 #[.int .i64 0,.slice none 0 0,.int .i64 0,.slice none 0 0,.int .i64 0])/\jh W X9 75 #[.int .i64 a1,.slice Aa na ca,.int .i64 b1,.slice Ab nb cb])/\jh W X10 75 vc)/\PT w Aa na ca at_ W)/\PT w Ab nb cb bt W
instance {w:World}{X8 X9 X10:Nat}{a1:Int}{Aa:Option Addr}{na ca:Nat}{at_:List (Int×Int)}{b1:Int}{Ab:Option Addr}{nb cb:Nat}{bt:List (Int×Int)}{vc:Array Value}:Kept (EaI w X8 X9 X10 a1 Aa na ca at_ b1 Ab nb cb bt vc):=
 ⟨λ_ _ h hb=>⟨⟨⟨⟨⟨⟨h.1.1.1.1.1.1.trans (hb.mono h.1.1.1.1.1.2),Nat.le_trans h.1.1.1.1.1.2 hb.size⟩,h.1.1.1.1.2.below hb h.1.1.1.1.2.lt⟩,h.1.1.1.2.below hb h.1.1.1.2.lt⟩,h.1.1.2.below hb h.1.1.2.lt⟩,Kept.keep _ _ h.1.2 hb⟩,Kept.keep _ _ h.2 hb⟩⟩
section
variable {w W : World} {X8 X9 X10 X : Nat} {a1 b1 d1 : Int} {Aa Ab Ad : Option Addr} {na ca nb cb nd cd : Nat} {at_ bt dt : List (Int × Int)} {vc : Array Value}
theorem EaI.put (h:EaI w X8 X9 X10 a1 Aa na ca at_ b1 Ab nb cb bt vc W) {cs:Array Value} (hb:jh W X 24 cs) (hX:w.heap.size<=X) (h8:X8≠X) (h9:X9≠X) (h10:X10≠X) (u v:Value) :
  EaI w X8 X9 X10 a1 Aa na ca at_ b1 Ab nb cb bt vc ((W.setCell ⟨X,0,none⟩ u).setCell ⟨X,1,none⟩ v):=
 ⟨⟨⟨⟨⟨⟨(h.1.1.1.1.1.1.setCell (p:=⟨X,0,none⟩) hX u).setCell (p:=⟨X,1,none⟩) hX v,by simp;exact h.1.1.1.1.1.2⟩,(h.1.1.1.1.2.far (p:=⟨X,0,none⟩) h8 u).far (p:=⟨X,1,none⟩) h8 v⟩,(h.1.1.1.2.far (p:=⟨X,0,none⟩) h9 u).far (p:=⟨X,1,none⟩) h9 v⟩,(h.1.1.2.far (p:=⟨X,0,none⟩) h10 u).far (p:=⟨X,1,none⟩) h10 v⟩,
  (h.1.2.set hX hb (by decide) u).set hX (hb.set_ 0 u) (by decide) v⟩,(h.2.set hX hb (by decide) u).set hX (hb.set_ 0 u) (by decide) v⟩
theorem EaI.first (h:EaI w X8 X9 X10 a1 Aa na ca at_ b1 Ab nb cb bt vc W) (hp:PT w Ad nd cd dt W) (hX:w.heap.size<=X9) (h8:X8≠X9) (h10:X10≠X9) :
  EaI w X8 X9 X10 d1 Ad nd cd dt b1 Ab nb cb bt vc ((W.setCell ⟨X9,0,none⟩ (.int .i64 d1)).setCell ⟨X9,1,none⟩ (.slice Ad nd cd)):=
 ⟨⟨⟨⟨⟨⟨(h.1.1.1.1.1.1.setCell (p:=⟨X9,0,none⟩) hX _).setCell (p:=⟨X9,1,none⟩) hX _,by simp;exact h.1.1.1.1.1.2⟩,(h.1.1.1.1.2.far (p:=⟨X9,0,none⟩) h8 _).far (p:=⟨X9,1,none⟩) h8 _⟩,(h.1.1.1.2.set_ 0 _).set_ 1 _⟩,(h.1.1.2.far (p:=⟨X9,0,none⟩) h10 _).far (p:=⟨X9,1,none⟩) h10 _⟩,
  (hp.set hX h.1.1.1.2 (by decide) _).set hX (h.1.1.1.2.set_ 0 _) (by decide) _⟩,(h.2.set hX h.1.1.1.2 (by decide) _).set hX (h.1.1.1.2.set_ 0 _) (by decide) _⟩
theorem EaI.second (h:EaI w X8 X9 X10 a1 Aa na ca at_ b1 Ab nb cb bt vc W) (hp:PT w Ad nd cd dt W) (hX:w.heap.size<=X9) (h8:X8≠X9) (h10:X10≠X9) :
  EaI w X8 X9 X10 a1 Aa na ca at_ d1 Ad nd cd dt vc ((W.setCell ⟨X9,2,none⟩ (.int .i64 d1)).setCell ⟨X9,3,none⟩ (.slice Ad nd cd)):=
 ⟨⟨⟨⟨⟨⟨(h.1.1.1.1.1.1.setCell (p:=⟨X9,2,none⟩) hX _).setCell (p:=⟨X9,3,none⟩) hX _,by simp;exact h.1.1.1.1.1.2⟩,(h.1.1.1.1.2.far (p:=⟨X9,2,none⟩) h8 _).far (p:=⟨X9,3,none⟩) h8 _⟩,(h.1.1.1.2.set_ 2 _).set_ 3 _⟩,(h.1.1.2.far (p:=⟨X9,2,none⟩) h10 _).far (p:=⟨X9,3,none⟩) h10 _⟩,
  (h.1.2.set hX h.1.1.1.2 (by decide) _).set hX (h.1.1.1.2.set_ 2 _) (by decide) _⟩,(hp.set hX h.1.1.1.2 (by decide) _).set hX (h.1.1.1.2.set_ 2 _) (by decide) _⟩
end
theorem jct7 (op:Int) (hop:op=1\/op=2\/op=3) (a1:Int) (Aa:Option Addr) (na ca:Nat) (at_:List (Int×Int)) (b1:Int) (Ab:Option Addr) (nb cb:Nat) (bt:List (Int×Int)) (e0:Int) (c1:Int) (Ac:Option Addr) (nc cc:Nat) (ct:List (Int×Int)) (d1:Int) (Ad:Option Addr) (nd cd:Nat) (dt:List (Int×Int)) (w:World)
  (ha:jJ w w.heap.size Aa na ca at_) (hb:jJ w w.heap.size Ab nb cb bt) (hc:jJ w w.heap.size Ac nc cc ct) (hd:jJ w w.heap.size Ad nd cd dt) :
  Calls Tryz.prog 43 #[.agg #[.int .i64 a1,.slice Aa na ca,.int .i64 b1,.slice Ab nb cb,.int .i64 e0],.int .i64 op,.agg #[.int .i64 c1,.slice Ac nc cc],.agg #[.int .i64 d1,.slice Ad nd cd]] w
   (jcp1 w (za8 (opS op) e0 (a1,at_) (b1,bt) (c1,ct) (d1,dt))):=by
 obtain⟨w0,hw0⟩:∃w0,w0=(((w.alloc (.cells #[.int .i64 a1,.slice Aa na ca,.int .i64 b1,.slice Ab nb cb,.int .i64 e0] 82)).alloc (.cells #[.int .i64 c1,.slice Ac nc cc] 24)).alloc (.cells #[.int .i64 d1,.slice Ad nd cd] 24)).alloc (.cells #[.int .i64 0,.slice none 0 0,.int .i64 0,.slice none 0 0,.int .i64 0] 82):=⟨_,rfl⟩
 obtain⟨X4,hX4⟩:∃X,X=w.heap.size:=⟨_,rfl⟩
 obtain⟨X8,hX8⟩:∃X,X=w.heap.size+3:=⟨_,rfl⟩
 have HS:Hid (((((Below w.heap.size w w0/\w.heap.size<=w0.heap.size)/\jh w0 w.heap.size 82 #[.int .i64 a1,.slice Aa na ca,.int .i64 b1,.slice Ab nb cb,.int .i64 e0])/\jh w0 (w.heap.size+1) 24 #[.int .i64 c1,.slice Ac nc cc])/\jh w0 (w.heap.size+2) 24 #[.int .i64 d1,.slice Ad nd cd])/\jh w0 X8 82 #[.int .i64 0,.slice none 0 0,.int .i64 0,.slice none 0 0,.int .i64 0]):=ja (by
  rw[hw0]
  refine⟨⟨⟨⟨⟨((((Below.refl _ _).alloc (Nat.le_refl _) _).alloc (by simp) _).alloc (by simp;omega) _).alloc (by simp;omega) _,by simp;omega⟩,(((jh.new w _ _).alloc _).alloc _).alloc _⟩,?_⟩,?_⟩,?_⟩
  ·have h:=((jh.new (w.alloc (.cells #[.int .i64 a1,.slice Aa na ca,.int .i64 b1,.slice Ab nb cb,.int .i64 e0] 82)) 24 #[.int .i64 c1,.slice Ac nc cc]).alloc (.cells #[.int .i64 d1,.slice Ad nd cd] 24)).alloc (.cells #[.int .i64 0,.slice none 0 0,.int .i64 0,.slice none 0 0,.int .i64 0] 82)
   rwa [World.size_alloc] at h
  ·have h:=(jh.new ((w.alloc (.cells #[.int .i64 a1,.slice Aa na ca,.int .i64 b1,.slice Ab nb cb,.int .i64 e0] 82)).alloc (.cells #[.int .i64 c1,.slice Ac nc cc] 24)) 24 #[.int .i64 d1,.slice Ad nd cd]).alloc (.cells #[.int .i64 0,.slice none 0 0,.int .i64 0,.slice none 0 0,.int .i64 0] 82)
   rwa [World.size_alloc,World.size_alloc] at h
  ·have h:=jh.new (((w.alloc (.cells #[.int .i64 a1,.slice Aa na ca,.int .i64 b1,.slice Ab nb cb,.int .i64 e0] 82)).alloc (.cells #[.int .i64 c1,.slice Ac nc cc] 24)).alloc (.cells #[.int .i64 d1,.slice Ad nd cd] 24)) 82 #[.int .i64 0,.slice none 0 0,.int .i64 0,.slice none 0 0,.int .i64 0]
   rw[World.size_alloc,World.size_alloc,World.size_alloc] at h
   rw[hX8];exact h)
 have HX8:Hid (w.heap.size+3<=X8):=ja (by omega)
 have HPC:=ja (λW (hb:Below w.heap.size w W)=>Rq.below hc hb)
 have HPD:=ja (λW (hb:Below w.heap.size w W)=>Rq.below hd hb)
 have HPA:Hid (∀W,Below w.heap.size w W->PT w Aa na ca at_ W):=ja (λW hb=>⟨hb.size,.inl (Rq.below ha hb)⟩)
 have HPB:Hid (∀W,Below w.heap.size w W->PT w Ab nb cb bt W):=ja (λW hh=>⟨hh.size,.inl (Rq.below hb hh)⟩)
 obtain⟨f,hf⟩:∃f:jb6,f=(opS op):=⟨_,rfl⟩
 have HF:=ja hf
 rw[<-hf]
 obtain⟨res,hres⟩:∃r,za8 f e0 (a1,at_) (b1,bt) (c1,ct) (d1,dt)=r:=⟨_,rfl⟩
 rw[hres]
 unfold za8 at hres
 have hpost:∀(W:World) (a:Act) (r1:Int) (Ar:Option Addr) (nr cr:Nat) (rt:List (Int×Int)) (s1:Int) (As:Option Addr) (ns cs:Nat) (st:List (Int×Int)) (code:Int),res=((r1,rt),(s1,st),code)->jJ W W.heap.size Ar nr cr rt->jJ W W.heap.size As ns cs st->Below w.heap.size w W ->
   jh W X8 82 #[.int .i64 r1,.slice Ar nr cr,.int .i64 s1,.slice As ns cs,.int .i64 code]->a.tmps.getD 8 undef=.pointer (some ⟨X8,0,none⟩)->a.defers=[]->bodyPost Tryz.prog Tryz.f43 (jcp1 w res) .ret a W:=by
  intro W a r1 Ar nr cr rt s1 As ns cs st code e1 e2 e3 e4 e5 e6 e7
  refine Ji (p:=8) (ty:=82) rfl e6 e5 (d:=_) rfl Tryz.underlying82 Tryz.sizePair e7 ?_
  rw[e1]
  exact⟨Ar,nr,cr,As,ns,cs,rfl,e2,e3,e4⟩
 have HPOST:=ja hpost
 clear ha hb hc hd hpost hf hX4
 go_enter Tryz.func43,Tryz.ntmps43
 go_upto_region 1 with fail
 rw[<-hX8,<-hw0]
 clear hX8 hw0
 obtain⟨x0,x1,x2,x3,x4⟩:=HS.o.1.1.1.2.five
 have h8w:w.heap.size<=X8:=by have:=HX8.o;omega
 by_cases he:e0=0
 rotate_left 1
 focus
  have heb:(e0 !=0)=true:=by simpa using he
  rw[if_pos he] at hres
  have HV:=ja hres.symm
  clear hres
  obtain⟨r0,r1,r2,r3,r4,rf0,rf1,rf2,rf3,rf4⟩:=HS.o.2.five
  have HBZ:Hid (Below w.heap.size w (((((w0.setCell ⟨X8,0,none⟩ (.int .i64 a1)).setCell ⟨X8,1,none⟩ (.slice Aa na ca)).setCell ⟨X8,2,none⟩ (.int .i64 b1)).setCell ⟨X8,3,none⟩ (.slice Ab nb cb)).setCell ⟨X8,4,none⟩ (.int .i64 e0))):=ja (((((HS.o.1.1.1.1.1.setCell (p:=⟨X8,0,none⟩) h8w _).setCell (p:=⟨X8,1,none⟩) h8w _).setCell (p:=⟨X8,2,none⟩) h8w _).setCell (p:=⟨X8,3,none⟩) h8w _).setCell (p:=⟨X8,4,none⟩) h8w _)
  go_wp2
  exact HPOST.o _ _ a1 Aa na ca at_ b1 Ab nb cb bt e0 HV.o (PT.read (HPA.o _ HBZ.o)) (PT.read (HPB.o _ HBZ.o)) HBZ.o (((((HS.o.2.set_ 0 _).set_ 1 _).set_ 2 _).set_ 3 _).set_ 4 _) rfl rfl
 subst he
 rw[if_neg (by simp)] at hres
 go_upto_region 3 with fail
 obtain⟨y0,y1,_,_⟩:=HS.o.1.1.2.two
 obtain⟨z0,z1,_,_⟩:=HS.o.1.2.two
 have h4:w.heap.size<w0.heap.size:=HS.o.1.1.1.2.lt
 have h6:w.heap.size+1<w0.heap.size:=HS.o.1.1.2.lt
 have h7:w.heap.size+2<w0.heap.size:=HS.o.1.2.lt
 refine jda1 [18,19,20,21,22,23,24,25,9,10] (λv W=>∃(X9 X10:Nat),v 9=.pointer (some ⟨X9,0,none⟩)/\v 10=.pointer (some ⟨X10,0,none⟩)/\(EaI w X8 X9 X10 a1 Aa na ca at_ b1 Ab nb cb bt #[.int .i64 c1,.slice Ac nc cc,.int .i64 d1,.slice Ad nd cd] W/\w.heap.size<=X9/\X8≠X9/\X10≠X9)) (λv W hR=>?_) ?_
 rotate_left 1
 focus
  intro HJ
  refine jk (λw'=>Below w0.heap.size w0 w') 10 (λ_=>True) 10 (λ_=>True) (by kernel_rfl) ⟨Below.drew (Below.refl _ _),λ_=>trivial,λ_=>trivial⟩ (λjb=>?_)
  revert jb
  refine jtq 0 ?_ ?_ ?_
  rotate_left 1
  focus(intro;go_simp;try rfl)
  (try simp only[Act.put,lA,lB,lC])
  refine jtk 1 ?_ ?_ ?_
  rotate_left 1
  focus(intro w' hSw;obtain⟨hC,hF,hG⟩:=hSw;clear hF;clear hG;have e1:=(hC.cell (p:=⟨w.heap.size,0,none⟩) h4).trans x0;have e2:=(hC.cell (p:=⟨w.heap.size,1,none⟩) h4).trans x1;clear hC;go_simp;try rfl)
  (try simp only[Act.put,lA,lB,lC])
  refine jtq 2 ?_ ?_ ?_
  rotate_left 1
  focus(intro;go_simp;try rfl)
  (try simp only[Act.put,lA,lB,lC])
  refine jtk 3 ?_ ?_ ?_
  rotate_left 1
  focus(intro w' hSw;obtain⟨hC,hF,hG⟩:=hSw;clear hF;clear hG;have e1:=(hC.cell (p:=⟨w.heap.size,2,none⟩) h4).trans x2;have e2:=(hC.cell (p:=⟨w.heap.size,3,none⟩) h4).trans x3;clear hC;go_simp;try rfl)
  (try simp only[Act.put,lA,lB,lC])
  refine jtq 4 ?_ ?_ ?_
  rotate_left 1
  focus(intro;go_simp;try rfl)
  (try simp only[Act.put,lA,lB,lC])
  refine jtk 5 ?_ ?_ ?_
  rotate_left 1
  focus(intro w' hSw;obtain⟨hC,hF,hG⟩:=hSw;clear hF;clear hG;have e1:=(hC.cell (p:=⟨w.heap.size+1,0,none⟩) h6).trans y0;have e2:=(hC.cell (p:=⟨w.heap.size+1,1,none⟩) h6).trans y1;clear hC;go_simp;try rfl)
  (try simp only[Act.put,lA,lB,lC])
  refine jtk 6 ?_ ?_ ?_
  rotate_left 1
  focus(intro w' hSw;obtain⟨hC,hF,hG⟩:=hSw;clear hF;clear hG;have e1:=(hC.cell (p:=⟨w.heap.size+2,0,none⟩) h7).trans z0;have e2:=(hC.cell (p:=⟨w.heap.size+2,1,none⟩) h7).trans z1;clear hC;go_simp;try rfl)
  (try simp only[Act.put,lA,lB,lC])
  refine jtq 7 ?_ ?_ ?_
  rotate_left 1
  focus(intro;go_simp;try rfl)
  (try simp only[Act.put,lA,lB,lC])
  intro jb
  have HB0:=ja (Below.drew (Below.refl w0.heap.size w0))
  clear x0 x1 x2 x3 x4 y0 y1 z0 z1 h4 h6 h7
  generalize w0.drew=U0 at *
  refine jb4 8 9 rfl rfl (by decide +kernel) (λK hK=>?_) (λK hK=>?_)
  ·go_simp
   have HB1:=ja (HB0.o.alloc HB0.o.size (.cells #[.int .i64 0,.slice none 0 0,.int .i64 0,.slice none 0 0] 75))
   have HA1:=ja (jh.new U0 75 #[.int .i64 0,.slice none 0 0,.int .i64 0,.slice none 0 0])
   refine hK.out _ _ ⟨HB1.o,λ_=>trivial,λ_=>trivial⟩ (λjb=>?_)
   clear hK K
   (try simp only[Act.put,lA,lB,lC])
   have HXa:Hid (w0.heap.size<=U0.heap.size):=ja HB0.o.size
   obtain⟨X9,hX⟩:∃X,X=U0.heap.size:=⟨_,rfl⟩
   rw[<-hX] at HA1 HXa ⊢
   clear hX
   generalize U0.alloc (.cells #[.int .i64 0,.slice none 0 0,.int .i64 0,.slice none 0 0] 75)=U1 at *
   refine je 9 rfl (by decide +kernel) (λK hK=>?_)
   go_simp
   have HB2:=ja (HB1.o.alloc HB1.o.size (.cells #[.int .i64 0,.slice none 0 0,.int .i64 0,.slice none 0 0] 75))
   have HA2:=ja (HA1.o.alloc (.cells #[.int .i64 0,.slice none 0 0,.int .i64 0,.slice none 0 0] 75))
   have HC2:=ja (jh.new U1 75 #[.int .i64 0,.slice none 0 0,.int .i64 0,.slice none 0 0])
   have HXb:Hid (w0.heap.size<=U1.heap.size/\X9≠U1.heap.size):=ja ⟨HB1.o.size,Nat.ne_of_lt HA1.o.lt⟩
   refine hK.out _ _ ⟨HB2.o,λ_=>trivial,λ_=>trivial⟩ (λjb=>?_)
   clear hK K
   (try simp only[Act.put,lA,lB,lC])
   obtain⟨X10,hX⟩:∃X,X=U1.heap.size:=⟨_,rfl⟩
   rw[<-hX] at HC2 HXb ⊢
   clear hX HB1 HA1
   generalize U1.alloc (.cells #[.int .i64 0,.slice none 0 0,.int .i64 0,.slice none 0 0] 75)=U2 at *
   have h9w:w0.heap.size<=X9:=HXa.o
   have h10w:w0.heap.size<=X10:=HXb.o.1
   have hn:X10≠X9:=HXb.o.2.symm
   obtain⟨q0,q1,q2,q3,qf0,qf1,qf2,qf3⟩:=HA2.o.fourF
   have HB3:=ja ((((HB2.o.setCell (p:=⟨X9,0,none⟩) h9w (.int .i64 a1)).setCell (p:=⟨X9,1,none⟩) h9w (.slice Aa na ca)).setCell (p:=⟨X9,2,none⟩) h9w (.int .i64 b1)).setCell (p:=⟨X9,3,none⟩) h9w (.slice Ab nb cb))
   refine je 10 rfl (by decide +kernel) (λK hK=>?_)
   go_simp
   refine hK.out _ _ ⟨HB3.o,λ_=>trivial,λ_=>trivial⟩ (λjb=>?_)
   clear hK K q0 q1 q2 q3 qf0 qf1 qf2 qf3
   (try simp only[Act.put,lA,lB,lC])
   have H93:=ja ((((HA2.o.set_ 0 (.int .i64 a1)).set_ 1 (.slice Aa na ca)).set_ 2 (.int .i64 b1)).set_ 3 (.slice Ab nb cb))
   have H103:=ja ((((HC2.o.far (p:=⟨X9,0,none⟩) hn (.int .i64 a1)).far (p:=⟨X9,1,none⟩) hn (.slice Aa na ca)).far (p:=⟨X9,2,none⟩) hn (.int .i64 b1)).far (p:=⟨X9,3,none⟩) hn (.slice Ab nb cb))
   clear HB2 HA2 HC2
   generalize ((((U2.setCell ⟨X9,0,none⟩ (.int .i64 a1)).setCell ⟨X9,1,none⟩ (.slice Aa na ca)).setCell ⟨X9,2,none⟩ (.int .i64 b1)).setCell ⟨X9,3,none⟩ (.slice Ab nb cb))=U3 at *
   obtain⟨q0,q1,q2,q3,qf0,qf1,qf2,qf3⟩:=H103.o.fourF
   have HB4:=ja ((((HB3.o.setCell (p:=⟨X10,0,none⟩) h10w (.int .i64 c1)).setCell (p:=⟨X10,1,none⟩) h10w (.slice Ac nc cc)).setCell (p:=⟨X10,2,none⟩) h10w (.int .i64 d1)).setCell (p:=⟨X10,3,none⟩) h10w (.slice Ad nd cd))
   refine je 11 rfl (by decide +kernel) (λK hK=>?_)
   go_simp
   refine hK.out _ _ ⟨HB4.o,λ_=>trivial,λ_=>trivial⟩ (λjb=>?_)
   clear hK K q0 q1 q2 q3 qf0 qf1 qf2 qf3
   (try simp only[Act.put,lA,lB,lC])
   have H104:=ja ((((H103.o.set_ 0 (.int .i64 c1)).set_ 1 (.slice Ac nc cc)).set_ 2 (.int .i64 d1)).set_ 3 (.slice Ad nd cd))
   have H94:=ja ((((H93.o.far (p:=⟨X10,0,none⟩) hn.symm (.int .i64 c1)).far (p:=⟨X10,1,none⟩) hn.symm (.slice Ac nc cc)).far (p:=⟨X10,2,none⟩) hn.symm (.int .i64 d1)).far (p:=⟨X10,3,none⟩) hn.symm (.slice Ad nd cd))
   clear HB3 H93 H103
   generalize ((((U3.setCell ⟨X10,0,none⟩ (.int .i64 c1)).setCell ⟨X10,1,none⟩ (.slice Ac nc cc)).setCell ⟨X10,2,none⟩ (.int .i64 d1)).setCell ⟨X10,3,none⟩ (.slice Ad nd cd))=U4 at *
   refine jl (by decide +kernel) ?_
   clear jb
   have hW:=HS.o.1.1.1.1.1.trans (HB4.o.mono HS.o.1.1.1.1.2)
   exact HJ.o _ _ ⟨X9,X10,rfl,rfl,⟨⟨⟨⟨⟨⟨hW,hW.size⟩,HS.o.2.below HB4.o HS.o.2.lt⟩,H94.o⟩,H104.o⟩,HPA.o _ hW⟩,HPB.o _ hW⟩,Nat.le_trans HS.o.1.1.1.1.2 h9w,Nat.ne_of_lt (Nat.lt_of_lt_of_le HS.o.2.lt h9w),hn⟩ (by kernel_rfl)
  ·go_simp
   have HB1:=ja (HB0.o.alloc HB0.o.size (.cells #[.int .i64 0,.slice none 0 0,.int .i64 0,.slice none 0 0] 75))
   have HA1:=ja (jh.new U0 75 #[.int .i64 0,.slice none 0 0,.int .i64 0,.slice none 0 0])
   refine hK.out _ _ ⟨HB1.o,λ_=>trivial,λ_=>trivial⟩ (λjb=>?_)
   clear hK K
   (try simp only[Act.put,lA,lB,lC])
   have HXa:Hid (w0.heap.size<=U0.heap.size):=ja HB0.o.size
   obtain⟨X10,hX⟩:∃X,X=U0.heap.size:=⟨_,rfl⟩
   rw[<-hX] at HA1 HXa ⊢
   clear hX
   generalize U0.alloc (.cells #[.int .i64 0,.slice none 0 0,.int .i64 0,.slice none 0 0] 75)=U1 at *
   refine je 8 rfl (by decide +kernel) (λK hK=>?_)
   go_simp
   have HB2:=ja (HB1.o.alloc HB1.o.size (.cells #[.int .i64 0,.slice none 0 0,.int .i64 0,.slice none 0 0] 75))
   have HA2:=ja (HA1.o.alloc (.cells #[.int .i64 0,.slice none 0 0,.int .i64 0,.slice none 0 0] 75))
   have HC2:=ja (jh.new U1 75 #[.int .i64 0,.slice none 0 0,.int .i64 0,.slice none 0 0])
   have HXb:Hid (w0.heap.size<=U1.heap.size/\X10≠U1.heap.size):=ja ⟨HB1.o.size,Nat.ne_of_lt HA1.o.lt⟩
   refine hK.out _ _ ⟨HB2.o,λ_=>trivial,λ_=>trivial⟩ (λjb=>?_)
   clear hK K
   (try simp only[Act.put,lA,lB,lC])
   obtain⟨X9,hX⟩:∃X,X=U1.heap.size:=⟨_,rfl⟩
   rw[<-hX] at HC2 HXb ⊢
   clear hX HB1 HA1
   generalize U1.alloc (.cells #[.int .i64 0,.slice none 0 0,.int .i64 0,.slice none 0 0] 75)=U2 at *
   have h9w:w0.heap.size<=X9:=HXb.o.1
   have h10w:w0.heap.size<=X10:=HXa.o
   have hn:X10≠X9:=HXb.o.2
   obtain⟨q0,q1,q2,q3,qf0,qf1,qf2,qf3⟩:=HC2.o.fourF
   have HB3:=ja ((((HB2.o.setCell (p:=⟨X9,0,none⟩) h9w (.int .i64 a1)).setCell (p:=⟨X9,1,none⟩) h9w (.slice Aa na ca)).setCell (p:=⟨X9,2,none⟩) h9w (.int .i64 b1)).setCell (p:=⟨X9,3,none⟩) h9w (.slice Ab nb cb))
   refine je 10 rfl (by decide +kernel) (λK hK=>?_)
   go_simp
   refine hK.out _ _ ⟨HB3.o,λ_=>trivial,λ_=>trivial⟩ (λjb=>?_)
   clear hK K q0 q1 q2 q3 qf0 qf1 qf2 qf3
   (try simp only[Act.put,lA,lB,lC])
   have H93:=ja ((((HC2.o.set_ 0 (.int .i64 a1)).set_ 1 (.slice Aa na ca)).set_ 2 (.int .i64 b1)).set_ 3 (.slice Ab nb cb))
   have H103:=ja ((((HA2.o.far (p:=⟨X9,0,none⟩) hn (.int .i64 a1)).far (p:=⟨X9,1,none⟩) hn (.slice Aa na ca)).far (p:=⟨X9,2,none⟩) hn (.int .i64 b1)).far (p:=⟨X9,3,none⟩) hn (.slice Ab nb cb))
   clear HB2 HA2 HC2
   generalize ((((U2.setCell ⟨X9,0,none⟩ (.int .i64 a1)).setCell ⟨X9,1,none⟩ (.slice Aa na ca)).setCell ⟨X9,2,none⟩ (.int .i64 b1)).setCell ⟨X9,3,none⟩ (.slice Ab nb cb))=U3 at *
   obtain⟨q0,q1,q2,q3,qf0,qf1,qf2,qf3⟩:=H103.o.fourF
   have HB4:=ja ((((HB3.o.setCell (p:=⟨X10,0,none⟩) h10w (.int .i64 c1)).setCell (p:=⟨X10,1,none⟩) h10w (.slice Ac nc cc)).setCell (p:=⟨X10,2,none⟩) h10w (.int .i64 d1)).setCell (p:=⟨X10,3,none⟩) h10w (.slice Ad nd cd))
   refine je 11 rfl (by decide +kernel) (λK hK=>?_)
   go_simp
   refine hK.out _ _ ⟨HB4.o,λ_=>trivial,λ_=>trivial⟩ (λjb=>?_)
   clear hK K q0 q1 q2 q3 qf0 qf1 qf2 qf3
   (try simp only[Act.put,lA,lB,lC])
   have H104:=ja ((((H103.o.set_ 0 (.int .i64 c1)).set_ 1 (.slice Ac nc cc)).set_ 2 (.int .i64 d1)).set_ 3 (.slice Ad nd cd))
   have H94:=ja ((((H93.o.far (p:=⟨X10,0,none⟩) hn.symm (.int .i64 c1)).far (p:=⟨X10,1,none⟩) hn.symm (.slice Ac nc cc)).far (p:=⟨X10,2,none⟩) hn.symm (.int .i64 d1)).far (p:=⟨X10,3,none⟩) hn.symm (.slice Ad nd cd))
   clear HB3 H93 H103
   generalize ((((U3.setCell ⟨X10,0,none⟩ (.int .i64 c1)).setCell ⟨X10,1,none⟩ (.slice Ac nc cc)).setCell ⟨X10,2,none⟩ (.int .i64 d1)).setCell ⟨X10,3,none⟩ (.slice Ad nd cd))=U4 at *
   refine jl (by decide +kernel) ?_
   clear jb
   have hW:=HS.o.1.1.1.1.1.trans (HB4.o.mono HS.o.1.1.1.1.2)
   exact HJ.o _ _ ⟨X9,X10,rfl,rfl,⟨⟨⟨⟨⟨⟨hW,hW.size⟩,HS.o.2.below HB4.o HS.o.2.lt⟩,H94.o⟩,H104.o⟩,HPA.o _ hW⟩,HPB.o _ hW⟩,Nat.le_trans HS.o.1.1.1.1.2 h9w,Nat.ne_of_lt (Nat.lt_of_lt_of_le HS.o.2.lt h9w),hn⟩ (by kernel_rfl)
 obtain⟨X9,X10,hv9,hv10,hE,h9w,h89,h109⟩:=hR
 have HE0:=ja hE
 clear hE x0 x1 x2 x3 x4 y0 y1 z0 z1 h4 h6 h7 HS HPA HPB
 simp only[List.foldl_cons,List.foldl_nil,Act.put,lA,lB,lC,hv9,hv10]
 clear hv9 hv10
 generalize W=W4 at *
 go_wp2
 go_loopw [11] (λi W=>∃(k:Nat) (a2:Int) (A2:Option Addr) (n2 c2:Nat) (at2:List (Int×Int)) (b2:Int) (B2:Option Addr) (m2 e2:Nat) (bt2:List (Int×Int)),k<=2/\i=.int .i64 k/\InE f (a1,at_) (b1,bt) (c1,ct) (d1,dt) k (a2,at2) (b2,bt2)/\EaI w X8 X9 X10 a2 A2 n2 c2 at2 b2 B2 m2 e2 bt2 #[.int .i64 c1,.slice Ac nc cc,.int .i64 d1,.slice Ad nd cd] W) (λi _=>2-(intOf i).toNat)
 case atStart=>exact⟨0,a1,Aa,na,ca,at_,b1,Ab,nb,cb,bt,by omega,rfl,.inl ⟨rfl,rfl,rfl⟩,HE0.o⟩
 case round=>
  obtain⟨k,a2,A2,n2,c2,at2,b2,B2,m2,e2,bt2,hk,rfl,hin,hE⟩:=hrel
  have HE:=ja hE
  clear hE HE0
  rcases hin with⟨rfl,hA,hB⟩|⟨rfl,h1,hA,hB⟩|⟨rfl,h1,h2,hA,hB⟩
  ·injection hA with hA1 hA2;subst hA1;subst hA2
   injection hB with hB1 hB2;subst hB1;subst hB2
   obtain⟨s1,s2,s3,hq⟩:∃p q r,f (a2,at2) (c1,ct)=(p,q,r):=⟨_,_,_,rfl⟩
   have HQ:=ja hq
   clear hq
   go_upto_region 9 with fail
   have HE1:=ja (Kept.keep (S:=λW=>EaI w X8 X9 X10 a2 A2 n2 c2 at2 b2 B2 m2 e2 bt2 #[.int .i64 c1,.slice Ac nc cc,.int .i64 d1,.slice Ad nd cd] W) _ _ HE.o ((Below.refl wr.heap.size wr).alloc (Nat.le_refl _) (.cells #[.int .i64 0,.slice none 0 0] 24)))
   have HN1:=ja (jh.new wr 24 #[.int .i64 0,.slice none 0 0])
   have H12:Hid (w.heap.size<=wr.heap.size/\X8≠wr.heap.size/\X9≠wr.heap.size/\X10≠wr.heap.size):=ja ⟨HE.o.1.1.1.1.1.2,Nat.ne_of_lt HE.o.1.1.1.1.2.lt,Nat.ne_of_lt HE.o.1.1.1.2.lt,Nat.ne_of_lt HE.o.1.1.2.lt⟩
   obtain⟨X12,hX⟩:∃X,X=wr.heap.size:=⟨_,rfl⟩
   rw[<-hX] at HN1 H12 ⊢
   clear hX HE
   generalize wr.alloc (.cells #[.int .i64 0,.slice none 0 0] 24)=V at *
   rename (∀(a:Act) (w:World),Code.wp _ _ _ a w->(_:Act->World->Prop) a w)=>hK0
   have HK0:=And.intro trivial hK0
   clear hK0
   rename (∀(a:Act) (w:World),Code.wp _ _ _ a w->(_:Act->World->Prop) a w)=>hK1
   refine jda0 [30,41,42,53,54,43,44,45,46,47,48,49,50,51,52,55,56,57,58,59,60,61,62,63,64,31,32,33,34,35,36,37,38,39,40,13] (λv W=>v 13=.int .i64 s3/\∃A6 n6 c6,(EaI w X8 X9 X10 a2 A2 n2 c2 at2 b2 B2 m2 e2 bt2 #[.int .i64 c1,.slice Ac nc cc,.int .i64 d1,.slice Ad nd cd] W/\PT w A6 n6 c6 s2 W)/\jh W X12 24 #[.int .i64 s1,.slice A6 n6 c6]) hK1 (λv W6 hR=>?_) (λHJ=>?_)
   rotate_left 1
   focus
    have hK0:=HK0.2
    clear HK0 hK1
    rcases hop with rfl|rfl|rfl
    ·have HCQ:Hid (jc7 a2 at2 c1 ct=(s1,s2,s3)):=ja (by have h:=HQ.o;rw[HF.o] at h;exact h)
     go_upto_region 12 with fail
     obtain⟨x0,x1,x2,x3⟩:=HE1.o.1.1.1.2.four
     obtain⟨y0,y1,y2,y3⟩:=HE1.o.1.1.2.four
     have h9:X9<V.heap.size:=HE1.o.1.1.1.2.lt
     have h10:X10<V.heap.size:=HE1.o.1.1.2.lt
     have HGd:Hid ((EaI w X8 X9 X10 a2 A2 n2 c2 at2 b2 B2 m2 e2 bt2 #[.int .i64 c1,.slice Ac nc cc,.int .i64 d1,.slice Ad nd cd] V.drew/\jh V.drew X12 24 #[.int .i64 0,.slice none 0 0])/\(Below V.heap.size V V.drew/\V.heap.size<=V.drew.heap.size)):=ja ⟨Kept.keep (S:=λW=>(EaI w X8 X9 X10 a2 A2 n2 c2 at2 b2 B2 m2 e2 bt2 #[.int .i64 c1,.slice Ac nc cc,.int .i64 d1,.slice Ad nd cd] W/\jh W X12 24 #[.int .i64 0,.slice none 0 0])) _ _ ⟨HE1.o,HN1.o⟩ (Below.drew (Below.refl _ _)),Below.drew (Below.refl _ _),Nat.le_refl _⟩
     refine zV 10 (λW'=>Below V.heap.size V W') (λ_ _ _=>True) [] (λW'=>(EaI w X8 X9 X10 a2 A2 n2 c2 at2 b2 B2 m2 e2 bt2 #[.int .i64 c1,.slice Ac nc cc,.int .i64 d1,.slice Ad nd cd] W'/\jh W' X12 24 #[.int .i64 0,.slice none 0 0])/\(Below V.heap.size V W'/\V.heap.size<=W'.heap.size)) (by kernel_rfl)
      (Floats.of (by decide +kernel) (λc a d v w=>by cases d<;>exact Iff.rfl) (by intro i hi;cases hi) (λ_ _ _ _ _ _=>trivial))
      (λ_ _ _ h=>h) (by decide) HGd.o (λW h=>h.2.1) (λHFL=>?_)
     refine jsq 0 HFL (λW h=>h.2.1) ?_ ?_ ?_
     rotate_left 1
     focus(intro;go_simp;try rfl)
     (try simp only[Act.put,lA,lB,lC])
     refine jsq 1 HFL (λW h=>h.2.1) ?_ ?_ ?_
     rotate_left 1
     focus(intro;go_simp;try rfl)
     (try simp only[Act.put,lA,lB,lC])
     refine jst 2 HFL (λW h=>h.2.1) ?_ ?_ ?_
     rotate_left 1
     focus(intro W hF;have hF:=hF (by decide +kernel);have e1:=(hF.cell (p:=⟨X9,0,none⟩) h9).trans x0;have e2:=(hF.cell (p:=⟨X9,1,none⟩) h9).trans x1;clear hF;go_simp;try rfl)
     (try simp only[Act.put,lA,lB,lC])
     refine jsq 3 HFL (λW h=>h.2.1) ?_ ?_ ?_
     rotate_left 1
     focus(intro;go_simp;try rfl)
     (try simp only[Act.put,lA,lB,lC])
     refine jsq 4 HFL (λW h=>h.2.1) ?_ ?_ ?_
     rotate_left 1
     focus(intro;go_simp;try rfl)
     (try simp only[Act.put,lA,lB,lC])
     refine jst 5 HFL (λW h=>h.2.1) ?_ ?_ ?_
     rotate_left 1
     focus(intro W hF;have hF:=hF (by decide +kernel);have e1:=(hF.cell (p:=⟨X10,0,none⟩) h10).trans y0;have e2:=(hF.cell (p:=⟨X10,1,none⟩) h10).trans y1;clear hF;go_simp;try rfl)
     (try simp only[Act.put,lA,lB,lC])
     refine jg.on 6 (λx:Sl=>.tuple #[.agg #[.int .i64 s1,.slice x.1 x.2.1 x.2.2],.int .i64 s3]) (λx W=>zf3 w.heap.size x s2 W) rfl rfl HFL (by decide +kernel) (λW h=>h.2.1) (λW hG K' hK=>?_) (λx6 hF6=>?_)
     focus
      have HSZ:=ja hG.1.1.1.1.1.1.1.2
      have HC:=ja (jat5 a2 A2 n2 c2 at2 c1 Ac nc cc ct  W.heap.size W (PT.read hG.1.1.1.2) (Rq.more (HPC.o W hG.1.1.1.1.1.1.1.1) hG.1.1.1.1.1.1.1.2) (Nat.le_refl _) )
      rw[HCQ.o] at HC
      clear hG
      go_simp
      go_wp2_with (first
       | (go_at_call 42;refine HC.o.mono ?_;rintro e w6 ⟨A,n,c,rfl,ho,hb⟩
          have HO:=ja (jO ho HSZ.o);have HBB:=ja hb;clear ho hb))
      exact hK.out (A,n,c) _ HO.o HBB.o
     (try simp only[Act.put,lA,lB,lC])
     refine jsq 7 HFL hF6 ?_ ?_ ?_
     rotate_left 1
     focus(intro;go_simp;try rfl)
     (try simp only[Act.put,lA,lB,lC])
     refine jsq 8 HFL hF6 ?_ ?_ ?_
     rotate_left 1
     focus(intro;go_simp;try rfl)
     (try simp only[Act.put,lA,lB,lC])
     refine jsq 9 HFL hF6 ?_ ?_ ?_
     rotate_left 1
     focus(intro;go_simp;try rfl)
     (try simp only[Act.put,lA,lB,lC])
     refine jg.fin rfl hF6 (λW5 hG jb=>?_)
     have HE5:=ja hG.1.1.1
     have HN5:=ja hG.1.1.2
     have HO5:=ja hG.2
     clear hG HGd HFL hF6 HE1 HN1 x0 x1 x2 x3 y0 y1 y2 y3 h9 h10
     obtain⟨q0,q1,qf0,qf1⟩:=HN5.o.two
     refine je 10 rfl (by decide +kernel) (λK hK=>?_)
     go_simp
     refine hK.out _ _ ⟨trivial,λh=>absurd h (by decide +kernel),λ_=>trivial⟩ (λjb=>?_)
     clear hK K
     (try simp only[Act.put,lA,lB,lC])
     refine jc 11 rfl (by decide +kernel) (λc a w h=>by first|exact h|(cases h;done)) (by rfl) (v:=?_) ?_ jb (λjd=>?_)
     rotate_left 1
     focus (intro w' hSw;clear hSw;go_simp;try rfl)
     clear jb
     rename jf _ _ _ _ _ _ _=>jb
     (try simp only[Act.put,lA,lB,lC])
     refine jl (by decide +kernel) ?_
     clear jb
     clear q0 q1 qf0 qf1
     obtain⟨A6,n6,c6⟩:=x6
     dsimp only at HO5 ⊢
     have HE6:=ja (HE5.o.put HN5.o H12.o.1 H12.o.2.1 H12.o.2.2.1 H12.o.2.2.2 (.int .i64 s1) (.slice A6 n6 c6))
     have HT6:Hid (PT w A6 n6 c6 s2 ((W5.setCell ⟨X12,0,none⟩ (.int .i64 s1)).setCell ⟨X12,1,none⟩ (.slice A6 n6 c6))):=ja ⟨HE6.o.1.1.1.1.1.2,.inr (jC (jC HO5.o HN5.o (i:=0) (u:=.int .i64 s1) (by decide)) (HN5.o.set_ 0 _) (i:=1) (u:=.slice A6 n6 c6) (by decide))⟩
     have HN6:=ja ((HN5.o.set_ 0 (.int .i64 s1)).set_ 1 (.slice A6 n6 c6))
     clear HE5 HN5 HO5
     generalize (W5.setCell ⟨X12,0,none⟩ (.int .i64 s1)).setCell ⟨X12,1,none⟩ (.slice A6 n6 c6)=W6 at *
     exact HJ.o _ _ ⟨rfl,A6,n6,c6,⟨HE6.o,HT6.o⟩,HN6.o⟩ (by kernel_rfl)
    ·have HCQ:Hid (jn7 a2 at2 c1 ct=(s1,s2,s3)):=ja (by have h:=HQ.o;rw[HF.o] at h;exact h)
     go_upto_region 14 with fail
     obtain⟨x0,x1,x2,x3⟩:=HE1.o.1.1.1.2.four
     obtain⟨y0,y1,y2,y3⟩:=HE1.o.1.1.2.four
     have h9:X9<V.heap.size:=HE1.o.1.1.1.2.lt
     have h10:X10<V.heap.size:=HE1.o.1.1.2.lt
     have HGd:Hid ((EaI w X8 X9 X10 a2 A2 n2 c2 at2 b2 B2 m2 e2 bt2 #[.int .i64 c1,.slice Ac nc cc,.int .i64 d1,.slice Ad nd cd] V.drew/\jh V.drew X12 24 #[.int .i64 0,.slice none 0 0])/\(Below V.heap.size V V.drew/\V.heap.size<=V.drew.heap.size)):=ja ⟨Kept.keep (S:=λW=>(EaI w X8 X9 X10 a2 A2 n2 c2 at2 b2 B2 m2 e2 bt2 #[.int .i64 c1,.slice Ac nc cc,.int .i64 d1,.slice Ad nd cd] W/\jh W X12 24 #[.int .i64 0,.slice none 0 0])) _ _ ⟨HE1.o,HN1.o⟩ (Below.drew (Below.refl _ _)),Below.drew (Below.refl _ _),Nat.le_refl _⟩
     refine zV 10 (λW'=>Below V.heap.size V W') (λ_ _ _=>True) [] (λW'=>(EaI w X8 X9 X10 a2 A2 n2 c2 at2 b2 B2 m2 e2 bt2 #[.int .i64 c1,.slice Ac nc cc,.int .i64 d1,.slice Ad nd cd] W'/\jh W' X12 24 #[.int .i64 0,.slice none 0 0])/\(Below V.heap.size V W'/\V.heap.size<=W'.heap.size)) (by kernel_rfl)
      (Floats.of (by decide +kernel) (λc a d v w=>by cases d<;>exact Iff.rfl) (by intro i hi;cases hi) (λ_ _ _ _ _ _=>trivial))
      (λ_ _ _ h=>h) (by decide) HGd.o (λW h=>h.2.1) (λHFL=>?_)
     refine jsq 0 HFL (λW h=>h.2.1) ?_ ?_ ?_
     rotate_left 1
     focus(intro;go_simp;try rfl)
     (try simp only[Act.put,lA,lB,lC])
     refine jsq 1 HFL (λW h=>h.2.1) ?_ ?_ ?_
     rotate_left 1
     focus(intro;go_simp;try rfl)
     (try simp only[Act.put,lA,lB,lC])
     refine jst 2 HFL (λW h=>h.2.1) ?_ ?_ ?_
     rotate_left 1
     focus(intro W hF;have hF:=hF (by decide +kernel);have e1:=(hF.cell (p:=⟨X9,0,none⟩) h9).trans x0;have e2:=(hF.cell (p:=⟨X9,1,none⟩) h9).trans x1;clear hF;go_simp;try rfl)
     (try simp only[Act.put,lA,lB,lC])
     refine jsq 3 HFL (λW h=>h.2.1) ?_ ?_ ?_
     rotate_left 1
     focus(intro;go_simp;try rfl)
     (try simp only[Act.put,lA,lB,lC])
     refine jsq 4 HFL (λW h=>h.2.1) ?_ ?_ ?_
     rotate_left 1
     focus(intro;go_simp;try rfl)
     (try simp only[Act.put,lA,lB,lC])
     refine jst 5 HFL (λW h=>h.2.1) ?_ ?_ ?_
     rotate_left 1
     focus(intro W hF;have hF:=hF (by decide +kernel);have e1:=(hF.cell (p:=⟨X10,0,none⟩) h10).trans y0;have e2:=(hF.cell (p:=⟨X10,1,none⟩) h10).trans y1;clear hF;go_simp;try rfl)
     (try simp only[Act.put,lA,lB,lC])
     refine jg.on 6 (λx:Sl=>.tuple #[.agg #[.int .i64 s1,.slice x.1 x.2.1 x.2.2],.int .i64 s3]) (λx W=>zf3 w.heap.size x s2 W) rfl rfl HFL (by decide +kernel) (λW h=>h.2.1) (λW hG K' hK=>?_) (λx6 hF6=>?_)
     focus
      have HSZ:=ja hG.1.1.1.1.1.1.1.2
      have HC:=ja (jct4 a2 A2 n2 c2 at2 c1 Ac nc cc ct  W.heap.size W (PT.read hG.1.1.1.2) (Rq.more (HPC.o W hG.1.1.1.1.1.1.1.1) hG.1.1.1.1.1.1.1.2) (Nat.le_refl _) )
      rw[HCQ.o] at HC
      clear hG
      go_simp
      go_wp2_with (first
       | (go_at_call 90;refine HC.o.mono ?_;rintro e w6 ⟨A,n,c,rfl,ho,hb⟩
          have HO:=ja (jO ho HSZ.o);have HBB:=ja hb;clear ho hb))
      exact hK.out (A,n,c) _ HO.o HBB.o
     (try simp only[Act.put,lA,lB,lC])
     refine jsq 7 HFL hF6 ?_ ?_ ?_
     rotate_left 1
     focus(intro;go_simp;try rfl)
     (try simp only[Act.put,lA,lB,lC])
     refine jsq 8 HFL hF6 ?_ ?_ ?_
     rotate_left 1
     focus(intro;go_simp;try rfl)
     (try simp only[Act.put,lA,lB,lC])
     refine jsq 9 HFL hF6 ?_ ?_ ?_
     rotate_left 1
     focus(intro;go_simp;try rfl)
     (try simp only[Act.put,lA,lB,lC])
     refine jg.fin rfl hF6 (λW5 hG jb=>?_)
     have HE5:=ja hG.1.1.1
     have HN5:=ja hG.1.1.2
     have HO5:=ja hG.2
     clear hG HGd HFL hF6 HE1 HN1 x0 x1 x2 x3 y0 y1 y2 y3 h9 h10
     obtain⟨q0,q1,qf0,qf1⟩:=HN5.o.two
     refine je 10 rfl (by decide +kernel) (λK hK=>?_)
     go_simp
     refine hK.out _ _ ⟨trivial,λh=>absurd h (by decide +kernel),λ_=>trivial⟩ (λjb=>?_)
     clear hK K
     (try simp only[Act.put,lA,lB,lC])
     refine jc 11 rfl (by decide +kernel) (λc a w h=>by first|exact h|(cases h;done)) (by rfl) (v:=?_) ?_ jb (λjd=>?_)
     rotate_left 1
     focus (intro w' hSw;clear hSw;go_simp;try rfl)
     clear jb
     rename jf _ _ _ _ _ _ _=>jb
     (try simp only[Act.put,lA,lB,lC])
     refine jl (by decide +kernel) ?_
     clear jb
     clear q0 q1 qf0 qf1
     obtain⟨A6,n6,c6⟩:=x6
     dsimp only at HO5 ⊢
     have HE6:=ja (HE5.o.put HN5.o H12.o.1 H12.o.2.1 H12.o.2.2.1 H12.o.2.2.2 (.int .i64 s1) (.slice A6 n6 c6))
     have HT6:Hid (PT w A6 n6 c6 s2 ((W5.setCell ⟨X12,0,none⟩ (.int .i64 s1)).setCell ⟨X12,1,none⟩ (.slice A6 n6 c6))):=ja ⟨HE6.o.1.1.1.1.1.2,.inr (jC (jC HO5.o HN5.o (i:=0) (u:=.int .i64 s1) (by decide)) (HN5.o.set_ 0 _) (i:=1) (u:=.slice A6 n6 c6) (by decide))⟩
     have HN6:=ja ((HN5.o.set_ 0 (.int .i64 s1)).set_ 1 (.slice A6 n6 c6))
     clear HE5 HN5 HO5
     generalize (W5.setCell ⟨X12,0,none⟩ (.int .i64 s1)).setCell ⟨X12,1,none⟩ (.slice A6 n6 c6)=W6 at *
     exact HJ.o _ _ ⟨rfl,A6,n6,c6,⟨HE6.o,HT6.o⟩,HN6.o⟩ (by kernel_rfl)
    ·have HCQ:Hid (jL a2 at2 c1 ct (-1)=(s1,s2,s3)):=ja (by have h:=HQ.o;rw[HF.o] at h;exact h)
     go_upto_region 10 with fail
     obtain⟨x0,x1,x2,x3⟩:=HE1.o.1.1.1.2.four
     obtain⟨y0,y1,y2,y3⟩:=HE1.o.1.1.2.four
     have h9:X9<V.heap.size:=HE1.o.1.1.1.2.lt
     have h10:X10<V.heap.size:=HE1.o.1.1.2.lt
     have HGd:Hid ((EaI w X8 X9 X10 a2 A2 n2 c2 at2 b2 B2 m2 e2 bt2 #[.int .i64 c1,.slice Ac nc cc,.int .i64 d1,.slice Ad nd cd] V.drew/\jh V.drew X12 24 #[.int .i64 0,.slice none 0 0])/\(Below V.heap.size V V.drew/\V.heap.size<=V.drew.heap.size)):=ja ⟨Kept.keep (S:=λW=>(EaI w X8 X9 X10 a2 A2 n2 c2 at2 b2 B2 m2 e2 bt2 #[.int .i64 c1,.slice Ac nc cc,.int .i64 d1,.slice Ad nd cd] W/\jh W X12 24 #[.int .i64 0,.slice none 0 0])) _ _ ⟨HE1.o,HN1.o⟩ (Below.drew (Below.refl _ _)),Below.drew (Below.refl _ _),Nat.le_refl _⟩
     refine zV 10 (λW'=>Below V.heap.size V W') (λ_ _ _=>True) [] (λW'=>(EaI w X8 X9 X10 a2 A2 n2 c2 at2 b2 B2 m2 e2 bt2 #[.int .i64 c1,.slice Ac nc cc,.int .i64 d1,.slice Ad nd cd] W'/\jh W' X12 24 #[.int .i64 0,.slice none 0 0])/\(Below V.heap.size V W'/\V.heap.size<=W'.heap.size)) (by kernel_rfl)
      (Floats.of (by decide +kernel) (λc a d v w=>by cases d<;>exact Iff.rfl) (by intro i hi;cases hi) (λ_ _ _ _ _ _=>trivial))
      (λ_ _ _ h=>h) (by decide) HGd.o (λW h=>h.2.1) (λHFL=>?_)
     refine jsq 0 HFL (λW h=>h.2.1) ?_ ?_ ?_
     rotate_left 1
     focus(intro;go_simp;try rfl)
     (try simp only[Act.put,lA,lB,lC])
     refine jsq 1 HFL (λW h=>h.2.1) ?_ ?_ ?_
     rotate_left 1
     focus(intro;go_simp;try rfl)
     (try simp only[Act.put,lA,lB,lC])
     refine jst 2 HFL (λW h=>h.2.1) ?_ ?_ ?_
     rotate_left 1
     focus(intro W hF;have hF:=hF (by decide +kernel);have e1:=(hF.cell (p:=⟨X9,0,none⟩) h9).trans x0;have e2:=(hF.cell (p:=⟨X9,1,none⟩) h9).trans x1;clear hF;go_simp;try rfl)
     (try simp only[Act.put,lA,lB,lC])
     refine jsq 3 HFL (λW h=>h.2.1) ?_ ?_ ?_
     rotate_left 1
     focus(intro;go_simp;try rfl)
     (try simp only[Act.put,lA,lB,lC])
     refine jsq 4 HFL (λW h=>h.2.1) ?_ ?_ ?_
     rotate_left 1
     focus(intro;go_simp;try rfl)
     (try simp only[Act.put,lA,lB,lC])
     refine jst 5 HFL (λW h=>h.2.1) ?_ ?_ ?_
     rotate_left 1
     focus(intro W hF;have hF:=hF (by decide +kernel);have e1:=(hF.cell (p:=⟨X10,0,none⟩) h10).trans y0;have e2:=(hF.cell (p:=⟨X10,1,none⟩) h10).trans y1;clear hF;go_simp;try rfl)
     (try simp only[Act.put,lA,lB,lC])
     refine jg.on 6 (λx:Sl=>.tuple #[.agg #[.int .i64 s1,.slice x.1 x.2.1 x.2.2],.int .i64 s3]) (λx W=>zf3 w.heap.size x s2 W) rfl rfl HFL (by decide +kernel) (λW h=>h.2.1) (λW hG K' hK=>?_) (λx6 hF6=>?_)
     focus
      have HSZ:=ja hG.1.1.1.1.1.1.1.2
      have HC:=ja (zd1 a2 A2 n2 c2 at2 c1 Ac nc cc ct (-1) W.heap.size W (PT.read hG.1.1.1.2) (Rq.more (HPC.o W hG.1.1.1.1.1.1.1.1) hG.1.1.1.1.1.1.1.2) (Nat.le_refl _) (by omega))
      rw[HCQ.o] at HC
      clear hG
      go_simp
      go_wp2_with (first
       | (go_at_call 57;refine HC.o.mono ?_;rintro e w6 ⟨A,n,c,rfl,ho,hb⟩
          have HO:=ja (jO ho HSZ.o);have HBB:=ja hb;clear ho hb))
      exact hK.out (A,n,c) _ HO.o HBB.o
     (try simp only[Act.put,lA,lB,lC])
     refine jsq 7 HFL hF6 ?_ ?_ ?_
     rotate_left 1
     focus(intro;go_simp;try rfl)
     (try simp only[Act.put,lA,lB,lC])
     refine jsq 8 HFL hF6 ?_ ?_ ?_
     rotate_left 1
     focus(intro;go_simp;try rfl)
     (try simp only[Act.put,lA,lB,lC])
     refine jsq 9 HFL hF6 ?_ ?_ ?_
     rotate_left 1
     focus(intro;go_simp;try rfl)
     (try simp only[Act.put,lA,lB,lC])
     refine jg.fin rfl hF6 (λW5 hG jb=>?_)
     have HE5:=ja hG.1.1.1
     have HN5:=ja hG.1.1.2
     have HO5:=ja hG.2
     clear hG HGd HFL hF6 HE1 HN1 x0 x1 x2 x3 y0 y1 y2 y3 h9 h10
     obtain⟨q0,q1,qf0,qf1⟩:=HN5.o.two
     refine je 10 rfl (by decide +kernel) (λK hK=>?_)
     go_simp
     refine hK.out _ _ ⟨trivial,λh=>absurd h (by decide +kernel),λ_=>trivial⟩ (λjb=>?_)
     clear hK K
     (try simp only[Act.put,lA,lB,lC])
     refine jc 11 rfl (by decide +kernel) (λc a w h=>by first|exact h|(cases h;done)) (by rfl) (v:=?_) ?_ jb (λjd=>?_)
     rotate_left 1
     focus (intro w' hSw;clear hSw;go_simp;try rfl)
     clear jb
     rename jf _ _ _ _ _ _ _=>jb
     (try simp only[Act.put,lA,lB,lC])
     refine jl (by decide +kernel) ?_
     clear jb
     clear q0 q1 qf0 qf1
     obtain⟨A6,n6,c6⟩:=x6
     dsimp only at HO5 ⊢
     have HE6:=ja (HE5.o.put HN5.o H12.o.1 H12.o.2.1 H12.o.2.2.1 H12.o.2.2.2 (.int .i64 s1) (.slice A6 n6 c6))
     have HT6:Hid (PT w A6 n6 c6 s2 ((W5.setCell ⟨X12,0,none⟩ (.int .i64 s1)).setCell ⟨X12,1,none⟩ (.slice A6 n6 c6))):=ja ⟨HE6.o.1.1.1.1.1.2,.inr (jC (jC HO5.o HN5.o (i:=0) (u:=.int .i64 s1) (by decide)) (HN5.o.set_ 0 _) (i:=1) (u:=.slice A6 n6 c6) (by decide))⟩
     have HN6:=ja ((HN5.o.set_ 0 (.int .i64 s1)).set_ 1 (.slice A6 n6 c6))
     clear HE5 HN5 HO5
     generalize (W5.setCell ⟨X12,0,none⟩ (.int .i64 s1)).setCell ⟨X12,1,none⟩ (.slice A6 n6 c6)=W6 at *
     exact HJ.o _ _ ⟨rfl,A6,n6,c6,⟨HE6.o,HT6.o⟩,HN6.o⟩ (by kernel_rfl)
   clear HE1 HN1
   obtain⟨h13,A6,n6,c6,⟨hE,hT⟩,hN⟩:=hR
   have HE6:=ja hE
   have HT6:=ja hT
   have HN6:=ja hN
   clear hE hT hN hK1 HK0
   simp only[List.foldl_cons,List.foldl_nil,Act.put,lA,lB,lC,h13]
   clear h13
   by_cases hs:s3=0
   rotate_left 1
   focus
    have hsb:(s3 !=0)=true:=by simpa using hs
    have HV:Hid (res=((0,[]),(0,[]),s3)):=ja (by
     rw[<-hres]
     rw[HQ.o,if_pos hs])
    obtain⟨r0,r1,r2,r3,r4,rf0,rf1,rf2,rf3,rf4⟩:=HE6.o.1.1.1.1.2.five
    clear HQ
    go_wp2
    exact HPOST.o _ _ 0 none 0 0 [] 0 none 0 0 [] s3 HV.o (Rq.empty _ _ _ _) (Rq.empty _ _ _ _) (((((HE6.o.1.1.1.1.1.1.setCell (p:=⟨X8,0,none⟩) h8w _).setCell (p:=⟨X8,1,none⟩) h8w _).setCell (p:=⟨X8,2,none⟩) h8w _).setCell (p:=⟨X8,3,none⟩) h8w _).setCell (p:=⟨X8,4,none⟩) h8w _) (((((HE6.o.1.1.1.1.2.set_ 0 _).set_ 1 _).set_ 2 _).set_ 3 _).set_ 4 _) rfl rfl
   subst hs
   obtain⟨q0,q1,_,_⟩:=HN6.o.two
   obtain⟨p0,p1,p2,p3,pf0,pf1,pf2,pf3⟩:=HE6.o.1.1.1.2.fourF
   go_wp2
   exact⟨⟨1,s1,A6,n6,c6,s2,b2,B2,m2,e2,bt2,by omega,by go_num,.inr (.inl ⟨rfl,by rw[HQ.o],by rw[HQ.o];rfl,rfl⟩),HE6.o.first HT6.o h9w h89 h109⟩,by simp only[intOf];omega⟩
  ·injection hB with hB1 hB2;subst hB1;subst hB2
   have HA:=ja hA;have H1:=ja h1
   clear hA h1
   obtain⟨s1,s2,s3,hq⟩:∃p q r,f (b2,bt2) (d1,dt)=(p,q,r):=⟨_,_,_,rfl⟩
   have HQ:=ja hq
   clear hq
   go_upto_region 9 with fail
   have HE1:=ja (Kept.keep (S:=λW=>EaI w X8 X9 X10 a2 A2 n2 c2 at2 b2 B2 m2 e2 bt2 #[.int .i64 c1,.slice Ac nc cc,.int .i64 d1,.slice Ad nd cd] W) _ _ HE.o ((Below.refl wr.heap.size wr).alloc (Nat.le_refl _) (.cells #[.int .i64 0,.slice none 0 0] 24)))
   have HN1:=ja (jh.new wr 24 #[.int .i64 0,.slice none 0 0])
   have H12:Hid (w.heap.size<=wr.heap.size/\X8≠wr.heap.size/\X9≠wr.heap.size/\X10≠wr.heap.size):=ja ⟨HE.o.1.1.1.1.1.2,Nat.ne_of_lt HE.o.1.1.1.1.2.lt,Nat.ne_of_lt HE.o.1.1.1.2.lt,Nat.ne_of_lt HE.o.1.1.2.lt⟩
   obtain⟨X12,hX⟩:∃X,X=wr.heap.size:=⟨_,rfl⟩
   rw[<-hX] at HN1 H12 ⊢
   clear hX HE
   generalize wr.alloc (.cells #[.int .i64 0,.slice none 0 0] 24)=V at *
   rename (∀(a:Act) (w:World),Code.wp _ _ _ a w->(_:Act->World->Prop) a w)=>hK0
   have HK0:=And.intro trivial hK0
   clear hK0
   rename (∀(a:Act) (w:World),Code.wp _ _ _ a w->(_:Act->World->Prop) a w)=>hK1
   refine jda0 [30,41,42,53,54,43,44,45,46,47,48,49,50,51,52,55,56,57,58,59,60,61,62,63,64,31,32,33,34,35,36,37,38,39,40,13] (λv W=>v 13=.int .i64 s3/\∃A6 n6 c6,(EaI w X8 X9 X10 a2 A2 n2 c2 at2 b2 B2 m2 e2 bt2 #[.int .i64 c1,.slice Ac nc cc,.int .i64 d1,.slice Ad nd cd] W/\PT w A6 n6 c6 s2 W)/\jh W X12 24 #[.int .i64 s1,.slice A6 n6 c6]) hK1 (λv W6 hR=>?_) (λHJ=>?_)
   rotate_left 1
   focus
    have hK0:=HK0.2
    clear HK0 hK1
    rcases hop with rfl|rfl|rfl
    ·have HCQ:Hid (jc7 b2 bt2 d1 dt=(s1,s2,s3)):=ja (by have h:=HQ.o;rw[HF.o] at h;exact h)
     go_upto_region 12 with fail
     obtain⟨x0,x1,x2,x3⟩:=HE1.o.1.1.1.2.four
     obtain⟨y0,y1,y2,y3⟩:=HE1.o.1.1.2.four
     have h9:X9<V.heap.size:=HE1.o.1.1.1.2.lt
     have h10:X10<V.heap.size:=HE1.o.1.1.2.lt
     have HGd:Hid ((EaI w X8 X9 X10 a2 A2 n2 c2 at2 b2 B2 m2 e2 bt2 #[.int .i64 c1,.slice Ac nc cc,.int .i64 d1,.slice Ad nd cd] V.drew/\jh V.drew X12 24 #[.int .i64 0,.slice none 0 0])/\(Below V.heap.size V V.drew/\V.heap.size<=V.drew.heap.size)):=ja ⟨Kept.keep (S:=λW=>(EaI w X8 X9 X10 a2 A2 n2 c2 at2 b2 B2 m2 e2 bt2 #[.int .i64 c1,.slice Ac nc cc,.int .i64 d1,.slice Ad nd cd] W/\jh W X12 24 #[.int .i64 0,.slice none 0 0])) _ _ ⟨HE1.o,HN1.o⟩ (Below.drew (Below.refl _ _)),Below.drew (Below.refl _ _),Nat.le_refl _⟩
     refine zV 10 (λW'=>Below V.heap.size V W') (λ_ _ _=>True) [] (λW'=>(EaI w X8 X9 X10 a2 A2 n2 c2 at2 b2 B2 m2 e2 bt2 #[.int .i64 c1,.slice Ac nc cc,.int .i64 d1,.slice Ad nd cd] W'/\jh W' X12 24 #[.int .i64 0,.slice none 0 0])/\(Below V.heap.size V W'/\V.heap.size<=W'.heap.size)) (by kernel_rfl)
      (Floats.of (by decide +kernel) (λc a d v w=>by cases d<;>exact Iff.rfl) (by intro i hi;cases hi) (λ_ _ _ _ _ _=>trivial))
      (λ_ _ _ h=>h) (by decide) HGd.o (λW h=>h.2.1) (λHFL=>?_)
     refine jsq 0 HFL (λW h=>h.2.1) ?_ ?_ ?_
     rotate_left 1
     focus(intro;go_simp;try rfl)
     (try simp only[Act.put,lA,lB,lC])
     refine jsq 1 HFL (λW h=>h.2.1) ?_ ?_ ?_
     rotate_left 1
     focus(intro;go_simp;try rfl)
     (try simp only[Act.put,lA,lB,lC])
     refine jst 2 HFL (λW h=>h.2.1) ?_ ?_ ?_
     rotate_left 1
     focus(intro W hF;have hF:=hF (by decide +kernel);have e1:=(hF.cell (p:=⟨X9,2,none⟩) h9).trans x2;have e2:=(hF.cell (p:=⟨X9,3,none⟩) h9).trans x3;clear hF;go_simp;try rfl)
     (try simp only[Act.put,lA,lB,lC])
     refine jsq 3 HFL (λW h=>h.2.1) ?_ ?_ ?_
     rotate_left 1
     focus(intro;go_simp;try rfl)
     (try simp only[Act.put,lA,lB,lC])
     refine jsq 4 HFL (λW h=>h.2.1) ?_ ?_ ?_
     rotate_left 1
     focus(intro;go_simp;try rfl)
     (try simp only[Act.put,lA,lB,lC])
     refine jst 5 HFL (λW h=>h.2.1) ?_ ?_ ?_
     rotate_left 1
     focus(intro W hF;have hF:=hF (by decide +kernel);have e1:=(hF.cell (p:=⟨X10,2,none⟩) h10).trans y2;have e2:=(hF.cell (p:=⟨X10,3,none⟩) h10).trans y3;clear hF;go_simp;try rfl)
     (try simp only[Act.put,lA,lB,lC])
     refine jg.on 6 (λx:Sl=>.tuple #[.agg #[.int .i64 s1,.slice x.1 x.2.1 x.2.2],.int .i64 s3]) (λx W=>zf3 w.heap.size x s2 W) rfl rfl HFL (by decide +kernel) (λW h=>h.2.1) (λW hG K' hK=>?_) (λx6 hF6=>?_)
     focus
      have HSZ:=ja hG.1.1.1.1.1.1.1.2
      have HC:=ja (jat5 b2 B2 m2 e2 bt2 d1 Ad nd cd dt  W.heap.size W (PT.read hG.1.1.2) (Rq.more (HPD.o W hG.1.1.1.1.1.1.1.1) hG.1.1.1.1.1.1.1.2) (Nat.le_refl _) )
      rw[HCQ.o] at HC
      clear hG
      go_simp
      go_wp2_with (first
       | (go_at_call 42;refine HC.o.mono ?_;rintro e w6 ⟨A,n,c,rfl,ho,hb⟩
          have HO:=ja (jO ho HSZ.o);have HBB:=ja hb;clear ho hb))
      exact hK.out (A,n,c) _ HO.o HBB.o
     (try simp only[Act.put,lA,lB,lC])
     refine jsq 7 HFL hF6 ?_ ?_ ?_
     rotate_left 1
     focus(intro;go_simp;try rfl)
     (try simp only[Act.put,lA,lB,lC])
     refine jsq 8 HFL hF6 ?_ ?_ ?_
     rotate_left 1
     focus(intro;go_simp;try rfl)
     (try simp only[Act.put,lA,lB,lC])
     refine jsq 9 HFL hF6 ?_ ?_ ?_
     rotate_left 1
     focus(intro;go_simp;try rfl)
     (try simp only[Act.put,lA,lB,lC])
     refine jg.fin rfl hF6 (λW5 hG jb=>?_)
     have HE5:=ja hG.1.1.1
     have HN5:=ja hG.1.1.2
     have HO5:=ja hG.2
     clear hG HGd HFL hF6 HE1 HN1 x0 x1 x2 x3 y0 y1 y2 y3 h9 h10
     obtain⟨q0,q1,qf0,qf1⟩:=HN5.o.two
     refine je 10 rfl (by decide +kernel) (λK hK=>?_)
     go_simp
     refine hK.out _ _ ⟨trivial,λh=>absurd h (by decide +kernel),λ_=>trivial⟩ (λjb=>?_)
     clear hK K
     (try simp only[Act.put,lA,lB,lC])
     refine jc 11 rfl (by decide +kernel) (λc a w h=>by first|exact h|(cases h;done)) (by rfl) (v:=?_) ?_ jb (λjd=>?_)
     rotate_left 1
     focus (intro w' hSw;clear hSw;go_simp;try rfl)
     clear jb
     rename jf _ _ _ _ _ _ _=>jb
     (try simp only[Act.put,lA,lB,lC])
     refine jl (by decide +kernel) ?_
     clear jb
     clear q0 q1 qf0 qf1
     obtain⟨A6,n6,c6⟩:=x6
     dsimp only at HO5 ⊢
     have HE6:=ja (HE5.o.put HN5.o H12.o.1 H12.o.2.1 H12.o.2.2.1 H12.o.2.2.2 (.int .i64 s1) (.slice A6 n6 c6))
     have HT6:Hid (PT w A6 n6 c6 s2 ((W5.setCell ⟨X12,0,none⟩ (.int .i64 s1)).setCell ⟨X12,1,none⟩ (.slice A6 n6 c6))):=ja ⟨HE6.o.1.1.1.1.1.2,.inr (jC (jC HO5.o HN5.o (i:=0) (u:=.int .i64 s1) (by decide)) (HN5.o.set_ 0 _) (i:=1) (u:=.slice A6 n6 c6) (by decide))⟩
     have HN6:=ja ((HN5.o.set_ 0 (.int .i64 s1)).set_ 1 (.slice A6 n6 c6))
     clear HE5 HN5 HO5
     generalize (W5.setCell ⟨X12,0,none⟩ (.int .i64 s1)).setCell ⟨X12,1,none⟩ (.slice A6 n6 c6)=W6 at *
     exact HJ.o _ _ ⟨rfl,A6,n6,c6,⟨HE6.o,HT6.o⟩,HN6.o⟩ (by kernel_rfl)
    ·have HCQ:Hid (jn7 b2 bt2 d1 dt=(s1,s2,s3)):=ja (by have h:=HQ.o;rw[HF.o] at h;exact h)
     go_upto_region 14 with fail
     obtain⟨x0,x1,x2,x3⟩:=HE1.o.1.1.1.2.four
     obtain⟨y0,y1,y2,y3⟩:=HE1.o.1.1.2.four
     have h9:X9<V.heap.size:=HE1.o.1.1.1.2.lt
     have h10:X10<V.heap.size:=HE1.o.1.1.2.lt
     have HGd:Hid ((EaI w X8 X9 X10 a2 A2 n2 c2 at2 b2 B2 m2 e2 bt2 #[.int .i64 c1,.slice Ac nc cc,.int .i64 d1,.slice Ad nd cd] V.drew/\jh V.drew X12 24 #[.int .i64 0,.slice none 0 0])/\(Below V.heap.size V V.drew/\V.heap.size<=V.drew.heap.size)):=ja ⟨Kept.keep (S:=λW=>(EaI w X8 X9 X10 a2 A2 n2 c2 at2 b2 B2 m2 e2 bt2 #[.int .i64 c1,.slice Ac nc cc,.int .i64 d1,.slice Ad nd cd] W/\jh W X12 24 #[.int .i64 0,.slice none 0 0])) _ _ ⟨HE1.o,HN1.o⟩ (Below.drew (Below.refl _ _)),Below.drew (Below.refl _ _),Nat.le_refl _⟩
     refine zV 10 (λW'=>Below V.heap.size V W') (λ_ _ _=>True) [] (λW'=>(EaI w X8 X9 X10 a2 A2 n2 c2 at2 b2 B2 m2 e2 bt2 #[.int .i64 c1,.slice Ac nc cc,.int .i64 d1,.slice Ad nd cd] W'/\jh W' X12 24 #[.int .i64 0,.slice none 0 0])/\(Below V.heap.size V W'/\V.heap.size<=W'.heap.size)) (by kernel_rfl)
      (Floats.of (by decide +kernel) (λc a d v w=>by cases d<;>exact Iff.rfl) (by intro i hi;cases hi) (λ_ _ _ _ _ _=>trivial))
      (λ_ _ _ h=>h) (by decide) HGd.o (λW h=>h.2.1) (λHFL=>?_)
     refine jsq 0 HFL (λW h=>h.2.1) ?_ ?_ ?_
     rotate_left 1
     focus(intro;go_simp;try rfl)
     (try simp only[Act.put,lA,lB,lC])
     refine jsq 1 HFL (λW h=>h.2.1) ?_ ?_ ?_
     rotate_left 1
     focus(intro;go_simp;try rfl)
     (try simp only[Act.put,lA,lB,lC])
     refine jst 2 HFL (λW h=>h.2.1) ?_ ?_ ?_
     rotate_left 1
     focus(intro W hF;have hF:=hF (by decide +kernel);have e1:=(hF.cell (p:=⟨X9,2,none⟩) h9).trans x2;have e2:=(hF.cell (p:=⟨X9,3,none⟩) h9).trans x3;clear hF;go_simp;try rfl)
     (try simp only[Act.put,lA,lB,lC])
     refine jsq 3 HFL (λW h=>h.2.1) ?_ ?_ ?_
     rotate_left 1
     focus(intro;go_simp;try rfl)
     (try simp only[Act.put,lA,lB,lC])
     refine jsq 4 HFL (λW h=>h.2.1) ?_ ?_ ?_
     rotate_left 1
     focus(intro;go_simp;try rfl)
     (try simp only[Act.put,lA,lB,lC])
     refine jst 5 HFL (λW h=>h.2.1) ?_ ?_ ?_
     rotate_left 1
     focus(intro W hF;have hF:=hF (by decide +kernel);have e1:=(hF.cell (p:=⟨X10,2,none⟩) h10).trans y2;have e2:=(hF.cell (p:=⟨X10,3,none⟩) h10).trans y3;clear hF;go_simp;try rfl)
     (try simp only[Act.put,lA,lB,lC])
     refine jg.on 6 (λx:Sl=>.tuple #[.agg #[.int .i64 s1,.slice x.1 x.2.1 x.2.2],.int .i64 s3]) (λx W=>zf3 w.heap.size x s2 W) rfl rfl HFL (by decide +kernel) (λW h=>h.2.1) (λW hG K' hK=>?_) (λx6 hF6=>?_)
     focus
      have HSZ:=ja hG.1.1.1.1.1.1.1.2
      have HC:=ja (jct4 b2 B2 m2 e2 bt2 d1 Ad nd cd dt  W.heap.size W (PT.read hG.1.1.2) (Rq.more (HPD.o W hG.1.1.1.1.1.1.1.1) hG.1.1.1.1.1.1.1.2) (Nat.le_refl _) )
      rw[HCQ.o] at HC
      clear hG
      go_simp
      go_wp2_with (first
       | (go_at_call 90;refine HC.o.mono ?_;rintro e w6 ⟨A,n,c,rfl,ho,hb⟩
          have HO:=ja (jO ho HSZ.o);have HBB:=ja hb;clear ho hb))
      exact hK.out (A,n,c) _ HO.o HBB.o
     (try simp only[Act.put,lA,lB,lC])
     refine jsq 7 HFL hF6 ?_ ?_ ?_
     rotate_left 1
     focus(intro;go_simp;try rfl)
     (try simp only[Act.put,lA,lB,lC])
     refine jsq 8 HFL hF6 ?_ ?_ ?_
     rotate_left 1
     focus(intro;go_simp;try rfl)
     (try simp only[Act.put,lA,lB,lC])
     refine jsq 9 HFL hF6 ?_ ?_ ?_
     rotate_left 1
     focus(intro;go_simp;try rfl)
     (try simp only[Act.put,lA,lB,lC])
     refine jg.fin rfl hF6 (λW5 hG jb=>?_)
     have HE5:=ja hG.1.1.1
     have HN5:=ja hG.1.1.2
     have HO5:=ja hG.2
     clear hG HGd HFL hF6 HE1 HN1 x0 x1 x2 x3 y0 y1 y2 y3 h9 h10
     obtain⟨q0,q1,qf0,qf1⟩:=HN5.o.two
     refine je 10 rfl (by decide +kernel) (λK hK=>?_)
     go_simp
     refine hK.out _ _ ⟨trivial,λh=>absurd h (by decide +kernel),λ_=>trivial⟩ (λjb=>?_)
     clear hK K
     (try simp only[Act.put,lA,lB,lC])
     refine jc 11 rfl (by decide +kernel) (λc a w h=>by first|exact h|(cases h;done)) (by rfl) (v:=?_) ?_ jb (λjd=>?_)
     rotate_left 1
     focus (intro w' hSw;clear hSw;go_simp;try rfl)
     clear jb
     rename jf _ _ _ _ _ _ _=>jb
     (try simp only[Act.put,lA,lB,lC])
     refine jl (by decide +kernel) ?_
     clear jb
     clear q0 q1 qf0 qf1
     obtain⟨A6,n6,c6⟩:=x6
     dsimp only at HO5 ⊢
     have HE6:=ja (HE5.o.put HN5.o H12.o.1 H12.o.2.1 H12.o.2.2.1 H12.o.2.2.2 (.int .i64 s1) (.slice A6 n6 c6))
     have HT6:Hid (PT w A6 n6 c6 s2 ((W5.setCell ⟨X12,0,none⟩ (.int .i64 s1)).setCell ⟨X12,1,none⟩ (.slice A6 n6 c6))):=ja ⟨HE6.o.1.1.1.1.1.2,.inr (jC (jC HO5.o HN5.o (i:=0) (u:=.int .i64 s1) (by decide)) (HN5.o.set_ 0 _) (i:=1) (u:=.slice A6 n6 c6) (by decide))⟩
     have HN6:=ja ((HN5.o.set_ 0 (.int .i64 s1)).set_ 1 (.slice A6 n6 c6))
     clear HE5 HN5 HO5
     generalize (W5.setCell ⟨X12,0,none⟩ (.int .i64 s1)).setCell ⟨X12,1,none⟩ (.slice A6 n6 c6)=W6 at *
     exact HJ.o _ _ ⟨rfl,A6,n6,c6,⟨HE6.o,HT6.o⟩,HN6.o⟩ (by kernel_rfl)
    ·have HCQ:Hid (jL b2 bt2 d1 dt (-1)=(s1,s2,s3)):=ja (by have h:=HQ.o;rw[HF.o] at h;exact h)
     go_upto_region 10 with fail
     obtain⟨x0,x1,x2,x3⟩:=HE1.o.1.1.1.2.four
     obtain⟨y0,y1,y2,y3⟩:=HE1.o.1.1.2.four
     have h9:X9<V.heap.size:=HE1.o.1.1.1.2.lt
     have h10:X10<V.heap.size:=HE1.o.1.1.2.lt
     have HGd:Hid ((EaI w X8 X9 X10 a2 A2 n2 c2 at2 b2 B2 m2 e2 bt2 #[.int .i64 c1,.slice Ac nc cc,.int .i64 d1,.slice Ad nd cd] V.drew/\jh V.drew X12 24 #[.int .i64 0,.slice none 0 0])/\(Below V.heap.size V V.drew/\V.heap.size<=V.drew.heap.size)):=ja ⟨Kept.keep (S:=λW=>(EaI w X8 X9 X10 a2 A2 n2 c2 at2 b2 B2 m2 e2 bt2 #[.int .i64 c1,.slice Ac nc cc,.int .i64 d1,.slice Ad nd cd] W/\jh W X12 24 #[.int .i64 0,.slice none 0 0])) _ _ ⟨HE1.o,HN1.o⟩ (Below.drew (Below.refl _ _)),Below.drew (Below.refl _ _),Nat.le_refl _⟩
     refine zV 10 (λW'=>Below V.heap.size V W') (λ_ _ _=>True) [] (λW'=>(EaI w X8 X9 X10 a2 A2 n2 c2 at2 b2 B2 m2 e2 bt2 #[.int .i64 c1,.slice Ac nc cc,.int .i64 d1,.slice Ad nd cd] W'/\jh W' X12 24 #[.int .i64 0,.slice none 0 0])/\(Below V.heap.size V W'/\V.heap.size<=W'.heap.size)) (by kernel_rfl)
      (Floats.of (by decide +kernel) (λc a d v w=>by cases d<;>exact Iff.rfl) (by intro i hi;cases hi) (λ_ _ _ _ _ _=>trivial))
      (λ_ _ _ h=>h) (by decide) HGd.o (λW h=>h.2.1) (λHFL=>?_)
     refine jsq 0 HFL (λW h=>h.2.1) ?_ ?_ ?_
     rotate_left 1
     focus(intro;go_simp;try rfl)
     (try simp only[Act.put,lA,lB,lC])
     refine jsq 1 HFL (λW h=>h.2.1) ?_ ?_ ?_
     rotate_left 1
     focus(intro;go_simp;try rfl)
     (try simp only[Act.put,lA,lB,lC])
     refine jst 2 HFL (λW h=>h.2.1) ?_ ?_ ?_
     rotate_left 1
     focus(intro W hF;have hF:=hF (by decide +kernel);have e1:=(hF.cell (p:=⟨X9,2,none⟩) h9).trans x2;have e2:=(hF.cell (p:=⟨X9,3,none⟩) h9).trans x3;clear hF;go_simp;try rfl)
     (try simp only[Act.put,lA,lB,lC])
     refine jsq 3 HFL (λW h=>h.2.1) ?_ ?_ ?_
     rotate_left 1
     focus(intro;go_simp;try rfl)
     (try simp only[Act.put,lA,lB,lC])
     refine jsq 4 HFL (λW h=>h.2.1) ?_ ?_ ?_
     rotate_left 1
     focus(intro;go_simp;try rfl)
     (try simp only[Act.put,lA,lB,lC])
     refine jst 5 HFL (λW h=>h.2.1) ?_ ?_ ?_
     rotate_left 1
     focus(intro W hF;have hF:=hF (by decide +kernel);have e1:=(hF.cell (p:=⟨X10,2,none⟩) h10).trans y2;have e2:=(hF.cell (p:=⟨X10,3,none⟩) h10).trans y3;clear hF;go_simp;try rfl)
     (try simp only[Act.put,lA,lB,lC])
     refine jg.on 6 (λx:Sl=>.tuple #[.agg #[.int .i64 s1,.slice x.1 x.2.1 x.2.2],.int .i64 s3]) (λx W=>zf3 w.heap.size x s2 W) rfl rfl HFL (by decide +kernel) (λW h=>h.2.1) (λW hG K' hK=>?_) (λx6 hF6=>?_)
     focus
      have HSZ:=ja hG.1.1.1.1.1.1.1.2
      have HC:=ja (zd1 b2 B2 m2 e2 bt2 d1 Ad nd cd dt (-1) W.heap.size W (PT.read hG.1.1.2) (Rq.more (HPD.o W hG.1.1.1.1.1.1.1.1) hG.1.1.1.1.1.1.1.2) (Nat.le_refl _) (by omega))
      rw[HCQ.o] at HC
      clear hG
      go_simp
      go_wp2_with (first
       | (go_at_call 57;refine HC.o.mono ?_;rintro e w6 ⟨A,n,c,rfl,ho,hb⟩
          have HO:=ja (jO ho HSZ.o);have HBB:=ja hb;clear ho hb))
      exact hK.out (A,n,c) _ HO.o HBB.o
     (try simp only[Act.put,lA,lB,lC])
     refine jsq 7 HFL hF6 ?_ ?_ ?_
     rotate_left 1
     focus(intro;go_simp;try rfl)
     (try simp only[Act.put,lA,lB,lC])
     refine jsq 8 HFL hF6 ?_ ?_ ?_
     rotate_left 1
     focus(intro;go_simp;try rfl)
     (try simp only[Act.put,lA,lB,lC])
     refine jsq 9 HFL hF6 ?_ ?_ ?_
     rotate_left 1
     focus(intro;go_simp;try rfl)
     (try simp only[Act.put,lA,lB,lC])
     refine jg.fin rfl hF6 (λW5 hG jb=>?_)
     have HE5:=ja hG.1.1.1
     have HN5:=ja hG.1.1.2
     have HO5:=ja hG.2
     clear hG HGd HFL hF6 HE1 HN1 x0 x1 x2 x3 y0 y1 y2 y3 h9 h10
     obtain⟨q0,q1,qf0,qf1⟩:=HN5.o.two
     refine je 10 rfl (by decide +kernel) (λK hK=>?_)
     go_simp
     refine hK.out _ _ ⟨trivial,λh=>absurd h (by decide +kernel),λ_=>trivial⟩ (λjb=>?_)
     clear hK K
     (try simp only[Act.put,lA,lB,lC])
     refine jc 11 rfl (by decide +kernel) (λc a w h=>by first|exact h|(cases h;done)) (by rfl) (v:=?_) ?_ jb (λjd=>?_)
     rotate_left 1
     focus (intro w' hSw;clear hSw;go_simp;try rfl)
     clear jb
     rename jf _ _ _ _ _ _ _=>jb
     (try simp only[Act.put,lA,lB,lC])
     refine jl (by decide +kernel) ?_
     clear jb
     clear q0 q1 qf0 qf1
     obtain⟨A6,n6,c6⟩:=x6
     dsimp only at HO5 ⊢
     have HE6:=ja (HE5.o.put HN5.o H12.o.1 H12.o.2.1 H12.o.2.2.1 H12.o.2.2.2 (.int .i64 s1) (.slice A6 n6 c6))
     have HT6:Hid (PT w A6 n6 c6 s2 ((W5.setCell ⟨X12,0,none⟩ (.int .i64 s1)).setCell ⟨X12,1,none⟩ (.slice A6 n6 c6))):=ja ⟨HE6.o.1.1.1.1.1.2,.inr (jC (jC HO5.o HN5.o (i:=0) (u:=.int .i64 s1) (by decide)) (HN5.o.set_ 0 _) (i:=1) (u:=.slice A6 n6 c6) (by decide))⟩
     have HN6:=ja ((HN5.o.set_ 0 (.int .i64 s1)).set_ 1 (.slice A6 n6 c6))
     clear HE5 HN5 HO5
     generalize (W5.setCell ⟨X12,0,none⟩ (.int .i64 s1)).setCell ⟨X12,1,none⟩ (.slice A6 n6 c6)=W6 at *
     exact HJ.o _ _ ⟨rfl,A6,n6,c6,⟨HE6.o,HT6.o⟩,HN6.o⟩ (by kernel_rfl)
   clear HE1 HN1
   obtain⟨h13,A6,n6,c6,⟨hE,hT⟩,hN⟩:=hR
   have HE6:=ja hE
   have HT6:=ja hT
   have HN6:=ja hN
   clear hE hT hN hK1 HK0
   simp only[List.foldl_cons,List.foldl_nil,Act.put,lA,lB,lC,h13]
   clear h13
   by_cases hs:s3=0
   rotate_left 1
   focus
    have hsb:(s3 !=0)=true:=by simpa using hs
    have HV:Hid (res=((0,[]),(0,[]),s3)):=ja (by
     rw[<-hres]
     rw[if_neg (λh=>h H1.o),HQ.o,if_pos hs])
    obtain⟨r0,r1,r2,r3,r4,rf0,rf1,rf2,rf3,rf4⟩:=HE6.o.1.1.1.1.2.five
    clear HQ
    go_wp2
    exact HPOST.o _ _ 0 none 0 0 [] 0 none 0 0 [] s3 HV.o (Rq.empty _ _ _ _) (Rq.empty _ _ _ _) (((((HE6.o.1.1.1.1.1.1.setCell (p:=⟨X8,0,none⟩) h8w _).setCell (p:=⟨X8,1,none⟩) h8w _).setCell (p:=⟨X8,2,none⟩) h8w _).setCell (p:=⟨X8,3,none⟩) h8w _).setCell (p:=⟨X8,4,none⟩) h8w _) (((((HE6.o.1.1.1.1.2.set_ 0 _).set_ 1 _).set_ 2 _).set_ 3 _).set_ 4 _) rfl rfl
   subst hs
   obtain⟨q0,q1,_,_⟩:=HN6.o.two
   obtain⟨p0,p1,p2,p3,pf0,pf1,pf2,pf3⟩:=HE6.o.1.1.1.2.fourF
   go_wp2
   exact⟨⟨2,a2,A2,n2,c2,at2,s1,A6,n6,c6,s2,by omega,by go_num,.inr (.inr ⟨rfl,H1.o,by rw[HQ.o],HA.o,by rw[HQ.o];rfl⟩),HE6.o.second HT6.o h9w h89 h109⟩,by simp only[intOf];omega⟩
  ·rw[if_neg (λh=>h h1),if_neg (λh=>h h2),<-hA,<-hB] at hres
   have HV:=ja hres.symm
   clear hres h1 h2 hA hB
   obtain⟨x0,x1,x2,x3⟩:=HE.o.1.1.1.2.four
   obtain⟨r0,r1,r2,r3,r4,rf0,rf1,rf2,rf3,rf4⟩:=HE.o.1.1.1.1.2.five
   go_wp2
   exact HPOST.o _ _ a2 A2 n2 c2 at2 b2 B2 m2 e2 bt2 0 HV.o (PT.read (((((HE.o.1.2.set h8w HE.o.1.1.1.1.2 (by decide) _).set h8w (HE.o.1.1.1.1.2.set_ 0 _) (by decide) _).set h8w ((HE.o.1.1.1.1.2.set_ 0 _).set_ 1 _) (by decide) _).set h8w (((HE.o.1.1.1.1.2.set_ 0 _).set_ 1 _).set_ 2 _) (by decide) _).set h8w ((((HE.o.1.1.1.1.2.set_ 0 _).set_ 1 _).set_ 2 _).set_ 3 _) (by decide) _)) (PT.read (((((HE.o.2.set h8w HE.o.1.1.1.1.2 (by decide) _).set h8w (HE.o.1.1.1.1.2.set_ 0 _) (by decide) _).set h8w ((HE.o.1.1.1.1.2.set_ 0 _).set_ 1 _) (by decide) _).set h8w (((HE.o.1.1.1.1.2.set_ 0 _).set_ 1 _).set_ 2 _) (by decide) _).set h8w ((((HE.o.1.1.1.1.2.set_ 0 _).set_ 1 _).set_ 2 _).set_ 3 _) (by decide) _)) (((((HE.o.1.1.1.1.1.1.setCell (p:=⟨X8,0,none⟩) h8w _).setCell (p:=⟨X8,1,none⟩) h8w _).setCell (p:=⟨X8,2,none⟩) h8w _).setCell (p:=⟨X8,3,none⟩) h8w _).setCell (p:=⟨X8,4,none⟩) h8w _) (((((HE.o.1.1.1.1.2.set_ 0 _).set_ 1 _).set_ 2 _).set_ 3 _).set_ 4 _) rfl rfl
theorem jcv6 (a1:Int) (Aa:Option Addr) (na ca:Nat) (at_:List (Int×Int)) (b1:Int) (Ab:Option Addr) (nb cb:Nat) (bt:List (Int×Int)) (e0:Int) (c1:Int) (Ac:Option Addr) (nc cc:Nat) (ct:List (Int×Int)) (d1:Int) (Ad:Option Addr) (nd cd:Nat) (dt:List (Int×Int)) (w:World) (ha:jJ w w.heap.size Aa na ca at_) (hb:jJ w w.heap.size Ab nb cb bt) (hc:jJ w w.heap.size Ac nc cc ct) (hd:jJ w w.heap.size Ad nd cd dt) :
  Calls Tryz.prog 43 #[.agg #[.int .i64 a1,.slice Aa na ca,.int .i64 b1,.slice Ab nb cb,.int .i64 e0],.int .i64 1,.agg #[.int .i64 c1,.slice Ac nc cc],.agg #[.int .i64 d1,.slice Ad nd cd]] w
   (jcp1 w (za8 (λx y=>jc7 x.1 x.2 y.1 y.2) e0 (a1,at_) (b1,bt) (c1,ct) (d1,dt))):=jct7 1 (by decide) a1 Aa na ca at_ b1 Ab nb cb bt e0 c1 Ac nc cc ct d1 Ad nd cd dt w ha hb hc hd
theorem jcv7 (a1:Int) (Aa:Option Addr) (na ca:Nat) (at_:List (Int×Int)) (b1:Int) (Ab:Option Addr) (nb cb:Nat) (bt:List (Int×Int)) (e0:Int) (c1:Int) (Ac:Option Addr) (nc cc:Nat) (ct:List (Int×Int)) (d1:Int) (Ad:Option Addr) (nd cd:Nat) (dt:List (Int×Int)) (w:World) (ha:jJ w w.heap.size Aa na ca at_) (hb:jJ w w.heap.size Ab nb cb bt) (hc:jJ w w.heap.size Ac nc cc ct) (hd:jJ w w.heap.size Ad nd cd dt) :
  Calls Tryz.prog 43 #[.agg #[.int .i64 a1,.slice Aa na ca,.int .i64 b1,.slice Ab nb cb,.int .i64 e0],.int .i64 2,.agg #[.int .i64 c1,.slice Ac nc cc],.agg #[.int .i64 d1,.slice Ad nd cd]] w
   (jcp1 w (za8 (λx y=>jn7 x.1 x.2 y.1 y.2) e0 (a1,at_) (b1,bt) (c1,ct) (d1,dt))):=jct7 2 (by decide) a1 Aa na ca at_ b1 Ab nb cb bt e0 c1 Ac nc cc ct d1 Ad nd cd dt w ha hb hc hd
theorem jcv8 (a1:Int) (Aa:Option Addr) (na ca:Nat) (at_:List (Int×Int)) (b1:Int) (Ab:Option Addr) (nb cb:Nat) (bt:List (Int×Int)) (e0:Int) (c1:Int) (Ac:Option Addr) (nc cc:Nat) (ct:List (Int×Int)) (d1:Int) (Ad:Option Addr) (nd cd:Nat) (dt:List (Int×Int)) (w:World) (ha:jJ w w.heap.size Aa na ca at_) (hb:jJ w w.heap.size Ab nb cb bt) (hc:jJ w w.heap.size Ac nc cc ct) (hd:jJ w w.heap.size Ad nd cd dt) :
  Calls Tryz.prog 43 #[.agg #[.int .i64 a1,.slice Aa na ca,.int .i64 b1,.slice Ab nb cb,.int .i64 e0],.int .i64 3,.agg #[.int .i64 c1,.slice Ac nc cc],.agg #[.int .i64 d1,.slice Ad nd cd]] w
   (jcp1 w (za8 (λx y=>jL x.1 x.2 y.1 y.2 (-1)) e0 (a1,at_) (b1,bt) (c1,ct) (d1,dt))):=jct7 3 (by decide) a1 Aa na ca at_ b1 Ab nb cb bt e0 c1 Ac nc cc ct d1 Ad nd cd dt w ha hb hc hd
