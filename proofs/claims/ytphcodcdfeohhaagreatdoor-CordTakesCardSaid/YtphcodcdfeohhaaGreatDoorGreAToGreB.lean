import Derived.Test.YtphcodcdfeohhaaGreatDoorCordSToCordV
set_option linter.all false
namespace Go.Proofs.YtphcodcdfeohhaaGreatDoor
set_option maxRecDepth 100000
set_option maxHeartbeats 16000000
open Go.RowKit
theorem qQ {P:Program} {fn:Func} {p q u:Tmp} {ty ty2:TypeId} (h:fn.results=#[.cell p ty,.cell q ty2,.tmp u]) {R:Ending->World->Prop} {a:Act} {w:World} {g g2:Nat} {t t2:TypeId} {cs cs2:Array Value} {d d2:TypeDesc}
  (hp:a.tmps.getD p undef=.pointer (some ⟨g,0,none⟩)) (hg:jh w g t cs) (hu:P.underlying ty=some d) (hd:(match d with|.struct _|.array _ _=>true|_=>false)=true) (hi:(P.info? ty).map (·.size)=some cs.size)
  (hp2:a.tmps.getD q undef=.pointer (some ⟨g2,0,none⟩)) (hg2:jh w g2 t2 cs2) (hu2:P.underlying ty2=some d2) (hd2:(match d2 with|.struct _|.array _ _=>true|_=>false)=true) (hi2:(P.info? ty2).map (·.size)=some cs2.size)
  (hdf:a.defers=[]) (hR:R (.returned (.tuple #[.agg cs,.agg cs2,a.tmps.getD u undef])) w):bodyPost P fn R .ret a w:=by
 refine bodyPost_ret (v:=.tuple #[.agg cs,.agg cs2,a.tmps.getD u undef]) ?_ hdf hR
 have e:(results fn a.tmps).run P w=((asAddr (a.tmps.getD p undef)).run P w).andThen λx w₁=>((loadVar ty x).run P w₁).andThen λv w₂=>((asAddr (a.tmps.getD q undef)).run P w₂).andThen λx2 w₃=>((loadVar ty2 x2).run P w₃).andThen λv2 w₄=>.ok (.tuple #[v,v2,a.tmps.getD u undef]) w₄:=by
  simp only[results,h]
  simp[Sem.run_bind,Result.andThen]
 rw[e,hp,hp2]
 simp[asAddr,Result.andThen,run_loadVar_row w g t ty cs (0,0) d hg hu hd hi,run_loadVar_row w g2 t2 ty2 cs2 (0,0) d2 hg2 hu2 hd2 hi2]
def zC:Nat->Int×List (Int×Int)->List Int×(Int×List (Int×Int))
 | 0,r=>([],r)
 | k+1,r=>
  if(jn r.1 r.2).1=0 then([],r)
  else if 1000<((jn r.1 r.2).2.1+(jn r.1 r.2).1-1).tdiv (jn r.1 r.2).1\/(jL r.1 r.2 (((jn r.1 r.2).2.1+(jn r.1 r.2).1-1).tdiv (jn r.1 r.2).1) [(1,1)] (-1)).2.2≠0 then([],r)
  else(((jn r.1 r.2).2.1+(jn r.1 r.2).1-1).tdiv (jn r.1 r.2).1 ::
    (zC k ((jL r.1 r.2 (((jn r.1 r.2).2.1+(jn r.1 r.2).1-1).tdiv (jn r.1 r.2).1) [(1,1)] (-1)).1,(jL r.1 r.2 (((jn r.1 r.2).2.1+(jn r.1 r.2).1-1).tdiv (jn r.1 r.2).1) [(1,1)] (-1)).2.1)).1,
   (zC k ((jL r.1 r.2 (((jn r.1 r.2).2.1+(jn r.1 r.2).1-1).tdiv (jn r.1 r.2).1) [(1,1)] (-1)).1,(jL r.1 r.2 (((jn r.1 r.2).2.1+(jn r.1 r.2).1-1).tdiv (jn r.1 r.2).1) [(1,1)] (-1)).2.1)).2)
theorem ja2{k:Nat}{r:Int×List (Int×Int)}(h:(jn r.1 r.2).1=0):zC k r=([],r):=by
 cases k with
 | zero=>rfl
 | succ k=>rw[zC,if_pos h]
theorem js2 {k:Nat} {rd num den:Int} {rt:List (Int×Int)} {ok:Bool} {s:Int×List (Int×Int)×Int} (hp:jn rd rt=(num,den,ok)) (hs:jL rd rt ((den+num-1).tdiv num) [(1,1)] (-1)=s)
  (h:1000<(den+num-1).tdiv num\/s.2.2≠0):zC (k+1) (rd,rt)=([],(rd,rt)):=by
 rw[zC]
 simp only[hp,hs]
 split<;>first|rfl|rw[if_pos h]
theorem js1 {k:Nat} {rd num den:Int} {rt:List (Int×Int)} {ok:Bool} {s:Int×List (Int×Int)×Int} (hp:jn rd rt=(num,den,ok)) (hs:jL rd rt ((den+num-1).tdiv num) [(1,1)] (-1)=s)
  (h0:num≠0) (h:¬(1000<(den+num-1).tdiv num\/s.2.2≠0)):zC (k+1) (rd,rt)=((den+num-1).tdiv num::(zC k (s.1,s.2.1)).1,(zC k (s.1,s.2.1)).2):=by
 rw[zC]
 simp only[hp,hs]
 rw[if_neg h0,if_neg h]
def zq(xd:Int)(xt:List (Int×Int))(most:Int):Int×List Int×(Int×List (Int×Int))×Int:=
 if js xd xt=false then(0,[],(0,[]),2)
 else if(jn xd xt).2.2=false\/(jn xd xt).1<0\/1000<(jn xd xt).1.tdiv (jn xd xt).2.1\/zz most 0 8=false then(0,[],(0,[]),3)
 else((jn xd xt).1.tdiv (jn xd xt).2.1,(zC most.toNat ((jL xd xt (jI ((jn xd xt).1.tdiv (jn xd xt).2.1)).1 (jI ((jn xd xt).1.tdiv (jn xd xt).2.1)).2 (-1)).1,(jL xd xt (jI ((jn xd xt).1.tdiv (jn xd xt).2.1)).1 (jI ((jn xd xt).1.tdiv (jn xd xt).2.1)).2 (-1)).2.1)).1,
   (zC most.toNat ((jL xd xt (jI ((jn xd xt).1.tdiv (jn xd xt).2.1)).1 (jI ((jn xd xt).1.tdiv (jn xd xt).2.1)).2 (-1)).1,(jL xd xt (jI ((jn xd xt).1.tdiv (jn xd xt).2.1)).1 (jI ((jn xd xt).1.tdiv (jn xd xt).2.1)).2 (-1)).2.1)).2,0)
def jz7(d:Int):Bool×List Int:=(false,[d])
def zg6(w:World)(wh:Int)(ms:List Int)(rd:Int)(rt:List (Int×Int))(code:Int)(e:Ending)(w':World):Prop:=
 ∃(A:Option Addr) (c:Nat) (L:List PieceV) (Ar:Option Addr) (nr cr:Nat),e=.returned (.tuple #[.agg #[.int .i64 wh,.slice A L.length c],.agg #[.int .i64 rd,.slice Ar nr cr],.int .i64 code]) /\
  jD w' w'.heap.size A L.length c L/\L.map PieceV.flat=ms.map jz7/\w'.ownsRow w.heap.size 59 2 (.slice Ar nr cr) nr (jr rt)/\Below w.heap.size w w'
structure GreI(w W:World)(wh:Int)(v:Value)(A:Option Addr)(c:Nat)(L:List PieceV)(rd:Int)(Ar:Option Addr)(nr cr:Nat)(rt:List (Int×Int)):Prop where
 o:jh W (w.heap.size+1) 43 #[.int .i64 wh,v]
 r:jh W (w.heap.size+2) 24 #[.int .i64 rd,.slice Ar nr cr]
 row:W.ownsRow (w.heap.size+3) 94 2 (.slice A L.length c) L.length (jB (L.map PieceV.enc))
 marks:∀p∈L,W.ownsRow (w.heap.size+3) 3 1 (.slice p.A p.n p.c) p.n (p.ms.map (Value.int .i64))
 terms:W.ownsRow (w.heap.size+3) 59 2 (.slice Ar nr cr) nr (jr rt)
 below:Below w.heap.size w W
section
variable {w W W' : World} {wh : Int} {v : Value} {A : Option Addr} {c : Nat} {L : List PieceV} {rd : Int} {Ar : Option Addr} {nr cr : Nat} {rt : List (Int × Int)}
theorem GreI.under(h:GreI w W wh v A c L rd Ar nr cr rt)(hb:Below W.heap.size W W'):GreI w W' wh v A c L rd Ar nr cr rt:=
 ⟨h.o.below hb h.o.lt,h.r.below hb h.r.lt,jG h.row hb,λp hp=>jG (h.marks p hp) hb,jG h.terms hb,h.below.trans (hb.mono h.below.size)⟩
theorem GreI.drew(h:GreI w W wh v A c L rd Ar nr cr rt):GreI w W.drew wh v A c L rd Ar nr cr rt:=h.under (Below.drew (Below.refl _ _))
theorem GreI.alloc(h:GreI w W wh v A c L rd Ar nr cr rt)(ob:Obj):GreI w (W.alloc ob) wh v A c L rd Ar nr cr rt:=h.under ((Below.refl _ _).alloc (Nat.le_refl _) ob)
theorem GreI.rest (h:GreI w W wh v A c L rd Ar nr cr rt) {rd':Int} {Ar':Option Addr} {nr' cr':Nat} {rt':List (Int×Int)} (ho:W.ownsRow (w.heap.size+3) 59 2 (.slice Ar' nr' cr') nr' (jr rt')) :
  GreI w ((W.setCell ⟨w.heap.size+2,0,none⟩ (.int .i64 rd')).setCell ⟨w.heap.size+2,1,none⟩ (.slice Ar' nr' cr')) wh v A c L rd' Ar' nr' cr' rt':=by
 have kp:∀ {s n:Nat} {e:TypeId} {x:Value} {xs:List Value},W.ownsRow (w.heap.size+3) e s x n xs->((W.setCell ⟨w.heap.size+2,0,none⟩ (.int .i64 rd')).setCell ⟨w.heap.size+2,1,none⟩ (.slice Ar' nr' cr')).ownsRow (w.heap.size+3) e s x n xs:=λx=>
  ownsRow_setCell_below (ownsRow_setCell_below x (by show w.heap.size+2<w.heap.size+3;omega) _) (by show w.heap.size+2<w.heap.size+3;omega) _
 exact⟨(h.o.far (by simp) _).far (by simp) _,(h.r.set_ 0 _).set_ 1 _,kp h.row,λp hp=>kp (h.marks p hp),kp ho,(h.below.setCell (by show w.heap.size<=w.heap.size+2;omega) _).setCell (by show w.heap.size<=w.heap.size+2;omega) _⟩
theorem GreI.put(h:GreI w W wh v A c L rd Ar nr cr rt){X i:Nat}{cs:Array Value}(hb:jh W X 24 cs)(hX:w.heap.size+3<=X)(u:Value):GreI w (W.setCell ⟨X,i,none⟩ u) wh v A c L rd Ar nr cr rt:=
 ⟨h.o.far (by simp;omega) u,h.r.far (by simp;omega) u,jC h.row hb (by decide),λp hp=>jC (h.marks p hp) hb (by decide),jC h.terms hb (by decide),h.below.setCell (by show w.heap.size<=X;omega) u⟩
theorem GreI.whole(h:GreI w W wh v A c L rd Ar nr cr rt)(x:Int):GreI w (W.setCell ⟨w.heap.size+1,0,none⟩ (.int .i64 x)) x v A c L rd Ar nr cr rt:=by
 have kp:∀ {s n:Nat} {e:TypeId} {y:Value} {xs:List Value},W.ownsRow (w.heap.size+3) e s y n xs->(W.setCell ⟨w.heap.size+1,0,none⟩ (.int .i64 x)).ownsRow (w.heap.size+3) e s y n xs:=λy=>ownsRow_setCell_below y (by show w.heap.size+1<w.heap.size+3;omega) _
 exact⟨h.o.set_ 0 _,h.r.far (by simp) _,kp h.row,λp hp=>kp (h.marks p hp),kp h.terms,h.below.setCell (by show w.heap.size<=w.heap.size+1;omega) _⟩
theorem GreI.second(h:GreI w W wh v A c L rd Ar nr cr rt)(x:Value):GreI w (W.setCell ⟨w.heap.size+1,1,none⟩ x) wh x A c L rd Ar nr cr rt:=by
 have kp:∀ {s n:Nat} {e:TypeId} {y:Value} {xs:List Value},W.ownsRow (w.heap.size+3) e s y n xs->(W.setCell ⟨w.heap.size+1,1,none⟩ x).ownsRow (w.heap.size+3) e s y n xs:=λy=>ownsRow_setCell_below y (by show w.heap.size+1<w.heap.size+3;omega) _
 exact⟨h.o.set_ 1 _,h.r.far (by simp) _,kp h.row,λp hp=>kp (h.marks p hp),kp h.terms,h.below.setCell (by show w.heap.size<=w.heap.size+1;omega) _⟩
theorem GreI.grow {A':Option Addr} {c':Nat} {d:Int} {pA:Option Addr} {pc:Nat} (h:GreI w W wh v A c L rd Ar nr cr rt) (hm:W.ownsRow (w.heap.size+3) 3 1 (.slice pA 1 pc) 1 [.int .i64 d])
  (ho:W'.ownsRow (w.heap.size+3) 94 2 (.slice A' (L.length+1) c') (L.length+1) (jB (L.map PieceV.enc)++[.bool false,.slice pA 1 pc])) (hg:W.grownBy W' (Value.slice A L.length c).ownBlock) :
  GreI w W' wh v A' c' (L++[(⟨false,pA,1,pc,[d]⟩:PieceV)]) rd Ar nr cr rt:=by
 have kp:∀ {e:TypeId} {s n:Nat} {v:Value} {xs:List Value},94≠e->W.ownsRow (w.heap.size+3) e s v n xs->W'.ownsRow (w.heap.size+3) e s v n xs:=λhne x=>
  zF x hg (λg e1 e2=>zS h.row x hne e2 e1)
 have hne:∀j,(Value.slice A L.length c).ownBlock=some j->w.heap.size+3<=j:=λj e=>(h.row.lt j e).1
 refine⟨h.o.grown hg (λe=>by have:=hne _ e;omega),h.r.grown hg (λe=>by have:=hne _ e;omega),?_,λp hp=>?_,kp (by decide) h.terms,h.below.grown hg h.below.size (λj e=>by have:=hne j e;omega)⟩
 ·rw[Jt,List.length_append]
  exact ho
 ·rcases List.mem_append.1 hp with hp|hp
  ·exact kp (by decide) (h.marks p hp)
  ·rw[List.mem_singleton.1 hp]
   exact kp (by decide) hm
end
def RB(rd:Int)(rt:List (Int×Int)):Prop:=(-100000<=(jn rd rt).1/\(jn rd rt).1<=100000)/\-100000<=(jn rd rt).2.1/\(jn rd rt).2.1<=100000
theorem jbp6{kv:List (Int×Int)}{den d c:Int}{t:List (Int×Int)}(h:jY kv den=(d,t,c))(hc:c≠0):d=0/\t=[]:=by
 unfold jY at h
 split at h
 ·injection h with h1 h2;injection h2 with h2 _;exact⟨h1.symm,h2.symm⟩
 ·split at h
  ·injection h with h1 h2;injection h2 with h2 _;exact⟨h1.symm,h2.symm⟩
  ·injection h with _ h2;injection h2 with _ h3;exact absurd h3.symm hc
theorem jas0{xd yd k d c:Int}{xt yt t:List (Int×Int)}(h:jL xd xt yd yt k=(d,t,c)):RB d t:=by
 by_cases hc:c=0
 ·subst hc
  obtain⟨h1,h2,h3⟩:=jbh9 h
  unfold RB
  rcases t with _|⟨⟨a,r⟩,_|⟨u,ts⟩⟩
  ·simp[jn]
  ·have:=h3 (a,r) (by simp)
   dsimp only at this
   by_cases hr:r=1
   ·simp only[jn,hr,if_true];omega
   ·simp only[jn,if_neg hr];omega
  ·simp[jn]
 ·have h5:d=0/\t=[]:=by
   unfold jL at h
   split at h
   ·exact jbp6 h hc
   ·injection h with h1 h2;injection h2 with h2 _;exact⟨h1.symm,h2.symm⟩
  obtain⟨rfl,rfl⟩:=h5
  unfold RB
  simp[jn]
theorem jcg0{a b:Int}:(a.tdiv b).natAbs<=a.natAbs:=by
 rw[Int.natAbs_tdiv]
 exact Nat.div_le_self _ _
theorem jaz8 (xd:Int) (A:Option Addr) (n c B:Nat) (xt:List (Int×Int)) (most:Int) (w:World) (hx:ji w B A n c xt) (hB:B<=w.heap.size) :
  Calls Tryz.prog 18 #[.agg #[.int .i64 xd,.slice A n c],.int .i64 most] w (zg6 w (zq xd xt most).1 (zq xd xt most).2.1 (zq xd xt most).2.2.1.1 (zq xd xt most).2.2.1.2 (zq xd xt most).2.2.2):=by
 obtain rfl:=hx.len
 have hnm:=hx.nmax
 obtain⟨i0,hi0,hz0,hz1,hz2⟩:=info_parts Tryz.infoInt
 obtain⟨i1,hi1,hy0,hy1,hy2⟩:=info_parts Tryz.infoPiece
 obtain⟨w0,hw0⟩:∃w0,w0=((w.alloc (.cells #[.int .i64 xd,.slice A xt.length c] 24)).alloc (.cells #[.int .i64 0,.slice none 0 0] 43)).alloc (.cells #[.int .i64 0,.slice none 0 0] 24):=⟨_,rfl⟩
 have HX0:Hid (jh w0 w.heap.size 24 #[.int .i64 xd,.slice A xt.length c]):=ja (by rw[hw0];exact((jh.new w _ _).alloc _).alloc _)
 have HG0:Hid (GreI w w0 0 (.slice none 0 0) none 0 [] 0 none 0 0 []):=ja (by
  rw[hw0]
  refine⟨?_,?_,World.ownsRow_nil _ _ _ _,(λp hp=>by cases hp),World.ownsRow_nil _ _ _ _,(((Below.refl _ _).alloc (Nat.le_refl _) _).alloc (by simp) _).alloc (by simp;omega) _⟩
  ·have h:=(jh.new (w.alloc (.cells #[.int .i64 xd,.slice A xt.length c] 24)) 43 #[.int .i64 0,.slice none 0 0]).alloc (.cells #[.int .i64 0,.slice none 0 0] 24)
   rwa [World.size_alloc] at h
  ·have h:=jh.new ((w.alloc (.cells #[.int .i64 xd,.slice A xt.length c] 24)).alloc (.cells #[.int .i64 0,.slice none 0 0] 43)) 24 #[.int .i64 0,.slice none 0 0]
   rwa [World.size_alloc,World.size_alloc] at h)
 have HTX:Hid (∀W,Below w.heap.size w W->ji W W.heap.size A xt.length c xt):=ja (λW hb=>Rd.more (Rd.below hx (hb.mono hB)) (Nat.le_trans hB hb.size))
 obtain⟨res,hres⟩:∃res,zq xd xt most=res:=⟨_,rfl⟩
 rw[hres]
 have hpost:∀(W:World) (a:Act) (wh:Int) (Ao:Option Addr) (co:Nat) (L:List PieceV) (rd:Int) (Ar:Option Addr) (nr cr:Nat) (rt:List (Int×Int)) (ms:List Int) (code:Int),res=(wh,ms,(rd,rt),code)->L.map PieceV.flat=ms.map jz7->GreI w W wh (.slice Ao L.length co) Ao co L rd Ar nr cr rt ->
   a.tmps.getD 4 undef=.pointer (some ⟨w.heap.size+1,0,none⟩)->a.tmps.getD 5 undef=.pointer (some ⟨w.heap.size+2,0,none⟩)->a.tmps.getD 6 undef=.int .i64 code->a.defers=[]->bodyPost Tryz.prog Tryz.f18 (zg6 w res.1 res.2.1 res.2.2.1.1 res.2.2.1.2 res.2.2.2) .ret a W:=by
  intro W a wh Ao co L rd Ar nr cr rt ms code e1 e2 e3 e4 e5 e6 e7
  refine qQ (p:=4) (q:=5) (u:=6) (ty:=43) (ty2:=24) rfl e4 e3.o Tryz.underlying43 rfl Tryz.sizeOld e5 e3.r Tryz.underlying24 rfl Tryz.sizeNumber e7 ?_
  rw[e6,e1]
  exact⟨Ao,co,L,Ar,nr,cr,rfl,⟨Rd.of_own e3.row,λp hp=>Rd.of_own (e3.marks p hp)⟩,e2,jO e3.terms (by omega),e3.below⟩
 have HPOST:=ja hpost
 have HCK:=ja (λW (hb:Below w.heap.size w W)=>jy3 xd A xt.length c W.heap.size xt W (HTX.o W hb) (Nat.le_refl _))
 have HPR:=ja (λW (hb:Below w.heap.size w W)=>jz6 xd A xt.length c W.heap.size xt W (HTX.o W hb) (Nat.le_refl _))
 have HW8:=ja (λW=>jN most 0 8 W)
 unfold zq at hres
 clear hx hpost
 obtain⟨x0,x1,_,_⟩:=HX0.o.two
 go_enter Tryz.func18,Tryz.ntmps18
 go_upto_region 1 with fail
 rw[<-hw0]
 clear hw0
 cases hok:js xd xt
 ·rw[if_pos hok] at hres
  rw[hok] at HCK
  simp only[QK,Bool.false_eq_true,if_false] at HCK
  have HV:=ja hres.symm
  clear hres hok
  go_wp2_with (first
   | (go_at_call 49;refine(HCK.o _ HG0.o.below).mono ?_;rintro e w1 ⟨rfl,hb1⟩
      have HG1:=ja (HG0.o.under (hb1.mono (Nat.le_refl _)))
      obtain⟨o0,o1,of0,of1⟩:=HG1.o.o.two
      obtain⟨r0,r1,rf0,rf1⟩:=HG1.o.r.two
      clear hb1))
  exact HPOST.o _ _ 0 none 0 [] 0 none 0 0 [] [] 2 HV.o rfl (((HG1.o.whole 0).second (.slice none 0 0)).rest ((HG1.o.whole 0).second (.slice none 0 0)).terms) rfl rfl rfl rfl
 rw[if_neg (by rw[hok];simp)] at hres
 rw[hok] at HCK
 simp only[QK,if_true] at HCK
 have hb0:=jz hok
 obtain⟨num,den,ok,hp⟩:∃a b c,jn xd xt=(a,b,c):=⟨_,_,_,rfl⟩
 have hpd:(-100000<=num/\num<=100000)/\-100000<=den/\den<=100000/\(ok=true->1<=den):=by
  obtain⟨h1,h2,_,h4⟩:=hb0
  rcases xt with _|⟨⟨a,r⟩,_|⟨u,ts⟩⟩
  ·simp only[jn] at hp
   injection hp with e1 hp;injection hp with e2 e3
   omega
  ·have:=(h4 (a,r) (by simp)).1.2.2.2
   dsimp only at this
   by_cases hr:r=1
   ·simp only[jn,hr,if_true] at hp
    injection hp with e1 hp;injection hp with e2 e3
    omega
   ·simp only[jn,if_neg hr] at hp
    injection hp with e1 hp;injection hp with e2 e3
    refine⟨by omega,by omega,by omega,λh=>?_⟩
    rw[<-e3] at h;cases h
  ·simp only[jn] at hp
   injection hp with e1 hp;injection hp with e2 e3
   refine⟨by omega,by omega,by omega,λh=>?_⟩
   rw[<-e3] at h;cases h
 rw[hp] at hres HPR
 dsimp only at hres HPR
 clear hok hb0 hp
 go_upto_region 5 with(first
  | (go_at_call 49;refine(HCK.o _ HG0.o.below).mono ?_;rintro e w1 ⟨rfl,hb1⟩
     have HX1:=ja (HX0.o.below (hb1.mono (Nat.le_refl _)) HX0.o.lt);have HG1:=ja (HG0.o.under hb1)
     obtain⟨x0,x1,_,_⟩:=HX1.o.two
     clear hb1)
  | (go_at_call 53;refine(HPR.o _ HG1.o.below).mono ?_;rintro e w2 ⟨rfl,hb2⟩
     have HX2:=ja (HX1.o.below hb2 HX1.o.lt);have HG2:=ja (HG1.o.under hb2)
     clear hb2))
 clear x0 x1 HX0 HX1 HG0 HG1 HCK HPR
 obtain⟨o0,o1,of0,of1⟩:=HG2.o.o.two
 obtain⟨r0,r1,rf0,rf1⟩:=HG2.o.r.two
 by_cases hbad:ok=false\/num<0\/1000<num.tdiv den\/zz most 0 8=false
 ·rw[if_pos hbad] at hres
  have HV:=ja hres.symm
  clear hres
  have h4:ok=false\/(ok=true/\num<0)\/(ok=true/\¬num<0/\1000<num.tdiv den)\/(ok=true/\¬num<0/\¬1000<num.tdiv den/\zz most 0 8=false):=by
   cases ok
   ·exact .inl rfl
   ·rcases hbad with h|h
    ·cases h
    ·by_cases k1:num<0
     ·exact .inr (.inl ⟨rfl,k1⟩)
     ·by_cases k2:1000<num.tdiv den
      ·exact .inr (.inr (.inl ⟨rfl,k1,k2⟩))
      ·rcases h with h|h|h
       ·exact absurd h k1
       ·exact absurd h k2
       ·exact .inr (.inr (.inr ⟨rfl,k1,k2,h⟩))
  clear hbad
  rcases h4 with rfl|⟨rfl,k1⟩|⟨rfl,k1,k2⟩|⟨rfl,k1,k2,k3⟩
  rotate_left 2
  focus
   have hdz:¬den=0:=by have:=hpd.2.2.2 rfl;omega
   have hd1:=hpd.2.2.2 rfl
   rw[Int.tdiv_eq_ediv_of_nonneg (by omega)] at k2
   have hq1:num/den<=num:=Int.ediv_le_self den (by omega)
   have hq0:0<=num/den:=Int.ediv_nonneg (by omega) (by omega)
   have hqw:IntKind.i64.wrap (num/den)=num/den:=by rw[IntKind.wrap_i64];omega
  rotate_left 1
  focus
   have hdz:¬den=0:=by have:=hpd.2.2.2 rfl;omega
   have hd1:=hpd.2.2.2 rfl
   rw[Int.tdiv_eq_ediv_of_nonneg (by omega)] at k2
   have hq1:num/den<=num:=Int.ediv_le_self den (by omega)
   have hq0:0<=num/den:=Int.ediv_nonneg (by omega) (by omega)
   have hqw:IntKind.i64.wrap (num/den)=num/den:=by rw[IntKind.wrap_i64];omega
   rw[k3] at HW8
  all_goals
   go_wp2_with (first
    | (go_at_call 54;refine(HW8.o _).mono ?_;rintro e w3 ⟨rfl,hw3⟩;subst w3))
   exact HPOST.o _ _ 0 none 0 [] 0 none 0 0 [] [] 3 HV.o rfl (((HG2.o.whole 0).second (.slice none 0 0)).rest ((HG2.o.whole 0).second (.slice none 0 0)).terms) rfl rfl rfl rfl
 rw[if_neg hbad] at hres
 have k0:ok=true:=by
  cases ok
  ·exact absurd (.inl rfl) hbad
  ·rfl
 subst k0
 have k1:¬num<0:=λh=>hbad (.inr (.inl h))
 have k2:¬1000<num.tdiv den:=λh=>hbad (.inr (.inr (.inl h)))
 have k3:zz most 0 8=true:=by
  cases h:zz most 0 8
  ·exact absurd (.inr (.inr (.inr h))) hbad
  ·rfl
 have hmb:0<=most/\most<=8:=by simpa [zz] using k3
 obtain⟨M,rfl⟩:∃M:Nat,most=M:=⟨most.toNat,by omega⟩
 have hd1:=hpd.2.2.2 rfl
 have hdz:¬den=0:=by omega
 rw[Int.tdiv_eq_ediv_of_nonneg (by omega)] at k2 hres
 have hq1:num/den<=num:=Int.ediv_le_self den (by omega)
 have hq0:0<=num/den:=Int.ediv_nonneg (by omega) (by omega)
 have hqw:IntKind.i64.wrap (num/den)=num/den:=by rw[IntKind.wrap_i64];omega
 rw[k3] at HW8
 rw[Int.toNat_natCast] at hres
 clear hbad k3
 go_upto_region 8 with(first
  | (go_at_call 54;refine(HW8.o _).mono ?_;rintro e w3 ⟨rfl,hw3⟩;subst w3))
 have hwb:0<=num/den/\num/den<=1000:=by omega
 clear k2 hq1 hq0 hqw r0 r1 rf0 rf1 o0 o1 of0 of1 HW8
 generalize num/den=wh at *
 have HG:=ja (HG2.o.whole wh)
 have HX7:=ja (HX2.o.far (p:=⟨w.heap.size+1,0,none⟩) (by simp) (.int .i64 wh))
 clear HG2 HX2
 generalize w2.setCell ⟨w.heap.size+1,0,none⟩ (.int .i64 wh)=W7 at *
 obtain⟨sd,st,sc,hsv⟩:∃a b c,jL xd xt (jI wh).1 (jI wh).2 (-1)=(a,b,c):=⟨_,_,_,rfl⟩
 obtain⟨Q1,Q2,hQ⟩:∃a b,zC M (sd,st)=(a,b):=⟨_,_,rfl⟩
 rw[hsv] at hres
 dsimp only at hres
 rw[hQ] at hres
 dsimp only at hres
 have HRES:=ja hres.symm
 have HQ:=ja hQ
 have HRB:=ja (jas0 hsv)
 clear hres hQ
 have HSd:=ja HG.o.drew
 have HXd:Hid (jh W7.drew w.heap.size 24 #[.int .i64 xd,.slice A xt.length c]):=ja (HX7.o.below (Below.drew (Below.refl _ _)) HX7.o.lt)
 have HBC:=ja (Below.drew (Below.refl W7.heap.size W7))
 have hU:=HX7.o.lt
 have hU1:=HG.o.o.lt
 obtain⟨x0,x1,_,_⟩:=HX7.o.two
 obtain⟨o0,o1,_,_⟩:=HG.o.o.two
 refine jk (λ_=>True) 8 (λw'=>Below W7.heap.size W7 w') 8 (λ_=>True) (by kernel_rfl) ⟨trivial,λ_=>HBC.o,λ_=>trivial⟩ (λjb=>?_)
 revert jb
 refine jtk 0 ?_ ?_ ?_
 rotate_left 1
 focus(intro w' hSw;obtain⟨hC,hF,hG⟩:=hSw;have hF:=hF (by decide +kernel);clear hG;clear hC;have c1:=(hF.cell (p:=⟨w.heap.size,0,none⟩) hU).trans x0;have c2:=(hF.cell (p:=⟨w.heap.size,1,none⟩) hU).trans x1;clear hF;go_simp;try with_reducible rfl)
 (try simp only[Act.put,lA,lB,lC])
 refine jtq 1 ?_ ?_ ?_
 rotate_left 1
 focus(intro;go_simp;try with_reducible rfl)
 (try simp only[Act.put,lA,lB,lC])
 refine jtk 2 ?_ ?_ ?_
 rotate_left 1
 focus(intro w' hSw;obtain⟨hC,hF,hG⟩:=hSw;have hF:=hF (by decide +kernel);clear hG;clear hC;have c1:=(hF.cell (p:=⟨w.heap.size+1,0,none⟩) hU1).trans o0;clear hF;go_simp;try with_reducible rfl)
 (try simp only[Act.put,lA,lB,lC])
 intro jb
 clear x0 x1 o0 o1
 refine je 3 rfl (by decide +kernel) (λK hK=>?_)
 go_simp
 go_wp2_with (first
  | (go_at_call 50;refine(jk3 wh _).mono ?_;rintro e w8 ⟨A8,n8,c8,rfl,ho8,hb8⟩
     have HS8:=ja (HSd.o.under hb8);have HB8:=ja (HBC.o.trans (hb8.mono HBC.o.size))
     have HT8:=ja (Rd.of_own ho8)
     clear hb8 ho8))
 refine hK.out _ _ ⟨trivial,λ_=>HB8.o,λ_=>trivial⟩ (λjb=>?_)
 clear hK K
 (try simp only[Act.put,lA,lB,lC])
 refine je 4 rfl (by decide +kernel) (λK hK=>?_)
 have HSB:=ja (Qb xd A xt.length c xt (jI wh).1 A8 n8 c8 (jI wh).2 w8.heap.size w8 (HTX.o w8 HS8.o.below) HT8.o (Nat.le_refl _))
 rw[hsv] at HSB
 go_simp
 go_wp2_with (first
  | (go_at_call 28;refine HSB.o.mono ?_;rintro e w9 ⟨Ar,nr,cr,rfl,ho9,hb9⟩
     have HS9:=ja (HS8.o.under hb9);have HB9:=ja (HB8.o.trans (hb9.mono HB8.o.size))
     have HT9:=ja (jO ho9 (Nat.le_trans (show w.heap.size+3<=W7.heap.size by have:=HG.o.r.lt;omega) HB8.o.size))
     clear hb9 ho9))
 refine hK.out _ _ ⟨trivial,λ_=>HB9.o,λ_=>trivial⟩ (λjb=>?_)
 clear hK K
 (try simp only[Act.put,lA,lB,lC])
 revert jb
 refine jtq 5 ?_ ?_ ?_
 rotate_left 1
 focus(intro;go_simp;try with_reducible rfl)
 (try simp only[Act.put,lA,lB,lC])
 refine jtq 6 ?_ ?_ ?_
 rotate_left 1
 focus(intro;go_simp;try with_reducible rfl)
 (try simp only[Act.put,lA,lB,lC])
 refine jtq 7 ?_ ?_ ?_
 rotate_left 1
 focus(intro;go_simp;try with_reducible rfl)
 (try simp only[Act.put,lA,lB,lC])
 intro jb
 obtain⟨r0,r1,rf0,rf1⟩:=HS9.o.r.two
 refine je 8 rfl (by decide +kernel) (λK hK=>?_)
 go_simp
 have HG9:=ja (HS9.o.rest HT9.o (rd':=sd))
 refine hK.out _ _ ⟨trivial,λh=>absurd h (by decide +kernel),λ_=>trivial⟩ (λjb=>?_)
 clear hK K
 (try simp only[Act.put,lA,lB,lC])
 refine jl (by decide +kernel) ?_
 clear jb r0 r1 rf0 rf1
 clear HSd HXd HS8 HS9 HT8 HT9 HB8 HB9 HBC HG HX7 HSB HTX hsv
 generalize (w9.setCell ⟨w.heap.size+2,0,none⟩ (.int .i64 sd)).setCell ⟨w.heap.size+2,1,none⟩ (.slice Ar nr cr)=W9 at *
 go_wp2
 go_loopg [] (M+1) (λgg W=>∃(Ao:Option Addr) (co:Nat) (L:List PieceV) (rd:Int) (Ar:Option Addr) (nr cr:Nat) (rt:List (Int×Int)) (ms:List Int),GreI w W wh (.slice Ao L.length co) Ao co L rd Ar nr cr rt/\L.length<=M/\M-L.length<=gg /\
  L.map PieceV.flat=ms.map jz7/\RB rd rt/\ms++(zC (M-L.length) (rd,rt)).1=Q1/\(zC (M-L.length) (rd,rt)).2=Q2)
 case atStart=>exact⟨none,0,[],sd,Ar,nr,cr,st,[],HG9.o,by simp,by simp,rfl,HRB.o,by rw[List.length_nil,Nat.sub_zero,HQ.o,List.nil_append],by rw[List.length_nil,Nat.sub_zero,HQ.o]⟩
 case round=>
  obtain⟨Ao,co,L,rd,Ar,nr,cr,rt,ms,hG,hLM,hgg,hlm,hrb,hq1,hq2⟩:=hrel
  have HG:=ja hG;have HLM:=ja hlm;have HQ1:=ja hq1;have HQ2:=ja hq2
  clear hG hlm hq1 hq2 HG9 HQ HRB
  obtain⟨o0,o1,_,_⟩:=HG.o.o.two
  obtain⟨r0,r1,_,_⟩:=HG.o.r.two
  by_cases hLm:(L.length:Int)<(M:Int)
  ·obtain⟨k,hk⟩:∃k,M-L.length=k+1:=⟨M-L.length-1,by omega⟩
   obtain⟨nu,de,ok,hp⟩:∃a b c,jn rd rt=(a,b,c):=⟨_,_,_,rfl⟩
   have hpq:=jz6 rd Ar nr cr wr.heap.size rt wr (Rd.of_own HG.o.terms) (Nat.le_refl _)
   rw[hp] at hpq
   have HPQ:=ja hpq
   unfold RB at hrb
   rw[hp] at hrb
   dsimp only at hrb
   clear hpq
   by_cases hn0:nu=0
   ·have hg:=ja2 (k:=M-L.length) (r:=(rd,rt)) (by rw[hp];exact hn0)
    have h1:=HQ1.o
    have h2:=HQ2.o
    rw[hg] at h1 h2
    dsimp only at h1 h2
    rw[List.append_nil] at h1
    have HV:Hid (res=(wh,ms,(rd,rt),0)):=ja (by rw[HRES.o,<-h1,<-h2])
    clear hg h1 h2 HQ1 HQ2 hp hrb
    subst hn0
    go_upto_region 16 with(first
     | (go_at_call 53;refine HPQ.o.mono ?_;rintro e w1 ⟨rfl,hb1⟩
        have HG:=ja (HG.o.under hb1)
        clear hb1))
    clear o0 o1 r0 r1
    have HSd:=ja HG.o.drew
    obtain⟨o0,o1,of0,of1⟩:=HG.o.o.two
    obtain⟨r0,r1,rf0,rf1⟩:=HG.o.r.two
    have HOC:=ja (And.intro o0 o1)
    have HRC:=ja (And.intro r0 r1)
    refine jk (λ_=>True) 2 (λw'=>w'.cell? ⟨w.heap.size+1,0,none⟩=some (.int .i64 wh)/\w'.cell? ⟨w.heap.size+1,1,none⟩=some (.slice Ao L.length co)) 3 (λw'=>w'.cell? ⟨w.heap.size+2,0,none⟩=some (.int .i64 rd)/\w'.cell? ⟨w.heap.size+2,1,none⟩=some (.slice Ar nr cr)) (by kernel_rfl) ⟨trivial,λ_=>HOC.o,λ_=>HRC.o⟩ (λjb=>?_)
    revert jb
    refine jtk 0 ?_ ?_ ?_
    rotate_left 1
    focus(intro w' hSw;obtain⟨hC,hF,hG⟩:=hSw;have hF:=hF (by decide +kernel);clear hG;clear hC;obtain⟨c1,c2⟩:=hF;go_simp;try with_reducible rfl)
    (try simp only[Act.put,lA,lB,lC])
    refine jtk 1 ?_ ?_ ?_
    rotate_left 1
    focus(intro w' hSw;obtain⟨hC,hF,hG⟩:=hSw;have hG:=hG (by decide +kernel);clear hF;clear hC;obtain⟨c1,c2⟩:=hG;go_simp;try with_reducible rfl)
    (try simp only[Act.put,lA,lB,lC])
    intro jb
    refine je 2 rfl (by decide +kernel) (λK hK=>?_)
    go_simp
    have HG2:=ja ((HSd.o.whole wh).second (.slice Ao L.length co))
    clear r0 r1 rf0 rf1
    obtain⟨r0,r1,rf0,rf1⟩:=((HG.o.whole wh).second (.slice Ao L.length co)).r.two
    refine hK.out _ _ ⟨trivial,λh=>absurd h (by decide +kernel),λ_=>⟨r0,r1⟩⟩ (λjb=>?_)
    clear hK K
    (try simp only[Act.put,lA,lB,lC])
    refine je 3 rfl (by decide +kernel) (λK hK=>?_)
    go_simp
    have HG3:=ja (HG2.o.rest HG2.o.terms (rd':=rd))
    refine hK.out _ _ ⟨trivial,λh=>absurd h (by decide +kernel),λh=>absurd h (by decide +kernel)⟩ (λjb=>?_)
    clear hK K
    (try simp only[Act.put,lA,lB,lC])
    revert jb
    refine jtq 4 ?_ ?_ ?_
    rotate_left 1
    focus(intro;go_simp;try with_reducible rfl)
    (try simp only[Act.put,lA,lB,lC])
    intro jb
    refine jl (by decide +kernel) ?_
    clear jb
    go_wp2
    exact HPOST.o _ _ wh Ao co L rd Ar nr cr rt ms 0 HV.o HLM.o HG3.o rfl rfl rfl rfl
   ·have hnb:(nu==0)=false:=by simpa using hn0
    have hqb:=jcg0 (a:=de+nu-1) (b:=nu)
    obtain⟨q,hq⟩:∃q,(de+nu-1).tdiv nu=q:=⟨_,rfl⟩
    have hqw:IntKind.i64.wrap ((de+nu-1).tdiv nu)=q:=by rw[IntKind.wrap_i64,hq];rw[hq] at hqb;omega
    go_upto_region 13 with(first
     | (go_at_call 53;refine HPQ.o.mono ?_;rintro e w1 ⟨rfl,hb1⟩
        have HG:=ja (HG.o.under hb1)
        clear hb1))
    clear o0 o1 r0 r1 HPQ
    obtain⟨sd2,st2,sc2,hsv⟩:∃a b c,jL rd rt q [(1,1)] (-1)=(a,b,c):=⟨_,_,_,rfl⟩
    have HST:=ja (λh=>js2 (k:=k) (s:=(sd2,st2,sc2)) hp (by rw[hq];exact hsv) (by rw[hq];exact h))
    have HNX:=ja (λh=>js1 (k:=k) (s:=(sd2,st2,sc2)) hp (by rw[hq];exact hsv) hn0 (by rw[hq];exact h))
    rw[hq] at HNX
    have HRB2:=ja (jas0 hsv)
    clear hp hq hqw hqb hnb hrb
    have HX:=ja HG.o.drew
    have HBC:=ja (Below.drew (Below.refl w1.heap.size w1))
    have hU2:=HG.o.r.lt
    obtain⟨r0,r1,_,_⟩:=HG.o.r.two
    clear HG
    refine jk (λ_=>True) 8 (λw'=>Below w1.heap.size w1 w') 8 (λ_=>True) (by kernel_rfl) ⟨trivial,λ_=>HBC.o,λ_=>trivial⟩ (λjb=>?_)
    revert jb
    refine jtk 0 ?_ ?_ ?_
    rotate_left 1
    focus(intro w' hSw;obtain⟨hC,hF,hG⟩:=hSw;have hF:=hF (by decide +kernel);clear hG;clear hC;have c1:=(hF.cell (p:=⟨w.heap.size+2,0,none⟩) hU2).trans r0;have c2:=(hF.cell (p:=⟨w.heap.size+2,1,none⟩) hU2).trans r1;clear hF;go_simp;try with_reducible rfl)
    (try simp only[Act.put,lA,lB,lC])
    refine jtq 1 ?_ ?_ ?_
    rotate_left 1
    focus(intro;go_simp;try with_reducible rfl)
    (try simp only[Act.put,lA,lB,lC])
    intro jb
    clear r0 r1
    refine jb4 2 7 rfl rfl (by decide +kernel) (λK hK=>?_) (λK hK=>?_)
    focus
     go_simp
     go_wp2_with (first
      | (go_at_call 55;refine(ZJ 1 q _).mono ?_;rintro e w4 ⟨A4,n4,c4,rfl,ho4,hb4⟩
         have HX:=ja (HX.o.under hb4)
         have HF4:=ja ho4
         have HBC:=ja (HBC.o.trans (hb4.mono HBC.o.size))
         clear hb4 ho4))
     refine hK.out _ _ ⟨trivial,λ_=>HBC.o,λ_=>trivial⟩ (λjb=>?_)
     clear hK K
     (try simp only[Act.put,lA,lB,lC])
     refine jb4 3 7 rfl rfl (by decide +kernel) (λK hK=>?_) (λK hK=>?_)
     focus
      have HSB:=ja (Qb rd Ar nr cr rt q A4 n4 c4 [(1,1)] (w4).heap.size (w4) (Rd.of_own HX.o.terms) (Rd.of_own HF4.o) (Nat.le_refl _))
      rw[hsv] at HSB
      go_simp
      go_wp2_with (first
       | (go_at_call 28;refine HSB.o.mono ?_;rintro e w5 ⟨A5,n5,c5,rfl,ho5,hb5⟩
          have HT5:=ja (jO ho5 (Nat.le_trans (show w.heap.size+3<=w1.heap.size by omega) HBC.o.size))
          have HX:=ja (HX.o.under hb5)
          have HBC:=ja (HBC.o.trans (hb5.mono HBC.o.size))
          clear hb5 ho5 HSB))
      refine hK.out _ _ ⟨trivial,λ_=>HBC.o,λ_=>trivial⟩ (λjb=>?_)
      clear hK K
      (try simp only[Act.put,lA,lB,lC])
      revert jb
      refine jtq 4 ?_ ?_ ?_
      rotate_left 1
      focus(intro;go_simp;try with_reducible rfl)
      (try simp only[Act.put,lA,lB,lC])
      refine jtq 5 ?_ ?_ ?_
      rotate_left 1
      focus(intro;go_simp;try with_reducible rfl)
      (try simp only[Act.put,lA,lB,lC])
      refine jtq 6 ?_ ?_ ?_
      rotate_left 1
      focus(intro;go_simp;try with_reducible rfl)
      (try simp only[Act.put,lA,lB,lC])
      intro jb
      have HXp:=HX;have HTp:=HT5
      refine je 7 rfl (by decide +kernel) (λK hK=>?_)
      have HN:Hid (jh ((w5).alloc (.cells #[.int .i64 0,.slice none 0 0] 24)) w5.heap.size 24 #[.int .i64 0,.slice none 0 0]):=ja (jh.new (w5) 24 #[.int .i64 0,.slice none 0 0])
      have HXL:Hid (w.heap.size+3<=w5.heap.size):=ja (Nat.le_trans (show w.heap.size+3<=w1.heap.size by omega) HBC.o.size)
      have HX:=ja (HX.o.alloc (.cells #[.int .i64 0,.slice none 0 0] 24))
      have HT5:=ja (HT5.o.alloc (.cells #[.int .i64 0,.slice none 0 0] 24))
      have HBC:=ja (HBC.o.alloc HBC.o.size (.cells #[.int .i64 0,.slice none 0 0] 24))
      go_simp
      refine hK.out _ _ ⟨trivial,λ_=>HBC.o,λ_=>trivial⟩ (λjb=>?_)
      clear hK K
      (try simp only[Act.put,lA,lB,lC])
      obtain⟨n0,n1,nf0,nf1⟩:=HN.o.two
      have HN2:=ja (HN.o.set_ 0 (.int .i64 sd2))
      have HX2:=ja ((HX.o.put HN.o HXL.o (i:=0) (.int .i64 sd2)).put HN2.o HXL.o (i:=1) (.slice A5 n5 c5))
      have HT6:=ja (jC (jC HT5.o HN.o (i:=0) (u:=.int .i64 sd2) (by decide)) HN2.o (i:=1) (u:=.slice A5 n5 c5) (by decide))
      have HN3:=ja (HN2.o.set_ 1 (.slice A5 n5 c5))
      refine je 8 rfl (by decide +kernel) (λK hK=>?_)
      go_simp
      refine hK.out _ _ ⟨trivial,λh=>absurd h (by decide +kernel),λ_=>trivial⟩ (λjb=>?_)
      clear hK K
      (try simp only[Act.put,lA,lB,lC])
      revert jb
      refine jtq 9 ?_ ?_ ?_
      rotate_left 1
      focus(intro;go_simp;try with_reducible rfl)
      (try simp only[Act.put,lA,lB,lC])
      intro jb
      refine jl (by decide +kernel) ?_
      have HX2:=ja (HXp.o.alloc (.cells #[.int .i64 sd2,.slice A5 n5 c5] 24))
      have HN3:Hid (jh (w5.alloc (.cells #[.int .i64 sd2,.slice A5 n5 c5] 24)) w5.heap.size 24 #[.int .i64 sd2,.slice A5 n5 c5]):=ja (jh.new w5 _ _)
      have HT6:=ja (HTp.o.alloc (.cells #[.int .i64 sd2,.slice A5 n5 c5] 24))
      clear HXp HTp
      clear jb n0 n1 nf0 nf1 HN HN2 HX HT5 HBC
      obtain⟨X,hX⟩:∃X,X=w5.heap.size:=⟨_,rfl⟩
      rw[<-hX] at HN3 HXL ⊢
      clear hX
      generalize w5.alloc (.cells #[.int .i64 sd2,.slice A5 n5 c5] 24)=V at *
     rotate_left 1
     focus
      have HN:Hid (jh ((w4).alloc (.cells #[.int .i64 0,.slice none 0 0] 24)) w4.heap.size 24 #[.int .i64 0,.slice none 0 0]):=ja (jh.new (w4) 24 #[.int .i64 0,.slice none 0 0])
      have HXL:Hid (w.heap.size+3<=w4.heap.size):=ja (Nat.le_trans (show w.heap.size+3<=w1.heap.size by omega) HBC.o.size)
      have HX:=ja (HX.o.alloc (.cells #[.int .i64 0,.slice none 0 0] 24))
      have HF4:=ja (HF4.o.alloc (.cells #[.int .i64 0,.slice none 0 0] 24))
      have HBC:=ja (HBC.o.alloc HBC.o.size (.cells #[.int .i64 0,.slice none 0 0] 24))
      go_simp
      refine hK.out _ _ ⟨trivial,λ_=>HBC.o,λ_=>trivial⟩ (λjb=>?_)
      clear hK K
      (try simp only[Act.put,lA,lB,lC])
      refine je 3 rfl (by decide +kernel) (λK hK=>?_)
      have HSB:=ja (Qb rd Ar nr cr rt q A4 n4 c4 [(1,1)] (w4.alloc (.cells #[.int .i64 0,.slice none 0 0] 24)).heap.size (w4.alloc (.cells #[.int .i64 0,.slice none 0 0] 24)) (Rd.of_own HX.o.terms) (Rd.of_own HF4.o) (Nat.le_refl _))
      rw[hsv] at HSB
      go_simp
      go_wp2_with (first
       | (go_at_call 28;refine HSB.o.mono ?_;rintro e w5 ⟨A5,n5,c5,rfl,ho5,hb5⟩
          have HT5:=ja (jO ho5 (Nat.le_trans (show w.heap.size+3<=w1.heap.size by omega) HBC.o.size))
          have HX:=ja (HX.o.under hb5)
          have HN:=ja (HN.o.below hb5 HN.o.lt)
          have HBC:=ja (HBC.o.trans (hb5.mono HBC.o.size))
          clear hb5 ho5 HSB))
      refine hK.out _ _ ⟨trivial,λ_=>HBC.o,λ_=>trivial⟩ (λjb=>?_)
      clear hK K
      (try simp only[Act.put,lA,lB,lC])
      revert jb
      refine jtq 4 ?_ ?_ ?_
      rotate_left 1
      focus(intro;go_simp;try with_reducible rfl)
      (try simp only[Act.put,lA,lB,lC])
      refine jtq 5 ?_ ?_ ?_
      rotate_left 1
      focus(intro;go_simp;try with_reducible rfl)
      (try simp only[Act.put,lA,lB,lC])
      refine jtq 6 ?_ ?_ ?_
      rotate_left 1
      focus(intro;go_simp;try with_reducible rfl)
      (try simp only[Act.put,lA,lB,lC])
      intro jb
      obtain⟨n0,n1,nf0,nf1⟩:=HN.o.two
      have HN2:=ja (HN.o.set_ 0 (.int .i64 sd2))
      have HX2:=ja ((HX.o.put HN.o HXL.o (i:=0) (.int .i64 sd2)).put HN2.o HXL.o (i:=1) (.slice A5 n5 c5))
      have HT6:=ja (jC (jC HT5.o HN.o (i:=0) (u:=.int .i64 sd2) (by decide)) HN2.o (i:=1) (u:=.slice A5 n5 c5) (by decide))
      have HN3:=ja (HN2.o.set_ 1 (.slice A5 n5 c5))
      refine je 8 rfl (by decide +kernel) (λK hK=>?_)
      go_simp
      refine hK.out _ _ ⟨trivial,λh=>absurd h (by decide +kernel),λ_=>trivial⟩ (λjb=>?_)
      clear hK K
      (try simp only[Act.put,lA,lB,lC])
      revert jb
      refine jtq 9 ?_ ?_ ?_
      rotate_left 1
      focus(intro;go_simp;try with_reducible rfl)
      (try simp only[Act.put,lA,lB,lC])
      intro jb
      refine jl (by decide +kernel) ?_
      clear jb n0 n1 nf0 nf1 HN HN2 HX HT5 HBC
      obtain⟨X,hX⟩:∃X,X=w4.heap.size:=⟨_,rfl⟩
      rw[<-hX] at HN3 HX2 HT6 HXL ⊢
      clear hX
      generalize ((w5).setCell ⟨X,0,none⟩ (.int .i64 sd2)).setCell ⟨X,1,none⟩ (.slice A5 n5 c5)=V at *
    rotate_left 2
    focus
     have HN:Hid (jh ((w1.drew).alloc (.cells #[.int .i64 0,.slice none 0 0] 24)) w1.heap.size 24 #[.int .i64 0,.slice none 0 0]):=ja (jh.new (w1.drew) 24 #[.int .i64 0,.slice none 0 0])
     have HXL:Hid (w.heap.size+3<=w1.heap.size):=ja (Nat.le_trans (show w.heap.size+3<=w1.heap.size by omega) HBC.o.size)
     have HX:=ja (HX.o.alloc (.cells #[.int .i64 0,.slice none 0 0] 24))
     have HBC:=ja (HBC.o.alloc HBC.o.size (.cells #[.int .i64 0,.slice none 0 0] 24))
     go_simp
     refine hK.out _ _ ⟨trivial,λ_=>HBC.o,λ_=>trivial⟩ (λjb=>?_)
     clear hK K
     (try simp only[Act.put,lA,lB,lC])
     refine je 2 rfl (by decide +kernel) (λK hK=>?_)
     go_simp
     go_wp2_with (first
      | (go_at_call 55;refine(ZJ 1 q _).mono ?_;rintro e w4 ⟨A4,n4,c4,rfl,ho4,hb4⟩
         have HX:=ja (HX.o.under hb4)
         have HF4:=ja ho4
         have HN:=ja (HN.o.below hb4 HN.o.lt)
         have HBC:=ja (HBC.o.trans (hb4.mono HBC.o.size))
         clear hb4 ho4))
     refine hK.out _ _ ⟨trivial,λ_=>HBC.o,λ_=>trivial⟩ (λjb=>?_)
     clear hK K
     (try simp only[Act.put,lA,lB,lC])
     refine je 3 rfl (by decide +kernel) (λK hK=>?_)
     have HSB:=ja (Qb rd Ar nr cr rt q A4 n4 c4 [(1,1)] (w4).heap.size (w4) (Rd.of_own HX.o.terms) (Rd.of_own HF4.o) (Nat.le_refl _))
     rw[hsv] at HSB
     go_simp
     go_wp2_with (first
      | (go_at_call 28;refine HSB.o.mono ?_;rintro e w5 ⟨A5,n5,c5,rfl,ho5,hb5⟩
         have HT5:=ja (jO ho5 (Nat.le_trans (show w.heap.size+3<=w1.heap.size by omega) HBC.o.size))
         have HX:=ja (HX.o.under hb5)
         have HN:=ja (HN.o.below hb5 HN.o.lt)
         have HBC:=ja (HBC.o.trans (hb5.mono HBC.o.size))
         clear hb5 ho5 HSB))
     refine hK.out _ _ ⟨trivial,λ_=>HBC.o,λ_=>trivial⟩ (λjb=>?_)
     clear hK K
     (try simp only[Act.put,lA,lB,lC])
     revert jb
     refine jtq 4 ?_ ?_ ?_
     rotate_left 1
     focus(intro;go_simp;try with_reducible rfl)
     (try simp only[Act.put,lA,lB,lC])
     refine jtq 5 ?_ ?_ ?_
     rotate_left 1
     focus(intro;go_simp;try with_reducible rfl)
     (try simp only[Act.put,lA,lB,lC])
     refine jtq 6 ?_ ?_ ?_
     rotate_left 1
     focus(intro;go_simp;try with_reducible rfl)
     (try simp only[Act.put,lA,lB,lC])
     intro jb
     obtain⟨n0,n1,nf0,nf1⟩:=HN.o.two
     have HN2:=ja (HN.o.set_ 0 (.int .i64 sd2))
     have HX2:=ja ((HX.o.put HN.o HXL.o (i:=0) (.int .i64 sd2)).put HN2.o HXL.o (i:=1) (.slice A5 n5 c5))
     have HT6:=ja (jC (jC HT5.o HN.o (i:=0) (u:=.int .i64 sd2) (by decide)) HN2.o (i:=1) (u:=.slice A5 n5 c5) (by decide))
     have HN3:=ja (HN2.o.set_ 1 (.slice A5 n5 c5))
     refine je 8 rfl (by decide +kernel) (λK hK=>?_)
     go_simp
     refine hK.out _ _ ⟨trivial,λh=>absurd h (by decide +kernel),λ_=>trivial⟩ (λjb=>?_)
     clear hK K
     (try simp only[Act.put,lA,lB,lC])
     revert jb
     refine jtq 9 ?_ ?_ ?_
     rotate_left 1
     focus(intro;go_simp;try with_reducible rfl)
     (try simp only[Act.put,lA,lB,lC])
     intro jb
     refine jl (by decide +kernel) ?_
     clear jb n0 n1 nf0 nf1 HN HN2 HX HT5 HBC
     obtain⟨X,hX⟩:∃X,X=w1.heap.size:=⟨_,rfl⟩
     rw[<-hX] at HN3 HX2 HT6 HXL ⊢
     clear hX
     generalize ((w5).setCell ⟨X,0,none⟩ (.int .i64 sd2)).setCell ⟨X,1,none⟩ (.slice A5 n5 c5)=V at *
    all_goals
     by_cases hst:1000<q\/sc2≠0
     ·have hg:=HST.o hst
      have h1:=HQ1.o
      have h2:=HQ2.o
      rw[hk,hg] at h1 h2
      dsimp only at h1 h2
      rw[List.append_nil] at h1
      have HV:Hid (res=(wh,ms,(rd,rt),0)):=ja (by rw[HRES.o,<-h1,<-h2])
      have HG:=HX2
      clear hg h1 h2 HQ1 HQ2 HST HNX HN3 HT6
      have h3:1000<q\/(¬1000<q/\(sc2 !=0)=true):=by
       by_cases h4:1000<q
       ·exact .inl h4
       ·rcases hst with h|h
        ·exact absurd h h4
        ·exact .inr ⟨h4,by simpa using h⟩
      clear hst
      rcases h3 with h3|⟨h3,h4⟩
      all_goals
       go_upto_region 16 with fail
       have HSd:=ja HG.o.drew
       obtain⟨o0,o1,of0,of1⟩:=HG.o.o.two
       obtain⟨r0,r1,rf0,rf1⟩:=HG.o.r.two
       have HOC:=ja (And.intro o0 o1)
       have HRC:=ja (And.intro r0 r1)
       refine jk (λ_=>True) 2 (λw'=>w'.cell? ⟨w.heap.size+1,0,none⟩=some (.int .i64 wh)/\w'.cell? ⟨w.heap.size+1,1,none⟩=some (.slice Ao L.length co)) 3 (λw'=>w'.cell? ⟨w.heap.size+2,0,none⟩=some (.int .i64 rd)/\w'.cell? ⟨w.heap.size+2,1,none⟩=some (.slice Ar nr cr)) (by kernel_rfl) ⟨trivial,λ_=>HOC.o,λ_=>HRC.o⟩ (λjb=>?_)
       revert jb
       refine jtk 0 ?_ ?_ ?_
       rotate_left 1
       focus(intro w' hSw;obtain⟨hC,hF,hG⟩:=hSw;have hF:=hF (by decide +kernel);clear hG;clear hC;obtain⟨c1,c2⟩:=hF;go_simp;try with_reducible rfl)
       (try simp only[Act.put,lA,lB,lC])
       refine jtk 1 ?_ ?_ ?_
       rotate_left 1
       focus(intro w' hSw;obtain⟨hC,hF,hG⟩:=hSw;have hG:=hG (by decide +kernel);clear hF;clear hC;obtain⟨c1,c2⟩:=hG;go_simp;try with_reducible rfl)
       (try simp only[Act.put,lA,lB,lC])
       intro jb
       refine je 2 rfl (by decide +kernel) (λK hK=>?_)
       go_simp
       have HG2:=ja ((HSd.o.whole wh).second (.slice Ao L.length co))
       clear r0 r1 rf0 rf1
       obtain⟨r0,r1,rf0,rf1⟩:=((HG.o.whole wh).second (.slice Ao L.length co)).r.two
       refine hK.out _ _ ⟨trivial,λh=>absurd h (by decide +kernel),λ_=>⟨r0,r1⟩⟩ (λjb=>?_)
       clear hK K
       (try simp only[Act.put,lA,lB,lC])
       refine je 3 rfl (by decide +kernel) (λK hK=>?_)
       go_simp
       have HG3:=ja (HG2.o.rest HG2.o.terms (rd':=rd))
       refine hK.out _ _ ⟨trivial,λh=>absurd h (by decide +kernel),λh=>absurd h (by decide +kernel)⟩ (λjb=>?_)
       clear hK K
       (try simp only[Act.put,lA,lB,lC])
       revert jb
       refine jtq 4 ?_ ?_ ?_
       rotate_left 1
       focus(intro;go_simp;try with_reducible rfl)
       (try simp only[Act.put,lA,lB,lC])
       intro jb
       refine jl (by decide +kernel) ?_
       clear jb
       go_wp2
       exact HPOST.o _ _ wh Ao co L rd Ar nr cr rt ms 0 HV.o HLM.o HG3.o rfl rfl rfl rfl
     ·have hg:=HNX.o hst
      have h3:¬1000<q:=λh=>hst (.inl h)
      have h4:(sc2 !=0)=false:=by
       have:sc2=0:=Classical.not_not.1 (λh=>hst (.inr h))
       rw[this];rfl
      have h1:=HQ1.o
      have h2:=HQ2.o
      rw[hk,hg] at h1 h2
      dsimp only at h1 h2
      have HQ3:=ja h1
      have HQ4:=ja h2
      clear hg h1 h2 HQ1 HQ2 HST HNX hst
      obtain⟨n0,n1,_,_⟩:=HN3.o.two
      go_upto_region 15 with fail
      clear n0 n1 h3 h4
      have HYd:=ja HX2.o.drew
      have HNd:Hid (jh V.drew X 24 #[.int .i64 sd2,.slice A5 n5 c5]):=ja (HN3.o.below (Below.drew (Below.refl _ _)) HN3.o.lt)
      have HTd:=ja HT6.o.drew
      have hVz:w.heap.size+3<=V.heap.size:=by have:=HX2.o.r.lt;omega
      obtain⟨o0,o1,_,_⟩:=HYd.o.o.two
      obtain⟨n0,n1,_,_⟩:=HNd.o.two
      have HOC:=ja o1
      have HNC:=ja (And.intro n0 n1)
      have hLb:L.length<=8:=by omega
      clear HX2 HN3 HT6
      refine jk (λ_=>True) 9 (λw'=>w'.cell? ⟨w.heap.size+1,1,none⟩=some (.slice Ao L.length co)) 10 (λw'=>w'.cell? ⟨X,0,none⟩=some (.int .i64 sd2)/\w'.cell? ⟨X,1,none⟩=some (.slice A5 n5 c5)) (by kernel_rfl) ⟨trivial,λ_=>HOC.o,λ_=>HNC.o⟩ (λjb=>?_)
      revert jb
      refine jtq 0 ?_ ?_ ?_
      rotate_left 1
      focus(intro;go_simp;try with_reducible rfl)
      (try simp only[Act.put,lA,lB,lC])
      refine jtk 1 ?_ ?_ ?_
      rotate_left 1
      focus(intro w' hSw;obtain⟨hC,hF,hG⟩:=hSw;have hF:=hF (by decide +kernel);clear hG;clear hC;have c1:=hF;go_simp;try with_reducible rfl)
      (try simp only[Act.put,lA,lB,lC])
      refine jtq 2 ?_ ?_ ?_
      rotate_left 1
      focus(intro;go_simp;try with_reducible rfl)
      (try simp only[Act.put,lA,lB,lC])
      refine jtk 7 ?_ ?_ ?_
      rotate_left 1
      focus(intro w' hSw;obtain⟨hC,hF,hG⟩:=hSw;have hG:=hG (by decide +kernel);clear hF;clear hC;obtain⟨c1,c2⟩:=hG;go_simp;try with_reducible rfl)
      (try simp only[Act.put,lA,lB,lC])
      intro jb
      clear o0 o1 n0 n1 HOC HNC
      refine je 3 rfl (by decide +kernel) (λK hK=>?_)
      have HM:Hid ((V.drew.alloc (.cells #[.int .i64 q] 3)).ownsRow (w.heap.size+3) 3 1 (.slice (some ⟨V.heap.size,0,none⟩) 1 1) 1 [.int .i64 q]):=ja (World.ownsRow_lit (base:=w.heap.size+3) (e:=3) (size:=1) V.drew #[.int .i64 q] 1 (by show _<=V.heap.size;omega) (by unfold maxLen;omega) rfl)
      have HYd:=ja (HYd.o.alloc (.cells #[.int .i64 q] 3))
      have HNd:=ja (HNd.o.alloc (.cells #[.int .i64 q] 3))
      have HTd:=ja (HTd.o.alloc (.cells #[.int .i64 q] 3))
      go_simp
      refine hK.out _ _ ⟨trivial,λ_=>(HYd.o.o.two).2.1,λ_=>⟨(HNd.o.two).1,(HNd.o.two).2.1⟩⟩ (λjb=>?_)
      clear hK K
      (try simp only[Act.put,lA,lB,lC])
      revert jb
      refine jtq 4 ?_ ?_ ?_
      rotate_left 1
      focus(intro;go_simp;try with_reducible rfl)
      (try simp only[Act.put,lA,lB,lC])
      intro jb
      refine je 5 rfl (by decide +kernel) (λK hK=>?_)
      have HCELL:Hid (∀j x,[Value.bool false,.slice (some ⟨V.heap.size,0,none⟩) 1 1][j]?=some x->((V.drew.alloc (.cells #[.int .i64 q] 3)).alloc (.cells #[.bool false,.slice (some ⟨V.heap.size,0,none⟩) 1 1] 94)).cell? ((⟨V.heap.size+1,0,none⟩:Addr).add j)=some x):=ja (by have h:=zx (V.drew.alloc (.cells #[.int .i64 q] 3)) (.bool false) (.slice (some ⟨V.heap.size,0,none⟩) 1 1) 94;rwa [World.size_alloc] at h)
      have HM:=ja (HM.o.alloc (.cells #[.bool false,.slice (some ⟨V.heap.size,0,none⟩) 1 1] 94))
      have HYd:=ja (HYd.o.alloc (.cells #[.bool false,.slice (some ⟨V.heap.size,0,none⟩) 1 1] 94))
      have HNd:=ja (HNd.o.alloc (.cells #[.bool false,.slice (some ⟨V.heap.size,0,none⟩) 1 1] 94))
      have HTd:=ja (HTd.o.alloc (.cells #[.bool false,.slice (some ⟨V.heap.size,0,none⟩) 1 1] 94))
      go_simp
      refine hK.out _ _ ⟨trivial,λ_=>(HYd.o.o.two).2.1,λ_=>⟨(HNd.o.two).1,(HNd.o.two).2.1⟩⟩ (λjb=>?_)
      clear hK K
      (try simp only[Act.put,lA,lB,lC])
      refine je 6 rfl (by decide +kernel) (λK hK=>?_)
      refine step_append_lies _ rfl _ _ 41 rfl (w.heap.size+3) 94 i1 (.agg #[.bool false,.slice none 0 0]) 2 32 Tryz.underlying41 hi1 hy0 hy1 hy2 rfl (by decide) (.slice Ao L.length co) L.length _ rfl HYd.o.row ⟨V.heap.size+1,0,none⟩ 1 1 [.bool false,.slice (some ⟨V.heap.size,0,none⟩) 1 1] rfl rfl HCELL.o (by simp[Value.oneCell']) (by decide) (by unfold maxLen;omega) (by omega) HYd.o.r.lt _ rfl ?_
      intro g6 cap6 w6 ho6 hg6 _ hlt6
      have hne6:∀j,(Value.slice Ao L.length co).ownBlock=some j->w.heap.size+3<=j:=λj e=>(HYd.o.row.lt j e).1
      have HNd:=ja (HNd.o.grown hg6 (λe=>JQ HYd.o.row HNd.o (by decide) e))
      have HTd:=ja (zF HTd.o hg6 (λg e1 e2=>zS HYd.o.row HTd.o (by decide) e2 e1))
      have HYd:=ja (HYd.o.grow HM.o ho6 hg6)
      refine hK.out _ _ ⟨trivial,λ_=>(HYd.o.o.two).2.1,λ_=>⟨(HNd.o.two).1,(HNd.o.two).2.1⟩⟩ (λjb=>?_)
      clear hK K ho6 hg6 hne6 HM HCELL
      (try simp only[Act.put,lA,lB,lC])
      revert jb
      refine jtq 8 ?_ ?_ ?_
      rotate_left 1
      focus(intro;go_simp;try with_reducible rfl)
      (try simp only[Act.put,lA,lB,lC])
      intro jb
      obtain⟨o0,o1,of0,of1⟩:=HYd.o.o.two
      refine je 9 rfl (by decide +kernel) (λK hK=>?_)
      go_simp
      have HNd:=ja (HNd.o.far (p:=⟨w.heap.size+1,1,none⟩) (by have:=HXL.o;simp;omega) (.slice (some ⟨g6,0,none⟩) (L.length+1) cap6))
      have HTd:=ja (ownsRow_setCell_below HTd.o (a:=⟨w.heap.size+1,1,none⟩) (by show w.heap.size+1<w.heap.size+3;omega) (.slice (some ⟨g6,0,none⟩) (L.length+1) cap6))
      have HYd:=ja (HYd.o.second (.slice (some ⟨g6,0,none⟩) (L.length+1) cap6))
      refine hK.out _ _ ⟨trivial,λh=>absurd h (by decide +kernel),λ_=>⟨(HNd.o.two).1,(HNd.o.two).2.1⟩⟩ (λjb=>?_)
      clear hK K
      (try simp only[Act.put,lA,lB,lC])
      clear o0 o1 of0 of1
      obtain⟨r0,r1,rf0,rf1⟩:=HYd.o.r.two
      refine je 10 rfl (by decide +kernel) (λK hK=>?_)
      go_simp
      have HYd:=ja (HYd.o.rest HTd.o (rd':=sd2))
      refine hK.out _ _ ⟨trivial,λh=>absurd h (by decide +kernel),λh=>absurd h (by decide +kernel)⟩ (λjb=>?_)
      clear hK K
      (try simp only[Act.put,lA,lB,lC])
      refine jl (by decide +kernel) ?_
      clear jb r0 r1 rf0 rf1
      generalize ((w6.setCell ⟨w.heap.size+1,1,none⟩ (.slice (some ⟨g6,0,none⟩) (L.length+1) cap6)).setCell ⟨w.heap.size+2,0,none⟩ (.int .i64 sd2)).setCell ⟨w.heap.size+2,1,none⟩ (.slice A5 n5 c5)=W6 at *
      go_wp2
      go_roundg (M-(L.length+1))
      case measure=>omega
      case rel=>
       have hl1:(L++[(⟨false,some ⟨V.heap.size,0,none⟩,1,1,[q]⟩:PieceV)]).length=L.length+1:=by simp
       refine⟨some ⟨g6,0,none⟩,cap6,L++[⟨false,some ⟨V.heap.size,0,none⟩,1,1,[q]⟩],sd2,A5,n5,c5,st2,ms++[q],?_,by omega,by omega,by rw[List.map_append,List.map_append,HLM.o];rfl,HRB2.o,?_,?_⟩
       ·rw[hl1];exact HYd.o
       ·rw[hl1,show M-(L.length+1)=k by omega,List.append_assoc];exact HQ3.o
       ·rw[hl1,show M-(L.length+1)=k by omega];exact HQ4.o
  ·have hk0:M-L.length=0:=by omega
   have h1:=HQ1.o
   have h2:=HQ2.o
   rw[hk0,zC] at h1 h2
   dsimp only at h1 h2
   rw[List.append_nil] at h1
   have HV:Hid (res=(wh,ms,(rd,rt),0)):=ja (by rw[HRES.o,<-h1,<-h2])
   clear h1 h2 HQ1 HQ2 hrb
   go_upto_region 16 with fail
   clear o0 o1 r0 r1
   have HSd:=ja HG.o.drew
   obtain⟨o0,o1,of0,of1⟩:=HG.o.o.two
   obtain⟨r0,r1,rf0,rf1⟩:=HG.o.r.two
   have HOC:=ja (And.intro o0 o1)
   have HRC:=ja (And.intro r0 r1)
   refine jk (λ_=>True) 2 (λw'=>w'.cell? ⟨w.heap.size+1,0,none⟩=some (.int .i64 wh)/\w'.cell? ⟨w.heap.size+1,1,none⟩=some (.slice Ao L.length co)) 3 (λw'=>w'.cell? ⟨w.heap.size+2,0,none⟩=some (.int .i64 rd)/\w'.cell? ⟨w.heap.size+2,1,none⟩=some (.slice Ar nr cr)) (by kernel_rfl) ⟨trivial,λ_=>HOC.o,λ_=>HRC.o⟩ (λjb=>?_)
   revert jb
   refine jtk 0 ?_ ?_ ?_
   rotate_left 1
   focus(intro w' hSw;obtain⟨hC,hF,hG⟩:=hSw;have hF:=hF (by decide +kernel);clear hG;clear hC;obtain⟨c1,c2⟩:=hF;go_simp;try with_reducible rfl)
   (try simp only[Act.put,lA,lB,lC])
   refine jtk 1 ?_ ?_ ?_
   rotate_left 1
   focus(intro w' hSw;obtain⟨hC,hF,hG⟩:=hSw;have hG:=hG (by decide +kernel);clear hF;clear hC;obtain⟨c1,c2⟩:=hG;go_simp;try with_reducible rfl)
   (try simp only[Act.put,lA,lB,lC])
   intro jb
   refine je 2 rfl (by decide +kernel) (λK hK=>?_)
   go_simp
   have HG2:=ja ((HSd.o.whole wh).second (.slice Ao L.length co))
   clear r0 r1 rf0 rf1
   obtain⟨r0,r1,rf0,rf1⟩:=((HG.o.whole wh).second (.slice Ao L.length co)).r.two
   refine hK.out _ _ ⟨trivial,λh=>absurd h (by decide +kernel),λ_=>⟨r0,r1⟩⟩ (λjb=>?_)
   clear hK K
   (try simp only[Act.put,lA,lB,lC])
   refine je 3 rfl (by decide +kernel) (λK hK=>?_)
   go_simp
   have HG3:=ja (HG2.o.rest HG2.o.terms (rd':=rd))
   refine hK.out _ _ ⟨trivial,λh=>absurd h (by decide +kernel),λh=>absurd h (by decide +kernel)⟩ (λjb=>?_)
   clear hK K
   (try simp only[Act.put,lA,lB,lC])
   revert jb
   refine jtq 4 ?_ ?_ ?_
   rotate_left 1
   focus(intro;go_simp;try with_reducible rfl)
   (try simp only[Act.put,lA,lB,lC])
   intro jb
   refine jl (by decide +kernel) ?_
   clear jb
   go_wp2
   exact HPOST.o _ _ wh Ao co L rd Ar nr cr rt ms 0 HV.o HLM.o HG3.o rfl rfl rfl rfl
