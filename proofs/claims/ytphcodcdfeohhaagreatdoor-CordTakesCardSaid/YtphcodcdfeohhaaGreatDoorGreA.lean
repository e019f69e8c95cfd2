import Derived.Test.YtphcodcdfeohhaaGreatDoorCordKToCordR
import Derived.Test.YtphcodcdfeohhaaGreatDoorCordGToWidA
import Derived.Test.YtphcodcdfeohhaaGreatDoorCordSToCordV
import Derived.Test.YtphcodcdfeohhaaGreatDoorBaseToStage
set_option linter.unusedVariables false
set_option linter.unusedSimpArgs false
namespace Go.Proofs.YtphcodcdfeohhaaGreatDoor
open Go.RowKit
theorem jfa9 {P:Program} {fn:Func} {p q u:Tmp} {ty ty2:TypeId} (h:fn.results=#[.cell p ty,.cell q ty2,.tmp u]) {R:Ending->World->Prop} {a:Act} {w:World} {g g2:Nat} {t t2:TypeId} {cs cs2:Array Value} {d d2:TypeDesc}
  (hp:a.tmps.getD p undef=.pointer (some ⟨g,0,none⟩)) (hg:Blk w g t cs) (hu:P.underlying ty=some d) (hd:(match d with|.struct _|.array _ _=>true|_=>false)=true) (hi:(P.info? ty).map (·.size)=some cs.size)
  (hp2:a.tmps.getD q undef=.pointer (some ⟨g2,0,none⟩)) (hg2:Blk w g2 t2 cs2) (hu2:P.underlying ty2=some d2) (hd2:(match d2 with|.struct _|.array _ _=>true|_=>false)=true) (hi2:(P.info? ty2).map (·.size)=some cs2.size)
  (hdf:a.defers=[]) (hR:R (.returned (.tuple #[.agg cs,.agg cs2,a.tmps.getD u undef])) w):bodyPost P fn R .ret a w:=by
 refine bodyPost_ret (v:=.tuple #[.agg cs,.agg cs2,a.tmps.getD u undef]) ?_ hdf hR
 have e:(results fn a.tmps).run P w=((asAddr (a.tmps.getD p undef)).run P w).andThen fun x w₁=>((loadVar ty x).run P w₁).andThen fun v w₂=>((asAddr (a.tmps.getD q undef)).run P w₂).andThen fun x2 w₃=>((loadVar ty2 x2).run P w₃).andThen fun v2 w₄=>.ok (.tuple #[v,v2,a.tmps.getD u undef]) w₄:=by
  simp only[results,h]
  simp[Sem.run_bind,Result.andThen]
 rw[e,hp,hp2]
 simp[asAddr,Result.andThen,run_loadVar_row w g t ty cs (0,0) d hg hu hd hi,run_loadVar_row w g2 t2 ty2 cs2 (0,0) d2 hg2 hu2 hd2 hi2]
def jat5:Nat->Int×List (Int×Int)->List Int×(Int×List (Int×Int))
 | 0,r=>([],r)
 | k+1,r=>
  if(jk2 r.1 r.2).1=0 then([],r)
  else if 1000<((jk2 r.1 r.2).2.1+(jk2 r.1 r.2).1-1).tdiv (jk2 r.1 r.2).1\/(jc4 r.1 r.2 (((jk2 r.1 r.2).2.1+(jk2 r.1 r.2).1-1).tdiv (jk2 r.1 r.2).1) [(1,1)] (-1)).2.2≠0 then([],r)
  else(((jk2 r.1 r.2).2.1+(jk2 r.1 r.2).1-1).tdiv (jk2 r.1 r.2).1 ::
    (jat5 k ((jc4 r.1 r.2 (((jk2 r.1 r.2).2.1+(jk2 r.1 r.2).1-1).tdiv (jk2 r.1 r.2).1) [(1,1)] (-1)).1,(jc4 r.1 r.2 (((jk2 r.1 r.2).2.1+(jk2 r.1 r.2).1-1).tdiv (jk2 r.1 r.2).1) [(1,1)] (-1)).2.1)).1,
   (jat5 k ((jc4 r.1 r.2 (((jk2 r.1 r.2).2.1+(jk2 r.1 r.2).1-1).tdiv (jk2 r.1 r.2).1) [(1,1)] (-1)).1,(jc4 r.1 r.2 (((jk2 r.1 r.2).2.1+(jk2 r.1 r.2).1-1).tdiv (jk2 r.1 r.2).1) [(1,1)] (-1)).2.1)).2)
theorem jfb8{k:Nat}{r:Int×List (Int×Int)}(h:(jk2 r.1 r.2).1=0):jat5 k r=([],r):=by
 cases k with
 | zero=>rfl
 | succ k=>rw[jat5,if_pos h]
theorem jfh8 {k:Nat} {rd num den:Int} {rt:List (Int×Int)} {ok:Bool} {s:Int×List (Int×Int)×Int} (hp:jk2 rd rt=(num,den,ok)) (hs:jc4 rd rt ((den+num-1).tdiv num) [(1,1)] (-1)=s)
  (h:1000<(den+num-1).tdiv num\/s.2.2≠0):jat5 (k+1) (rd,rt)=([],(rd,rt)):=by
 rw[jat5]
 simp only[hp,hs]
 split<;>first|rfl|rw[if_pos h]
theorem jfh7 {k:Nat} {rd num den:Int} {rt:List (Int×Int)} {ok:Bool} {s:Int×List (Int×Int)×Int} (hp:jk2 rd rt=(num,den,ok)) (hs:jc4 rd rt ((den+num-1).tdiv num) [(1,1)] (-1)=s)
  (h0:num≠0) (h:¬(1000<(den+num-1).tdiv num\/s.2.2≠0)):jat5 (k+1) (rd,rt)=((den+num-1).tdiv num::(jat5 k (s.1,s.2.1)).1,(jat5 k (s.1,s.2.1)).2):=by
 rw[jat5]
 simp only[hp,hs]
 rw[if_neg h0,if_neg h]
def jba9(xd:Int)(xt:List (Int×Int))(most:Int):Int×List Int×(Int×List (Int×Int))×Int:=
 if ja7 xd xt=false then(0,[],(0,[]),2)
 else if(jk2 xd xt).2.2=false\/(jk2 xd xt).1<0\/1000<(jk2 xd xt).1.tdiv (jk2 xd xt).2.1\/inB most 0 8=false then(0,[],(0,[]),3)
 else((jk2 xd xt).1.tdiv (jk2 xd xt).2.1,(jat5 most.toNat ((jc4 xd xt (jc6 ((jk2 xd xt).1.tdiv (jk2 xd xt).2.1)).1 (jc6 ((jk2 xd xt).1.tdiv (jk2 xd xt).2.1)).2 (-1)).1,(jc4 xd xt (jc6 ((jk2 xd xt).1.tdiv (jk2 xd xt).2.1)).1 (jc6 ((jk2 xd xt).1.tdiv (jk2 xd xt).2.1)).2 (-1)).2.1)).1,
   (jat5 most.toNat ((jc4 xd xt (jc6 ((jk2 xd xt).1.tdiv (jk2 xd xt).2.1)).1 (jc6 ((jk2 xd xt).1.tdiv (jk2 xd xt).2.1)).2 (-1)).1,(jc4 xd xt (jc6 ((jk2 xd xt).1.tdiv (jk2 xd xt).2.1)).1 (jc6 ((jk2 xd xt).1.tdiv (jk2 xd xt).2.1)).2 (-1)).2.1)).2,0)
def jfn7(d:Int):Bool×List Int:=(false,[d])
structure GreI(w W:World)(wh:Int)(v:Value)(A:Option Addr)(c:Nat)(L:List PieceV)(rd:Int)(Ar:Option Addr)(nr cr:Nat)(rt:List (Int×Int)):Prop where
 o:Blk W (w.heap.size+1) 43 #[.int .i64 wh,v]
 r:Blk W (w.heap.size+2) 24 #[.int .i64 rd,.slice Ar nr cr]
 row:W.ownsRow (w.heap.size+3) 94 2 (.slice A L.length c) L.length (jb7 (L.map PieceV.enc))
 marks:∀p∈L,W.ownsRow (w.heap.size+3) 3 1 (.slice p.A p.n p.c) p.n (p.ms.map (Value.int .i64))
 terms:W.ownsRow (w.heap.size+3) 59 2 (.slice Ar nr cr) nr (ja9 rt)
 below:Below w.heap.size w W
section
variable {w W W' : World} {wh : Int} {v : Value} {A : Option Addr} {c : Nat} {L : List PieceV} {rd : Int} {Ar : Option Addr} {nr cr : Nat} {rt : List (Int × Int)}
theorem GreI.under(h:GreI w W wh v A c L rd Ar nr cr rt)(hb:Below W.heap.size W W'):GreI w W' wh v A c L rd Ar nr cr rt:=
 ⟨h.o.below hb h.o.lt,h.r.below hb h.r.lt,jf7 h.row hb,fun p hp=>jf7 (h.marks p hp) hb,jf7 h.terms hb,h.below.trans (hb.mono h.below.size)⟩
theorem GreI.drew(h:GreI w W wh v A c L rd Ar nr cr rt):GreI w W.drew wh v A c L rd Ar nr cr rt:=h.under (Below.drew (Below.refl _ _))
theorem GreI.alloc(h:GreI w W wh v A c L rd Ar nr cr rt)(ob:Obj):GreI w (W.alloc ob) wh v A c L rd Ar nr cr rt:=h.under ((Below.refl _ _).alloc (Nat.le_refl _) ob)
theorem GreI.rest (h:GreI w W wh v A c L rd Ar nr cr rt) {rd':Int} {Ar':Option Addr} {nr' cr':Nat} {rt':List (Int×Int)} (ho:W.ownsRow (w.heap.size+3) 59 2 (.slice Ar' nr' cr') nr' (ja9 rt')) :
  GreI w ((W.setCell ⟨w.heap.size+2,0,none⟩ (.int .i64 rd')).setCell ⟨w.heap.size+2,1,none⟩ (.slice Ar' nr' cr')) wh v A c L rd' Ar' nr' cr' rt':=by
 have kp:∀ {s n:Nat} {e:TypeId} {x:Value} {xs:List Value},W.ownsRow (w.heap.size+3) e s x n xs->((W.setCell ⟨w.heap.size+2,0,none⟩ (.int .i64 rd')).setCell ⟨w.heap.size+2,1,none⟩ (.slice Ar' nr' cr')).ownsRow (w.heap.size+3) e s x n xs:=fun x=>
  ownsRow_setCell_below (ownsRow_setCell_below x (by show w.heap.size+2<w.heap.size+3;omega) _) (by show w.heap.size+2<w.heap.size+3;omega) _
 exact⟨(h.o.far (by simp) _).far (by simp) _,(h.r.set_ 0 _).set_ 1 _,kp h.row,fun p hp=>kp (h.marks p hp),kp ho,(h.below.setCell (by show w.heap.size<=w.heap.size+2;omega) _).setCell (by show w.heap.size<=w.heap.size+2;omega) _⟩
theorem GreI.put(h:GreI w W wh v A c L rd Ar nr cr rt){X i:Nat}{cs:Array Value}(hb:Blk W X 24 cs)(hX:w.heap.size+3<=X)(u:Value):GreI w (W.setCell ⟨X,i,none⟩ u) wh v A c L rd Ar nr cr rt:=
 ⟨h.o.far (by simp;omega) u,h.r.far (by simp;omega) u,jd6 h.row hb (by decide),fun p hp=>jd6 (h.marks p hp) hb (by decide),jd6 h.terms hb (by decide),h.below.setCell (by show w.heap.size<=X;omega) u⟩
theorem GreI.whole(h:GreI w W wh v A c L rd Ar nr cr rt)(x:Int):GreI w (W.setCell ⟨w.heap.size+1,0,none⟩ (.int .i64 x)) x v A c L rd Ar nr cr rt:=by
 have kp:∀ {s n:Nat} {e:TypeId} {y:Value} {xs:List Value},W.ownsRow (w.heap.size+3) e s y n xs->(W.setCell ⟨w.heap.size+1,0,none⟩ (.int .i64 x)).ownsRow (w.heap.size+3) e s y n xs:=fun y=>ownsRow_setCell_below y (by show w.heap.size+1<w.heap.size+3;omega) _
 exact⟨h.o.set_ 0 _,h.r.far (by simp) _,kp h.row,fun p hp=>kp (h.marks p hp),kp h.terms,h.below.setCell (by show w.heap.size<=w.heap.size+1;omega) _⟩
theorem GreI.second(h:GreI w W wh v A c L rd Ar nr cr rt)(x:Value):GreI w (W.setCell ⟨w.heap.size+1,1,none⟩ x) wh x A c L rd Ar nr cr rt:=by
 have kp:∀ {s n:Nat} {e:TypeId} {y:Value} {xs:List Value},W.ownsRow (w.heap.size+3) e s y n xs->(W.setCell ⟨w.heap.size+1,1,none⟩ x).ownsRow (w.heap.size+3) e s y n xs:=fun y=>ownsRow_setCell_below y (by show w.heap.size+1<w.heap.size+3;omega) _
 exact⟨h.o.set_ 1 _,h.r.far (by simp) _,kp h.row,fun p hp=>kp (h.marks p hp),kp h.terms,h.below.setCell (by show w.heap.size<=w.heap.size+1;omega) _⟩
theorem GreI.grow {A':Option Addr} {c':Nat} {d:Int} {pA:Option Addr} {pc:Nat} (h:GreI w W wh v A c L rd Ar nr cr rt) (hm:W.ownsRow (w.heap.size+3) 3 1 (.slice pA 1 pc) 1 [.int .i64 d])
  (ho:W'.ownsRow (w.heap.size+3) 94 2 (.slice A' (L.length+1) c') (L.length+1) (jb7 (L.map PieceV.enc)++[.bool false,.slice pA 1 pc])) (hg:W.grownBy W' (Value.slice A L.length c).ownBlock) :
  GreI w W' wh v A' c' (L++[(⟨false,pA,1,pc,[d]⟩:PieceV)]) rd Ar nr cr rt:=by
 have kp:∀ {e:TypeId} {s n:Nat} {v:Value} {xs:List Value},94≠e->W.ownsRow (w.heap.size+3) e s v n xs->W'.ownsRow (w.heap.size+3) e s v n xs:=fun hne x=>
  jp2 x hg (fun g e1 e2=>js5 h.row x hne e2 e1)
 have hne:∀j,(Value.slice A L.length c).ownBlock=some j->w.heap.size+3<=j:=fun j e=>(h.row.lt j e).1
 refine⟨h.o.grown hg (fun e=>by have:=hne _ e;omega),h.r.grown hg (fun e=>by have:=hne _ e;omega),?_,fun p hp=>?_,kp (by decide) h.terms,h.below.grown hg h.below.size (fun j e=>by have:=hne j e;omega)⟩
 ·rw[js7,List.length_append]
  exact ho
 ·rcases List.mem_append.1 hp with hp|hp
  ·exact kp (by decide) (h.marks p hp)
  ·rw[List.mem_singleton.1 hp]
   exact kp (by decide) hm
end
end Go.Proofs.YtphcodcdfeohhaaGreatDoor
