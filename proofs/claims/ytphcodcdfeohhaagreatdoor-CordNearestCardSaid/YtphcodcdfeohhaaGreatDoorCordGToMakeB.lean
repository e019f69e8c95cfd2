import Derived.Test.YtphcodcdfeohhaaGreatDoorCordCToCordF
import Derived.Test.YtphcodcdfeohhaaGreatDoorRootB
import Derived.WideKeyPair
import Derived.WideKeyArr2
import Derived.Test.YtphcodcdfeohhaaGreatDoorWeakRToAppQ
set_option linter.unusedVariables false
set_option linter.unusedSimpArgs false
namespace Go.Proofs.YtphcodcdfeohhaaGreatDoor
set_option maxRecDepth 100000
set_option maxHeartbeats 2000000
open Go.RowKit
theorem zk4(num den:Int)(w:World):Calls Tryz.prog 55 #[.int .i64 num,.int .i64 den] w (jar0 w (den,[(num,1)])):=by
 have HO1:=ja0 (fun x:Array Value=>(show((w.alloc (.cells x 24)).alloc (.cells #[.int .i64 num,.int .i64 1] 59)).ownsRow (w.heap.size+1) 59 2 (.slice (some ⟨w.heap.size+1,0,none⟩) 1 1) 1 (ja9 [(num,1)]) by
  have h:=World.ownsRow_lit (base:=w.heap.size+1) (e:=59) (size:=2) (w.alloc (.cells x 24)) #[.int .i64 num,.int .i64 1] 1 (by simp) (by unfold maxLen;omega) rfl
  rw[World.size_alloc] at h
  exact h))
 go_enter Tryz.func55,Tryz.ntmps55
 go_wp2
 refine jr5 (p:=4) (ty:=24) rfl rfl ((Blk.new w _ _).alloc _) (d:=_) rfl Tryz.underlying24 Tryz.sizeNumber rfl ?_
 exact⟨_,_,_,rfl,jc5 (HO1.out _) (by omega),((Below.refl w.heap.size w).alloc (Nat.le_refl _) _).alloc (by simp) _⟩
theorem zy4(n:Int)(w:World):Calls Tryz.prog 50 #[.int .i64 n] w (jar0 w (jc6 n)):=by
 have HR0:=ja0 (Blk.new w 24 #[.int .i64 0,.slice none 0 0])
 have HB0:=ja0 ((Below.refl w.heap.size w).alloc (Nat.le_refl _) (.cells #[.int .i64 0,.slice none 0 0] 24))
 obtain⟨q1,q2,q3,q4⟩:=HR0.out.two
 by_cases h0:n=0
 ·subst h0
  have HW:Hid (jc6 0=(1,[])):=ja0 rfl
  go_enter Tryz.func50,Tryz.ntmps50
  go_wp2
  refine jr5 (p:=2) (ty:=24) rfl rfl (Blk.new w _ _) (d:=_) rfl Tryz.underlying24 Tryz.sizeNumber rfl ?_
  rw[HW.out]
  exact⟨none,0,0,rfl,⟨rfl,.inl ⟨rfl,rfl⟩⟩,(Below.refl w.heap.size w).alloc (Nat.le_refl _) _⟩
 ·have HW:=ja0 (show jc6 n=(1,[(n,1)])from if_neg h0)
  have hne:(n==0)=false:=beq_eq_false_iff_ne.2 h0
  have HF:=ja0 (zk4 n 1 (w.alloc (.cells #[.int .i64 0,.slice none 0 0] 24)))
  go_enter Tryz.func50,Tryz.ntmps50
  go_wp2_with (first
   | (go_at_call 55;refine HF.out.mono ?_;rintro e w1 ⟨A,n1,c1,rfl,ho,hb⟩
      (try simp only[World.size_alloc] at hb ho)
      have HR1:=ja0 (HR0.out.below hb (by omega))
      have HB1:=ja0 (HB0.out.trans (hb.mono (by omega)))
      obtain⟨u1,u2,u3,u4⟩:=HR1.out.two
      have HO:=ja0 ho
      clear hb ho))
  refine jr5 (p:=2) (ty:=24) rfl rfl ((HR1.out.set_ 0 _).set_ 1 _) (d:=_) rfl Tryz.underlying24 Tryz.sizeNumber rfl ?_
  rw[HW.out]
  exact⟨A,n1,c1,rfl,jc5 (ownsRow_setCell_below (ownsRow_setCell_below HO.out (by show w.heap.size<_;omega) _) (by show w.heap.size<_;omega) _) (by omega),(HB1.out.setCell (by show _<=w.heap.size;omega) _).setCell (by show _<=w.heap.size;omega) _⟩
theorem jch5 (p:PieceV) (B:Nat) (w:World) (hp:p.At w B) (hB:B<=w.heap.size) (hm:∀m∈p.ms,0<=m/\m<=1000) :
  Calls Tryz.prog 75 #[.agg #[.bool p.minus,.slice p.A p.n p.c]] w fun e w'=>e=.returned (.bool (jh4 1 p.ms==0))/\Below w.heap.size w w':=by
 obtain⟨mi,A,n,c,ms⟩:=p
 have HP:=ja0 (za2 A n c B ms (w.alloc (.cells #[.bool mi,.slice A n c] 94)) (Rd.alloc hp hB _) hm)
 have HB0:=ja0 ((Below.refl w.heap.size w).alloc (Nat.le_refl _) (.cells #[.bool mi,.slice A n c] 94))
 clear hp hm
 dsimp only
 generalize jh4 1 ms=r at *
 go_enter Tryz.func75,Tryz.ntmps75
 go_wp2_with (first
  | (go_at_call 76;refine HP.out.mono ?_;rintro e w1 ⟨rfl,hw⟩;subst w1))
 all_goals go_ret
 all_goals exact⟨by simp[*],HB0.out⟩
theorem jcv7 (xd:Int) (A:Option Addr) (n c B:Nat) (xt:List (Int×Int)) (w:World) (hx:ja3 w B A n c xt) (hB:B<=w.heap.size) :
  Calls Tryz.prog 53 #[.agg #[.int .i64 xd,.slice A n c]] w fun e w'=>e=.returned (.tuple #[.int .i64 (jk2 xd xt).1,.int .i64 (jk2 xd xt).2.1,.bool (jk2 xd xt).2.2])/\Below w.heap.size w w':=by
 have hl:=hx.len
 have hcm:=hx.nmax
 have HXa:=ja0 (Blk.new w 24 #[.int .i64 xd,.slice A n c])
 have HTa:Hid (ja3 (w.alloc (.cells #[.int .i64 xd,.slice A n c] 24)) B A n c xt):=ja0 (Rd.alloc hx hB _)
 have HBa:=ja0 ((Below.refl w.heap.size w).alloc (Nat.le_refl _) (.cells #[.int .i64 xd,.slice A n c] 24))
 clear hx
 rcases xt with _|⟨⟨co,ro⟩,_|⟨u,ts⟩⟩
 ·have HP:Hid (jk2 xd []=(0,1,true)):=ja0 rfl
  obtain rfl:n=0:=by simpa using hl.symm
  obtain⟨q1,q2,_,_⟩:=HXa.out.two
  clear hl HTa HXa
  go_enter Tryz.func53,Tryz.ntmps53
  go_wp2
  go_ret3
  rw[HP.out]
  exact⟨rfl,HBa.out⟩
 ·obtain⟨ad,had,hc0,hc1⟩:=HTa.out.at_ (i:=0) (by simp)
  obtain rfl:n=1:=by simpa using hl.symm
  subst had
  obtain⟨q1,q2,_,_⟩:=HXa.out.two
  simp only[Nat.zero_mul,List.getElem_cons_zero,jbd4] at hc0 hc1
  by_cases hr:ro=1
  ·subst hr
   have HP:Hid (jk2 xd [(co,1)]=(co,xd,true)):=ja0 (by unfold jk2;simp)
   have HBd:=ja0 (fun q=>jc8 HBa.out q)
   clear hl HTa HXa
   go_enter Tryz.func53,Tryz.ntmps53
   go_wp2
   generalize w.alloc (.cells #[.int .i64 xd,.slice (some ad) 1 c] 24)=wa at *
   go_region_held3 (fun w'=>w'.cell? ⟨w.heap.size,0,none⟩=some (.int .i64 xd)/\w'.cell? ⟨w.heap.size,1,none⟩=some (.slice (some ad) 1 c)/\w'.cell? ad=some (.int .i64 co)) (exact⟨q1,q2,hc0⟩) (fail)
   all_goals
    go_wp2
    go_ret3
    rw[HP.out]
    exact⟨rfl,HBd.out 1⟩
  ·have HP:Hid (jk2 xd [(co,ro)]=(0,0,false)):=ja0 (by unfold jk2;exact if_neg hr)
   have hrn:(ro !=1)=true:=by simpa using hr
   clear hl HTa HXa
   go_enter Tryz.func53,Tryz.ntmps53
   go_wp2
   go_ret3
   rw[HP.out]
   exact⟨rfl,HBa.out⟩
 ·have HP:Hid (jk2 xd ((co,ro)::u::ts)=(0,0,false)):=ja0 rfl
  have hl2:(1:Int)<(n:Int):=by simp at hl;omega
  have hl0:((n:Int)==0)=false:=beq_eq_false_iff_ne.2 (by omega)
  obtain⟨q1,q2,_,_⟩:=HXa.out.two
  clear HTa hl HXa
  go_enter Tryz.func53,Tryz.ntmps53
  go_wp2
  go_ret3
  rw[HP.out]
  exact⟨rfl,HBa.out⟩
open Go.ChangeShapes Go.WideShapes Go.WideMaps
section
variable {H : Type} {enc : TypeId × Value → H} {P : Program} {k e : TypeId} {q : IntKind} {W : World} {base : Nat} {sp : Nat → Bool} {held : Bool}
theorem jcv0 (A:ArrKey P k e 4) (he:P.underlying e=some (.int q)) {r:Reach} {b0:Nat} {v:Value} {d:DataW H} {ps:List MemPlace} (hv:Value.okWide P W r b0 k v) (hd:DataW.Trod enc P W base sp held k v d ps) :
  ∃a b c g:Int,v=.agg #[.int q a,.int q b,.int q c,.int q g]/\d=.agg [.lit (.int q a),.lit (.int q b),.lit (.int q c),.lit (.int q g)]/\ps=[] /\
   (Lit.int q a).wf=true/\(Lit.int q b).wf=true/\(Lit.int q c).wf=true/\(Lit.int q g).wf=true:=by
 obtain⟨⟨l⟩,rfl,hn⟩:=okWide_arr A hv
 obtain⟨u0,u1,u2,u3,rfl⟩:∃u0 u1 u2 u3,l=[u0,u1,u2,u3]:=by
  match l,hn with
  | [u0,u1,u2,u3],_=>exact⟨u0,u1,u2,u3,rfl⟩
 obtain⟨fuel,hf⟩:=hd
 cases fuel with
 | zero=>simp[DataW.trod] at hf
 | succ m=>
  rw[DataW.trod_step] at hf
  unfold DataW.trodStep at hf
  simp only[A.hu,Value.cells] at hf
  rw[if_pos (by rw[A.size];rfl),Option.map_eq_some_iff] at hf
  obtain⟨xs,hx,e1⟩:=hf
  simp only[show List.range 4=[0,1,2,3] from rfl,List.mapM_cons,List.mapM_nil,bind,Option.bind_eq_some_iff,pure,Option.some.injEq,A.one] at hx
  obtain⟨y0,g0,_,⟨y1,g1,_,⟨y2,g2,_,⟨y3,g3,_,rfl,rfl⟩,rfl⟩,rfl⟩,rfl⟩:=hx
  obtain⟨a,ea,rfl,wa⟩:=DataW.trod_int he g0
  obtain⟨b,eb,rfl,wb⟩:=DataW.trod_int he g1
  obtain⟨c,ec,rfl,wc⟩:=DataW.trod_int he g2
  obtain⟨g,eg,rfl,wg⟩:=DataW.trod_int he g3
  simp at ea eb ec eg
  subst ea eb ec eg
  simp only[Prod.mk.injEq] at e1
  exact⟨a,b,c,g,rfl,by rw[<-e1.1];rfl,by rw[<-e1.2];rfl,wa,wb,wc,wg⟩
theorem jcy8 (A:ArrKey P k e 4) (he:P.underlying e=some (.int q)) {a b c g:Int} (wa:(Lit.int q a).wf=true) (wb:(Lit.int q b).wf=true) (wc:(Lit.int q c).wf=true) (wg:(Lit.int q g).wf=true) :
  DataW.Trod enc P W base sp held k (.agg #[.int q a,.int q b,.int q c,.int q g]) (.agg [.lit (.int q a),.lit (.int q b),.lit (.int q c),.lit (.int q g)]) []:=by
 refine⟨2,?_⟩
 show DataW.trod enc P W base sp held (1+1) k [.int q a,.int q b,.int q c,.int q g]=_
 rw[DataW.trod_step]
 unfold DataW.trodStep
 simp only[A.hu]
 rw[if_pos (by rw[A.size];rfl)]
 simp[show List.range 4=[0,1,2,3] from rfl,A.one,DataW.trod,he,wa,wb,wc,wg]
end
theorem js8 (d:Int) (A:Option Addr) (n c B:Nat) (ts:List (Int×Int)) (w:World) (hq:jas0 w B A n c ts) (hB:B<=w.heap.size) (hn:n<=1000) :
  Calls Tryz.prog 10 #[.agg #[.int .i64 d,.slice A n c]] w (jar0 w (d,ts)):=by
 obtain rfl:=hq.len
 obtain⟨i1,hi1,hy0,hy1,hy2⟩:=info_parts Tryz.infoTerm
 obtain⟨w0,hw0⟩:∃w0,w0=(w.alloc (.cells #[.int .i64 d,.slice A ts.length c] 24)).alloc (.cells #[.int .i64 0,.slice none 0 0] 24):=⟨_,rfl⟩
 have hz0:w0.heap.size=w.heap.size+2:=by rw[hw0];simp
 have HX0:Hid (Blk w0 w.heap.size 24 #[.int .i64 d,.slice A ts.length c]):=ja0 (by rw[hw0];exact(Blk.new w _ _).alloc _)
 have HR0:Hid (Blk w0 (w.heap.size+1) 24 #[.int .i64 0,.slice none 0 0]):=ja0 (by
  rw[hw0]
  have h:=Blk.new (w.alloc (.cells #[.int .i64 d,.slice A ts.length c] 24)) 24 #[.int .i64 0,.slice none 0 0]
  rwa [World.size_alloc] at h)
 have HB0:Hid (Below w.heap.size w w0):=ja0 (by rw[hw0];exact((Below.refl _ _).alloc (Nat.le_refl _) _).alloc (by simp) _)
 have HL0:Hid ((w0.alloc (.cells #[] 59)).ownsRow (w.heap.size+2) 59 2 (.slice (some ⟨w.heap.size+2,0,none⟩) 0 0) 0 []):=ja0 (by
  have h:=World.ownsRow_lit (base:=w.heap.size+2) (e:=59) (size:=2) w0 #[] 0 (by omega) (by unfold maxLen;omega) rfl
  rwa [hz0] at h)
 have HX1:=ja0 (HX0.out.alloc (.cells #[] 59));have HR1:=ja0 (HR0.out.alloc (.cells #[] 59));have HB1:=ja0 (HB0.out.alloc (by omega) (.cells #[] 59))
 have HQ1:=ja0 (Rq.alloc (Rq.below hq (HB0.out.mono hB)) (show B<=w0.heap.size by omega) (.cells #[] 59))
 clear hq
 go_enter Tryz.func10,Tryz.ntmps10
 go_upto_region 1 with fail
 rw[<-hw0]
 clear hw0
 obtain⟨x0,x1,xf0,xf1⟩:=HX1.out.two
 go_wp2_with (first
  | (at_builtin;refine jap9 rfl _ _ 22 rfl (w.heap.size+2) 59 i1 (.agg #[.int .i64 0,.int .i64 0]) 2 16 Tryz.underlying22 hi1 hy0 hy1 hy2 rfl (by decide) (.slice (some ⟨w.heap.size+2,0,none⟩) 0 0) 0 [] rfl HL0.out A ts.length c B (ja9 ts) rfl HQ1.out (jcb4 ts) (by unfold maxLen;omega) (by omega) (by simp;omega) ?_
     intro A3 c3 w3 ho3 hg3
     have hne:∀j,(Value.slice (some ⟨w.heap.size+2,0,none⟩) 0 0).ownBlock=some j->w.heap.size+2<=j:=fun j e=>(HL0.out.lt j e).1
     have HO3:Hid (w3.ownsRow (w.heap.size+2) 59 2 (.slice A3 ts.length c3) ts.length (ja9 ts)):=ja0 (by simpa using ho3)
     have HX3:=ja0 (HX1.out.grown hg3 (fun e=>by have:=hne _ e;omega));have HR3:=ja0 (HR1.out.grown hg3 (fun e=>by have:=hne _ e;omega));have HB3:=ja0 (HB1.out.grown hg3 (by simp;omega) (fun j e=>by have:=hne j e;omega))
     obtain⟨x0,x1,xf0,xf1⟩:=HX3.out.two
     obtain⟨r0,r1,rf0,rf1⟩:=HR3.out.two
     rw[Nat.zero_add]
     clear ho3 hg3 hne))
 refine jr5 (p:=2) (ty:=24) rfl rfl (((HR3.out.far (p:=⟨w.heap.size,1,none⟩) (by simp) _).set_ 0 _).set_ 1 _) (d:=_) rfl Tryz.underlying24 Tryz.sizeNumber rfl ?_
 exact⟨A3,ts.length,c3,rfl,jc5 (ownsRow_setCell_below (ownsRow_setCell_below (ownsRow_setCell_below HO3.out (by show w.heap.size<_;omega) _) (by show w.heap.size+1<_;omega) _) (by show w.heap.size+1<_;omega) _) (by omega),
  Below.setCell (Below.setCell (Below.setCell HB3.out (p:=⟨w.heap.size,1,none⟩) (Nat.le_refl _) _) (p:=⟨w.heap.size+1,0,none⟩) (by show w.heap.size<=w.heap.size+1;omega) _) (p:=⟨w.heap.size+1,1,none⟩) (by show w.heap.size<=w.heap.size+1;omega) _⟩
end Go.Proofs.YtphcodcdfeohhaaGreatDoor
