import Derived.Test.YtphcodcdfeohhaaGreatDoorCordNToCordO
set_option linter.all false
namespace Go.Proofs.YtphcodcdfeohhaaGreatDoor
set_option maxRecDepth 100000
set_option maxHeartbeats 2000000
open Go.RowKit
attribute [local go_sem] Oper.semAt_some
theorem jc0{w:World}{b:Nat}{v:Value}(h:w.cell? ⟨b,0,none⟩=some v):(loadVar 3 ⟨b,0,none⟩).run Tryz.prog w=.ok v w:=by
 have hagg:(isAgg 3).run Tryz.prog w=.ok false w:=by
  unfold isAgg
  rw[Sem.run_bind,run_underlying Tryz.underlying3 w]
  simp[Result.andThen]
 simp[loadVar,Sem.run_bind,hagg,go_sem,h]
theorem jt8 {fn:Func} {p q u:Tmp} {x y:TypeId} (h:fn.results=#[.cell p x,.cell q y,.tmp u]) (tmps:Array Value) (P:Program) (w:World) :
  (results fn tmps).run P w=((asAddr (tmps.getD p undef)).run P w).andThen λa w1=>((loadVar x a).run P w1).andThen λv w2=>((asAddr (tmps.getD q undef)).run P w2).andThen λb w3=>
   ((loadVar y b).run P w3).andThen λv2 w4=>.ok (.tuple #[v,v2,tmps.getD u undef]) w4:=by
 simp only[results,h]
 simp[Sem.run_bind,Result.andThen]
theorem jt9 {fn:Func} {p q u:Tmp} (h:fn.results=#[.cell p 3,.cell q 3,.tmp u]) {tmps:Array Value} {w:World} {b1 b2:Nat} {v1 v2 v3:Value}
  (e1:tmps.getD p undef=.pointer (some ⟨b1,0,none⟩)) (e2:tmps.getD q undef=.pointer (some ⟨b2,0,none⟩)) (e3:tmps.getD u undef=v3) (h1:w.cell? ⟨b1,0,none⟩=some v1) (h2:w.cell? ⟨b2,0,none⟩=some v2) :
  (results fn tmps).run Tryz.prog w=.ok (.tuple #[v1,v2,v3]) w:=by
 rw[jt8 h,e1,e2,e3]
 simp[asAddr,Result.andThen,jc0 h1,jc0 h2]
theorem jam3(n most:Int)(w:World):Calls Tryz.prog 58 #[.int .i64 n,.int .i64 most] w λe w'=>e=.returned (.bool (zz n 1 1000&&zz most 1 3000))/\w'=w:=by
 have HW:=ja (λW=>jN n 1 1000 W)
 have HM:=ja (λW=>jN most 1 3000 W)
 generalize zz n 1 1000=x at *
 generalize zz most 1 3000=y at *
 cases x
 all_goals
  go_enter Tryz.func58,Tryz.ntmps58
  go_wp2_with (first
   | (go_at_call_of 54 n;refine(HW.o _).mono ?_;rintro e w2 ⟨rfl,hw⟩;subst w2)
   | (go_at_call_of 54 most;refine(HM.o _).mono ?_;rintro e w2 ⟨rfl,hw⟩;subst w2))
  go_ret
  exact⟨by simp,rfl⟩
theorem jas4(n most:Int)(w:World):Calls Tryz.prog 59 #[.int .i64 n,.int .i64 most] w λe w'=>
  e=.returned (.func (.func 99) #[] #[.pointer (some ⟨w.heap.size+1,0,none⟩),.pointer (some ⟨w.heap.size,0,none⟩)])/\w'=(w.alloc (.cells #[.int .i64 n] 3)).alloc (.cells #[.int .i64 most] 3):=by
 go_enter Tryz.func59,Tryz.ntmps59
 go_wp2
 go_ret
 exact⟨by simp,rfl⟩
theorem zj6(args:Array Value)(w:World):(callFunc 99 args).run Tryz.prog w=.ok (.enter 99 args) w:=enters_of Tryz.func99 (by kernel_rfl) rfl args w
attribute [local go_sem] Oper.semAt_some
def js5(l:List (Int×Int)):Int×Int:=(l.getLast?).getD (0,0)
theorem zk4(l:List (Int×Int))(x:Int×Int):js5 (l++[x])=x:=by simp[js5]
def jg2(n most:Int):Int×Int×Int:=if(zz n 1 1000&&zz most 1 3000)=true then((js5 (recS n most)).1,(js5 (recS n most)).2,0)else(0,0,3)
def jcg8(w:World)(pre:List (Int×Int))(W:World):Prop:=
 ZG W w.heap.size 3 (.int .i64 (js5 pre).1)/\ZG W (w.heap.size+1) 3 (.int .i64 (js5 pre).2)/\Below w.heap.size w W
theorem jap4(n most:Int)(w:World):Calls Tryz.prog 22 #[.int .i64 n,.int .i64 most] w λe w'=>
  e=.returned (.tuple #[.int .i64 (jg2 n most).1,.int .i64 (jg2 n most).2.1,.int .i64 (jg2 n most).2.2])/\Below w.heap.size w w':=by
 have HA:=ja (λm W=>(callsIn_wide (n:=m)).2 (jam3 n most W))
 have HRC:=ja (λm W=>(callsIn_wide (n:=m)).2 (jas4 n most W))
 have HX0:=ja ((ZG.new w 3 (.int .i64 0)).alloc (.cells #[.int .i64 0] 3))
 have hY:=ZG.new (w.alloc (.cells #[.int .i64 0] 3)) 3 (.int .i64 0)
 rw[World.size_alloc] at hY
 have HY0:=ja hY
 have HB0:=ja (((Below.refl w.heap.size w).alloc (Nat.le_refl _) (.cells #[.int .i64 0] 3)).alloc (by simp) (.cells #[.int .i64 0] 3))
 obtain⟨w0,hw0⟩:∃w0,w0=(w.alloc (.cells #[.int .i64 0] 3)).alloc (.cells #[.int .i64 0] 3):=⟨_,rfl⟩
 have hz0:w0.heap.size=w.heap.size+2:=by rw[hw0];simp
 rw[<-hw0] at HX0 HY0 HB0
 clear hY
 have HX0:=ja HX0.o
 have HY0:=ja HY0.o
 unfold jg2
 refine(callsIn_wide (n:=0)).1 ?_
 refine callsIn_of_wp_marks Tryz.func22 rfl trivial ?_ rfl
 simp only[Tryz.ntmps22,List.size_toArray,List.length_cons,List.length_nil,Nat.reduceAdd,Nat.reduceSub,Array.replicate_succ,Array.replicate_zero,List.push_toArray,List.append_toArray,List.nil_append,List.cons_append]
 cases hin:(zz n 1 1000&&zz most 1 3000)
 ·rw[hin] at HA
  gi_wp2_with fail
  rw[<-hw0]
  clear hw0
  refine⟨trivial,rfl,CallsIn.mono (HA.o _ _) ?_⟩
  rintro e w1 ⟨rfl,hw1⟩
  subst w1
  have h1:=HX0.o.cell
  have h2:=HY0.o.cell
  have f1:=HX0.o.free
  have f2:=HY0.o.free
  gi_wp2
  refine⟨_,jt9 rfl rfl rfl rfl (b1:=w.heap.size) (b2:=w.heap.size+1) (v1:=.int .i64 0) (v2:=.int .i64 0) ?_ ?_,rfl,Below.setCell (Below.setCell HB0.o (p:=⟨w.heap.size,0,none⟩) (by simp) _) (p:=⟨w.heap.size+1,0,none⟩) (by simp) _⟩
  ·exact((HX0.o.set_ _).far (by simp) _).cell
  ·exact((HY0.o.far (by simp) _).set_ _).cell
 ·rw[hin] at HA
  have hn:1<=n/\n<=1000:=by
   have:=(Bool.and_eq_true _ _▸hin:_/\_).1;simpa [zz] using this
  have hm:1<=most/\most<=3000:=by
   have:=(Bool.and_eq_true _ _▸hin:_/\_).2;simpa [zz] using this
  have hg:=zn2 (w.heap.size+3) (w.heap.size+2) n most ((w0.alloc (.cells #[.int .i64 n] 3)).alloc (.cells #[.int .i64 most] 3)) (by
   have:=(ZG.new (w0.alloc (.cells #[.int .i64 n] 3)) 3 (.int .i64 most)).cell
   rw[World.size_alloc,hz0] at this
   exact this) (by
   have:=((ZG.new w0 3 (.int .i64 n)).alloc (.cells #[.int .i64 most] 3)).cell
   rw[hz0] at this
   exact this) hn hm
  have HG:=ja hg
  clear hg
  gi_wp2_with fail
  rw[<-hw0]
  clear hw0
  refine⟨trivial,rfl,CallsIn.mono (HA.o _ _) ?_⟩
  rintro e w1 ⟨rfl,hw1⟩
  subst w1
  gi_wp2_with fail
  refine⟨trivial,rfl,CallsIn.mono (HRC.o _ _) ?_⟩
  rintro e w1 ⟨rfl,hw1⟩
  subst w1
  rw[hz0]
  have hbR:Below w.heap.size w ((w0.alloc (.cells #[.int .i64 n] 3)).alloc (.cells #[.int .i64 most] 3)):=(HB0.o.alloc (by omega) _).alloc (by simp;omega) _
  gi_wp2_with fail
  refine QV (gf:=99) (lb:=#[.pointer (some ⟨w.heap.size+3,0,none⟩),.pointer (some ⟨w.heap.size+2,0,none⟩)]) rfl zj6 HG.o (Below.refl _ _) ?_ (λ_=>rfl) (λpre W=>jcg8 w pre W) (λ_ _ _=>False) ?_ ?_ ?_ ?_ ?_ ?_
  ·rintro b (rfl|rfl)<;>simp<;>omega
  ·rintro s A B row ⟨h1,h2,h3⟩ hg hr
   simp only[World.size_alloc,hz0] at hr
   exact⟨h1.grown hg (λe=>by have:=hr _ e;omega),h2.grown hg (λe=>by have:=hr _ e;omega),h3.grown hg h3.size (λj e=>by have:=hr j e;omega)⟩
  ·rintro _ _ _ _ _ h;exact h.elim
  ·exact⟨(HX0.o.alloc _).alloc _,(HY0.o.alloc _).alloc _,hbR⟩
  ·rintro pre x W hsp ⟨h1,h2,h3⟩ hsz
   simp only[World.size_alloc,hz0] at hsz ⊢
   obtain⟨xa,xb⟩:=x
   have HX1:=ja h1
   have HY1:=ja h2
   have HB1:=ja h3
   clear h1 h2 h3 hsp
   simp only[encN]
   gi_wp2
   refine⟨(KeepB.refl _ _).alloc (by rintro b ((rfl|rfl)|h)<;>omega) _,?_⟩
   intro W2 hg2 hzz
   have HX2:=ja ((HX1.o.alloc _).grown hg2 (by simp;omega))
   have HY2:=ja ((HY1.o.alloc _).grown hg2 (by simp;omega))
   have HN2:=ja ((jh.new W 100 #[.int .i64 xa,.int .i64 xb]).grown hg2 (by simp;omega))
   have HB2:=ja ((HB1.o.alloc HB1.o.size _).grown hg2 (by simp;omega) (λj e=>by cases e;omega))
   obtain⟨Z,hZ⟩:∃Z,Z=W.heap.size:=⟨_,rfl⟩
   simp only[World.size_alloc] at hzz
   rw[<-hZ] at HN2 hzz ⊢
   clear hg2 HX1 HY1 HB1
   have hZ1:w.heap.size+1<Z:=by omega
   have hZ2:w.heap.size+1<W2.heap.size:=by omega
   clear hZ hzz hsz
   obtain⟨n0,n1,nf0,nf1⟩:=HN2.o.two
   have x0:=HX2.o.cell
   have y0:=HY2.o.cell
   have xf:=HX2.o.free
   have yf:=HY2.o.free
   have e1:(W2.setCell ⟨w.heap.size,0,none⟩ (.int .i64 xa)).cell? ⟨Z,1,none⟩=some (.int .i64 xb):=(World.cell?_setCell_other _ _ _ _ (by simp)).trans n1
   have F1:=ja (show ZG ((W2.setCell ⟨w.heap.size,0,none⟩ (.int .i64 xa)).setCell ⟨w.heap.size+1,0,none⟩ (.int .i64 xb)) w.heap.size 3 (.int .i64 (js5 (pre++[(xa,xb)])).1) by rw[zk4];exact(HX2.o.set_ _).far (by simp) _)
   have F2:=ja (show ZG ((W2.setCell ⟨w.heap.size,0,none⟩ (.int .i64 xa)).setCell ⟨w.heap.size+1,0,none⟩ (.int .i64 xb)) (w.heap.size+1) 3 (.int .i64 (js5 (pre++[(xa,xb)])).2) by rw[zk4];exact(HY2.o.far (by simp) _).set_ _)
   have F3:=ja (Below.setCell (Below.setCell HB2.o (p:=⟨w.heap.size,0,none⟩) (by simp) (.int .i64 xa)) (p:=⟨w.heap.size+1,0,none⟩) (by simp) (.int .i64 xb))
   have F4:Hid (KeepB (λb=>(b=w.heap.size+3\/b=w.heap.size+2)\/w.heap.size+2+1+1<=b/\b<w.heap.size+2+1+1+2+1) W2 ((W2.setCell ⟨w.heap.size,0,none⟩ (.int .i64 xa)).setCell ⟨w.heap.size+1,0,none⟩ (.int .i64 xb))):=ja (((KeepB.refl _ _).setCell (by rintro((h|h)|h)<;>simp at h<;>omega) _).setCell (by rintro((h|h)|h)<;>simp at h<;>omega) _)
   gi_wp2
   first|gi_region_with fail|done
   all_goals gi_wp2
   all_goals exact⟨F4.o.drewN 1,F1.o,F2.o,Below.drew F3.o⟩
  ·rintro xs V rfl ⟨h1,h2,h3⟩ hD
   simp only[World.size_alloc,hz0] at hD ⊢
   obtain⟨lp,hlp⟩:∃lp,js5 (recS n most)=lp:=⟨_,rfl⟩
   rw[hlp] at h1 h2
   have HLP:=ja hlp
   clear hlp
   have HX1:=ja h1
   have HY1:=ja h2
   have HB1:=ja h3
   have HD:=ja hD
   clear h1 h2 h3 hD
   have x0:=HX1.o.cell
   have y0:=HY1.o.cell
   have xf:=HX1.o.free
   have yf:=HY1.o.free
   gi_wp2
   have F1:=ja (show ZG ((V.setCell ⟨w.heap.size,0,none⟩ (.int .i64 lp.1)).setCell ⟨w.heap.size+1,0,none⟩ (.int .i64 lp.2)) w.heap.size 3 (.int .i64 lp.1)from(HX1.o.set_ _).far (by simp) _)
   have F2:=ja (show ZG ((V.setCell ⟨w.heap.size,0,none⟩ (.int .i64 lp.1)).setCell ⟨w.heap.size+1,0,none⟩ (.int .i64 lp.2)) (w.heap.size+1) 3 (.int .i64 lp.2)from(HY1.o.far (by simp) _).set_ _)
   have F3:=ja (Below.setCell (Below.setCell HB1.o (p:=⟨w.heap.size,0,none⟩) (by simp) (.int .i64 lp.1)) (p:=⟨w.heap.size+1,0,none⟩) (by simp) (.int .i64 lp.2))
   have F4:=ja (((Below.heap_setCell (V.setCell ⟨w.heap.size,0,none⟩ (.int .i64 lp.1)) ⟨w.heap.size+1,0,none⟩ (.int .i64 lp.2) _ (by simp;omega)).trans (Below.heap_setCell V ⟨w.heap.size,0,none⟩ (.int .i64 lp.1) _ (by simp;omega))).trans HD.o)
   first|gi_region_with fail|done
   all_goals gi_wp2
   all_goals
    refine⟨by simp,.inl ⟨_,_,rfl,run_takeDeferred (w:=World.drew _) F4.o,?_⟩⟩
    refine⟨_,jt9 rfl rfl rfl rfl (b1:=w.heap.size) (b2:=w.heap.size+1) (v1:=.int .i64 lp.1) (v2:=.int .i64 lp.2) ?_ ?_,by rw[HLP.o];rfl,?_⟩
    ·exact(ZG.of_block F1.o (World.putObj_heap_other (by omega))).cell
    ·exact(ZG.of_block F2.o (World.putObj_heap_other (by omega))).cell
    ·exact(Below.drew F3.o).grown (jZ _ _) F3.o.size (λj e=>by cases e;omega)
  ·rintro _ _ _ _ h;exact h.elim
