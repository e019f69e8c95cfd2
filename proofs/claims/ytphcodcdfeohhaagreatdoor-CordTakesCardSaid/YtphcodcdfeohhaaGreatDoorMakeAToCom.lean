import Derived.Test.YtphcodcdfeohhaaGreatDoorSignDToOrdA
import Derived.Deep.Cut
import Derived.Laws.StructEq
set_option linter.all false
namespace Go.Proofs.YtphcodcdfeohhaaGreatDoor
set_option maxRecDepth 100000
set_option maxHeartbeats 2000000
open Go.RowKit
def JW(kv:List (Int×Int))(r:Int):Bool:=kv.any λp=>decide (p.1=r)
theorem zg9:∀(kv:List (Int×Int)) (r c:Int),(addS kv r c).map (·.1)=if JW kv r then kv.map (·.1)else kv.map (·.1)++[r]
 | [],r,c=>by simp[addS,JW]
 | (a,x)::t,r,c=>by
  by_cases h:r=a
  ·subst h;simp[addS,JW]
  ·have h1:=zg9 t r c
   have h2:JW ((a,x)::t) r=JW t r:=by unfold JW;rw[List.any_cons,decide_eq_false (show ¬a=r from λe=>h e.symm)];rfl
   rw[h2]
   simp only[addS,if_neg h,List.map_cons,h1]
   split<;>rfl
theorem jam0{kv:List (Int×Int)}{r:Int}:JW kv r=true↔r∈kv.map (·.1):=by
 unfold JW
 rw[List.any_eq_true,List.mem_map]
 constructor
 ·rintro⟨p,hp,h⟩;exact⟨p,hp,by simpa using h⟩
 ·rintro⟨p,hp,h⟩;exact⟨p,hp,by simpa using h⟩
theorem jav9{kv:List (Int×Int)}(h:(kv.map (·.1)).Nodup)(r c:Int):((addS kv r c).map (·.1)).Nodup:=by
 rw[zg9]
 cases hh:JW kv r
 ·simp only[Bool.false_eq_true,if_false]
  rw[List.nodup_append]
  refine⟨h,by simp,λa ha b hb=>?_⟩
  rw[List.mem_singleton.1 hb]
  intro e
  subst e
  have:=jam0.2 ha
  rw[hh] at this;cases this
 ·simpa using h
theorem zr8{kv:List (Int×Int)}(h:(kv.map (·.1)).Nodup)(c r:Int):((addRoot kv c r).map (·.1)).Nodup:=by
 unfold addRoot;split
 ·exact jav9 h _ _
 ·exact h
theorem jp8:∀(l:List (Int×Int)) (kv:List (Int×Int)) (m:Int),(kv.map (·.1)).Nodup->((ju kv l m).map (·.1)).Nodup
 | [],_,_,h=>by simpa [ju] using h
 | t::l,kv,m,h=>by
  have h2:=jp8 l _ m (zr8 h (t.1*m) t.2)
  simpa [ju] using h2
open Go.RowKit Go.Sort
theorem Tryz.sizeB:(Tryz.prog.info? 168).map (·.size)=some 2:=by kernel_rfl
theorem Tryz.liesB:liesAt Tryz.prog Tryz.prog.depth 168 (2/Tryz.prog.cellsOf 168) 0 168 1=true:=by kernel_rfl
theorem Tryz.infoU8:(Tryz.prog.info? 5).map (λi=>(i.zero,i.size,i.bytes))=some (some (.int .u8 0),1,1):=by kernel_rfl
theorem zs1 (B b:Nat) (bs:List Value) (w:World) (h:Lib.IsBuilder 168 5 B b bs w) :
  Calls Tryz.prog 154 #[.pointer (some ⟨b,0,none⟩)] w λe w'=>e=.returned (.tuple #[])/\Lib.BuilderAt 168 5 B b (.pointer (some ⟨b,0,none⟩)) bs w'/\Below B w w':=by
 obtain⟨j,hj,hjs⟩:=Option.map_eq_some_iff.1 Tryz.sizeB
 rcases h with h|h
 ·have c0:=h.cell0
  have hsh:=ja h.shape
  have f0:=h.frozen0
  have H:=ja h
  clear h
  go_enter Tryz.func154,Tryz.ntmps154
  go_wp2
  rw[Lib.run_to_unsafe w ⟨b,0,none⟩ Tryz.underlying165 Tryz.underlying207 hj (by rw[hjs];decide) hsh.o (Nat.zero_lt_succ 1)]
  simp only[Result.andThen]
  rw[Oper.upon_value]
  go_wp2
  rw[run_callFunc_extern Tryz.func172 (by kernel_rfl) (by kernel_rfl) (by kernel_rfl) (e:=Extern.AbiNoEscape.same) (by kernel_rfl),Lib.run_noEscape]
  simp only[Result.andThen]
  rw[Oper.upon_value]
  go_wp2
  rw[Lib.run_from_unsafe w ⟨b,0,none⟩ Tryz.underlying207 Tryz.underlying165 hj hsh.o Tryz.liesB]
  simp only[Result.andThen]
  rw[Oper.upon_value]
  go_wp2
  go_end0
  exact⟨rfl,H.o.used _,(Below.refl B w).setCell (p:=⟨b,0,none⟩) H.o.1 _⟩
 ·have c0:=h.cell0
  have H:=ja h
  clear h
  go_enter Tryz.func154,Tryz.ntmps154
  go_wp2
  rw[Lib.run_neq_ptr_same w _ Tryz.underlying165 hj]
  go_wp2
  go_end0
  exact⟨rfl,H.o,Below.refl B _⟩
theorem jc4 (B b:Nat) (bs:List Value) (s:ByteArray) (w:World) (h:Lib.IsBuilder 168 5 B b bs w) (hlen:bs.length+s.size<=100000000000000) (hBw:B<=w.heap.size) :
  Calls Tryz.prog 124 #[.pointer (some ⟨b,0,none⟩),.string s] w λe w'=>e=.returned (.tuple #[.int .i64 s.size,.nilIface])/\Lib.IsBuilder 168 5 B b (bs++Lib.strCells s) w'/\Below B w w':=by
 obtain⟨i0,hi,hz0,hz1,hz2⟩:=info_parts Tryz.infoU8
 have HC:=ja (zs1 B b bs w h)
 clear h
 go_enter Tryz.func124,Tryz.ntmps124
 go_wp2_with fail
 refine HC.o.mono ?_
 rintro e w1 ⟨rfl,h1,hb1⟩
 obtain⟨hB,v,hbk,hown,hne⟩:=h1
 have HBK:Hid (jh w1 b 168 #[.pointer (some ⟨b,0,none⟩),v]):=ja hbk
 have HOW:=ja hown
 have HNE:=ja hne
 have HB1:=ja hb1
 have hz1':=hb1.size
 have hbl:=HBK.o.lt
 obtain⟨ao,ca,rfl⟩:=jx hown
 obtain⟨q1,q2,q3,q4⟩:=HBK.o.two
 clear hbk hown hne hb1 HC
 go_wp2_with (first
  | (at_builtin;refine Lib.wpList_append_own_string _ rfl _ _ 166 9 rfl B 5 i0 Tryz.underlying166 Tryz.underlying9 hi hz0 hz1 hz2 _ _ _ rfl HOW.o s rfl (by unfold maxLen;omega) (by omega) (by omega) ?_;intro v' w2 ho2 hg2 _
     obtain⟨A2,c2,rfl⟩:=jx ho2
     have HO2:=ja ho2
     have HG2:=ja hg2
     have HBK2:=ja (HBK.o.grown hg2 (λe=>HNE.o e))
     obtain⟨u1,u2,u3,u4⟩:=HBK2.o.two
     clear ho2 hg2))
 go_ret2
 refine⟨rfl,.inr (Lib.BuilderAt.put hB HBK2.o (bs':=bs++Lib.strCells s) (by simpa [Lib.strCells_length] using HO2.o) (by decide)),?_⟩
 exact(HB1.o.grown HG2.o (by omega) (λk hk=>(HOW.o.lt k hk).1)).setCell (p:=⟨b,1,none⟩) hB _
theorem JV{n:String}{g:Nat}{k:IntKind}{zs:List Int}{w w':World}(hg:Tryz.prog.globalNamed n=some g)(h:Lib.TabIs Tryz.prog w n k zs)(hb:Below w.heap.size w w'):Lib.TabIs Tryz.prog w' n k zs:=by
 unfold Lib.TabIs World.var? at h ⊢
 rw[hg] at h ⊢
 simp only[Option.bind_some] at h ⊢
 have hlt:g<w.heap.size:=by
  rcases Nat.lt_or_ge g w.heap.size with h'|h'
  ·exact h'
  ·rw[Array.getElem?_eq_none h'] at h;cases h
 rw[hb.block g hlt]
 exact h
theorem jaj3{w:World}(k:Nat)(os:Array Obj):Below w.heap.size w (grow (w.drewN k) os):=
 ⟨rfl,rfl,rfl,by simp[grow],λj hj=>by simp[grow,Array.getElem?_append,hj]⟩
theorem jam6 (n : Int) (w : World) (hn : -9000000000000000000 ≤ n ∧ n ≤ 9000000000000000000) (htab : Lib.TabIs Tryz.prog w "internal/strconv.uint64pow10" .u64 Lib.pow10Tab) :
  Calls Tryz.prog 125 #[.int .i64 n] w λe w'=>e=.returned (.string ⟨(Lib.itoa n).toArray⟩)/\Below w.heap.size w w':=by
 refine(Tryz.strconv_Itoa n (by omega) (by omega) w htab).mono ?_
 rintro e w' ⟨rfl,k,os,rfl⟩
 exact⟨rfl,jaj3 k os⟩
theorem jbg8:∀(k u:Nat),u<10 ^ (k+1)->(Lib.decDigits u).length<=k+1
 | 0,u,h=>by rw[Lib.decDigits_one (by simpa using h)];simp
 | k+1,u,h=>by
  by_cases h1:u<10
  ·rw[Lib.decDigits_one h1];simp
  ·rw[Lib.decDigits,dif_neg h1]
   have h2:=jbg8 k (u/10) (by rw[Nat.pow_succ] at h;omega)
   simp
   omega
theorem qA{B b:Nat}{bs:List Value}{w w':World}(h:Lib.IsBuilder 168 5 B b bs w)(hb:Below w.heap.size w w'):Lib.IsBuilder 168 5 B b bs w':=by
 rcases h with⟨h1,v,h2,h3,h4⟩|⟨h1,v,h2,h3,h4⟩
 ·exact .inl ⟨h1,v,(hb.block b (lt_of_block h2)).trans h2,jG h3 hb,h4⟩
 ·exact .inr ⟨h1,v,(hb.block b (lt_of_block h2)).trans h2,jG h3 hb,h4⟩
theorem zs6(w:World):Lib.IsBuilder 168 5 w.heap.size w.heap.size [] (w.alloc (.cells #[.pointer none,.slice none 0 0] 168)):=
 .inl ⟨Nat.le_refl _,.slice none 0 0,World.alloc_heap_new w _,⟨rfl,.inl ⟨rfl,rfl⟩⟩,by simp[Value.ownBlock]⟩
theorem jm5(l:List UInt8):Lib.strCells ⟨l.toArray⟩=Lib.byteCells l:=by simp[Lib.strCells,Lib.byteCells]
theorem jy1(a b:List UInt8):Lib.byteCells (a++b)=Lib.byteCells a++Lib.byteCells b:=by simp[Lib.byteCells]
theorem zs0(a:List UInt8):(Lib.byteCells a).length=a.length:=by simp[Lib.byteCells]
theorem zn9(a b:List UInt8):(⟨a.toArray⟩:ByteArray)++⟨b.toArray⟩=⟨(a++b).toArray⟩:=by
 apply ByteArray.ext
 simp
theorem Tryz.pow10g : (Tryz.prog.globalNamed "internal/strconv.uint64pow10").isSome = true := by kernel_rfl
theorem Ji {fn:Func} {p:Tmp} {ty:TypeId} (h:fn.results=#[.cell p ty]) {R:Ending->World->Prop} {a:Act} {w:World} {g:Nat} {t:TypeId} {cs:Array Value} {d:TypeDesc}
  (hp:a.tmps.getD p undef=.pointer (some ⟨g,0,none⟩)) (hg:jh w g t cs) (hd:(match d with|.struct _|.array _ _=>true|_=>false)=true) (hu:Tryz.prog.underlying ty=some d)
  (hi:(Tryz.prog.info? ty).map (·.size)=some cs.size) (hdf:a.defers=[]) (hR:R (.returned (.agg cs)) w):bodyPost Tryz.prog fn R .ret a w:=
 bodyPost_ret (results_cell_row h _ _ g t cs (0,0) d hp hg hu (by cases d<;>exact hd) hi) hdf hR
def QY(w:World)(s:Int×List (Int×Int))(e:Ending)(w':World):Prop:=
 ∃(A:Option Addr) (n c:Nat),e=.returned (.agg #[.int .i64 s.1,.slice A n c])/\w'.ownsRow w.heap.size 59 2 (.slice A n c) n (jr s.2)/\Below w.heap.size w w'
def jI(n:Int):Int×List (Int×Int):=if n=0 then(1,[])else(1,[(n,1)])
def jn(xd:Int)(xt:List (Int×Int)):Int×Int×Bool:=
 match xt with
 | []=>(0,1,true)
 | [t]=>if t.2=1 then(t.1,xd,true)else(0,0,false)
 | _=>(0,0,false)
theorem JQ{w:World}{base b size n:Nat}{e t:TypeId}{v:Value}{cs:Array Value}{xs:List Value}(h:w.ownsRow base e size v n xs)(hb:jh w b t cs)(hne:e≠t):v.ownBlock≠some b:=by
 rcases h.2 with⟨rfl,_⟩|⟨g,cap,cur,rfl,_,hh,_⟩
 ·simp[Value.ownBlock]
 ·intro he
  have hg:g=b:=by simpa [Value.ownBlock] using he
  subst hg
  unfold jh at hb
  rw[hh] at hb
  injection hb with hb
  injection hb with _ ht
  exact hne ht
theorem jC{w:World}{base b size n i:Nat}{e t:TypeId}{v u:Value}{cs:Array Value}{xs:List Value}(h:w.ownsRow base e size v n xs)(hb:jh w b t cs)(hne:e≠t):(w.setCell ⟨b,i,none⟩ u).ownsRow base e size v n xs:=
 h.kept (zn (World.grownBy.refl w (some b)) i u) (.inr (JQ h hb hne))
def Jm (w : World) : Prop := ∃ t1 p1 t2 p2, w.var? Tryz.prog "strconv.ErrSyntax" = some #[.iface t1 p1] ∧ w.var? Tryz.prog "strconv.ErrRange" = some #[.iface t2 p2]
def jv9 (b : Nat) : Prop := Tryz.prog.globalNamed "strconv.ErrSyntax" = some b ∨ Tryz.prog.globalNamed "strconv.ErrRange" = some b
theorem jcg6{w:World}{n:String}{g:Nat}{cs:Array Value}(hg:Tryz.prog.globalNamed n=some g)(h:w.var? Tryz.prog n=some cs):g<w.heap.size:=by
 unfold World.var? at h
 rw[hg] at h
 simp only[Option.bind_some] at h
 rcases Nat.lt_or_ge g w.heap.size with h'|h'
 ·exact h'
 ·rw[Array.getElem?_eq_none h'] at h;cases h
theorem jav1{w w':World}{n:String}{cs:Array Value}(h:w.var? Tryz.prog n=some cs)(hs:∀g,Tryz.prog.globalNamed n=some g->w'.heap[g]?=w.heap[g]?):w'.var? Tryz.prog n=some cs:=by
 unfold World.var? at h ⊢
 cases hg:Tryz.prog.globalNamed n with
 | none=>rw[hg] at h;cases h
 | some g=>
  rw[hg] at h
  simp only[Option.bind_some] at h ⊢
  rw[hs g hg]
  exact h
theorem Jm.same{w w':World}(h:Jm w)(hs:∀b,jv9 b->w'.heap[b]?=w.heap[b]?):Jm w':=by
 obtain⟨t1,p1,t2,p2,h1,h2⟩:=h
 exact⟨t1,p1,t2,p2,jav1 h1 (λg hg=>hs g (.inl hg)),jav1 h2 (λg hg=>hs g (.inr hg))⟩
theorem Jm.lt{w:World}(h:Jm w){b:Nat}(hb:jv9 b):b<w.heap.size:=by
 obtain⟨t1,p1,t2,p2,h1,h2⟩:=h
 rcases hb with hb|hb
 ·exact jcg6 hb h1
 ·exact jcg6 hb h2
theorem Jm.below{w w':World}{B:Nat}(h:Jm w)(hb:Below B w w')(hB:w.heap.size<=B):Jm w':=
 h.same λb hb'=>hb.block b (by have:=h.lt hb';omega)
def zh2(l:List UInt8):Int:=match Lib.atoiAll l with|.ok v=>v|_=>-1
def jah0(w:World)(l:List UInt8)(e:Ending)(w':World):Prop:=
 ∃v er,e=.returned (.tuple #[.int .i64 v,er])/\((er=.nilIface/\v=zh2 l)\/((∃t q,er=.iface t q)/\zh2 l=-1))/\Below w.heap.size w w'
theorem jbv8(l:List UInt8)(w:World)(hl:l.length<=1000000)(hE:Jm w):Calls Tryz.prog 119 #[.string ⟨l.toArray⟩] w (jah0 w l):=by
 obtain⟨t1,p1,t2,p2,h1,h2⟩:=hE
 have hs:(⟨l.toArray⟩:ByteArray).size<=1000000:=by simpa [ByteArray.size] using hl
 have hd:(⟨l.toArray⟩:ByteArray).data.toList=l:=by simp
 rcases h:Lib.atoiAll l with v|_|_
 ·refine(Tryz.strconv_Atoi_ok ⟨l.toArray⟩ (by omega) v (by rw[hd];exact h) w).mono ?_
  rintro e w' ⟨rfl,hw⟩
  refine⟨v,.nilIface,rfl,.inl ⟨rfl,by unfold zh2;rw[h]⟩,?_⟩
  rcases hw with rfl|⟨t,rfl⟩
  ·exact Below.refl _ _
  ·exact⟨rfl,rfl,rfl,by rw[Lib.bytesWorld_size];omega,λj hj=>Lib.bytesWorld_at_old _ _ _ j hj⟩
 ·refine(Any.strconv_Atoi_syntax_var Tryz.laysC172 ⟨l.toArray⟩ (by omega) (by rw[hd];exact h) t1 p1 w h1).mono ?_
  rintro e w' ⟨N,rfl,_,_,hb⟩
  exact⟨_,_,rfl,.inr ⟨⟨_,_,rfl⟩,by unfold zh2;rw[h]⟩,hb⟩
 ·refine(Tryz.strconv_Atoi_range_var ⟨l.toArray⟩ (by omega) (by rw[hd];exact h) t2 p2 w h2).mono ?_
  rintro e w' ⟨N,rfl,_,_,hb⟩
  exact⟨_,_,rfl,.inr ⟨⟨_,_,rfl⟩,by unfold zh2;rw[h]⟩,hb⟩
theorem zF{w w':World}{base s n:Nat}{e:TypeId}{v:Value}{xs:List Value}(h:w.ownsRow base e s v n xs){row:Option Nat}(hg:w.grownBy w' row)(hne:∀g,v.ownBlock=some g->row≠some g):w'.ownsRow base e s v n xs:=by
 refine h.kept hg ?_
 cases hv:v.ownBlock with
 | none=>exact .inl rfl
 | some g=>exact .inr (λe=>hne g hv e.symm)
theorem jcf3:zG [1,2]=[1,2]:=by
 unfold zG
 simp[List.mergeSort,List.MergeSort.Internal.splitInTwo,List.merge,leI]
theorem Tryz.guardTerm:Tryz.prog.eqGuardType Tryz.prog.depth 59=false:=by kernel_rfl
theorem jap5(a b c d:Int)(w:World):(binOp .neq 59 (.agg #[.int .i64 a,.int .i64 b]) (.agg #[.int .i64 c,.int .i64 d])).run Tryz.prog w=.ok (.bool (!decide ((a,b)=(c,d)))) w:=by
 have hi:=Tryz.underlying3
 have hS:Tryz.prog.underlying 59=some (.struct (Tryz.prog.fieldsOf 59)):=by kernel_rfl
 have hp:Tryz.prog.stoodInHeld 59=false:=by kernel_rfl
 rw[run_neq_struct,show(10000:Nat)=9999+1 from rfl,run_equalIn_agg w 9999 59 _ _ hS hp]
 simp only[Program.fieldsOf,Tryz.underlying59]
 go_simp
 by_cases h1:a=c<;>by_cases h2:b=d<;>simp[h1,h2]
theorem jay3(ts:List (Int×Int)):∀u∈jr ts,u.oneCell'=true:=by
 intro u hu
 unfold jr at hu
 induction ts with
 | nil=>simp[jB] at hu
 | cons t ts ih=>
  have h2:u=.int .i64 t.1\/u=.int .i64 t.2\/u∈jB (ts.map jr7):=by simpa [jB,jr7] using hu
  rcases h2 with rfl|rfl|h2
  ·rfl
  ·rfl
  ·exact ih h2
