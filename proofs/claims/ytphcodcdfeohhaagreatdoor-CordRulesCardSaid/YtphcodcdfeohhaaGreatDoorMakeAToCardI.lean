import Derived.Test.YtphcodcdfeohhaaGreatDoorSignDToOrdA
import Derived.Deep.Cut
import Derived.Laws.StructEq
import Derived.Deep.Upon
import Derived.Stop.LaidErr
import Derived.Lib.LaidTab
import Derived.LaidMore
import Derived.ProofKit
import Derived.OpenShut
import Derived.WideKeyPair
import Derived.Stop.Joined
import Derived.Deep.DeepHandedRow
import Derived.Deep.SlicePairs
import Derived.Lib.SmallJoins
import Derived.Test.YtphcodcdfeohhaaGreatDoorCards
import Derived.Test.YtphcodcdfeohhaaGreatDoorTie
import Derived.Carry
set_option linter.all false
namespace Go.Proofs.YtphcodcdfeohhaaGreatDoor
set_option maxRecDepth 100000
set_option maxHeartbeats 2000000
open Go.RowKit
def badT(t:Int×Int):Bool:=!(zz t.1 (-100000) 100000) || !(zz t.2 0 1000)
def jcy1(den:Int)(ts:List (Int×Int)):Int×List (Int×Int)×Int:=
 if 16<ts.length then(0,[],5)
 else if zz den 1 100000=false\/ts.any badT=true then(0,[],2)
 else jY (ju [] ts 1) den
def JW(kv:List (Int×Int))(r:Int):Bool:=kv.any λp=>decide (p.1=r)
theorem zg9:∀(kv:List (Int×Int)) (r c:Int),(addS kv r c).map (·.1)=if JW kv r then kv.map (·.1)else kv.map (·.1)++[r]
 | [],r,c=>by simp[addS,JW]
 | (a,x)::t,r,c=>by
  by_cases h:r=a
  ·subst h;simp[addS,JW]
  ·have h1:=zg9 t r c
   have h2:JW ((a,x)::t) r=JW t r:=by unfold JW;rw[List.any_cons,decide_eq_false (show ¬a=r from λe=>h e.symm)];rfl
   rw[h2]
   simp only[addS,if_neg h,List.map_cons,h1]
   split<;>rfl
theorem jam0{kv:List (Int×Int)}{r:Int}:JW kv r=true↔r∈kv.map (·.1):=by
 unfold JW
 rw[List.any_eq_true,List.mem_map]
 constructor
 ·rintro⟨p,hp,h⟩;exact⟨p,hp,by simpa using h⟩
 ·rintro⟨p,hp,h⟩;exact⟨p,hp,by simpa using h⟩
theorem jav9{kv:List (Int×Int)}(h:(kv.map (·.1)).Nodup)(r c:Int):((addS kv r c).map (·.1)).Nodup:=by
 rw[zg9]
 cases hh:JW kv r
 ·simp only[Bool.false_eq_true,if_false]
  rw[List.nodup_append]
  refine⟨h,by simp,λa ha b hb=>?_⟩
  rw[List.mem_singleton.1 hb]
  intro e
  subst e
  have:=jam0.2 ha
  rw[hh] at this;cases this
 ·simpa using h
theorem zr8{kv:List (Int×Int)}(h:(kv.map (·.1)).Nodup)(c r:Int):((addRoot kv c r).map (·.1)).Nodup:=by
 unfold addRoot;split
 ·exact jav9 h _ _
 ·exact h
theorem jp8:∀(l:List (Int×Int)) (kv:List (Int×Int)) (m:Int),(kv.map (·.1)).Nodup->((ju kv l m).map (·.1)).Nodup
 | [],_,_,h=>by simpa [ju] using h
 | t::l,kv,m,h=>by
  have h2:=jp8 l _ m (zr8 h (t.1*m) t.2)
  simpa [ju] using h2
open Go.RowKit Go.Sort
theorem Tryz.sizeB:(Tryz.prog.info? 168).map (·.size)=some 2:=by kernel_rfl
theorem Tryz.liesB:liesAt Tryz.prog Tryz.prog.depth 168 (2/Tryz.prog.cellsOf 168) 0 168 1=true:=by kernel_rfl
theorem Tryz.infoU8:(Tryz.prog.info? 5).map (λi=>(i.zero,i.size,i.bytes))=some (some (.int .u8 0),1,1):=by kernel_rfl
theorem zs1 (B b:Nat) (bs:List Value) (w:World) (h:Lib.IsBuilder 168 5 B b bs w) :
  Calls Tryz.prog 154 #[.pointer (some ⟨b,0,none⟩)] w λe w'=>e=.returned (.tuple #[])/\Lib.BuilderAt 168 5 B b (.pointer (some ⟨b,0,none⟩)) bs w'/\Below B w w':=by
 obtain⟨j,hj,hjs⟩:=Option.map_eq_some_iff.1 Tryz.sizeB
 rcases h with h|h
 ·have c0:=h.cell0
  have hsh:=ja h.shape
  have f0:=h.frozen0
  have H:=ja h
  clear h
  go_enter Tryz.func154,Tryz.ntmps154
  go_wp2
  rw[Lib.run_to_unsafe w ⟨b,0,none⟩ Tryz.underlying165 Tryz.underlying207 hj (by rw[hjs];decide) hsh.o (Nat.zero_lt_succ 1)]
  simp only[Result.andThen]
  rw[Oper.upon_value]
  go_wp2
  rw[run_callFunc_extern Tryz.func172 (by kernel_rfl) (by kernel_rfl) (by kernel_rfl) (e:=Extern.AbiNoEscape.same) (by kernel_rfl),Lib.run_noEscape]
  simp only[Result.andThen]
  rw[Oper.upon_value]
  go_wp2
  rw[Lib.run_from_unsafe w ⟨b,0,none⟩ Tryz.underlying207 Tryz.underlying165 hj hsh.o Tryz.liesB]
  simp only[Result.andThen]
  rw[Oper.upon_value]
  go_wp2
  go_end0
  exact⟨rfl,H.o.used _,(Below.refl B w).setCell (p:=⟨b,0,none⟩) H.o.1 _⟩
 ·have c0:=h.cell0
  have H:=ja h
  clear h
  go_enter Tryz.func154,Tryz.ntmps154
  go_wp2
  rw[Lib.run_neq_ptr_same w _ Tryz.underlying165 hj]
  go_wp2
  go_end0
  exact⟨rfl,H.o,Below.refl B _⟩
theorem jc4 (B b:Nat) (bs:List Value) (s:ByteArray) (w:World) (h:Lib.IsBuilder 168 5 B b bs w) (hlen:bs.length+s.size<=100000000000000) (hBw:B<=w.heap.size) :
  Calls Tryz.prog 124 #[.pointer (some ⟨b,0,none⟩),.string s] w λe w'=>e=.returned (.tuple #[.int .i64 s.size,.nilIface])/\Lib.IsBuilder 168 5 B b (bs++Lib.strCells s) w'/\Below B w w':=by
 obtain⟨i0,hi,hz0,hz1,hz2⟩:=info_parts Tryz.infoU8
 have HC:=ja (zs1 B b bs w h)
 clear h
 go_enter Tryz.func124,Tryz.ntmps124
 go_wp2_with fail
 refine HC.o.mono ?_
 rintro e w1 ⟨rfl,h1,hb1⟩
 obtain⟨hB,v,hbk,hown,hne⟩:=h1
 have HBK:Hid (jh w1 b 168 #[.pointer (some ⟨b,0,none⟩),v]):=ja hbk
 have HOW:=ja hown
 have HNE:=ja hne
 have HB1:=ja hb1
 have hz1':=hb1.size
 have hbl:=HBK.o.lt
 obtain⟨ao,ca,rfl⟩:=jx hown
 obtain⟨q1,q2,q3,q4⟩:=HBK.o.two
 clear hbk hown hne hb1 HC
 go_wp2_with (first
  | (at_builtin;refine Lib.wpList_append_own_string _ rfl _ _ 166 9 rfl B 5 i0 Tryz.underlying166 Tryz.underlying9 hi hz0 hz1 hz2 _ _ _ rfl HOW.o s rfl (by unfold maxLen;omega) (by omega) (by omega) ?_;intro v' w2 ho2 hg2 _
     obtain⟨A2,c2,rfl⟩:=jx ho2
     have HO2:=ja ho2
     have HG2:=ja hg2
     have HBK2:=ja (HBK.o.grown hg2 (λe=>HNE.o e))
     obtain⟨u1,u2,u3,u4⟩:=HBK2.o.two
     clear ho2 hg2))
 go_ret2
 refine⟨rfl,.inr (Lib.BuilderAt.put hB HBK2.o (bs':=bs++Lib.strCells s) (by simpa [Lib.strCells_length] using HO2.o) (by decide)),?_⟩
 exact(HB1.o.grown HG2.o (by omega) (λk hk=>(HOW.o.lt k hk).1)).setCell (p:=⟨b,1,none⟩) hB _
theorem JV{n:String}{g:Nat}{k:IntKind}{zs:List Int}{w w':World}(hg:Tryz.prog.globalNamed n=some g)(h:Lib.TabIs Tryz.prog w n k zs)(hb:Below w.heap.size w w'):Lib.TabIs Tryz.prog w' n k zs:=by
 unfold Lib.TabIs World.var? at h ⊢
 rw[hg] at h ⊢
 simp only[Option.bind_some] at h ⊢
 have hlt:g<w.heap.size:=by
  rcases Nat.lt_or_ge g w.heap.size with h'|h'
  ·exact h'
  ·rw[Array.getElem?_eq_none h'] at h;cases h
 rw[hb.block g hlt]
 exact h
theorem jaj3{w:World}(k:Nat)(os:Array Obj):Below w.heap.size w (grow (w.drewN k) os):=
 ⟨rfl,rfl,rfl,by simp[grow],λj hj=>by simp[grow,Array.getElem?_append,hj]⟩
theorem jam6 (n : Int) (w : World) (hn : -9000000000000000000 ≤ n ∧ n ≤ 9000000000000000000) (htab : Lib.TabIs Tryz.prog w "internal/strconv.uint64pow10" .u64 Lib.pow10Tab) :
  Calls Tryz.prog 125 #[.int .i64 n] w λe w'=>e=.returned (.string ⟨(Lib.itoa n).toArray⟩)/\Below w.heap.size w w':=by
 refine(Tryz.strconv_Itoa n (by omega) (by omega) w htab).mono ?_
 rintro e w' ⟨rfl,k,os,rfl⟩
 exact⟨rfl,jaj3 k os⟩
theorem jbg8:∀(k u:Nat),u<10 ^ (k+1)->(Lib.decDigits u).length<=k+1
 | 0,u,h=>by rw[Lib.decDigits_one (by simpa using h)];simp
 | k+1,u,h=>by
  by_cases h1:u<10
  ·rw[Lib.decDigits_one h1];simp
  ·rw[Lib.decDigits,dif_neg h1]
   have h2:=jbg8 k (u/10) (by rw[Nat.pow_succ] at h;omega)
   simp
   omega
theorem qA{B b:Nat}{bs:List Value}{w w':World}(h:Lib.IsBuilder 168 5 B b bs w)(hb:Below w.heap.size w w'):Lib.IsBuilder 168 5 B b bs w':=by
 rcases h with⟨h1,v,h2,h3,h4⟩|⟨h1,v,h2,h3,h4⟩
 ·exact .inl ⟨h1,v,(hb.block b (lt_of_block h2)).trans h2,jG h3 hb,h4⟩
 ·exact .inr ⟨h1,v,(hb.block b (lt_of_block h2)).trans h2,jG h3 hb,h4⟩
theorem zs6(w:World):Lib.IsBuilder 168 5 w.heap.size w.heap.size [] (w.alloc (.cells #[.pointer none,.slice none 0 0] 168)):=
 .inl ⟨Nat.le_refl _,.slice none 0 0,World.alloc_heap_new w _,⟨rfl,.inl ⟨rfl,rfl⟩⟩,by simp[Value.ownBlock]⟩
theorem jm5(l:List UInt8):Lib.strCells ⟨l.toArray⟩=Lib.byteCells l:=by simp[Lib.strCells,Lib.byteCells]
theorem jy1(a b:List UInt8):Lib.byteCells (a++b)=Lib.byteCells a++Lib.byteCells b:=by simp[Lib.byteCells]
theorem zs0(a:List UInt8):(Lib.byteCells a).length=a.length:=by simp[Lib.byteCells]
theorem zn9(a b:List UInt8):(⟨a.toArray⟩:ByteArray)++⟨b.toArray⟩=⟨(a++b).toArray⟩:=by
 apply ByteArray.ext
 simp
theorem Tryz.pow10g : (Tryz.prog.globalNamed "internal/strconv.uint64pow10").isSome = true := by kernel_rfl
theorem Ji {fn:Func} {p:Tmp} {ty:TypeId} (h:fn.results=#[.cell p ty]) {R:Ending->World->Prop} {a:Act} {w:World} {g:Nat} {t:TypeId} {cs:Array Value} {d:TypeDesc}
  (hp:a.tmps.getD p undef=.pointer (some ⟨g,0,none⟩)) (hg:jh w g t cs) (hd:(match d with|.struct _|.array _ _=>true|_=>false)=true) (hu:Tryz.prog.underlying ty=some d)
  (hi:(Tryz.prog.info? ty).map (·.size)=some cs.size) (hdf:a.defers=[]) (hR:R (.returned (.agg cs)) w):bodyPost Tryz.prog fn R .ret a w:=
 bodyPost_ret (results_cell_row h _ _ g t cs (0,0) d hp hg hu (by cases d<;>exact hd) hi) hdf hR
def QY(w:World)(s:Int×List (Int×Int))(e:Ending)(w':World):Prop:=
 ∃(A:Option Addr) (n c:Nat),e=.returned (.agg #[.int .i64 s.1,.slice A n c])/\w'.ownsRow w.heap.size 59 2 (.slice A n c) n (jr s.2)/\Below w.heap.size w w'
def jI(n:Int):Int×List (Int×Int):=if n=0 then(1,[])else(1,[(n,1)])
def jn(xd:Int)(xt:List (Int×Int)):Int×Int×Bool:=
 match xt with
 | []=>(0,1,true)
 | [t]=>if t.2=1 then(t.1,xd,true)else(0,0,false)
 | _=>(0,0,false)
theorem JQ{w:World}{base b size n:Nat}{e t:TypeId}{v:Value}{cs:Array Value}{xs:List Value}(h:w.ownsRow base e size v n xs)(hb:jh w b t cs)(hne:e≠t):v.ownBlock≠some b:=by
 rcases h.2 with⟨rfl,_⟩|⟨g,cap,cur,rfl,_,hh,_⟩
 ·simp[Value.ownBlock]
 ·intro he
  have hg:g=b:=by simpa [Value.ownBlock] using he
  subst hg
  unfold jh at hb
  rw[hh] at hb
  injection hb with hb
  injection hb with _ ht
  exact hne ht
theorem jC{w:World}{base b size n i:Nat}{e t:TypeId}{v u:Value}{cs:Array Value}{xs:List Value}(h:w.ownsRow base e size v n xs)(hb:jh w b t cs)(hne:e≠t):(w.setCell ⟨b,i,none⟩ u).ownsRow base e size v n xs:=
 h.kept (zn (World.grownBy.refl w (some b)) i u) (.inr (JQ h hb hne))
def Jm (w : World) : Prop := ∃ t1 p1 t2 p2, w.var? Tryz.prog "strconv.ErrSyntax" = some #[.iface t1 p1] ∧ w.var? Tryz.prog "strconv.ErrRange" = some #[.iface t2 p2]
def jv9 (b : Nat) : Prop := Tryz.prog.globalNamed "strconv.ErrSyntax" = some b ∨ Tryz.prog.globalNamed "strconv.ErrRange" = some b
theorem jcg6{w:World}{n:String}{g:Nat}{cs:Array Value}(hg:Tryz.prog.globalNamed n=some g)(h:w.var? Tryz.prog n=some cs):g<w.heap.size:=by
 unfold World.var? at h
 rw[hg] at h
 simp only[Option.bind_some] at h
 rcases Nat.lt_or_ge g w.heap.size with h'|h'
 ·exact h'
 ·rw[Array.getElem?_eq_none h'] at h;cases h
theorem jav1{w w':World}{n:String}{cs:Array Value}(h:w.var? Tryz.prog n=some cs)(hs:∀g,Tryz.prog.globalNamed n=some g->w'.heap[g]?=w.heap[g]?):w'.var? Tryz.prog n=some cs:=by
 unfold World.var? at h ⊢
 cases hg:Tryz.prog.globalNamed n with
 | none=>rw[hg] at h;cases h
 | some g=>
  rw[hg] at h
  simp only[Option.bind_some] at h ⊢
  rw[hs g hg]
  exact h
theorem Jm.same{w w':World}(h:Jm w)(hs:∀b,jv9 b->w'.heap[b]?=w.heap[b]?):Jm w':=by
 obtain⟨t1,p1,t2,p2,h1,h2⟩:=h
 exact⟨t1,p1,t2,p2,jav1 h1 (λg hg=>hs g (.inl hg)),jav1 h2 (λg hg=>hs g (.inr hg))⟩
theorem Jm.lt{w:World}(h:Jm w){b:Nat}(hb:jv9 b):b<w.heap.size:=by
 obtain⟨t1,p1,t2,p2,h1,h2⟩:=h
 rcases hb with hb|hb
 ·exact jcg6 hb h1
 ·exact jcg6 hb h2
theorem Jm.below{w w':World}{B:Nat}(h:Jm w)(hb:Below B w w')(hB:w.heap.size<=B):Jm w':=
 h.same λb hb'=>hb.block b (by have:=h.lt hb';omega)
def zh2(l:List UInt8):Int:=match Lib.atoiAll l with|.ok v=>v|_=>-1
def jah0(w:World)(l:List UInt8)(e:Ending)(w':World):Prop:=
 ∃v er,e=.returned (.tuple #[.int .i64 v,er])/\((er=.nilIface/\v=zh2 l)\/((∃t q,er=.iface t q)/\zh2 l=-1))/\Below w.heap.size w w'
theorem jbv8(l:List UInt8)(w:World)(hl:l.length<=1000000)(hE:Jm w):Calls Tryz.prog 119 #[.string ⟨l.toArray⟩] w (jah0 w l):=by
 obtain⟨t1,p1,t2,p2,h1,h2⟩:=hE
 have hs:(⟨l.toArray⟩:ByteArray).size<=1000000:=by simpa [ByteArray.size] using hl
 have hd:(⟨l.toArray⟩:ByteArray).data.toList=l:=by simp
 rcases h:Lib.atoiAll l with v|_|_
 ·refine(Tryz.strconv_Atoi_ok ⟨l.toArray⟩ (by omega) v (by rw[hd];exact h) w).mono ?_
  rintro e w' ⟨rfl,hw⟩
  refine⟨v,.nilIface,rfl,.inl ⟨rfl,by unfold zh2;rw[h]⟩,?_⟩
  rcases hw with rfl|⟨t,rfl⟩
  ·exact Below.refl _ _
  ·exact⟨rfl,rfl,rfl,by rw[Lib.bytesWorld_size];omega,λj hj=>Lib.bytesWorld_at_old _ _ _ j hj⟩
 ·refine(Any.strconv_Atoi_syntax_var Tryz.laysC172 ⟨l.toArray⟩ (by omega) (by rw[hd];exact h) t1 p1 w h1).mono ?_
  rintro e w' ⟨N,rfl,_,_,hb⟩
  exact⟨_,_,rfl,.inr ⟨⟨_,_,rfl⟩,by unfold zh2;rw[h]⟩,hb⟩
 ·refine(Tryz.strconv_Atoi_range_var ⟨l.toArray⟩ (by omega) (by rw[hd];exact h) t2 p2 w h2).mono ?_
  rintro e w' ⟨N,rfl,_,_,hb⟩
  exact⟨_,_,rfl,.inr ⟨⟨_,_,rfl⟩,by unfold zh2;rw[h]⟩,hb⟩
theorem zF{w w':World}{base s n:Nat}{e:TypeId}{v:Value}{xs:List Value}(h:w.ownsRow base e s v n xs){row:Option Nat}(hg:w.grownBy w' row)(hne:∀g,v.ownBlock=some g->row≠some g):w'.ownsRow base e s v n xs:=by
 refine h.kept hg ?_
 cases hv:v.ownBlock with
 | none=>exact .inl rfl
 | some g=>exact .inr (λe=>hne g hv e.symm)
theorem jcf3:zG [1,2]=[1,2]:=by
 unfold zG
 simp[List.mergeSort,List.MergeSort.Internal.splitInTwo,List.merge,leI]
theorem Tryz.guardTerm:Tryz.prog.eqGuardType Tryz.prog.depth 59=false:=by kernel_rfl
theorem jap5(a b c d:Int)(w:World):(binOp .neq 59 (.agg #[.int .i64 a,.int .i64 b]) (.agg #[.int .i64 c,.int .i64 d])).run Tryz.prog w=.ok (.bool (!decide ((a,b)=(c,d)))) w:=by
 have hi:=Tryz.underlying3
 have hS:Tryz.prog.underlying 59=some (.struct (Tryz.prog.fieldsOf 59)):=by kernel_rfl
 have hp:Tryz.prog.stoodInHeld 59=false:=by kernel_rfl
 rw[run_neq_struct,show(10000:Nat)=9999+1 from rfl,run_equalIn_agg w 9999 59 _ _ hS hp]
 simp only[Program.fieldsOf,Tryz.underlying59]
 go_simp
 by_cases h1:a=c<;>by_cases h2:b=d<;>simp[h1,h2]
theorem jay3(ts:List (Int×Int)):∀u∈jr ts,u.oneCell'=true:=by
 intro u hu
 unfold jr at hu
 induction ts with
 | nil=>simp[jB] at hu
 | cons t ts ih=>
  have h2:u=.int .i64 t.1\/u=.int .i64 t.2\/u∈jB (ts.map jr7):=by simpa [jB,jr7] using hu
  rcases h2 with rfl|rfl|h2
  ·rfl
  ·rfl
  ·exact ih h2
def Rq(w:World)(B k:Nat)(A:Option Addr)(n c:Nat)(cs:List Value):Prop:=
 cs.length=n*k/\n<=c/\c<=maxLen/\(n=0\/∃ad:Addr,A=some ad/\ad.block<B/\∀j u,cs[j]?=some u->w.cell? (ad.add j)=some u)
section
variable {w w' : World} {B B' k n c : Nat} {A : Option Addr} {cs : List Value}
theorem Rq.of(h:Rd w B k A n c cs):Rq w B k A n c cs:=by
 obtain⟨h1,h2,h3,h4⟩:=h
 refine⟨h1,h2,h3,?_⟩
 rcases h4 with⟨_,h4⟩|h4
 ·exact .inl (by omega)
 ·exact .inr h4
theorem Rq.nmax(h:Rq w B k A n c cs):n<=9223372036854775807:=by
 have h1:=h.2.1;have h2:=h.2.2.1;unfold maxLen at h2;omega
theorem Rq.keep(h:Rq w B k A n c cs)(hk:∀p:Addr,p.block<B->w'.cell? p=w.cell? p):Rq w' B k A n c cs:=by
 obtain⟨h1,h2,h3,h4⟩:=h
 refine⟨h1,h2,h3,?_⟩
 rcases h4 with h4|⟨ad,e,hb,hc⟩
 ·exact .inl h4
 ·exact .inr ⟨ad,e,hb,λj u hu=>(hk _ (by rw[jH];exact hb)).trans (hc j u hu)⟩
theorem Rq.more(h:Rq w B k A n c cs)(hB:B<=B'):Rq w B' k A n c cs:=by
 obtain⟨h1,h2,h3,h4⟩:=h
 refine⟨h1,h2,h3,?_⟩
 rcases h4 with h4|⟨ad,e,hb,hc⟩
 ·exact .inl h4
 ·exact .inr ⟨ad,e,by omega,hc⟩
theorem Rq.below(h:Rq w B k A n c cs)(hb:Below B w w'):Rq w' B k A n c cs:=h.keep λ_ hp=>hb.cell hp
theorem Rq.drewN(h:Rq w B k A n c cs)(q:Nat):Rq (w.drewN q) B k A n c cs:=h
theorem Rq.alloc(h:Rq w B k A n c cs)(hB:B<=w.heap.size)(o:Obj):Rq (w.alloc o) B k A n c cs:=
 h.keep λp hp=>World.cell?_alloc_lt w o p (by omega)
theorem Rq.setCell(h:Rq w B k A n c cs){p:Addr}(hB:B<=p.block)(u:Value):Rq (w.setCell p u) B k A n c cs:=
 h.keep λq hq=>World.cell?_setCell_other w p q u (λe=>by subst e;omega)
theorem Rq.grown(h:Rq w B k A n c cs){row:Option Nat}(hg:w.grownBy w' row)(hB:B<=w.heap.size)(hr:∀g,row=some g->B<=g):Rq w' B k A n c cs:=
 h.keep λp hp=>World.cell?_of_block (hg.block p.block (by omega) (λe=>by have:=hr _ e.symm;omega))
theorem Rq.addr(h:Rq w B k A n c cs)(hn:0<n):∃ad:Addr,A=some ad/\ad.block<B/\∀j u,cs[j]?=some u->w.cell? (ad.add j)=some u:=by
 rcases h.2.2.2 with h0|h
 ·omega
 ·exact h
theorem Rq.empty(w:World)(B k:Nat)(A:Option Addr):Rq w B k A 0 0 []:=⟨by simp,Nat.le_refl _,Nat.zero_le _,.inl rfl⟩
end
def jP(w:World)(B:Nat)(A:Option Addr)(n c:Nat)(l:List Int):Prop:=Rq w B 1 A n c (l.map (Value.int .i64))
theorem jP.len{w:World}{B:Nat}{A:Option Addr}{n c:Nat}{l:List Int}(h:jP w B A n c l):l.length=n:=by
 have:=h.1;simpa using this
theorem jP.at_ {w:World} {B:Nat} {A:Option Addr} {n c:Nat} {l:List Int} (h:jP w B A n c l) {i:Nat} (hi:i<l.length) :
  ∃ad:Addr,A=some ad/\ad.block<B/\w.cell? (ad.add i)=some (.int .i64 l[i]):=by
 obtain⟨ad,e,hb,hc⟩:=Rq.addr h (by have:=h.len;omega)
 exact⟨ad,e,hb,hc i _ (by simp[hi])⟩
theorem jbc8 {w:World} {B n c:Nat} {A:Option Addr} {l:List (Value×Value)} (h:Rq w B 2 A n c (jB l)) {i:Nat} (hi:i<l.length) :
  ∃ad:Addr,A=some ad/\ad.block<B/\w.cell? (ad.add (i*2))=some l[i].1/\w.cell? ⟨(ad.add (i*2)).block,(ad.add (i*2)).off+1,none⟩=some l[i].2:=by
 have hn:l.length=n:=by have h1:=h.1;rw[Jj] at h1;omega
 obtain⟨ad,e,hb,hc⟩:=Rq.addr h (by omega)
 obtain⟨h1,h2⟩:=jm8 l i hi
 refine⟨ad,e,hb,hc _ _ h1,?_⟩
 have h3:=hc _ _ h2
 rw[<-zh1] at h3
 exact h3
def jJ(w:World)(B:Nat)(A:Option Addr)(n c:Nat)(ts:List (Int×Int)):Prop:=Rq w B 2 A n c (jr ts)
theorem jJ.len{w:World}{B n c:Nat}{A:Option Addr}{ts:List (Int×Int)}(h:jJ w B A n c ts):ts.length=n:=by
 have h1:=h.1
 unfold jr at h1
 rw[Jj,List.length_map] at h1
 omega
theorem jJ.at_ {w:World} {B n c:Nat} {A:Option Addr} {ts:List (Int×Int)} (h:jJ w B A n c ts) {i:Nat} (hi:i<ts.length) :
  ∃ad:Addr,A=some ad/\ad.block<B/\w.cell? (ad.add (i*2))=some (.int .i64 ts[i].1)/\w.cell? ⟨(ad.add (i*2)).block,(ad.add (i*2)).off+1,none⟩=some (.int .i64 ts[i].2):=by
 obtain⟨ad,e,hb,h1,h2⟩:=jbc8 h (i:=i) (by simpa using hi)
 simp only[List.getElem_map] at h1 h2
 exact⟨ad,e,hb,h1,h2⟩
open Go Go.RowKit
theorem jaf9 {P:Program} (w:World) (t ty:TypeId) (base:Nat) (e:TypeId) (i:TypeInfo) (z:Value) (size bytes:Nat) (ht:P.underlying t=some (.slice e)) (hi:P.info? e=some i) (hz:i.zero=some z)
  (hsize:i.size=size) (hby:i.bytes=bytes) (hzs:z.cells.size=size) (hsz:0<size)
  (v:Value) (n:Nat) (xs:List Value) (hown:w.ownsRow base e size v n xs)
  (A:Option Addr) (m c B:Nat) (news:List Value) (hq:Rq w B size A m c news) (h1:∀u∈news,u.oneCell'=true)
  (h63:n+m<=maxLen) (hbytes:(n+m)*bytes<=140737488355328) (hbase:base<=w.heap.size) :
  ∃A' c' w',(Builtin.append_ #[t,t] ty #[v,.slice A m c]).run P w=.ok (.slice A' (n+m) c') w'/\w'.ownsRow base e size (.slice A' (n+m) c') (n+m) (xs++news)/\w.grownBy w' v.ownBlock:=by
 obtain⟨hl,hmc,hcm,hA⟩:=hq
 cases A with
 | none=>
  have hm0:m=0:=by
   rcases hA with h|⟨ad,h,_⟩
   ·exact h
   ·cases h
  subst hm0
  have hn0:news=[]:=List.length_eq_zero_iff.1 (by omega)
  subst hn0
  obtain⟨A3,c3,rfl⟩:=jx hown
  have hcap:=Rd.cap (Rd.of_own hown)
  refine⟨A3,c3,w,?_,by simpa using hown,World.grownBy.refl _ _⟩
  have:=run_append_nothing (P:=P) w t t ty e i ht hi A3 n c3 hcap (.slice none 0 c) (Src.ofNil w ht c)
  simpa using this
 | some ad=>
  have hnews:∀j u,news[j]?=some u->w.cell? (ad.add j)=some u:=by
   rcases hA with h|⟨ad',h,_,hc⟩
   ·subst h
    have hn0:news=[]:=List.length_eq_zero_iff.1 (by omega)
    subst hn0
    intro j u hj;simp at hj
   ·injection h with h
    subst h
    exact hc
  obtain⟨v',w',hr,ho,hg,_,_⟩:=run_append_own_at (P:=P) w base t ty e i z size bytes ht hi hz hsize hby hzs hsz v n xs hown ad m c news hl hnews h1 h63 hbytes hbase
  obtain⟨A3,c3,rfl⟩:=jx ho
  exact⟨A3,c3,w',hr,ho,hg⟩
theorem zf2 {P:Program} {w:World} {o:Oper} {a:Act} {K:Act->World->Prop} {Q:Exit->Act->World->Prop} (s x:Operand) (t:TypeId)
  (ho:o.op=.call { callee:=.builtin .append,args:=#[s,x],argTypes:=#[t,t] })
  (base:Nat) (e:TypeId) (i:TypeInfo) (z:Value) (size bytes:Nat) (ht:P.underlying t=some (.slice e)) (hi:P.info? e=some i) (hz:i.zero=some z)
  (hsize:i.size=size) (hby:i.bytes=bytes) (hzs:z.cells.size=size) (hsz:0<size)
  (v:Value) (n:Nat) (xs:List Value) (hs:a.eval s=v) (hown:w.ownsRow base e size v n xs)
  (A:Option Addr) (m c B:Nat) (news:List Value) (hx:a.eval x=.slice A m c) (hq:Rq w B size A m c news) (h1:∀u∈news,u.oneCell'=true)
  (h63:n+m<=maxLen) (hbytes:(n+m)*bytes<=140737488355328) (hbase:base<=w.heap.size)
  (h:∀A' c' w',w'.ownsRow base e size (.slice A' (n+m) c') (n+m) (xs++news)->w.grownBy w' v.ownBlock->K (a.put o.dst (.slice A' (n+m) c')) w'):o.wp P a w K Q:=by
 obtain⟨A',c',w',hr,h2,h3⟩:=jaf9 (P:=P) w t o.type base e i z size bytes ht hi hz hsize hby hzs hsz v n xs hown A m c B news hq h1 h63 hbytes hbase
 unfold Oper.wp execOp
 simp only[ho,resolve,invoke,builtin,Sem.run_bind,Sem.run_pure,Result.andThen_ok,List.map_toArray,List.map_cons,List.map_nil,hs,hx,hr]
 exact h A' c' w' h2 h3
theorem Zt {P:Program} {w:World} {ops:Array Oper} {rest:List Oper} {o:Oper} {a:Act} {Q:Exit->Act->World->Prop} (hgd:o.guard=none) (s x:Operand) (t:TypeId)
  (ho:o.op=.call { callee:=.builtin .append,args:=#[s,x],argTypes:=#[t,t] })
  (base:Nat) (e:TypeId) (i:TypeInfo) (z:Value) (size bytes:Nat) (ht:P.underlying t=some (.slice e)) (hi:P.info? e=some i) (hz:i.zero=some z)
  (hsize:i.size=size) (hby:i.bytes=bytes) (hzs:z.cells.size=size) (hsz:0<size)
  (v:Value) (n:Nat) (xs:List Value) (hs:a.eval s=v) (hown:w.ownsRow base e size v n xs)
  (A:Option Addr) (m c B:Nat) (news:List Value) (hx:a.eval x=.slice A m c) (hq:Rq w B size A m c news) (h1:∀u∈news,u.oneCell'=true)
  (h63:n+m<=maxLen) (hbytes:(n+m)*bytes<=140737488355328) (hbase:base<=w.heap.size)
  (h:∀A' c' w',w'.ownsRow base e size (.slice A' (n+m) c') (n+m) (xs++news)->w.grownBy w' v.ownBlock->wpList P ops Q rest (a.put o.dst (.slice A' (n+m) c')) w'):wpList P ops Q (o::rest) a w:=
 wpList_plain hgd λ_ hK=>zf2 s x t ho base e i z size bytes ht hi hz hsize hby hzs hsz v n xs hs hown A m c B news hx hq h1 h63 hbytes hbase λA' c' w' h2 h3=>hK _ _ (h A' c' w' h2 h3)
theorem zt3 {P:Program} {w:World} {ops:Array Oper} {o:Oper} {a:Act} {K:Act->World->Prop} {Q:Exit->Act->World->Prop} {E:Prop} (hgd:o.guard=none) (s x:Operand) (t:TypeId)
  (ho:o.op=.call { callee:=.builtin .append,args:=#[s,x],argTypes:=#[t,t] })
  (base:Nat) (e:TypeId) (i:TypeInfo) (z:Value) (size bytes:Nat) (ht:P.underlying t=some (.slice e)) (hi:P.info? e=some i) (hz:i.zero=some z)
  (hsize:i.size=size) (hby:i.bytes=bytes) (hzs:z.cells.size=size) (hsz:0<size)
  (v:Value) (n:Nat) (xs:List Value) (hs:a.eval s=v) (hown:w.ownsRow base e size v n xs)
  (A:Option Addr) (m c B:Nat) (news:List Value) (hx:a.eval x=.slice A m c) (hq:Rq w B size A m c news) (h1:∀u∈news,u.oneCell'=true)
  (h63:n+m<=maxLen) (hbytes:(n+m)*bytes<=140737488355328) (hbase:base<=w.heap.size)
  (h:∀A' c' w',w'.ownsRow base e size (.slice A' (n+m) c') (n+m) (xs++news)->w.grownBy w' v.ownBlock->K (a.put o.dst (.slice A' (n+m) c')) w') :
  if Region.wanted o (yielded ops a.tmps)=true then Oper.wp P o a w K Q else E:=by
 have hw:Region.wanted o (yielded ops a.tmps)=true:=by simp[Region.wanted,hgd]
 rw[if_pos hw]
 exact zf2 s x t ho base e i z size bytes ht hi hz hsize hby hzs hsz v n xs hs hown A m c B news hx hq h1 h63 hbytes hbase h
open Go.ChangeShapes Go.WideShapes Go.ChangeAt Go.RowKit
def errL (n : String) (l : List UInt8) : String × DataW Unit := (n, .iface "*errors.errorString" (.ptr (.agg [.lit (.string l)])))
def jbr5:List UInt8:=[118,97,108,117,101,32,111,117,116,32,111,102,32,114,97,110,103,101]
def jbd6:List UInt8:=[105,110,118,97,108,105,100,32,115,121,110,116,97,120]
theorem Tryz.star : "*" ++ "errors.errorString" = "*errors.errorString" := by decide
theorem Tryz.rowErr (u : TypeId) (h : Tryz.prog.typeName? 3 u = some "*errors.errorString") : u = 239 :=
 typeName_ptr_named (nm := "errors.errorString") (by rw [Tryz.star]; kernel_rfl) (by kernel_rfl) (by decide) u (by rw [Tryz.star]; exact h)
theorem Tryz.gRange : Tryz.prog.globalNamed "strconv.ErrRange" = some 1 := by kernel_rfl
theorem Tryz.gRangeT:(Tryz.prog.globals[1]?).map (·.type)=some 161:=by kernel_rfl
theorem Tryz.gSyntax : Tryz.prog.globalNamed "strconv.ErrSyntax" = some 0 := by kernel_rfl
theorem Tryz.gSyntaxT:(Tryz.prog.globals[0]?).map (·.type)=some 161:=by kernel_rfl
theorem Tryz.gPow : Tryz.prog.globalNamed "internal/strconv.uint64pow10" = some 2 := by kernel_rfl
theorem Tryz.gPowT:(Tryz.prog.globals[2]?).map (·.type)=some 243:=by kernel_rfl
theorem Tryz.errField:∃f:Field,Tryz.prog.underlying 241=some (.struct #[f])/\f.type=9/\f.offset=0:=⟨_,Tryz.underlying241,rfl,rfl⟩
theorem Tryz.cellsErr:Tryz.prog.cellsOf 241=1:=by kernel_rfl
theorem Tryz.cellsStr:Tryz.prog.cellsOf 9=1:=by kernel_rfl
theorem Tryz.cellsPow:Tryz.prog.cellsOf 243=20:=by kernel_rfl
theorem Tryz.cellsU64:Tryz.prog.cellsOf 181=1:=by kernel_rfl
theorem jcr6 {W : World} {r : List (String × DataW Unit)} (h : laidMet Tryz.prog (("internal/strconv.uint64pow10", Lib.tabData .u64 Lib.pow10Tab) :: errL "strconv.ErrRange" jbr5 :: errL "strconv.ErrSyntax" jbd6 :: r) W) :
  Jm W ∧ Lib.TabIs Tryz.prog W "internal/strconv.uint64pow10" .u64 Lib.pow10Tab := by
 obtain⟨f,hf,hft,hfo⟩:=Tryz.errField
 obtain⟨a1,s1,hv1,-,-,-⟩:=laid_sentinel h.tail Tryz.gRange Tryz.gRangeT Tryz.underlying161 Tryz.rowErr Tryz.underlying239 hf hft hfo Tryz.underlying9 Tryz.cellsErr Tryz.cellsStr
 obtain⟨a2,s2,hv2,-,-,-⟩:=laid_sentinel h.tail.tail Tryz.gSyntax Tryz.gSyntaxT Tryz.underlying161 Tryz.rowErr Tryz.underlying239 hf hft hfo Tryz.underlying9 Tryz.cellsErr Tryz.cellsStr
 exact⟨⟨_,_,_,_,hv2,hv1⟩,Lib.tabIs_of_head Tryz.gPow Tryz.gPowT Tryz.underlying243 Tryz.underlying181 Tryz.cellsU64 Tryz.cellsPow h⟩
open Go.ChangeShapes Go.WideShapes Go.ChangeAt Go.RowKit Go.Joins Go.Deep
theorem jcj0{α:Type}[Inhabited α]{n:Nat}{p:Nat->α->Prop}(h:∀i,i<n->∃x,p i x):∃l:List α,l.length=n/\∀i (hi:i<l.length),p i l[i]:=by
 obtain⟨f,hf⟩:=choose_lt h
 refine⟨(List.range n).map f,by simp,λi hi=>?_⟩
 have:i<n:=by simpa using hi
 simpa using hf i this
open Go.Proofs.YtphcodcdfeohhaaGreatDoor
theorem both{a b:Bool}(ha:a=true)(hb:b=true):(a&&b)=true:=by rw[ha,hb];rfl
theorem jcn0:laidOutB Tryz.pinned.checked.prog=true:=by kernel_rfl
theorem jch7:mapsRowed Tryz.pinned.checked.prog=true:=by kernel_rfl
theorem jcp5:((OpenClaim.plainKeys Rows.cordNearestRow)==Tryz.pinned.checked.prog.plainKeys)=true:=by kernel_rfl
theorem jch6:Tryz.pinned.checked.prog.stopsHeard=true:=by kernel_rfl
theorem jcr9:Tryz.pinned.checked.prog.mayEnter=true:=by kernel_rfl
theorem jcp6:(Rows.cordNearestRow.lifted==Tryz.pinned.checked.prog.liftsFinal)=true:=by kernel_rfl
theorem jcp8:(Tryz.pinned.checked.prog.make==some Rows.cordNearestRow.make)=true:=by kernel_rfl
theorem jcp7:Tryz.pinned.checked.prog.mainIs=some (Rows.cordNearestCard.stood.harness.1,Rows.cordNearestCard.stood.harness.2.toList):=by kernel_rfl
section
variable {H : Type} {enc : TypeId × Value → H} {W : World} {spare : Nat → Bool} {held : Bool} {fuel : Nat}
theorem jar3 {cs:List Value} {x:DataW H×List MemPlace} (h:DataW.trod enc Tryz.prog W 0 spare held fuel 22 cs=some x) :
  ∃(A:Option Addr) (n c:Nat) (l:List (Int×Int)),cs=[.slice A n c]/\jJ W W.heap.size A n c l/\∀t∈l,(Lit.int .i64 t.1).wf=true/\(Lit.int .i64 t.2).wf=true:=by
 rcases open_slice_pairs Tryz.underlying22 Tryz.underlying59 (by kernel_rfl) rfl rfl (by kernel_rfl) (by kernel_rfl) h with⟨rfl,-⟩|⟨a,len,cap,m,n,V0,V1,D0,D1,P0,P1,rfl,-,hl,hm,hmm,-,hx⟩
 ·exact⟨none,0,0,[],rfl,Rq.empty _ _ _ _,λ_ h=>by cases h⟩
 ·have hlm:len<=m:=by rw[hmm];split<;>omega
  obtain⟨l,hlen,hq⟩:=jcj0 (α:=Int×Int) (n:=len) (p:=λi p=>W.cell? (a.add (i*2))=some (.int .i64 p.1)/\W.cell? (a.add (i*2+1))=some (.int .i64 p.2)/\(Lit.int .i64 p.1).wf=true/\(Lit.int .i64 p.2).wf=true) (λi hi=>by
   obtain⟨h0,h1,t0,t1⟩:=hx i (by omega)
   obtain⟨b,e0,-,w0⟩:=DataW.trod_int Tryz.underlying3 t0
   obtain⟨d,e1,-,w1⟩:=DataW.trod_int Tryz.underlying3 t1
   injection e0 with e0
   injection e1 with e1
   exact⟨(b,d),by rw[h0,e0],by rw[h1,e1],w0,w1⟩)
  refine⟨some a,len,cap,l,rfl,⟨by rw[jr,Jj,List.length_map,hlen],hl,hm,?_⟩,λp hp=>?_⟩
  ·rcases Nat.eq_zero_or_pos len with h0|h0
   ·exact .inl h0
   ·have hb:=World.block_lt_of_cell? _ _ (hq 0 (by omega)).1
    rw[jH] at hb
    refine .inr ⟨a,rfl,hb,λj u hu=>?_⟩
    rw[jr] at hu
    have hj:j<len*2:=by
     rcases Nat.lt_or_ge j (len*2)with h1|h1
     ·exact h1
     ·rw[List.getElem?_eq_none (by rw[Jj,List.length_map];omega)] at hu;cases hu
    have hi:j/2<(l.map jr7).length:=by simp;omega
    obtain⟨g0,g1⟩:=jm8 (l.map jr7) (j/2) hi
    obtain⟨c0,c1,-⟩:=hq (j/2) (by omega)
    rw[List.getElem_map] at g0 g1
    rcases Nat.mod_two_eq_zero_or_one j with h2|h2
    ·rw[show j/2*2=j by omega] at g0 c0
     rw[g0] at hu
     injection hu with hu
     rw[c0,<-hu]
     rfl
    ·rw[show j/2*2+1=j by omega] at g1 c1
     rw[g1] at hu
     injection hu with hu
     rw[c1,<-hu]
     rfl
  ·obtain⟨i,hi,rfl⟩:=List.mem_iff_getElem.1 hp
   exact(hq i (by omega)).2.2
theorem jcc2 {r:Reach} {b0:Nat} {v:Value} {d:DataW H} {p:List MemPlace} (hv:Value.okWide Tryz.prog W r b0 24 v) (h:DataW.Trod enc Tryz.prog W 0 spare held 24 v d p) :
  ∃(den:Int) (A:Option Addr) (n c:Nat) (l:List (Int×Int)),v=.agg #[.int .i64 den,.slice A n c]/\jJ W W.heap.size A n c l/\(Lit.int .i64 den).wf=true/\∀t∈l,(Lit.int .i64 t.1).wf=true/\(Lit.int .i64 t.2).wf=true:=by
 obtain⟨v0,v1,y0,y1,m,rfl,-,-,h0,h1⟩:=open_agg2 Tryz.underlying24 (by kernel_rfl) (by kernel_rfl) hv h
 obtain⟨den,e0,-,w0⟩:=DataW.trod_int Tryz.underlying3 h0
 obtain⟨A,n,c,l,e1,hP,hw⟩:=jar3 h1
 injection e0 with e0
 injection e1 with e1
 exact⟨den,A,n,c,l,by rw[e0,e1],hP,w0,hw⟩
end
section
variable {H : Type} {enc : TypeId × Value → H} {W : World} {spare : Nat → Bool} {held : Bool} {fuel : Nat}
theorem Tryz.cellsNumI:Tryz.prog.cellsOf 24=2:=by kernel_rfl
theorem Tryz.cellsIntI:Tryz.prog.cellsOf 3=1:=by kernel_rfl
theorem Tryz.cellsTermsI:Tryz.prog.cellsOf 22=1:=by kernel_rfl
theorem Tryz.cellsBetween:Tryz.prog.cellsOf 26=4:=by kernel_rfl
theorem jcy3 {c0 c1:Value} {x:DataW H×List MemPlace} (h:DataW.trod enc Tryz.prog W 0 spare held fuel 24 [c0,c1]=some x) :
  ∃(den:Int) (A:Option Addr) (n c:Nat) (l:List (Int×Int)),c0=.int .i64 den/\c1=.slice A n c/\jJ W W.heap.size A n c l:=by
 obtain⟨y0,y1,m,-,-,h0,h1⟩:=trod_struct2 Tryz.underlying24 h
 have h0':DataW.trod enc Tryz.prog W 0 spare held m 3 [c0]=some y0:=by rw[<-h0,Tryz.cellsIntI];rfl
 have h1':DataW.trod enc Tryz.prog W 0 spare held m 22 [c1]=some y1:=by rw[<-h1,Tryz.cellsTermsI];rfl
 obtain⟨den,e0,-,-⟩:=DataW.trod_int Tryz.underlying3 h0'
 obtain⟨A,n,c,l,e1,hP,-⟩:=jar3 h1'
 injection e0 with e0
 injection e1 with e1
 exact⟨den,A,n,c,l,e0,e1,hP⟩
theorem jcz0 {r:Reach} {b0:Nat} {v:Value} {d:DataW H} {p:List MemPlace} (hv:Value.okWide Tryz.prog W r b0 26 v) (h:DataW.Trod enc Tryz.prog W 0 spare held 26 v d p) :
  ∃(xd:Int) (xA:Option Addr) (xn xc:Nat) (xt:List (Int×Int)) (yd:Int) (yA:Option Addr) (yn yc:Nat) (yt:List (Int×Int)),
   v=.agg #[.int .i64 xd,.slice xA xn xc,.int .i64 yd,.slice yA yn yc]/\jJ W W.heap.size xA xn xc xt/\jJ W W.heap.size yA yn yc yt:=by
 obtain⟨cs,rfl,hsz⟩:=okWide_struct Tryz.underlying26 hv
 rw[Tryz.cellsBetween] at hsz
 obtain⟨c0,c1,c2,c3,rfl⟩:∃c0 c1 c2 c3,cs=#[c0,c1,c2,c3]:=by
  obtain⟨l⟩:=cs
  match l,hsz with
  | [c0,c1,c2,c3],_=>exact⟨c0,c1,c2,c3,rfl⟩
 obtain⟨fuel,hf⟩:=h
 obtain⟨y0,y1,n,-,-,h0,h1⟩:=trod_struct2 Tryz.underlying26 hf
 have h0':DataW.trod enc Tryz.prog W 0 spare held n 24 [c0,c1]=some y0:=by rw[<-h0,Tryz.cellsNumI];rfl
 have h1':DataW.trod enc Tryz.prog W 0 spare held n 24 [c2,c3]=some y1:=by rw[<-h1,Tryz.cellsNumI];rfl
 obtain⟨xd,xA,xn,xc,xt,rfl,rfl,hx⟩:=jcy3 h0'
 obtain⟨yd,yA,yn,yc,yt,rfl,rfl,hy⟩:=jcy3 h1'
 exact⟨xd,xA,xn,xc,xt,yd,yA,yn,yc,yt,rfl,hx,hy⟩
end
