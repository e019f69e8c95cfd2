import Derived.Test.YtphcodcdfeohhaaGreatDoorSurdCToSurdF
import Derived.Test.YtphcodcdfeohhaaGreatDoorShelf
import Derived.Laws.Rows
import Derived.Laws.ResultCell
set_option linter.all false
namespace Go.Proofs.YtphcodcdfeohhaaGreatDoor
set_option maxRecDepth 100000
set_option maxHeartbeats 4000000
open Go.RowKit Go.Lib Go.Sort
def leI(x y:Int):Bool:=decide (x<=y)
def zG(l:List Int):List Int:=l.mergeSort leI
theorem zT(l:List Int):(zG l).Perm l:=List.mergeSort_perm l leI
theorem ZP(l:List Int):(zG l).Pairwise (λa b=>a<=b):=by
 have h:=List.pairwise_mergeSort (le:=leI) (λa b c h1 h2=>by simp[leI] at *;omega) (λa b=>by simp[leI];omega) l
 exact h.imp (λh=>by simpa [leI] using h)
theorem jm2:∀(l m:List Int),l.Perm m->l.Pairwise (λa b=>a<=b)->m.Pairwise (λa b=>a<=b)->l=m:=by
 intro l m hp hl hm
 exact hp.eq_of_pairwise (λa b _ _ h1 h2=>by omega) hl hm
theorem zt2{l m:List Int}(h:l.Perm m):zG l=zG m:=
 jm2 _ _ ((zT l).trans (h.trans (zT m).symm)) (ZP l) (ZP m)
theorem zs9(d:List Int)(cur:Array Value)(hn:d.length<=cur.size):(putCells (Value.int .i64) 0 d.toArray cur).toList.take d.length=d.map (Value.int .i64):=by
 apply List.ext_getElem?
 intro k
 by_cases hk:k<d.length
 ·rw[List.getElem?_take_of_lt hk,Array.getElem?_toList,List.getElem?_map,List.getElem?_eq_getElem hk]
  unfold putCells
  rw[Array.getElem?_mapIdx,Array.getElem?_eq_getElem (by omega)]
  simp only[Option.map_some]
  rw[if_pos ⟨by omega,by simpa using hk⟩]
  simp only[Nat.sub_zero]
  rw[getElem!_pos _ k (by simpa using hk)]
  simp
 ·rw[List.getElem?_eq_none (by simp;omega),List.getElem?_eq_none (by simp;omega)]
theorem jcf2 {base n c:Nat} {A:Option Addr} {zs:List Int} {w:World} (h:w.ownsRow base 3 1 (.slice A n c) n (zs.map (Value.int .i64))) (hn:n<=1000000) :
  Calls Tryz.prog 141 #[.slice A n c] w λe w'=>e=.returned (.tuple #[])/\w'.ownsRow base 3 1 (.slice A n c) n ((zG zs).map (Value.int .i64))/\w.grownBy w' (Value.slice A n c).ownBlock:=by
 have hz:zs.length=n:=by have:=h.1;simpa using this
 have hl:=h.lt
 rcases Nat.eq_zero_or_pos n with h0|h0
 ·subst h0
  have:zs=[]:=List.eq_nil_of_length_eq_zero hz
  subst this
  refine(Tryz.slices_Sort_int_none A c w).mono ?_
  rintro e w' ⟨rfl,rfl⟩
  exact⟨rfl,by simpa [zG] using h,World.grownBy.refl _ _⟩
 ·rcases h.2 with⟨hv,hn0⟩|⟨g,cap,cur,hv,hb,hg,hnc,hcm,hcs,ht⟩
  ·omega
  ·injection hv with h1 h2 h3
   subst h1;subst h3
   have hcells:=h.cells (g:=g) rfl
   subst hz
   refine(Tryz.slices_Sort_int g 0 c zs w ?_ (hl g rfl).2 (by omega)).mono ?_
   ·intro j hj
    have hj':j<zs.length:=by simpa using hj
    refine⟨?_,?_⟩
    ·have h4:=hcells j (.int .i64 zs[j]) (by rw[List.getElem?_map,List.getElem?_eq_getElem hj'];rfl)
     rw[Addr.add_lit] at h4
     rw[h4,getElem!_pos _ j hj]
     simp
    ·simp[World.frozen?,hg]
   ·rintro e w' ⟨rfl,q,os,rfl⟩
    have hsz:(zG zs).length=zs.length:=(zT zs).length_eq
    have hlt:g<w.heap.size:=(hl g rfl).2
    have hheap:∀k,k<w.heap.size->(grow (putRow (Value.int .i64) (Sort.ahead w q) g 0 (zG zs).toArray) os).heap[k]?=(w.heap.modify g (onCells (putCells (Value.int .i64) 0 (zG zs).toArray)))[k]?:=by
     intro k hk
     show((w.heap.modify g (onCells (putCells (Value.int .i64) 0 (zG zs).toArray)))++os)[k]?=_
     rw[Array.getElem?_append_left (by simpa using hk)]
    refine⟨rfl,⟨by simp[hsz],.inr ⟨g,c,putCells (Value.int .i64) 0 (zG zs).toArray cur,rfl,hb,?_,hnc,hcm,by simp[putCells,hcs],?_⟩⟩,⟨rfl,rfl,rfl,?_,?_⟩⟩
    ·have:=hheap g hlt
     rw[Array.getElem?_modify,if_pos rfl,hg] at this
     exact this
    ·rw[Nat.mul_one,<-hsz]
     exact zs9 _ _ (by rw[hsz,hcs];omega)
    ·show w.heap.size<=((w.heap.modify g (onCells (putCells (Value.int .i64) 0 (zG zs).toArray)))++os).size
     simp
    ·intro k hk hne
     refine(hheap k hk).trans ?_
     rw[Array.getElem?_modify,if_neg (λe=>hne (by rw[e];rfl))]
theorem jas9 (b:Nat) (kv:List (Int×Int)) (w:World) (h:zH w b kv) (hn:kv.length<=1000000) :
  Calls Tryz.prog 106 #[.func (.func 142) #[] #[.pointer (some ⟨w.heap.size,0,none⟩)]] (w.alloc (.cells #[.map (some b)] 104)) λe w'=>
   ∃(A:Option Addr) (n c:Nat),e=.returned (.slice A n c)/\w'.ownsRow (w.heap.size+1) 3 1 (.slice A n c) n ((zG (kv.map (·.1))).map (Value.int .i64))/\Below (w.heap.size+1) (w.alloc (.cells #[.map (some b)] 104)) w':=by
 have H:=ja (jac3 b kv w h hn)
 clear h
 go_enter Tryz.func106,Tryz.ntmps106
 go_wp2_with fail
 refine H.o.mono ?_
 rintro e w1 ⟨ys,A,n,c,hp,rfl,ho,hb⟩
 have HS:=ja (jcf2 ho (by have h1:=ho.1;have h2:=hp.length_eq;simp at h1 h2;omega))
 have HO:=ja ho
 have HB:=ja hb
 have HP:=ja hp
 clear ho hb hp
 go_wp2_with (first
  | (go_at_call 141;refine HS.o.mono ?_;rintro e w2 ⟨rfl,ho2,hg2⟩;have HO2:=ja ho2;have HG2:=ja hg2;clear ho2 hg2))
 go_ret
 refine⟨A,n,c,rfl,?_,HB.o.grown HG2.o (by have:=HB.o.size;simp at this;omega) (λj e=>(HO.o.lt j e).1)⟩
 rw[<-zt2 HP.o]
 exact HO2.o
open Go.RowKit
theorem jq {P:Program} {fn:Func} {p u:Tmp} {ty:TypeId} (h:fn.results=#[.cell p ty,.tmp u]) {R:Ending->World->Prop} {a:Act} {w:World} {g:Nat} {t:TypeId} {cs:Array Value} {d:TypeDesc}
  (hp:a.tmps.getD p undef=.pointer (some ⟨g,0,none⟩)) (hg:jh w g t cs) (hu:P.underlying ty=some d) (hd:(match d with|.struct _|.array _ _=>true|_=>false)=true)
  (hi:(P.info? ty).map (·.size)=some cs.size) (hdf:a.defers=[]) (hR:R (.returned (.tuple #[.agg cs,a.tmps.getD u undef])) w):bodyPost P fn R .ret a w:=by
 refine bodyPost_ret (v:=.tuple #[.agg cs,a.tmps.getD u undef]) ?_ hdf hR
 rw[results_cell_tmp h]
 rw[hp]
 simp[asAddr,Result.andThen,run_loadVar_row w g t ty cs (0,0) d hg hu hd hi]
theorem jh.two{w:World}{b:Nat}{t:TypeId}{u v:Value}(h:jh w b t #[u,v]):w.cell? ⟨b,0,none⟩=some u/\w.cell? ⟨b,1,none⟩=some v/\w.frozen? ⟨b,0,none⟩=false/\w.frozen? ⟨b,1,none⟩=false:=
 ⟨h.cell 0,h.cell 1,h.free 0,h.free 1⟩
theorem jO{w:World}{base base' size n:Nat}{e:TypeId}{v:Value}{xs:List Value}(h:w.ownsRow base e size v n xs)(hb:base'<=base):w.ownsRow base' e size v n xs:=by
 refine⟨h.1,?_⟩
 rcases h.2 with h|⟨g,cap,cur,h1,h2,h3⟩
 ·exact .inl h
 ·exact .inr ⟨g,cap,cur,h1,Nat.le_trans hb h2,h3⟩
theorem zi {P:Program} (w:World) {ops:Array Oper} {rest:List Oper} {o:Oper} {a:Act} {Q:Exit->Act->World->Prop} (hg:o.guard=none) (t:TypeId) (hop:o.op=Op.makeMap t none)
  (hn:wpList P ops Q rest (a.put o.dst (.map (some w.heap.size))) (w.alloc (.map #[] 0))):wpList P ops Q (o::rest) a w:=by
 refine Zc hg (v:=.map (some w.heap.size)) (w':=w.alloc (.map #[] 0)) ?_ hn
 unfold execOp
 rw[hop]
 rfl
theorem Tryz.sizeNumber:(Tryz.prog.info? 24).map (·.size)=some 2:=by kernel_rfl
def jU(kv:List (Int×Int))(den:Int):Int:=if den<0 then -(jM ((kv.filter nz).map (·.2)++[den]):Int)else(jM ((kv.filter nz).map (·.2)++[den]):Int)
def zp(kv:List (Int×Int))(G:Int):List (Int×Int):=(zG (kv.map (·.1))).map λr=>((zb kv r).tdiv G,r)
def Qp(kv:List (Int×Int))(den:Int):List (Int×Int):=zp (kv.filter nz) (jU kv den)
theorem Zz(l:List (Int×Int))(t:Int×Int):jr (l++[t])=jr l++[.int .i64 t.1,.int .i64 t.2]:=by
 unfold jr jB
 rw[List.map_append,List.flatMap_append]
 rfl
theorem jG{w w':World}{base size n:Nat}{e:TypeId}{v:Value}{xs:List Value}(h:w.ownsRow base e size v n xs)(hb:Below w.heap.size w w'):w'.ownsRow base e size v n xs:=
 World.ownsRow.kept h (jX hb none) (by cases v.ownBlock<;>simp)
theorem js0:∀(kv:List (Int×Int)) (r:Int),zb kv r=0\/(r,zb kv r)∈kv
 | [],r=>.inl rfl
 | (k,v)::kv,r=>by
  by_cases h:r=k
  ·subst h
   exact .inr (by simp[zb])
  ·rcases js0 kv r with h1|h1
   ·exact .inl (by simp only[zb,if_neg h];exact h1)
   ·exact .inr (by simp only[zb,if_neg h];exact List.mem_cons_of_mem _ h1)
theorem Tryz.infoTerm:(Tryz.prog.info? 59).map (λi=>(i.zero,i.size,i.bytes))=some (some (.agg #[.int .i64 0,.int .i64 0]),2,16):=by kernel_rfl
theorem zx(w:World)(u v:Value)(t:TypeId):∀j x,[u,v][j]?=some x->(w.alloc (.cells #[u,v] t)).cell? ((⟨w.heap.size,0,none⟩:Addr).add j)=some x:=by
 have h:=jh.new w t #[u,v]
 intro j x hj
 match j,hj with
 | 0,hj=>
  simp only[List.getElem?_cons_zero,Option.some.injEq] at hj
  subst hj
  exact h.cell 0
 | 1,hj=>
  simp only[List.getElem?_cons_succ,List.getElem?_cons_zero,Option.some.injEq] at hj
  subst hj
  exact h.cell 1
def jW(t:Int×Int):Bool:=decide (1000<t.2) || !zz t.1 (-100000) 100000
def jY(kv:List (Int×Int))(den:Int):Int×List (Int×Int)×Int:=
 if 4<(Qp kv den).length then(0,[],8)
 else if(decide (100000<den.tdiv (jU kv den)) || (Qp kv den).any jW)=true then(0,[],10)
 else(den.tdiv (jU kv den),Qp kv den,0)
theorem jbp4(a b:Int)(w:World):Calls Tryz.prog 108 #[.agg #[.int .i64 a,.int .i64 b]] w λe w'=>e=.returned (.bool (jW (a,b)))/\Below w.heap.size w w':=by
 by_cases h1:1000<b
 ·have HT:=ja (show jW (a,b)=true by unfold jW;simp[h1])
  go_enter Tryz.func108,Tryz.ntmps108
  go_wp2
  go_ret
  exact⟨by rw[HT.o];rfl,(Below.refl _ _).alloc (Nat.le_refl _) _⟩
 ·have HT:=ja (show jW (a,b)=!zz a (-100000) 100000 by unfold jW;simp[h1])
  go_enter Tryz.func108,Tryz.ntmps108
  generalize hr:zz a (-100000) 100000=r at HT
  have HR:=ja hr;clear hr
  go_wp2_with (first
   | (go_at_call 60;refine(zj _ _ _ _).mono ?_;rintro e w1 ⟨rfl,rfl⟩;rw[HR.o]))
  go_ret
  exact⟨by rw[HT.o];cases r<;>rfl,(Below.refl _ _).alloc (Nat.le_refl _) _⟩
theorem jcc5 (b:Nat) (kv:List (Int×Int)) (den:Int) (w:World) (h:zH w b kv) (hn:kv.length<=1000) (hd:den≠0) (hd1:-9000000000000000000<=den/\den<=9000000000000000000)
  (hc:∀p∈kv,-9000000000000000000<=p.2/\p.2<=9000000000000000000) :
  Calls Tryz.prog 64 #[.map (some b),.int .i64 den] w λe w'=>∃(A:Option Addr) (n c:Nat),e=.returned (.tuple #[.agg #[.int .i64 (jY kv den).1,.slice A n c],.int .i64 (jY kv den).2.2]) /\
   w'.ownsRow w.heap.size 59 2 (.slice A n c) n (jr (jY kv den).2.1)/\w.grownBy w' (some b):=by
 have hlt:=h.lt
 obtain⟨i0,hi0,hz0,hz1,hz2⟩:=info_parts Tryz.infoInt
 have HD1:=ja (zj1 b kv (w.alloc (.cells #[.int .i64 0,.slice none 0 0] 24)) (jt.alloc h _))
 go_enter Tryz.func64,Tryz.ntmps64
 go_wp2_with fail
 refine HD1.o.mono ?_
 rintro e w1 ⟨rfl,h1,hg1⟩
 have hlt1:=h1.lt
 have HV:=ja (zk8 b w1)
 have HC:=ja (zh8 b (kv.filter nz) w1 h1 (by have:=List.length_filter_le nz kv;omega))
 have H1:=ja h1
 have HG1:=ja hg1
 clear h h1 hg1
 go_wp2_with fail
 refine HV.o.mono ?_
 rintro e w2 ⟨rfl,rfl⟩
 go_wp2_with fail
 refine HC.o.mono ?_
 rintro e w2 ⟨ys,A2,n2,c2,hp2,rfl,ho2,hb2⟩
 have hys:n2<=1000:=by have h1:=ho2.1;have h2:=hp2.length_eq;have h3:=List.length_filter_le nz kv;simp at h1 h2;omega
 have hz2':=hb2.size
 simp only[World.size_alloc] at hz2'
 have HO2:=ja ho2
 have HP2:=ja hp2
 have HF2:=ja (zI (JO (JP (JO (jac9 w (some b)) (.cells #[.int .i64 0,.slice none 0 0] 24)) HG1.o (by intro j e;exact .inl rfl)) (.cells #[.map (some b)] 104)) hb2 (by have:=HG1.o.size;simp at this;omega))
 have HM2:=ja (jt.below (jt.alloc H1.o (.cells #[.map (some b)] 104)) hb2 (by omega))
 have HR2:=ja (((jh.new w 24 #[.int .i64 0,.slice none 0 0]).grown HG1.o (by simp;omega)).alloc (.cells #[.map (some b)] 104) |>.below hb2 (by have:=HG1.o.size;simp at this;omega))
 have hwz:w.heap.size<w1.heap.size:=by have:=HG1.o.size;simp at this;omega
 clear ho2 hp2 hb2 HC HV HD1 H1 HG1
 go_wp2_with (first
  | (at_builtin;refine wpList_append_own _ rfl _ _ 52 rfl (w1.heap.size+1) 3 i0 (.int .i64 0) 1 8 Tryz.underlying52 hi0 hz0 hz1 hz2 rfl (by decide) (.slice A2 n2 c2) n2 _ rfl (World.ownsRow.alloc HO2.o _) ⟨w2.heap.size,0,none⟩ 1 1 [.int .i64 den] rfl rfl (JG _ _ _) (by simp[Value.oneCell']) (by unfold maxLen;omega) (by omega) (by simp;omega) ?_;intro v' w3 ho3 hg3 _;obtain⟨A3,c3,rfl⟩:=jx ho3;have HO3:=ja ho3;have HG3:=ja hg3;clear ho3 hg3))
 have hg3:=HG3.o.size
 simp only[World.size_alloc] at hg3
 have hgl:jM (ys++[den])=jM ((kv.filter nz).map (·.2)++[den]):=jh5 (HP2.o.append_right _)
 have hgp:1<=jM (ys++[den]):=ZK (x:=den) (by simp) hd
 have hgd:jM (ys++[den])∣den.natAbs:=qT _ _ (by simp)
 have hgm:jM (ys++[den])<=9000000000000000000:=by have:=Nat.le_of_dvd (by omega) hgd;omega
 have HDV:=ja (jd9 A3 (n2+1) c3 w3.heap.size (ys++[den]) w3 (by have:=Rd.of_own HO3.o;unfold qP;simpa using this) (by
  intro x hx
  rcases List.mem_append.1 hx with hx|hx
  ·obtain⟨p,hp,rfl⟩:=List.mem_map.1 (HP2.o.mem_iff.1 hx)
   exact hc p (List.mem_filter.1 hp).1
  ·rw[List.mem_singleton.1 hx];exact hd1))
 have HGV:=ja (show jU kv den=if den<0 then -(jM (ys++[den]):Int)else(jM (ys++[den]):Int) by unfold jU;rw[hgl])
 clear hgl hgd
 have HW3:=ja (JP (JO HF2.o (.cells #[.int .i64 den] 3)) HG3.o (by intro j e;have:=(HO2.o.lt j e).1;exact .inr (by omega)))
 generalize jM (ys++[den])=gg at *
 refine HDV.o.mono ?_
 rintro e w4 ⟨rfl,q,rfl⟩
 have hrow:(Value.slice A2 n2 c2).ownBlock≠some w.heap.size:=λe=>by have:=(HO2.o.lt _ e).1;omega
 have hrow2:some b≠(Value.slice A2 n2 c2).ownBlock:=λe=>by have:=(HO2.o.lt _ e.symm).1;omega
 have HR4:=ja (((HR2.o.alloc (.cells #[.int .i64 den] 3)).grown HG3.o hrow).drewN q)
 have HM4:=ja (jt.drewN (jt.grown (jt.alloc HM2.o (.cells #[.int .i64 den] 3)) HG3.o hrow2) q)
 have HW4:=ja (jr9 HW3.o q)
 have hz4:w3.heap.size<=(w3.drewN q).heap.size:=Nat.le_refl _
 clear HDV HO3 HR2 HM2 HF2 HW3 HG3 hrow hrow2 HO2 HP2
 generalize w3.drewN q=w4 at *
 have hGb:jU kv den≠0/\(-9000000000000000000<=jU kv den/\jU kv den<=9000000000000000000):=by rw[HGV.o];split<;>omega
 have hOS:=ja (show jY kv den=if 4<(zp (kv.filter nz) (jU kv den)).length then(0,[],8)
  else if(decide (100000<den.tdiv (jU kv den)) || (zp (kv.filter nz) (jU kv den)).any jW)=true then(0,[],10)
  else(den.tdiv (jU kv den),zp (kv.filter nz) (jU kv den),0)from rfl)
 have hD:-9000000000000000000<=den.tdiv (jU kv den)/\den.tdiv (jU kv den)<=9000000000000000000:=by
  have h1:=Int.natAbs_tdiv_le_natAbs den (jU kv den)
  omega
 have hcs:∀r,-9000000000000000000<=zb (kv.filter nz) r/\zb (kv.filter nz) r<=9000000000000000000:=by
  intro r
  rcases js0 (kv.filter nz) r with h|h
  ·rw[h];omega
  ·exact hc _ (List.mem_filter.1 h).1
 have hl1:(kv.filter nz).length<=1000:=Nat.le_trans (List.length_filter_le _ _) hn
 clear hc
 by_cases hs:den<0
 case' pos=>
  have HG:=ja (show jU kv den=-(gg:Int) by rw[HGV.o,if_pos hs])
  have HQ:=ja (show wrap64 (-den.tdiv (gg:Int))=den.tdiv (jU kv den) by
   rw[HG.o,Int.tdiv_neg]
   have h1:=Int.natAbs_tdiv_le_natAbs den (gg:Int)
   generalize den.tdiv (gg:Int)=x at *;unfold wrap64;omega)
  clear HGV
  go_wp2_with fail
  rw[HQ.o,<-HG.o]
 case' neg=>
  have HG:=ja (show jU kv den=(gg:Int) by rw[HGV.o,if_neg hs])
  have HQ:=ja (show den/(gg:Int)=den.tdiv (jU kv den) by
   rw[HG.o,Int.tdiv_eq_ediv_of_nonneg (by omega)])
  clear HGV
  go_wp2_with fail
  rw[HQ.o,<-HG.o]
 all_goals
  generalize jU kv den=G at *
  generalize den.tdiv G=D at *
  have HX5:=ja (jh.new w4 24 #[.int .i64 D,.slice none 0 0])
  have HR5:=ja (HR4.o.alloc (.cells #[.int .i64 D,.slice none 0 0] 24))
  have HM5:=ja (jt.alloc HM4.o (.cells #[.int .i64 D,.slice none 0 0] 24))
  have HW5:=ja (JO HW4.o (.cells #[.int .i64 D,.slice none 0 0] 24))
  have hz5:w4.heap.size<(w4.alloc (.cells #[.int .i64 D,.slice none 0 0] 24)).heap.size:=by simp
  generalize w4.alloc (.cells #[.int .i64 D,.slice none 0 0] 24)=w5 at *
  have HSK:=ja (jas9 b (kv.filter nz) w5 HM5.o (by omega))
  have hwb:w.heap.size<w4.heap.size:=by omega
  clear HR4 HM4 HW4
  generalize kv.filter nz=kv1 at *
  refine(jaf2 b w5).mono ?_
  rintro e w6 ⟨rfl,rfl⟩
  go_wp2_with fail
  refine HSK.o.mono ?_
  rintro e w6 ⟨A6,n6,c6,rfl,ho6,hb6⟩
  have hz6:=hb6.size
  simp only[World.size_alloc] at hz6
  have hn6:n6<=1000:=by have h1:=ho6.1;have h2:=(zT (kv1.map (·.1))).length_eq;simp at h1 h2;omega
  have HK6:=ja ho6
  have hko:=ja (λj (e:(Value.slice A6 n6 c6).ownBlock=some j)=>(ho6.lt j e).2)
  have hkn:(zG (kv1.map (·.1))).length=n6:=by have:=ho6.1;simpa using this
  have HX6:=ja ((HX5.o.alloc (.cells #[.map (some b)] 104)).below hb6 (by omega))
  have HR6:=ja ((HR5.o.alloc (.cells #[.map (some b)] 104)).below hb6 (by omega))
  have HM6:=ja (jt.below (jt.alloc HM5.o (.cells #[.map (some b)] 104)) hb6 (by omega))
  have HW6:=ja (zI (JO HW5.o (.cells #[.map (some b)] 104)) hb6 (by have:=HW5.o.size;omega))
  have HT:=ja (show zp kv1 G=(zG (kv1.map (·.1))).map λr=>((zb kv1 r).tdiv G,r)from rfl)
  clear ho6 hb6 HSK HX5 HR5 HM5 HW5
  generalize zG (kv1.map (·.1))=ks at *
  subst hkn
  obtain⟨i1,hi1,hy0,hy1,hy2⟩:=info_parts Tryz.infoTerm
  go_wp2
  go_loopw [31] (λi W=>∃(k:Nat) (v:Value),k<=ks.length/\i=.int .i64 k/\jh W w4.heap.size 24 #[.int .i64 D,v]/\W.ownsRow w6.heap.size 59 2 v k (jr ((zp kv1 G).take k)) /\
   jt W b (zM kv1)/\W.ownsRow (w5.heap.size+1) 3 1 (.slice A6 ks.length c6) ks.length (ks.map (Value.int .i64))/\jh W w.heap.size 24 #[.int .i64 0,.slice none 0 0]/\w.grownBy W (some b)/\w6.heap.size<=W.heap.size) (λi _=>ks.length-(intOf i).toNat)
  case atStart=>exact⟨0,.slice none 0 0,by omega,rfl,HX6.o,⟨rfl,.inl ⟨rfl,rfl⟩⟩,HM6.o,HK6.o,HR6.o,HW6.o,by omega⟩
  case round=>
   obtain⟨k,v,hk,rfl,HBX,HOW,HM,HKS,HRR,HFF,hzz⟩:=hrel
   have hol:=ja (λj=>HOW.lt j)
   have hHM:=ja HM;have hHB:=ja HBX;have hHO:=ja HOW;have hHK:=ja HKS;have hHR:=ja HRR;have hHF:=ja HFF
   clear HM HBX HOW HKS HRR HFF
   by_cases hlt:k<ks.length
   ·obtain⟨ad,rfl,hcell⟩:=qP.at_ (Rd.of_own hHK.o) hlt
    have HR:=ja (show ks[k]=ks[k] from rfl)
    have htk:=ja (show(zp kv1 G).take (k+1)=(zp kv1 G).take k++[((zb kv1 ks[k]).tdiv G,ks[k])] by
     rw[HT.o,jw _ k (by simpa using hlt)];simp)
    generalize ks[k]=r at *
    have hq:=hcs r
    have hq2:-9000000000000000000<=(zb kv1 r).tdiv G/\(zb kv1 r).tdiv G<=9000000000000000000:=by
     have h1:=Int.natAbs_tdiv_le_natAbs (zb kv1 r) G
     omega
    have hbx0:=hHB.o.cell 0
    have hbx1:=hHB.o.cell 1
    have hbf:=hHB.o.free 1
    simp at hbx0 hbx1
    have hlk:(Instr.lookup 104 (.map (some b)) (.int .i64 r) false).run Tryz.prog wr.drew=.ok (.int .i64 (zb kv1 r)) wr.drew:=by
     rw[<-qN kv1 r]
     exact qu (jt.drew hHM.o) Tryz.underlying104 Tryz.underlying3 (.int .i64 0) Tryz.zeroValue3 r
    go_wp2
    have HWR:=ja (show IntKind.i64.wrap ((zb kv1 r).tdiv G)=(zb kv1 r).tdiv G by generalize (zb kv1 r).tdiv G=x at *;rw[IntKind.wrap_i64];omega)
    have hnx:some w4.heap.size≠v.ownBlock:=λe=>by have:=(hHO.o.lt _ e.symm).1;omega
    have hne:some b≠v.ownBlock:=λe=>by have:=(hHO.o.lt _ e.symm).1;omega
    have hlt9:w4.heap.size<wr.heap.size:=hHB.o.lt
    have hal:∀o,(wr.alloc o).cell? ⟨w4.heap.size,1,none⟩=some v:=λo=>(hHB.o.alloc o).cell 1
    go_region_law (first
     | (refine step_append_lies _ rfl _ _ 22 rfl w6.heap.size 59 i1 (.agg #[.int .i64 0,.int .i64 0]) 2 16 Tryz.underlying22 hi1 hy0 hy1 hy2 rfl (by decide) v k _ rfl (World.ownsRow.alloc hHO.o _) ⟨wr.heap.size,0,none⟩ 1 1 [.int .i64 (IntKind.i64.wrap ((zb kv1 r).tdiv G)),.int .i64 r] rfl rfl (zx wr _ _ _) (by simp[Value.oneCell']) (by decide) (by unfold maxLen;omega) (by omega) (by simp;omega) _ rfl ?_;intro g cap w7 hown' hgrow hat hlt3;rw[HWR.o] at hown';have hx1:=(((hHB.o.alloc _).drew).grown hgrow (Ne.symm hnx)).cell 1;have hxf:=(((hHB.o.alloc _).drew).grown hgrow (Ne.symm hnx)).free 1;simp at hx1;have HO7:=ja hown';have HG7:=ja hgrow;clear hown' hgrow hat hlt3))
    all_goals
     go_wp2
     go_roundw
     case rel=>
      have hzr:wr.heap.size+1<=w7.heap.size:=by have:=HG7.o.size;simpa using this
      refine⟨k+1,_,by omega,by go_num,((((hHB.o.alloc _).drew).grown HG7.o (Ne.symm hnx)).set_ 1 _),?_,?_,?_,?_,?_,by simp;omega⟩
      ·rw[htk.o]
       have h1:jr ((zp kv1 G).take k++[((zb kv1 r).tdiv G,r)])=jr ((zp kv1 G).take k)++[.int .i64 ((zb kv1 r).tdiv G),.int .i64 r]:=Zz _ _
       rw[h1]
       exact ownsRow_setCell_below HO7.o (by show w4.heap.size<_;omega) _
      ·exact jt.setCell (jt.grown (jt.drew (jt.alloc hHM.o _)) HG7.o hne) _ _
      ·exact ownsRow_setCell_below (World.ownsRow.kept (World.ownsRow.drew (World.ownsRow.alloc hHK.o _)) HG7.o (by
        rcases hj:(Value.slice (some ad) ks.length c6).ownBlock with _|j
        ·exact .inl rfl
        ·exact .inr (λe=>by have h1:=hko.o j hj;have h2:=(hHO.o.lt j e.symm).1;omega))) (by show w4.heap.size<_;omega) _
      ·exact jh.far ((hHR.o.alloc _).drew.grown HG7.o (λe=>by have:=(hHO.o.lt _ e).1;omega)) (by simp;omega) _
      ·exact zy (JP (zg3 (JO hHF.o _)) HG7.o (λj e=>.inr (by have:=(hHO.o.lt j e).1;omega))) (by simp;omega) _
     case measure=>simp[intOf];omega
   ·obtain rfl:k=ks.length:=by omega
    obtain⟨A8,c8,rfl⟩:=jx hHO.o
    have hbx0:=hHB.o.cell 0
    have hbx1:=hHB.o.cell 1
    have hbf0:=hHB.o.free 0
    have hbf1:=hHB.o.free 1
    have hr0:=hHR.o.cell 0
    have hr1:=hHR.o.cell 1
    have hrf0:=hHR.o.free 0
    have hrf1:=hHR.o.free 1
    simp at hbx0 hbx1 hr0 hr1
    have hOX:Hid (wr.ownsRow w6.heap.size 59 2 (.slice A8 ks.length c8) ks.length (jr (zp kv1 G))):=ja (by
     have:=hHO.o
     rwa [List.take_of_length_le (by rw[HT.o];simp)] at this)
    have hX:Hid (ji wr wr.heap.size A8 ks.length c8 (zp kv1 G)):=ja (Rd.of_own hOX.o)
    have hXl:=hX.o.len
    have hDC:=ja (λW hW=>jr1 jr7 A8 ks.length c8 wr.heap.size 108 #[] (zp kv1 G) jW W hW)
    generalize zp kv1 G=X at *
    have hpost:∀(W:World) (a:Act) (A:Option Addr) (n c:Nat) (x y:Int) (l:List (Int×Int)),jY kv den=(x,l,y)->W.ownsRow w.heap.size 59 2 (.slice A n c) n (jr l)->w.grownBy W (some b)->jh W w.heap.size 24 #[.int .i64 x,.slice A n c] ->
      a.tmps.getD 4 undef=.pointer (some ⟨w.heap.size,0,none⟩)->a.tmps.getD 5 undef=.int .i64 y->a.defers=[] ->
      bodyPost Tryz.prog Tryz.f64 (λe w'=>∃(A:Option Addr) (n c:Nat),e=.returned (.tuple #[.agg #[.int .i64 (jY kv den).1,.slice A n c],.int .i64 (jY kv den).2.2]) /\
       w'.ownsRow w.heap.size 59 2 (.slice A n c) n (jr (jY kv den).2.1)/\w.grownBy w' (some b)) .ret a W:=by
     intro W a A n c x y l e1 e2 e3 e4 e5 e6 e7
     refine jq (p:=4) (u:=5) (ty:=24) rfl e5 e4 Tryz.underlying24 rfl Tryz.sizeNumber e7 ?_
     rw[e1,e6]
     exact⟨A,n,c,rfl,e2,e3⟩
    by_cases h4:4<ks.length
    ·have HOV:=ja (hOS.o.trans (if_pos (by omega)))
     clear hOS hDC
     go_wp2
     exact hpost _ _ none 0 0 0 8 [] HOV.o ⟨rfl,.inl ⟨rfl,rfl⟩⟩ (zy (zy hHF.o (Nat.le_refl _) _) (Nat.le_refl _) _) ((hHR.o.set_ 0 _).set_ 1 _) rfl rfl rfl
    ·have HOV:=ja (hOS.o.trans (if_neg (by omega)))
     clear hOS
     by_cases hD5:100000<D
     ·have HOV:=ja (HOV.o.trans (if_pos (by simp[hD5])))
      go_wp2
      exact hpost _ _ none 0 0 0 10 [] HOV.o ⟨rfl,.inl ⟨rfl,rfl⟩⟩ (zy (zy hHF.o (Nat.le_refl _) _) (Nat.le_refl _) _) ((hHR.o.set_ 0 _).set_ 1 _) rfl rfl rfl
     ·have HDD:=ja (hDC wr hX.o (Nat.le_refl _) (λargs w=>enters_of Tryz.func108 (by kernel_rfl) rfl args w) (λW x _ _=>by
       obtain⟨x1,x2⟩:=x
       exact jbp4 x1 x2 W))
      clear hDC
      have HOV:=ja (show jY kv den=if X.any jW=true then(0,[],10)else(D,X,0) by rw[HOV.o,show decide (100000<D)=false by simpa using hD5];rfl)
      have hdd:decide (100000<D)=false:=by simpa using hD5
      cases hany:X.any jW
      ·have HOV:=ja (HOV.o.trans (if_neg (by rw[hany];decide)))
       rw[hany] at HDD
       go_wp2_with (first
        | (go_at_call 61;refine HDD.o.mono ?_;rintro e w8 ⟨rfl,hb8⟩;obtain⟨bc1,bc2,bc3⟩:=jcm9 hb8 rfl;have hlx:=hHB.o.lt;have hlr:=hHR.o.lt;
           have hbx08:=(bc1 w4.heap.size 0 hlx).trans hbx0;have hbx18:=(bc1 w4.heap.size 1 hlx).trans hbx1;have hrf08:=(bc2 w.heap.size 0 hlr).trans hrf0;have hrf18:=(bc2 w.heap.size 1 hlr).trans hrf1;have hr08:=(bc1 w.heap.size 0 hlr).trans hr0;have hr18:=(bc1 w.heap.size 1 hlr).trans hr1;have HB8:=ja hb8;clear hb8 bc1 bc2))
       have hlr:=hHR.o.lt
       exact hpost _ _ A8 ks.length c8 D 0 X HOV.o (jO (ownsRow_setCell_below (ownsRow_setCell_below (jG hOX.o HB8.o) (by show w.heap.size<_;omega) _) (by show w.heap.size<_;omega) _) (by omega)) (zy (zy (zI hHF.o HB8.o (by omega)) (Nat.le_refl _) _) (Nat.le_refl _) _) (((hHR.o.below HB8.o hlr).set_ 0 _).set_ 1 _) rfl rfl rfl
      ·have HOV:=ja (HOV.o.trans (if_pos hany))
       rw[hany] at HDD
       go_wp2_with (first
        | (go_at_call 61;refine HDD.o.mono ?_;rintro e w8 ⟨rfl,hb8⟩;obtain⟨bc1,bc2,bc3⟩:=jcm9 hb8 rfl;have hlr:=hHR.o.lt;
           have hrf08:=(bc2 w.heap.size 0 hlr).trans hrf0;have hrf18:=(bc2 w.heap.size 1 hlr).trans hrf1;have hr08:=(bc1 w.heap.size 0 hlr).trans hr0;have hr18:=(bc1 w.heap.size 1 hlr).trans hr1;have HB8:=ja hb8;clear hb8 bc1 bc2))
       have hlr:=hHR.o.lt
       exact hpost _ _ none 0 0 0 10 [] HOV.o ⟨rfl,.inl ⟨rfl,rfl⟩⟩ (zy (zy (zI hHF.o HB8.o (by omega)) (Nat.le_refl _) _) (Nat.le_refl _) _) (((hHR.o.below HB8.o hlr).set_ 0 _).set_ 1 _) rfl rfl rfl
structure NumV where
 den:Int
 A:Option Addr
 n:Nat
 c:Nat
 ts:List (Int×Int)
def NumV.val(x:NumV):Value:=.agg #[.int .i64 x.den,.slice x.A x.n x.c]
def NumV.enc(x:NumV):Value×Value:=(.int .i64 x.den,.slice x.A x.n x.c)
def NumV.ok(x:NumV):Bool:=js x.den x.ts
def NumV.At(x:NumV)(w:World)(B:Nat):Prop:=ji w B x.A x.n x.c x.ts
theorem NumV.At.below{x:NumV}{w w':World}{B:Nat}(h:x.At w B)(hb:Below B w w'):x.At w' B:=ji.below h hb
theorem NumV.At.more{x:NumV}{w:World}{B B':Nat}(h:x.At w B)(hb:B<=B'):x.At w B':=ji.more h hb
theorem jbf1 (x:NumV) (B:Nat) (w:World) (hR:x.At w B) (hB:B<=w.heap.size) :
  Calls Tryz.prog 110 #[.agg #[.int .i64 x.den,.slice x.A x.n x.c]] w λe w'=>e=.returned (.bool (!x.ok))/\Below w.heap.size w w':=by
 obtain⟨den,A,n,c,ts⟩:=x
 have HC:=ja (jy3 den A n c B ts (w.alloc (.cells #[.int .i64 den,.slice A n c] 24)) (Rd.alloc hR hB _) (by simp;omega))
 have hOK:Hid (NumV.ok ⟨den,A,n,c,ts⟩=js den ts):=ja rfl
 clear hR
 generalize js den ts=r at *
 go_enter Tryz.func110,Tryz.ntmps110
 go_wp2_with (first
  | (go_at_call 49;refine HC.o.mono ?_;rintro e w1 ⟨rfl,hb⟩;have HB:=ja hb;clear hb))
 go_ret
 exact⟨by rw[hOK.o];cases r<;>rfl,((Below.refl _ _).alloc (Nat.le_refl _) _).trans (HB.o.mono (by simp))⟩
theorem jab2 (A:Option Addr) (n c B:Nat) (l:List NumV) (w:World) (hR:Rd w B 2 A n c (jB (l.map NumV.enc))) (hB:B<=w.heap.size) (hl:∀x∈l,x.At w B) :
  Calls Tryz.prog 68 #[.slice A n c] w λe w'=>e=.returned (.bool (l.all NumV.ok))/\Below w.heap.size w w':=by
 have H:=ja (jk5 NumV.enc A n c B 110 #[] l (λx=>!x.ok) w hR hB (λargs w=>enters_of Tryz.func110 (by kernel_rfl) rfl args w) (λW x hx hb=>
  jbf1 x B W ((hl x hx).below (hb.mono hB)) (by have:=hb.size;omega)))
 have HV:=ja (show(l.any λx=>!x.ok)=!l.all NumV.ok by rw[List.all_eq_not_any_not];simp)
 clear hR hl
 generalize (l.any λx=>!x.ok)=r at *
 generalize l.all NumV.ok=r2 at *
 go_enter Tryz.func68,Tryz.ntmps68
 go_wp2_with fail
 refine H.o.mono ?_
 rintro e w1 ⟨rfl,hb⟩
 have HB:=ja hb;clear hb
 go_wp2
 go_ret
 exact⟨by rw[HV.o];simp,HB.o⟩
theorem jbf0 (x:NumV) (B:Nat) (w:World) (hx:x.At w B) (hB:B<=w.heap.size) :
  Calls Tryz.prog 68 #[.slice (some ⟨w.heap.size,0,none⟩) 1 1] (w.alloc (.cells #[.int .i64 x.den,.slice x.A x.n x.c] 24)) λe w'=>e=.returned (.bool x.ok)/\Below w.heap.size w w':=by
 have h:=jab2 (some ⟨w.heap.size,0,none⟩) 1 1 (w.heap.size+1) [x] (w.alloc (.cells #[.int .i64 x.den,.slice x.A x.n x.c] 24))
  ⟨rfl,Nat.le_refl _,by unfold maxLen;omega,.inr ⟨_,rfl,by simp,zx w _ _ _⟩⟩ (by simp) (by
   intro y hy
   rw[List.mem_singleton] at hy
   subst hy
   exact(Rd.alloc hx hB _).more (by omega))
 refine h.mono ?_
 rintro e w1 ⟨rfl,hb⟩
 exact⟨by simp,((Below.refl _ _).alloc (Nat.le_refl _) _).trans (hb.mono (by simp))⟩
theorem jbk8(w:World)(a b c d:Value)(t:TypeId):∀j x,[a,b,c,d][j]?=some x->(w.alloc (.cells #[a,b,c,d] t)).cell? ((⟨w.heap.size,0,none⟩:Addr).add j)=some x:=by
 have h:=jh.new w t #[a,b,c,d]
 have h0:=h.cell 0
 have h1:=h.cell 1
 have h2:=h.cell 2
 have h3:=h.cell 3
 intro j x hj
 match j,hj with
 | 0,hj=>simp at hj;subst hj;exact h0
 | 1,hj=>simp at hj;subst hj;exact h1
 | 2,hj=>simp at hj;subst hj;exact h2
 | 3,hj=>simp at hj;subst hj;exact h3
theorem jbf2 (x y:NumV) (B:Nat) (w:World) (hx:x.At w B) (hy:y.At w B) (hB:B<=w.heap.size) :
  Calls Tryz.prog 68 #[.slice (some ⟨w.heap.size,0,none⟩) 2 2] (w.alloc (.cells #[.int .i64 x.den,.slice x.A x.n x.c,.int .i64 y.den,.slice y.A y.n y.c] 24)) λe w'=>e=.returned (.bool (x.ok&&y.ok))/\Below w.heap.size w w':=by
 have h:=jab2 (some ⟨w.heap.size,0,none⟩) 2 2 (w.heap.size+1) [x,y] (w.alloc (.cells #[.int .i64 x.den,.slice x.A x.n x.c,.int .i64 y.den,.slice y.A y.n y.c] 24))
  ⟨rfl,Nat.le_refl _,by unfold maxLen;omega,.inr ⟨_,rfl,by simp,jbk8 w _ _ _ _ _⟩⟩ (by simp) (by
   intro z hz
   simp only[List.mem_cons,List.not_mem_nil,or_false] at hz
   rcases hz with rfl|rfl
   ·exact(Rd.alloc hx hB _).more (by omega)
   ·exact(Rd.alloc hy hB _).more (by omega))
 refine h.mono ?_
 rintro e w1 ⟨rfl,hb⟩
 exact⟨by simp,((Below.refl _ _).alloc (Nat.le_refl _) _).trans (hb.mono (by simp))⟩
theorem zd7 (d:Int) (A:Option Addr) (n c:Nat) (ts:List (Int×Int)) (B:Nat) (w:World) (hx:ji w B A n c ts) (hB:B<=w.heap.size) :
  Calls Tryz.prog 68 #[.slice (some ⟨w.heap.size,0,none⟩) 1 1] (w.alloc (.cells #[.int .i64 d,.slice A n c] 24)) λe w'=>e=.returned (.bool (js d ts))/\Below w.heap.size w w':=
 jbf0 ⟨d,A,n,c,ts⟩ B w hx hB
theorem Qv (d:Int) (A:Option Addr) (n c:Nat) (ts:List (Int×Int)) (d2:Int) (A2:Option Addr) (n2 c2:Nat) (ts2:List (Int×Int)) (B:Nat) (w:World) (hx:ji w B A n c ts) (hy:ji w B A2 n2 c2 ts2) (hB:B<=w.heap.size) :
  Calls Tryz.prog 68 #[.slice (some ⟨w.heap.size,0,none⟩) 2 2] (w.alloc (.cells #[.int .i64 d,.slice A n c,.int .i64 d2,.slice A2 n2 c2] 24)) λe w'=>e=.returned (.bool (js d ts&&js d2 ts2))/\Below w.heap.size w w':=
 jbf2 ⟨d,A,n,c,ts⟩ ⟨d2,A2,n2,c2,ts2⟩ B w hx hy hB
theorem zy2:∀(kv:List (Int×Int)) (r c q:Int),zb (addS kv r c) q=zb kv q+if q=r then c else 0
 | [],r,c,q=>by simp[addS,zb]
 | (a,x)::t,r,c,q=>by
  by_cases h:r=a
  ·subst h
   by_cases hq:q=r
   ·subst hq;simp[addS,zb]
   ·simp[addS,zb,hq]
  ·have ih:=zy2 t r c q
   by_cases hq:q=a
   ·subst hq
    have:¬q=r:=λe=>h e.symm
    simp[addS,zb,h,this]
   ·simp[addS,zb,h,hq,ih]
theorem jd4:∀(kv:List (Int×Int)) (r c:Int),(addS kv r c).length<=kv.length+1
 | [],r,c=>by simp[addS]
 | (a,x)::t,r,c=>by
  by_cases h:r=a
  ·simp[addS,h]
  ·have:=jd4 t r c
   simp only[addS,if_neg h,List.length_cons];omega
def zB(kv:List (Int×Int))(M:Int):Prop:=∀r,-M<=zb kv r/\zb kv r<=M
theorem zB.nil:zB [] 0:=λr=>by simp[zb]
theorem zB.mono{kv:List (Int×Int)}{M N:Int}(h:zB kv M)(hm:M<=N):zB kv N:=λr=>by have:=h r;omega
theorem zB.addS{kv:List (Int×Int)}{M N:Int}(h:zB kv M){c:Int}(hc:-N<=c/\c<=N)(r:Int):zB (addS kv r c) (M+N):=λq=>by
 have:=h q
 rw[zy2]
 split<;>omega
theorem zB.addRoot{kv:List (Int×Int)}{M N:Int}(h:zB kv M){c r:Int}(hN:0<=N)(hc:-N<=c*((jo r.toNat).1:Int)/\c*((jo r.toNat).1:Int)<=N):zB (addRoot kv c r) (M+N):=by
 unfold Proofs.YtphcodcdfeohhaaGreatDoor.addRoot
 split
 ·exact h.addS hc _
 ·exact h.mono (by omega)
theorem jah6(kv:List (Int×Int))(c r:Int):(addRoot kv c r).length<=kv.length+1:=by
 unfold addRoot
 split
 ·exact jd4 _ _ _
 ·omega
theorem zr:∀ {kv:List (Int×Int)},(kv.map (·.1)).Nodup->∀p∈kv,zb kv p.1=p.2
 | (a,x)::t,hn,p,hp=>by
  simp only[List.map_cons,List.nodup_cons] at hn
  rcases List.mem_cons.1 hp with rfl|hp
  ·simp[zb]
  ·have h1:p.1≠a:=λe=>hn.1 (e▸List.mem_map_of_mem hp)
   simp only[zb,if_neg h1]
   exact zr hn.2 p hp
theorem zH.keys{w:World}{b:Nat}{kv:List (Int×Int)}(h:zH w b kv):(kv.map (·.1)).Nodup:=by
 have:=jt.nodup h
 rwa [zy1] at this
theorem QO (b:Nat) (kv:List (Int×Int)) (den M:Int) (w:World) (h:zH w b kv) (hn:kv.length<=1000) (hd:den≠0) (hd1:-9000000000000000000<=den/\den<=9000000000000000000)
  (hM:zB kv M) (hM1:M<=9000000000000000000) :
  Calls Tryz.prog 64 #[.map (some b),.int .i64 den] w λe w'=>∃(A:Option Addr) (n c:Nat),e=.returned (.tuple #[.agg #[.int .i64 (jY kv den).1,.slice A n c],.int .i64 (jY kv den).2.2]) /\
   w'.ownsRow w.heap.size 59 2 (.slice A n c) n (jr (jY kv den).2.1)/\w.grownBy w' (some b):=
 jcc5 b kv den w h hn hd hd1 λp hp=>by
  have h1:=zr h.keys p hp
  have h2:=hM p.1
  omega
def ju(kv:List (Int×Int))(l:List (Int×Int))(m:Int):List (Int×Int):=l.foldl (λkv t=>addRoot kv (t.1*m) t.2) kv
theorem jd2(kv:List (Int×Int))(l:List (Int×Int))(m:Int)(t:Int×Int):ju kv (l++[t]) m=addRoot (ju kv l m) (t.1*m) t.2:=by
 simp[ju,List.foldl_append]
theorem QZ:∀(l kv:List (Int×Int)) (m:Int),(ju kv l m).length<=kv.length+l.length
 | [],kv,m=>by simp[ju]
 | t::l,kv,m=>by
  have h1:=jah6 kv (t.1*m) t.2
  have h2:=QZ l (addRoot kv (t.1*m) t.2) m
  simp only[ju,List.foldl_cons,List.length_cons] at h2 ⊢
  omega
theorem qM {N m:Int} (hN:0<=N):∀(l kv:List (Int×Int)) (M:Int),zB kv M->(∀t∈l,-N<=t.1*m*((jo t.2.toNat).1:Int)/\t.1*m*((jo t.2.toNat).1:Int)<=N)->zB (ju kv l m) (M+l.length*N)
 | [],kv,M,h,_=>by simpa [ju] using h
 | t::l,kv,M,h,hl=>by
  have h1:=zB.addRoot h hN (hl t (by simp))
  have h2:=qM hN l _ _ h1 (λt ht=>hl t (List.mem_cons_of_mem _ ht))
  simp only[ju,List.foldl_cons,List.length_cons] at h2 ⊢
  refine h2.mono ?_
  rw[Int.natCast_add,Int.add_mul]
  simp
  omega
def jbv2(t:Int×Int):Prop:=1<=t.2/\t.2<=1000/\t.1≠0/\-100000<=t.1/\t.1<=100000
theorem ja0:∀ {ts:List (Int×Int)} {last:Int},0<=last->Qj last ts=true->∀t∈ts,jbv2 t/\(jo t.2.toNat).1<=1/\last<t.2
 | t0::ts,last,hl,h,t,ht=>by
  simp only[Qj,Bool.and_eq_true] at h
  obtain⟨h1,h2⟩:=h
  unfold okT at h1
  simp only[Bool.and_eq_true,decide_eq_true_eq] at h1
  obtain⟨⟨⟨⟨a1,a2⟩,a3⟩,a4⟩,a5⟩:=h1
  have a6:-100000<=t0.1/\t0.1<=100000:=by simpa [zz] using a4
  rcases List.mem_cons.1 ht with rfl|ht
  ·exact⟨⟨by omega,a2,a3,a6⟩,a5,a1⟩
  ·obtain⟨b1,b2,b3⟩:=ja0 (last:=t0.2) (by omega) h2 t ht
   exact⟨b1,b2,by omega⟩
theorem jz{den:Int}{ts:List (Int×Int)}(h:js den ts=true):1<=den/\den<=100000/\ts.length<=4/\∀t∈ts,jbv2 t/\(jo t.2.toNat).1<=1:=by
 unfold js at h
 simp only[Bool.and_eq_true,decide_eq_true_eq] at h
 obtain⟨⟨⟨h1,h2⟩,h3⟩,h4⟩:=h
 have h5:1<=den/\den<=100000:=by simpa [zz] using h1
 exact⟨h5.1,h5.2,h2,λt ht=>⟨(ja0 (by omega) h3 t ht).1,(ja0 (by omega) h3 t ht).2.1⟩⟩
theorem jm3(n:Nat)(hn:1<=n):1<=(jo n).1:=by
 have h:=JR n hn
 rcases Nat.eq_zero_or_pos (jo n).1 with h0|h0
 ·have h1:=h.1
  rw[h0] at h1
  simp at h1
  omega
 ·exact h0
theorem jE{a b A B:Int}(ha:-A<=a/\a<=A)(hb:-B<=b/\b<=B):-(A*B)<=a*b/\a*b<=A*B:=by
 have h1:a.natAbs<=A.toNat:=by omega
 have h2:b.natAbs<=B.toNat:=by omega
 have h3:(a*b).natAbs<=A.toNat*B.toNat:=by rw[Int.natAbs_mul];exact Nat.mul_le_mul h1 h2
 have h4:((A.toNat*B.toNat:Nat):Int)=A*B:=by
  rw[Int.natCast_mul,Int.toNat_of_nonneg (by omega),Int.toNat_of_nonneg (by omega)]
 omega
def jV(w:World)(s:Int×List (Int×Int)×Int)(e:Ending)(w':World):Prop:=
 ∃(A:Option Addr) (n c:Nat),e=.returned (.tuple #[.agg #[.int .i64 s.1,.slice A n c],.int .i64 s.2.2])/\w'.ownsRow w.heap.size 59 2 (.slice A n c) n (jr s.2.1)/\Below w.heap.size w w'
def jL(xd:Int)(xt:List (Int×Int))(yd:Int)(yt:List (Int×Int))(times:Int):Int×List (Int×Int)×Int:=
 if(js xd xt&&js yd yt)=true then jY (ju (ju [] xt yd) yt (times*xd)) (xd*yd)else(0,[],2)
theorem jk0 {t:Int×Int} {m N:Int} (h:jbv2 t) (h1:(jo t.2.toNat).1<=1) (hm:-N<=m/\m<=N) :
  -(100000*N)<=t.1*m/\t.1*m<=100000*N/\t.1*m*((jo t.2.toNat).1:Int)=t.1*m:=by
 have h2:=jm3 t.2.toNat (by have:=h.1;omega)
 have h3:(jo t.2.toNat).1=1:=by omega
 have h4:=jE (A:=100000) ⟨h.2.2.2.1,h.2.2.2.2⟩ hm
 refine⟨h4.1,h4.2,?_⟩
 rw[h3];simp
