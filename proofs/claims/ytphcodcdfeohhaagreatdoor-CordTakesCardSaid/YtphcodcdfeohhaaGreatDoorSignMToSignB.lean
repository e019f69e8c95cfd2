import Derived.Test.YtphcodcdfeohhaaGreatDoorLongJToLongM
import Derived.Test.YtphcodcdfeohhaaGreatDoorSurdGToSurdM
import Derived.Lib.SliceRun
set_option linter.unusedVariables false
set_option linter.unusedSimpArgs false
namespace Go.Proofs.YtphcodcdfeohhaaGreatDoor
set_option maxRecDepth 100000
set_option maxHeartbeats 4000000
def isq(v:Nat):Nat:=(zh2 (jf9 (jj9 (dig v) (dig v).length))).1
theorem jy4(v:Nat):jm1 v (isq v) (v-isq v*isq v):=by
 obtain⟨h1,h2⟩:=jaz5 v
 have h3:(zh2 (jf9 (jj9 (dig v) (dig v).length))).2=v-isq v*isq v:=by unfold isq;omega
 rw[h3] at h1 h2
 exact⟨h1,h2⟩
theorem jm1.le{v R T:Nat}(h:jm1 v R T):R*R<=v:=by have:=h.1;omega
theorem jm1.lt{v R T:Nat}(h:jm1 v R T):v<(R+1)*(R+1):=by
 have:=h.1;have:=h.2
 have e:(R+1)*(R+1)=R*R+2*R+1:=by rw[Nat.mul_add,Nat.add_mul];omega
 omega
theorem zm1{a b v:Nat}(h:a*a<=v)(h2:v<(b+1)*(b+1)):a<=b:=by
 rcases Nat.lt_or_ge b a with h3|h3
 ·have:=Nat.mul_self_le_mul_self (show b+1<=a from h3);omega
 ·exact h3
theorem jm1.eq{v R T:Nat}(h:jm1 v R T):R=isq v/\T=v-isq v*isq v:=by
 have h2:=jy4 v
 have e:R=isq v:=Nat.le_antisymm (zm1 h.le h2.lt) (zm1 h2.le h.lt)
 refine⟨e,?_⟩
 rw[<-e];have:=h.1;omega
theorem jav6{a v:Nat}(h:a*a<=v):a<=isq v:=zm1 h (jy4 v).lt
theorem zg9(v:Nat):isq v*isq v<=v:=(jy4 v).le
theorem jdc9{u v:Nat}(h:u<=v):isq u<=isq v:=jav6 (Nat.le_trans (zg9 u) h)
def isqU(v:Nat):Nat:=zy8 (isq v) (v-isq v*isq v)
theorem jdm4(v:Nat):isqU v<=isq v+1:=by unfold isqU zy8;split<;>omega
theorem jbt5(v:Nat):isq v<=isqU v:=by unfold isqU zy8;split<;>omega
theorem jbk9(v:Nat):v<=isqU v*isqU v:=by
 have h:=jy4 v
 unfold isqU zy8
 split
 ·have:=h.1;omega
 ·exact Nat.le_of_lt h.lt
theorem jbt4{h v:Nat}(hh:v<=h*h):isqU v<=h:=by
 have hs:=jy4 v
 unfold isqU zy8
 split
 ·exact zm1 (Nat.le_trans hs.le hh) (Nat.mul_self_lt_mul_self (Nat.lt_succ_self h))
 ·rcases Nat.lt_or_ge (isq v) h with h3|h3
  ·exact h3
  ·have:=Nat.mul_self_le_mul_self h3
   have:=hs.1;omega
theorem zs1(n:Nat):isq (n*n)=n:=Nat.le_antisymm (zm1 (zg9 (n*n)) (Nat.mul_self_lt_mul_self (Nat.lt_succ_self n))) (jav6 (Nat.le_refl _))
theorem jck8(n:Nat):isqU (n*n)=n:=by
 have h:=zs1 n
 unfold isqU
 rw[h,Nat.sub_self];rfl
theorem jah8(v s:Nat):isq v*s<=isq (v*(s*s)):=jav6 (by rw[Nat.mul_mul_mul_comm];exact Nat.mul_le_mul_right _ (zg9 v))
theorem jcc9(v s:Nat):isqU (v*(s*s))<=isqU v*s:=jbt4 (by rw[Nat.mul_mul_mul_comm];exact Nat.mul_le_mul_right _ (jbk9 v))
def jan1:Nat->Nat×Nat->Nat×Nat
 | 0,s=>s
 | j+1,s=>jbf4 (jan1 j s) 0
theorem jby6 {v R T:Nat} (h:jm1 v R T):∀j,jm1 (v*4 ^ j) (jan1 j (R,T)).1 (jan1 j (R,T)).2
 | 0=>by simpa [jan1] using h
 | j+1=>by
  have h1:=jbh3 (jby6 h j) (show 0<4 by omega)
  rw[Nat.pow_succ,<-Nat.mul_assoc,Nat.mul_comm _ 4]
  exact h1
def bits(k:Nat):Nat:=65536 ^ k
theorem zb8(k:Nat):0<bits k:=Nat.pow_pos (by omega)
theorem jcp4(k:Nat):bits (k+1)=bits k*65536:=Nat.pow_succ ..
theorem jac0(k j:Nat):bits (k+j)=bits k*bits j:=Nat.pow_add ..
theorem jcj9(k:Nat):bits k*bits k=4294967296 ^ k:=by unfold bits;rw[<-Nat.mul_pow]
def sqT(t:Int×Int):Nat:=t.1.natAbs*t.1.natAbs*t.2.toNat
def zf4(t:Int×Int)(k:Nat):Nat:=sqT t*(bits k*bits k)
theorem jak4(t:Int×Int):zf4 t 0=sqT t:=by simp[zf4,bits]
theorem jcz0(t:Int×Int)(k:Nat):zf4 t (k+1)=zf4 t k*4 ^ 16:=by
 unfold zf4
 rw[jcj9,jcj9,Nat.pow_succ,<-Nat.mul_assoc]
def jg3(t:Int×Int)(k:Nat):Nat:=isq (zf4 t k)
def jr4(t:Int×Int)(k:Nat):Nat:=isqU (zf4 t k)
def jh5(ts:List (Int×Int))(k:Nat):Nat:=(ts.map fun t=>if t.1<0 then 0 else jg3 t k).sum
def jn5(ts:List (Int×Int))(k:Nat):Nat:=(ts.map fun t=>if t.1<0 then 0 else jr4 t k).sum
def jh6(ts:List (Int×Int))(k:Nat):Nat:=(ts.map fun t=>if t.1<0 then jg3 t k else 0).sum
def jn6(ts:List (Int×Int))(k:Nat):Nat:=(ts.map fun t=>if t.1<0 then jr4 t k else 0).sum
def jb9(ts:List (Int×Int))(k:Nat):Int:=if jn6 ts k<jh5 ts k then 1 else if jn5 ts k<jh6 ts k then -1 else 0
def nzT(t:Int×Int):Bool:=!(t.1==0)
def jb3(ts:List (Int×Int))(s:Int):Prop:=(ts.filter nzT=[]/\s=0)\/(ts.filter nzT≠[]/\s≠0/\∃k,jb9 (ts.filter nzT) k=s)
theorem jas5(k j:Nat)(v:Nat):v*(bits (k+j)*bits (k+j))=v*(bits k*bits k)*(bits j*bits j):=by
 rw[jac0,Nat.mul_assoc v,Nat.mul_mul_mul_comm]
theorem jcm1(t:Int×Int)(k j:Nat):jg3 t k*bits j<=jg3 t (k+j):=by
 unfold jg3 zf4;rw[jas5];exact jah8 _ _
theorem jcn4(t:Int×Int)(k j:Nat):jr4 t (k+j)<=jr4 t k*bits j:=by
 unfold jr4 zf4;rw[jas5];exact jcc9 _ _
theorem zb3 {α:Type} (f g:α->Nat) (c:Nat):∀l:List α,(∀x∈l,f x*c<=g x)->(l.map f).sum*c<=(l.map g).sum
 | [],_=>by simp
 | x::l,h=>by
  have h1:=h x (by simp)
  have h2:=zb3 f g c l (fun y hy=>h y (List.mem_cons_of_mem _ hy))
  simp only[List.map_cons,List.sum_cons,Nat.add_mul]
  omega
theorem jv3 {α:Type} (f g:α->Nat) (c:Nat):∀l:List α,(∀x∈l,g x<=f x*c)->(l.map g).sum<=(l.map f).sum*c
 | [],_=>by simp
 | x::l,h=>by
  have h1:=h x (by simp)
  have h2:=jv3 f g c l (fun y hy=>h y (List.mem_cons_of_mem _ hy))
  simp only[List.map_cons,List.sum_cons,Nat.add_mul]
  omega
theorem jcj2(ts:List (Int×Int))(k j:Nat):jh5 ts k*bits j<=jh5 ts (k+j):=zb3 _ _ _ _ fun t _=>by
 split
 ·omega
 ·exact jcm1 t k j
theorem jcj5(ts:List (Int×Int))(k j:Nat):jh6 ts k*bits j<=jh6 ts (k+j):=zb3 _ _ _ _ fun t _=>by
 split
 ·exact jcm1 t k j
 ·omega
theorem jcj3(ts:List (Int×Int))(k j:Nat):jn5 ts (k+j)<=jn5 ts k*bits j:=jv3 _ _ _ _ fun t _=>by
 split
 ·omega
 ·exact jcn4 t k j
theorem jcj6(ts:List (Int×Int))(k j:Nat):jn6 ts (k+j)<=jn6 ts k*bits j:=jv3 _ _ _ _ fun t _=>by
 split
 ·exact jcn4 t k j
 ·omega
theorem jag7(ts:List (Int×Int))(k:Nat):jh5 ts k<=jn5 ts k:=by
 have:=jv3 (fun t:Int×Int=>if t.1<0 then 0 else jr4 t k) (fun t=>if t.1<0 then 0 else jg3 t k) 1 ts (fun t _=>by
  split
  ·omega
  ·have:=jbt5 (zf4 t k);unfold jg3 jr4;omega)
 unfold jh5 jn5;omega
theorem jbd5(ts:List (Int×Int))(k:Nat):jh6 ts k<=jn6 ts k:=by
 have:=jv3 (fun t:Int×Int=>if t.1<0 then jr4 t k else 0) (fun t=>if t.1<0 then jg3 t k else 0) 1 ts (fun t _=>by
  split
  ·have:=jbt5 (zf4 t k);unfold jg3 jr4;omega
  ·omega)
 unfold jh6 jn6;omega
theorem jbv9{a b c d p:Nat}(h:a<b)(hp:0<p)(h1:c<=a*p)(h2:b*p<=d):c<d:=by
 have:=Nat.mul_lt_mul_of_pos_right h hp
 omega
theorem jap2{ts:List (Int×Int)}{k:Nat}(h:jb9 ts k=1):jn6 ts k<jh5 ts k:=by
 unfold jb9 at h
 split at h
 ·assumption
 ·split at h<;>omega
theorem jap1{ts:List (Int×Int)}{k:Nat}(h:jb9 ts k=-1):jn5 ts k<jh6 ts k:=by
 unfold jb9 at h
 split at h
 ·omega
 ·split at h
  ·assumption
  ·omega
theorem jv5{ts:List (Int×Int)}{k:Nat}(h:jn6 ts k<jh5 ts k):jb9 ts k=1:=by unfold jb9;rw[if_pos h]
theorem jv4{ts:List (Int×Int)}{k:Nat}(h:jn5 ts k<jh6 ts k):jb9 ts k=-1:=by
 have h1:=jag7 ts k
 have h2:=jbd5 ts k
 unfold jb9;rw[if_neg (by omega),if_pos h]
theorem js3(ts:List (Int×Int))(k:Nat):jb9 ts k=1\/jb9 ts k=-1\/jb9 ts k=0:=by
 unfold jb9
 split
 ·exact .inl rfl
 ·split
  ·exact .inr (.inl rfl)
  ·exact .inr (.inr rfl)
theorem jag1{ts:List (Int×Int)}{k:Nat}(j:Nat)(h:jb9 ts k≠0):jb9 ts (k+j)=jb9 ts k:=by
 rcases js3 ts k with h1|h1|h1
 ·rw[h1];exact jv5 (jbv9 (jap2 h1) (zb8 j) (jcj6 ts k j) (jcj2 ts k j))
 ·rw[h1];exact jv4 (jbv9 (jap1 h1) (zb8 j) (jcj3 ts k j) (jcj5 ts k j))
 ·exact absurd h1 h
theorem jbn6{ts:List (Int×Int)}{k j:Nat}(h:jb9 ts k≠0)(h2:jb9 ts j≠0):jb9 ts k=jb9 ts j:=by
 rw[<-jag1 j h,<-jag1 k h2,Nat.add_comm]
theorem jb3.unique{ts:List (Int×Int)}{s s':Int}(h:jb3 ts s)(h':jb3 ts s'):s=s':=by
 rcases h with⟨h1,h2⟩|⟨h1,h2,k,h3⟩<;>rcases h' with⟨g1,g2⟩|⟨g1,g2,j,g3⟩
 ·rw[h2,g2]
 ·exact absurd h1 g1
 ·exact absurd g1 h1
 ·rw[<-h3,<-g3];exact jbn6 (by rw[h3];exact h2) (by rw[g3];exact g2)
theorem zt2{α:Type}(f:α->Nat)(l:List α)(x:α):((l++[x]).map f).sum=(l.map f).sum+f x:=by
 rw[List.map_append,List.sum_append];simp
open Go.RowKit
theorem jas9 (B:Nat) (A:Option Addr) (n c:Nat) (ts:List (Int×Int)) (w:World) (h:ja3 w B A n c ts) (hB:B<=w.heap.size) (hn:n<=1000000000) :
  Calls Tryz.prog 81 #[.slice A n c] w fun e w'=>∃(A':Option Addr) (c':Nat),e=.returned (.slice A' n c')/\w'.ownsRow w.heap.size 59 2 (.slice A' n c') n (ja9 ts)/\Below w.heap.size w w':=by
 have hl:=h.len
 subst hl
 obtain⟨i0,hi0,hz0,hz1,hz2⟩:=info_parts Tryz.infoTerm
 have q208:∀(w:World) (a:Option Addr) (n c n' c':Nat),(binOp .eql 22 (.slice a n c) (.slice none n' c')).run Tryz.prog w=.ok (.bool a.isNone) w:=fun w a n c n' c'=>Lib.run_eql_slice_nil w _ _ a n c n' c' Tryz.underlying22
 have hcl:=h.1
 rcases h.2.2.2 with⟨rfl,rfl⟩|⟨ad,rfl,hb,hc⟩
 ·have h0:ts.length=0:=by have:=h.2.1;omega
  have h1:ts=[]:=List.length_eq_zero_iff.1 h0
  subst h1
  clear h h0
  go_enter Tryz.func81,Tryz.ntmps81
  go_wp2
  go_ret
  exact⟨none,0,rfl,⟨rfl,.inl ⟨rfl,rfl⟩⟩,Below.refl _ _⟩
 ·have HO:=ja0 (World.ownsRow_lit (base:=w.heap.size) (e:=59) (size:=2) w #[] 0 (Nat.le_refl _) (by unfold maxLen;omega) rfl)
  have hnew:∀j u,(ja9 ts)[j]?=some u->(w.alloc (.cells #[] 59)).cell? (ad.add j)=some u:=fun j u hu=>(World.cell?_alloc_lt _ _ _ (by rw[jn2];omega)).trans (hc j u hu)
  have hnew:=ja0 hnew
  have hone:∀u∈ja9 ts,u.oneCell'=true:=by
   intro u hu
   unfold ja9 jb7 at hu
   simp only[List.mem_flatMap,List.mem_map] at hu
   obtain⟨p,⟨t,_,rfl⟩,hu⟩:=hu
   simp only[encT,List.mem_cons,List.not_mem_nil,or_false] at hu
   rcases hu with rfl|rfl<;>rfl
  have hone:=ja0 hone
  have HCL:=ja0 hcl
  clear h hc hcl
  go_enter Tryz.func81,Tryz.ntmps81
  go_wp2_with (first
   | (at_builtin;refine wpList_append_own _ rfl _ _ 22 rfl w.heap.size 59 i0 (.agg #[.int .i64 0,.int .i64 0]) 2 16 Tryz.underlying22 hi0 hz0 hz1 hz2 rfl (by decide) (.slice (some ⟨w.heap.size,0,none⟩) 0 0) 0 [] rfl HO.out ad ts.length c (ja9 ts) rfl HCL.out hnew.out hone.out (by unfold maxLen;omega) (by omega) (by simp) ?_;intro v' w3 ho3 hg3 _;obtain⟨A4,c4,rfl⟩:=jc1 ho3;have HO3:=ja0 ho3;have HG3:=ja0 hg3;clear ho3 hg3))
  go_ret
  have hO:=HO3.out
  simp only[Nat.zero_add,List.nil_append] at hO
  refine⟨A4,c4,?_,hO,(((Below.refl w.heap.size w).alloc (Nat.le_refl _) _).grown HG3.out (by simp) (by simp[Value.ownBlock]))⟩
  simp
theorem jbh1(t:Int×Int)(w:World):Calls Tryz.prog 112 #[.agg #[.int .i64 t.1,.int .i64 t.2]] w fun e w'=>e=.returned (.bool (t.1==0))/\Below w.heap.size w w':=by
 obtain⟨a,b⟩:=t
 dsimp only
 go_enter Tryz.func112,Tryz.ntmps112
 go_wp2
 all_goals go_ret
 all_goals exact⟨by simp[*],(Below.refl _ _).alloc (Nat.le_refl _) _⟩
def putT(w:World)(g i:Nat)(t:Int×Int):World:=(w.setCell ⟨g,i*2,none⟩ (.int .i64 t.1)).setCell ⟨g,i*2+1,none⟩ (.int .i64 t.2)
theorem jas8:∀(l:List (Value×Value)) (i:Nat) (p:Value×Value),i<l.length->((jb7 l).set (i*2) p.1).set (i*2+1) p.2=jb7 (l.set i p)
 | x::l,0,p,_=>rfl
 | x::l,i+1,p,h=>by
  have h1:=jas8 l i p (by simpa using h)
  have e:jb7 (x::l)=x.1::x.2::jb7 l:=rfl
  rw[e,show(i+1)*2=i*2+2 by omega]
  show x.1::x.2::((jb7 l).set (i*2) p.1).set (i*2+1) p.2=_
  rw[h1]
  rfl
theorem jcb5(ts:List (Int×Int))(i:Nat)(t:Int×Int)(h:i<ts.length):((ja9 ts).set (i*2) (.int .i64 t.1)).set (i*2+1) (.int .i64 t.2)=ja9 (ts.set i t):=by
 have h1:=jas8 (ts.map encT) i (encT t) (by simpa using h)
 rw[show(Value.int .i64 t.1)=(encT t).1 from rfl,show(Value.int .i64 t.2)=(encT t).2 from rfl]
 unfold ja9
 rw[h1,List.map_set]
theorem jdg4 {w:World} {base g n cap i:Nat} {ts:List (Int×Int)} (h:w.ownsRow base 59 2 (.slice (some ⟨g,0,none⟩) n cap) n (ja9 ts)) (hi:i<ts.length) (t:Int×Int) :
  (putT w g i t).ownsRow base 59 2 (.slice (some ⟨g,0,none⟩) n cap) n (ja9 (ts.set i t))/\w.grownBy (putT w g i t) (some g):=by
 have h1:=h.stored (i*2) (.int .i64 t.1)
 have h2:=h1.1.stored (i*2+1) (.int .i64 t.2)
 rw[jcb5 ts i t hi] at h2
 exact⟨h2.1,jp1 h1.2 h2.2 (fun j e=>.inl rfl)⟩
theorem jad9{base e size g n cap:Nat}:∀(vs:List Value) (o:Nat) (w:World) (xs:List Value),w.ownsRow base e size (.slice (some ⟨g,0,none⟩) n cap) n xs ->
  ∃xs',(w.setCells g o vs).ownsRow base e size (.slice (some ⟨g,0,none⟩) n cap) n xs'/\w.grownBy (w.setCells g o vs) (some g)/\xs'.take o=xs.take o
 | [],o,w,xs,h=>⟨xs,h,World.grownBy.refl _ _,rfl⟩
 | v::vs,o,w,xs,h=>by
  have h1:=h.stored o v
  obtain⟨xs',h2,h3,h4⟩:=jad9 vs (o+1) (w.setCell ⟨g,o,none⟩ v) (xs.set o v) h1.1
  refine⟨xs',h2,jp1 h1.2 h3 (fun j e=>.inl rfl),?_⟩
  have h5:=congrArg (List.take o) h4
  rw[List.take_take,List.take_take,Nat.min_eq_left (by omega)] at h5
  rw[h5,List.take_set_of_le (Nat.le_refl _)]
theorem jcf7 {w:World} {base g n cap i:Nat} {ts:List (Int×Int)} {xs:List Value} (h:w.ownsRow base 59 2 (.slice (some ⟨g,0,none⟩) n cap) n xs) (hx:xs.take (i*2)=ja9 ts) (hi:i<=n) :
  ja3 w w.heap.size (some ⟨g,0,none⟩) i cap ts:=by
 have hl:=(h.lt g rfl).2
 have h0:=Rd.of_own h
 have hcl:xs.length=n*2:=h.1
 refine⟨?_,by have:=h0.2.1;omega,h0.2.2.1,.inr ⟨_,rfl,hl,fun j u hj=>?_⟩⟩
 ·rw[<-hx,List.length_take,hcl];omega
 ·rw[<-hx,List.getElem?_take] at hj
  split at hj
  ·exact h.cells (g:=g) rfl j u hj
  ·cases hj
theorem jbc7(n:Nat):(Builtin.zeroCells (Value.agg #[.int .i64 0,.int .i64 0]).cells n).toList=List.replicate (n*2) (.int .i64 0):=by
 apply List.ext_getElem
 ·simp[Builtin.zeroCells,Value.cells]
 ·intro i h1 h2
  simp only[Builtin.zeroCells,Value.cells]
  have:i % 2=0\/i % 2=1:=by omega
  rcases this with h|h<;>simp[h]
theorem jap6 (w:World) (ty:TypeId) (b o n c:Nat) (hn:0<n) (hc:∀j,j<n*2->(w.cell? ⟨b,o+j,none⟩).isSome=true) (hf:∀j,j<n*2->w.frozen? ⟨b,o+j,none⟩=false) (hz:∀w,(zeroValue 59).run Tryz.prog w=.ok (.agg #[.int .i64 0,.int .i64 0]) w) :
  (Builtin.clear_ #[22] ty #[.slice (some ⟨b,o,none⟩) n c]).run Tryz.prog w=.ok (.tuple #[]) (w.setCells b o (List.replicate (n*2) (.int .i64 0))):=by
 have hzc:=jbc7 n
 have hst:=run_storeCells_cells (P:=Tryz.prog) b o (List.replicate (n*2) (.int .i64 0)) 0 w (by simpa using hc) (by simpa using hf) (by intro v hv';rw[List.eq_of_mem_replicate hv'];rfl)
 simp only[Nat.add_zero] at hst
 obtain⟨m,rfl⟩:∃m,n=m+1:=⟨n-1,by omega⟩
 simp[Builtin.clear_,run_underlying Tryz.underlying22,hz,hzc,hst]
def zm5(ts cur:List (Int×Int))(i j:Nat):Prop:=cur.length=ts.length/\i<j/\cur.take i=(ts.take j).filter nzT/\cur.drop j=ts.drop j
theorem zm5.start{ts:List (Int×Int)}{i:Nat}(hi:i<ts.length)(h0:nzT ts[i]=false)(hn:∀j (hj:j<i),nzT (ts[j]'(by omega))=true):zm5 ts ts i (i+1):=by
 refine⟨rfl,by omega,?_,rfl⟩
 rw[jc7 ts i hi,List.filter_append,List.filter_cons,h0]
 simp only[Bool.false_eq_true,if_false,List.filter_nil,List.append_nil]
 refine(List.filter_eq_self.2 fun x hx=>?_).symm
 obtain⟨j,hj,rfl⟩:=List.mem_iff_getElem.1 hx
 simp only[List.length_take] at hj
 rw[List.getElem_take]
 exact hn j (by omega)
theorem zm5.at_{ts cur:List (Int×Int)}{i j:Nat}(h:zm5 ts cur i j)(hj:j<ts.length):cur[j]'(by rw[h.1];exact hj)=ts[j]:=by
 have h1:=congrArg (fun l=>l[0]?) h.2.2.2
 simp only[List.getElem?_drop,Nat.add_zero] at h1
 rw[List.getElem?_eq_getElem hj,List.getElem?_eq_getElem (by rw[h.1];exact hj)] at h1
 exact Option.some.inj h1
theorem zm5.keep{ts cur:List (Int×Int)}{i j:Nat}(h:zm5 ts cur i j)(hj:j<ts.length)(h0:nzT ts[j]=true):zm5 ts (cur.set i ts[j]) (i+1) (j+1):=by
 obtain⟨h1,h2,h3,h4⟩:=h
 have hi:i<cur.length:=by omega
 refine⟨by simpa using h1,by omega,?_,?_⟩
 ·rw[jc7 ts j hj,List.filter_append,List.filter_cons,h0,<-h3,jc7 (cur.set i ts[j]) i (by simpa using hi),List.take_set_of_le (Nat.le_refl _)]
  simp
 ·have h5:=congrArg (List.drop 1) h4
  rw[List.drop_drop,List.drop_drop] at h5
  rw[List.drop_set_of_lt (by omega)]
  exact h5
theorem zm5.skip{ts cur:List (Int×Int)}{i j:Nat}(h:zm5 ts cur i j)(hj:j<ts.length)(h0:nzT ts[j]=false):zm5 ts cur i (j+1):=by
 obtain⟨h1,h2,h3,h4⟩:=h
 refine⟨h1,by omega,?_,?_⟩
 ·rw[jc7 ts j hj,List.filter_append,List.filter_cons,h0,h3];simp
 ·have h5:=congrArg (List.drop 1) h4
  rw[List.drop_drop,List.drop_drop] at h5
  exact h5
theorem jbp9(ts:List (Int×Int))(i:Nat):(ja9 ts).take (i*2)=ja9 (ts.take i):=by
 unfold ja9 jb7
 induction ts generalizing i with
 | nil=>simp
 | cons t ts ih=>
  cases i with
  | zero=>simp
  | succ i=>
   have:=ih i
   simp only[List.map_cons,List.flatMap_cons,List.take_succ_cons,show(i+1)*2=i*2+1+1 by omega,List.cons_append,List.nil_append,this]
theorem jcc8{α:Type}(l:List α)(p:α->Bool):(zr6 l p=-1/\∀x∈l,p x=false)\/∃k,∃h:k<l.length,zr6 l p=(k:Int)/\p l[k]=true/\∀j (hj:j<k),p (l[j]'(by omega))=false:=by
 unfold zr6
 cases h:l.findIdx? p with
 | none=>exact .inl ⟨rfl,by rw[List.findIdx?_eq_none_iff] at h;exact h⟩
 | some k=>
  obtain⟨hk,hp,hj⟩:=List.findIdx?_eq_some_iff_getElem.1 h
  exact .inr ⟨k,hk,rfl,hp,fun j h=>by simpa using hj j h⟩
theorem add0(g j:Nat):(⟨g,0,none⟩:Addr).add j=⟨g,j,none⟩:=by unfold Addr.add;split<;>simp_all
theorem zc6 {w:World} {base g n cap:Nat} {ts:List (Int×Int)} (h:w.ownsRow base 59 2 (.slice (some ⟨g,0,none⟩) n cap) n (ja9 ts)) {j:Nat} (hj:j<ts.length) :
  w.cell? ⟨g,j*2,none⟩=some (.int .i64 ts[j].1)/\w.cell? ⟨g,j*2+1,none⟩=some (.int .i64 ts[j].2)/\w.frozen? ⟨g,j*2,none⟩=false/\w.frozen? ⟨g,j*2+1,none⟩=false:=by
 have hT:ja3 w w.heap.size (some ⟨g,0,none⟩) n cap ts:=Rd.of_own h
 obtain⟨ad,had,hc0,hc1⟩:=hT.at_ hj
 injection had with had
 subst had
 rw[add0] at hc0 hc1
 exact⟨hc0,hc1,h.frozenAt _,h.frozenAt _⟩
theorem jbr6 (A:Option Addr) (n c base:Nat) (ts:List (Int×Int)) (w:World) (h:w.ownsRow base 59 2 (.slice A n c) n (ja9 ts)) (hz:∀w,(zeroValue 59).run Tryz.prog w=.ok (.agg #[.int .i64 0,.int .i64 0]) w) :
  Calls Tryz.prog 111 #[.slice A n c,.func (.func 112) #[] #[]] w fun e w'=>∃n',e=.returned (.slice A n' c)/\n'<=n/\ja3 w' w'.heap.size A n' c (ts.filter nzT)/\w.grownBy w' (Value.slice A n c).ownBlock:=by
 have hR:ja3 w w.heap.size A n c ts:=Rd.of_own h
 have hl:=hR.len
 have hmx:=hR.nmax
 have hca:=hR.2.1
 have hcm:=hR.2.2.1
 unfold maxLen at hcm
 subst hl
 have HI:=ja0 (zr7 encT A ts.length c w.heap.size 112 #[] ts (fun t=>t.1==0) w hR (Nat.le_refl _) (fun args w=>by rfl) (fun W x _ _=>jbh1 x W))
 have HO:=ja0 h
 have HR:=ja0 hR
 clear h hR
 rcases jcc8 ts (fun t=>t.1==0)with⟨e1,hall⟩|⟨k,hk,e1,hk0,hnk⟩
 ·have HF:=ja0 (show ts.filter nzT=ts from List.filter_eq_self.2 (fun x hx=>by unfold nzT;rw[hall x hx];rfl))
  rw[e1] at HI
  clear e1 hall
  go_enter Tryz.func111,Tryz.ntmps111
  go_wp2_with (first
   | (go_at_call 101;refine HI.out.mono ?_;rintro e w1 ⟨rfl,hb⟩;have HB:=ja0 hb;clear hb))
  go_ret
  refine⟨ts.length,rfl,Nat.le_refl _,?_,jf0 HB.out _⟩
  rw[HF.out]
  exact(HR.out.below HB.out).more HB.out.size
 ·have hst:=ja0 (zm5.start hk (by unfold nzT;rw[hk0];rfl) (fun j hj=>by unfold nzT;rw[hnk j hj];rfl))
  rw[e1] at HI
  clear e1 hk0 hnk
  obtain⟨g,hg,hg1,hg2⟩:=jay6 HO.out (by omega)
  subst hg
  have hne1:((k:Int)==-1)=false:=beq_eq_false_iff_ne.2 (by omega)
  go_enter Tryz.func111,Tryz.ntmps111
  go_wp2_with (first
   | (go_at_call 101;refine HI.out.mono ?_;rintro e w1 ⟨rfl,hb⟩;have HB:=ja0 hb;clear hb))
  go_loopw [5,6] (fun s5 s6 W=>∃(i j:Nat) (cur:List (Int×Int)),s5=.int .i64 i/\s6=.int .i64 j/\j<=ts.length/\zm5 ts cur i j/\W.ownsRow base 59 2 (.slice (some ⟨g,0,none⟩) ts.length c) ts.length (ja9 cur)/\w.grownBy W (some g)) (fun _ s6 _=>ts.length-(intOf s6).toNat)
  case atStart=>
   exact⟨k,k+1,ts,rfl,by go_num,by omega,hst.out,HO.out.kept (jf0 HB.out none) (.inr (by simp[Value.ownBlock])),jf0 HB.out _⟩
  case round=>
   obtain⟨i,j,cur,rfl,rfl,hj,hke,ho,hgr⟩:=hrel
   have hij:=hke.2.1
   have hcl:=hke.1
   have HK:=ja0 hke;have HOW:=ja0 ho;have HG:=ja0 hgr
   have hTm:ja3 wr wr.heap.size (some ⟨g,0,none⟩) ts.length c cur:=Rd.of_own ho
   clear hke ho hgr
   by_cases hlt:j<ts.length
   ·have hnz:=ja0 (fun h=>HK.out.keep hlt h)
    have hzz:=ja0 (fun h=>HK.out.skip hlt h)
    have hat:=HK.out.at_ hlt
    have hl1:∀o,(wr.alloc o).heap.size=wr.heap.size+1:=fun o=>by simp
    have hgl:=HG.out.size
    obtain⟨hc0,hc1,_,_⟩:=zc6 HOW.out (j:=j) (by omega)
    obtain⟨di0,di1,df0,df1⟩:=zc6 HOW.out (j:=i) (by omega)
    rw[hat] at hc0 hc1
    generalize cur[i].1=x0 at *
    generalize cur[i].2=x1 at *
    clear hTm hat
    have HS:=ja0 (fun W=>jbh1 ts[j] W)
    generalize ts[j]=t at *
    obtain⟨co,ro⟩:=t
    dsimp only at hc0 hc1 HS
    by_cases hco:co=0
    ·subst hco
     rw[show((0:Int)==0)=true from rfl] at HS
     have hz1:=hzz.out rfl
     have hz1:=ja0 hz1
     clear hnz hzz
     go_wp2_with (first
      | (go_at_call 112;refine(HS.out _).mono ?_;rintro e w3 ⟨rfl,hb3⟩;have HB3:=ja0 hb3;clear hb3))
     go_roundw
     case rel=>exact⟨i,j+1,cur,rfl,by go_num,by omega,hz1.out,(HOW.out.alloc _).kept (jf0 HB3.out none) (.inr (by simp[Value.ownBlock])),jh3 (jp0 HG.out _) HB3.out (by simp;omega)⟩
     case measure=>simp[intOf];omega
    ·have hb0:(co==0)=false:=by simpa using hco
     rw[hb0] at HS
     have hz1:=hnz.out (by unfold nzT;simpa using hco)
     have hz1:=ja0 hz1
     clear hnz hzz
     have HBK:=ja0 (Blk.new wr 59 #[.int .i64 co,.int .i64 ro])
     go_wp2_with (first
      | (go_at_call 112;refine(HS.out _).mono ?_;rintro e w3 ⟨rfl,hb3⟩
         have HBK3:=ja0 (HBK.out.below hb3 (by simp))
         obtain⟨v1,v2,v3,v4⟩:=HBK3.out.two
         have HOW3:=ja0 (World.ownsRow.kept (HOW.out.alloc (.cells #[.int .i64 co,.int .i64 ro] 59)) (jf0 hb3 none) (.inr (by simp[Value.ownBlock])))
         obtain⟨i1,i2,i3,i4⟩:=zc6 HOW3.out (j:=i) (by omega)
         generalize cur[i].1=y0 at *
         generalize cur[i].2=y1 at *
         have HG3:=ja0 (jh3 (jp0 HG.out (.cells #[.int .i64 co,.int .i64 ro] 59)) hb3 (by simp;omega))
         clear hb3))
     have hpt:=jdg4 HOW3.out (i:=i) (by omega) (co,ro)
     go_roundw
     case rel=>exact⟨i+1,j+1,cur.set i (co,ro),by go_num,by go_num,by omega,hz1.out,hpt.1,jp1 HG3.out hpt.2 (fun _ _=>.inl rfl)⟩
     case measure=>simp[intOf];omega
   ·obtain rfl:j=ts.length:=by omega
    obtain⟨xs,hx1,hx2,hx3⟩:=jad9 (List.replicate ((ts.length-i)*2) (.int .i64 0)) (i*2) wr _ HOW.out
    have hcl:∀ty,(Builtin.clear_ #[22] ty #[.slice (some ⟨g,i*2,none⟩) (ts.length-i) (c-i)]).run Tryz.prog wr=.ok (.tuple #[]) (wr.setCells g (i*2) (List.replicate ((ts.length-i)*2) (.int .i64 0))):=
     fun ty=>jap6 wr ty g (i*2) (ts.length-i) (c-i) (by omega) (fun q hq=>by
      have h1:=HOW.out.cellAt (i*2+q) (by omega)
      rw[h1,List.getElem?_eq_getElem (by have:=HOW.out.1;omega)];rfl) (fun q _=>HOW.out.frozenAt _) hz
    rw[jbp9] at hx3
    have hk2:=HK.out.2.2.1
    rw[hk2,List.take_length] at hx3
    have HX1:=ja0 hx1;have HX2:=ja0 hx2;have HX3:=ja0 hx3
    clear hx1 hx2 hx3 hTm hk2
    generalize wr.setCells g (i*2) (List.replicate ((ts.length-i)*2) (.int .i64 0))=wz at *
    go_wp2
    go_ret
    exact⟨i,rfl,by omega,jcf7 HX1.out HX3.out (by omega),jp1 HG.out HX2.out (fun _ _=>.inl rfl)⟩
def zc8(t:Int×Int)(k:Nat):Nat:=zf4 t k-jg3 t k*jg3 t k
theorem jdm9(t:Int×Int)(k:Nat):jm1 (zf4 t k) (jg3 t k) (zc8 t k):=jy4 _
theorem jcd7{t:Int×Int}{R T:Nat}(h:jm1 (t.1.natAbs*t.1.natAbs*t.2.toNat) R T):R=jg3 t 0/\T=zc8 t 0:=by
 have h1:jm1 (zf4 t 0) R T:=by rw[jak4];exact h
 exact h1.eq
theorem jcs8(t:Int×Int)(k:Nat):(jan1 16 (jg3 t k,zc8 t k)).1=jg3 t (k+1)/\(jan1 16 (jg3 t k,zc8 t k)).2=zc8 t (k+1):=by
 have h:=jby6 (jdm9 t k) 16
 rw[<-jcz0] at h
 exact h.eq
def jd3(W:World)(F:Nat)(fs:List (Int×Int))(rr lv:Int->Nat):Prop:=∀t∈fs,jd4 W F (rr t.2) (jg3 t (lv t.2)) (zc8 t (lv t.2)) (96+16*lv t.2)
def zh0(fs:List (Int×Int))(rr:Int->Nat):List (Int×Value):=fs.map fun t=>(t.2,.pointer (some ⟨rr t.2,0,none⟩))
def jab7(F:Nat)(fs:List (Int×Int))(rr:Int->Nat):Prop:=(∀t∈fs,F<=rr t.2)/\∀t∈fs,∀u∈fs,t.2≠u.2->rr t.2≠rr u.2
section
variable {W W' : World} {F L : Nat} {fs : List (Int × Int)} {rr lv : Int → Nat}
theorem jd3.below(h:jd3 W F fs rr lv)(hb:Below W.heap.size W W'):jd3 W' F fs rr lv:=fun t ht=>(h t ht).below hb
theorem jd3.drewN(h:jd3 W F fs rr lv)(q:Nat):jd3 (W.drewN q) F fs rr lv:=h
theorem jd3.row(h:jd3 W F fs rr lv){row:Option Nat}(hg:W.grownBy W' row)(hr:∀b,row=some b->b<F)(ha:∀t∈fs,F<=rr t.2):jd3 W' F fs rr lv:=fun t ht=>
 (h t ht).row hg (fun b e=>⟨by have:=hr b e;have:=ha t ht;omega,hr b e⟩)
theorem jd3.set_(h:jd3 W F fs rr lv){b:Nat}{ty:TypeId}{cb:Array Value}(hb:Blk W b ty cb)(hne:158≠ty)(hne2:154≠ty)(hg:W.grownBy W' (some b)):jd3 W' F fs rr lv:=fun t ht=>by
 refine(h t ht).grown hb hne ?_ hg
 obtain⟨A,n,c,A2,n2,c2,h1,_⟩:=h t ht
 intro e
 rw[e] at h1
 unfold Blk at h1 hb
 rw[hb] at h1
 injection h1 with h1
 injection h1 with _ h1
 exact hne2 h1.symm
theorem jbf2(fs:List (Int×Int))(rr:Int->Nat):(zh0 fs rr).map (·.1)=fs.map (·.2):=by simp[zh0,Function.comp_def]
theorem jcc7{z:Value}:∀ {fs:List (Int×Int)} {t:Int×Int},t∈fs->jav1 (zh0 fs rr) t.2 z=.pointer (some ⟨rr t.2,0,none⟩):=by
 intro fs t ht
 unfold jav1
 have h1:∀(fs:List (Int×Int)) (i:Nat),t∈fs->(jn7 (zh0 fs rr) t.2 i).map (·.2)=some (.pointer (some ⟨rr t.2,0,none⟩)):=by
  intro fs
  induction fs with
  | nil=>intro i h;cases h
  | cons u fs ih=>
   intro i h
   show(if t.2=u.2 then _ else _:Option _).map _=_
   by_cases hu:t.2=u.2
   ·rw[if_pos hu,hu];rfl
   ·rw[if_neg hu]
    rcases List.mem_cons.1 h with rfl|h
    ·exact absurd rfl hu
    ·exact ih (i+1) h
 rw[h1 fs 0 ht];rfl
def upd(rr:Int->Nat)(n:Int)(r:Nat):Int->Nat:=fun m=>if m=n then r else rr m
theorem zt5(rr:Int->Nat)(n:Int)(r:Nat):upd rr n r n=r:=if_pos rfl
theorem jab4(rr:Int->Nat){n m:Int}(r:Nat)(h:m≠n):upd rr n r m=rr m:=if_neg h
theorem jct1{fs:List (Int×Int)}{t:Int×Int}(r:Nat)(hn:t.2∉fs.map (·.2)):zp0 (zh0 fs rr) t.2 (.pointer (some ⟨r,0,none⟩))=zh0 (fs++[t]) (upd rr t.2 r):=by
 rw[jbh6 _ _ _ (by rw[jbf2];exact hn)]
 unfold zh0
 rw[List.map_append,List.map_cons,List.map_nil,zt5]
 congr 1
 apply List.map_congr_left
 intro u hu
 have:u.2≠t.2:=fun e=>hn (List.mem_map.2 ⟨u,hu,e⟩)
 rw[jab4 _ _ this]
theorem jd3.snoc{t:Int×Int}{r:Nat}(h:jd3 W F fs rr lv)(hr:jd4 W F r (jg3 t (lv t.2)) (zc8 t (lv t.2)) (96+16*lv t.2))(hn:t.2∉fs.map (·.2)):jd3 W F (fs++[t]) (upd rr t.2 r) lv:=by
 intro u hu
 rcases List.mem_append.1 hu with hu|hu
 ·have:u.2≠t.2:=fun e=>hn (List.mem_map.2 ⟨u,hu,e⟩)
  rw[jab4 _ _ this]
  exact h u hu
 ·rw[List.mem_singleton] at hu
  subst hu
  rw[zt5]
  exact hr
theorem jab7.snoc{t:Int×Int}{r:Nat}(h:jab7 F fs rr)(hF:F<=r)(hn:t.2∉fs.map (·.2))(hr:∀u∈fs,rr u.2≠r):jab7 F (fs++[t]) (upd rr t.2 r):=by
 have hk:∀u∈fs,u.2≠t.2:=fun u hu e=>hn (List.mem_map.2 ⟨u,hu,e⟩)
 refine⟨fun u hu=>?_,fun u hu v hv hne=>?_⟩
 ·rcases List.mem_append.1 hu with hu|hu
  ·rw[jab4 _ _ (hk u hu)];exact h.1 u hu
  ·rw[List.mem_singleton] at hu;subst hu;rw[zt5];exact hF
 ·rcases List.mem_append.1 hu with hu'|hu'<;>rcases List.mem_append.1 hv with hv'|hv'
  ·rw[jab4 _ _ (hk u hu'),jab4 _ _ (hk v hv')];exact h.2 u hu' v hv' hne
  ·rw[List.mem_singleton] at hv'
   rw[hv',jab4 _ _ (hk u hu'),zt5];exact hr u hu'
  ·rw[List.mem_singleton] at hu'
   rw[hu',jab4 _ _ (hk v hv'),zt5];exact fun e=>hr v hv' e.symm
  ·rw[List.mem_singleton] at hu' hv';rw[hu',hv'] at hne;exact absurd rfl hne
end
def jk3(W:World)(b x y L:Nat):Prop:=∃(A:Option Addr) (n c:Nat) (A2:Option Addr) (n2 c2:Nat),Blk W b 150 #[.slice A n c,.slice A2 n2 c2]/\LW W A n c x/\LW W A2 n2 c2 y/\n<=L/\n2<=L
section
variable {W W' : World} {b x y L : Nat}
theorem jk3.lt(h:jk3 W b x y L):b<W.heap.size:=by obtain⟨_,_,_,_,_,_,h1,_⟩:=h;exact h1.lt
theorem jk3.below(h:jk3 W b x y L)(hb:Below W.heap.size W W'):jk3 W' b x y L:=by
 obtain⟨A,n,c,A2,n2,c2,h1,h2,h3,h4⟩:=h
 exact⟨A,n,c,A2,n2,c2,h1.below hb h1.lt,h2.below hb,h3.below hb,h4⟩
theorem jk3.grown(h:jk3 W b x y L){b2:Nat}{t:TypeId}{cb:Array Value}(hb:Blk W b2 t cb)(hne:158≠t)(hbb:b≠b2)(hg:W.grownBy W' (some b2)):jk3 W' b x y L:=by
 obtain⟨A,n,c,A2,n2,c2,h1,h2,h3,h4⟩:=h
 exact⟨A,n,c,A2,n2,c2,h1.grown hg (fun e=>hbb (by injection e with e;exact e.symm)),h2.grownB hb hne hg,h3.grownB hb hne hg,h4⟩
theorem jk3.more{L':Nat}(h:jk3 W b x y L)(hL:L<=L'):jk3 W b x y L':=by
 obtain⟨A,n,c,A2,n2,c2,h1,h2,h3,h4,h5⟩:=h
 exact⟨A,n,c,A2,n2,c2,h1,h2,h3,by omega,by omega⟩
theorem jk3.set_ {u v:Value} {A A2:Option Addr} {n c n2 c2:Nat} (hb:Blk W b 150 #[u,v]) (hx:LW W A n c x) (hy:LW W A2 n2 c2 y) (hn:n<=L) (hn2:n2<=L) :
  jk3 ((W.setCell ⟨b,0,none⟩ (.slice A n c)).setCell ⟨b,1,none⟩ (.slice A2 n2 c2)) b x y L:=by
 have h1:=hb.set_ 0 (.slice A n c)
 exact⟨A,n,c,A2,n2,c2,h1.set_ 1 _,(hx.setCell (p:=⟨b,0,none⟩) hb (by decide) _).setCell (p:=⟨b,1,none⟩) h1 (by decide) _,(hy.setCell (p:=⟨b,0,none⟩) hb (by decide) _).setCell (p:=⟨b,1,none⟩) h1 (by decide) _,hn,hn2⟩
theorem jk3.set_' {u v:Value} {A A2:Option Addr} {n c n2 c2:Nat} (hb:Blk W b 150 #[u,v]) (hx:LW W A n c x) (hy:LW W A2 n2 c2 y) (hn:n<=L) (hn2:n2<=L) :
  jk3 ((W.setCell ⟨b,1,none⟩ (.slice A2 n2 c2)).setCell ⟨b,0,none⟩ (.slice A n c)) b x y L:=by
 have h1:=hb.set_ 1 (.slice A2 n2 c2)
 exact⟨A,n,c,A2,n2,c2,h1.set_ 0 _,(hx.setCell (p:=⟨b,1,none⟩) hb (by decide) _).setCell (p:=⟨b,0,none⟩) h1 (by decide) _,(hy.setCell (p:=⟨b,1,none⟩) hb (by decide) _).setCell (p:=⟨b,0,none⟩) h1 (by decide) _,hn,hn2⟩
theorem jk3.new(W:World):jk3 (W.alloc (.cells #[.slice none 0 0,.slice none 0 0] 150)) W.heap.size 0 0 0:=
 ⟨none,0,0,none,0,0,Blk.new _ _ _,LW.nil_ _,LW.nil_ _,Nat.le_refl _,Nat.le_refl _⟩
end
theorem jcs6{w:World}{r b:Nat}{kv left:List (Int×Value)}{cur:Option (Int×Value)}(h:jh7 w r b kv left cur):(left.map (·.1)).Sublist (kv.map (·.1)):=by
 obtain⟨es,clk,since,seen,last,hrb,hb,hkv,hnd,hbn,hbl,h1,h2,hr,hl,hc⟩:=h
 have hs:((es.toList.filter (jj8 seen)).map (fun e=>(e.key,e.val))).Sublist (es.toList.map (fun e=>(e.key,e.val))):=List.Sublist.map _ List.filter_sublist
 rw[show(es.toList.filter (jj8 seen)).map (fun e=>(e.key,e.val))=_ from hl,show es.toList.map (fun e=>(e.key,e.val))=_ from hkv] at hs
 have h3:=List.Sublist.map (fun p:Value×Value=>intOf p.1) hs
 simpa [Function.comp_def,intOf] using h3
theorem zz7{left:List (Int×Value)}{j:Nat}{p:Int×Value}(hp:left[j]?=some p)(hnd:(left.map (·.1)).Nodup)(n:Int):n∈(left.eraseIdx j).map (·.1)↔n∈left.map (·.1)/\n≠p.1:=by
 induction left generalizing j with
 | nil=>cases hp
 | cons q left ih=>
  simp only[List.map_cons,List.nodup_cons] at hnd
  cases j with
  | zero=>
   simp only[List.getElem?_cons_zero,Option.some.injEq] at hp
   subst hp
   simp only[List.eraseIdx_cons_zero,List.map_cons,List.mem_cons]
   constructor
   ·intro h;exact⟨.inr h,fun e=>hnd.1 (e▸h)⟩
   ·rintro⟨h|h,h2⟩
    ·exact absurd h h2
    ·exact h
  | succ j=>
   simp only[List.getElem?_cons_succ] at hp
   have h1:=ih hp hnd.2
   have hqp:q.1≠p.1:=fun e=>hnd.1 (by rw[e];exact List.mem_map.2 ⟨p,List.mem_of_getElem? hp,rfl⟩)
   simp only[List.eraseIdx_cons_succ,List.map_cons,List.mem_cons,h1]
   constructor
   ·rintro(h|h)
    ·exact⟨.inl h,by rw[h];exact hqp⟩
    ·exact⟨.inr h.1,h.2⟩
   ·rintro⟨h|h,h2⟩
    ·exact .inl h
    ·exact .inr ⟨h,h2⟩
def jk6(w2 W:World)(m P lev:Nat)(fs:List (Int×Int))(rr:Int->Nat)(A:Option Addr)(c k:Nat):Prop:=
 jk3 W P (jh5 (fs.take k) lev) (jn5 (fs.take k) lev) (97+16*lev+k)/\jk3 W (P+1) (jh6 (fs.take k) lev) (jn6 (fs.take k) lev) (97+16*lev+k)/\ja6 W m (zh0 fs rr)/\jd3 W (m+1) fs rr (fun _=>lev) /\
  ja3 W m A fs.length c fs/\Below m w2 W/\m<P/\m<=w2.heap.size
section
variable {w2 W W' : World} {m P lev c k : Nat} {fs : List (Int × Int)} {rr : Int → Nat} {A : Option Addr}
theorem jk6.lt(h:jk6 w2 W m P lev fs rr A c k):P+1<W.heap.size:=h.2.1.lt
theorem jk6.below(h:jk6 w2 W m P lev fs rr A c k)(hb:Below W.heap.size W W'):jk6 w2 W' m P lev fs rr A c k:=by
 have hlt:=h.lt
 obtain⟨h1,h2,h3,h4,h5,h6,h7,h8⟩:=h
 exact⟨h1.below hb,h2.below hb,h3.below hb (by omega),h4.below hb,Rd.below h5 (hb.mono (by omega)),h6.trans (hb.mono (by omega)),h7,h8⟩
theorem jbh4 {t:Int×Int} (lev:Nat) (ht:fs.take (k+1)=fs.take k++[t]) :
  (jh5 (fs.take (k+1)) lev=jh5 (fs.take k) lev+(if t.1<0 then 0 else jg3 t lev))/\(jn5 (fs.take (k+1)) lev=jn5 (fs.take k) lev+(if t.1<0 then 0 else jr4 t lev)) /\
  (jh6 (fs.take (k+1)) lev=jh6 (fs.take k) lev+(if t.1<0 then jg3 t lev else 0))/\jn6 (fs.take (k+1)) lev=jn6 (fs.take k) lev+(if t.1<0 then jr4 t lev else 0):=by
 unfold jh5 jn5 jh6 jn6
 rw[ht]
 exact⟨zt2 _ _ _,zt2 _ _ _,zt2 _ _ _,zt2 _ _ _⟩
theorem jk6.pos {t:Int×Int} (h:jk6 w2 W m P lev fs rr A c k) (ht:fs.take (k+1)=fs.take k++[t]) (h0:¬t.1<0) (hA:jab7 (m+1) fs rr)
  (hg:W.grownBy W' (some P)) (hs:jk3 W' P (jh5 (fs.take k) lev+jg3 t lev) (jn5 (fs.take k) lev+jr4 t lev) (97+16*lev+k+1)):jk6 w2 W' m P lev fs rr A c (k+1):=by
 obtain⟨e1,e2,e3,e4⟩:=jbh4 (fs:=fs) (k:=k) lev ht
 rw[if_neg h0] at e1 e2 e3 e4
 have hlt:=h.lt
 obtain⟨h1,h2,h3,h4,h5,h6,h7,h8⟩:=h
 unfold jk6
 rw[e1,e2,e3,e4]
 obtain⟨_,_,_,_,_,_,hbk,_⟩:=h1
 exact⟨hs,(h2.grown hbk (by decide) (by omega) hg).more (by omega),h3.grown hg (by simp;omega),h4.set_ hbk (by decide) (by decide) hg,Rd.grown h5 hg (by omega) (fun j e=>by cases e;omega),h6.grown hg (by omega) (fun j e=>by cases e;omega),h7,h8⟩
theorem jk6.neg {t:Int×Int} (h:jk6 w2 W m P lev fs rr A c k) (ht:fs.take (k+1)=fs.take k++[t]) (h0:t.1<0) (hA:jab7 (m+1) fs rr)
  (hg:W.grownBy W' (some (P+1))) (hs:jk3 W' (P+1) (jh6 (fs.take k) lev+jg3 t lev) (jn6 (fs.take k) lev+jr4 t lev) (97+16*lev+k+1)):jk6 w2 W' m P lev fs rr A c (k+1):=by
 obtain⟨e1,e2,e3,e4⟩:=jbh4 (fs:=fs) (k:=k) lev ht
 rw[if_pos h0] at e1 e2 e3 e4
 have hlt:=h.lt
 obtain⟨h1,h2,h3,h4,h5,h6,h7,h8⟩:=h
 unfold jk6
 rw[e1,e2,e3,e4]
 obtain⟨_,_,_,_,_,_,hbk,_⟩:=h2
 exact⟨(h1.grown hbk (by decide) (by omega) hg).more (by omega),hs,h3.grown hg (by simp;omega),h4.set_ hbk (by decide) (by decide) hg,Rd.grown h5 hg (by omega) (fun j e=>by cases e;omega),h6.grown hg (by omega) (fun j e=>by cases e;omega),h7,h8⟩
end
def zs4(left:List (Int×Value))(lev:Nat):Int->Nat:=fun n=>if n∈left.map (·.1)then lev else lev+1
def jz7(W:World)(F:Nat)(fs:List (Int×Int))(rr lv:Int->Nat)(n:Int):Prop:=∀u∈fs,u.2≠n->jd4 W F (rr u.2) (jg3 u (lv u.2)) (zc8 u (lv u.2)) (96+16*lv u.2)
section
variable {W W' : World} {F L lev : Nat} {fs : List (Int × Int)} {rr lv : Int → Nat}
theorem jdm7(h:(fs.map (·.2)).Nodup){t u:Int×Int}(ht:t∈fs)(hu:u∈fs)(e:t.2=u.2):t=u:=by
 obtain⟨i,hi,rfl⟩:=List.mem_iff_getElem.1 ht
 obtain⟨j,hj,rfl⟩:=List.mem_iff_getElem.1 hu
 have h1:(fs.map (·.2))[i]?=(fs.map (·.2))[j]?:=by
  rw[List.getElem?_map,List.getElem?_map,List.getElem?_eq_getElem hi,List.getElem?_eq_getElem hj]
  simp[e]
 have h2:=(List.getElem?_inj (by simpa using hi) h).1 h1
 subst h2;rfl
theorem jz7.grown{t:Int×Int}(h:jz7 W F fs rr lv t.2)(ht:t∈fs)(hA:jab7 F fs rr){R T L2:Nat}(hb:jd4 W F (rr t.2) R T L2)(hg:W.grownBy W' (some (rr t.2))):jz7 W' F fs rr lv t.2:=by
 obtain⟨_,_,_,_,_,_,hbk,_⟩:=hb
 intro u hu hne
 exact(h u hu hne).grown hbk (by decide) (hA.2 u hu t ht hne) hg
theorem jz7.of(h:jd3 W F fs rr lv)(n:Int):jz7 W F fs rr lv n:=fun u hu _=>h u hu
theorem jh7.root{it m:Nat}{kv left:List (Int×Value)}{cur:Option (Int×Value)}(h:jh7 W it m kv left cur){r R T L2:Nat}(hb:jd4 W F r R T L2)(hm:m<F)(hF:F<=r)(hg:W.grownBy W' (some r)):jh7 W' it m kv left cur:=by
 have hl:=h.lt
 have hne:it≠r:=by
  intro e
  obtain⟨_,_,_,_,_,_,hbk,_⟩:=hb
  obtain⟨es,clk,since,seen,last,_,_,_,_,_,_,_,_,hr,_⟩:=h
  unfold Blk at hbk
  rw[<-e,hr] at hbk
  injection hbk with hbk
  injection hbk
 exact h.of_blocks (hg.block it hl.1 (fun e=>hne (by injection e))) (hg.block m hl.2 (fun e=>by injection e with e;omega))
theorem jd3.step {t:Int×Int} {left:List (Int×Value)} {j:Nat} {p:Int×Value} (h:jz7 W F fs rr (zs4 left lev) t.2) (hb:jd4 W F (rr t.2) (jg3 t (lev+1)) (zc8 t (lev+1)) (96+16*(lev+1)))
  (hn:(fs.map (·.2)).Nodup) (ht:t∈fs) (hp:left[j]?=some p) (hpt:p.1=t.2) (hnl:(left.map (·.1)).Nodup):jd3 W F fs rr (zs4 (left.eraseIdx j) lev):=by
 intro u hu
 by_cases e:u.2=t.2
 ·have:=jdm7 hn hu ht e
  subst this
  have h1:zs4 (left.eraseIdx j) lev u.2=lev+1:=by
   unfold zs4
   rw[if_neg]
   intro hm
   exact((zz7 hp hnl _).1 hm).2 hpt.symm
  rw[h1];exact hb
 ·have h1:zs4 (left.eraseIdx j) lev u.2=zs4 left lev u.2:=by
   unfold zs4
   by_cases hm:u.2∈left.map (·.1)
   ·rw[if_pos hm,if_pos ((zz7 hp hnl _).2 ⟨hm,by rw[hpt];exact e⟩)]
   ·rw[if_neg hm,if_neg (fun h2=>hm ((zz7 hp hnl _).1 h2).1)]
  rw[h1];exact h u hu e
theorem jdf3{p:Int×Value}(h:p∈zh0 fs rr):∃t∈fs,p=(t.2,.pointer (some ⟨rr t.2,0,none⟩)):=by
 obtain⟨t,ht,e⟩:=List.mem_map.1 h
 exact⟨t,ht,e.symm⟩
end
theorem jd4.iter{W W':World}{F r R T L it m:Nat}(h:jd4 W F r R T L){kv left:List (Int×Value)}{cur:Option (Int×Value)}(hi:jh7 W it m kv left cur)(hg:W.grownBy W' (some it)):jd4 W' F r R T L:=by
 obtain⟨A,n,c,A2,n2,c2,h1,h2,h3,h4,h5,h6,h7⟩:=h
 obtain⟨es,clk,since,seen,last,_,_,_,_,_,_,_,_,hr,_⟩:=hi
 have hne:∀ad:Addr,(∃cs' e fz,W.heap[ad.block]?=some (.cells cs' e fz))->ad.block≠it:=by
  rintro ad ⟨cs',e,fz,h8⟩ e
  rw[e,hr] at h8
  injection h8 with h8
  injection h8
 refine⟨A,n,c,A2,n2,c2,h1.grown hg (fun e=>hne ⟨r,0,none⟩ ⟨_,_,_,h1⟩ (by injection e with e;exact e.symm)),h2.grown hg (fun ad ha e=>?_),h3.grown hg (fun ad ha e=>?_),h4,h5,h6,h7⟩
 ·obtain⟨cs',fz,h8⟩:=h2.2 ad ha
  exact hne ad ⟨_,_,_,h8⟩ (by injection e)
 ·obtain⟨cs',fz,h8⟩:=h3.2 ad ha
  exact hne ad ⟨_,_,_,h8⟩ (by injection e)
end Go.Proofs.YtphcodcdfeohhaaGreatDoor
