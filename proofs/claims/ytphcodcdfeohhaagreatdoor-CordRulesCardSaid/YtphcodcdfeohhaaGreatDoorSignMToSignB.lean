import Derived.Test.YtphcodcdfeohhaaGreatDoorLongFToLongM
set_option linter.all false
namespace Go.Proofs.YtphcodcdfeohhaaGreatDoor
set_option maxRecDepth 100000
set_option maxHeartbeats 4000000
def isq(v:Nat):Nat:=(QD (zo (zX (dig v) (dig v).length))).1
theorem qe(v:Nat):Jn v (isq v) (v-isq v*isq v):=by
 obtain⟨h1,h2⟩:=zn3 v
 have h3:(QD (zo (zX (dig v) (dig v).length))).2=v-isq v*isq v:=by unfold isq;omega
 rw[h3] at h1 h2
 exact⟨h1,h2⟩
theorem Jn.le{v R T:Nat}(h:Jn v R T):R*R<=v:=by have:=h.1;omega
theorem Jn.lt{v R T:Nat}(h:Jn v R T):v<(R+1)*(R+1):=by
 have:=h.1;have:=h.2
 have e:(R+1)*(R+1)=R*R+2*R+1:=by rw[Nat.mul_add,Nat.add_mul];omega
 omega
theorem ja9{a b v:Nat}(h:a*a<=v)(h2:v<(b+1)*(b+1)):a<=b:=by
 rcases Nat.lt_or_ge b a with h3|h3
 ·have:=Nat.mul_self_le_mul_self (show b+1<=a from h3);omega
 ·exact h3
theorem Jn.eq{v R T:Nat}(h:Jn v R T):R=isq v/\T=v-isq v*isq v:=by
 have h2:=qe v
 have e:R=isq v:=Nat.le_antisymm (ja9 h.le h2.lt) (ja9 h2.le h.lt)
 refine⟨e,?_⟩
 rw[<-e];have:=h.1;omega
theorem jy8{a v:Nat}(h:a*a<=v):a<=isq v:=ja9 h (qe v).lt
theorem qB(v:Nat):isq v*isq v<=v:=(qe v).le
theorem jca0{u v:Nat}(h:u<=v):isq u<=isq v:=jy8 (Nat.le_trans (qB u) h)
def ja4(v:Nat):Nat:=jf2 (isq v) (v-isq v*isq v)
theorem jbh1(v:Nat):ja4 v<=isq v+1:=by unfold ja4 jf2;split<;>omega
theorem jam5(v:Nat):isq v<=ja4 v:=by unfold ja4 jf2;split<;>omega
theorem js6(v:Nat):v<=ja4 v*ja4 v:=by
 have h:=qe v
 unfold ja4 jf2
 split
 ·have:=h.1;omega
 ·exact Nat.le_of_lt h.lt
theorem jam4{h v:Nat}(hh:v<=h*h):ja4 v<=h:=by
 have hs:=qe v
 unfold ja4 jf2
 split
 ·exact ja9 (Nat.le_trans hs.le hh) (Nat.mul_self_lt_mul_self (Nat.lt_succ_self h))
 ·rcases Nat.lt_or_ge (isq v) h with h3|h3
  ·exact h3
  ·have:=Nat.mul_self_le_mul_self h3
   have:=hs.1;omega
theorem jf8(n:Nat):isq (n*n)=n:=Nat.le_antisymm (ja9 (qB (n*n)) (Nat.mul_self_lt_mul_self (Nat.lt_succ_self n))) (jy8 (Nat.le_refl _))
theorem jad2(n:Nat):ja4 (n*n)=n:=by
 have h:=jf8 n
 unfold ja4
 rw[h,Nat.sub_self];rfl
theorem jy7(v s:Nat):isq v*s<=isq (v*(s*s)):=jy8 (by rw[Nat.mul_mul_mul_comm];exact Nat.mul_le_mul_right _ (qB v))
theorem jba2(v s:Nat):ja4 (v*(s*s))<=ja4 v*s:=jam4 (by rw[Nat.mul_mul_mul_comm];exact Nat.mul_le_mul_right _ (js6 v))
def zc6:Nat->Nat×Nat->Nat×Nat
 | 0,s=>s
 | j+1,s=>zy9 (zc6 j s) 0
theorem jap7 {v R T:Nat} (h:Jn v R T):∀j,Jn (v*4 ^ j) (zc6 j (R,T)).1 (zc6 j (R,T)).2
 | 0=>by simpa [zc6] using h
 | j+1=>by
  have h1:=jaa3 (jap7 h j) (show 0<4 by omega)
  rw[Nat.pow_succ,<-Nat.mul_assoc,Nat.mul_comm _ 4]
  exact h1
def bits(k:Nat):Nat:=65536 ^ k
theorem Zh(k:Nat):0<bits k:=Nat.pow_pos (by omega)
theorem jbk7(k:Nat):bits (k+1)=bits k*65536:=Nat.pow_succ ..
theorem jp9(k j:Nat):bits (k+j)=bits k*bits j:=Nat.pow_add ..
theorem jbg5(k:Nat):bits k*bits k=4294967296 ^ k:=by unfold bits;rw[<-Nat.mul_pow]
def sqT(t:Int×Int):Nat:=t.1.natAbs*t.1.natAbs*t.2.toNat
def Zv(t:Int×Int)(k:Nat):Nat:=sqT t*(bits k*bits k)
theorem za9(t:Int×Int):Zv t 0=sqT t:=by simp[Zv,bits]
theorem jbs3(t:Int×Int)(k:Nat):Zv t (k+1)=Zv t k*4 ^ 16:=by
 unfold Zv
 rw[jbg5,jbg5,Nat.pow_succ,<-Nat.mul_assoc]
def zh(t:Int×Int)(k:Nat):Nat:=isq (Zv t k)
def Jr(t:Int×Int)(k:Nat):Nat:=ja4 (Zv t k)
def zv(ts:List (Int×Int))(k:Nat):Nat:=(ts.map λt=>if t.1<0 then 0 else zh t k).sum
def Jg(ts:List (Int×Int))(k:Nat):Nat:=(ts.map λt=>if t.1<0 then 0 else Jr t k).sum
def zw(ts:List (Int×Int))(k:Nat):Nat:=(ts.map λt=>if t.1<0 then zh t k else 0).sum
def Jh(ts:List (Int×Int))(k:Nat):Nat:=(ts.map λt=>if t.1<0 then Jr t k else 0).sum
def jy(ts:List (Int×Int))(k:Nat):Int:=if Jh ts k<zv ts k then 1 else if Jg ts k<zw ts k then -1 else 0
def JA(t:Int×Int):Bool:=!(t.1==0)
def jA(ts:List (Int×Int))(s:Int):Prop:=(ts.filter JA=[]/\s=0)\/(ts.filter JA≠[]/\s≠0/\∃k,jy (ts.filter JA) k=s)
theorem zh3(k j:Nat)(v:Nat):v*(bits (k+j)*bits (k+j))=v*(bits k*bits k)*(bits j*bits j):=by
 rw[jp9,Nat.mul_assoc v,Nat.mul_mul_mul_comm]
theorem jbh3(t:Int×Int)(k j:Nat):zh t k*bits j<=zh t (k+j):=by
 unfold zh Zv;rw[zh3];exact jy7 _ _
theorem jbj3(t:Int×Int)(k j:Nat):Jr t (k+j)<=Jr t k*bits j:=by
 unfold Jr Zv;rw[zh3];exact jba2 _ _
theorem qL {α:Type} (f g:α->Nat) (c:Nat):∀l:List α,(∀x∈l,f x*c<=g x)->(l.map f).sum*c<=(l.map g).sum
 | [],_=>by simp
 | x::l,h=>by
  have h1:=h x (by simp)
  have h2:=qL f g c l (λy hy=>h y (List.mem_cons_of_mem _ hy))
  simp only[List.map_cons,List.sum_cons,Nat.add_mul]
  omega
theorem ZQ {α:Type} (f g:α->Nat) (c:Nat):∀l:List α,(∀x∈l,g x<=f x*c)->(l.map g).sum<=(l.map f).sum*c
 | [],_=>by simp
 | x::l,h=>by
  have h1:=h x (by simp)
  have h2:=ZQ f g c l (λy hy=>h y (List.mem_cons_of_mem _ hy))
  simp only[List.map_cons,List.sum_cons,Nat.add_mul]
  omega
theorem jbf8(ts:List (Int×Int))(k j:Nat):zv ts k*bits j<=zv ts (k+j):=qL _ _ _ _ λt _=>by
 split
 ·omega
 ·exact jbh3 t k j
theorem jbg2(ts:List (Int×Int))(k j:Nat):zw ts k*bits j<=zw ts (k+j):=qL _ _ _ _ λt _=>by
 split
 ·exact jbh3 t k j
 ·omega
theorem jbf9(ts:List (Int×Int))(k j:Nat):Jg ts (k+j)<=Jg ts k*bits j:=ZQ _ _ _ _ λt _=>by
 split
 ·omega
 ·exact jbj3 t k j
theorem jbg3(ts:List (Int×Int))(k j:Nat):Jh ts (k+j)<=Jh ts k*bits j:=ZQ _ _ _ _ λt _=>by
 split
 ·exact jbj3 t k j
 ·omega
theorem jy0(ts:List (Int×Int))(k:Nat):zv ts k<=Jg ts k:=by
 have:=ZQ (λt:Int×Int=>if t.1<0 then 0 else Jr t k) (λt=>if t.1<0 then 0 else zh t k) 1 ts (λt _=>by
  split
  ·omega
  ·have:=jam5 (Zv t k);unfold zh Jr;omega)
 unfold zv Jg;omega
theorem zv7(ts:List (Int×Int))(k:Nat):zw ts k<=Jh ts k:=by
 have:=ZQ (λt:Int×Int=>if t.1<0 then Jr t k else 0) (λt=>if t.1<0 then zh t k else 0) 1 ts (λt _=>by
  split
  ·have:=jam5 (Zv t k);unfold zh Jr;omega
  ·omega)
 unfold zw Jh;omega
theorem jap0{a b c d p:Nat}(h:a<b)(hp:0<p)(h1:c<=a*p)(h2:b*p<=d):c<d:=by
 have:=Nat.mul_lt_mul_of_pos_right h hp
 omega
theorem zd9{ts:List (Int×Int)}{k:Nat}(h:jy ts k=1):Jh ts k<zv ts k:=by
 unfold jy at h
 split at h
 ·assumption
 ·split at h<;>omega
theorem zd8{ts:List (Int×Int)}{k:Nat}(h:jy ts k=-1):Jg ts k<zw ts k:=by
 unfold jy at h
 split at h
 ·omega
 ·split at h
  ·assumption
  ·omega
theorem ZT{ts:List (Int×Int)}{k:Nat}(h:Jh ts k<zv ts k):jy ts k=1:=by unfold jy;rw[if_pos h]
theorem ZS{ts:List (Int×Int)}{k:Nat}(h:Jg ts k<zw ts k):jy ts k=-1:=by
 have h1:=jy0 ts k
 have h2:=zv7 ts k
 unfold jy;rw[if_neg (by omega),if_pos h]
theorem QG(ts:List (Int×Int))(k:Nat):jy ts k=1\/jy ts k=-1\/jy ts k=0:=by
 unfold jy
 split
 ·exact .inl rfl
 ·split
  ·exact .inr (.inl rfl)
  ·exact .inr (.inr rfl)
theorem jv5{ts:List (Int×Int)}{k:Nat}(j:Nat)(h:jy ts k≠0):jy ts (k+j)=jy ts k:=by
 rcases QG ts k with h1|h1|h1
 ·rw[h1];exact ZT (jap0 (zd9 h1) (Zh j) (jbg3 ts k j) (jbf8 ts k j))
 ·rw[h1];exact ZS (jap0 (zd8 h1) (Zh j) (jbf9 ts k j) (jbg2 ts k j))
 ·exact absurd h1 h
theorem jag8{ts:List (Int×Int)}{k j:Nat}(h:jy ts k≠0)(h2:jy ts j≠0):jy ts k=jy ts j:=by
 rw[<-jv5 j h,<-jv5 k h2,Nat.add_comm]
theorem jA.unique{ts:List (Int×Int)}{s s':Int}(h:jA ts s)(h':jA ts s'):s=s':=by
 rcases h with⟨h1,h2⟩|⟨h1,h2,k,h3⟩<;>rcases h' with⟨g1,g2⟩|⟨g1,g2,j,g3⟩
 ·rw[h2,g2]
 ·exact absurd h1 g1
 ·exact absurd g1 h1
 ·rw[<-h3,<-g3];exact jag8 (by rw[h3];exact h2) (by rw[g3];exact g2)
theorem QS{α:Type}(f:α->Nat)(l:List α)(x:α):((l++[x]).map f).sum=(l.map f).sum+f x:=by
 rw[List.map_append,List.sum_append];simp
open Go.RowKit
theorem zh7 (B:Nat) (A:Option Addr) (n c:Nat) (ts:List (Int×Int)) (w:World) (h:ji w B A n c ts) (hB:B<=w.heap.size) (hn:n<=1000000000) :
  Calls Tryz.prog 81 #[.slice A n c] w λe w'=>∃(A':Option Addr) (c':Nat),e=.returned (.slice A' n c')/\w'.ownsRow w.heap.size 59 2 (.slice A' n c') n (jr ts)/\Below w.heap.size w w':=by
 have hl:=h.len
 subst hl
 obtain⟨i0,hi0,hz0,hz1,hz2⟩:=info_parts Tryz.infoTerm
 have q208:∀(w:World) (a:Option Addr) (n c n' c':Nat),(binOp .eql 22 (.slice a n c) (.slice none n' c')).run Tryz.prog w=.ok (.bool a.isNone) w:=λw a n c n' c'=>Lib.run_eql_slice_nil w _ _ a n c n' c' Tryz.underlying22
 have hcl:=h.1
 rcases h.2.2.2 with⟨rfl,rfl⟩|⟨ad,rfl,hb,hc⟩
 ·have h0:ts.length=0:=by have:=h.2.1;omega
  have h1:ts=[]:=List.length_eq_zero_iff.1 h0
  subst h1
  clear h h0
  go_enter Tryz.func81,Tryz.ntmps81
  go_wp2
  go_ret
  exact⟨none,0,rfl,⟨rfl,.inl ⟨rfl,rfl⟩⟩,Below.refl _ _⟩
 ·have HO:=ja (World.ownsRow_lit (base:=w.heap.size) (e:=59) (size:=2) w #[] 0 (Nat.le_refl _) (by unfold maxLen;omega) rfl)
  have hnew:∀j u,(jr ts)[j]?=some u->(w.alloc (.cells #[] 59)).cell? (ad.add j)=some u:=λj u hu=>(World.cell?_alloc_lt _ _ _ (by rw[jH];omega)).trans (hc j u hu)
  have hnew:=ja hnew
  have hone:∀u∈jr ts,u.oneCell'=true:=by
   intro u hu
   unfold jr jB at hu
   simp only[List.mem_flatMap,List.mem_map] at hu
   obtain⟨p,⟨t,_,rfl⟩,hu⟩:=hu
   simp only[jr7,List.mem_cons,List.not_mem_nil,or_false] at hu
   rcases hu with rfl|rfl<;>rfl
  have hone:=ja hone
  have HCL:=ja hcl
  clear h hc hcl
  go_enter Tryz.func81,Tryz.ntmps81
  go_wp2_with (first
   | (at_builtin;refine wpList_append_own _ rfl _ _ 22 rfl w.heap.size 59 i0 (.agg #[.int .i64 0,.int .i64 0]) 2 16 Tryz.underlying22 hi0 hz0 hz1 hz2 rfl (by decide) (.slice (some ⟨w.heap.size,0,none⟩) 0 0) 0 [] rfl HO.o ad ts.length c (jr ts) rfl HCL.o hnew.o hone.o (by unfold maxLen;omega) (by omega) (by simp) ?_;intro v' w3 ho3 hg3 _;obtain⟨A4,c4,rfl⟩:=jx ho3;have HO3:=ja ho3;have HG3:=ja hg3;clear ho3 hg3))
  go_ret
  have hO:=HO3.o
  simp only[Nat.zero_add,List.nil_append] at hO
  refine⟨A4,c4,?_,hO,(((Below.refl w.heap.size w).alloc (Nat.le_refl _) _).grown HG3.o (by simp) (by simp[Value.ownBlock]))⟩
  simp
theorem jaa1(t:Int×Int)(w:World):Calls Tryz.prog 112 #[.agg #[.int .i64 t.1,.int .i64 t.2]] w λe w'=>e=.returned (.bool (t.1==0))/\Below w.heap.size w w':=by
 obtain⟨a,b⟩:=t
 dsimp only
 go_enter Tryz.func112,Tryz.ntmps112
 go_wp2
 all_goals go_ret
 all_goals exact⟨by simp[*],(Below.refl _ _).alloc (Nat.le_refl _) _⟩
def putT(w:World)(g i:Nat)(t:Int×Int):World:=(w.setCell ⟨g,i*2,none⟩ (.int .i64 t.1)).setCell ⟨g,i*2+1,none⟩ (.int .i64 t.2)
theorem zh6:∀(l:List (Value×Value)) (i:Nat) (p:Value×Value),i<l.length->((jB l).set (i*2) p.1).set (i*2+1) p.2=jB (l.set i p)
 | x::l,0,p,_=>rfl
 | x::l,i+1,p,h=>by
  have h1:=zh6 l i p (by simpa using h)
  have e:jB (x::l)=x.1::x.2::jB l:=rfl
  rw[e,show(i+1)*2=i*2+2 by omega]
  show x.1::x.2::((jB l).set (i*2) p.1).set (i*2+1) p.2=_
  rw[h1]
  rfl
theorem jay4(ts:List (Int×Int))(i:Nat)(t:Int×Int)(h:i<ts.length):((jr ts).set (i*2) (.int .i64 t.1)).set (i*2+1) (.int .i64 t.2)=jr (ts.set i t):=by
 have h1:=zh6 (ts.map jr7) i (jr7 t) (by simpa using h)
 rw[show(Value.int .i64 t.1)=(jr7 t).1 from rfl,show(Value.int .i64 t.2)=(jr7 t).2 from rfl]
 unfold jr
 rw[h1,List.map_set]
theorem jcc7 {w:World} {base g n cap i:Nat} {ts:List (Int×Int)} (h:w.ownsRow base 59 2 (.slice (some ⟨g,0,none⟩) n cap) n (jr ts)) (hi:i<ts.length) (t:Int×Int) :
  (putT w g i t).ownsRow base 59 2 (.slice (some ⟨g,0,none⟩) n cap) n (jr (ts.set i t))/\w.grownBy (putT w g i t) (some g):=by
 have h1:=h.stored (i*2) (.int .i64 t.1)
 have h2:=h1.1.stored (i*2+1) (.int .i64 t.2)
 rw[jay4 ts i t hi] at h2
 exact⟨h2.1,JP h1.2 h2.2 (λj e=>.inl rfl)⟩
theorem jt4{base e size g n cap:Nat}:∀(vs:List Value) (o:Nat) (w:World) (xs:List Value),w.ownsRow base e size (.slice (some ⟨g,0,none⟩) n cap) n xs ->
  ∃xs',(w.setCells g o vs).ownsRow base e size (.slice (some ⟨g,0,none⟩) n cap) n xs'/\w.grownBy (w.setCells g o vs) (some g)/\xs'.take o=xs.take o
 | [],o,w,xs,h=>⟨xs,h,World.grownBy.refl _ _,rfl⟩
 | v::vs,o,w,xs,h=>by
  have h1:=h.stored o v
  obtain⟨xs',h2,h3,h4⟩:=jt4 vs (o+1) (w.setCell ⟨g,o,none⟩ v) (xs.set o v) h1.1
  refine⟨xs',h2,JP h1.2 h3 (λj e=>.inl rfl),?_⟩
  have h5:=congrArg (List.take o) h4
  rw[List.take_take,List.take_take,Nat.min_eq_left (by omega)] at h5
  rw[h5,List.take_set_of_le (Nat.le_refl _)]
theorem jbc0 {w:World} {base g n cap i:Nat} {ts:List (Int×Int)} {xs:List Value} (h:w.ownsRow base 59 2 (.slice (some ⟨g,0,none⟩) n cap) n xs) (hx:xs.take (i*2)=jr ts) (hi:i<=n) :
  ji w w.heap.size (some ⟨g,0,none⟩) i cap ts:=by
 have hl:=(h.lt g rfl).2
 have h0:=Rd.of_own h
 have hcl:xs.length=n*2:=h.1
 refine⟨?_,by have:=h0.2.1;omega,h0.2.2.1,.inr ⟨_,rfl,hl,λj u hj=>?_⟩⟩
 ·rw[<-hx,List.length_take,hcl];omega
 ·rw[<-hx,List.getElem?_take] at hj
  split at hj
  ·exact h.cells (g:=g) rfl j u hj
  ·cases hj
theorem zt9(n:Nat):(Builtin.zeroCells (Value.agg #[.int .i64 0,.int .i64 0]).cells n).toList=List.replicate (n*2) (.int .i64 0):=by
 apply List.ext_getElem
 ·simp[Builtin.zeroCells,Value.cells]
 ·intro i h1 h2
  simp only[Builtin.zeroCells,Value.cells]
  have:i % 2=0\/i % 2=1:=by omega
  rcases this with h|h<;>simp[h]
theorem zf6 (w:World) (ty:TypeId) (b o n c:Nat) (hn:0<n) (hc:∀j,j<n*2->(w.cell? ⟨b,o+j,none⟩).isSome=true) (hf:∀j,j<n*2->w.frozen? ⟨b,o+j,none⟩=false) (hz:∀w,(zeroValue 59).run Tryz.prog w=.ok (.agg #[.int .i64 0,.int .i64 0]) w) :
  (Builtin.clear_ #[22] ty #[.slice (some ⟨b,o,none⟩) n c]).run Tryz.prog w=.ok (.tuple #[]) (w.setCells b o (List.replicate (n*2) (.int .i64 0))):=by
 have hzc:=zt9 n
 have hst:=run_storeCells_cells (P:=Tryz.prog) b o (List.replicate (n*2) (.int .i64 0)) 0 w (by simpa using hc) (by simpa using hf) (by intro v hv';rw[List.eq_of_mem_replicate hv'];rfl)
 simp only[Nat.add_zero] at hst
 obtain⟨m,rfl⟩:∃m,n=m+1:=⟨n-1,by omega⟩
 simp[Builtin.clear_,run_underlying Tryz.underlying22,hz,hzc,hst]
def jb5(ts cur:List (Int×Int))(i j:Nat):Prop:=cur.length=ts.length/\i<j/\cur.take i=(ts.take j).filter JA/\cur.drop j=ts.drop j
theorem jb5.start{ts:List (Int×Int)}{i:Nat}(hi:i<ts.length)(h0:JA ts[i]=false)(hn:∀j (hj:j<i),JA (ts[j]'(by omega))=true):jb5 ts ts i (i+1):=by
 refine⟨rfl,by omega,?_,rfl⟩
 rw[jw ts i hi,List.filter_append,List.filter_cons,h0]
 simp only[Bool.false_eq_true,if_false,List.filter_nil,List.append_nil]
 refine(List.filter_eq_self.2 λx hx=>?_).symm
 obtain⟨j,hj,rfl⟩:=List.mem_iff_getElem.1 hx
 simp only[List.length_take] at hj
 rw[List.getElem_take]
 exact hn j (by omega)
theorem jb5.at_{ts cur:List (Int×Int)}{i j:Nat}(h:jb5 ts cur i j)(hj:j<ts.length):cur[j]'(by rw[h.1];exact hj)=ts[j]:=by
 have h1:=congrArg (λl=>l[0]?) h.2.2.2
 simp only[List.getElem?_drop,Nat.add_zero] at h1
 rw[List.getElem?_eq_getElem hj,List.getElem?_eq_getElem (by rw[h.1];exact hj)] at h1
 exact Option.some.inj h1
theorem jb5.keep{ts cur:List (Int×Int)}{i j:Nat}(h:jb5 ts cur i j)(hj:j<ts.length)(h0:JA ts[j]=true):jb5 ts (cur.set i ts[j]) (i+1) (j+1):=by
 obtain⟨h1,h2,h3,h4⟩:=h
 have hi:i<cur.length:=by omega
 refine⟨by simpa using h1,by omega,?_,?_⟩
 ·rw[jw ts j hj,List.filter_append,List.filter_cons,h0,<-h3,jw (cur.set i ts[j]) i (by simpa using hi),List.take_set_of_le (Nat.le_refl _)]
  simp
 ·have h5:=congrArg (List.drop 1) h4
  rw[List.drop_drop,List.drop_drop] at h5
  rw[List.drop_set_of_lt (by omega)]
  exact h5
theorem jb5.skip{ts cur:List (Int×Int)}{i j:Nat}(h:jb5 ts cur i j)(hj:j<ts.length)(h0:JA ts[j]=false):jb5 ts cur i (j+1):=by
 obtain⟨h1,h2,h3,h4⟩:=h
 refine⟨h1,by omega,?_,?_⟩
 ·rw[jw ts j hj,List.filter_append,List.filter_cons,h0,h3];simp
 ·have h5:=congrArg (List.drop 1) h4
  rw[List.drop_drop,List.drop_drop] at h5
  exact h5
theorem jaj4(ts:List (Int×Int))(i:Nat):(jr ts).take (i*2)=jr (ts.take i):=by
 unfold jr jB
 induction ts generalizing i with
 | nil=>simp
 | cons t ts ih=>
  cases i with
  | zero=>simp
  | succ i=>
   have:=ih i
   simp only[List.map_cons,List.flatMap_cons,List.take_succ_cons,show(i+1)*2=i*2+1+1 by omega,List.cons_append,List.nil_append,this]
theorem jba0{α:Type}(l:List α)(p:α->Bool):(jf3 l p=-1/\∀x∈l,p x=false)\/∃k,∃h:k<l.length,jf3 l p=(k:Int)/\p l[k]=true/\∀j (hj:j<k),p (l[j]'(by omega))=false:=by
 unfold jf3
 cases h:l.findIdx? p with
 | none=>exact .inl ⟨rfl,by rw[List.findIdx?_eq_none_iff] at h;exact h⟩
 | some k=>
  obtain⟨hk,hp,hj⟩:=List.findIdx?_eq_some_iff_getElem.1 h
  exact .inr ⟨k,hk,rfl,hp,λj h=>by simpa using hj j h⟩
theorem add0(g j:Nat):(⟨g,0,none⟩:Addr).add j=⟨g,j,none⟩:=by unfold Addr.add;split<;>simp_all
theorem zl {w:World} {base g n cap:Nat} {ts:List (Int×Int)} (h:w.ownsRow base 59 2 (.slice (some ⟨g,0,none⟩) n cap) n (jr ts)) {j:Nat} (hj:j<ts.length) :
  w.cell? ⟨g,j*2,none⟩=some (.int .i64 ts[j].1)/\w.cell? ⟨g,j*2+1,none⟩=some (.int .i64 ts[j].2)/\w.frozen? ⟨g,j*2,none⟩=false/\w.frozen? ⟨g,j*2+1,none⟩=false:=by
 have hT:ji w w.heap.size (some ⟨g,0,none⟩) n cap ts:=Rd.of_own h
 obtain⟨ad,had,hc0,hc1⟩:=hT.at_ hj
 injection had with had
 subst had
 rw[add0] at hc0 hc1
 exact⟨hc0,hc1,h.frozenAt _,h.frozenAt _⟩
theorem jak0 (A:Option Addr) (n c base:Nat) (ts:List (Int×Int)) (w:World) (h:w.ownsRow base 59 2 (.slice A n c) n (jr ts)) (hz:∀w,(zeroValue 59).run Tryz.prog w=.ok (.agg #[.int .i64 0,.int .i64 0]) w) :
  Calls Tryz.prog 111 #[.slice A n c,.func (.func 112) #[] #[]] w λe w'=>∃n',e=.returned (.slice A n' c)/\n'<=n/\ji w' w'.heap.size A n' c (ts.filter JA)/\w.grownBy w' (Value.slice A n c).ownBlock:=by
 have hR:ji w w.heap.size A n c ts:=Rd.of_own h
 have hl:=hR.len
 have hmx:=hR.nmax
 have hca:=hR.2.1
 have hcm:=hR.2.2.1
 unfold maxLen at hcm
 subst hl
 have HI:=ja (jf4 jr7 A ts.length c w.heap.size 112 #[] ts (λt=>t.1==0) w hR (Nat.le_refl _) (λargs w=>by rfl) (λW x _ _=>jaa1 x W))
 have HO:=ja h
 have HR:=ja hR
 clear h hR
 rcases jba0 ts (λt=>t.1==0)with⟨e1,hall⟩|⟨k,hk,e1,hk0,hnk⟩
 ·have HF:=ja (show ts.filter JA=ts from List.filter_eq_self.2 (λx hx=>by unfold JA;rw[hall x hx];rfl))
  rw[e1] at HI
  clear e1 hall
  go_enter Tryz.func111,Tryz.ntmps111
  go_wp2_with (first
   | (go_at_call 101;refine HI.o.mono ?_;rintro e w1 ⟨rfl,hb⟩;have HB:=ja hb;clear hb))
  go_ret
  refine⟨ts.length,rfl,Nat.le_refl _,?_,jX HB.o _⟩
  rw[HF.o]
  exact(HR.o.below HB.o).more HB.o.size
 ·have hst:=ja (jb5.start hk (by unfold JA;rw[hk0];rfl) (λj hj=>by unfold JA;rw[hnk j hj];rfl))
  rw[e1] at HI
  clear e1 hk0 hnk
  obtain⟨g,hg,hg1,hg2⟩:=zm4 HO.o (by omega)
  subst hg
  have hne1:((k:Int)==-1)=false:=beq_eq_false_iff_ne.2 (by omega)
  go_enter Tryz.func111,Tryz.ntmps111
  go_wp2_with (first
   | (go_at_call 101;refine HI.o.mono ?_;rintro e w1 ⟨rfl,hb⟩;have HB:=ja hb;clear hb))
  go_loopw [5,6] (λs5 s6 W=>∃(i j:Nat) (cur:List (Int×Int)),s5=.int .i64 i/\s6=.int .i64 j/\j<=ts.length/\jb5 ts cur i j/\W.ownsRow base 59 2 (.slice (some ⟨g,0,none⟩) ts.length c) ts.length (jr cur)/\w.grownBy W (some g)) (λ_ s6 _=>ts.length-(intOf s6).toNat)
  case atStart=>
   exact⟨k,k+1,ts,rfl,by go_num,by omega,hst.o,HO.o.kept (jX HB.o none) (.inr (by simp[Value.ownBlock])),jX HB.o _⟩
  case round=>
   obtain⟨i,j,cur,rfl,rfl,hj,hke,ho,hgr⟩:=hrel
   have hij:=hke.2.1
   have hcl:=hke.1
   have HK:=ja hke;have HOW:=ja ho;have HG:=ja hgr
   have hTm:ji wr wr.heap.size (some ⟨g,0,none⟩) ts.length c cur:=Rd.of_own ho
   clear hke ho hgr
   by_cases hlt:j<ts.length
   ·have hnz:=ja (λh=>HK.o.keep hlt h)
    have hzz:=ja (λh=>HK.o.skip hlt h)
    have hat:=HK.o.at_ hlt
    have hl1:∀o,(wr.alloc o).heap.size=wr.heap.size+1:=λo=>by simp
    have hgl:=HG.o.size
    obtain⟨hc0,hc1,_,_⟩:=zl HOW.o (j:=j) (by omega)
    obtain⟨di0,di1,df0,df1⟩:=zl HOW.o (j:=i) (by omega)
    rw[hat] at hc0 hc1
    generalize cur[i].1=x0 at *
    generalize cur[i].2=x1 at *
    clear hTm hat
    have HS:=ja (λW=>jaa1 ts[j] W)
    generalize ts[j]=t at *
    obtain⟨co,ro⟩:=t
    dsimp only at hc0 hc1 HS
    by_cases hco:co=0
    ·subst hco
     rw[show((0:Int)==0)=true from rfl] at HS
     have hz1:=hzz.o rfl
     have hz1:=ja hz1
     clear hnz hzz
     go_wp2_with (first
      | (go_at_call 112;refine(HS.o _).mono ?_;rintro e w3 ⟨rfl,hb3⟩;have HB3:=ja hb3;clear hb3))
     go_roundw
     case rel=>exact⟨i,j+1,cur,rfl,by go_num,by omega,hz1.o,(HOW.o.alloc _).kept (jX HB3.o none) (.inr (by simp[Value.ownBlock])),zI (JO HG.o _) HB3.o (by simp;omega)⟩
     case measure=>simp[intOf];omega
    ·have hb0:(co==0)=false:=by simpa using hco
     rw[hb0] at HS
     have hz1:=hnz.o (by unfold JA;simpa using hco)
     have hz1:=ja hz1
     clear hnz hzz
     have HBK:=ja (jh.new wr 59 #[.int .i64 co,.int .i64 ro])
     go_wp2_with (first
      | (go_at_call 112;refine(HS.o _).mono ?_;rintro e w3 ⟨rfl,hb3⟩
         have HBK3:=ja (HBK.o.below hb3 (by simp))
         obtain⟨v1,v2,v3,v4⟩:=HBK3.o.two
         have HOW3:=ja (World.ownsRow.kept (HOW.o.alloc (.cells #[.int .i64 co,.int .i64 ro] 59)) (jX hb3 none) (.inr (by simp[Value.ownBlock])))
         obtain⟨i1,i2,i3,i4⟩:=zl HOW3.o (j:=i) (by omega)
         generalize cur[i].1=y0 at *
         generalize cur[i].2=y1 at *
         have HG3:=ja (zI (JO HG.o (.cells #[.int .i64 co,.int .i64 ro] 59)) hb3 (by simp;omega))
         clear hb3))
     have hpt:=jcc7 HOW3.o (i:=i) (by omega) (co,ro)
     go_roundw
     case rel=>exact⟨i+1,j+1,cur.set i (co,ro),by go_num,by go_num,by omega,hz1.o,hpt.1,JP HG3.o hpt.2 (λ_ _=>.inl rfl)⟩
     case measure=>simp[intOf];omega
   ·obtain rfl:j=ts.length:=by omega
    obtain⟨xs,hx1,hx2,hx3⟩:=jt4 (List.replicate ((ts.length-i)*2) (.int .i64 0)) (i*2) wr _ HOW.o
    have hcl:∀ty,(Builtin.clear_ #[22] ty #[.slice (some ⟨g,i*2,none⟩) (ts.length-i) (c-i)]).run Tryz.prog wr=.ok (.tuple #[]) (wr.setCells g (i*2) (List.replicate ((ts.length-i)*2) (.int .i64 0))):=
     λty=>zf6 wr ty g (i*2) (ts.length-i) (c-i) (by omega) (λq hq=>by
      have h1:=HOW.o.cellAt (i*2+q) (by omega)
      rw[h1,List.getElem?_eq_getElem (by have:=HOW.o.1;omega)];rfl) (λq _=>HOW.o.frozenAt _) hz
    rw[jaj4] at hx3
    have hk2:=HK.o.2.2.1
    rw[hk2,List.take_length] at hx3
    have HX1:=ja hx1;have HX2:=ja hx2;have HX3:=ja hx3
    clear hx1 hx2 hx3 hTm hk2
    generalize wr.setCells g (i*2) (List.replicate ((ts.length-i)*2) (.int .i64 0))=wz at *
    go_wp2
    go_ret
    exact⟨i,rfl,by omega,jbc0 HX1.o HX3.o (by omega),JP HG.o HX2.o (λ_ _=>.inl rfl)⟩
def qY(t:Int×Int)(k:Nat):Nat:=Zv t k-zh t k*zh t k
theorem jcj1(t:Int×Int)(k:Nat):Jn (Zv t k) (zh t k) (qY t k):=qe _
theorem jbb0{t:Int×Int}{R T:Nat}(h:Jn (t.1.natAbs*t.1.natAbs*t.2.toNat) R T):R=zh t 0/\T=qY t 0:=by
 have h1:Jn (Zv t 0) R T:=by rw[za9];exact h
 exact h1.eq
theorem jbn4(t:Int×Int)(k:Nat):(zc6 16 (zh t k,qY t k)).1=zh t (k+1)/\(zc6 16 (zh t k,qY t k)).2=qY t (k+1):=by
 have h:=jap7 (jcj1 t k) 16
 rw[<-jbs3] at h
 exact h.eq
def jR(W:World)(F:Nat)(fs:List (Int×Int))(rr lv:Int->Nat):Prop:=∀t∈fs,jS W F (rr t.2) (zh t (lv t.2)) (qY t (lv t.2)) (96+16*lv t.2)
def Qz(fs:List (Int×Int))(rr:Int->Nat):List (Int×Value):=fs.map λt=>(t.2,.pointer (some ⟨rr t.2,0,none⟩))
def jp6(F:Nat)(fs:List (Int×Int))(rr:Int->Nat):Prop:=(∀t∈fs,F<=rr t.2)/\∀t∈fs,∀u∈fs,t.2≠u.2->rr t.2≠rr u.2
section
variable {W W' : World} {F L : Nat} {fs : List (Int × Int)} {rr lv : Int → Nat}
theorem jR.below(h:jR W F fs rr lv)(hb:Below W.heap.size W W'):jR W' F fs rr lv:=λt ht=>(h t ht).below hb
theorem jR.drewN(h:jR W F fs rr lv)(q:Nat):jR (W.drewN q) F fs rr lv:=h
theorem jR.row(h:jR W F fs rr lv){row:Option Nat}(hg:W.grownBy W' row)(hr:∀b,row=some b->b<F)(ha:∀t∈fs,F<=rr t.2):jR W' F fs rr lv:=λt ht=>
 (h t ht).row hg (λb e=>⟨by have:=hr b e;have:=ha t ht;omega,hr b e⟩)
theorem jR.set_(h:jR W F fs rr lv){b:Nat}{ty:TypeId}{cb:Array Value}(hb:jh W b ty cb)(hne:158≠ty)(hne2:154≠ty)(hg:W.grownBy W' (some b)):jR W' F fs rr lv:=λt ht=>by
 refine(h t ht).grown hb hne ?_ hg
 obtain⟨A,n,c,A2,n2,c2,h1,_⟩:=h t ht
 intro e
 rw[e] at h1
 unfold jh at h1 hb
 rw[hb] at h1
 injection h1 with h1
 injection h1 with _ h1
 exact hne2 h1.symm
theorem zy7(fs:List (Int×Int))(rr:Int->Nat):(Qz fs rr).map (·.1)=fs.map (·.2):=by simp[Qz,Function.comp_def]
theorem jaz7{z:Value}:∀ {fs:List (Int×Int)} {t:Int×Int},t∈fs->zk0 (Qz fs rr) t.2 z=.pointer (some ⟨rr t.2,0,none⟩):=by
 intro fs t ht
 unfold zk0
 have h1:∀(fs:List (Int×Int)) (i:Nat),t∈fs->(JC (Qz fs rr) t.2 i).map (·.2)=some (.pointer (some ⟨rr t.2,0,none⟩)):=by
  intro fs
  induction fs with
  | nil=>intro i h;cases h
  | cons u fs ih=>
   intro i h
   show(if t.2=u.2 then _ else _:Option _).map _=_
   by_cases hu:t.2=u.2
   ·rw[if_pos hu,hu];rfl
   ·rw[if_neg hu]
    rcases List.mem_cons.1 h with rfl|h
    ·exact absurd rfl hu
    ·exact ih (i+1) h
 rw[h1 fs 0 ht];rfl
def upd(rr:Int->Nat)(n:Int)(r:Nat):Int->Nat:=λm=>if m=n then r else rr m
theorem jg9(rr:Int->Nat)(n:Int)(r:Nat):upd rr n r n=r:=if_pos rfl
theorem jp2(rr:Int->Nat){n m:Int}(r:Nat)(h:m≠n):upd rr n r m=rr m:=if_neg h
theorem jbn5{fs:List (Int×Int)}{t:Int×Int}(r:Nat)(hn:t.2∉fs.map (·.2)):jc9 (Qz fs rr) t.2 (.pointer (some ⟨r,0,none⟩))=Qz (fs++[t]) (upd rr t.2 r):=by
 rw[jaa8 _ _ _ (by rw[zy7];exact hn)]
 unfold Qz
 rw[List.map_append,List.map_cons,List.map_nil,jg9]
 congr 1
 apply List.map_congr_left
 intro u hu
 have:u.2≠t.2:=λe=>hn (List.mem_map.2 ⟨u,hu,e⟩)
 rw[jp2 _ _ this]
theorem jR.snoc{t:Int×Int}{r:Nat}(h:jR W F fs rr lv)(hr:jS W F r (zh t (lv t.2)) (qY t (lv t.2)) (96+16*lv t.2))(hn:t.2∉fs.map (·.2)):jR W F (fs++[t]) (upd rr t.2 r) lv:=by
 intro u hu
 rcases List.mem_append.1 hu with hu|hu
 ·have:u.2≠t.2:=λe=>hn (List.mem_map.2 ⟨u,hu,e⟩)
  rw[jp2 _ _ this]
  exact h u hu
 ·rw[List.mem_singleton] at hu
  subst hu
  rw[jg9]
  exact hr
theorem jp6.snoc{t:Int×Int}{r:Nat}(h:jp6 F fs rr)(hF:F<=r)(hn:t.2∉fs.map (·.2))(hr:∀u∈fs,rr u.2≠r):jp6 F (fs++[t]) (upd rr t.2 r):=by
 have hk:∀u∈fs,u.2≠t.2:=λu hu e=>hn (List.mem_map.2 ⟨u,hu,e⟩)
 refine⟨λu hu=>?_,λu hu v hv hne=>?_⟩
 ·rcases List.mem_append.1 hu with hu|hu
  ·rw[jp2 _ _ (hk u hu)];exact h.1 u hu
  ·rw[List.mem_singleton] at hu;subst hu;rw[jg9];exact hF
 ·rcases List.mem_append.1 hu with hu'|hu'<;>rcases List.mem_append.1 hv with hv'|hv'
  ·rw[jp2 _ _ (hk u hu'),jp2 _ _ (hk v hv')];exact h.2 u hu' v hv' hne
  ·rw[List.mem_singleton] at hv'
   rw[hv',jp2 _ _ (hk u hu'),jg9];exact hr u hu'
  ·rw[List.mem_singleton] at hu'
   rw[hu',jp2 _ _ (hk v hv'),jg9];exact λe=>hr v hv' e.symm
  ·rw[List.mem_singleton] at hu' hv';rw[hu',hv'] at hne;exact absurd rfl hne
end
def Jb(W:World)(b x y L:Nat):Prop:=∃(A:Option Addr) (n c:Nat) (A2:Option Addr) (n2 c2:Nat),jh W b 150 #[.slice A n c,.slice A2 n2 c2]/\LW W A n c x/\LW W A2 n2 c2 y/\n<=L/\n2<=L
section
variable {W W' : World} {b x y L : Nat}
theorem Jb.lt(h:Jb W b x y L):b<W.heap.size:=by obtain⟨_,_,_,_,_,_,h1,_⟩:=h;exact h1.lt
theorem Jb.below(h:Jb W b x y L)(hb:Below W.heap.size W W'):Jb W' b x y L:=by
 obtain⟨A,n,c,A2,n2,c2,h1,h2,h3,h4⟩:=h
 exact⟨A,n,c,A2,n2,c2,h1.below hb h1.lt,h2.below hb,h3.below hb,h4⟩
theorem Jb.grown(h:Jb W b x y L){b2:Nat}{t:TypeId}{cb:Array Value}(hb:jh W b2 t cb)(hne:158≠t)(hbb:b≠b2)(hg:W.grownBy W' (some b2)):Jb W' b x y L:=by
 obtain⟨A,n,c,A2,n2,c2,h1,h2,h3,h4⟩:=h
 exact⟨A,n,c,A2,n2,c2,h1.grown hg (λe=>hbb (by injection e with e;exact e.symm)),h2.grownB hb hne hg,h3.grownB hb hne hg,h4⟩
theorem Jb.more{L':Nat}(h:Jb W b x y L)(hL:L<=L'):Jb W b x y L':=by
 obtain⟨A,n,c,A2,n2,c2,h1,h2,h3,h4,h5⟩:=h
 exact⟨A,n,c,A2,n2,c2,h1,h2,h3,by omega,by omega⟩
theorem Jb.set_ {u v:Value} {A A2:Option Addr} {n c n2 c2:Nat} (hb:jh W b 150 #[u,v]) (hx:LW W A n c x) (hy:LW W A2 n2 c2 y) (hn:n<=L) (hn2:n2<=L) :
  Jb ((W.setCell ⟨b,0,none⟩ (.slice A n c)).setCell ⟨b,1,none⟩ (.slice A2 n2 c2)) b x y L:=by
 have h1:=hb.set_ 0 (.slice A n c)
 exact⟨A,n,c,A2,n2,c2,h1.set_ 1 _,(hx.setCell (p:=⟨b,0,none⟩) hb (by decide) _).setCell (p:=⟨b,1,none⟩) h1 (by decide) _,(hy.setCell (p:=⟨b,0,none⟩) hb (by decide) _).setCell (p:=⟨b,1,none⟩) h1 (by decide) _,hn,hn2⟩
theorem Jb.set_' {u v:Value} {A A2:Option Addr} {n c n2 c2:Nat} (hb:jh W b 150 #[u,v]) (hx:LW W A n c x) (hy:LW W A2 n2 c2 y) (hn:n<=L) (hn2:n2<=L) :
  Jb ((W.setCell ⟨b,1,none⟩ (.slice A2 n2 c2)).setCell ⟨b,0,none⟩ (.slice A n c)) b x y L:=by
 have h1:=hb.set_ 1 (.slice A2 n2 c2)
 exact⟨A,n,c,A2,n2,c2,h1.set_ 0 _,(hx.setCell (p:=⟨b,1,none⟩) hb (by decide) _).setCell (p:=⟨b,0,none⟩) h1 (by decide) _,(hy.setCell (p:=⟨b,1,none⟩) hb (by decide) _).setCell (p:=⟨b,0,none⟩) h1 (by decide) _,hn,hn2⟩
theorem Jb.new(W:World):Jb (W.alloc (.cells #[.slice none 0 0,.slice none 0 0] 150)) W.heap.size 0 0 0:=
 ⟨none,0,0,none,0,0,jh.new _ _ _,LW.nil_ _,LW.nil_ _,Nat.le_refl _,Nat.le_refl _⟩
end
theorem jbn2{w:World}{r b:Nat}{kv left:List (Int×Value)}{cur:Option (Int×Value)}(h:zK w r b kv left cur):(left.map (·.1)).Sublist (kv.map (·.1)):=by
 obtain⟨es,clk,since,seen,last,hrb,hb,hkv,hnd,hbn,hbl,h1,h2,hr,hl,hc⟩:=h
 have hs:((es.toList.filter (zW seen)).map (λe=>(e.key,e.val))).Sublist (es.toList.map (λe=>(e.key,e.val))):=List.Sublist.map _ List.filter_sublist
 rw[show(es.toList.filter (zW seen)).map (λe=>(e.key,e.val))=_ from hl,show es.toList.map (λe=>(e.key,e.val))=_ from hkv] at hs
 have h3:=List.Sublist.map (λp:Value×Value=>intOf p.1) hs
 simpa [Function.comp_def,intOf] using h3
theorem jm9{left:List (Int×Value)}{j:Nat}{p:Int×Value}(hp:left[j]?=some p)(hnd:(left.map (·.1)).Nodup)(n:Int):n∈(left.eraseIdx j).map (·.1)↔n∈left.map (·.1)/\n≠p.1:=by
 induction left generalizing j with
 | nil=>cases hp
 | cons q left ih=>
  simp only[List.map_cons,List.nodup_cons] at hnd
  cases j with
  | zero=>
   simp only[List.getElem?_cons_zero,Option.some.injEq] at hp
   subst hp
   simp only[List.eraseIdx_cons_zero,List.map_cons,List.mem_cons]
   constructor
   ·intro h;exact⟨.inr h,λe=>hnd.1 (e▸h)⟩
   ·rintro⟨h|h,h2⟩
    ·exact absurd h h2
    ·exact h
  | succ j=>
   simp only[List.getElem?_cons_succ] at hp
   have h1:=ih hp hnd.2
   have hqp:q.1≠p.1:=λe=>hnd.1 (by rw[e];exact List.mem_map.2 ⟨p,List.mem_of_getElem? hp,rfl⟩)
   simp only[List.eraseIdx_cons_succ,List.map_cons,List.mem_cons,h1]
   constructor
   ·rintro(h|h)
    ·exact⟨.inl h,by rw[h];exact hqp⟩
    ·exact⟨.inr h.1,h.2⟩
   ·rintro⟨h|h,h2⟩
    ·exact .inl h
    ·exact .inr ⟨h,h2⟩
def Jf(w2 W:World)(m P lev:Nat)(fs:List (Int×Int))(rr:Int->Nat)(A:Option Addr)(c k:Nat):Prop:=
 Jb W P (zv (fs.take k) lev) (Jg (fs.take k) lev) (97+16*lev+k)/\Jb W (P+1) (zw (fs.take k) lev) (Jh (fs.take k) lev) (97+16*lev+k)/\jt W m (Qz fs rr)/\jR W (m+1) fs rr (λ_=>lev) /\
  ji W m A fs.length c fs/\Below m w2 W/\m<P/\m<=w2.heap.size
section
variable {w2 W W' : World} {m P lev c k : Nat} {fs : List (Int × Int)} {rr : Int → Nat} {A : Option Addr}
theorem Jf.lt(h:Jf w2 W m P lev fs rr A c k):P+1<W.heap.size:=h.2.1.lt
theorem Jf.below(h:Jf w2 W m P lev fs rr A c k)(hb:Below W.heap.size W W'):Jf w2 W' m P lev fs rr A c k:=by
 have hlt:=h.lt
 obtain⟨h1,h2,h3,h4,h5,h6,h7,h8⟩:=h
 exact⟨h1.below hb,h2.below hb,h3.below hb (by omega),h4.below hb,Rd.below h5 (hb.mono (by omega)),h6.trans (hb.mono (by omega)),h7,h8⟩
theorem jaa5 {t:Int×Int} (lev:Nat) (ht:fs.take (k+1)=fs.take k++[t]) :
  (zv (fs.take (k+1)) lev=zv (fs.take k) lev+(if t.1<0 then 0 else zh t lev))/\(Jg (fs.take (k+1)) lev=Jg (fs.take k) lev+(if t.1<0 then 0 else Jr t lev)) /\
  (zw (fs.take (k+1)) lev=zw (fs.take k) lev+(if t.1<0 then zh t lev else 0))/\Jh (fs.take (k+1)) lev=Jh (fs.take k) lev+(if t.1<0 then Jr t lev else 0):=by
 unfold zv Jg zw Jh
 rw[ht]
 exact⟨QS _ _ _,QS _ _ _,QS _ _ _,QS _ _ _⟩
theorem Jf.pos {t:Int×Int} (h:Jf w2 W m P lev fs rr A c k) (ht:fs.take (k+1)=fs.take k++[t]) (h0:¬t.1<0) (hA:jp6 (m+1) fs rr)
  (hg:W.grownBy W' (some P)) (hs:Jb W' P (zv (fs.take k) lev+zh t lev) (Jg (fs.take k) lev+Jr t lev) (97+16*lev+k+1)):Jf w2 W' m P lev fs rr A c (k+1):=by
 obtain⟨e1,e2,e3,e4⟩:=jaa5 (fs:=fs) (k:=k) lev ht
 rw[if_neg h0] at e1 e2 e3 e4
 have hlt:=h.lt
 obtain⟨h1,h2,h3,h4,h5,h6,h7,h8⟩:=h
 unfold Jf
 rw[e1,e2,e3,e4]
 obtain⟨_,_,_,_,_,_,hbk,_⟩:=h1
 exact⟨hs,(h2.grown hbk (by decide) (by omega) hg).more (by omega),h3.grown hg (by simp;omega),h4.set_ hbk (by decide) (by decide) hg,Rd.grown h5 hg (by omega) (λj e=>by cases e;omega),h6.grown hg (by omega) (λj e=>by cases e;omega),h7,h8⟩
theorem Jf.neg {t:Int×Int} (h:Jf w2 W m P lev fs rr A c k) (ht:fs.take (k+1)=fs.take k++[t]) (h0:t.1<0) (hA:jp6 (m+1) fs rr)
  (hg:W.grownBy W' (some (P+1))) (hs:Jb W' (P+1) (zw (fs.take k) lev+zh t lev) (Jh (fs.take k) lev+Jr t lev) (97+16*lev+k+1)):Jf w2 W' m P lev fs rr A c (k+1):=by
 obtain⟨e1,e2,e3,e4⟩:=jaa5 (fs:=fs) (k:=k) lev ht
 rw[if_pos h0] at e1 e2 e3 e4
 have hlt:=h.lt
 obtain⟨h1,h2,h3,h4,h5,h6,h7,h8⟩:=h
 unfold Jf
 rw[e1,e2,e3,e4]
 obtain⟨_,_,_,_,_,_,hbk,_⟩:=h2
 exact⟨(h1.grown hbk (by decide) (by omega) hg).more (by omega),hs,h3.grown hg (by simp;omega),h4.set_ hbk (by decide) (by decide) hg,Rd.grown h5 hg (by omega) (λj e=>by cases e;omega),h6.grown hg (by omega) (λj e=>by cases e;omega),h7,h8⟩
end
def jg1(left:List (Int×Value))(lev:Nat):Int->Nat:=λn=>if n∈left.map (·.1)then lev else lev+1
def qv(W:World)(F:Nat)(fs:List (Int×Int))(rr lv:Int->Nat)(n:Int):Prop:=∀u∈fs,u.2≠n->jS W F (rr u.2) (zh u (lv u.2)) (qY u (lv u.2)) (96+16*lv u.2)
section
variable {W W' : World} {F L lev : Nat} {fs : List (Int × Int)} {rr lv : Int → Nat}
theorem jch8(h:(fs.map (·.2)).Nodup){t u:Int×Int}(ht:t∈fs)(hu:u∈fs)(e:t.2=u.2):t=u:=by
 obtain⟨i,hi,rfl⟩:=List.mem_iff_getElem.1 ht
 obtain⟨j,hj,rfl⟩:=List.mem_iff_getElem.1 hu
 have h1:(fs.map (·.2))[i]?=(fs.map (·.2))[j]?:=by
  rw[List.getElem?_map,List.getElem?_map,List.getElem?_eq_getElem hi,List.getElem?_eq_getElem hj]
  simp[e]
 have h2:=(List.getElem?_inj (by simpa using hi) h).1 h1
 subst h2;rfl
theorem qv.grown{t:Int×Int}(h:qv W F fs rr lv t.2)(ht:t∈fs)(hA:jp6 F fs rr){R T L2:Nat}(hb:jS W F (rr t.2) R T L2)(hg:W.grownBy W' (some (rr t.2))):qv W' F fs rr lv t.2:=by
 obtain⟨_,_,_,_,_,_,hbk,_⟩:=hb
 intro u hu hne
 exact(h u hu hne).grown hbk (by decide) (hA.2 u hu t ht hne) hg
theorem qv.of(h:jR W F fs rr lv)(n:Int):qv W F fs rr lv n:=λu hu _=>h u hu
theorem zK.root{it m:Nat}{kv left:List (Int×Value)}{cur:Option (Int×Value)}(h:zK W it m kv left cur){r R T L2:Nat}(hb:jS W F r R T L2)(hm:m<F)(hF:F<=r)(hg:W.grownBy W' (some r)):zK W' it m kv left cur:=by
 have hl:=h.lt
 have hne:it≠r:=by
  intro e
  obtain⟨_,_,_,_,_,_,hbk,_⟩:=hb
  obtain⟨es,clk,since,seen,last,_,_,_,_,_,_,_,_,hr,_⟩:=h
  unfold jh at hbk
  rw[<-e,hr] at hbk
  injection hbk with hbk
  injection hbk
 exact h.of_blocks (hg.block it hl.1 (λe=>hne (by injection e))) (hg.block m hl.2 (λe=>by injection e with e;omega))
theorem jR.step {t:Int×Int} {left:List (Int×Value)} {j:Nat} {p:Int×Value} (h:qv W F fs rr (jg1 left lev) t.2) (hb:jS W F (rr t.2) (zh t (lev+1)) (qY t (lev+1)) (96+16*(lev+1)))
  (hn:(fs.map (·.2)).Nodup) (ht:t∈fs) (hp:left[j]?=some p) (hpt:p.1=t.2) (hnl:(left.map (·.1)).Nodup):jR W F fs rr (jg1 (left.eraseIdx j) lev):=by
 intro u hu
 by_cases e:u.2=t.2
 ·have:=jch8 hn hu ht e
  subst this
  have h1:jg1 (left.eraseIdx j) lev u.2=lev+1:=by
   unfold jg1
   rw[if_neg]
   intro hm
   exact((jm9 hp hnl _).1 hm).2 hpt.symm
  rw[h1];exact hb
 ·have h1:jg1 (left.eraseIdx j) lev u.2=jg1 left lev u.2:=by
   unfold jg1
   by_cases hm:u.2∈left.map (·.1)
   ·rw[if_pos hm,if_pos ((jm9 hp hnl _).2 ⟨hm,by rw[hpt];exact e⟩)]
   ·rw[if_neg hm,if_neg (λh2=>hm ((jm9 hp hnl _).1 h2).1)]
  rw[h1];exact h u hu e
theorem jcb3{p:Int×Value}(h:p∈Qz fs rr):∃t∈fs,p=(t.2,.pointer (some ⟨rr t.2,0,none⟩)):=by
 obtain⟨t,ht,e⟩:=List.mem_map.1 h
 exact⟨t,ht,e.symm⟩
end
theorem jS.iter{W W':World}{F r R T L it m:Nat}(h:jS W F r R T L){kv left:List (Int×Value)}{cur:Option (Int×Value)}(hi:zK W it m kv left cur)(hg:W.grownBy W' (some it)):jS W' F r R T L:=by
 obtain⟨A,n,c,A2,n2,c2,h1,h2,h3,h4,h5,h6,h7⟩:=h
 obtain⟨es,clk,since,seen,last,_,_,_,_,_,_,_,_,hr,_⟩:=hi
 have hne:∀ad:Addr,(∃cs' e fz,W.heap[ad.block]?=some (.cells cs' e fz))->ad.block≠it:=by
  rintro ad ⟨cs',e,fz,h8⟩ e
  rw[e,hr] at h8
  injection h8 with h8
  injection h8
 refine⟨A,n,c,A2,n2,c2,h1.grown hg (λe=>hne ⟨r,0,none⟩ ⟨_,_,_,h1⟩ (by injection e with e;exact e.symm)),h2.grown hg (λad ha e=>?_),h3.grown hg (λad ha e=>?_),h4,h5,h6,h7⟩
 ·obtain⟨cs',fz,h8⟩:=h2.2 ad ha
  exact hne ad ⟨_,_,_,h8⟩ (by injection e)
 ·obtain⟨cs',fz,h8⟩:=h3.2 ad ha
  exact hne ad ⟨_,_,_,h8⟩ (by injection e)
