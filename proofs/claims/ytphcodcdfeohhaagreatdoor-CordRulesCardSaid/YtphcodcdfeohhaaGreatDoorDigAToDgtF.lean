import Derived.Test.YtphcodcdfeohhaaGreatDoorMakeAToCardI
set_option linter.all false
namespace Go.Proofs.YtphcodcdfeohhaaGreatDoor
set_option maxRecDepth 100000
set_option maxHeartbeats 4000000
def jj:List Int->Int
 | []=>0
 | d::l=>d*10 ^ l.length+jj l
def zD(l:List Int):Prop:=∀d∈l,0<=d/\d<=9
theorem zD.nil:zD []:=λ_ h=>by cases h
theorem zD.cons{d:Int}{l:List Int}(hd:0<=d/\d<=9)(h:zD l):zD (d::l):=λx hx=>by
 rcases List.mem_cons.1 hx with rfl|hx
 ·exact hd
 ·exact h x hx
theorem zD.tail{d:Int}{l:List Int}(h:zD (d::l)):zD l:=λx hx=>h x (by simp[hx])
theorem zD.head{d:Int}{l:List Int}(h:zD (d::l)):0<=d/\d<=9:=h d (by simp)
theorem zD.append{a b:List Int}(ha:zD a)(hb:zD b):zD (a++b):=λx hx=>(List.mem_append.1 hx).elim (ha x) (hb x)
theorem zD.left{a b:List Int}(h:zD (a++b)):zD a:=λx hx=>h x (by simp[hx])
theorem zD.right{a b:List Int}(h:zD (a++b)):zD b:=λx hx=>h x (by simp[hx])
theorem zD.at_{l:List Int}(h:zD l){i:Nat}(hi:i<l.length):0<=l[i]/\l[i]<=9:=h _ (List.getElem_mem hi)
theorem zD.zeros(n:Nat):zD (List.replicate n 0):=λx hx=>by
 rw[(List.mem_replicate.1 hx).2];omega
theorem zA(n:Nat):(0:Int)<10 ^ n:=Int.pow_pos (by decide)
theorem qU(n:Nat):(10:Int) ^ (n+1)=10 ^ n*10:=Int.pow_succ 10 n
theorem Jv:∀(a b:List Int),jj (a++b)=jj a*10 ^ b.length+jj b
 | [],b=>by simp[jj]
 | d::a,b=>by
  show d*10 ^ (a++b).length+jj (a++b)=(d*10 ^ a.length+jj a)*10 ^ b.length+jj b
  rw[Jv a b,List.length_append,Int.pow_add]
  grind
theorem QU(a:List Int)(d:Int):jj (a++[d])=jj a*10+d:=by
 rw[Jv];simp[jj]
theorem zQ(d:Int)(l:List Int):jj (d::l)=d*10 ^ l.length+jj l:=rfl
theorem ZR(l:List Int):jj (0::l)=jj l:=by rw[zQ];omega
theorem jp3:∀(n:Nat) (l:List Int),jj (List.replicate n 0++l)=jj l
 | 0,l=>rfl
 | n+1,l=>by
  rw[List.replicate_succ,List.cons_append,ZR,jp3 n l]
theorem zD.bounds:∀ {l:List Int},zD l->0<=jj l/\jj l<10 ^ l.length
 | [],_=>by simp[jj]
 | d::l,h=>by
  have h1:=zD.bounds h.tail
  have h2:=h.head
  rw[zQ,List.length_cons,qU]
  have h3:=zA l.length
  have h4:=Int.mul_nonneg h2.1 (Int.le_of_lt h3)
  have h5:=Int.mul_le_mul_of_nonneg_right h2.2 (Int.le_of_lt h3)
  omega
theorem jat9{p a b:List Int}{x y:Int}(ha:zD a)(hb:zD b)(hl:a.length=b.length)(h:x<y):jj (p++x::a)<jj (p++y::b):=by
 rw[Jv,Jv,zQ,zQ,List.length_cons,List.length_cons,hl]
 have h1:=ha.bounds
 have h2:=hb.bounds
 rw[hl] at h1
 have h3:=Int.mul_le_mul_of_nonneg_right (show x+1<=y by omega) (Int.le_of_lt (zA b.length))
 rw[Int.add_mul,Int.one_mul] at h3
 omega
theorem jab0:∀ {l:List Int},zD l->jj l=0->∀d∈l,d=0
 | [],_,_,d,h=>by cases h
 | x::l,h,h0,d,hd=>by
  have h1:=h.tail.bounds
  have h2:=Int.mul_nonneg h.head.1 (Int.le_of_lt (zA l.length))
  rw[zQ] at h0
  have hx:x=0:=by
   rcases Int.lt_or_le 0 x with h3|h3
   ·have:=Int.mul_pos h3 (zA l.length);omega
   ·have:=h.head.1;omega
  rcases List.mem_cons.1 hd with rfl|hd
  ·exact hx
  ·exact jab0 h.tail (by omega) d hd
theorem jcg3{l:List Int}(h:zD l)(ht:∀d t,l=d::t->d≠0):jj l=0↔l=[]:=by
 constructor
 ·intro h0
  cases l with
  | nil=>rfl
  | cons d t=>exact absurd (jab0 h h0 d (by simp)) (ht d t rfl)
 ·rintro rfl;rfl
structure SqAt(V R T:Int):Prop where
 eq:R*R+T=V
 le:T<=2*R
 t0:0<=T
 r0:0<=R
theorem SqAt.start:SqAt 0 0 0:=⟨by omega,by omega,by omega,by omega⟩
theorem SqAt.step{V R T p d:Int}(h:SqAt V R T)(hp:0<=p/\p<=99)(hd:0<=d/\d<=9)(h1:(20*R+d)*d<=100*T+p)(h2:d=9\/100*T+p<(20*R+(d+1))*(d+1)):SqAt (100*V+p) (10*R+d) (100*T+p-(20*R+d)*d):=by
 obtain⟨e,l,t0,r0⟩:=h
 have e1:(10*R+d)*(10*R+d)=100*(R*R)+(20*R+d)*d:=by grind
 refine⟨by rw[e1];omega,?_,by omega,by omega⟩
 rcases h2 with rfl|h2
 ·have e2:(20*R+9)*9=180*R+81:=by grind
  omega
 ·have e2:(20*R+(d+1))*(d+1)=(20*R+d)*d+20*R+2*d+1:=by grind
  omega
theorem SqAt.lt{V R T:Int}(h:SqAt V R T):R*R<=V/\V<(R+1)*(R+1):=by
 obtain⟨e,l,t0,r0⟩:=h
 have:(R+1)*(R+1)=R*R+2*R+1:=by grind
 omega
theorem SqAt.unique{V R T R' T':Int}(h:SqAt V R T)(h':SqAt V R' T'):R=R'/\T=T':=by
 have a:=h.lt;have b:=h'.lt
 have:R=R':=by
  rcases Int.lt_trichotomy R R' with h1|h1|h1
  ·have:=Int.mul_le_mul (show R+1<=R' by omega) (show R+1<=R' by omega) (by have:=h.r0;omega) h'.r0;omega
  ·exact h1
  ·have:=Int.mul_le_mul (show R'+1<=R by omega) (show R'+1<=R by omega) (by have:=h'.r0;omega) h.r0;omega
 subst this
 exact⟨rfl,by have:=h.eq;have:=h'.eq;omega⟩
theorem ja1{o:List Int}{c:Int}(hc:0<=c)(ho:zD o):zD (c % 10::o)/\jj (c % 10::o)+c/10*10 ^ (o.length+1)=c*10 ^ o.length+jj o/\0<=c/10:=by
 refine⟨ho.cons ⟨by omega,by omega⟩,?_,by omega⟩
 rw[zQ,qU]
 have h:=Int.emod_add_mul_ediv c 10
 have e:c % 10*10 ^ o.length+jj o+c/10*(10 ^ o.length*10)=(c % 10+10*(c/10))*10 ^ o.length+jj o:=by grind
 rw[e,h]
structure TimesI(a:List Int)(n:Int)(i:Nat)(carry:Int)(o:List Int):Prop where
 dig:zD o
 len:o.length+i=a.length
 val:jj o+carry*10 ^ o.length=n*jj (a.drop i)
 c0:0<=carry
 c1:carry<=n
theorem TimesI.start(a:List Int){n:Int}(hn:0<=n):TimesI a n a.length 0 []:=⟨zD.nil,by simp,by simp[jj],by omega,hn⟩
theorem TimesI.step{a:List Int}{n carry:Int}{i:Nat}{o:List Int}(ha:zD a)(hn:0<=n)(h:TimesI a n (i+1) carry o)(hi:i<a.length):TimesI a n i ((carry+a[i]*n)/10) ((carry+a[i]*n) % 10::o):=by
 obtain⟨h1,h2,h3,h4,h5⟩:=h
 have hd:=ha.at_ hi
 have m1:=Int.mul_nonneg hd.1 hn
 have m2:=Int.mul_le_mul_of_nonneg_right hd.2 hn
 obtain⟨g1,g2,g3⟩:=ja1 (c:=carry+a[i]*n) (by omega) h1
 refine⟨g1,by simp;omega,?_,g3,by omega⟩
 rw[List.length_cons,g2,List.drop_eq_getElem_cons hi,zQ,show(a.drop (i+1)).length=o.length by rw[List.length_drop];omega,Int.add_mul,Int.mul_add]
 have e:n*(a[i]*10 ^ o.length)=a[i]*n*10 ^ o.length:=by grind
 rw[e]
 omega
structure TimesE(a:List Int)(n:Int)(carry:Int)(o:List Int):Prop where
 dig:zD o
 len:a.length<=o.length
 val:jj o+carry*10 ^ o.length=n*jj a
 c0:0<=carry
theorem TimesI.all{a:List Int}{n carry:Int}{o:List Int}(h:TimesI a n 0 carry o):TimesE a n carry o:=⟨h.dig,by have:=h.len;omega,by have:=h.val;rwa [List.drop_zero] at this,h.c0⟩
theorem TimesE.step{a:List Int}{n carry:Int}{o:List Int}(h:TimesE a n carry o):TimesE a n (carry/10) (carry % 10::o):=by
 obtain⟨h1,h2,h3,h4⟩:=h
 obtain⟨g1,g2,g3⟩:=ja1 (c:=carry) h4 h1
 exact⟨g1,by simp;omega,by rw[List.length_cons,g2];omega,g3⟩
theorem TimesE.done{a:List Int}{n:Int}{o:List Int}(h:TimesE a n 0 o):jj o=n*jj a:=by have:=h.val;omega
structure AddI(x y:List Int)(i:Nat)(carry:Int)(z:List Int):Prop where
 len:z.length=x.length
 front:z.take i=x.take i
 dig:zD (z.drop i)
 val:jj (z.drop i)+carry*10 ^ (z.length-i)=jj (x.drop i)+jj (y.drop i)
 c:0<=carry/\carry<=1
theorem AddI.start(x y:List Int)(hl:x.length=y.length):AddI x y x.length 0 x:=⟨rfl,rfl,by simp[zD],by rw[List.drop_length,hl,List.drop_length];simp[jj],by omega⟩
theorem jaa0{z:List Int}{i:Nat}{c:Int}:(z.set i c).take i=z.take i:=by rw[List.take_set_of_le (Nat.le_refl _)]
theorem jj5{z:List Int}{i:Nat}{c:Int}(hi:i<z.length):(z.set i c).drop i=c::z.drop (i+1):=by
 rw[List.drop_eq_getElem_cons (by simpa using hi),List.getElem_set_self,List.drop_set_of_lt (by omega)]
theorem jh4{x z:List Int}{i:Nat}(h:z.take (i+1)=x.take (i+1))(hx:i<x.length)(hz:i<z.length):z[i]=x[i]:=by
 have h1:=congrArg (λl=>l[i]?) h
 simpa [List.getElem?_take,hx,hz] using h1
theorem AddI.step {x y z:List Int} {i:Nat} {carry:Int} (hx:zD x) (hy:zD y) (hl:x.length=y.length) (h:AddI x y (i+1) carry z) (hi:i<x.length) :
  ∃(h1:i<z.length) (h2:i<y.length),AddI x y i ((carry+(z[i]+y[i]))/10) (z.set i ((carry+(z[i]+y[i])) % 10)):=by
 obtain⟨l,f,d,v,c⟩:=h
 have h1:i<z.length:=by omega
 have h2:i<y.length:=by omega
 refine⟨h1,h2,?_⟩
 have e:=jh4 f hi h1
 rw[e]
 have dx:=hx.at_ hi
 have dy:=hy.at_ h2
 obtain⟨g1,g2,g3⟩:=ja1 (c:=carry+(x[i]+y[i])) (by omega) d
 refine⟨by simp[l],?_,by rw[jj5 h1];exact g1,?_,by omega⟩
 ·rw[jaa0]
  have:=congrArg (List.take i) f
  simpa [List.take_take,Nat.min_eq_left (Nat.le_succ i)] using this
 ·have l1:(x.drop (i+1)).length=(z.drop (i+1)).length:=by rw[List.length_drop,List.length_drop,l]
  have l2:(y.drop (i+1)).length=(z.drop (i+1)).length:=by rw[List.length_drop,List.length_drop,l,hl]
  have l3:z.length-i=(z.drop (i+1)).length+1:=by rw[List.length_drop];omega
  rw[show z.length-(i+1)=(z.drop (i+1)).length from(List.length_drop ..).symm] at v
  rw[List.length_set,jj5 h1,l3,g2,List.drop_eq_getElem_cons hi,List.drop_eq_getElem_cons h2,zQ,zQ,l1,l2]
  generalize (10:Int) ^ (z.drop (i+1)).length=q at *
  have e3:(carry+(x[i]+y[i]))*q=carry*q+x[i]*q+y[i]*q:=by grind
  omega
theorem AddI.done{x y z:List Int}{carry:Int}{m:Nat}(hx:jj x<10 ^ m)(hy:jj y<10 ^ m)(hm:z.length=m+1)(h:AddI x y 0 carry z):zD z/\jj z=jj x+jj y:=by
 obtain⟨l,f,d,v,c⟩:=h
 rw[List.drop_zero,List.drop_zero,List.drop_zero,Nat.sub_zero] at v
 rw[List.drop_zero] at d
 refine⟨d,?_⟩
 have h0:carry=0:=by
  rcases Int.lt_or_le 0 carry with h|h
  ·exfalso
   have:carry=1:=by omega
   rw[this,hm,qU] at v
   have:=d.bounds
   have:=zA m
   omega
  ·omega
 rw[h0] at v
 omega
structure SubI(x y:List Int)(i:Nat)(borrow:Int)(z:List Int):Prop where
 len:z.length=x.length
 front:z.take i=x.take i
 dig:zD (z.drop i)
 val:jj (z.drop i)-borrow*10 ^ (z.drop i).length=jj (x.drop i)-jj (y.drop i)
 b:borrow=0\/borrow=1
theorem SubI.start(x y:List Int)(hl:x.length=y.length):SubI x y x.length 0 x:=⟨rfl,rfl,by simp[zD],by rw[List.drop_length,hl,List.drop_length];simp[jj],.inl rfl⟩
theorem SubI.step {x y z:List Int} {i:Nat} {borrow r b':Int} (hx:zD x) (hy:zD y) (hl:x.length=y.length) (h:SubI x y (i+1) borrow z) (hi:i<x.length) (h1:i<z.length) (h2:i<y.length)
  (hr:(z[i]-(y[i]+borrow)<0/\r=z[i]-(y[i]+borrow)+10/\b'=1)\/(¬z[i]-(y[i]+borrow)<0/\r=z[i]-(y[i]+borrow)/\b'=0)):SubI x y i b' (z.set i r):=by
 obtain⟨l,f,d,v,c⟩:=h
 have e:=jh4 f hi h1
 rw[e] at hr
 have dx:=hx.at_ hi
 have dy:=hy.at_ h2
 have hr0:0<=r/\r<=9:=by omega
 have hrv:r-10*b'=x[i]-y[i]-borrow:=by omega
 refine⟨by simp[l],?_,by rw[jj5 h1];exact d.cons hr0,?_,by omega⟩
 ·rw[jaa0]
  have:=congrArg (List.take i) f
  simpa [List.take_take,Nat.min_eq_left (Nat.le_succ i)] using this
 ·have l1:(x.drop (i+1)).length=(z.drop (i+1)).length:=by rw[List.length_drop,List.length_drop,l]
  have l2:(y.drop (i+1)).length=(z.drop (i+1)).length:=by rw[List.length_drop,List.length_drop,l,hl]
  rw[jj5 h1,List.drop_eq_getElem_cons hi,List.drop_eq_getElem_cons h2,zQ,zQ,zQ,l1,l2,List.length_cons,qU]
  generalize (10:Int) ^ (z.drop (i+1)).length=q at *
  have e3:r*q-b'*(q*10)=(r-10*b')*q:=by grind
  have e4:(x[i]-y[i]-borrow)*q=x[i]*q-y[i]*q-borrow*q:=by grind
  rw[hrv,e4] at e3
  omega
theorem SubI.done{x y z:List Int}{borrow:Int}(h:SubI x y 0 borrow z)(hx:jj y<=jj x):zD z/\jj z=jj x-jj y:=by
 obtain⟨l,f,d,v,c⟩:=h
 rw[List.drop_zero] at v d
 rw[List.drop_zero,List.drop_zero] at v
 have:=d.bounds
 refine⟨d,?_⟩
 rcases c with rfl|rfl<;>omega
theorem zm0{o s:List Int}{d:Int}{t:List Int}{l:List Int}{j:Nat}(hj:j<l.length)(hd:l[j]=d)(hs:jj s=jj o*jj (l.take j))(ht:jj t=jj (s++[0])+d*jj o):jj t=jj o*jj (l.take (j+1)):=by
 rw[ht,List.take_succ_eq_append_getElem hj,QU,QU,hs,hd,Int.mul_add]
 grind
structure FitI(R T:Int)(next d part:Int):Prop where
 d0:0<=d
 nx:next=d+1
 n9:next<=10
 pt:part=(20*R+d)*d
 fits:part<=T
theorem FitI.start{R T:Int}(hT:0<=T):FitI R T 1 0 0:=⟨by omega,by omega,by omega,by omega,hT⟩
theorem FitI.step{R T next d part p:Int}(h:FitI R T next d part)(h9:next<=9)(hp:p=(20*R+next)*next)(hf:p<=T):FitI R T (next+1) next p:=by
 obtain⟨a,b,c,e,f⟩:=h
 exact⟨by omega,rfl,by omega,hp,hf⟩
theorem FitI.last{V R P p next d part:Int}(hs:SqAt V R P)(hp:0<=p/\p<=99)(h:FitI R (100*P+p) next d part)(he:9<next\/(next<=9/\100*P+p<(20*R+next)*next)):0<=d/\d<=9/\SqAt (100*V+p) (10*R+d) (100*P+p-part):=by
 obtain⟨a,b,c,e,f⟩:=h
 subst b
 refine⟨a,by omega,?_⟩
 rw[e]
 refine hs.step hp ⟨a,by omega⟩ (by omega) ?_
 rcases he with he|he
 ·exact .inl (by omega)
 ·exact .inr he.2
open Go Go.RowKit
abbrev zd(B:Nat)(v:Value)(l:List Int)(W:World):Prop:=W.ownsRow B 3 1 v l.length (l.map (Value.int .i64))
theorem zd.read{B:Nat}{A:Option Addr}{n c:Nat}{l:List Int}{W:World}(h:W.ownsRow B 3 1 (.slice A n c) n (l.map (Value.int .i64))):jP W W.heap.size A n c l:=Rq.of (Rd.of_own h)
theorem js4(l:List Int):∀u∈l.map (Value.int .i64),u.oneCell'=true:=λu hu=>by
 obtain⟨x,_,rfl⟩:=List.mem_map.1 hu;rfl
theorem Tryz.infoIntD:(Tryz.prog.info? 3).map (λi=>(i.zero,i.size,i.bytes))=some (some (.int .i64 0),1,8):=by kernel_rfl
theorem qt(base:Nat)(w:World)(d:Int)(hb:base<=w.heap.size):(w.alloc (.cells #[.int .i64 d] 3)).ownsRow base 3 1 (.slice (some ⟨w.heap.size,0,none⟩) 1 1) 1 [.int .i64 d]:=
 World.ownsRow_lit (base:=base) (e:=3) (size:=1) w #[.int .i64 d] 1 hb (by unfold maxLen;omega) rfl
theorem Js {ops:Array Oper} {rest:List Oper} {o:Oper} {a:Act} {Q:Exit->Act->World->Prop} {w:World} (hgd:o.guard=none) (s x:Operand)
  (ho:o.op=.call { callee:=.builtin .append,args:=#[s,x],argTypes:=#[52,52] }) (d:Int) (base:Nat) (A:Option Addr) (n c:Nat) (l:List Int)
  (hs:a.eval s=.slice (some ⟨w.heap.size,0,none⟩) 1 1) (hx:a.eval x=.slice A n c) (hl:jP w w.heap.size A n c l) (hb:base<=w.heap.size) (hn:n<=15000000000000)
  (h:∀A' c' w',w'.ownsRow base 3 1 (.slice A' (n+1) c') (n+1) ((d::l).map (Value.int .i64))->Below w.heap.size w w'->wpList Tryz.prog ops Q rest (a.put o.dst (.slice A' (n+1) c')) w') :
  wpList Tryz.prog ops Q (o::rest) a (w.alloc (.cells #[.int .i64 d] 3)):=by
 obtain⟨i1,hi1,hy0,hy1,hy2⟩:=info_parts Tryz.infoIntD
 refine Zt hgd s x 52 ho base 3 i1 (.int .i64 0) 1 8 Tryz.underlying52 hi1 hy0 hy1 hy2 rfl (by decide) _ 1 [.int .i64 d] hs (qt base w d hb) A n c w.heap.size (l.map (Value.int .i64)) hx (Rq.alloc hl (Nat.le_refl _) _) (js4 l) (by unfold maxLen;omega) (by omega) (by rw[World.size_alloc];omega) ?_
 intro A' c' w' h1 h2
 rw[Nat.add_comm 1 n] at h1 ⊢
 exact h A' c' w' h1 (((Below.refl w.heap.size w).alloc (Nat.le_refl _) _).grown h2 (by rw[World.size_alloc];omega) (λj e=>by
  have:w.heap.size=j:=by simpa [Value.ownBlock] using e
  omega))
theorem jcs0{k:Nat}(h:(10:Int) ^ k<=9223372036854775807):k<=18:=by
 rcases Nat.lt_or_ge 18 k with h1|h1
 ·exfalso
  obtain⟨j,rfl⟩:=Nat.exists_eq_add_of_le (show 19<=k from h1)
  rw[Int.pow_add] at h
  have h2:=Int.mul_le_mul_of_nonneg_left (show(1:Int)<=10 ^ j from zA j) (show(0:Int)<=10 ^ 19 by decide)
  have h3:(10:Int) ^ 19=10000000000000000000:=by decide
  omega
 ·exact h1
def jav7(w:World)(n0:Int)(e:Ending)(w':World):Prop:=
 ∃(l:List Int) (A:Option Addr) (c:Nat),e=.returned (.slice A l.length c)/\zd w.heap.size (.slice A l.length c) l w'/\zD l/\jj l=n0/\l.length % 2=0/\l.length<=20/\Below w.heap.size w w'
theorem jr4(n0:Int)(w:World)(h0:0<=n0)(h1:n0<=9223372036854775807):Calls Tryz.prog 134 #[.int .i64 n0] w (jav7 w n0):=by
 go_enter Tryz.func134,Tryz.ntmps134
 go_wp2
 go_loopw [0,3] (λnv o W=>∃(m:Int) (l:List Int) (A:Option Addr) (c:Nat),nv=.int .i64 m/\o=.slice A l.length c/\0<=m/\zD l/\jj l+m*10 ^ l.length=n0/\l.length<=20/\zd w.heap.size (.slice A l.length c) l W/\Below w.heap.size w W) (λnv o _=>2*(intOf nv).toNat+(match o with|.slice _ n _=>n % 2|_=>0))
 case atStart=>exact⟨n0,[],some ⟨w.heap.size,0,none⟩,0,rfl,rfl,h0,zD.nil,by simp[jj],by simp,World.ownsRow_lit (base:=w.heap.size) (e:=3) (size:=1) w #[] 0 (Nat.le_refl _) (by unfold maxLen;omega) rfl,(Below.refl _ _).alloc (Nat.le_refl _) _⟩
 case round=>
  obtain⟨m,l,A,c,rfl,rfl,hm,hdg,hv,hlen,hrow,hbel⟩:=hrel
  have HROW:=ja hrow
  have HB:=ja hbel
  have HQ:=ja (zd.read hrow)
  have hbs:=hbel.size
  clear hrow hbel
  by_cases hp:0<m
  ·have hb:=hdg.bounds
   have h18:l.length<=18:=jcs0 (by
    have h2:=Int.mul_le_mul_of_nonneg_right (show(1:Int)<=m from hp) (Int.le_of_lt (zA l.length))
    rw[Int.one_mul] at h2
    omega)
   obtain⟨g1,g2,g3⟩:=ja1 (c:=m) hm hdg
   have hmb:=Int.mul_le_mul_of_nonneg_left (show(1:Int)<=10 ^ l.length from zA l.length) hm
   have hm63:m<=9223372036854775807:=by rw[Int.mul_one] at hmb;omega
   clear hmb
   have HG:=ja (And.intro g1 g2)
   clear g1 g2 g3 hb hdg
   go_wp2_with (first
    | (at_builtin;refine Js rfl _ _ rfl (m % 10) w.heap.size A l.length c l rfl rfl HQ.o hbs (by omega) ?_;intro A' c' w' ho hb;have HROW2:=ja ho;have HB2:=ja (HB.o.trans (hb.mono hbs));clear ho hb))
   refine⟨⟨m/10,m % 10::l,A',c',rfl,rfl,by omega,HG.o.1,?_,by simp;omega,HROW2.o,HB2.o⟩,by simp[intOf];omega⟩
   have:=HG.o.2
   rw[List.length_cons]
   omega
  ·obtain rfl:m=0:=by omega
   have hv0:jj l=n0:=by omega
   by_cases ho:l.length % 2=1
   ·have e1:(l.length:Int) % 2=1:=by omega
    have e2:(l.length:Int).tmod 2=1:=by rw[Int.tmod_eq_emod_of_nonneg (by omega)];omega
    have HDG:=ja hdg
    have HV:=ja hv0
    clear hdg hv hv0
    go_wp2_with (first
     | (at_builtin;refine Js rfl _ _ rfl 0 w.heap.size A l.length c l rfl rfl HQ.o hbs (by omega) ?_;intro A' c' w' ho hb;have HROW2:=ja ho;have HB2:=ja (HB.o.trans (hb.mono hbs));clear ho hb))
    exact⟨⟨0,0::l,A',c',by go_num,rfl,by omega,HDG.o.cons (by omega),by rw[ZR,HV.o];omega,by simp;omega,HROW2.o,HB2.o⟩,by simp[intOf];omega⟩
   ·have e1:(l.length:Int) % 2=0:=by omega
    have e2:(l.length:Int).tmod 2=0:=by rw[Int.tmod_eq_emod_of_nonneg (by omega)];omega
    go_wp2
    go_ret
    exact⟨l,A,c,rfl,HROW.o,hdg,hv0,by omega,hlen,HB.o⟩
def jbk1(w:World)(l:List Int)(n:Int)(e:Ending)(w':World):Prop:=
 ∃(o:List Int) (A:Option Addr) (c:Nat),e=.returned (.slice A o.length c)/\zd w.heap.size (.slice A o.length c) o w'/\zD o/\jj o=n*jj l/\o.length<=l.length+2/\Below w.heap.size w w'
def QX(l:List Int)(n i carry:Int)(o:List Int):Prop:=
 (∃k:Nat,i=(k:Int)/\k<l.length/\TimesI l n (k+1) carry o)\/(TimesE l n carry o/\∃s:Nat,i=-1-(s:Int)/\o.length=l.length+s/\((s=0/\carry<=10)\/(s=1/\carry<=1)\/(s=2/\carry=0)))
theorem QX.len{l o:List Int}{n i carry:Int}(h:QX l n i carry o):o.length<=l.length+2:=by
 rcases h with⟨k,_,_,h⟩|⟨_,s,_,h,h2⟩
 ·have:=h.len;omega
 ·omega
theorem QX.start(l:List Int){n:Int}(hn:0<=n):QX l n ((l.length:Int)-1) 0 []:=by
 cases l with
 | nil=>exact .inr ⟨(TimesI.start [] hn).all,0,by simp,rfl,.inl ⟨rfl,by omega⟩⟩
 | cons d t=>exact .inl ⟨t.length,by simp,by simp,TimesI.start (d::t) hn⟩
theorem QX.more{l o:List Int}{n carry:Int}{k:Nat}(hk:k<l.length)(h:TimesI l n k carry o)(hn:n<=10):QX l n ((k:Int)-1) carry o:=by
 cases k with
 | zero=>exact .inr ⟨h.all,0,by omega,by have:=h.len;omega,.inl ⟨rfl,by have:=h.c1;omega⟩⟩
 | succ k=>exact .inl ⟨k,by omega,by omega,h⟩
theorem JS (A0:Option Addr) (n0 c0 B:Nat) (l:List Int) (n:Int) (w:World) (hq:jP w B A0 n0 c0 l) (hB:B<=w.heap.size) (hd:zD l) (hn:0<=n/\n<=10) (hl:n0<=14000000000000) :
  Calls Tryz.prog 132 #[.slice A0 n0 c0,.int .i64 n] w (jbk1 w l n):=by
 obtain rfl:=hq.len
 have HQ0:=ja (λW (hb:Below w.heap.size w W)=>Rq.below hq (hb.mono hB))
 clear hq
 go_enter Tryz.func132,Tryz.ntmps132
 go_wp2
 go_loopw [5,6,7] (λo cv iv W=>∃(i carry:Int) (ol:List Int) (A:Option Addr) (c:Nat),o=.slice A ol.length c/\cv=.int .i64 carry/\iv=.int .i64 i/\QX l n i carry ol/\zd w.heap.size (.slice A ol.length c) ol W/\Below w.heap.size w W) (λ_ cv iv _=>(intOf iv+1).toNat*100+(intOf cv).toNat)
 case atStart=>exact⟨(l.length:Int)-1,0,[],some ⟨w.heap.size,0,none⟩,0,rfl,rfl,by go_num,QX.start l hn.1,World.ownsRow_lit (base:=w.heap.size) (e:=3) (size:=1) w #[] 0 (Nat.le_refl _) (by unfold maxLen;omega) rfl,(Below.refl _ _).alloc (Nat.le_refl _) _⟩
 case round=>
  obtain⟨i,carry,o,A,c,rfl,rfl,rfl,hS,hrow,hbel⟩:=hrel
  have HROW:=ja hrow
  have HB:=ja hbel
  have HQ:=ja (zd.read hrow)
  have hbs:=hbel.size
  have hol:=hS.len
  clear hrow
  rcases hS with⟨k,rfl,hk,hI⟩|⟨hE,s,hi,hs,hc⟩
  ·obtain⟨ad,rfl,-,ha⟩:=jP.at_ (HQ0.o _ hbel) hk
   have hst:=hI.step hd hn.1 hk
   have hdk:=hd.at_ hk
   have hc0:=hI.c0
   have hc1:=hI.c1
   have hol2:=hI.len
   obtain⟨dk,hdk2⟩:∃d,d=l[k]:=⟨_,rfl⟩
   rw[<-hdk2] at hst hdk ha
   have hm1:=Int.mul_nonneg hdk.1 hn.1
   have hm2:=Int.mul_le_mul hdk.2 hn.2 hn.1 (by decide)
   have HST:=ja (And.intro hst.c0 (And.intro hst.c1 (QX.more hk hst hn.2)))
   clear hst hI hdk2 hbel
   go_wp2_with (first
    | (at_builtin;refine Js rfl _ _ rfl ((carry+dk*n) % 10) w.heap.size A o.length c o rfl rfl HQ.o hbs (by omega) ?_;intro A' c' w' ho hb;have HROW2:=ja ho;have HB2:=ja (HB.o.trans (hb.mono hbs));clear ho hb))
   exact⟨⟨(k:Int)-1,(carry+dk*n)/10,(carry+dk*n) % 10::o,A',c',rfl,rfl,rfl,HST.o.2.2,HROW2.o,HB2.o⟩,by have:=HST.o.1;have:=HST.o.2.1;simp[intOf];omega⟩
  ·have hin:¬0<=i:=by omega
   have hib:-5<=i:=by omega
   have hcb:carry<=10:=by omega
   have HSS:=ja (And.intro hi (And.intro hs hc))
   clear hi hs hc
   by_cases hp:0<carry
   ·have HST:=ja hE.step
    go_wp2_with (first
     | (at_builtin;refine Js rfl _ _ rfl (carry % 10) w.heap.size A o.length c o rfl rfl HQ.o hbs (by omega) ?_;intro A' c' w' ho hb;have HROW2:=ja ho;have HB2:=ja (HB.o.trans (hb.mono hbs));clear ho hb))
    obtain⟨hi,hs,hc⟩:=HSS.o
    exact⟨⟨i-1,carry/10,carry % 10::o,A',c',rfl,rfl,rfl,.inr ⟨HST.o,s+1,by omega,by simp;omega,by omega⟩,HROW2.o,HB2.o⟩,by simp[intOf];omega⟩
   ·obtain rfl:carry=0:=by have:=hE.c0;omega
    go_wp2
    go_ret
    exact⟨o,A,c,rfl,HROW.o,hE.dig,hE.done,hol,HB.o⟩
def qg(l:List Int)(m:Nat):List Int:=List.replicate (m-l.length) 0++l
theorem QQ(l:List Int)(m:Nat):(qg l m).length=max m l.length:=by unfold qg;simp;omega
theorem Zm(l:List Int)(m:Nat):jj (qg l m)=jj l:=jp3 _ _
theorem QP{l:List Int}(h:zD l)(m:Nat):zD (qg l m):=(zD.zeros _).append h
theorem JU {ops:Array Oper} {rest:List Oper} {o:Oper} {a:Act} {Q:Exit->Act->World->Prop} {w:World} (hgd:o.guard=none) (s x:Operand)
  (ho:o.op=.call { callee:=.builtin .append,args:=#[s,x],argTypes:=#[52,52] }) (base:Nat) (A:Option Addr) (n c:Nat) (l:List Int)
  (hs:a.eval s=.slice (some ⟨w.heap.size,0,none⟩) 0 0) (hx:a.eval x=.slice A n c) (hl:jP w w.heap.size A n c l) (hb:base<=w.heap.size) (hn:n<=15000000000000)
  (h:∀A' c' w',w'.ownsRow base 3 1 (.slice A' n c') n (l.map (Value.int .i64))->Below w.heap.size w w'->wpList Tryz.prog ops Q rest (a.put o.dst (.slice A' n c')) w') :
  wpList Tryz.prog ops Q (o::rest) a (w.alloc (.cells #[] 3)):=by
 obtain⟨i1,hi1,hy0,hy1,hy2⟩:=info_parts Tryz.infoIntD
 refine Zt hgd s x 52 ho base 3 i1 (.int .i64 0) 1 8 Tryz.underlying52 hi1 hy0 hy1 hy2 rfl (by decide) _ 0 [] hs (World.ownsRow_lit (base:=base) (e:=3) (size:=1) w #[] 0 hb (by unfold maxLen;omega) rfl) A n c w.heap.size (l.map (Value.int .i64)) hx (Rq.alloc hl (Nat.le_refl _) _) (js4 l) (by unfold maxLen;omega) (by omega) (by rw[World.size_alloc];omega) ?_
 intro A' c' w' h1 h2
 rw[Nat.zero_add,List.nil_append] at h1
 rw[Nat.zero_add]
 exact h A' c' w' h1 (((Below.refl w.heap.size w).alloc (Nat.le_refl _) _).grown h2 (by rw[World.size_alloc];omega) (λj e=>by
  have:w.heap.size=j:=by simpa [Value.ownBlock] using e
  omega))
def jab6(w:World)(l:List Int)(m:Nat)(e:Ending)(w':World):Prop:=
 ∃(A:Option Addr) (c:Nat),e=.returned (.slice A (qg l m).length c)/\zd w.heap.size (.slice A (qg l m).length c) (qg l m) w'/\Below w.heap.size w w'
theorem qO (A0:Option Addr) (n0 c0 B:Nat) (l:List Int) (m:Nat) (w:World) (hq:jP w B A0 n0 c0 l) (hB:B<=w.heap.size) (hl:n0<=14000000000000) (hm:m<=14000000000000) :
  Calls Tryz.prog 135 #[.slice A0 n0 c0,.int .i64 m] w (jab6 w l m):=by
 obtain rfl:=hq.len
 have HQ0:=ja (Rq.more hq hB:jP w w.heap.size A0 l.length c0 l)
 clear hq
 go_enter Tryz.func135,Tryz.ntmps135
 go_wp2_with (first
  | (at_builtin;refine JU rfl _ _ rfl w.heap.size A0 l.length c0 l rfl rfl HQ0.o (Nat.le_refl _) (by omega) ?_;intro A' c' w' ho hb;have HROW2:=ja ho;have HB2:=ja hb;clear ho hb))
 go_loopw [5] (λo W=>∃(j:Nat) (A:Option Addr) (c:Nat),(j=0\/j+l.length<=m)/\o=.slice A (List.replicate j 0++l).length c/\zd w.heap.size (.slice A (List.replicate j 0++l).length c) (List.replicate j 0++l) W/\Below w.heap.size w W) (λo _=>m-(match o with|.slice _ n _=>n|_=>0))
 case atStart=>exact⟨0,A',c',.inl rfl,rfl,HROW2.o,HB2.o⟩
 case round=>
  obtain⟨j,A,c,hj,rfl,hrow,hbel⟩:=hrel
  obtain⟨L,hL⟩:∃L,L=List.replicate j 0++l:=⟨_,rfl⟩
  rw[<-hL] at hrow ⊢
  have hLl:L.length=j+l.length:=by rw[hL];simp
  have HROW:=ja hrow
  have HB:=ja hbel
  have HQ:=ja (zd.read hrow)
  have hbs:=hbel.size
  have HL:=ja (And.intro hL hLl)
  have hLb:L.length<=14000000000000:=by omega
  have hmj:(L.length:Int)<(m:Int)->j+l.length<m:=by omega
  have hmj2:¬(L.length:Int)<(m:Int)->L=qg l m:=λh=>by
   rw[hL];unfold qg
   congr 2
   omega
  clear hrow hbel hL hLl HROW2 HB2
  by_cases hp:(L.length:Int)<(m:Int)
  ·go_wp2_with (first
    | (at_builtin;refine Js rfl _ _ rfl 0 w.heap.size A L.length c L rfl rfl HQ.o hbs (by omega) ?_;intro A2 c2 w2 ho hb;have HROW2:=ja ho;have HB2:=ja (HB.o.trans (hb.mono hbs));clear ho hb))
   have e:List.replicate (j+1) 0++l=0::L:=by rw[HL.o.1];rfl
   refine⟨⟨j+1,A2,c2,.inr (by have:=hmj hp;omega),?_,?_,HB2.o⟩,by simp;omega⟩
   ·rw[e];rfl
   ·rw[e];exact HROW2.o
  ·have hP:=hmj2 hp
   subst hP
   go_wp2
   go_ret
   exact⟨A,c,rfl,HROW.o,HB.o⟩
theorem jba7 (A1:Option Addr) (n1 c1:Nat) (a:List Int) (A2:Option Addr) (n2 c2:Nat) (b:List Int) (B:Nat) (w:World) (ha:jP w B A1 n1 c1 a) (hb:jP w B A2 n2 c2 b) (hB:B<=w.heap.size) (hda:zD a) (hdb:zD b) (hl:a.length=b.length) :
  Calls Tryz.prog 136 #[.slice A1 n1 c1,.slice A2 n2 c2] w λe w'=>e=.returned (.bool (decide (jj a<jj b)))/\Below w.heap.size w w':=by
 have hna:=Rq.nmax ha
 have e1:=ha.len
 have e2:=hb.len
 subst e1 e2
 go_enter Tryz.func136,Tryz.ntmps136
 go_wp2
 go_loopw [5] (λi W=>∃(k:Nat),k<=a.length/\i=.int .i64 k/\a.take k=b.take k/\∃q,W=w.drewN q) (λi _=>a.length-(intOf i).toNat)
 case atStart=>exact⟨0,by omega,rfl,rfl,0,rfl⟩
 case round=>
  obtain⟨k,hk,rfl,hpre,q,rfl⟩:=hrel
  have HA:Hid (jP (w.drewN q) B A1 a.length c1 a):=ja ha
  have HBq:Hid (jP (w.drewN q) B A2 b.length c2 b):=ja hb
  have HBE:Hid (Below w.heap.size w (w.drewN q)):=ja ⟨rfl,rfl,rfl,Nat.le_refl _,λ_ _=>rfl⟩
  have HDD:=ja (λp=>dd w q p)
  generalize w.drewN q=W at *
  by_cases hkl:(k:Int)<(a.length:Int)
  ·have hk1:k<a.length:=by omega
   have hk2:k<b.length:=by omega
   obtain⟨ad,rfl,-,h1⟩:=HA.o.at_ hk1
   obtain⟨ad2,rfl,-,h2⟩:=HBq.o.at_ hk2
   have sa:a=a.take k++a[k]::a.drop (k+1):=by rw[<-List.drop_eq_getElem_cons hk1,List.take_append_drop]
   have sb:b=a.take k++b[k]::b.drop (k+1):=by rw[hpre,<-List.drop_eq_getElem_cons hk2,List.take_append_drop]
   have da:zD (a.drop (k+1)):=λx hx=>hda x (List.mem_of_mem_drop hx)
   have db:zD (b.drop (k+1)):=λx hx=>hdb x (List.mem_of_mem_drop hx)
   have HLT:Hid (a[k]≠b[k]->decide (a[k]<b[k])=decide (jj a<jj b)):=ja (λhne=>by
    rcases Int.lt_or_gt_of_ne hne with h|h
    ·have:=jat9 (p:=a.take k) da db (by simp[hl]) h
     rw[<-sa,<-sb] at this
     rw[decide_eq_true h,decide_eq_true this]
    ·have:=jat9 (p:=a.take k) db da (by simp[hl]) h
     rw[<-sa,<-sb] at this
     rw[decide_eq_false (by omega),decide_eq_false (by omega)])
   have HTK:Hid (a[k]=b[k]->a.take (k+1)=b.take (k+1)):=ja (λh=>by rw[List.take_succ_eq_append_getElem hk1,List.take_succ_eq_append_getElem hk2,hpre,h])
   obtain⟨x,hx⟩:∃x,x=a[k]:=⟨_,rfl⟩
   obtain⟨y,hy⟩:∃y,y=b[k]:=⟨_,rfl⟩
   rw[<-hx] at h1 HLT HTK
   rw[<-hy] at h2 HLT HTK
   have hky:(k:Int)<(b.length:Int):=by omega
   clear sa sb da db hx hy ha hb hpre
   by_cases hxy:x=y
   ·subst hxy
    have HT:=ja (HTK.o rfl)
    clear HTK HLT
    go_wp2
    go_quiet (fail)
    go_wp2
    obtain⟨q2,hq2⟩:=HDD.o nq
    exact⟨⟨k+1,by omega,by go_num,HT.o,q2,hq2⟩,by simp[intOf];omega⟩
   ·have hne:(x==y)=false:=by simpa using hxy
    have HLT2:=ja (HLT.o hxy)
    clear HTK HLT
    go_wp2
    go_quiet (fail)
    go_wp2
    go_quiet (fail)
    go_wp2
    go_ret
    exact⟨by rw[<-HLT2.o];rfl,⟨HBE.o.os,HBE.o.tape,HBE.o.output,HBE.o.size,HBE.o.block⟩⟩
  ·obtain rfl:k=a.length:=by omega
   rw[List.take_of_length_le (Nat.le_refl _),List.take_of_length_le (by omega)] at hpre
   subst hpre
   go_wp2
   go_ret
   exact⟨by simp,HBE.o⟩
theorem Rq.tail{w:World}{B n c:Nat}{ad:Addr}{x:Value}{xs:List Value}(h:Rq w B 1 (some ad) n c (x::xs))(hn:0<n):Rq w B 1 (some (ad.add 1)) (n-1) (c-1) xs:=by
 obtain⟨h1,h2,h3,h4⟩:=h
 refine⟨by simp at h1;omega,by omega,by omega,.inr ⟨_,rfl,?_,λj u hu=>?_⟩⟩
 ·rcases h4 with h4|⟨ad',e,hb,_⟩
  ·omega
  ·injection e with e;subst e;rw[jH];exact hb
 ·rcases h4 with h4|⟨ad',e,_,hc⟩
  ·omega
  ·injection e with e
   subst e
   have:=hc (j+1) u (by simpa using hu)
   rw[<-this]
   have e:(ad.add 1).add j=ad.add (j+1):=by rw[zh1,Nat.add_comm]
   rw[e]
def jbv3(w:World)(B:Nat)(l:List Int)(e:Ending)(w':World):Prop:=
 ∃(L:List Int) (A:Option Addr) (c:Nat),e=.returned (.slice A L.length c)/\jP w' B A L.length c L/\zD L/\jj L=jj l/\(∀d t,L=d::t->d≠0)/\L.length<=l.length/\Below w.heap.size w w'
theorem Zw(A0:Option Addr)(n0 c0 B:Nat)(l:List Int)(w:World)(hq:jP w B A0 n0 c0 l)(hd:zD l):Calls Tryz.prog 131 #[.slice A0 n0 c0] w (jbv3 w B l):=by
 have e1:=hq.len
 subst e1
 have hnl:=Rq.nmax hq
 go_enter Tryz.func131,Tryz.ntmps131
 go_wp2
 go_loopw [0] (λo W=>∃(L:List Int) (A:Option Addr) (c:Nat),o=.slice A L.length c/\jP W B A L.length c L/\zD L/\jj L=jj l/\L.length<=l.length/\W=w) (λo _=>(match o with|.slice _ n _=>n|_=>0))
 case atStart=>exact⟨l,A0,c0,rfl,hq,hd,rfl,Nat.le_refl _,rfl⟩
 case round=>
  obtain⟨L,A,c,rfl,hQ,hdg,hv,hle,rfl⟩:=hrel
  cases L with
  | nil=>
   go_wp2
   go_ret
   exact⟨[],A,c,rfl,hQ,hdg,hv,(λd t h=>by cases h),hle,Below.refl _ _⟩
  | cons d t=>
   obtain⟨ad,rfl,-,h0⟩:=hQ.at_ (i:=0) (by simp)
   have hcc:=hQ.2.1
   have hcm:=hQ.2.2.1
   rw[List.length_cons] at hcc
   have HT:Hid (jP wr B (if c=1 then some ad else some ⟨ad.block,ad.off+1,none⟩) t.length (c-1) t):=ja (by
    by_cases h1:c=1
    ·have ht:t=[]:=List.eq_nil_of_length_eq_zero (by omega)
     subst ht
     exact⟨by simp,by simp,by omega,.inl rfl⟩
    ·rw[if_neg h1]
     have:=Rq.tail (x:=.int .i64 d) hQ (by simp)
     unfold jP
     simpa [Addr.add] using this)
   have HQ:=ja hQ
   have HD:=ja hdg
   simp only[List.getElem_cons_zero] at h0
   have h0':wr.cell? ad=some (.int .i64 d):=by simpa [Addr.add] using h0
   obtain⟨n,hn⟩:∃n,n=t.length:=⟨_,rfl⟩
   rw[List.length_cons] at hle ⊢
   clear hQ hdg
   by_cases h:d=0
   ·subst h
    go_wp2
    exact⟨⟨t,_,c-1,rfl,HT.o,HD.o.tail,by rw[<-hv,ZR],by omega,trivial⟩,by simp⟩
   ·have hne:(d==0)=false:=by simpa using h
    go_wp2
    go_ret
    exact⟨d::t,some ad,c,rfl,HQ.o,HD.o,hv,(λd' t' e=>by injection e with e _;rw[<-e];exact h),hle,Below.refl _ _⟩
theorem JE (A1:Option Addr) (n1 c1:Nat) (a:List Int) (A2:Option Addr) (n2 c2:Nat) (b:List Int) (B:Nat) (w:World) (ha:jP w B A1 n1 c1 a) (hb:jP w B A2 n2 c2 b) (hB:B<=w.heap.size) (hda:zD a) (hdb:zD b) (h1:n1<=13000000000000) (h2:n2<=13000000000000) :
  Calls Tryz.prog 88 #[.slice A1 n1 c1,.slice A2 n2 c2] w λe w'=>e=.returned (.bool (decide (jj b<=jj a)))/\Below w.heap.size w w':=by
 have e1:=ha.len
 have e2:=hb.len
 subst e1 e2
 obtain⟨N,hN⟩:∃N,N=max a.length b.length:=⟨_,rfl⟩
 have hNb:N<=13000000000000:=by omega
 have hmax:max (a.length:Int) (b.length:Int)=(N:Int):=by omega
 have HPA:=ja (λW (hW:Below w.heap.size w W)=>qO A1 a.length c1 B a N W (Rq.below ha (hW.mono hB)) (Nat.le_trans hB hW.size) (by omega) (by omega))
 have HPB:=ja (λW (hW:Below w.heap.size w W)=>qO A2 b.length c2 B b N W (Rq.below hb (hW.mono hB)) (Nat.le_trans hB hW.size) (by omega) (by omega))
 have HLA:=ja (show(qg a N).length=(qg b N).length by rw[QQ,QQ];omega)
 clear ha hb hN
 go_enter Tryz.func88,Tryz.ntmps88
 go_wp2_with (first
  | (go_at_call 136;refine(jba7 A4 _ c4 (qg a N) A5 _ c5 (qg b N) w5.heap.size w5 (zd.read (jG HO4.o HB5.o)) (zd.read HO5.o) (Nat.le_refl _) (QP hda N) (QP hdb N) HLA.o).mono ?_;rintro e w6 ⟨rfl,hb6⟩;have HB6:=ja (HB4.o.trans ((HB5.o.mono HB4.o.size).trans (hb6.mono (Nat.le_trans HB4.o.size HB5.o.size))));clear hb6)
  | (go_at_call 135;refine(HPB.o w4 HB4.o).mono ?_;rintro e w5 ⟨A5,c5,rfl,ho5,hb5⟩;have HO5:=ja ho5;have HB5:=ja hb5;clear ho5 hb5)
  | (go_at_call 135;refine(HPA.o w (Below.refl _ _)).mono ?_;rintro e w4 ⟨A4,c4,rfl,ho4,hb4⟩;have HO4:=ja ho4;have HB4:=ja hb4;clear ho4 hb4))
 go_ret
 refine⟨?_,HB6.o⟩
 show Ending.returned (.bool (!decide (jj (qg a N)<jj (qg b N))))=_
 rw[Zm,Zm]
 by_cases h:jj b<=jj a
 ·rw[decide_eq_true h,decide_eq_false (by omega)];rfl
 ·rw[decide_eq_false h,decide_eq_true (by omega)];rfl
theorem jj1{w:World}{base size n c:Nat}{e:TypeId}{A:Option Addr}{xs:List Value}(h:w.ownsRow base e size (.slice A n c) n xs)(hn:0<n):∃g,A=some ⟨g,0,none⟩/\base<=g/\g<w.heap.size:=by
 have hl:=h.lt
 rcases h.2 with⟨_,h0⟩|⟨g,cap,cur,hv,h1,_⟩
 ·omega
 ·injection hv with h2 _ _
  subst h2
  exact⟨g,rfl,h1,(hl g rfl).2⟩
def jbf7(w:World)(v:Int)(m:Nat)(e:Ending)(w':World):Prop:=
 ∃(L:List Int) (A:Option Addr) (c:Nat),e=.returned (.slice A L.length c)/\zd w.heap.size (.slice A L.length c) L w'/\zD L/\jj L=v/\L.length=m/\Below w.heap.size w w'
structure TwoR(w W:World)(B2 gx cx gy cy n:Nat)(z y:List Int):Prop where
 rx:W.ownsRow w.heap.size 3 1 (.slice (some ⟨gx,0,none⟩) n cx) n (z.map (Value.int .i64))
 ry:W.ownsRow B2 3 1 (.slice (some ⟨gy,0,none⟩) n cy) n (y.map (Value.int .i64))
 lx:z.length=n
 ly:y.length=n
 xb:w.heap.size<=gx
 xy:gx<B2
 below:Below w.heap.size w W
theorem TwoR.drewN{w W:World}{B2 gx cx gy cy n:Nat}{z y:List Int}(h:TwoR w W B2 gx cx gy cy n z y)(q:Nat):TwoR w (W.drewN q) B2 gx cx gy cy n z y:=
 ⟨h.rx,h.ry,h.lx,h.ly,h.xb,h.xy,⟨h.below.os,h.below.tape,h.below.output,h.below.size,h.below.block⟩⟩
theorem TwoR.put{w W:World}{B2 gx cx gy cy n:Nat}{z y:List Int}(h:TwoR w W B2 gx cx gy cy n z y)(i:Nat)(r:Int):TwoR w (W.setCell ⟨gx,i,none⟩ (.int .i64 r)) B2 gx cx gy cy n (z.set i r) y:=by
 have h1:=(World.ownsRow.stored h.rx i (.int .i64 r)).1
 rw[<-List.map_set] at h1
 exact⟨h1,ownsRow_setCell_below h.ry (a:=⟨gx,i,none⟩) h.xy _,by simp[h.lx],h.ly,h.xb,h.xy,h.below.setCell (p:=⟨gx,i,none⟩) h.xb _⟩
theorem TwoR.cells {w W:World} {B2 gx cx gy cy n:Nat} {z y:List Int} (h:TwoR w W B2 gx cx gy cy n z y) {i:Nat} (hi:i<n) (hz:i<z.length) (hy:i<y.length) :
  W.cell? ⟨gx,i,none⟩=some (.int .i64 z[i])/\W.frozen? ⟨gx,i,none⟩=false/\W.cell? ⟨gy,i,none⟩=some (.int .i64 y[i]):=by
 refine⟨?_,World.ownsRow.frozenAt h.rx i,?_⟩
 ·rw[World.ownsRow.cellAt h.rx i (by omega)];simp[hz]
 ·rw[World.ownsRow.cellAt h.ry i (by omega)];simp[hy]
theorem Jp (A1:Option Addr) (n1 c1:Nat) (a:List Int) (A2:Option Addr) (n2 c2:Nat) (b:List Int) (B:Nat) (w:World) (ha:jP w B A1 n1 c1 a) (hb:jP w B A2 n2 c2 b) (hB:B<=w.heap.size) (hda:zD a) (hdb:zD b) (h1:n1<=13000000000000) (h2:n2<=13000000000000) :
  Calls Tryz.prog 87 #[.slice A1 n1 c1,.slice A2 n2 c2] w (jbf7 w (jj a+jj b) (max n1 n2+1)):=by
 have e1:=ha.len
 have e2:=hb.len
 subst e1 e2
 obtain⟨N,hN⟩:∃N,N=max a.length b.length+1:=⟨_,rfl⟩
 have hNb:N<=13000000000001:=by omega
 have hN1:1<=N:=by omega
 have hmax:max (a.length:Int) (b.length:Int)=(N:Int)-1:=by omega
 have HPA:=ja (λW (hW:Below w.heap.size w W)=>qO A1 a.length c1 B a N W (Rq.below ha (hW.mono hB)) (Nat.le_trans hB hW.size) (by omega) (by omega))
 have HPB:=ja (λW (hW:Below w.heap.size w W)=>qO A2 b.length c2 B b N W (Rq.below hb (hW.mono hB)) (Nat.le_trans hB hW.size) (by omega) (by omega))
 have la:(qg a N).length=N:=by rw[QQ];omega
 have lb:(qg b N).length=N:=by rw[QQ];omega
 have hva:jj (qg a N)<10 ^ (N-1):=by
  rw[Zm]
  have h3:=hda.bounds.2
  obtain⟨j,hj⟩:=Nat.exists_eq_add_of_le (show a.length<=N-1 by omega)
  rw[hj,Int.pow_add]
  have h4:=Int.mul_le_mul_of_nonneg_left (show(1:Int)<=10 ^ j from zA j) (Int.le_of_lt (zA a.length))
  omega
 have hvb:jj (qg b N)<10 ^ (N-1):=by
  rw[Zm]
  have h3:=hdb.bounds.2
  obtain⟨j,hj⟩:=Nat.exists_eq_add_of_le (show b.length<=N-1 by omega)
  rw[hj,Int.pow_add]
  have h4:=Int.mul_le_mul_of_nonneg_left (show(1:Int)<=10 ^ j from zA j) (Int.le_of_lt (zA b.length))
  omega
 have HV:=ja (And.intro hva hvb)
 have HDA:=ja (QP hda N)
 have HDB:=ja (QP hdb N)
 have HVA:=ja (And.intro (Zm a N) (Zm b N))
 have HNN:=ja hN
 unfold jab6 at HPA HPB
 rw[la] at HPA
 rw[lb] at HPB
 generalize qg a N=x at *
 generalize qg b N=y at *
 have HL:=ja (And.intro la lb)
 clear ha hb hN hva hvb la lb hda hdb
 go_enter Tryz.func87,Tryz.ntmps87
 go_upto_region 3 with(first
  | (go_at_call 135;refine(HPB.o w4 HB4.o).mono ?_;rintro e w5 ⟨A5,c5,rfl,ho5,hb5⟩;have HO5:=ja ho5;have HB5:=ja hb5;clear ho5 hb5)
  | (go_at_call 135;refine(HPA.o w (Below.refl _ _)).mono ?_;rintro e w4 ⟨A4,c4,rfl,ho4,hb4⟩;have HO4:=ja ho4;have HB4:=ja hb4;clear ho4 hb4))
 have h4:w4.ownsRow w.heap.size 3 1 (.slice A4 N c4) N (x.map (Value.int .i64)):=by have h:=HO4.o;unfold zd at h;rwa [HL.o.1] at h
 have h5:w5.ownsRow w4.heap.size 3 1 (.slice A5 N c5) N (y.map (Value.int .i64)):=by have h:=HO5.o;unfold zd at h;rwa [HL.o.2] at h
 obtain⟨gx,rfl,hg1,hg2⟩:=jj1 h4 hN1
 obtain⟨gy,rfl,-,-⟩:=jj1 h5 hN1
 have HT0:=ja (⟨jG h4 HB5.o,h5,HL.o.1,HL.o.2,hg1,hg2,HB4.o.trans (HB5.o.mono HB4.o.size)⟩:TwoR w w5 w4.heap.size gx c4 gy c5 N x y)
 generalize w4.heap.size=B2 at *
 clear h4 h5 HO4 HO5 HB4 HB5 HPA HPB hg1 hg2
 go_wp2
 go_loopw [8,9] (λcv iv W=>∃(j:Nat) (carry:Int) (z:List Int),cv=.int .i64 carry/\iv=.int .i64 ((j:Int)-1)/\j<=N/\AddI x y j carry z/\TwoR w W B2 gx c4 gy c5 N z y) (λ_ iv _=>(intOf iv+1).toNat)
 case atStart=>exact⟨N,0,x,rfl,by go_num,Nat.le_refl _,by have h:=AddI.start x y (HL.o.1.trans HL.o.2.symm);rwa [HL.o.1] at h,HT0.o⟩
 case round=>
  obtain⟨j,carry,z,rfl,rfl,hj,hI,hT⟩:=hrel
  cases j with
  | zero=>
   have HT:=ja hT
   obtain⟨hd,hv⟩:=hI.done HV.o.1 HV.o.2 (by rw[hT.lx];omega)
   go_wp2
   go_ret
   exact⟨z,_,c4,by rw[hT.lx];rfl,by unfold zd;rw[hT.lx];exact HT.o.rx,hd,by rw[hv,HVA.o.1,HVA.o.2],by rw[hT.lx];exact HNN.o,HT.o.below⟩
  | succ k=>
   have e:(((k+1:Nat):Int)-1)=(k:Int):=by omega
   rw[e]
   clear e
   have hkx:k<x.length:=by rw[HL.o.1];omega
   obtain⟨hz,hy,hst⟩:=hI.step HDA.o HDB.o (HL.o.1.trans HL.o.2.symm) hkx
   obtain⟨q1,q2,q3⟩:=hT.cells (i:=k) (by omega) hz hy
   have hzx:=jh4 hI.front hkx hz
   have hdx:=HDA.o.at_ hkx
   have hdy:=HDB.o.at_ hy
   rw[<-hzx] at hdx
   have hcc:=hI.c
   obtain⟨zk,hzk⟩:∃d,d=z[k]:=⟨_,rfl⟩
   obtain⟨yk,hyk⟩:∃d,d=y[k]:=⟨_,rfl⟩
   rw[<-hzk] at hst q1 hdx
   rw[<-hyk] at hst q3 hdy
   have HST:=ja hst
   have HT:=ja hT
   have hNk:k<N:=by omega
   clear hst hT hI hzx hzk hyk hkx hz hy HT0
   go_wp2
   go_quiet (fail)
   have HT2:=ja (HT.o.drewN nq)
   have q1':(wr.drewN nq).cell? ⟨gx,k,none⟩=some (.int .i64 zk):=q1
   have q2':(wr.drewN nq).frozen? ⟨gx,k,none⟩=false:=q2
   clear q1 q2 q3 HT
   generalize wr.drewN nq=W2 at *
   go_wp2
   exact⟨⟨k,_,z.set k _,rfl,by go_num,by omega,HST.o,HT2.o.put k _⟩,by simp[intOf]⟩
theorem jj9 (A1:Option Addr) (n1 c1:Nat) (a:List Int) (A2:Option Addr) (n2 c2:Nat) (b:List Int) (B:Nat) (w:World) (ha:jP w B A1 n1 c1 a) (hb:jP w B A2 n2 c2 b) (hB:B<=w.heap.size) (hda:zD a) (hdb:zD b) (h1:n1<=13000000000000) (h2:n2<=13000000000000) (hge:jj b<=jj a) :
  Calls Tryz.prog 133 #[.slice A1 n1 c1,.slice A2 n2 c2] w (jbf7 w (jj a-jj b) (max n1 n2)):=by
 have e1:=ha.len
 have e2:=hb.len
 subst e1 e2
 obtain⟨N,hN⟩:∃N,N=max a.length b.length:=⟨_,rfl⟩
 have hNb:N<=13000000000001:=by omega
 have hmax:max (a.length:Int) (b.length:Int)=(N:Int):=by omega
 have HPA:=ja (λW (hW:Below w.heap.size w W)=>qO A1 a.length c1 B a N W (Rq.below ha (hW.mono hB)) (Nat.le_trans hB hW.size) (by omega) (by omega))
 have HPB:=ja (λW (hW:Below w.heap.size w W)=>qO A2 b.length c2 B b N W (Rq.below hb (hW.mono hB)) (Nat.le_trans hB hW.size) (by omega) (by omega))
 have la:(qg a N).length=N:=by rw[QQ];omega
 have lb:(qg b N).length=N:=by rw[QQ];omega
 have HGE:=ja (show jj (qg b N)<=jj (qg a N) by rw[Zm,Zm];exact hge)
 have HDA:=ja (QP hda N)
 have HDB:=ja (QP hdb N)
 have HVA:=ja (And.intro (Zm a N) (Zm b N))
 have HNN:=ja hN
 unfold jab6 at HPA HPB
 rw[la] at HPA
 rw[lb] at HPB
 generalize qg a N=x at *
 generalize qg b N=y at *
 have HL:=ja (And.intro la lb)
 clear ha hb hN la lb hda hdb hge
 go_enter Tryz.func133,Tryz.ntmps133
 go_upto_region 3 with(first
  | (go_at_call 135;refine(HPB.o w4 HB4.o).mono ?_;rintro e w5 ⟨A5,c5,rfl,ho5,hb5⟩;have HO5:=ja ho5;have HB5:=ja hb5;clear ho5 hb5)
  | (go_at_call 135;refine(HPA.o w (Below.refl _ _)).mono ?_;rintro e w4 ⟨A4,c4,rfl,ho4,hb4⟩;have HO4:=ja ho4;have HB4:=ja hb4;clear ho4 hb4))
 have h4:w4.ownsRow w.heap.size 3 1 (.slice A4 N c4) N (x.map (Value.int .i64)):=by have h:=HO4.o;unfold zd at h;rwa [HL.o.1] at h
 have h5:w5.ownsRow w4.heap.size 3 1 (.slice A5 N c5) N (y.map (Value.int .i64)):=by have h:=HO5.o;unfold zd at h;rwa [HL.o.2] at h
 by_cases hN0:N=0
 ·subst hN0
  have hx0:x=[]:=List.eq_nil_of_length_eq_zero HL.o.1
  have hy0:y=[]:=List.eq_nil_of_length_eq_zero HL.o.2
  have HX:=ja (And.intro hx0 hy0)
  have HO:=ja (jG h4 HB5.o)
  have HB:=ja (HB4.o.trans (HB5.o.mono HB4.o.size))
  clear h4 h5 HO4 HO5 HPA HPB hx0 hy0 hmax
  go_wp2
  go_loopw [8,9] (λcv iv W=>cv=.int .i64 0/\iv=.int .i64 (-1)/\W=w5) (λ_ _ _=>0)
  case atStart=>exact⟨rfl,rfl,rfl⟩
  case round=>
   obtain⟨rfl,rfl,rfl⟩:=hrel
   go_wp2
   go_ret
   refine⟨[],A4,c4,rfl,?_,zD.nil,?_,HNN.o,HB.o⟩
   ·have:=HO.o;rw[HX.o.1] at this;exact this
   ·rw[<-HVA.o.1,<-HVA.o.2,HX.o.1,HX.o.2];rfl
 have hN1:0<N:=by omega
 obtain⟨gx,rfl,hg1,hg2⟩:=jj1 h4 hN1
 obtain⟨gy,rfl,-,-⟩:=jj1 h5 hN1
 have HT0:=ja (⟨jG h4 HB5.o,h5,HL.o.1,HL.o.2,hg1,hg2,HB4.o.trans (HB5.o.mono HB4.o.size)⟩:TwoR w w5 w4.heap.size gx c4 gy c5 N x y)
 generalize w4.heap.size=B2 at *
 clear h4 h5 HO4 HO5 HB4 HB5 HPA HPB hg1 hg2
 go_wp2
 go_loopw [8,9] (λcv iv W=>∃(j:Nat) (carry:Int) (z:List Int),cv=.int .i64 carry/\iv=.int .i64 ((j:Int)-1)/\j<=N/\SubI x y j carry z/\TwoR w W B2 gx c4 gy c5 N z y) (λ_ iv _=>(intOf iv+1).toNat)
 case atStart=>exact⟨N,0,x,rfl,by go_num,Nat.le_refl _,by have h:=SubI.start x y (HL.o.1.trans HL.o.2.symm);rwa [HL.o.1] at h,HT0.o⟩
 case round=>
  obtain⟨j,carry,z,rfl,rfl,hj,hI,hT⟩:=hrel
  cases j with
  | zero=>
   have HT:=ja hT
   obtain⟨hd,hv⟩:=hI.done HGE.o
   go_wp2
   go_ret
   exact⟨z,_,c4,by rw[hT.lx];rfl,by unfold zd;rw[hT.lx];exact HT.o.rx,hd,by rw[hv,HVA.o.1,HVA.o.2],by rw[hT.lx];exact HNN.o,HT.o.below⟩
  | succ k=>
   have e:(((k+1:Nat):Int)-1)=(k:Int):=by omega
   rw[e]
   clear e
   have hkx:k<x.length:=by rw[HL.o.1];omega
   have hz:k<z.length:=by rw[hT.lx];omega
   have hy:k<y.length:=by rw[hT.ly];omega
   have hst:=λr b'=>hI.step (r:=r) (b':=b') HDA.o HDB.o (HL.o.1.trans HL.o.2.symm) hkx hz hy
   obtain⟨q1,q2,q3⟩:=hT.cells (i:=k) (by omega) hz hy
   have hzx:=jh4 hI.front hkx hz
   have hdx:=HDA.o.at_ hkx
   have hdy:=HDB.o.at_ hy
   rw[<-hzx] at hdx
   have hcc:=hI.b
   obtain⟨zk,hzk⟩:∃d,d=z[k]:=⟨_,rfl⟩
   obtain⟨yk,hyk⟩:∃d,d=y[k]:=⟨_,rfl⟩
   simp only[<-hzk] at hst q1 hdx
   simp only[<-hyk] at hst q3 hdy
   have HST:=ja hst
   have HT:=ja hT
   have hNk:k<N:=by omega
   clear hst hT hI hzx hzk hyk hkx hz hy HT0
   obtain⟨r,hr⟩:∃r,r=zk-(yk+carry):=⟨_,rfl⟩
   have hw1:IntKind.i64.wrap (yk+carry)=yk+carry:=by rw[IntKind.wrap_i64];omega
   have hrb:-10<=r/\r<=9:=by omega
   go_upto_region 6 with fail
   refine jk (λ_=>True) 12 (λW'=>W'.cell? ⟨gx,k,none⟩=some (.int .i64 zk)/\W'.cell? ⟨gy,k,none⟩=some (.int .i64 yk)) 12 (λ_=>True) (by kernel_rfl) ⟨trivial,λ_=>⟨q1,q3⟩,λ_=>trivial⟩ (λjb=>?_)
   refine jc 0 rfl (by decide +kernel) (λc a w h=>by first|exact h|(cases h;done)) (by rfl) (v:=?_) ?_ jb (λjd=>?_)
   rotate_left 1
   focus (intro w' hSw;clear hSw;go_simp;try with_reducible rfl)
   clear jb
   rename jf _ _ _ _ _ _ _=>jb
   (try simp only[Act.put,lA,lB,lC])
   refine jc 1 rfl (by decide +kernel) (λc a w h=>by first|exact h|(cases h;done)) (by rfl) (v:=?_) ?_ jb (λjd=>?_)
   rotate_left 1
   focus (intro w' hSw;clear hSw;go_simp;try with_reducible rfl)
   clear jb
   rename jf _ _ _ _ _ _ _=>jb
   (try simp only[Act.put,lA,lB,lC])
   refine jc 2 rfl (by decide +kernel) (λc a w h=>by first|exact h|(cases h;done)) (by rfl) (v:=?_) ?_ jb (λjd=>?_)
   rotate_left 1
   focus (intro w' hSw;clear hSw;go_simp;try with_reducible rfl)
   clear jb
   rename jf _ _ _ _ _ _ _=>jb
   (try simp only[Act.put,lA,lB,lC])
   refine jc 3 rfl (by decide +kernel) (λc a w h=>by first|exact h|(cases h;done)) (by rfl) (v:=?_) ?_ jb (λjd=>?_)
   rotate_left 1
   focus (intro w' hSw;obtain⟨hC,hF,hG⟩:=hSw;clear hG;have hF:=hF (by decide +kernel);have e1:=hF.1;have e2:=hF.2;clear hF;go_simp;try with_reducible rfl)
   clear jb
   rename jf _ _ _ _ _ _ _=>jb
   (try simp only[Act.put,lA,lB,lC])
   refine jc 4 rfl (by decide +kernel) (λc a w h=>by first|exact h|(cases h;done)) (by rfl) (v:=?_) ?_ jb (λjd=>?_)
   rotate_left 1
   focus (intro w' hSw;clear hSw;go_simp;try with_reducible rfl)
   clear jb
   rename jf _ _ _ _ _ _ _=>jb
   (try simp only[Act.put,lA,lB,lC])
   refine jc 5 rfl (by decide +kernel) (λc a w h=>by first|exact h|(cases h;done)) (by rfl) (v:=?_) ?_ jb (λjd=>?_)
   rotate_left 1
   focus (intro w' hSw;clear hSw;go_simp;try with_reducible rfl)
   clear jb
   rename jf _ _ _ _ _ _ _=>jb
   (try simp only[Act.put,lA,lB,lC])
   refine jc 6 rfl (by decide +kernel) (λc a w h=>by first|exact h|(cases h;done)) (by rfl) (v:=?_) ?_ jb (λjd=>?_)
   rotate_left 1
   focus (intro w' hSw;clear hSw;go_simp;try with_reducible rfl)
   clear jb
   rename jf _ _ _ _ _ _ _=>jb
   (try simp only[Act.put,lA,lB,lC])
   refine jc 7 rfl (by decide +kernel) (λc a w h=>by first|exact h|(cases h;done)) (by rfl) (v:=?_) ?_ jb (λjd=>?_)
   rotate_left 1
   focus (intro w' hSw;obtain⟨hC,hF,hG⟩:=hSw;clear hG;have hF:=hF (by decide +kernel);have e1:=hF.1;have e2:=hF.2;clear hF;go_simp;try with_reducible rfl)
   clear jb
   rename jf _ _ _ _ _ _ _=>jb
   (try simp only[Act.put,lA,lB,lC])
   refine jc 8 rfl (by decide +kernel) (λc a w h=>by first|exact h|(cases h;done)) (by rfl) (v:=?_) ?_ jb (λjd=>?_)
   rotate_left 1
   focus (intro w' hSw;clear hSw;go_simp;try with_reducible rfl)
   clear jb
   rename jf _ _ _ _ _ _ _=>jb
   (try simp only[Act.put,lA,lB,lC])
   refine jc 9 rfl (by decide +kernel) (λc a w h=>by first|exact h|(cases h;done)) (by rfl) (v:=?_) ?_ jb (λjd=>?_)
   rotate_left 1
   focus (intro w' hSw;clear hSw;go_simp;try with_reducible rfl)
   clear jb
   rename jf _ _ _ _ _ _ _=>jb
   (try simp only[Act.put,lA,lB,lC])
   refine jc 10 rfl (by decide +kernel) (λc a w h=>by first|exact h|(cases h;done)) (by rfl) (v:=?_) ?_ jb (λjd=>?_)
   rotate_left 1
   focus (intro w' hSw;clear hSw;go_simp;try with_reducible rfl)
   clear jb
   rename jf _ _ _ _ _ _ _=>jb
   (try simp only[Act.put,lA,lB,lC])
   refine jc 11 rfl (by decide +kernel) (λc a w h=>by first|exact h|(cases h;done)) (by rfl) (v:=?_) ?_ jb (λjd=>?_)
   rotate_left 1
   focus (intro w' hSw;clear hSw;go_simp;try with_reducible rfl)
   clear jb
   rename jf _ _ _ _ _ _ _=>jb
   (try simp only[Act.put,lA,lB,lC])
   have HT2:=ja (HT.o.drewN 1)
   have q1':wr.drew.cell? ⟨gx,k,none⟩=some (.int .i64 zk):=q1
   have q2':wr.drew.frozen? ⟨gx,k,none⟩=false:=q2
   refine je 12 rfl (by decide +kernel) (λK hK=>?_)
   go_simp
   refine hK.out _ _ ⟨trivial,λh=>absurd h (by decide +kernel),λ_=>trivial⟩ (λjb=>?_)
   clear hK K
   (try simp only[Act.put,lA,lB,lC])
   refine jl (by decide +kernel) ?_
   clear jb
   have hw2:IntKind.i64.wrap (zk-(yk+carry))=r:=by rw[<-hr,IntKind.wrap_i64];omega
   rw[hw2]
   have HT3:Hid (TwoR w ((wr.setCell ⟨gx,k,none⟩ (.int .i64 r)).drew) B2 gx c4 gy c5 N (z.set k r) y):=ja ((HT.o.put k r).drewN 1)
   have HST1:Hid (r<0->SubI x y k 1 (z.set k (r+10))):=ja (λh=>HST.o (r+10) 1 (.inl ⟨by omega,by omega,rfl⟩))
   have HST0:Hid (¬r<0->SubI x y k 0 (z.set k r)):=ja (λh=>HST.o r 0 (.inr ⟨by omega,by omega,rfl⟩))
   clear q1 q2 q3 q1' q2' HT HT2 HST hw1 hw2 hr hdx hdy hcc
   generalize (wr.setCell ⟨gx,k,none⟩ (.int .i64 r)).drew=W3 at *
   have p1:W3.cell? ⟨gx,k,none⟩=some (.int .i64 r):=by
    have h:=(World.ownsRow.cellAt HT3.o.rx k (by omega))
    rw[h]
    simp[HT3.o.lx.symm▸hNk,(List.length_set ..▸HT3.o.lx:z.length=N)▸hNk]
   have p2:W3.frozen? ⟨gx,k,none⟩=false:=World.ownsRow.frozenAt HT3.o.rx k
   by_cases hneg:r<0
   ·have HI:=ja (HST1.o hneg)
    clear HST1 HST0
    go_wp2
    refine⟨⟨k,1,z.set k (r+10),rfl,by go_num,by omega,HI.o,?_⟩,by simp[intOf]⟩
    have h:=HT3.o.put k (r+10)
    rwa [List.set_set] at h
   ·have HI:=ja (HST0.o hneg)
    clear HST1 HST0
    go_wp2
    exact⟨⟨k,0,z.set k r,rfl,by go_num,by omega,HI.o,HT3.o⟩,by simp[intOf]⟩
