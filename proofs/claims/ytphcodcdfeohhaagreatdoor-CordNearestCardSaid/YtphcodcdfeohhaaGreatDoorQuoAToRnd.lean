import Derived.Test.YtphcodcdfeohhaaGreatDoorProdAToProdM
import Derived.Test.YtphcodcdfeohhaaGreatDoorSurdKToSurdL
import Derived.Test.YtphcodcdfeohhaaGreatDoorRFToKVOps
import Derived.OrdersIn
set_option linter.unusedVariables false
set_option linter.unusedSimpArgs false
namespace Go.Proofs.YtphcodcdfeohhaaGreatDoor
open Go.RowKit
def jy8(k:Nat):Int:=if k % 2=0 then 1 else -1
theorem jcy7(k:Nat):jy8 (k+1)=-jy8 k:=by unfold jy8;split<;>split<;>omega
theorem jcm9(k:Nat):-1<=jy8 k/\jy8 k<=1:=by unfold jy8;split<;>omega
def jn8(yd:Int)(l:List (Int×Int)):List (Int×Int):=l.mapIdx fun i t=>(t.1*(jy8 i*yd),t.2)
def jj5(l:List (Int×Int)):Int:=(l.mapIdx fun i t=>jy8 i*t.1*t.1*t.2).sum
theorem jch1(yd:Int)(l:List (Int×Int))(t:Int×Int):jn8 yd (l++[t])=jn8 yd l++[(t.1*(jy8 l.length*yd),t.2)]:=by
 unfold jn8;rw[List.mapIdx_append];simp
theorem jcf4(l:List (Int×Int))(t:Int×Int):jj5 (l++[t])=jj5 l+jy8 l.length*t.1*t.1*t.2:=by
 unfold jj5;rw[List.mapIdx_append,List.sum_append];simp
theorem jy9(yd:Int)(l:List (Int×Int)):(jn8 yd l).length=l.length:=by simp[jn8]
def zd4(yd:Int)(yt:List (Int×Int))(k:Nat):List (Int×Int):=jn8 yd (yt.take k)++yt.drop k
theorem jcz7(yd:Int)(yt:List (Int×Int))(k:Nat)(h:k<=yt.length):(zd4 yd yt k).length=yt.length:=by
 unfold zd4;rw[List.length_append,jy9];simp;omega
theorem jdj8(yd:Int)(yt:List (Int×Int))(k:Nat)(h:k<yt.length):(zd4 yd yt k)[k]?=some yt[k]:=by
 unfold zd4
 rw[List.getElem?_append_right (by rw[jy9];simp;omega),jy9]
 simp[Nat.min_eq_left (Nat.le_of_lt h)]
theorem jcz8(yd:Int)(yt:List (Int×Int))(k:Nat)(h:k<yt.length):(zd4 yd yt k).set k (yt[k].1*(jy8 k*yd),yt[k].2)=zd4 yd yt (k+1):=by
 unfold zd4
 rw[jc7 yt k h,jch1,List.drop_eq_getElem_cons h,List.set_append_right _ _ (by rw[jy9];simp;omega),jy9]
 simp only[List.length_take,Nat.min_eq_left (Nat.le_of_lt h),Nat.sub_self,List.set_cons_zero,List.append_assoc,List.cons_append,List.nil_append]
theorem jam0:∀(l:List (Value×Value)) (i:Nat) (u:Value) (h:i<l.length),(jb7 l).set (i*2) u=jb7 (l.set i (u,l[i].2))
 | x::l,0,u,_=>rfl
 | x::l,i+1,u,h=>by
  have h1:=jam0 l i u (by simpa using h)
  have e:jb7 (x::l)=x.1::x.2::jb7 l:=rfl
  rw[e,show(i+1)*2=i*2+2 by omega]
  show x.1::x.2::((jb7 l).set (i*2) u)=_
  rw[h1]
  rfl
theorem jbp8(ts:List (Int×Int))(i:Nat)(c:Int)(h:i<ts.length):(ja9 ts).set (i*2) (.int .i64 c)=ja9 (ts.set i (c,ts[i].2)):=by
 have h1:=jam0 (ts.map encT) i (.int .i64 c) (by simpa using h)
 unfold ja9
 rw[h1,List.map_set]
 simp[encT]
def quoS(xd:Int)(xt:List (Int×Int))(yd:Int)(yt:List (Int×Int)):Int×List (Int×Int)×Int:=
 if(ja7 xd xt&&ja7 yd yt)=true then
  if yt.length=0 then(0,[],7)else if 2<yt.length then(0,[],11)else jf4 (jm7 [] xt (jn8 yd yt)) (xd*jj5 yt)
 else(0,[],2)
theorem jdf7{c d r q:Int}(hc:c≠0)(hd:d≠0)(hcb:-100000<=c/\c<=100000)(hdb:-100000<=d/\d<=100000)(hr:jg8 r)(hq:jg8 q)(hrq:r≠q):c*c*r≠d*d*q:=by
 intro he
 obtain⟨K,hK⟩:∃K,93+75*2 ^ 36<=16*K:=⟨500000000000,by decide⟩
 have hv:=jam4 K hK (ts:=[((c.natAbs:Int),r),(-(d.natAbs:Int),q)]) (by simp) (by
  intro t ht
  simp only[List.mem_cons,List.not_mem_nil,or_false] at ht
  rcases ht with rfl|rfl
  ·show(c.natAbs:Int)≠0/\-_<=(c.natAbs:Int)/\(c.natAbs:Int)<=_;omega
  ·show -(d.natAbs:Int)≠0/\-_<=-(d.natAbs:Int)/\-(d.natAbs:Int)<=_;omega) (by
  intro t ht
  simp only[List.mem_cons,List.not_mem_nil,or_false] at ht
  rcases ht with rfl|rfl
  ·exact hr
  ·exact hq) (by simp[hrq]) (by simp)
 refine hv ?_
 have h1:¬((c.natAbs:Int)<0):=by omega
 have h2:-(d.natAbs:Int)<0:=by omega
 have hsq:sqT ((c.natAbs:Int),r)=sqT (-(d.natAbs:Int),q):=by
  unfold sqT
  simp only[Int.natAbs_natCast,Int.natAbs_neg]
  have e1:((c.natAbs*c.natAbs*r.toNat:Nat):Int)=c*c*r:=by
   rw[Int.natCast_mul,Int.natAbs_mul_self,Int.toNat_of_nonneg (by have:=hr.1;omega)]
  have e2:((d.natAbs*d.natAbs*q.toNat:Nat):Int)=d*d*q:=by
   rw[Int.natCast_mul,Int.natAbs_mul_self,Int.toNat_of_nonneg (by have:=hq.1;omega)]
  omega
 have e3:jh5 [((c.natAbs:Int),r),(-(d.natAbs:Int),q)] K=jh6 [((c.natAbs:Int),r),(-(d.natAbs:Int),q)] K:=by
  unfold jh5 jh6
  simp only[List.map_cons,List.map_nil,List.sum_cons,List.sum_nil,if_neg h1,if_pos h2,jg3,zf4,hsq]
  omega
 have e4:jn5 [((c.natAbs:Int),r),(-(d.natAbs:Int),q)] K=jn6 [((c.natAbs:Int),r),(-(d.natAbs:Int),q)] K:=by
  unfold jn5 jn6
  simp only[List.map_cons,List.map_nil,List.sum_cons,List.sum_nil,if_neg h1,if_pos h2,jr4,zf4,hsq]
  omega
 have h5:=jag7 [((c.natAbs:Int),r),(-(d.natAbs:Int),q)] K
 unfold jb9
 rw[if_neg (by omega),if_neg (by omega)]
theorem jdn1{yd:Int}{yt:List (Int×Int)}(hok:ja7 yd yt=true)(h1:yt.length≠0)(h2:¬2<yt.length):jj5 yt≠0/\-40000000000000<=jj5 yt/\jj5 yt<=40000000000000:=by
 obtain⟨_,_,_,hp⟩:=jb1 hok
 obtain⟨hr,hn⟩:=jj2 hok
 have hbd:∀t∈yt,1<=t.1*t.1*t.2/\t.1*t.1*t.2<=10000000000000:=fun t ht=>by
  obtain⟨a1,a2,a3,a4⟩:=(hp t ht).1
  have h3:=jc0 (jc0 a4 a4) (b:=t.2) (B:=1000) ⟨by omega,by omega⟩
  refine⟨?_,by omega⟩
  have h4:0<t.1*t.1:=by rcases Int.lt_or_gt_of_ne a3 with h|h;exact Int.mul_pos_of_neg_of_neg h h;exact Int.mul_pos h h
  have:=Int.mul_pos h4 (show 0<t.2 by omega)
  omega
 match yt,h1,h2,hbd,hn,hr,hp with
 | [t],_,_,hbd,_,_,_=>
  have:=hbd t (by simp)
  have e:jj5 [t]=t.1*t.1*t.2:=by simp[jj5,jy8]
  rw[e];omega
 | [t,u],_,_,hbd,hn,hr,hp=>
  have g1:=hbd t (by simp)
  have g2:=hbd u (by simp)
  have e:jj5 [t,u]=t.1*t.1*t.2-u.1*u.1*u.2:=by simp[jj5,jy8,Int.neg_mul];omega
  rw[e]
  have hne:t.2≠u.2:=by intro he;simp[he] at hn
  have h3:=jdf7 (hp t (by simp)).1.2.2.1 (hp u (by simp)).1.2.2.1 (hp t (by simp)).1.2.2.2 (hp u (by simp)).1.2.2.2 (hr t (by simp)) (hr u (by simp)) hne
  omega
 | _::_::_::_,_,h2,_,_,_,_=>exact absurd (by simp) h2
theorem jdn7(kv:List (Int×Int))(den:Int):(jf4 kv den).2.1.length<=4:=by
 unfold jf4
 split
 ·simp
 ·split
  ·simp
  ·dsimp only;omega
theorem jcm7{xd yd m d c:Int}{xt yt ts:List (Int×Int)}(h:jc4 xd xt yd yt m=(d,ts,c)):ts.length<=1000:=by
 have h1:(jc4 xd xt yd yt m).2.1.length<=4:=by
  unfold jc4
  split
  ·exact jdn7 _ _
  ·simp
 rw[h] at h1
 dsimp only at h1
 omega
open Go
theorem jbn4{n:Nat}{P:Program}{o:Oper}{a:Act}{K:Act->World->Prop}{Q:Exit->Act->World->Prop}{l:Nat}{r:Result Next}(h:o.uponIn Fence.wide n P a K Q r):o.uponIn (Fence.wide.inRound l) n P a K Q r:=by
 cases r with
 | ok x w'=>cases x<;>exact h
 | halt x w'=>cases x<;>exact h
def jad6(ops:Array Oper):Bool:=ops.all fun o=>match o.op with|.defer _=>false|_=>true
theorem jbm6{ops:Array Oper}(h:jad6 ops=true){j:Nat}{o:Oper}(hj:ops[j]?=some o)(c:Call):o.op≠.defer c:=by
 intro e
 unfold jad6 at h
 rw[Array.all_eq_true] at h
 obtain⟨hlt,rfl⟩:=Array.getElem?_eq_some_iff.1 hj
 have:=h j hlt
 rw[e] at this
 simp at this
theorem jbn7 {n:Nat} {P:Program} {ops:Array Oper} {K:Act->World->Prop} {Q:Exit->Act->World->Prop} {i:Nat} {a:Act} {w:World} {l:Nat} (hnd:jad6 ops=true)
  (h:wpOpIn Fence.wide n P ops Q i K a w):wpOpIn (Fence.wide.inRound l) n P ops Q i K a w:=by
 unfold wpOpIn at *
 split
 ·rename_i hn;simp only[hn] at h;exact h
 ·rename_i o ho
  simp only[ho] at h
  split
  ·rename_i hw
   simp only[hw,if_true] at h
   unfold Oper.wpIn at *
   refine⟨h.1,?_⟩
   have h2:=h.2
   rw[Oper.semAt_plain _ _ _ (jbm6 hnd ho)] at h2 ⊢
   exact jbn4 h2
  ·rename_i hw
   simp only[hw] at h
   exact h
theorem zz5{n:Nat}{P:Program}{ops:Array Oper}{Q:Exit->Act->World->Prop}{md:Region.Mode}{l:Nat}(hnd:jad6 ops=true):∀(fuel:Nat) (listed:Array Bool) (a:Act) (w:World),
  wpAnyIn Fence.wide n P md ops Q fuel listed a w->wpAnyIn (Fence.wide.inRound l) n P md ops Q fuel listed a w
 | 0,_,_,_,h=>h
 | fuel+1,listed,a,w,h=>⟨h.1,fun i hi=>jbn7 hnd (wpOpIn_mono (fun a w h=>zz5 hnd fuel _ a w h) (h.2 i hi))⟩
theorem jag3 {n id:Nat} {P:Program} {ops:Array Oper} {Q:Exit->Act->World->Prop} {l:Nat} {a:Act} {w:World} (hm:P.follows .mixedOrders=true) (hnd:jad6 ops=true)
  (h:wpAnyIn Fence.wide n P .any ops Q ops.size (Array.replicate ops.size false) a w.drew):(Code.region id ops true).wpIn (Fence.wide.inRound l) n P Q a w:=
 wpIn_region_any hm (zz5 hnd _ _ _ _ h)
end Go.Proofs.YtphcodcdfeohhaaGreatDoor
