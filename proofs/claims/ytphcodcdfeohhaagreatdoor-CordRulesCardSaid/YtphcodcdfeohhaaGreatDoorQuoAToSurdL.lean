import Derived.Test.YtphcodcdfeohhaaGreatDoorOrdBToProdM
set_option linter.all false
namespace Go.Proofs.YtphcodcdfeohhaaGreatDoor
set_option maxRecDepth 100000
set_option maxHeartbeats 8000000
open Go.RowKit
def qj(k:Nat):Int:=if k % 2=0 then 1 else -1
theorem jbs1(k:Nat):qj (k+1)=-qj k:=by unfold qj;split<;>split<;>omega
theorem jbj0(k:Nat):-1<=qj k/\qj k<=1:=by unfold qj;split<;>omega
def JD(yd:Int)(l:List (Int×Int)):List (Int×Int):=l.mapIdx λi t=>(t.1*(qj i*yd),t.2)
def zR(l:List (Int×Int)):Int:=(l.mapIdx λi t=>qj i*t.1*t.1*t.2).sum
theorem jbd9(yd:Int)(l:List (Int×Int))(t:Int×Int):JD yd (l++[t])=JD yd l++[(t.1*(qj l.length*yd),t.2)]:=by
 unfold JD;rw[List.mapIdx_append];simp
theorem jbb6(l:List (Int×Int))(t:Int×Int):zR (l++[t])=zR l+qj l.length*t.1*t.1*t.2:=by
 unfold zR;rw[List.mapIdx_append,List.sum_append];simp
theorem qk(yd:Int)(l:List (Int×Int)):(JD yd l).length=l.length:=by simp[JD]
def Qe(yd:Int)(yt:List (Int×Int))(k:Nat):List (Int×Int):=JD yd (yt.take k)++yt.drop k
theorem jbt4(yd:Int)(yt:List (Int×Int))(k:Nat)(h:k<=yt.length):(Qe yd yt k).length=yt.length:=by
 unfold Qe;rw[List.length_append,qk];simp;omega
theorem jcg4(yd:Int)(yt:List (Int×Int))(k:Nat)(h:k<yt.length):(Qe yd yt k)[k]?=some yt[k]:=by
 unfold Qe
 rw[List.getElem?_append_right (by rw[qk];simp;omega),qk]
 simp[Nat.min_eq_left (Nat.le_of_lt h)]
theorem jbt5(yd:Int)(yt:List (Int×Int))(k:Nat)(h:k<yt.length):(Qe yd yt k).set k (yt[k].1*(qj k*yd),yt[k].2)=Qe yd yt (k+1):=by
 unfold Qe
 rw[jw yt k h,jbd9,List.drop_eq_getElem_cons h,List.set_append_right _ _ (by rw[qk];simp;omega),qk]
 simp only[List.length_take,Nat.min_eq_left (Nat.le_of_lt h),Nat.sub_self,List.set_cons_zero,List.append_assoc,List.cons_append,List.nil_append]
theorem zb7:∀(l:List (Value×Value)) (i:Nat) (u:Value) (h:i<l.length),(jB l).set (i*2) u=jB (l.set i (u,l[i].2))
 | x::l,0,u,_=>rfl
 | x::l,i+1,u,h=>by
  have h1:=zb7 l i u (by simpa using h)
  have e:jB (x::l)=x.1::x.2::jB l:=rfl
  rw[e,show(i+1)*2=i*2+2 by omega]
  show x.1::x.2::((jB l).set (i*2) u)=_
  rw[h1]
  rfl
theorem jd6(ts:List (Int×Int))(i:Nat)(c:Int)(h:i<ts.length):(jr ts).set (i*2) (.int .i64 c)=jr (ts.set i (c,ts[i].2)):=by
 have h1:=zb7 (ts.map jr7) i (.int .i64 c) (by simpa using h)
 unfold jr
 rw[h1,List.map_set]
 simp[jr7]
def jn7(xd:Int)(xt:List (Int×Int))(yd:Int)(yt:List (Int×Int)):Int×List (Int×Int)×Int:=
 if(js xd xt&&js yd yt)=true then
  if yt.length=0 then(0,[],7)else if 2<yt.length then(0,[],11)else jY (Jq [] xt (JD yd yt)) (xd*zR yt)
 else(0,[],2)
theorem jcb8{c d r q:Int}(hc:c≠0)(hd:d≠0)(hcb:-100000<=c/\c<=100000)(hdb:-100000<=d/\d<=100000)(hr:zu r)(hq:zu q)(hrq:r≠q):c*c*r≠d*d*q:=by
 intro he
 obtain⟨K,hK⟩:∃K,93+75*2 ^ 36<=16*K:=⟨500000000000,by decide⟩
 have hv:=zc0 K hK (ts:=[((c.natAbs:Int),r),(-(d.natAbs:Int),q)]) (by simp) (by
  intro t ht
  simp only[List.mem_cons,List.not_mem_nil,or_false] at ht
  rcases ht with rfl|rfl
  ·show(c.natAbs:Int)≠0/\-_<=(c.natAbs:Int)/\(c.natAbs:Int)<=_;omega
  ·show -(d.natAbs:Int)≠0/\-_<=-(d.natAbs:Int)/\-(d.natAbs:Int)<=_;omega) (by
  intro t ht
  simp only[List.mem_cons,List.not_mem_nil,or_false] at ht
  rcases ht with rfl|rfl
  ·exact hr
  ·exact hq) (by simp[hrq]) (by simp)
 refine hv ?_
 have h1:¬((c.natAbs:Int)<0):=by omega
 have h2:-(d.natAbs:Int)<0:=by omega
 have hsq:sqT ((c.natAbs:Int),r)=sqT (-(d.natAbs:Int),q):=by
  unfold sqT
  simp only[Int.natAbs_natCast,Int.natAbs_neg]
  have e1:((c.natAbs*c.natAbs*r.toNat:Nat):Int)=c*c*r:=by
   rw[Int.natCast_mul,Int.natAbs_mul_self,Int.toNat_of_nonneg (by have:=hr.1;omega)]
  have e2:((d.natAbs*d.natAbs*q.toNat:Nat):Int)=d*d*q:=by
   rw[Int.natCast_mul,Int.natAbs_mul_self,Int.toNat_of_nonneg (by have:=hq.1;omega)]
  omega
 have e3:zv [((c.natAbs:Int),r),(-(d.natAbs:Int),q)] K=zw [((c.natAbs:Int),r),(-(d.natAbs:Int),q)] K:=by
  unfold zv zw
  simp only[List.map_cons,List.map_nil,List.sum_cons,List.sum_nil,if_neg h1,if_pos h2,zh,Zv,hsq]
  omega
 have e4:Jg [((c.natAbs:Int),r),(-(d.natAbs:Int),q)] K=Jh [((c.natAbs:Int),r),(-(d.natAbs:Int),q)] K:=by
  unfold Jg Jh
  simp only[List.map_cons,List.map_nil,List.sum_cons,List.sum_nil,if_neg h1,if_pos h2,Jr,Zv,hsq]
  omega
 have h5:=jy0 [((c.natAbs:Int),r),(-(d.natAbs:Int),q)] K
 unfold jy
 rw[if_neg (by omega),if_neg (by omega)]
theorem jcj3{yd:Int}{yt:List (Int×Int)}(hok:js yd yt=true)(h1:yt.length≠0)(h2:¬2<yt.length):zR yt≠0/\-40000000000000<=zR yt/\zR yt<=40000000000000:=by
 obtain⟨_,_,_,hp⟩:=jz hok
 obtain⟨hr,hn⟩:=Jd hok
 have hbd:∀t∈yt,1<=t.1*t.1*t.2/\t.1*t.1*t.2<=10000000000000:=λt ht=>by
  obtain⟨a1,a2,a3,a4⟩:=(hp t ht).1
  have h3:=jE (jE a4 a4) (b:=t.2) (B:=1000) ⟨by omega,by omega⟩
  refine⟨?_,by omega⟩
  have h4:0<t.1*t.1:=by rcases Int.lt_or_gt_of_ne a3 with h|h;exact Int.mul_pos_of_neg_of_neg h h;exact Int.mul_pos h h
  have:=Int.mul_pos h4 (show 0<t.2 by omega)
  omega
 match yt,h1,h2,hbd,hn,hr,hp with
 | [t],_,_,hbd,_,_,_=>
  have:=hbd t (by simp)
  have e:zR [t]=t.1*t.1*t.2:=by simp[zR,qj]
  rw[e];omega
 | [t,u],_,_,hbd,hn,hr,hp=>
  have g1:=hbd t (by simp)
  have g2:=hbd u (by simp)
  have e:zR [t,u]=t.1*t.1*t.2-u.1*u.1*u.2:=by simp[zR,qj,Int.neg_mul];omega
  rw[e]
  have hne:t.2≠u.2:=by intro he;simp[he] at hn
  have h3:=jcb8 (hp t (by simp)).1.2.2.1 (hp u (by simp)).1.2.2.1 (hp t (by simp)).1.2.2.2 (hp u (by simp)).1.2.2.2 (hr t (by simp)) (hr u (by simp)) hne
  omega
 | _::_::_::_,_,h2,_,_,_,_=>exact absurd (by simp) h2
theorem jap3 (xd:Int) (xA:Option Addr) (xn xc:Nat) (xt:List (Int×Int)) (yd:Int) (yA:Option Addr) (yn yc:Nat) (yt:List (Int×Int)) (B:Nat) (w:World) (hx:ji w B xA xn xc xt) (hy:ji w B yA yn yc yt) (hB:B<=w.heap.size) :
  Calls Tryz.prog 36 #[.agg #[.int .i64 xd,.slice xA xn xc],.agg #[.int .i64 yd,.slice yA yn yc]] w (jV w (jc7 xd xt yd yt)):=by
 have HV:=ja (Qv xd xA xn xc xt yd yA yn yc yt B (((w.alloc (.cells #[.int .i64 xd,.slice xA xn xc] 24)).alloc (.cells #[.int .i64 yd,.slice yA yn yc] 24)).alloc (.cells #[.int .i64 0,.slice none 0 0] 24))
  (Rd.alloc (Rd.alloc (Rd.alloc hx hB _) (by simp;omega) _) (by simp;omega) _) (Rd.alloc (Rd.alloc (Rd.alloc hy hB _) (by simp;omega) _) (by simp;omega) _) (by simp;omega))
 have HX0:=ja ((jh.new w 24 #[.int .i64 xd,.slice xA xn xc]).alloc (.cells #[.int .i64 yd,.slice yA yn yc] 24) |>.alloc (.cells #[.int .i64 0,.slice none 0 0] 24))
 have HY0:=ja ((jh.new (w.alloc (.cells #[.int .i64 xd,.slice xA xn xc] 24)) 24 #[.int .i64 yd,.slice yA yn yc]).alloc (.cells #[.int .i64 0,.slice none 0 0] 24))
 have HR0:=ja (jh.new ((w.alloc (.cells #[.int .i64 xd,.slice xA xn xc] 24)).alloc (.cells #[.int .i64 yd,.slice yA yn yc] 24)) 24 #[.int .i64 0,.slice none 0 0])
 have HB0:=ja ((((Below.refl w.heap.size w).alloc (Nat.le_refl _) (.cells #[.int .i64 xd,.slice xA xn xc] 24)).alloc (by simp) (.cells #[.int .i64 yd,.slice yA yn yc] 24)).alloc (by simp;omega) (.cells #[.int .i64 0,.slice none 0 0] 24))
 have hsz:Hid (w.heap.size+3=(((w.alloc (.cells #[.int .i64 xd,.slice xA xn xc] 24)).alloc (.cells #[.int .i64 yd,.slice yA yn yc] 24)).alloc (.cells #[.int .i64 0,.slice none 0 0] 24)).heap.size):=ja (by simp)
 simp only[World.size_alloc] at HV HX0 HY0 HR0
 go_enter Tryz.func36,Tryz.ntmps36
 go_wp2_with fail
 refine HV.o.mono ?_
 rintro e w1 ⟨rfl,hb1⟩
 clear HV
 have HXT:=ja (ji.below hx (HB0.o.mono hB))
 have HYT:=ja (ji.below hy (HB0.o.mono hB))
 clear hx hy
 generalize ((w.alloc (.cells #[.int .i64 xd,.slice xA xn xc] 24)).alloc (.cells #[.int .i64 yd,.slice yA yn yc] 24)).alloc (.cells #[.int .i64 0,.slice none 0 0] 24)=w0 at *
 have hszb:=hb1.size
 have hsz:=hsz.o
 have hb1':Below w0.heap.size w0 w1:=by rw[<-hsz];exact hb1
 have HX1:=ja (HX0.o.below hb1' (by omega))
 have HY1:=ja (HY0.o.below hb1' (by omega))
 have HR1:=ja (HR0.o.below hb1' (by omega))
 have HXT1:=ja (ji.below HXT.o (hb1'.mono (by omega)))
 have HYT1:=ja (ji.below HYT.o (hb1'.mono (by omega)))
 have HB1:=ja (HB0.o.trans (hb1'.mono (by omega)))
 have hz1:w.heap.size+3<=w1.heap.size:=by omega
 clear hb1 hb1' HX0 HY0 HR0 HXT HYT HB0 hsz hszb
 have hpost:∀(W:World) (a:Act) (A:Option Addr) (n c:Nat) (x y:Int) (l:List (Int×Int)),jc7 xd xt yd yt=(x,l,y)->W.ownsRow w.heap.size 59 2 (.slice A n c) n (jr l)->Below w.heap.size w W->jh W (w.heap.size+1+1) 24 #[.int .i64 x,.slice A n c] ->
   a.tmps.getD 4 undef=.pointer (some ⟨w.heap.size+1+1,0,none⟩)->a.tmps.getD 5 undef=.int .i64 y->a.defers=[] ->
   bodyPost Tryz.prog Tryz.f36 (jV w (jc7 xd xt yd yt)) .ret a W:=by
  intro W a A n c x y l e1 e2 e3 e4 e5 e6 e7
  refine jq (p:=4) (u:=5) (ty:=24) rfl e5 e4 Tryz.underlying24 rfl Tryz.sizeNumber e7 ?_
  rw[e1,e6]
  exact⟨A,n,c,rfl,e2,e3⟩
 obtain⟨hr0,hr1,hrf0,hrf1⟩:=HR1.o.two
 cases hok:(js xd xt&&js yd yt)
 ·have HP:=ja (show jc7 xd xt yd yt=(0,[],2) by unfold jc7;rw[hok];rfl)
  go_wp2
  exact hpost _ _ none 0 0 0 2 [] HP.o ⟨rfl,.inl ⟨rfl,rfl⟩⟩ (Below.setCell (Below.setCell HB1.o (by simp;omega) _) (by simp;omega) _) ((HR1.o.set_ 0 _).set_ 1 _) rfl rfl rfl
 ·have HP:=ja (show jc7 xd xt yd yt=jY (Jq [] xt yt) (xd*yd) by unfold jc7;rw[hok];rfl)
  rw[Bool.and_eq_true] at hok
  obtain⟨px1,px2,px3,px4⟩:=jz hok.1
  obtain⟨py1,py2,py3,py4⟩:=jz hok.2
  have hcx:∀t∈xt,∀u∈yt,(-10000000000000<=jc6 t u/\jc6 t u<=10000000000000)/\-9000000000000000000<=t.1*u.1/\t.1*u.1<=9000000000000000000:=λt ht u hu=>by
   have h1:=jbh5 (t:=t) (u:=u) (A:=100000) (C:=100000) ⟨(px4 t ht).1.1,(px4 t ht).1.2.1⟩ (px4 t ht).1.2.2.2 (py4 u hu).1.2.2.2
   omega
  have HPD:=ja (zd0 xA xn xc xt yA yn yc yt B w1.drew HXT1.o HYT1.o (by show B<=w1.heap.size;omega) px3 py3 10000000000000 (by omega) (by have:=jca7 (Nat.mul_le_mul px3 py3) (N:=10000000000000) (by omega);omega) (λt ht=>⟨(px4 t ht).1.1,(px4 t ht).1.2.1⟩) (λt ht=>⟨(py4 t ht).1.1,(py4 t ht).1.2.1⟩) hcx)
  have hdd:=jE (a:=xd) (b:=yd) (A:=100000) (B:=100000) (by omega) (by omega)
  have hd1:1<=xd*yd:=by
   have:(1:Int)*1<=xd*yd:=Int.mul_le_mul (by omega) (by omega) (by omega) (by omega)
   omega
  have hbd:=jt6 (N:=10000000000000) (by omega) yt xt [] 0 zB.nil (λt ht u hu=>(hcx t ht u hu).1)
  have hbd2:zB (Jq [] xt yt) 160000000000000:=hbd.mono (by have:=jca7 (Nat.mul_le_mul px3 py3) (N:=10000000000000) (by omega);omega)
  have hln:=za2 yt xt []
  have hln2:(Jq [] xt yt).length<=16:=by have:=Nat.mul_le_mul px3 py3;simp at hln;omega
  have HOV:=ja (λW h=>QO w1.heap.size (Jq [] xt yt) (xd*yd) 160000000000000 W h (by omega) (by omega) (by omega) hbd2 (by omega))
  have hwr:IntKind.i64.wrap (xd*yd)=xd*yd:=by rw[IntKind.wrap_i64];omega
  obtain⟨x0,x1,_,_⟩:=HX1.o.two
  obtain⟨y0,y1,_,_⟩:=HY1.o.two
  clear hbd hbd2 hln hln2 hcx px4 py4 hok
  generalize Jq [] xt yt=kv1 at *
  generalize hsv:jY kv1 (xd*yd)=sv at *
  obtain⟨s1,s2,s3⟩:=sv
  have HSV:=ja hsv;clear hsv
  have HS1:=ja (show(w1.drew).cell? ⟨w.heap.size,0,none⟩=some (.int .i64 xd)/\(w1.drew).cell? ⟨w.heap.size,1,none⟩=some (.slice xA xn xc)/\(w1.drew).cell? ⟨w.heap.size+1,0,none⟩=some (.int .i64 yd)/\(w1.drew).cell? ⟨w.heap.size+1,1,none⟩=some (.slice yA yn yc)from⟨x0,x1,y0,y1⟩)
  have HSET:=ja (λ(W:World) (i:Nat) (u:Value) (h:W.cell? ⟨w.heap.size,0,none⟩=some (.int .i64 xd)/\W.cell? ⟨w.heap.size,1,none⟩=some (.slice xA xn xc)/\W.cell? ⟨w.heap.size+1,0,none⟩=some (.int .i64 yd)/\W.cell? ⟨w.heap.size+1,1,none⟩=some (.slice yA yn yc))=>
   (show(W.setCell ⟨w.heap.size+1+1,i,none⟩ u).cell? ⟨w.heap.size,0,none⟩=some (.int .i64 xd)/\(W.setCell ⟨w.heap.size+1+1,i,none⟩ u).cell? ⟨w.heap.size,1,none⟩=some (.slice xA xn xc)/\(W.setCell ⟨w.heap.size+1+1,i,none⟩ u).cell? ⟨w.heap.size+1,0,none⟩=some (.int .i64 yd)/\(W.setCell ⟨w.heap.size+1+1,i,none⟩ u).cell? ⟨w.heap.size+1,1,none⟩=some (.slice yA yn yc)from
    ⟨(World.cell?_setCell_other W _ _ u (by simp)).trans h.1,(World.cell?_setCell_other W _ _ u (by simp)).trans h.2.1,(World.cell?_setCell_other W _ _ u (by simp)).trans h.2.2.1,(World.cell?_setCell_other W _ _ u (by simp)).trans h.2.2.2⟩))
  have HPOST:=ja hpost
  clear hpost
  go_wp2
  go_region_held3 (λw'=>w'.cell? ⟨w.heap.size,0,none⟩=some (.int .i64 xd)/\w'.cell? ⟨w.heap.size,1,none⟩=some (.slice xA xn xc)/\w'.cell? ⟨w.heap.size+1,0,none⟩=some (.int .i64 yd)/\w'.cell? ⟨w.heap.size+1,1,none⟩=some (.slice yA yn yc)) (first|with_reducible exact HS5.o|with_reducible exact HS4.o|with_reducible exact HS1.o|with_reducible (exact HSET.o _ _ _ HS5.o)|with_reducible (exact HSET.o _ _ _ (HSET.o _ _ _ HS5.o))) (first
   | (go_at_call 79;refine HPD.o.mono ?_;rintro e w4 ⟨rfl,hm4,hb4⟩
      have HX4:=ja ((HX1.o.drew).below hb4 (by show w.heap.size<w1.heap.size;omega))
      have HY4:=ja ((HY1.o.drew).below hb4 (by show w.heap.size+1<w1.heap.size;omega))
      have HR4:=ja ((HR1.o.drew).below hb4 (by show w.heap.size+1+1<w1.heap.size;omega))
      have HB4:=ja ((HB1.o.drew).trans (hb4.mono (by show w.heap.size<=w1.heap.size;omega)))
      have HS4:=ja (show w4.cell? ⟨w.heap.size,0,none⟩=some (.int .i64 xd)/\w4.cell? ⟨w.heap.size,1,none⟩=some (.slice xA xn xc)/\w4.cell? ⟨w.heap.size+1,0,none⟩=some (.int .i64 yd)/\w4.cell? ⟨w.heap.size+1,1,none⟩=some (.slice yA yn yc)from⟨HX4.o.cell 0,HX4.o.cell 1,HY4.o.cell 0,HY4.o.cell 1⟩)
      have HOV4:=ja (HOV.o w4 hm4)
      have hz4:w1.heap.size<=w4.heap.size:=hb4.size
      clear hm4 hb4)
   | (go_at_call 64;refine HOV4.o.mono ?_;rintro e w5 ⟨A4,n4,c4,rfl,ht5,hg5⟩
      have HX5:=HX4.o.grown hg5 (by simp;omega)
      have HY5:=HY4.o.grown hg5 (by simp;omega)
      have HR5:=ja (HR4.o.grown hg5 (by simp;omega))
      have HB5:=ja (HB4.o.grown hg5 (by omega) (by simp;omega))
      have HS5:=ja (show w5.cell? ⟨w.heap.size,0,none⟩=some (.int .i64 xd)/\w5.cell? ⟨w.heap.size,1,none⟩=some (.slice xA xn xc)/\w5.cell? ⟨w.heap.size+1,0,none⟩=some (.int .i64 yd)/\w5.cell? ⟨w.heap.size+1,1,none⟩=some (.slice yA yn yc)from⟨HX5.cell 0,HX5.cell 1,HY5.cell 0,HY5.cell 1⟩)
      obtain⟨q1,q2,q3,q4⟩:=HR5.o.two
      have HT5:=ja ht5
      have hz5:=hg5.size
      obtain⟨c51,c52,c53,c54⟩:=HS5.o
      clear HX5 HY5 ht5 hg5))
  all_goals
   go_wp2
   exact HPOST.o _ _ A4 n4 c4 s1 s3 s2 HP.o (jO (ownsRow_setCell_below (ownsRow_setCell_below HT5.o (by show w.heap.size+1+1<_;omega) _) (by show w.heap.size+1+1<_;omega) _) (by omega))
    (Below.setCell (Below.setCell HB5.o (by show _<=w.heap.size+1+1;omega) _) (by show _<=w.heap.size+1+1;omega) _) ((HR5.o.set_ 0 _).set_ 1 _) rfl rfl rfl
theorem zz7 (xd:Int) (xA:Option Addr) (xn xc:Nat) (xt:List (Int×Int)) (yd:Int) (yA:Option Addr) (yn yc:Nat) (yt:List (Int×Int)) (B:Nat) (times:Int) (w:World) (hx:ji w B xA xn xc xt) (hy:ji w B yA yn yc yt) (hB:B<=w.heap.size) (ht:-1<=times/\times<=1) :
  Calls Tryz.prog 67 #[.agg #[.int .i64 xd,.slice xA xn xc],.agg #[.int .i64 yd,.slice yA yn yc],.int .i64 times] w (jV w (jL xd xt yd yt times)):=by
 have HV:=ja (Qv xd xA xn xc xt yd yA yn yc yt B (((w.alloc (.cells #[.int .i64 xd,.slice xA xn xc] 24)).alloc (.cells #[.int .i64 yd,.slice yA yn yc] 24)).alloc (.cells #[.int .i64 0,.slice none 0 0] 24))
  (Rd.alloc (Rd.alloc (Rd.alloc hx hB _) (by simp;omega) _) (by simp;omega) _) (Rd.alloc (Rd.alloc (Rd.alloc hy hB _) (by simp;omega) _) (by simp;omega) _) (by simp;omega))
 have HX0:=ja ((jh.new w 24 #[.int .i64 xd,.slice xA xn xc]).alloc (.cells #[.int .i64 yd,.slice yA yn yc] 24) |>.alloc (.cells #[.int .i64 0,.slice none 0 0] 24))
 have HY0:=ja ((jh.new (w.alloc (.cells #[.int .i64 xd,.slice xA xn xc] 24)) 24 #[.int .i64 yd,.slice yA yn yc]).alloc (.cells #[.int .i64 0,.slice none 0 0] 24))
 have HR0:=ja (jh.new ((w.alloc (.cells #[.int .i64 xd,.slice xA xn xc] 24)).alloc (.cells #[.int .i64 yd,.slice yA yn yc] 24)) 24 #[.int .i64 0,.slice none 0 0])
 have hxm:=ji.nmax hx
 have hym:=ji.nmax hy
 obtain rfl:=ji.len hx
 obtain rfl:=ji.len hy
 have HB0:=ja ((((Below.refl w.heap.size w).alloc (Nat.le_refl _) (.cells #[.int .i64 xd,.slice xA xt.length xc] 24)).alloc (by simp) (.cells #[.int .i64 yd,.slice yA yt.length yc] 24)).alloc (by simp;omega) (.cells #[.int .i64 0,.slice none 0 0] 24))
 have hsz:Hid (w.heap.size+3=(((w.alloc (.cells #[.int .i64 xd,.slice xA xt.length xc] 24)).alloc (.cells #[.int .i64 yd,.slice yA yt.length yc] 24)).alloc (.cells #[.int .i64 0,.slice none 0 0] 24)).heap.size):=ja (by simp)
 simp only[World.size_alloc] at HV HX0 HY0 HR0
 go_enter Tryz.func67,Tryz.ntmps67
 go_wp2_with fail
 refine HV.o.mono ?_
 rintro e w1 ⟨rfl,hb1⟩
 clear HV
 have HXT:=ja (ji.below hx (HB0.o.mono hB))
 have HYT:=ja (ji.below hy (HB0.o.mono hB))
 clear hx hy
 generalize ((w.alloc (.cells #[.int .i64 xd,.slice xA xt.length xc] 24)).alloc (.cells #[.int .i64 yd,.slice yA yt.length yc] 24)).alloc (.cells #[.int .i64 0,.slice none 0 0] 24)=w0 at *
 have hszb:=hb1.size
 have hsz:=hsz.o
 have hb1':Below w0.heap.size w0 w1:=by rw[<-hsz];exact hb1
 have HX1:=ja (HX0.o.below hb1' (by omega))
 have HY1:=ja (HY0.o.below hb1' (by omega))
 have HR1:=ja (HR0.o.below hb1' (by omega))
 have HXT1:=ja (ji.below HXT.o (hb1'.mono (by omega)))
 have HYT1:=ja (ji.below HYT.o (hb1'.mono (by omega)))
 have HB1:=ja (HB0.o.trans (hb1'.mono (by omega)))
 have hz1:w.heap.size+3<=w1.heap.size:=by omega
 clear hb1 hb1' HX0 HY0 HR0 HXT HYT HB0 hsz hszb
 have hpost:∀(W:World) (a:Act) (A:Option Addr) (n c:Nat) (x y:Int) (l:List (Int×Int)),jL xd xt yd yt times=(x,l,y)->W.ownsRow w.heap.size 59 2 (.slice A n c) n (jr l)->Below w.heap.size w W->jh W (w.heap.size+1+1) 24 #[.int .i64 x,.slice A n c] ->
   a.tmps.getD 6 undef=.pointer (some ⟨w.heap.size+1+1,0,none⟩)->a.tmps.getD 7 undef=.int .i64 y->a.defers=[] ->
   bodyPost Tryz.prog Tryz.f67 (jV w (jL xd xt yd yt times)) .ret a W:=by
  intro W a A n c x y l e1 e2 e3 e4 e5 e6 e7
  refine jq (p:=6) (u:=7) (ty:=24) rfl e5 e4 Tryz.underlying24 rfl Tryz.sizeNumber e7 ?_
  rw[e1,e6]
  exact⟨A,n,c,rfl,e2,e3⟩
 have hr0:=HR1.o.cell 0
 have hr1:=HR1.o.cell 1
 have hrf0:=HR1.o.free 0
 have hrf1:=HR1.o.free 1
 simp at hr0 hr1
 cases hok:(js xd xt&&js yd yt)
 ·have HP:=ja (show jL xd xt yd yt times=(0,[],2) by unfold jL;rw[hok];rfl)
  go_wp2
  exact hpost _ _ none 0 0 0 2 [] HP.o ⟨rfl,.inl ⟨rfl,rfl⟩⟩ (Below.setCell (Below.setCell HB1.o (by simp;omega) _) (by simp;omega) _) ((HR1.o.set_ 0 _).set_ 1 _) rfl rfl rfl
 ·have HP:=ja (show jL xd xt yd yt times=jY (ju (ju [] xt yd) yt (times*xd)) (xd*yd) by unfold jL;rw[hok];rfl)
  rw[Bool.and_eq_true] at hok
  obtain⟨px1,px2,px3,px4⟩:=jz hok.1
  obtain⟨py1,py2,py3,py4⟩:=jz hok.2
  have PX:=ja px4;have PY:=ja py4
  clear px4 py4 hok
  have HM2:Hid (zH (w1.alloc (.map #[] 0)) w1.heap.size []):=ja (jt.new w1)
  have HX2:=ja (HX1.o.alloc (.map #[] 0))
  have HY2:=ja (HY1.o.alloc (.map #[] 0))
  have HR2:=ja (HR1.o.alloc (.map #[] 0))
  have HXT2:=ja (Rd.alloc HXT1.o (by omega) (.map #[] 0))
  have HYT2:=ja (Rd.alloc HYT1.o (by omega) (.map #[] 0))
  have HB2:=ja (Below.alloc HB1.o (by omega) (.map #[] 0))
  have hx1:=HX2.o.cell 1
  simp at hx1
  clear hr0 hr1 hrf0 hrf1
  go_wp2_with (first
   | (refine zi _ rfl _ rfl ?_))
  go_loopw [23] (λi W=>∃(k:Nat),k<=xt.length/\i=.int .i64 k/\zH W w1.heap.size (ju [] (xt.take k) yd)/\jh W w.heap.size 24 #[.int .i64 xd,.slice xA xt.length xc]/\jh W (w.heap.size+1) 24 #[.int .i64 yd,.slice yA yt.length yc] /\
   jh W (w.heap.size+1+1) 24 #[.int .i64 0,.slice none 0 0]/\ji W B xA xt.length xc xt/\ji W B yA yt.length yc yt/\Below w.heap.size w W) (λi _=>xt.length-(intOf i).toNat)
  case atStart=>exact⟨0,by omega,rfl,HM2.o,HX2.o,HY2.o,HR2.o,HXT2.o,HYT2.o,HB2.o⟩
  case round=>
   obtain⟨k,hk,rfl,a1,a2,a3,a4,a5,a6,a7⟩:=hrel
   have b1:=ja a1;have b2:=ja a2;have b3:=ja a3;have b4:=ja a4;have b5:=ja a5;have b6:=ja a6;have b7:=ja a7
   have hlm:=a1.lt
   clear a1 a2 a3 a4 a5 a6 a7
   by_cases hlt:k<xt.length
   ·have hy0:∀o,(wr.alloc o).cell? ⟨w.heap.size+1,0,none⟩=some (.int .i64 yd):=λo=>(b3.o.alloc o).cell 0
    obtain⟨ad,rfl,hc0,hc1⟩:=b5.o.at_ hlt
    have hpt:=PX.o xt[k] (List.getElem_mem hlt)
    have hS:=ja (show ju [] (xt.take (k+1)) yd=addRoot (ju [] (xt.take k) yd) (xt[k].1*yd) xt[k].2 by rw[jw _ k hlt,jd2])
    have hbd:=qM (N:=10000000000) (m:=yd) (by omega) (xt.take k) [] 0 zB.nil (λt ht=>by
     have h1:=PX.o t (List.mem_of_mem_take ht)
     have h2:=jk0 (m:=yd) (N:=100000) h1.1 h1.2 (by omega)
     omega)
    have hll:((xt.take k).length:Int)<=4:=by simp;omega
    generalize xt[k]=t at *
    obtain⟨co,ro⟩:=t
    have htm:=jk0 (m:=yd) (N:=100000) hpt.1 hpt.2 (by omega)
    have hro:=hpt.1.2.1
    simp only at hro htm hc0 hc1 hS
    have hbd2:zB (ju [] (xt.take k) yd) 1000000000000:=hbd.mono (by omega)
    have HA:=ja (zd5 w1.heap.size (ju [] (xt.take k) yd) (co*yd) ro (wr.alloc (.cells #[.int .i64 co,.int .i64 ro] 59)) (jt.alloc b1.o _) (by omega) (by rw[htm.2.2];omega) (λr=>by have:=hbd2 r;omega))
    have hcy1:-9000000000000000000<=co*yd/\co*yd<=9000000000000000000:=by omega
    clear hpt hbd hll htm hbd2
    go_wp2_with (first
     | (go_at_call 63;refine HA.o.mono ?_;rintro e w3 ⟨rfl,hm3,hg3,hz3⟩;have HM3:=ja hm3;have HG3:=ja hg3;have HZ3:=ja hz3;clear hm3 hg3 hz3))
    have hw3:wr.heap.size+1<=w3.heap.size:=by have:=HG3.o.size;simpa using this
    have HAL:=ja (Below.alloc b7.o b7.o.size (.cells #[.int .i64 co,.int .i64 ro] 59))
    have hlm2:w.heap.size+3<=w1.heap.size:=hz1
    refine⟨⟨k+1,by omega,rfl,by rw[hS.o];exact HM3.o,(b2.o.alloc _).grown HG3.o (by simp;omega),(b3.o.alloc _).grown HG3.o (by simp;omega),(b4.o.alloc _).grown HG3.o (by simp;omega),
     Rd.grown (Rd.alloc b5.o (by omega) _) HG3.o (by simp;omega) (by simp;omega),Rd.grown (Rd.alloc b6.o (by omega) _) HG3.o (by simp;omega) (by simp;omega),HAL.o.grown HG3.o (by simp;omega) (by simp;omega)⟩,by simp[intOf];omega⟩
   ·obtain rfl:k=xt.length:=by omega
    rw[List.take_length] at b1
    have hbd:=qM (N:=10000000000) (m:=yd) (by omega) xt [] 0 zB.nil (λt ht=>by
     have h1:=PX.o t ht
     have h2:=jk0 (m:=yd) (N:=100000) h1.1 h1.2 (by omega)
     omega)
    have hbd2:zB (ju [] xt yd) 1000000000000:=hbd.mono (by omega)
    have hlen0:=QZ xt [] yd
    simp only[List.length_nil,Nat.zero_add] at hlen0
    have HBD:=ja hbd2
    have hy1:=b3.o.cell 1
    simp at hy1
    clear hbd hbd2 HX1 HXT1 HX2 HXT2 PX HM2 HY2 HR2 HYT2 HB2 HY1 HR1 HYT1 hx1
    have hlm2:w.heap.size+3<=w1.heap.size:=hz1
    generalize ju [] xt yd=kv0 at *
    generalize hmm:w1.heap.size=m at *
    have hmm:=ja hmm
    clear HB1
    go_wp2
    go_loopw [40] (λi W=>∃(k:Nat),k<=yt.length/\i=.int .i64 k/\zH W m (ju kv0 (yt.take k) (times*xd))/\jh W w.heap.size 24 #[.int .i64 xd,.slice xA xt.length xc]/\jh W (w.heap.size+1) 24 #[.int .i64 yd,.slice yA yt.length yc] /\
     jh W (w.heap.size+1+1) 24 #[.int .i64 0,.slice none 0 0]/\ji W B yA yt.length yc yt/\Below w.heap.size w W) (λi _=>yt.length-(intOf i).toNat)
    case atStart=>exact⟨0,by omega,rfl,b1.o,b2.o,b3.o,b4.o,b6.o,b7.o⟩
    case round=>
     clear b1 b2 b3 b4 b5 b6 b7 hlm
     obtain⟨k,hk,rfl,a1,a2,a3,a4,a6,a7⟩:=hrel
     have b1:=ja a1;have b2:=ja a2;have b3:=ja a3;have b4:=ja a4;have b6:=ja a6;have b7:=ja a7
     have hlm:=a1.lt
     clear a1 a2 a3 a4 a6 a7
     have htx:-100000<=times*xd/\times*xd<=100000:=jE (A:=1) (B:=100000) (by omega) (by omega)
     by_cases hlt:k<yt.length
     ·have hy0:∀o,(wr.alloc o).cell? ⟨w.heap.size,0,none⟩=some (.int .i64 xd):=λo=>(b2.o.alloc o).cell 0
      obtain⟨ad,rfl,hc0,hc1⟩:=b6.o.at_ hlt
      have hpt:=PY.o yt[k] (List.getElem_mem hlt)
      have hS:=ja (show ju kv0 (yt.take (k+1)) (times*xd)=addRoot (ju kv0 (yt.take k) (times*xd)) (yt[k].1*(times*xd)) yt[k].2 by rw[jw _ k hlt,jd2])
      have hbd:=qM (N:=10000000000) (m:=times*xd) (by omega) (yt.take k) kv0 _ HBD.o (λt ht=>by
       have h1:=PY.o t (List.mem_of_mem_take ht)
       have h2:=jk0 (m:=times*xd) (N:=100000) h1.1 h1.2 (by omega)
       omega)
      have hll:((yt.take k).length:Int)<=4:=by simp;omega
      generalize yt[k]=t at *
      obtain⟨co,ro⟩:=t
      have htm:=jk0 (m:=times*xd) (N:=100000) hpt.1 hpt.2 (by omega)
      have hro:=hpt.1.2.1
      have hco:=hpt.1.2.2.2
      simp only at hro htm hc0 hc1 hS hco
      have hbd2:zB (ju kv0 (yt.take k) (times*xd)) 2000000000000:=hbd.mono (by omega)
      have hcm:times*co*xd=co*(times*xd):=by rw[Int.mul_comm times co,Int.mul_assoc]
      have HA:=ja (zd5 m (ju kv0 (yt.take k) (times*xd)) (co*(times*xd)) ro (wr.alloc (.cells #[.int .i64 co,.int .i64 ro] 59)) (jt.alloc b1.o _) (by omega) (by rw[htm.2.2];omega) (λr=>by have:=hbd2 r;omega))
      have hcy1:-9000000000000000000<=times*co*xd/\times*co*xd<=9000000000000000000:=by omega
      have hcy2:-9000000000000000000<=times*co/\times*co<=9000000000000000000:=by have:=jE (A:=1) (B:=100000) (a:=times) (b:=co) (by omega) (by omega);omega
      clear hpt hbd hll htm hbd2 hco
      go_wp2_with (first
       | (go_at_call 63;refine HA.o.mono ?_;rintro e w3 ⟨rfl,hm3,hg3,hz3⟩;have HM3:=ja hm3;have HG3:=ja hg3;have HZ3:=ja hz3;clear hm3 hg3 hz3))
      have hw3:wr.heap.size+1<=w3.heap.size:=by have:=HG3.o.size;simpa using this
      have HAL:=ja (Below.alloc b7.o b7.o.size (.cells #[.int .i64 co,.int .i64 ro] 59))
      refine⟨⟨k+1,by omega,rfl,by rw[hS.o];exact HM3.o,(b2.o.alloc _).grown HG3.o (by simp;omega),(b3.o.alloc _).grown HG3.o (by simp;omega),(b4.o.alloc _).grown HG3.o (by simp;omega),
       Rd.grown (Rd.alloc b6.o (by omega) _) HG3.o (by simp;omega) (by simp;omega),HAL.o.grown HG3.o (by simp;omega) (by simp;omega)⟩,by simp[intOf];omega⟩
     ·obtain rfl:k=yt.length:=by omega
      rw[List.take_length] at b1
      have hbd:=qM (N:=10000000000) (m:=times*xd) (by omega) yt kv0 _ HBD.o (λt ht=>by
       have h1:=PY.o t ht
       have h2:=jk0 (m:=times*xd) (N:=100000) h1.1 h1.2 (by omega)
       omega)
      have hbd2:zB (ju kv0 yt (times*xd)) 2000000000000:=hbd.mono (by omega)
      have hlen2:=QZ yt kv0 (times*xd)
      have hx0:=b2.o.cell 0
      have hy0:=b3.o.cell 0
      simp at hx0 hy0
      have hdd:=jE (a:=xd) (b:=yd) (A:=100000) (B:=100000) (by omega) (by omega)
      have hd1:1<=xd*yd:=by
       have:(1:Int)*1<=xd*yd:=Int.mul_le_mul (by omega) (by omega) (by omega) (by omega)
       omega
      have HOV:=ja (QO m (ju kv0 yt (times*xd)) (xd*yd) 2000000000000 wr b1.o (by omega) (by omega) (by omega) hbd2 (by omega))
      clear hbd hbd2 hlen2
      generalize ju kv0 yt (times*xd)=kv1 at *
      generalize hsv:jY kv1 (xd*yd)=sv at *
      obtain⟨s1,s2,s3⟩:=sv
      have HSV:=ja hsv;clear hsv
      go_wp2_with (first
       | (go_at_call 64;refine HOV.o.mono ?_;rintro e w4 ⟨A4,n4,c4,rfl,ht4,hg4⟩;obtain⟨q1,q2,q3,q4⟩:=(b4.o.grown hg4 (by simp;omega)).two;have HG4:=ja hg4;have HT4:=ja ht4;clear hg4 ht4))
      have hw4:=HG4.o.size
      exact hpost _ _ A4 n4 c4 s1 s3 s2 HP.o (jO (ownsRow_setCell_below (ownsRow_setCell_below HT4.o (by show w.heap.size+1+1<_;omega) _) (by show w.heap.size+1+1<_;omega) _) (by have:=b7.o.size;omega))
       (Below.setCell (Below.setCell (b7.o.grown HG4.o (by have:=b7.o.size;omega) (by simp;omega)) (by show _<=w.heap.size+1+1;omega) _) (by show _<=w.heap.size+1+1;omega) _) (((b4.o.grown HG4.o (by simp;omega)).set_ 0 _).set_ 1 _) rfl rfl rfl
theorem jbv6 (xd:Int) (xA:Option Addr) (xn xc:Nat) (xt:List (Int×Int)) (yd:Int) (yA:Option Addr) (yn yc:Nat) (yt:List (Int×Int)) (B:Nat) (w:World) (hx:ji w B xA xn xc xt) (hy:ji w B yA yn yc yt) (hB:B<=w.heap.size) :
  Calls Tryz.prog 77 #[.agg #[.int .i64 xd,.slice xA xn xc],.agg #[.int .i64 yd,.slice yA yn yc]] w (jV w (jL xd xt yd yt 1)):=by
 have HPL:=ja (zz7 xd xA xn xc xt yd yA yn yc yt B 1 (((w.alloc (.cells #[.int .i64 xd,.slice xA xn xc] 24)).alloc (.cells #[.int .i64 yd,.slice yA yn yc] 24)).alloc (.cells #[.int .i64 0,.slice none 0 0] 24))
  (Rd.alloc (Rd.alloc (Rd.alloc hx hB _) (by simp;omega) _) (by simp;omega) _) (Rd.alloc (Rd.alloc (Rd.alloc hy hB _) (by simp;omega) _) (by simp;omega) _) (by simp;omega) (by omega))
 have HR0:=ja (jh.new ((w.alloc (.cells #[.int .i64 xd,.slice xA xn xc] 24)).alloc (.cells #[.int .i64 yd,.slice yA yn yc] 24)) 24 #[.int .i64 0,.slice none 0 0])
 have HB0:=ja ((((Below.refl w.heap.size w).alloc (Nat.le_refl _) (.cells #[.int .i64 xd,.slice xA xn xc] 24)).alloc (by simp) (.cells #[.int .i64 yd,.slice yA yn yc] 24)).alloc (by simp;omega) (.cells #[.int .i64 0,.slice none 0 0] 24))
 have hsz:Hid (w.heap.size+3=(((w.alloc (.cells #[.int .i64 xd,.slice xA xn xc] 24)).alloc (.cells #[.int .i64 yd,.slice yA yn yc] 24)).alloc (.cells #[.int .i64 0,.slice none 0 0] 24)).heap.size):=ja (by simp)
 simp only[World.size_alloc] at HR0
 generalize jL xd xt yd yt 1=s at *
 go_enter Tryz.func77,Tryz.ntmps77
 go_wp2_with fail
 refine HPL.o.mono ?_
 rintro e w1 ⟨A,n,c,rfl,ho,hb⟩
 have hsz:=hsz.o
 obtain⟨q1,q2,q3,q4⟩:=(HR0.o.below hb (by omega)).two
 have HR1:=ja (HR0.o.below hb (by omega))
 have hz1:=hb.size
 have HB1:=ja (HB0.o.trans (hb.mono (by omega)))
 have HO:=ja ho
 clear HR0 HB0 HPL hb ho
 generalize ((w.alloc (.cells #[.int .i64 xd,.slice xA xn xc] 24)).alloc (.cells #[.int .i64 yd,.slice yA yn yc] 24)).alloc (.cells #[.int .i64 0,.slice none 0 0] 24)=w0 at *
 have hsz:=ja hsz
 go_wp2
 refine jq (p:=4) (u:=5) (ty:=24) rfl rfl ((HR1.o.set_ 0 _).set_ 1 _) Tryz.underlying24 rfl Tryz.sizeNumber rfl ?_
 have hsz:=hsz.o
 exact⟨A,n,c,rfl,jO (ownsRow_setCell_below (ownsRow_setCell_below HO.o (by show w.heap.size+1+1<_;omega) _) (by show w.heap.size+1+1<_;omega) _) (by omega),(HB1.o.setCell (by show _<=w.heap.size+1+1;omega) _).setCell (by show _<=w.heap.size+1+1;omega) _⟩
theorem Qb (xd:Int) (xA:Option Addr) (xn xc:Nat) (xt:List (Int×Int)) (yd:Int) (yA:Option Addr) (yn yc:Nat) (yt:List (Int×Int)) (B:Nat) (w:World) (hx:ji w B xA xn xc xt) (hy:ji w B yA yn yc yt) (hB:B<=w.heap.size) :
  Calls Tryz.prog 28 #[.agg #[.int .i64 xd,.slice xA xn xc],.agg #[.int .i64 yd,.slice yA yn yc]] w (jV w (jL xd xt yd yt (-1))):=by
 have HPL:=ja (zz7 xd xA xn xc xt yd yA yn yc yt B (-1) (((w.alloc (.cells #[.int .i64 xd,.slice xA xn xc] 24)).alloc (.cells #[.int .i64 yd,.slice yA yn yc] 24)).alloc (.cells #[.int .i64 0,.slice none 0 0] 24))
  (Rd.alloc (Rd.alloc (Rd.alloc hx hB _) (by simp;omega) _) (by simp;omega) _) (Rd.alloc (Rd.alloc (Rd.alloc hy hB _) (by simp;omega) _) (by simp;omega) _) (by simp;omega) (by omega))
 have HR0:=ja (jh.new ((w.alloc (.cells #[.int .i64 xd,.slice xA xn xc] 24)).alloc (.cells #[.int .i64 yd,.slice yA yn yc] 24)) 24 #[.int .i64 0,.slice none 0 0])
 have HB0:=ja ((((Below.refl w.heap.size w).alloc (Nat.le_refl _) (.cells #[.int .i64 xd,.slice xA xn xc] 24)).alloc (by simp) (.cells #[.int .i64 yd,.slice yA yn yc] 24)).alloc (by simp;omega) (.cells #[.int .i64 0,.slice none 0 0] 24))
 have hsz:Hid (w.heap.size+3=(((w.alloc (.cells #[.int .i64 xd,.slice xA xn xc] 24)).alloc (.cells #[.int .i64 yd,.slice yA yn yc] 24)).alloc (.cells #[.int .i64 0,.slice none 0 0] 24)).heap.size):=ja (by simp)
 simp only[World.size_alloc] at HR0
 generalize jL xd xt yd yt (-1)=s at *
 go_enter Tryz.func28,Tryz.ntmps28
 go_wp2_with fail
 refine HPL.o.mono ?_
 rintro e w1 ⟨A,n,c,rfl,ho,hb⟩
 have hsz:=hsz.o
 obtain⟨q1,q2,q3,q4⟩:=(HR0.o.below hb (by omega)).two
 have HR1:=ja (HR0.o.below hb (by omega))
 have hz1:=hb.size
 have HB1:=ja (HB0.o.trans (hb.mono (by omega)))
 have HO:=ja ho
 clear HR0 HB0 HPL hb ho
 generalize ((w.alloc (.cells #[.int .i64 xd,.slice xA xn xc] 24)).alloc (.cells #[.int .i64 yd,.slice yA yn yc] 24)).alloc (.cells #[.int .i64 0,.slice none 0 0] 24)=w0 at *
 have hsz:=ja hsz
 go_wp2
 refine jq (p:=4) (u:=5) (ty:=24) rfl rfl ((HR1.o.set_ 0 _).set_ 1 _) Tryz.underlying24 rfl Tryz.sizeNumber rfl ?_
 have hsz:=hsz.o
 exact⟨A,n,c,rfl,jO (ownsRow_setCell_below (ownsRow_setCell_below HO.o (by show w.heap.size+1+1<_;omega) _) (by show w.heap.size+1+1<_;omega) _) (by omega),(HB1.o.setCell (by show _<=w.heap.size+1+1;omega) _).setCell (by show _<=w.heap.size+1+1;omega) _⟩
