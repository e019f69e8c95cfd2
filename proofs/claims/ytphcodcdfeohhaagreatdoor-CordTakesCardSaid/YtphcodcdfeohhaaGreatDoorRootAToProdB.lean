import Derived.Test.YtphcodcdfeohhaaGreatDoorQuoB
set_option linter.all false
namespace Go.Proofs.YtphcodcdfeohhaaGreatDoor
set_option maxRecDepth 100000
set_option maxHeartbeats 8000000
open Go.RowKit
theorem jcp4{r n:Nat}(h1:r*r<=n)(h2:n<(r+1)*(r+1)):r=isq n:=Nat.le_antisymm (jy8 h1) (ja9 (qB n) h2)
def bitW(j:Nat):Nat:=if j=0 then 0 else 2 ^ (j-1)
theorem zv8(j:Nat):bitW (j+1)=2 ^ j:=by unfold bitW;rw[if_neg (by omega)];rfl
theorem jbk6(j:Nat):bitW (j+1)/2=bitW j:=by
 rw[zv8]
 unfold bitW
 cases j with
 | zero=>rfl
 | succ j=>rw[if_neg (by omega),Nat.pow_succ,Nat.mul_div_cancel _ (by omega)];rfl
theorem jbt8(n:Nat)(w:World)(hn:n<=1000000000000):Calls Tryz.prog 66 #[.int .i64 n] w λe w'=>e=.returned (.int .i64 (isq n))/\∃q,w'=w.drewN q:=by
 go_enter Tryz.func66,Tryz.ntmps66
 go_wp2
 go_loopw [3,4] (λa b W=>∃(j r:Nat),j<=32/\a=.int .i64 r/\b=.int .i64 (bitW j)/\r*r<=n/\n<(r+2 ^ j)*(r+2 ^ j)/\∃q,W=w.drewN q) (λ_ b _=>(intOf b).toNat)
 case atStart=>exact⟨32,0,by omega,rfl,rfl,by omega,by omega,0,rfl⟩
 case round=>
  obtain⟨j,r,hj,rfl,rfl,h1,h2,q,rfl⟩:=hrel
  cases j with
  | zero=>
   have hb:bitW 0=0:=rfl
   rw[hb]
   have hr:=ja (jcp4 h1 (by simpa using h2))
   go_wp2
   go_ret
   refine⟨?_,q,rfl⟩
   rw[<-hr.o];rfl
  | succ j=>
   have hb:=zv8 j
   have hh:=jbk6 j
   have hbl:2 ^ j<=2 ^ 31:=Nat.pow_le_pow_right (by omega) (by omega)
   have hbp:1<=2 ^ j:=Nat.one_le_two_pow
   have hrl:r<=1000000:=by
    rcases Nat.lt_or_ge 1000000 r with h|h
    ·have:=Nat.mul_le_mul h h;omega
    ·exact h
   rw[Nat.pow_succ] at h2
   rw[hb] at hh ⊢
   obtain⟨b,hbe⟩:∃b,2 ^ j=b:=⟨_,rfl⟩
   have HBE:=ja hbe
   rw[hbe] at hh hbl hbp h2 ⊢
   clear hbe hb
   have hsq:(r+b)*(r+b)<=(1000000+2 ^ 31)*(1000000+2 ^ 31):=Nat.mul_le_mul (by omega) (by omega)
   have hcast:((r:Int)+(b:Int))*((r:Int)+(b:Int))=(((r+b)*(r+b):Nat):Int):=by rw[Int.natCast_mul,Int.natCast_add]
   by_cases hc:(r+b)*(r+b)<=n
   ·have HC:=ja hc
    have e1:(r+b+b)*(r+b+b)=(r+b*2)*(r+b*2):=by rw[show r+b+b=r+b*2 by omega]
    generalize hsq2:(r+b)*(r+b)=sq at *
    have HSQ:=ja hsq2
    clear hsq2
    go_wp2
    refine⟨⟨j,r+b,by omega,rfl,?_,by rw[HSQ.o];exact HC.o,by rw[HBE.o,e1];exact h2,q,rfl⟩,by simp[intOf];omega⟩
    rw[<-hh];simp
   ·generalize hsq2:(r+b)*(r+b)=sq at *
    have HSQ:=ja hsq2
    clear hsq2
    go_wp2
    refine⟨⟨j,r,by omega,rfl,?_,h1,by rw[HBE.o,HSQ.o];omega,q,rfl⟩,by simp[intOf];omega⟩
    rw[<-hh];simp
def Jc(kv:List (Int×Int))(num den sign:Int):List (Int×Int):=
 if 0<num then addS kv ((jo (num*den).toNat).2:Int) (sign*((jo (num*den).toNat).1:Int))else kv
theorem jf6 (b:Nat) (kv:List (Int×Int)) (num den sign:Int) (w:World) (h:zH w b kv) (hd:1<=den/\den<=200000) (hn:-200000<=num/\num<=200000) (hs:-1<=sign/\sign<=1) (h2:∀r,-1000000000000000000<=zb kv r/\zb kv r<=1000000000000000000) :
  Calls Tryz.prog 65 #[.agg #[.int .i64 num,.int .i64 den],.map (some b),.int .i64 sign] w λe w'=>e=.returned (.tuple #[])/\zH w' b (Jc kv num den sign)/\w.grownBy w' (some b):=by
 have HX:=ja (jh.new w 108 #[.int .i64 num,.int .i64 den])
 have hlt:=jt.lt h
 obtain⟨q1,q2,_,_⟩:=HX.o.two
 by_cases hp:0<num
 ·obtain⟨nn,hnn⟩:=Int.eq_ofNat_of_zero_le (show 0<=num*den from Int.mul_nonneg (by omega) (by omega))
  have hm:=jE (a:=num) (b:=den) (A:=200000) (B:=200000) hn ⟨by omega,by omega⟩
  have hm1:(1:Int)*1<=num*den:=Int.mul_le_mul (by omega) (by omega) (by omega) (by omega)
  have hnb:1<=nn/\nn<=40000000000:=by omega
  have HA:=ja (show Jc kv num den sign=addS kv ((jo nn).2:Int) (sign*((jo nn).1:Int)) by unfold Jc;rw[if_pos hp,hnn,Int.toNat_natCast])
  have h3:=h2 ((jo nn).2:Int)
  have HU:=ja (jg7 kv ((jo nn).2:Int) (sign*((jo nn).1:Int)))
  have HG:=ja (qN kv ((jo nn).2:Int))
  have HS:=ja (λw=>jj7 nn w (by omega) (by omega))
  have hle:=za7 nn hnb.1
  have HI:=ja (jt.alloc h (.cells #[.int .i64 num,.int .i64 den] 108))
  have hmm:=jE (a:=sign) (b:=((jo nn).1:Int)) (A:=1) (B:=40000000000) (by omega) ⟨by omega,by omega⟩
  clear h h2
  generalize (jo nn).1=sq at *
  generalize (jo nn).2=rest at *
  generalize zb kv (rest:Int)=gv at *
  have hcs:-9000000000000000000<=gv+sign*(sq:Int)/\gv+sign*(sq:Int)<=9000000000000000000:=by omega
  have hcm:-9000000000000000000<=sign*(sq:Int)/\sign*(sq:Int)<=9000000000000000000:=by omega
  have hcn:-9000000000000000000<=num*den/\num*den<=9000000000000000000:=by omega
  go_enter Tryz.func65,Tryz.ntmps65
  go_wp2_with (first
   | (go_at_call 96;refine(HS.o _).mono ?_;rintro e w' ⟨rfl,q,rfl⟩)
   | (at_lookup;refine Za _ rfl _ _ _ rfl Tryz.underlying104 Tryz.underlying3 (.int .i64 0) Tryz.zeroValue3 b (zM kv) _ rfl rfl (jt.drewN HI.o _) ?_;rw[HG.o])
   | (at_mapUpdate;refine Zb _ rfl _ _ _ _ rfl Tryz.underlying104 Tryz.underlying3 b (zM kv) _ (.int .i64 (gv+sign*(sq:Int))) rfl rfl rfl (jt.drewN HI.o _) ?_;intro w2 hm2 hg2 hz2))
  go_end0
  refine⟨rfl,?_,JP (jr9 (JO (World.grownBy.refl w _) _) _) hg2 (λ_ _=>.inl rfl)⟩
  unfold zH
  rw[HA.o,<-HU.o]
  exact hm2
 ·have HA:=ja (show Jc kv num den sign=kv by unfold Jc;rw[if_neg hp])
  have H:=ja h;clear h
  clear h2
  go_enter Tryz.func65,Tryz.ntmps65
  go_wp2
  go_end0
  exact⟨rfl,by rw[HA.o];exact jt.alloc H.o _,JO (World.grownBy.refl w _) _⟩
theorem jap3 (xd:Int) (xA:Option Addr) (xn xc:Nat) (xt:List (Int×Int)) (yd:Int) (yA:Option Addr) (yn yc:Nat) (yt:List (Int×Int)) (B:Nat) (w:World) (hx:ji w B xA xn xc xt) (hy:ji w B yA yn yc yt) (hB:B<=w.heap.size) :
  Calls Tryz.prog 36 #[.agg #[.int .i64 xd,.slice xA xn xc],.agg #[.int .i64 yd,.slice yA yn yc]] w (jV w (jc7 xd xt yd yt)):=by
 have HV:=ja (Qv xd xA xn xc xt yd yA yn yc yt B (((w.alloc (.cells #[.int .i64 xd,.slice xA xn xc] 24)).alloc (.cells #[.int .i64 yd,.slice yA yn yc] 24)).alloc (.cells #[.int .i64 0,.slice none 0 0] 24))
  (Rd.alloc (Rd.alloc (Rd.alloc hx hB _) (by simp;omega) _) (by simp;omega) _) (Rd.alloc (Rd.alloc (Rd.alloc hy hB _) (by simp;omega) _) (by simp;omega) _) (by simp;omega))
 have HX0:=ja ((jh.new w 24 #[.int .i64 xd,.slice xA xn xc]).alloc (.cells #[.int .i64 yd,.slice yA yn yc] 24) |>.alloc (.cells #[.int .i64 0,.slice none 0 0] 24))
 have HY0:=ja ((jh.new (w.alloc (.cells #[.int .i64 xd,.slice xA xn xc] 24)) 24 #[.int .i64 yd,.slice yA yn yc]).alloc (.cells #[.int .i64 0,.slice none 0 0] 24))
 have HR0:=ja (jh.new ((w.alloc (.cells #[.int .i64 xd,.slice xA xn xc] 24)).alloc (.cells #[.int .i64 yd,.slice yA yn yc] 24)) 24 #[.int .i64 0,.slice none 0 0])
 have HB0:=ja ((((Below.refl w.heap.size w).alloc (Nat.le_refl _) (.cells #[.int .i64 xd,.slice xA xn xc] 24)).alloc (by simp) (.cells #[.int .i64 yd,.slice yA yn yc] 24)).alloc (by simp;omega) (.cells #[.int .i64 0,.slice none 0 0] 24))
 have hsz:Hid (w.heap.size+3=(((w.alloc (.cells #[.int .i64 xd,.slice xA xn xc] 24)).alloc (.cells #[.int .i64 yd,.slice yA yn yc] 24)).alloc (.cells #[.int .i64 0,.slice none 0 0] 24)).heap.size):=ja (by simp)
 simp only[World.size_alloc] at HV HX0 HY0 HR0
 go_enter Tryz.func36,Tryz.ntmps36
 go_wp2_with fail
 refine HV.o.mono ?_
 rintro e w1 ⟨rfl,hb1⟩
 clear HV
 have HXT:=ja (ji.below hx (HB0.o.mono hB))
 have HYT:=ja (ji.below hy (HB0.o.mono hB))
 clear hx hy
 generalize ((w.alloc (.cells #[.int .i64 xd,.slice xA xn xc] 24)).alloc (.cells #[.int .i64 yd,.slice yA yn yc] 24)).alloc (.cells #[.int .i64 0,.slice none 0 0] 24)=w0 at *
 have hszb:=hb1.size
 have hsz:=hsz.o
 have hb1':Below w0.heap.size w0 w1:=by rw[<-hsz];exact hb1
 have HX1:=ja (HX0.o.below hb1' (by omega))
 have HY1:=ja (HY0.o.below hb1' (by omega))
 have HR1:=ja (HR0.o.below hb1' (by omega))
 have HXT1:=ja (ji.below HXT.o (hb1'.mono (by omega)))
 have HYT1:=ja (ji.below HYT.o (hb1'.mono (by omega)))
 have HB1:=ja (HB0.o.trans (hb1'.mono (by omega)))
 have hz1:w.heap.size+3<=w1.heap.size:=by omega
 clear hb1 hb1' HX0 HY0 HR0 HXT HYT HB0 hsz hszb
 have hpost:∀(W:World) (a:Act) (A:Option Addr) (n c:Nat) (x y:Int) (l:List (Int×Int)),jc7 xd xt yd yt=(x,l,y)->W.ownsRow w.heap.size 59 2 (.slice A n c) n (jr l)->Below w.heap.size w W->jh W (w.heap.size+1+1) 24 #[.int .i64 x,.slice A n c] ->
   a.tmps.getD 4 undef=.pointer (some ⟨w.heap.size+1+1,0,none⟩)->a.tmps.getD 5 undef=.int .i64 y->a.defers=[] ->
   bodyPost Tryz.prog Tryz.f36 (jV w (jc7 xd xt yd yt)) .ret a W:=by
  intro W a A n c x y l e1 e2 e3 e4 e5 e6 e7
  refine jq (p:=4) (u:=5) (ty:=24) rfl e5 e4 Tryz.underlying24 rfl Tryz.sizeNumber e7 ?_
  rw[e1,e6]
  exact⟨A,n,c,rfl,e2,e3⟩
 obtain⟨hr0,hr1,hrf0,hrf1⟩:=HR1.o.two
 cases hok:(js xd xt&&js yd yt)
 ·have HP:=ja (show jc7 xd xt yd yt=(0,[],2) by unfold jc7;rw[hok];rfl)
  go_wp2
  exact hpost _ _ none 0 0 0 2 [] HP.o ⟨rfl,.inl ⟨rfl,rfl⟩⟩ (Below.setCell (Below.setCell HB1.o (by simp;omega) _) (by simp;omega) _) ((HR1.o.set_ 0 _).set_ 1 _) rfl rfl rfl
 ·have HP:=ja (show jc7 xd xt yd yt=jY (Jq [] xt yt) (xd*yd) by unfold jc7;rw[hok];rfl)
  rw[Bool.and_eq_true] at hok
  obtain⟨px1,px2,px3,px4⟩:=jz hok.1
  obtain⟨py1,py2,py3,py4⟩:=jz hok.2
  have hcx:∀t∈xt,∀u∈yt,(-10000000000000<=jc6 t u/\jc6 t u<=10000000000000)/\-9000000000000000000<=t.1*u.1/\t.1*u.1<=9000000000000000000:=λt ht u hu=>by
   have h1:=jbh5 (t:=t) (u:=u) (A:=100000) (C:=100000) ⟨(px4 t ht).1.1,(px4 t ht).1.2.1⟩ (px4 t ht).1.2.2.2 (py4 u hu).1.2.2.2
   omega
  have HPD:=ja (zd0 xA xn xc xt yA yn yc yt B w1.drew HXT1.o HYT1.o (by show B<=w1.heap.size;omega) px3 py3 10000000000000 (by omega) (by have:=jca7 (Nat.mul_le_mul px3 py3) (N:=10000000000000) (by omega);omega) (λt ht=>⟨(px4 t ht).1.1,(px4 t ht).1.2.1⟩) (λt ht=>⟨(py4 t ht).1.1,(py4 t ht).1.2.1⟩) hcx)
  have hdd:=jE (a:=xd) (b:=yd) (A:=100000) (B:=100000) (by omega) (by omega)
  have hd1:1<=xd*yd:=by
   have:(1:Int)*1<=xd*yd:=Int.mul_le_mul (by omega) (by omega) (by omega) (by omega)
   omega
  have hbd:=jt6 (N:=10000000000000) (by omega) yt xt [] 0 zB.nil (λt ht u hu=>(hcx t ht u hu).1)
  have hbd2:zB (Jq [] xt yt) 160000000000000:=hbd.mono (by have:=jca7 (Nat.mul_le_mul px3 py3) (N:=10000000000000) (by omega);omega)
  have hln:=za2 yt xt []
  have hln2:(Jq [] xt yt).length<=16:=by have:=Nat.mul_le_mul px3 py3;simp at hln;omega
  have HOV:=ja (λW h=>QO w1.heap.size (Jq [] xt yt) (xd*yd) 160000000000000 W h (by omega) (by omega) (by omega) hbd2 (by omega))
  have hwr:IntKind.i64.wrap (xd*yd)=xd*yd:=by rw[IntKind.wrap_i64];omega
  obtain⟨x0,x1,_,_⟩:=HX1.o.two
  obtain⟨y0,y1,_,_⟩:=HY1.o.two
  clear hbd hbd2 hln hln2 hcx px4 py4 hok
  generalize Jq [] xt yt=kv1 at *
  generalize hsv:jY kv1 (xd*yd)=sv at *
  obtain⟨s1,s2,s3⟩:=sv
  have HSV:=ja hsv;clear hsv
  have HS1:=ja (show(w1.drew).cell? ⟨w.heap.size,0,none⟩=some (.int .i64 xd)/\(w1.drew).cell? ⟨w.heap.size,1,none⟩=some (.slice xA xn xc)/\(w1.drew).cell? ⟨w.heap.size+1,0,none⟩=some (.int .i64 yd)/\(w1.drew).cell? ⟨w.heap.size+1,1,none⟩=some (.slice yA yn yc)from⟨x0,x1,y0,y1⟩)
  have HSET:=ja (λ(W:World) (i:Nat) (u:Value) (h:W.cell? ⟨w.heap.size,0,none⟩=some (.int .i64 xd)/\W.cell? ⟨w.heap.size,1,none⟩=some (.slice xA xn xc)/\W.cell? ⟨w.heap.size+1,0,none⟩=some (.int .i64 yd)/\W.cell? ⟨w.heap.size+1,1,none⟩=some (.slice yA yn yc))=>
   (show(W.setCell ⟨w.heap.size+1+1,i,none⟩ u).cell? ⟨w.heap.size,0,none⟩=some (.int .i64 xd)/\(W.setCell ⟨w.heap.size+1+1,i,none⟩ u).cell? ⟨w.heap.size,1,none⟩=some (.slice xA xn xc)/\(W.setCell ⟨w.heap.size+1+1,i,none⟩ u).cell? ⟨w.heap.size+1,0,none⟩=some (.int .i64 yd)/\(W.setCell ⟨w.heap.size+1+1,i,none⟩ u).cell? ⟨w.heap.size+1,1,none⟩=some (.slice yA yn yc)from
    ⟨(World.cell?_setCell_other W _ _ u (by simp)).trans h.1,(World.cell?_setCell_other W _ _ u (by simp)).trans h.2.1,(World.cell?_setCell_other W _ _ u (by simp)).trans h.2.2.1,(World.cell?_setCell_other W _ _ u (by simp)).trans h.2.2.2⟩))
  have HPOST:=ja hpost
  clear hpost
  go_wp2
  go_region_held3 (λw'=>w'.cell? ⟨w.heap.size,0,none⟩=some (.int .i64 xd)/\w'.cell? ⟨w.heap.size,1,none⟩=some (.slice xA xn xc)/\w'.cell? ⟨w.heap.size+1,0,none⟩=some (.int .i64 yd)/\w'.cell? ⟨w.heap.size+1,1,none⟩=some (.slice yA yn yc)) (first|with_reducible exact HS5.o|with_reducible exact HS4.o|with_reducible exact HS1.o|with_reducible (exact HSET.o _ _ _ HS5.o)|with_reducible (exact HSET.o _ _ _ (HSET.o _ _ _ HS5.o))) (first
   | (go_at_call 79;refine HPD.o.mono ?_;rintro e w4 ⟨rfl,hm4,hb4⟩
      have HX4:=ja ((HX1.o.drew).below hb4 (by show w.heap.size<w1.heap.size;omega))
      have HY4:=ja ((HY1.o.drew).below hb4 (by show w.heap.size+1<w1.heap.size;omega))
      have HR4:=ja ((HR1.o.drew).below hb4 (by show w.heap.size+1+1<w1.heap.size;omega))
      have HB4:=ja ((HB1.o.drew).trans (hb4.mono (by show w.heap.size<=w1.heap.size;omega)))
      have HS4:=ja (show w4.cell? ⟨w.heap.size,0,none⟩=some (.int .i64 xd)/\w4.cell? ⟨w.heap.size,1,none⟩=some (.slice xA xn xc)/\w4.cell? ⟨w.heap.size+1,0,none⟩=some (.int .i64 yd)/\w4.cell? ⟨w.heap.size+1,1,none⟩=some (.slice yA yn yc)from⟨HX4.o.cell 0,HX4.o.cell 1,HY4.o.cell 0,HY4.o.cell 1⟩)
      have HOV4:=ja (HOV.o w4 hm4)
      have hz4:w1.heap.size<=w4.heap.size:=hb4.size
      clear hm4 hb4)
   | (go_at_call 64;refine HOV4.o.mono ?_;rintro e w5 ⟨A4,n4,c4,rfl,ht5,hg5⟩
      have HX5:=HX4.o.grown hg5 (by simp;omega)
      have HY5:=HY4.o.grown hg5 (by simp;omega)
      have HR5:=ja (HR4.o.grown hg5 (by simp;omega))
      have HB5:=ja (HB4.o.grown hg5 (by omega) (by simp;omega))
      have HS5:=ja (show w5.cell? ⟨w.heap.size,0,none⟩=some (.int .i64 xd)/\w5.cell? ⟨w.heap.size,1,none⟩=some (.slice xA xn xc)/\w5.cell? ⟨w.heap.size+1,0,none⟩=some (.int .i64 yd)/\w5.cell? ⟨w.heap.size+1,1,none⟩=some (.slice yA yn yc)from⟨HX5.cell 0,HX5.cell 1,HY5.cell 0,HY5.cell 1⟩)
      obtain⟨q1,q2,q3,q4⟩:=HR5.o.two
      have HT5:=ja ht5
      have hz5:=hg5.size
      obtain⟨c51,c52,c53,c54⟩:=HS5.o
      clear HX5 HY5 ht5 hg5))
  all_goals
   go_wp2
   exact HPOST.o _ _ A4 n4 c4 s1 s3 s2 HP.o (jO (ownsRow_setCell_below (ownsRow_setCell_below HT5.o (by show w.heap.size+1+1<_;omega) _) (by show w.heap.size+1+1<_;omega) _) (by omega))
    (Below.setCell (Below.setCell HB5.o (by show _<=w.heap.size+1+1;omega) _) (by show _<=w.heap.size+1+1;omega) _) ((HR5.o.set_ 0 _).set_ 1 _) rfl rfl rfl
