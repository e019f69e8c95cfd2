import Derived.Test.YtphcodcdfeohhaaGreatDoorTimAToAsyY
set_option linter.all false
namespace Go.Proofs.YtphcodcdfeohhaaGreatDoor
set_option maxRecDepth 100000
set_option maxHeartbeats 16000000
open Go.RowKit
structure TimMI(w W:World)(xd:Int)(xA:Option Addr)(xn xc:Nat)(yd:Int)(yA:Option Addr)(yn yc:Nat)(o:Value)(L:List (Int×Int)):Prop where
 x:jh W w.heap.size 24 #[.int .i64 xd,.slice xA xn xc]
 y:jh W (w.heap.size+1) 24 #[.int .i64 yd,.slice yA yn yc]
 r:jh W (w.heap.size+2) 24 #[.int .i64 0,.slice none 0 0]
 row:W.ownsRow (w.heap.size+3) 59 2 o L.length (jr L)
 below:Below w.heap.size w W
 size:w.heap.size+3<=W.heap.size
 len:L.length<=16
theorem TimMI.next {w W w1 w3:World} {xd yd:Int} {xA yA:Option Addr} {xn xc yn yc:Nat} {o v:Value} {L:List (Int×Int)} {c r:Int} (h:TimMI w W xd xA xn xc yd yA yn yc o L) (hb:Below W.heap.size W w1)
  (hrow:w3.ownsRow (w.heap.size+3) 59 2 v (L.length+1) (jr L++[.int .i64 c,.int .i64 r])) (hg:w1.grownBy w3 o.ownBlock) (h8:L.length<16):TimMI w w3 xd xA xn xc yd yA yn yc v (L++[(c,r)]):=by
 have hb3:Below (w.heap.size+3) W w3:=(hb.mono h.size).grown hg (by have:=hb.size;have:=h.size;omega) (λj e=>(h.row.lt j e).1)
 refine⟨h.x.below hb3 (by omega),h.y.below hb3 (by omega),h.r.below hb3 (by omega),?_,h.below.trans (hb3.mono (by omega)),by have:=hb3.size;have:=h.size;omega,by simp;omega⟩
 rw[Zz,List.length_append,List.length_singleton]
 exact hrow
theorem jda4(l yt:List (Int×Int))(t:Int×Int):zn4 (l++[t]) yt=zn4 l yt++yt.map λu=>(t.1*u.1,t.2*u.2):=by
 unfold zn4;simp
theorem jcs2 (yt:List (Int×Int)):∀l:List (Int×Int),(zn4 l yt).length=l.length*yt.length
 | []=>by simp[zn4]
 | t::l=>by
  have h:=jcs2 yt l
  have e:zn4 (t::l) yt=(yt.map λu=>(t.1*u.1,t.2*u.2))++zn4 l yt:=rfl
  rw[e,List.length_append,List.length_map,h,List.length_cons,Nat.succ_mul];omega
theorem jcz6{xd yd:Int}{xt yt:List (Int×Int)}(hx:js xd xt=true)(hy:js yd yt=true):∀t∈zn4 xt yt,(0<=t.2/\t.2<=100000000000)/\-10000000000000<=t.1*((jo t.2.toNat).1:Int)/\t.1*((jo t.2.toNat).1:Int)<=10000000000000:=by
 intro t ht
 unfold zn4 at ht
 obtain⟨u,hu,ht⟩:=List.mem_flatMap.1 ht
 obtain⟨v,hv,rfl⟩:=List.mem_map.1 ht
 obtain⟨⟨a1,a2,a3,a4⟩,a5⟩:=(jz hx).2.2.2 u hu
 obtain⟨⟨b1,b2,b3,b4⟩,b5⟩:=(jz hy).2.2.2 v hv
 have fa:=((Jd hx).1 u hu).2.2
 have fb:=((Jd hy).1 v hv).2.2
 obtain⟨cu,ru⟩:=u
 obtain⟨cv,rv⟩:=v
 dsimp only at *
 obtain⟨a,rfl⟩:=Int.eq_ofNat_of_zero_le (show 0<=ru by omega)
 obtain⟨b,rfl⟩:=Int.eq_ofNat_of_zero_le (show 0<=rv by omega)
 rw[Int.toNat_natCast] at fa fb
 rw[<-Int.natCast_mul,Int.toNat_natCast,jct1 (by omega) (by omega) fa fb]
 have hg:Nat.gcd a b<=a:=Nat.gcd_le_left b (by omega)
 have h1:=jE a4 b4
 have h2:=jE h1 (b:=(Nat.gcd a b:Int)) (B:=1000) (by omega)
 have h3:a*b<=1000*1000:=Nat.mul_le_mul (by omega) (by omega)
 dsimp only
 generalize cu*cv*(Nat.gcd a b:Int)=z at *
 generalize a*b=y at *
 omega
theorem jat5 (xd:Int) (xA:Option Addr) (xn xc:Nat) (xt:List (Int×Int)) (yd:Int) (yA:Option Addr) (yn yc:Nat) (yt:List (Int×Int)) (B:Nat) (w:World) (hx:jJ w B xA xn xc xt) (hy:jJ w B yA yn yc yt) (hB:B<=w.heap.size) :
  Calls Tryz.prog 42 #[.agg #[.int .i64 xd,.slice xA xn xc],.agg #[.int .i64 yd,.slice yA yn yc]] w (jV w (jc7 xd xt yd yt)):=by
 have hlx:=hx.len
 have hly:=hy.len
 subst hlx
 subst hly
 have hnx:=Rq.nmax hx
 have hny:=Rq.nmax hy
 obtain⟨i1,hi1,hy0,hy1,hy2⟩:=info_parts Tryz.infoTerm
 obtain⟨w0,hw0⟩:∃w0,w0=((w.alloc (.cells #[.int .i64 xd,.slice xA xt.length xc] 24)).alloc (.cells #[.int .i64 yd,.slice yA yt.length yc] 24)).alloc (.cells #[.int .i64 0,.slice none 0 0] 24):=⟨_,rfl⟩
 have hz0:w0.heap.size=w.heap.size+3:=by rw[hw0];simp
 have HX0:Hid (jh w0 w.heap.size 24 #[.int .i64 xd,.slice xA xt.length xc]):=ja (by rw[hw0];exact((jh.new w _ _).alloc _).alloc _)
 have HY0:Hid (jh w0 (w.heap.size+1) 24 #[.int .i64 yd,.slice yA yt.length yc]):=ja (by
  rw[hw0]
  have h:=(jh.new (w.alloc (.cells #[.int .i64 xd,.slice xA xt.length xc] 24)) 24 #[.int .i64 yd,.slice yA yt.length yc]).alloc (.cells #[.int .i64 0,.slice none 0 0] 24)
  rwa [World.size_alloc] at h)
 have HR0:Hid (jh w0 (w.heap.size+2) 24 #[.int .i64 0,.slice none 0 0]):=ja (by
  rw[hw0]
  have h:=jh.new ((w.alloc (.cells #[.int .i64 xd,.slice xA xt.length xc] 24)).alloc (.cells #[.int .i64 yd,.slice yA yt.length yc] 24)) 24 #[.int .i64 0,.slice none 0 0]
  rwa [World.size_alloc,World.size_alloc] at h)
 have HB0:Hid (Below w.heap.size w w0):=ja (by rw[hw0];exact(((Below.refl _ _).alloc (Nat.le_refl _) _).alloc (by simp) _).alloc (by simp;omega) _)
 have HTX:=ja (λW (hb:Below w.heap.size w W)=>Rq.below hx (hb.mono hB))
 have HTY:=ja (λW (hb:Below w.heap.size w W)=>Rq.below hy (hb.mono hB))
 have HNX:=ja (λW (hb:Below w.heap.size w W)=>QB xd xA xt.length xc B xt W (HTX.o W hb) (by have:=hb.size;omega))
 have HNY:=ja (λW (hb:Below w.heap.size w W)=>QB yd yA yt.length yc B yt W (HTY.o W hb) (by have:=hb.size;omega))
 have HPS:=ja (show jc7 xd xt yd yt=if(js xd xt&&js yd yt)=true then jY (Jq [] xt yt) (xd*yd)else(0,[],2)from rfl)
 clear hx hy
 cases hox:js xd xt
 ·rw[hox] at HNX
  have HV:=ja (HPS.o.trans (if_neg (by rw[hox];simp)))
  go_enter Tryz.func42,Tryz.ntmps42
  go_upto_region 1 with fail
  rw[<-hw0]
  clear hw0
  obtain⟨x0,x1,_,_⟩:=HX0.o.two
  obtain⟨y0,y1,_,_⟩:=HY0.o.two
  go_wp2_with (first
   | (go_at_call 39;refine(HNX.o _ HB0.o).mono ?_;rintro e w1 ⟨rfl,hb1⟩
      have HR1:=ja (HR0.o.below hb1 (by omega));have HB1:=ja (HB0.o.trans (hb1.mono (by omega)))
      obtain⟨r0,r1,rf0,rf1⟩:=HR1.o.two
      clear hb1))
  refine jq (p:=4) (u:=5) (ty:=24) rfl rfl ((HR1.o.set_ 0 _).set_ 1 _) Tryz.underlying24 rfl Tryz.sizeNumber rfl ?_
  unfold jV
  exact⟨none,0,0,by rw[HV.o];rfl,by rw[HV.o];exact World.ownsRow_nil _ _ _ _,Below.setCell (Below.setCell HB1.o (p:=⟨w.heap.size+2,0,none⟩) (by show _<=w.heap.size+2;omega) _) (p:=⟨w.heap.size+2,1,none⟩) (by show _<=w.heap.size+2;omega) _⟩
 rw[hox] at HNX
 cases hoy:js yd yt
 ·rw[hoy] at HNY
  have HV:=ja (HPS.o.trans (if_neg (by rw[hoy];simp)))
  go_enter Tryz.func42,Tryz.ntmps42
  go_upto_region 1 with fail
  rw[<-hw0]
  clear hw0
  obtain⟨x0,x1,_,_⟩:=HX0.o.two
  obtain⟨y0,y1,_,_⟩:=HY0.o.two
  go_wp2_with (first
   | (go_at_call 39;refine(HNX.o _ HB0.o).mono ?_;rintro e w1 ⟨rfl,hb1⟩
      have HY1:=ja (HY0.o.below hb1 (by omega));have HR1:=ja (HR0.o.below hb1 (by omega));have HB1:=ja (HB0.o.trans (hb1.mono (by omega)));have hz1:=hb1.size
      obtain⟨y0,y1,_,_⟩:=HY1.o.two
      clear hb1 HNX)
   | (go_at_call 39;refine(HNY.o _ HB1.o).mono ?_;rintro e w2 ⟨rfl,hb2⟩
      have HR2:=ja (HR1.o.below hb2 (by omega));have HB2:=ja (HB1.o.trans (hb2.mono (by omega)))
      obtain⟨r0,r1,rf0,rf1⟩:=HR2.o.two
      clear hb2))
  refine jq (p:=4) (u:=5) (ty:=24) rfl rfl ((HR2.o.set_ 0 _).set_ 1 _) Tryz.underlying24 rfl Tryz.sizeNumber rfl ?_
  unfold jV
  exact⟨none,0,0,by rw[HV.o];rfl,by rw[HV.o];exact World.ownsRow_nil _ _ _ _,Below.setCell (Below.setCell HB2.o (p:=⟨w.heap.size+2,0,none⟩) (by show _<=w.heap.size+2;omega) _) (p:=⟨w.heap.size+2,1,none⟩) (by show _<=w.heap.size+2;omega) _⟩
 rw[hoy] at HNY
 obtain⟨hx1,hx2,hx3,hx4⟩:=jz hox
 obtain⟨hy1',hy2',hy3,hy4⟩:=jz hoy
 have HTXB:=ja hx4
 have HTYB:=ja hy4
 have HBD:=ja (jcz6 hox hoy)
 have HEQ:=ja (jdf4 hox hoy)
 clear hx4 hy4 hox hoy HPS
 go_enter Tryz.func42,Tryz.ntmps42
 go_upto_region 1 with fail
 rw[<-hw0]
 clear hw0
 obtain⟨x0,x1,_,_⟩:=HX0.o.two
 obtain⟨y0,y1,_,_⟩:=HY0.o.two
 go_wp2_with (first
  | (go_at_call 39;refine(HNX.o _ HB0.o).mono ?_;rintro e w1 ⟨rfl,hb1⟩
     have HX1:=ja (HX0.o.below hb1 (by omega));have HY1:=ja (HY0.o.below hb1 (by omega));have HR1:=ja (HR0.o.below hb1 (by omega));have HB1:=ja (HB0.o.trans (hb1.mono (by omega)));have hz1:=hb1.size
     obtain⟨y0,y1,_,_⟩:=HY1.o.two
     clear hb1 HNX)
  | (go_at_call 39;refine(HNY.o _ HB1.o).mono ?_;rintro e w2 ⟨rfl,hb2⟩
     have HX2:=ja (HX1.o.below hb2 (by omega));have HY2:=ja (HY1.o.below hb2 (by omega));have HR2:=ja (HR1.o.below hb2 (by omega));have HB2:=ja (HB1.o.trans (hb2.mono (by omega)));have hz2:=hb2.size
     clear hb2 HNY))
 have HI:Hid (TimMI w (w2.alloc (.cells #[] 59)) xd xA xt.length xc yd yA yt.length yc (.slice (some ⟨w2.heap.size,0,none⟩) 0 0) []):=ja
  ⟨HX2.o.alloc _,HY2.o.alloc _,HR2.o.alloc _,World.ownsRow_lit (base:=w.heap.size+3) (e:=59) (size:=2) w2 #[] 0 (by omega) (by unfold maxLen;omega) rfl,HB2.o.alloc (by omega) _,by simp;omega,by simp⟩
 clear HX2 HY2 HR2 HB2 HX1 HY1 HR1 HB1 HX0 HY0 HR0 HB0 x0 x1 y0 y1
 go_loopw [6,7] (λo i W=>∃k:Nat,k<=xt.length/\i=.int .i64 k/\TimMI w W xd xA xt.length xc yd yA yt.length yc o (zn4 (xt.take k) yt)) (λ_ i _=>xt.length-(intOf i).toNat)
 case atStart=>exact⟨0,by omega,rfl,by simpa [zn4] using HI.o⟩
 case round=>
  obtain⟨k,hk,rfl,hI⟩:=hrel
  have HI1:=ja hI
  clear hI HI
  obtain⟨x0,x1,_,_⟩:=HI1.o.x.two
  obtain⟨y0,y1,_,_⟩:=HI1.o.y.two
  by_cases hkl:(k:Int)<(xt.length:Int)
  ·have hk1:k<xt.length:=by omega
   have htb:=HTXB.o xt[k] (List.getElem_mem hk1)
   have HTS:=ja (jw xt k hk1)
   obtain⟨t,ht⟩:∃t,t=xt[k]:=⟨_,rfl⟩
   rw[<-ht] at htb HTS
   obtain⟨cx,rx⟩:=t
   have HXK:=ja ht
   clear ht
   dsimp only at htb
   have hcx:-100000<=cx/\cx<=100000:=htb.1.2.2.2
   have hrx:1<=rx/\rx<=1000:=⟨htb.1.1,htb.1.2.1⟩
   clear htb
   obtain⟨L1,hL1⟩:∃L1,L1=zn4 (xt.take k) yt:=⟨_,rfl⟩
   have hL1l:L1.length<=3*yt.length:=by
    rw[hL1,jcs2,List.length_take]
    exact Nat.mul_le_mul_right _ (by omega)
   have HSN:=ja (show zn4 (xt.take (k+1)) yt=L1++yt.map (λu=>(cx*u.1,rx*u.2)) by rw[HTS.o,jda4,<-hL1])
   rw[<-hL1] at HI1
   clear hL1 HTS
   have HI:=ja HI1.o
   clear HI1
   go_wp2
   clear x0 x1 y0 y1
   go_loopw [6,8] (λo i W=>∃j:Nat,j<=yt.length/\i=.int .i64 j/\TimMI w W xd xA xt.length xc yd yA yt.length yc o (L1++(yt.take j).map (λu=>(cx*u.1,rx*u.2)))) (λ_ i _=>yt.length-(intOf i).toNat)
   case atStart=>exact⟨0,by omega,rfl,by simpa using HI.o⟩
   case round=>
    obtain⟨j,hj,rfl,hI⟩:=hrel
    have HI1:=ja hI
    clear hI HI
    obtain⟨x0,x1,_,_⟩:=HI1.o.x.two
    obtain⟨y0,y1,_,_⟩:=HI1.o.y.two
    have hWz:=HI1.o.size
    by_cases hjl:(j:Int)<(yt.length:Int)
    ·have hj1:j<yt.length:=by omega
     obtain⟨ad,rfl,had,ha0,ha1⟩:=jJ.at_ (HTX.o _ HI1.o.below) hk1
     obtain⟨ae,rfl,hae,hb0,hb1⟩:=jJ.at_ (HTY.o _ HI1.o.below) hj1
     rw[<-HXK.o] at ha0 ha1
     have htb:=HTYB.o yt[j] (List.getElem_mem hj1)
     have HTS:=ja (jw yt j hj1)
     obtain⟨t,ht⟩:∃t,t=yt[j]:=⟨_,rfl⟩
     rw[<-ht] at htb HTS hb0 hb1
     clear ht
     obtain⟨cy,ry⟩:=t
     dsimp only at ha0 ha1 hb0 hb1 htb
     have hcy:-100000<=cy/\cy<=100000:=htb.1.2.2.2
     have hry:1<=ry/\ry<=1000:=⟨htb.1.1,htb.1.2.1⟩
     clear htb
     have hmb:=jE hcx hcy
     have hmb2:=jE (a:=rx) (b:=ry) (A:=1000) (B:=1000) (by omega) (by omega)
     have hmw:IntKind.i64.wrap (cx*cy)=cx*cy:=by rw[IntKind.wrap_i64];omega
     have hmw2:IntKind.i64.wrap (rx*ry)=rx*ry:=by rw[IntKind.wrap_i64];omega
     obtain⟨L,hL⟩:∃L,L=(L1++(yt.take j).map (λu=>(cx*u.1,rx*u.2))):=⟨_,rfl⟩
     have hlL:L.length<16:=by rw[hL];simp;omega
     rw[<-hL] at HI1
     have HL:=ja hL
     clear hL
     have HROW:=ja (World.ownsRow.drew (HI1.o.row.alloc (.cells #[.int .i64 (cx*cy),.int .i64 (rx*ry)] 59)))
     obtain⟨Ao,co2,rfl⟩:=jx HI1.o.row
     obtain⟨W,hW⟩:∃W,W=wr:=⟨_,rfl⟩
     subst hW
     have hadB:ad.block<w.heap.size+3:=by omega
     have haeB:ae.block<w.heap.size+3:=by omega
     have HBW:=ja ((Below.drew (Below.refl (w.heap.size+3) W)).alloc (by show _<=W.heap.size;omega) (.cells #[.int .i64 (cx*cy),.int .i64 (rx*ry)] 59))
     have HBU:=ja (Below.drew ((Below.refl W.heap.size W).alloc (Nat.le_refl _) (.cells #[.int .i64 (cx*cy),.int .i64 (rx*ry)] 59)))
     go_wp2
     refine jk (λw'=>Below (w.heap.size+3) W w') 29 (λ_=>True) 29 (λ_=>True) (by kernel_rfl) ⟨Below.drew (Below.refl _ _),λ_=>trivial,λ_=>trivial⟩ (λjb=>?_)
     revert jb
     refine jtq 0 ?_ ?_ ?_
     rotate_left 1
     focus(intro;go_simp;try with_reducible rfl)
     (try simp only[Act.put,lA,lB,lC])
     refine jtq 1 ?_ ?_ ?_
     rotate_left 1
     focus(intro;go_simp;try with_reducible rfl)
     (try simp only[Act.put,lA,lB,lC])
     refine jtk 2 ?_ ?_ ?_
     rotate_left 1
     focus(intro w' hSw;obtain⟨hC,hF,hG⟩:=hSw;clear hF;clear hG;have c1:=(hC.cell (p:=⟨w.heap.size,1,none⟩) (by show w.heap.size<_;omega)).trans x1;clear hC;go_simp;try with_reducible rfl)
     (try simp only[Act.put,lA,lB,lC])
     refine jtq 3 ?_ ?_ ?_
     rotate_left 1
     focus(intro;go_simp;try with_reducible rfl)
     (try simp only[Act.put,lA,lB,lC])
     refine jtq 4 ?_ ?_ ?_
     rotate_left 1
     focus(intro;go_simp;try with_reducible rfl)
     (try simp only[Act.put,lA,lB,lC])
     refine jtq 5 ?_ ?_ ?_
     rotate_left 1
     focus(intro;go_simp;try with_reducible rfl)
     (try simp only[Act.put,lA,lB,lC])
     refine jtk 6 ?_ ?_ ?_
     rotate_left 1
     focus(intro w' hSw;obtain⟨hC,hF,hG⟩:=hSw;clear hF;clear hG;have c1:=(hC.cell (p:=ad.add (k*2)) (by rw[jH];omega)).trans ha0;clear hC;go_simp;try with_reducible rfl)
     (try simp only[Act.put,lA,lB,lC])
     refine jtq 7 ?_ ?_ ?_
     rotate_left 1
     focus(intro;go_simp;try with_reducible rfl)
     (try simp only[Act.put,lA,lB,lC])
     refine jtk 8 ?_ ?_ ?_
     rotate_left 1
     focus(intro w' hSw;obtain⟨hC,hF,hG⟩:=hSw;clear hF;clear hG;have c1:=(hC.cell (p:=⟨w.heap.size+1,1,none⟩) (by show w.heap.size+1<_;omega)).trans y1;clear hC;go_simp;try with_reducible rfl)
     (try simp only[Act.put,lA,lB,lC])
     refine jtq 9 ?_ ?_ ?_
     rotate_left 1
     focus(intro;go_simp;try with_reducible rfl)
     (try simp only[Act.put,lA,lB,lC])
     refine jtq 10 ?_ ?_ ?_
     rotate_left 1
     focus(intro;go_simp;try with_reducible rfl)
     (try simp only[Act.put,lA,lB,lC])
     refine jtq 11 ?_ ?_ ?_
     rotate_left 1
     focus(intro;go_simp;try with_reducible rfl)
     (try simp only[Act.put,lA,lB,lC])
     refine jtk 12 ?_ ?_ ?_
     rotate_left 1
     focus(intro w' hSw;obtain⟨hC,hF,hG⟩:=hSw;clear hF;clear hG;have c1:=(hC.cell (p:=ae.add (j*2)) (by rw[jH];omega)).trans hb0;clear hC;go_simp;try with_reducible rfl)
     (try simp only[Act.put,lA,lB,lC])
     refine jtq 13 ?_ ?_ ?_
     rotate_left 1
     focus(intro;go_simp;try with_reducible rfl)
     (try simp only[Act.put,lA,lB,lC])
     refine jtq 14 ?_ ?_ ?_
     rotate_left 1
     focus(intro;go_simp;try with_reducible rfl)
     (try simp only[Act.put,lA,lB,lC])
     refine jtk 15 ?_ ?_ ?_
     rotate_left 1
     focus(intro w' hSw;obtain⟨hC,hF,hG⟩:=hSw;clear hF;clear hG;have c1:=(hC.cell (p:=⟨w.heap.size,1,none⟩) (by show w.heap.size<_;omega)).trans x1;clear hC;go_simp;try with_reducible rfl)
     (try simp only[Act.put,lA,lB,lC])
     refine jtq 16 ?_ ?_ ?_
     rotate_left 1
     focus(intro;go_simp;try with_reducible rfl)
     (try simp only[Act.put,lA,lB,lC])
     refine jtq 17 ?_ ?_ ?_
     rotate_left 1
     focus(intro;go_simp;try with_reducible rfl)
     (try simp only[Act.put,lA,lB,lC])
     refine jtq 18 ?_ ?_ ?_
     rotate_left 1
     focus(intro;go_simp;try with_reducible rfl)
     (try simp only[Act.put,lA,lB,lC])
     refine jtk 19 ?_ ?_ ?_
     rotate_left 1
     focus(intro w' hSw;obtain⟨hC,hF,hG⟩:=hSw;clear hF;clear hG;have c1:=(hC.cell (p:=⟨(ad.add (k*2)).block,(ad.add (k*2)).off+1,none⟩) (by show(ad.add (k*2)).block<_;rw[jH];omega)).trans ha1;clear hC;go_simp;try with_reducible rfl)
     (try simp only[Act.put,lA,lB,lC])
     refine jtq 20 ?_ ?_ ?_
     rotate_left 1
     focus(intro;go_simp;try with_reducible rfl)
     (try simp only[Act.put,lA,lB,lC])
     refine jtk 21 ?_ ?_ ?_
     rotate_left 1
     focus(intro w' hSw;obtain⟨hC,hF,hG⟩:=hSw;clear hF;clear hG;have c1:=(hC.cell (p:=⟨w.heap.size+1,1,none⟩) (by show w.heap.size+1<_;omega)).trans y1;clear hC;go_simp;try with_reducible rfl)
     (try simp only[Act.put,lA,lB,lC])
     refine jtq 22 ?_ ?_ ?_
     rotate_left 1
     focus(intro;go_simp;try with_reducible rfl)
     (try simp only[Act.put,lA,lB,lC])
     refine jtq 23 ?_ ?_ ?_
     rotate_left 1
     focus(intro;go_simp;try with_reducible rfl)
     (try simp only[Act.put,lA,lB,lC])
     refine jtq 24 ?_ ?_ ?_
     rotate_left 1
     focus(intro;go_simp;try with_reducible rfl)
     (try simp only[Act.put,lA,lB,lC])
     refine jtk 25 ?_ ?_ ?_
     rotate_left 1
     focus(intro w' hSw;obtain⟨hC,hF,hG⟩:=hSw;clear hF;clear hG;have c1:=(hC.cell (p:=⟨(ae.add (j*2)).block,(ae.add (j*2)).off+1,none⟩) (by show(ae.add (j*2)).block<_;rw[jH];omega)).trans hb1;clear hC;go_simp;try with_reducible rfl)
     (try simp only[Act.put,lA,lB,lC])
     refine jtq 26 ?_ ?_ ?_
     rotate_left 1
     focus(intro;go_simp;try with_reducible rfl)
     (try simp only[Act.put,lA,lB,lC])
     refine jtq 27 ?_ ?_ ?_
     rotate_left 1
     focus(intro;go_simp;try with_reducible rfl)
     (try simp only[Act.put,lA,lB,lC])
     intro jb
     refine je 28 rfl (by decide +kernel) (λK hK=>?_)
     go_simp
     refine hK.out _ _ ⟨HBW.o,λ_=>trivial,λ_=>trivial⟩ (λjb=>?_)
     clear hK K
     (try simp only[Act.put,lA,lB,lC])
     refine je 29 rfl (by decide +kernel) (λK hK=>?_)
     refine step_append_lies _ rfl _ _ 22 rfl (w.heap.size+3) 59 i1 (.agg #[.int .i64 0,.int .i64 0]) 2 16 Tryz.underlying22 hi1 hy0 hy1 hy2 rfl (by decide) (.slice Ao L.length co2) L.length _ rfl HROW.o ⟨W.heap.size,0,none⟩ 1 1 [.int .i64 (cx*cy),.int .i64 (rx*ry)] rfl rfl (zx W _ _ _) (by simp[Value.oneCell']) (by decide) (by unfold maxLen;omega) (by omega) (by show _<=(W.alloc _).heap.size;rw[World.size_alloc];omega) (W.heap.size+1) (by show(W.alloc _).heap.size=_;rw[World.size_alloc]) ?_
     intro g3 cap3 w3 ho3 hg3 hat3 hlt3
     have HN:=ja (HI1.o.next HBU.o ho3 hg3 hlL)
     have HB3:=ja (HBW.o.grown hg3 (by show _<=(W.alloc _).heap.size;rw[World.size_alloc];omega) (λj e=>(HI1.o.row.lt j e).1))
     refine hK.out _ _ ⟨HB3.o,λh=>absurd h (by decide +kernel),λh=>absurd h (by decide +kernel)⟩ (λjb=>?_)
     clear hK K ho3 hg3 hat3 hlt3
     (try simp only[Act.put,lA,lB,lC])
     revert jb
     refine jtq 30 ?_ ?_ ?_
     rotate_left 1
     focus(intro;go_simp;try with_reducible rfl)
     (try simp only[Act.put,lA,lB,lC])
     intro jb
     refine jl (by decide +kernel) ?_
     clear jb
     go_wp2
     exact⟨⟨j+1,by omega,by go_num,by rw[HTS.o,List.map_append,<-List.append_assoc,<-HL.o];exact HN.o⟩,by simp[intOf];omega⟩
    ·obtain rfl:j=yt.length:=by omega
     rw[List.take_length,<-HSN.o] at HI1
     go_wp2
     exact⟨⟨k+1,by omega,by go_num,HI1.o⟩,by simp[intOf];omega⟩
  ·obtain rfl:k=xt.length:=by omega
   rw[List.take_length] at HI1
   have hxy:=jE (a:=xd) (b:=yd) (A:=100000) (B:=100000) (by omega) (by omega)
   have hpos:0<xd*yd:=Int.mul_pos (by omega) (by omega)
   obtain⟨L2,hL2⟩:∃L2,L2=zn4 xt yt:=⟨_,rfl⟩
   rw[<-hL2] at HI1 HBD HEQ
   clear hL2
   have hl2:=HI1.o.len
   obtain⟨Ao,co2,rfl⟩:=jx HI1.o.row
   have HPP:=ja (jaf8 (xd*yd) 10000000000000 Ao L2.length co2 wr.heap.size L2 wr (Rq.of (Rd.of_own HI1.o.row)) (Nat.le_refl _) (by omega) (by omega) (by omega) (λt ht=>(HBD.o t ht).1) (by decide) (λt ht=>(HBD.o t ht).2) (by omega))
   rw[HEQ.o] at HPP
   clear HEQ HBD
   generalize jc7 xd xt yd yt=sv at *
   obtain⟨s1,s2,s3⟩:=sv
   have hmw:IntKind.i64.wrap (xd*yd)=xd*yd:=by rw[IntKind.wrap_i64];omega
   go_wp2_with (first
    | (go_at_call 89;refine HPP.o.mono ?_;rintro e w5 ⟨A5,n5,c5,rfl,ho5,hb5⟩
       have hz5:=hb5.size
       have hsz:=HI1.o.size
       have HR5:=ja (HI1.o.r.below hb5 (by omega));have HB5:=ja (HI1.o.below.trans (hb5.mono (by omega)));have HO5:=ja ho5
       obtain⟨r0,r1,rf0,rf1⟩:=HR5.o.two
       clear hb5 ho5))
   refine jq (p:=4) (u:=5) (ty:=24) rfl rfl ((HR5.o.set_ 0 _).set_ 1 _) Tryz.underlying24 rfl Tryz.sizeNumber rfl ?_
   unfold jV
   exact⟨A5,n5,c5,rfl,jO (ownsRow_setCell_below (ownsRow_setCell_below HO5.o (by show w.heap.size+2<_;omega) _) (by show w.heap.size+2<_;omega) _) (by omega),Below.setCell (Below.setCell HB5.o (p:=⟨w.heap.size+2,0,none⟩) (by show _<=w.heap.size+2;omega) _) (p:=⟨w.heap.size+2,1,none⟩) (by show _<=w.heap.size+2;omega) _⟩
