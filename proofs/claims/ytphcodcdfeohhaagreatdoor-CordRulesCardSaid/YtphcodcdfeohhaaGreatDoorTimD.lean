import Derived.Test.YtphcodcdfeohhaaGreatDoorTimAToAsyY
set_option linter.all false
namespace Go.Proofs.YtphcodcdfeohhaaGreatDoor
set_option maxRecDepth 100000
set_option maxHeartbeats 16000000
open Go.RowKit
structure OverI(w W:World)(m:Nat)(xd:Int)(xA:Option Addr)(xn xc:Nat)(yd:Int)(yA:Option Addr)(yn yc:Nat)(a b:Int×Int)(o:Value)(L:List (Int×Int)):Prop where
 x:jh W w.heap.size 24 #[.int .i64 xd,.slice xA xn xc]
 y:jh W (w.heap.size+1) 24 #[.int .i64 yd,.slice yA yn yc]
 r:jh W (w.heap.size+2) 24 #[.int .i64 0,.slice none 0 0]
 a:jh W m 59 #[.int .i64 a.1,.int .i64 a.2]
 b:jh W (m+1) 59 #[.int .i64 b.1,.int .i64 b.2]
 row:W.ownsRow (m+2) 59 2 o L.length (jr L)
 below:Below w.heap.size w W
 size:m+2<=W.heap.size
 base:w.heap.size+3<=m
 len:L.length<=8
theorem OverI.next {w W w1 w3:World} {m:Nat} {xd yd:Int} {xA yA:Option Addr} {xn xc yn yc:Nat} {a b:Int×Int} {o v:Value} {L:List (Int×Int)} {c r c' r':Int} (h:OverI w W m xd xA xn xc yd yA yn yc a b o L) (hb:Below W.heap.size W w1)
  (hrow:w3.ownsRow (m+2) 59 2 v (L.length+2) (jr L++[.int .i64 c,.int .i64 r,.int .i64 c',.int .i64 r'])) (hg:w1.grownBy w3 o.ownBlock) (h8:L.length<=6):OverI w w3 m xd xA xn xc yd yA yn yc a b v (L++[(c,r),(c',r')]):=by
 have hb3:Below (m+2) W w3:=(hb.mono h.size).grown hg (by have:=hb.size;have:=h.size;omega) (λj e=>(h.row.lt j e).1)
 have hm:=h.base
 refine⟨h.x.below hb3 (by omega),h.y.below hb3 (by omega),h.r.below hb3 (by omega),h.a.below hb3 (by omega),h.b.below hb3 (by omega),?_,h.below.trans (hb3.mono (by omega)),by have:=hb3.size;have:=h.size;omega,hm,by simp;omega⟩
 rw[show L++[(c,r),(c',r')]=(L++[(c,r)])++[(c',r')] by simp,Zz,Zz,List.append_assoc,List.length_append,List.length_append]
 simpa using hrow
theorem jct9(yd:Int)(a b t:Int×Int)(l:List (Int×Int)):zr2 yd a b (l++[t])=zr2 yd a b l++[(t.1*a.1*yd,t.2*a.2),(-t.1*b.1*yd,t.2*b.2)]:=by
 unfold zr2;simp
theorem jcm5 (yd:Int) (a b:Int×Int):∀l:List (Int×Int),(zr2 yd a b l).length=2*l.length
 | []=>rfl
 | t::l=>by
  have h:=jcm5 yd a b l
  have e:zr2 yd a b (t::l)=[(t.1*a.1*yd,t.2*a.2),(-t.1*b.1*yd,t.2*b.2)]++zr2 yd a b l:=rfl
  rw[e,List.length_append,h];simp;omega
theorem jct4 (xd:Int) (xA:Option Addr) (xn xc:Nat) (xt:List (Int×Int)) (yd:Int) (yA:Option Addr) (yn yc:Nat) (yt:List (Int×Int)) (B:Nat) (w:World) (hx:jJ w B xA xn xc xt) (hy:jJ w B yA yn yc yt) (hB:B<=w.heap.size) :
  Calls Tryz.prog 90 #[.agg #[.int .i64 xd,.slice xA xn xc],.agg #[.int .i64 yd,.slice yA yn yc]] w (jV w (jn7 xd xt yd yt)):=by
 have hlx:=hx.len
 have hly:=hy.len
 subst hlx
 subst hly
 have hnx:=Rq.nmax hx
 have hny:=Rq.nmax hy
 obtain⟨i1,hi1,hy0,hy1,hy2⟩:=info_parts Tryz.infoTerm
 obtain⟨w0,hw0⟩:∃w0,w0=((w.alloc (.cells #[.int .i64 xd,.slice xA xt.length xc] 24)).alloc (.cells #[.int .i64 yd,.slice yA yt.length yc] 24)).alloc (.cells #[.int .i64 0,.slice none 0 0] 24):=⟨_,rfl⟩
 have hz0:w0.heap.size=w.heap.size+3:=by rw[hw0];simp
 have HX0:Hid (jh w0 w.heap.size 24 #[.int .i64 xd,.slice xA xt.length xc]):=ja (by rw[hw0];exact((jh.new w _ _).alloc _).alloc _)
 have HY0:Hid (jh w0 (w.heap.size+1) 24 #[.int .i64 yd,.slice yA yt.length yc]):=ja (by
  rw[hw0]
  have h:=(jh.new (w.alloc (.cells #[.int .i64 xd,.slice xA xt.length xc] 24)) 24 #[.int .i64 yd,.slice yA yt.length yc]).alloc (.cells #[.int .i64 0,.slice none 0 0] 24)
  rwa [World.size_alloc] at h)
 have HR0:Hid (jh w0 (w.heap.size+2) 24 #[.int .i64 0,.slice none 0 0]):=ja (by
  rw[hw0]
  have h:=jh.new ((w.alloc (.cells #[.int .i64 xd,.slice xA xt.length xc] 24)).alloc (.cells #[.int .i64 yd,.slice yA yt.length yc] 24)) 24 #[.int .i64 0,.slice none 0 0]
  rwa [World.size_alloc,World.size_alloc] at h)
 have HB0:Hid (Below w.heap.size w w0):=ja (by rw[hw0];exact(((Below.refl _ _).alloc (Nat.le_refl _) _).alloc (by simp) _).alloc (by simp;omega) _)
 have HTX:=ja (λW (hb:Below w.heap.size w W)=>Rq.below hx (hb.mono hB))
 have HTY:=ja (λW (hb:Below w.heap.size w W)=>Rq.below hy (hb.mono hB))
 have HNX:=ja (λW (hb:Below w.heap.size w W)=>QB xd xA xt.length xc B xt W (HTX.o W hb) (by have:=hb.size;omega))
 have HNY:=ja (λW (hb:Below w.heap.size w W)=>QB yd yA yt.length yc B yt W (HTY.o W hb) (by have:=hb.size;omega))
 have HPS:=ja (show jn7 xd xt yd yt=if(js xd xt&&js yd yt)=true then(if yt.length=0 then(0,[],7)else if 2<yt.length then(0,[],11)else jY (Jq [] xt (JD yd yt)) (xd*zR yt))else(0,[],2)from rfl)
 clear hx hy
 cases hox:js xd xt
 ·rw[hox] at HNX
  have HV:=ja (HPS.o.trans (if_neg (by rw[hox];simp)))
  go_enter Tryz.func90,Tryz.ntmps90
  go_upto_region 1 with fail
  rw[<-hw0]
  clear hw0
  obtain⟨x0,x1,_,_⟩:=HX0.o.two
  obtain⟨y0,y1,_,_⟩:=HY0.o.two
  go_wp2_with (first
   | (go_at_call 39;refine(HNX.o _ HB0.o).mono ?_;rintro e w1 ⟨rfl,hb1⟩
      have HR1:=ja (HR0.o.below hb1 (by omega));have HB1:=ja (HB0.o.trans (hb1.mono (by omega)))
      obtain⟨r0,r1,rf0,rf1⟩:=HR1.o.two
      clear hb1))
  refine jq (p:=4) (u:=5) (ty:=24) rfl rfl ((HR1.o.set_ 0 _).set_ 1 _) Tryz.underlying24 rfl Tryz.sizeNumber rfl ?_
  unfold jV
  exact⟨none,0,0,by rw[HV.o];rfl,by rw[HV.o];exact World.ownsRow_nil _ _ _ _,Below.setCell (Below.setCell HB1.o (p:=⟨w.heap.size+2,0,none⟩) (by show _<=w.heap.size+2;omega) _) (p:=⟨w.heap.size+2,1,none⟩) (by show _<=w.heap.size+2;omega) _⟩
 rw[hox] at HNX
 cases hoy:js yd yt
 ·rw[hoy] at HNY
  have HV:=ja (HPS.o.trans (if_neg (by rw[hoy];simp)))
  go_enter Tryz.func90,Tryz.ntmps90
  go_upto_region 1 with fail
  rw[<-hw0]
  clear hw0
  obtain⟨x0,x1,_,_⟩:=HX0.o.two
  obtain⟨y0,y1,_,_⟩:=HY0.o.two
  go_wp2_with (first
   | (go_at_call 39;refine(HNX.o _ HB0.o).mono ?_;rintro e w1 ⟨rfl,hb1⟩
      have HY1:=ja (HY0.o.below hb1 (by omega));have HR1:=ja (HR0.o.below hb1 (by omega));have HB1:=ja (HB0.o.trans (hb1.mono (by omega)));have hz1:=hb1.size
      obtain⟨y0,y1,_,_⟩:=HY1.o.two
      clear hb1 HNX)
   | (go_at_call 39;refine(HNY.o _ HB1.o).mono ?_;rintro e w2 ⟨rfl,hb2⟩
      have HR2:=ja (HR1.o.below hb2 (by omega));have HB2:=ja (HB1.o.trans (hb2.mono (by omega)))
      obtain⟨r0,r1,rf0,rf1⟩:=HR2.o.two
      clear hb2))
  refine jq (p:=4) (u:=5) (ty:=24) rfl rfl ((HR2.o.set_ 0 _).set_ 1 _) Tryz.underlying24 rfl Tryz.sizeNumber rfl ?_
  unfold jV
  exact⟨none,0,0,by rw[HV.o];rfl,by rw[HV.o];exact World.ownsRow_nil _ _ _ _,Below.setCell (Below.setCell HB2.o (p:=⟨w.heap.size+2,0,none⟩) (by show _<=w.heap.size+2;omega) _) (p:=⟨w.heap.size+2,1,none⟩) (by show _<=w.heap.size+2;omega) _⟩
 rw[hoy] at HNY
 have HPV:=ja (HPS.o.trans (if_pos (by rw[hox,hoy];rfl)))
 clear HPS
 by_cases hl0:yt.length=0
 ·have HV:=ja (HPV.o.trans (if_pos hl0))
  obtain rfl:yt=[]:=List.eq_nil_of_length_eq_zero hl0
  dsimp only[List.length_nil] at *;clear hl0
  go_enter Tryz.func90,Tryz.ntmps90
  go_upto_region 1 with fail
  rw[<-hw0]
  clear hw0
  obtain⟨x0,x1,_,_⟩:=HX0.o.two
  obtain⟨y0,y1,_,_⟩:=HY0.o.two
  go_wp2_with (first
  | (go_at_call 39;refine(HNX.o _ HB0.o).mono ?_;rintro e w1 ⟨rfl,hb1⟩
     have HX1:=ja (HX0.o.below hb1 (by omega));have HY1:=ja (HY0.o.below hb1 (by omega));have HR1:=ja (HR0.o.below hb1 (by omega));have HB1:=ja (HB0.o.trans (hb1.mono (by omega)));have hz1:=hb1.size
     obtain⟨y0,y1,_,_⟩:=HY1.o.two
     clear hb1 HNX)
  | (go_at_call 39;refine(HNY.o _ HB1.o).mono ?_;rintro e w2 ⟨rfl,hb2⟩
     have HX2:=ja (HX1.o.below hb2 (by omega));have HY2:=ja (HY1.o.below hb2 (by omega));have HR2:=ja (HR1.o.below hb2 (by omega));have HB2:=ja (HB1.o.trans (hb2.mono (by omega)));have hz2:=hb2.size
     obtain⟨y0,y1,_,_⟩:=HY2.o.two
     obtain⟨r0,r1,rf0,rf1⟩:=HR2.o.two
     clear hb2 HNY))
  refine jq (p:=4) (u:=5) (ty:=24) rfl rfl ((HR2.o.set_ 0 _).set_ 1 _) Tryz.underlying24 rfl Tryz.sizeNumber rfl ?_
  unfold jV
  exact⟨none,0,0,by rw[HV.o];rfl,by rw[HV.o];exact World.ownsRow_nil _ _ _ _,Below.setCell (Below.setCell HB2.o (p:=⟨w.heap.size+2,0,none⟩) (by show _<=w.heap.size+2;omega) _) (p:=⟨w.heap.size+2,1,none⟩) (by show _<=w.heap.size+2;omega) _⟩
 by_cases hl2:2<yt.length
 ·have HV:=ja (HPV.o.trans ((if_neg hl0).trans (if_pos hl2)))
  have hli:2<(yt.length:Int):=by omega
  skip
  go_enter Tryz.func90,Tryz.ntmps90
  go_upto_region 1 with fail
  rw[<-hw0]
  clear hw0
  obtain⟨x0,x1,_,_⟩:=HX0.o.two
  obtain⟨y0,y1,_,_⟩:=HY0.o.two
  go_wp2_with (first
  | (go_at_call 39;refine(HNX.o _ HB0.o).mono ?_;rintro e w1 ⟨rfl,hb1⟩
     have HX1:=ja (HX0.o.below hb1 (by omega));have HY1:=ja (HY0.o.below hb1 (by omega));have HR1:=ja (HR0.o.below hb1 (by omega));have HB1:=ja (HB0.o.trans (hb1.mono (by omega)));have hz1:=hb1.size
     obtain⟨y0,y1,_,_⟩:=HY1.o.two
     clear hb1 HNX)
  | (go_at_call 39;refine(HNY.o _ HB1.o).mono ?_;rintro e w2 ⟨rfl,hb2⟩
     have HX2:=ja (HX1.o.below hb2 (by omega));have HY2:=ja (HY1.o.below hb2 (by omega));have HR2:=ja (HR1.o.below hb2 (by omega));have HB2:=ja (HB1.o.trans (hb2.mono (by omega)));have hz2:=hb2.size
     obtain⟨y0,y1,_,_⟩:=HY2.o.two
     obtain⟨r0,r1,rf0,rf1⟩:=HR2.o.two
     clear hb2 HNY))
  refine jq (p:=4) (u:=5) (ty:=24) rfl rfl ((HR2.o.set_ 0 _).set_ 1 _) Tryz.underlying24 rfl Tryz.sizeNumber rfl ?_
  unfold jV
  exact⟨none,0,0,by rw[HV.o];rfl,by rw[HV.o];exact World.ownsRow_nil _ _ _ _,Below.setCell (Below.setCell HB2.o (p:=⟨w.heap.size+2,0,none⟩) (by show _<=w.heap.size+2;omega) _) (p:=⟨w.heap.size+2,1,none⟩) (by show _<=w.heap.size+2;omega) _⟩
 rcases yt with _|⟨⟨ca,ra⟩,_|⟨⟨cb,rb⟩,_|⟨q,yt⟩⟩⟩
 ·exact absurd rfl hl0
 ·dsimp only[List.length_cons,List.length_nil] at *
  have hya:([(ca,ra)]:List (Int×Int)).length=1:=rfl
  go_enter Tryz.func90,Tryz.ntmps90
  go_upto_region 1 with fail
  rw[<-hw0]
  clear hw0
  obtain⟨x0,x1,_,_⟩:=HX0.o.two
  obtain⟨y0,y1,_,_⟩:=HY0.o.two
  go_upto_region 7 with(first
  | (go_at_call 39;refine(HNX.o _ HB0.o).mono ?_;rintro e w1 ⟨rfl,hb1⟩
     have HX1:=ja (HX0.o.below hb1 (by omega));have HY1:=ja (HY0.o.below hb1 (by omega));have HR1:=ja (HR0.o.below hb1 (by omega));have HB1:=ja (HB0.o.trans (hb1.mono (by omega)));have hz1:=hb1.size
     obtain⟨y0,y1,_,_⟩:=HY1.o.two
     clear hb1 HNX)
  | (go_at_call 39;refine(HNY.o _ HB1.o).mono ?_;rintro e w2 ⟨rfl,hb2⟩
     have HX2:=ja (HX1.o.below hb2 (by omega));have HY2:=ja (HY1.o.below hb2 (by omega));have HR2:=ja (HR1.o.below hb2 (by omega));have HB2:=ja (HB1.o.trans (hb2.mono (by omega)));have hz2:=hb2.size
     obtain⟨y0,y1,_,_⟩:=HY2.o.two
     clear hb2 HNY))
  obtain⟨ad,rfl,had,ha0,ha1⟩:=jJ.at_ (HTY.o _ HB2.o) (i:=0) (by simp)
  dsimp only[List.getElem_cons_zero,List.getElem_cons_succ] at ha0 ha1
  simp at ha0 ha1
  rw[show ad.add 0=ad by cases ad;simp[Addr.add]] at ha0 ha1
  obtain⟨W3,hW3⟩:∃W3,W3=(w2.alloc (.cells #[.int .i64 ca,.int .i64 ra] 59)).alloc (.cells #[.int .i64 0,.int .i64 1] 59):=⟨_,rfl⟩
  obtain⟨m,hm⟩:∃m,m=w2.heap.size:=⟨_,rfl⟩
  have hz3:W3.heap.size=m+2:=by rw[hW3,hm];simp
  have HX3:=ja (show jh W3 _ _ _ from hW3▸(HX2.o.alloc _).alloc _)
  have HY3:=ja (show jh W3 _ _ _ from hW3▸(HY2.o.alloc _).alloc _)
  have HR3:=ja (show jh W3 _ _ _ from hW3▸(HR2.o.alloc _).alloc _)
  have HA3:Hid (jh W3 m 59 #[.int .i64 ca,.int .i64 ra]):=ja (by rw[hW3,hm];exact(jh.new w2 _ _).alloc _)
  have HE3:Hid (jh W3 (m+1) 59 #[.int .i64 0,.int .i64 1]):=ja (by
   rw[hW3,hm]
   have h:=jh.new (w2.alloc (.cells #[.int .i64 ca,.int .i64 ra] 59)) 59 #[.int .i64 0,.int .i64 1]
   rwa [World.size_alloc] at h)
  have HB3:Hid (Below w.heap.size w W3):=ja (by rw[hW3];exact(HB2.o.alloc (by omega) _).alloc (by simp;omega) _)
  go_upto_region 8 with fail
  rw[<-hW3,<-hm]
  have hmz:w.heap.size+3<=m:=by omega
  clear hW3 hm HX2 HY2 HR2 HB2 HX1 HY1 HR1 HB1 HX0 HY0 HR0 HB0 x0 x1 y0 y1 ha0 ha1
  obtain⟨y0,y1,_,_⟩:=HY3.o.two
  go_upto_region 10 with fail
  obtain⟨cb,hcb⟩:∃b:Int,b=0:=⟨_,rfl⟩
  obtain⟨rb,hrb⟩:∃b:Int,b=1:=⟨_,rfl⟩
  have HE4:Hid (jh W3 (m+1) 59 #[.int .i64 cb,.int .i64 rb]):=ja (by rw[hcb,hrb];exact HE3.o)
  have HX4:=ja HX3.o
  have HY4:=ja HY3.o
  have HR4:=ja HR3.o
  have HA4:=ja HA3.o
  have HB4:=ja HB3.o
  clear HX3 HY3 HR3 HA3 HE3 HB3 y0 y1
  generalize W3=W4 at *
  replace hz3:m+2<=W4.heap.size:=by omega
  have HBX:=ja (λu hu=>jbc5 (c:=ca) (r:=ra) hox (yd:=yd) (by have:=(jz hoy).1;have:=(jz hoy).2.1;omega) (((jz hoy).2.2.2 (ca,ra) (by simp)).1.2.2.2) ((Jd hoy).1 (ca,ra) (by simp)) u hu u.1 (.inl rfl))
  have HBY:=ja (λu hu=>jbc5 (c:=cb) (r:=rb) hox (yd:=yd) (by have:=(jz hoy).1;have:=(jz hoy).2.1;omega) (by omega) (by rw[hrb];exact jn8) u hu (-u.1) (.inr rfl))
  have HEQ:=ja (show zm8 (xd*(ca*ca*ra-cb*cb*rb)) (zr2 yd (ca,ra) (cb,rb) xt)=jn7 xd xt yd [(ca,ra)] by rw[hcb,hrb];exact jdc6 hox hoy)
  have HCA:=ja ((jz hoy).2.2.2 (ca,ra) (by simp)).1
  have HCB:Hid ((-100000<=cb/\cb<=100000)/\1<=rb/\rb<=1000):=ja ⟨by omega,by omega⟩
  have HNZ:Hid (ca*ca*ra-cb*cb*rb≠0):=ja (by
   have h1:=((jz hoy).2.2.2 (ca,ra) (by simp)).1
   have h2:0<ca*ca:=by
    rcases Int.lt_or_gt_of_ne h1.2.2.1 with h|h
    ·exact Int.mul_pos_of_neg_of_neg h h
    ·exact Int.mul_pos h h
   have h3:=Int.mul_pos h2 (show 0<ra by have:=h1.1;dsimp only at this;omega)
   rw[hcb]
   omega)
  obtain⟨hx1,hx2,hx3,hx4⟩:=jz hox
  have hyd:1<=yd/\yd<=100000:=⟨(jz hoy).1,(jz hoy).2.1⟩
  have HTXB:=ja hx4
  clear hx4 hox hoy HPV hl0 hl2 hya hcb hrb
  have HI:Hid (OverI w (W4.alloc (.cells #[] 59)) m xd xA xt.length xc yd (some ad) (0+1) yc (ca,ra) (cb,rb) (.slice (some ⟨W4.heap.size,0,none⟩) 0 0) []):=ja
   ⟨HX4.o.alloc _,HY4.o.alloc _,HR4.o.alloc _,HA4.o.alloc _,HE4.o.alloc _,World.ownsRow_lit (base:=m+2) (e:=59) (size:=2) W4 #[] 0 (by omega) (by unfold maxLen;omega) rfl,HB4.o.alloc (by omega) _,by simp;omega,by omega,by simp⟩
  clear HX4 HY4 HR4 HA4 HE4 HB4
  go_wp2
  go_loopw [8,9] (λo i W=>∃k:Nat,k<=xt.length/\i=.int .i64 k/\OverI w W m xd xA xt.length xc yd (some ad) (0+1) yc (ca,ra) (cb,rb) o (zr2 yd (ca,ra) (cb,rb) (xt.take k))) (λ_ i _=>xt.length-(intOf i).toNat)
  case atStart=>exact⟨0,by omega,rfl,by simpa [zr2] using HI.o⟩
  case round=>
   obtain⟨k,hk,rfl,hI⟩:=hrel
   have HI1:=ja hI
   clear hI HI
   obtain⟨x0,x1,_,_⟩:=HI1.o.x.two
   obtain⟨y0,y1,_,_⟩:=HI1.o.y.two
   obtain⟨p0,p1,_,_⟩:=HI1.o.a.two
   obtain⟨q0,q1,_,_⟩:=HI1.o.b.two
   have hWz:=HI1.o.size
   have hmz:=HI1.o.base
   by_cases hkl:(k:Int)<(xt.length:Int)
   ·have hk1:k<xt.length:=by omega
    obtain⟨ax,rfl,hax,ha0,ha1⟩:=jJ.at_ (HTX.o _ HI1.o.below) hk1
    have htb:=HTXB.o xt[k] (List.getElem_mem hk1)
    have hbx:=HBX.o xt[k] (List.getElem_mem hk1)
    have hby:=HBY.o xt[k] (List.getElem_mem hk1)
    have HTS:=ja (jw xt k hk1)
    obtain⟨t,ht⟩:∃t,t=xt[k]:=⟨_,rfl⟩
    rw[<-ht] at htb HTS ha0 ha1
    clear ht hbx hby
    obtain⟨ct,rt⟩:=t
    dsimp only at ha0 ha1 htb
    have hct:-100000<=ct/\ct<=100000:=htb.1.2.2.2
    have hrt:1<=rt/\rt<=1000:=⟨htb.1.1,htb.1.2.1⟩
    clear htb
    have hca:(-100000<=ca/\ca<=100000)/\1<=ra/\ra<=1000:=⟨HCA.o.2.2.2,HCA.o.1,HCA.o.2.1⟩
    have hcb:=HCB.o
    have m1:=jE hct hca.1
    have m2:=jE m1 (b:=yd) (B:=100000) (by omega)
    have m3:=jE (a:=-ct) (A:=100000) (by omega) hcb.1
    have m4:=jE m3 (b:=yd) (B:=100000) (by omega)
    have m5:=jE (a:=rt) (b:=ra) (A:=1000) (B:=1000) (by omega) (by omega)
    have m6:=jE (a:=rt) (b:=rb) (A:=1000) (B:=1000) (by omega) (by omega)
    have v1:IntKind.i64.wrap (ct*ca)=ct*ca:=by rw[IntKind.wrap_i64];omega
    have v2:IntKind.i64.wrap (ct*ca*yd)=ct*ca*yd:=by rw[IntKind.wrap_i64];omega
    have v0:IntKind.i64.wrap (-ct)=-ct:=by rw[IntKind.wrap_i64];omega
    have v3:IntKind.i64.wrap (-ct*cb)=-ct*cb:=by rw[IntKind.wrap_i64];omega
    have v4:IntKind.i64.wrap (-ct*cb*yd)=-ct*cb*yd:=by rw[IntKind.wrap_i64];omega
    have v5:IntKind.i64.wrap (rt*ra)=rt*ra:=by rw[IntKind.wrap_i64];omega
    have v6:IntKind.i64.wrap (rt*rb)=rt*rb:=by rw[IntKind.wrap_i64];omega
    obtain⟨L,hL⟩:∃L,L=zr2 yd (ca,ra) (cb,rb) (xt.take k):=⟨_,rfl⟩
    have hlL:L.length<=6:=by rw[hL,jcm5];simp;omega
    have HSN:=ja (show zr2 yd (ca,ra) (cb,rb) (xt.take (k+1))=L++[(ct*ca*yd,rt*ra),(-ct*cb*yd,rt*rb)] by rw[HTS.o,jct9,<-hL])
    rw[<-hL] at HI1
    clear hL HTS
    obtain⟨Ao,co2,rfl⟩:=jx HI1.o.row
    obtain⟨W5,hW5⟩:∃W5,W5=wr.alloc (.cells #[.int .i64 ct,.int .i64 rt] 59):=⟨_,rfl⟩
    have hz5:W5.heap.size=wr.heap.size+1:=by rw[hW5];simp
    have HBU:=ja (show Below wr.heap.size wr (W5.alloc (.cells #[.int .i64 (ct*ca*yd),.int .i64 (rt*ra),.int .i64 (-ct*cb*yd),.int .i64 (rt*rb)] 59))from((hW5▸(Below.refl wr.heap.size wr).alloc (Nat.le_refl _) _:Below wr.heap.size wr W5)).alloc (by omega) _)
    have HROW:=ja (show(W5.alloc (.cells #[.int .i64 (ct*ca*yd),.int .i64 (rt*ra),.int .i64 (-ct*cb*yd),.int .i64 (rt*rb)] 59)).ownsRow _ _ _ _ _ _ from(hW5▸HI1.o.row.alloc _:W5.ownsRow _ _ _ _ _ _).alloc _)
    have HT5:Hid (jh W5 wr.heap.size 59 #[.int .i64 ct,.int .i64 rt]):=ja (by rw[hW5];exact jh.new wr _ _)
    have HX5:=ja (HI1.o.x.below (show Below wr.heap.size wr W5 from hW5▸(Below.refl wr.heap.size wr).alloc (Nat.le_refl _) _) (by omega))
    have HY5:=ja (HI1.o.y.below (show Below wr.heap.size wr W5 from hW5▸(Below.refl wr.heap.size wr).alloc (Nat.le_refl _) _) (by omega))
    have HA5:=ja (HI1.o.a.below (show Below wr.heap.size wr W5 from hW5▸(Below.refl wr.heap.size wr).alloc (Nat.le_refl _) _) (by omega))
    have HE5:=ja (HI1.o.b.below (show Below wr.heap.size wr W5 from hW5▸(Below.refl wr.heap.size wr).alloc (Nat.le_refl _) _) (by omega))
    go_upto_region 15 with fail
    rw[<-hW5]
    clear hW5 x0 x1 y0 y1 p0 p1 q0 q1 ha0 ha1
    obtain⟨t0,t1,_,_⟩:=HT5.o.two
    obtain⟨y0,y1,_,_⟩:=HY5.o.two
    obtain⟨p0,p1,_,_⟩:=HA5.o.two
    obtain⟨q0,q1,_,_⟩:=HE5.o.two
    have HCN:Hid (∀j u,[.int .i64 (ct*ca*yd),.int .i64 (rt*ra),.int .i64 (-ct*cb*yd),.int .i64 (rt*rb)][j]?=some u->(W5.alloc (.cells #[.int .i64 (ct*ca*yd),.int .i64 (rt*ra),.int .i64 (-ct*cb*yd),.int .i64 (rt*rb)] 59)).cell? ((⟨wr.heap.size+1,0,none⟩:Addr).add j)=some u):=ja (by
     have h:=jbk8 W5 (.int .i64 (ct*ca*yd)) (.int .i64 (rt*ra)) (.int .i64 (-ct*cb*yd)) (.int .i64 (rt*rb)) 59
     rw[hz5] at h
     exact h)
    go_wp2_with (first
     | (at_builtin;refine wpList_append_lies _ rfl _ _ 22 rfl (m+2) 59 i1 (.agg #[.int .i64 0,.int .i64 0]) 2 16 Tryz.underlying22 hi1 hy0 hy1 hy2 rfl (by decide) (.slice Ao L.length co2) L.length _ rfl HROW.o ⟨wr.heap.size+1,0,none⟩ 2 2 [.int .i64 (ct*ca*yd),.int .i64 (rt*ra),.int .i64 (-ct*cb*yd),.int .i64 (rt*rb)] rfl rfl HCN.o (by simp[Value.oneCell']) (by decide) (by unfold maxLen;omega) (by omega) (by show _<=(W5.alloc _).heap.size;rw[World.size_alloc];omega) (W5.heap.size+1) (by show(W5.alloc _).heap.size=_;rw[World.size_alloc]) ?_;intro g3 cap3 w3 ho3 hg3 hat3 hlt3;have HN:=ja (HI1.o.next HBU.o ho3 hg3 hlL);clear ho3 hg3 hat3 hlt3))
    exact⟨⟨k+1,by omega,by go_num,by rw[HSN.o];exact HN.o⟩,by simp[intOf];omega⟩
   ·obtain rfl:k=xt.length:=by omega
    rw[List.take_length] at HI1
    have hca:(-100000<=ca/\ca<=100000)/\1<=ra/\ra<=1000:=⟨HCA.o.2.2.2,HCA.o.1,HCA.o.2.1⟩
    have hcb:=HCB.o
    have m1:=jE hca.1 hca.1
    have m2:=jE m1 (b:=ra) (B:=1000) (by omega)
    have m3:=jE hcb.1 hcb.1
    have m4:=jE m3 (b:=rb) (B:=1000) (by omega)
    have m5:=jE (a:=xd) (A:=100000) (by omega) (b:=ca*ca*ra-cb*cb*rb) (B:=20000000000000) (by omega)
    have hnz:=HNZ.o
    have hne:xd*(ca*ca*ra-cb*cb*rb)≠0:=Int.mul_ne_zero (by omega) hnz
    have v1:IntKind.i64.wrap (ca*ca)=ca*ca:=by rw[IntKind.wrap_i64];omega
    have v2:IntKind.i64.wrap (ca*ca*ra)=ca*ca*ra:=by rw[IntKind.wrap_i64];omega
    have v3:IntKind.i64.wrap (cb*cb)=cb*cb:=by rw[IntKind.wrap_i64];omega
    have v4:IntKind.i64.wrap (cb*cb*rb)=cb*cb*rb:=by rw[IntKind.wrap_i64];omega
    have v5:IntKind.i64.wrap (ca*ca*ra-cb*cb*rb)=ca*ca*ra-cb*cb*rb:=by rw[IntKind.wrap_i64];omega
    have v6:IntKind.i64.wrap (xd*(ca*ca*ra-cb*cb*rb))=xd*(ca*ca*ra-cb*cb*rb):=by rw[IntKind.wrap_i64];omega
    have HALL:=ja (show ∀t∈zr2 yd (ca,ra) (cb,rb) xt,(0<=t.2/\t.2<=100000000000)/\-1000000000000000000<=t.1*((jo t.2.toNat).1:Int)/\t.1*((jo t.2.toNat).1:Int)<=1000000000000000000 from λt ht=>by
     unfold zr2 at ht
     obtain⟨u,hu,ht⟩:=List.mem_flatMap.1 ht
     simp only[List.mem_cons,List.not_mem_nil,or_false] at ht
     rcases ht with rfl|rfl
     ·exact HBX.o u hu
     ·exact HBY.o u hu)
    obtain⟨L2,hL2⟩:∃L2,L2=zr2 yd (ca,ra) (cb,rb) xt:=⟨_,rfl⟩
    have HEQ2:=ja HEQ.o
    try dsimp only at HEQ2
    rw[<-hL2] at HI1 HALL HEQ2
    clear hL2 HEQ
    have hl2:=HI1.o.len
    obtain⟨Ao,co2,rfl⟩:=jx HI1.o.row
    have HPP:=ja (jaf8 (xd*(ca*ca*ra-cb*cb*rb)) 1000000000000000000 Ao L2.length co2 wr.heap.size L2 wr (Rq.of (Rd.of_own HI1.o.row)) (Nat.le_refl _) hne (by omega) (by omega) (λt ht=>(HALL.o t ht).1) (by decide) (λt ht=>(HALL.o t ht).2) (by omega))
    rw[HEQ2.o] at HPP
    clear HEQ2 HALL HBX HBY HNZ hnz hne
    generalize jn7 xd xt yd [(ca,ra)]=sv at *
    obtain⟨s1,s2,s3⟩:=sv
    go_wp2_with (first
     | (go_at_call 89;refine HPP.o.mono ?_;rintro e w5 ⟨A5,n5,c5,rfl,ho5,hb5⟩
        have hz5:=hb5.size
        have HR5:=ja (HI1.o.r.below hb5 (by omega));have HB5:=ja (HI1.o.below.trans (hb5.mono (by omega)));have HO5:=ja ho5
        obtain⟨r0,r1,rf0,rf1⟩:=HR5.o.two
        clear hb5 ho5))
    refine jq (p:=4) (u:=5) (ty:=24) rfl rfl ((HR5.o.set_ 0 _).set_ 1 _) Tryz.underlying24 rfl Tryz.sizeNumber rfl ?_
    unfold jV
    exact⟨A5,n5,c5,rfl,jO (ownsRow_setCell_below (ownsRow_setCell_below HO5.o (by show w.heap.size+2<_;omega) _) (by show w.heap.size+2<_;omega) _) (by omega),Below.setCell (Below.setCell HB5.o (p:=⟨w.heap.size+2,0,none⟩) (by show _<=w.heap.size+2;omega) _) (p:=⟨w.heap.size+2,1,none⟩) (by show _<=w.heap.size+2;omega) _⟩
 ·dsimp only[List.length_cons,List.length_nil] at *
  have hya:([(ca,ra),(cb,rb)]:List (Int×Int)).length=2:=rfl
  go_enter Tryz.func90,Tryz.ntmps90
  go_upto_region 1 with fail
  rw[<-hw0]
  clear hw0
  obtain⟨x0,x1,_,_⟩:=HX0.o.two
  obtain⟨y0,y1,_,_⟩:=HY0.o.two
  go_upto_region 7 with(first
  | (go_at_call 39;refine(HNX.o _ HB0.o).mono ?_;rintro e w1 ⟨rfl,hb1⟩
     have HX1:=ja (HX0.o.below hb1 (by omega));have HY1:=ja (HY0.o.below hb1 (by omega));have HR1:=ja (HR0.o.below hb1 (by omega));have HB1:=ja (HB0.o.trans (hb1.mono (by omega)));have hz1:=hb1.size
     obtain⟨y0,y1,_,_⟩:=HY1.o.two
     clear hb1 HNX)
  | (go_at_call 39;refine(HNY.o _ HB1.o).mono ?_;rintro e w2 ⟨rfl,hb2⟩
     have HX2:=ja (HX1.o.below hb2 (by omega));have HY2:=ja (HY1.o.below hb2 (by omega));have HR2:=ja (HR1.o.below hb2 (by omega));have HB2:=ja (HB1.o.trans (hb2.mono (by omega)));have hz2:=hb2.size
     obtain⟨y0,y1,_,_⟩:=HY2.o.two
     clear hb2 HNY))
  obtain⟨ad,rfl,had,ha0,ha1⟩:=jJ.at_ (HTY.o _ HB2.o) (i:=0) (by simp)
  obtain⟨ad',e,hbd,hb0,hb1⟩:=jJ.at_ (HTY.o _ HB2.o) (i:=1) (by simp)
  injection e with e
  subst e
  dsimp only[List.getElem_cons_zero,List.getElem_cons_succ] at ha0 ha1 hb0 hb1
  simp at ha0 ha1 hb0 hb1
  rw[show ad.add 0=ad by cases ad;simp[Addr.add]] at ha0 ha1
  obtain⟨W3,hW3⟩:∃W3,W3=(w2.alloc (.cells #[.int .i64 ca,.int .i64 ra] 59)).alloc (.cells #[.int .i64 0,.int .i64 1] 59):=⟨_,rfl⟩
  obtain⟨m,hm⟩:∃m,m=w2.heap.size:=⟨_,rfl⟩
  have hz3:W3.heap.size=m+2:=by rw[hW3,hm];simp
  have HX3:=ja (show jh W3 _ _ _ from hW3▸(HX2.o.alloc _).alloc _)
  have HY3:=ja (show jh W3 _ _ _ from hW3▸(HY2.o.alloc _).alloc _)
  have HR3:=ja (show jh W3 _ _ _ from hW3▸(HR2.o.alloc _).alloc _)
  have HA3:Hid (jh W3 m 59 #[.int .i64 ca,.int .i64 ra]):=ja (by rw[hW3,hm];exact(jh.new w2 _ _).alloc _)
  have HE3:Hid (jh W3 (m+1) 59 #[.int .i64 0,.int .i64 1]):=ja (by
   rw[hW3,hm]
   have h:=jh.new (w2.alloc (.cells #[.int .i64 ca,.int .i64 ra] 59)) 59 #[.int .i64 0,.int .i64 1]
   rwa [World.size_alloc] at h)
  have HB3:Hid (Below w.heap.size w W3):=ja (by rw[hW3];exact(HB2.o.alloc (by omega) _).alloc (by simp;omega) _)
  go_upto_region 8 with fail
  rw[<-hW3,<-hm]
  have hmz:w.heap.size+3<=m:=by omega
  clear hW3 hm HX2 HY2 HR2 HB2 HX1 HY1 HR1 HB1 HX0 HY0 HR0 HB0 x0 x1 y0 y1 ha0 ha1
  obtain⟨y0,y1,_,_⟩:=HY3.o.two
  obtain⟨ad',e,hbd,hb0,hb1⟩:=jJ.at_ (HTY.o _ HB3.o) (i:=1) (by simp)
  injection e with e
  subst e
  dsimp only[List.getElem_cons_zero,List.getElem_cons_succ] at hb0 hb1
  simp[Addr.add] at hb0 hb1
  obtain⟨e0,e1,ef0,ef1⟩:=HE3.o.two
  go_upto_region 10 with fail
  obtain⟨W4,hW4⟩:∃W4,W4=(W3.setCell ⟨m+1,0,none⟩ (.int .i64 cb)).setCell ⟨m+1,1,none⟩ (.int .i64 rb):=⟨_,rfl⟩
  have hbw:Below (m+1) W3 W4:=by rw[hW4];exact Below.setCell (Below.setCell (Below.refl _ _) (p:=⟨m+1,0,none⟩) (Nat.le_refl _) _) (p:=⟨m+1,1,none⟩) (Nat.le_refl _) _
  have HE4:Hid (jh W4 (m+1) 59 #[.int .i64 cb,.int .i64 rb]):=ja (by rw[hW4];exact(HE3.o.set_ 0 _).set_ 1 _)
  have HX4:=ja (HX3.o.below hbw (by omega))
  have HY4:=ja (HY3.o.below hbw (by omega))
  have HR4:=ja (HR3.o.below hbw (by omega))
  have HA4:=ja (HA3.o.below hbw (by omega))
  have HB4:=ja (HB3.o.trans (hbw.mono (by omega)))
  have hz4:=hbw.size
  rw[<-hW4]
  clear hW4 hbw HX3 HY3 HR3 HA3 HE3 HB3 y0 y1 hb0 hb1 e0 e1 ef0 ef1 hbd
  have HBX:=ja (λu hu=>jbc5 (c:=ca) (r:=ra) hox (yd:=yd) (by have:=(jz hoy).1;have:=(jz hoy).2.1;omega) (((jz hoy).2.2.2 (ca,ra) (by simp)).1.2.2.2) ((Jd hoy).1 (ca,ra) (by simp)) u hu u.1 (.inl rfl))
  have HBY:=ja (λu hu=>jbc5 (c:=cb) (r:=rb) hox (yd:=yd) (by have:=(jz hoy).1;have:=(jz hoy).2.1;omega) (((jz hoy).2.2.2 (cb,rb) (by simp)).1.2.2.2) ((Jd hoy).1 (cb,rb) (by simp)) u hu (-u.1) (.inr rfl))
  have HEQ:=ja (jdd9 hox hoy)
  have HCA:=ja ((jz hoy).2.2.2 (ca,ra) (by simp)).1
  have HCB:Hid ((-100000<=cb/\cb<=100000)/\1<=rb/\rb<=1000):=ja (by have h:=((jz hoy).2.2.2 (cb,rb) (by simp)).1;exact⟨h.2.2.2,h.1,h.2.1⟩)
  have HNZ:Hid (ca*ca*ra-cb*cb*rb≠0):=ja (by
   have h1:=((jz hoy).2.2.2 (ca,ra) (by simp)).1
   have h2:=((jz hoy).2.2.2 (cb,rb) (by simp)).1
   have h3:=jcb8 h1.2.2.1 h2.2.2.1 h1.2.2.2 h2.2.2.2 ((Jd hoy).1 (ca,ra) (by simp)) ((Jd hoy).1 (cb,rb) (by simp)) (by have h:=(Jd hoy).2;simp at h;exact h)
   dsimp only at h3;omega)
  obtain⟨hx1,hx2,hx3,hx4⟩:=jz hox
  have hyd:1<=yd/\yd<=100000:=⟨(jz hoy).1,(jz hoy).2.1⟩
  have HTXB:=ja hx4
  clear hx4 hox hoy HPV hl0 hl2 hya
  have HI:Hid (OverI w (W4.alloc (.cells #[] 59)) m xd xA xt.length xc yd (some ad) (0+1+1) yc (ca,ra) (cb,rb) (.slice (some ⟨W4.heap.size,0,none⟩) 0 0) []):=ja
   ⟨HX4.o.alloc _,HY4.o.alloc _,HR4.o.alloc _,HA4.o.alloc _,HE4.o.alloc _,World.ownsRow_lit (base:=m+2) (e:=59) (size:=2) W4 #[] 0 (by omega) (by unfold maxLen;omega) rfl,HB4.o.alloc (by omega) _,by simp;omega,by omega,by simp⟩
  clear HX4 HY4 HR4 HA4 HE4 HB4
  go_wp2
  go_loopw [8,9] (λo i W=>∃k:Nat,k<=xt.length/\i=.int .i64 k/\OverI w W m xd xA xt.length xc yd (some ad) (0+1+1) yc (ca,ra) (cb,rb) o (zr2 yd (ca,ra) (cb,rb) (xt.take k))) (λ_ i _=>xt.length-(intOf i).toNat)
  case atStart=>exact⟨0,by omega,rfl,by simpa [zr2] using HI.o⟩
  case round=>
   obtain⟨k,hk,rfl,hI⟩:=hrel
   have HI1:=ja hI
   clear hI HI
   obtain⟨x0,x1,_,_⟩:=HI1.o.x.two
   obtain⟨y0,y1,_,_⟩:=HI1.o.y.two
   obtain⟨p0,p1,_,_⟩:=HI1.o.a.two
   obtain⟨q0,q1,_,_⟩:=HI1.o.b.two
   have hWz:=HI1.o.size
   have hmz:=HI1.o.base
   by_cases hkl:(k:Int)<(xt.length:Int)
   ·have hk1:k<xt.length:=by omega
    obtain⟨ax,rfl,hax,ha0,ha1⟩:=jJ.at_ (HTX.o _ HI1.o.below) hk1
    have htb:=HTXB.o xt[k] (List.getElem_mem hk1)
    have hbx:=HBX.o xt[k] (List.getElem_mem hk1)
    have hby:=HBY.o xt[k] (List.getElem_mem hk1)
    have HTS:=ja (jw xt k hk1)
    obtain⟨t,ht⟩:∃t,t=xt[k]:=⟨_,rfl⟩
    rw[<-ht] at htb HTS ha0 ha1
    clear ht hbx hby
    obtain⟨ct,rt⟩:=t
    dsimp only at ha0 ha1 htb
    have hct:-100000<=ct/\ct<=100000:=htb.1.2.2.2
    have hrt:1<=rt/\rt<=1000:=⟨htb.1.1,htb.1.2.1⟩
    clear htb
    have hca:(-100000<=ca/\ca<=100000)/\1<=ra/\ra<=1000:=⟨HCA.o.2.2.2,HCA.o.1,HCA.o.2.1⟩
    have hcb:=HCB.o
    have m1:=jE hct hca.1
    have m2:=jE m1 (b:=yd) (B:=100000) (by omega)
    have m3:=jE (a:=-ct) (A:=100000) (by omega) hcb.1
    have m4:=jE m3 (b:=yd) (B:=100000) (by omega)
    have m5:=jE (a:=rt) (b:=ra) (A:=1000) (B:=1000) (by omega) (by omega)
    have m6:=jE (a:=rt) (b:=rb) (A:=1000) (B:=1000) (by omega) (by omega)
    have v1:IntKind.i64.wrap (ct*ca)=ct*ca:=by rw[IntKind.wrap_i64];omega
    have v2:IntKind.i64.wrap (ct*ca*yd)=ct*ca*yd:=by rw[IntKind.wrap_i64];omega
    have v0:IntKind.i64.wrap (-ct)=-ct:=by rw[IntKind.wrap_i64];omega
    have v3:IntKind.i64.wrap (-ct*cb)=-ct*cb:=by rw[IntKind.wrap_i64];omega
    have v4:IntKind.i64.wrap (-ct*cb*yd)=-ct*cb*yd:=by rw[IntKind.wrap_i64];omega
    have v5:IntKind.i64.wrap (rt*ra)=rt*ra:=by rw[IntKind.wrap_i64];omega
    have v6:IntKind.i64.wrap (rt*rb)=rt*rb:=by rw[IntKind.wrap_i64];omega
    obtain⟨L,hL⟩:∃L,L=zr2 yd (ca,ra) (cb,rb) (xt.take k):=⟨_,rfl⟩
    have hlL:L.length<=6:=by rw[hL,jcm5];simp;omega
    have HSN:=ja (show zr2 yd (ca,ra) (cb,rb) (xt.take (k+1))=L++[(ct*ca*yd,rt*ra),(-ct*cb*yd,rt*rb)] by rw[HTS.o,jct9,<-hL])
    rw[<-hL] at HI1
    clear hL HTS
    obtain⟨Ao,co2,rfl⟩:=jx HI1.o.row
    obtain⟨W5,hW5⟩:∃W5,W5=wr.alloc (.cells #[.int .i64 ct,.int .i64 rt] 59):=⟨_,rfl⟩
    have hz5:W5.heap.size=wr.heap.size+1:=by rw[hW5];simp
    have HBU:=ja (show Below wr.heap.size wr (W5.alloc (.cells #[.int .i64 (ct*ca*yd),.int .i64 (rt*ra),.int .i64 (-ct*cb*yd),.int .i64 (rt*rb)] 59))from((hW5▸(Below.refl wr.heap.size wr).alloc (Nat.le_refl _) _:Below wr.heap.size wr W5)).alloc (by omega) _)
    have HROW:=ja (show(W5.alloc (.cells #[.int .i64 (ct*ca*yd),.int .i64 (rt*ra),.int .i64 (-ct*cb*yd),.int .i64 (rt*rb)] 59)).ownsRow _ _ _ _ _ _ from(hW5▸HI1.o.row.alloc _:W5.ownsRow _ _ _ _ _ _).alloc _)
    have HT5:Hid (jh W5 wr.heap.size 59 #[.int .i64 ct,.int .i64 rt]):=ja (by rw[hW5];exact jh.new wr _ _)
    have HX5:=ja (HI1.o.x.below (show Below wr.heap.size wr W5 from hW5▸(Below.refl wr.heap.size wr).alloc (Nat.le_refl _) _) (by omega))
    have HY5:=ja (HI1.o.y.below (show Below wr.heap.size wr W5 from hW5▸(Below.refl wr.heap.size wr).alloc (Nat.le_refl _) _) (by omega))
    have HA5:=ja (HI1.o.a.below (show Below wr.heap.size wr W5 from hW5▸(Below.refl wr.heap.size wr).alloc (Nat.le_refl _) _) (by omega))
    have HE5:=ja (HI1.o.b.below (show Below wr.heap.size wr W5 from hW5▸(Below.refl wr.heap.size wr).alloc (Nat.le_refl _) _) (by omega))
    go_upto_region 15 with fail
    rw[<-hW5]
    clear hW5 x0 x1 y0 y1 p0 p1 q0 q1 ha0 ha1
    obtain⟨t0,t1,_,_⟩:=HT5.o.two
    obtain⟨y0,y1,_,_⟩:=HY5.o.two
    obtain⟨p0,p1,_,_⟩:=HA5.o.two
    obtain⟨q0,q1,_,_⟩:=HE5.o.two
    have HCN:Hid (∀j u,[.int .i64 (ct*ca*yd),.int .i64 (rt*ra),.int .i64 (-ct*cb*yd),.int .i64 (rt*rb)][j]?=some u->(W5.alloc (.cells #[.int .i64 (ct*ca*yd),.int .i64 (rt*ra),.int .i64 (-ct*cb*yd),.int .i64 (rt*rb)] 59)).cell? ((⟨wr.heap.size+1,0,none⟩:Addr).add j)=some u):=ja (by
     have h:=jbk8 W5 (.int .i64 (ct*ca*yd)) (.int .i64 (rt*ra)) (.int .i64 (-ct*cb*yd)) (.int .i64 (rt*rb)) 59
     rw[hz5] at h
     exact h)
    go_wp2_with (first
     | (at_builtin;refine wpList_append_lies _ rfl _ _ 22 rfl (m+2) 59 i1 (.agg #[.int .i64 0,.int .i64 0]) 2 16 Tryz.underlying22 hi1 hy0 hy1 hy2 rfl (by decide) (.slice Ao L.length co2) L.length _ rfl HROW.o ⟨wr.heap.size+1,0,none⟩ 2 2 [.int .i64 (ct*ca*yd),.int .i64 (rt*ra),.int .i64 (-ct*cb*yd),.int .i64 (rt*rb)] rfl rfl HCN.o (by simp[Value.oneCell']) (by decide) (by unfold maxLen;omega) (by omega) (by show _<=(W5.alloc _).heap.size;rw[World.size_alloc];omega) (W5.heap.size+1) (by show(W5.alloc _).heap.size=_;rw[World.size_alloc]) ?_;intro g3 cap3 w3 ho3 hg3 hat3 hlt3;have HN:=ja (HI1.o.next HBU.o ho3 hg3 hlL);clear ho3 hg3 hat3 hlt3))
    exact⟨⟨k+1,by omega,by go_num,by rw[HSN.o];exact HN.o⟩,by simp[intOf];omega⟩
   ·obtain rfl:k=xt.length:=by omega
    rw[List.take_length] at HI1
    have hca:(-100000<=ca/\ca<=100000)/\1<=ra/\ra<=1000:=⟨HCA.o.2.2.2,HCA.o.1,HCA.o.2.1⟩
    have hcb:=HCB.o
    have m1:=jE hca.1 hca.1
    have m2:=jE m1 (b:=ra) (B:=1000) (by omega)
    have m3:=jE hcb.1 hcb.1
    have m4:=jE m3 (b:=rb) (B:=1000) (by omega)
    have m5:=jE (a:=xd) (A:=100000) (by omega) (b:=ca*ca*ra-cb*cb*rb) (B:=20000000000000) (by omega)
    have hnz:=HNZ.o
    have hne:xd*(ca*ca*ra-cb*cb*rb)≠0:=Int.mul_ne_zero (by omega) hnz
    have v1:IntKind.i64.wrap (ca*ca)=ca*ca:=by rw[IntKind.wrap_i64];omega
    have v2:IntKind.i64.wrap (ca*ca*ra)=ca*ca*ra:=by rw[IntKind.wrap_i64];omega
    have v3:IntKind.i64.wrap (cb*cb)=cb*cb:=by rw[IntKind.wrap_i64];omega
    have v4:IntKind.i64.wrap (cb*cb*rb)=cb*cb*rb:=by rw[IntKind.wrap_i64];omega
    have v5:IntKind.i64.wrap (ca*ca*ra-cb*cb*rb)=ca*ca*ra-cb*cb*rb:=by rw[IntKind.wrap_i64];omega
    have v6:IntKind.i64.wrap (xd*(ca*ca*ra-cb*cb*rb))=xd*(ca*ca*ra-cb*cb*rb):=by rw[IntKind.wrap_i64];omega
    have HALL:=ja (show ∀t∈zr2 yd (ca,ra) (cb,rb) xt,(0<=t.2/\t.2<=100000000000)/\-1000000000000000000<=t.1*((jo t.2.toNat).1:Int)/\t.1*((jo t.2.toNat).1:Int)<=1000000000000000000 from λt ht=>by
     unfold zr2 at ht
     obtain⟨u,hu,ht⟩:=List.mem_flatMap.1 ht
     simp only[List.mem_cons,List.not_mem_nil,or_false] at ht
     rcases ht with rfl|rfl
     ·exact HBX.o u hu
     ·exact HBY.o u hu)
    obtain⟨L2,hL2⟩:∃L2,L2=zr2 yd (ca,ra) (cb,rb) xt:=⟨_,rfl⟩
    have HEQ2:=ja HEQ.o
    try dsimp only at HEQ2
    rw[<-hL2] at HI1 HALL HEQ2
    clear hL2 HEQ
    have hl2:=HI1.o.len
    obtain⟨Ao,co2,rfl⟩:=jx HI1.o.row
    have HPP:=ja (jaf8 (xd*(ca*ca*ra-cb*cb*rb)) 1000000000000000000 Ao L2.length co2 wr.heap.size L2 wr (Rq.of (Rd.of_own HI1.o.row)) (Nat.le_refl _) hne (by omega) (by omega) (λt ht=>(HALL.o t ht).1) (by decide) (λt ht=>(HALL.o t ht).2) (by omega))
    rw[HEQ2.o] at HPP
    clear HEQ2 HALL HBX HBY HNZ hnz hne
    generalize jn7 xd xt yd [(ca,ra),(cb,rb)]=sv at *
    obtain⟨s1,s2,s3⟩:=sv
    go_wp2_with (first
     | (go_at_call 89;refine HPP.o.mono ?_;rintro e w5 ⟨A5,n5,c5,rfl,ho5,hb5⟩
        have hz5:=hb5.size
        have HR5:=ja (HI1.o.r.below hb5 (by omega));have HB5:=ja (HI1.o.below.trans (hb5.mono (by omega)));have HO5:=ja ho5
        obtain⟨r0,r1,rf0,rf1⟩:=HR5.o.two
        clear hb5 ho5))
    refine jq (p:=4) (u:=5) (ty:=24) rfl rfl ((HR5.o.set_ 0 _).set_ 1 _) Tryz.underlying24 rfl Tryz.sizeNumber rfl ?_
    unfold jV
    exact⟨A5,n5,c5,rfl,jO (ownsRow_setCell_below (ownsRow_setCell_below HO5.o (by show w.heap.size+2<_;omega) _) (by show w.heap.size+2<_;omega) _) (by omega),Below.setCell (Below.setCell HB5.o (p:=⟨w.heap.size+2,0,none⟩) (by show _<=w.heap.size+2;omega) _) (p:=⟨w.heap.size+2,1,none⟩) (by show _<=w.heap.size+2;omega) _⟩
 ·exact absurd (show 2<_+1+1+1 by omega) hl2
