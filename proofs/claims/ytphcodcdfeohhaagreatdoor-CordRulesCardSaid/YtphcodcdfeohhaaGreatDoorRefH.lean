import Derived.Test.YtphcodcdfeohhaaGreatDoorRefGToRefF
set_option linter.all false
namespace Go.Proofs.YtphcodcdfeohhaaGreatDoor
set_option maxRecDepth 100000
set_option maxHeartbeats 16000000
open Go.RowKit
structure PlusI(w W:World)(xd:Int)(xA:Option Addr)(xn xc:Nat)(yd:Int)(yA:Option Addr)(yn yc:Nat)(o:Value)(L:List (Int×Int)):Prop where
 x:jh W w.heap.size 24 #[.int .i64 xd,.slice xA xn xc]
 y:jh W (w.heap.size+1) 24 #[.int .i64 yd,.slice yA yn yc]
 r:jh W (w.heap.size+2) 24 #[.int .i64 0,.slice none 0 0]
 row:W.ownsRow (w.heap.size+3) 59 2 o L.length (jr L)
 below:Below w.heap.size w W
 size:w.heap.size+3<=W.heap.size
 len:L.length<=8
theorem PlusI.next {w W w1 w3:World} {xd yd:Int} {xA yA:Option Addr} {xn xc yn yc:Nat} {o v:Value} {L:List (Int×Int)} {c r:Int} (h:PlusI w W xd xA xn xc yd yA yn yc o L) (hb:Below W.heap.size W w1)
  (hrow:w3.ownsRow (w.heap.size+3) 59 2 v (L.length+1) (jr L++[.int .i64 c,.int .i64 r])) (hg:w1.grownBy w3 o.ownBlock) (h8:L.length<8):PlusI w w3 xd xA xn xc yd yA yn yc v (L++[(c,r)]):=by
 have hb3:Below (w.heap.size+3) W w3:=(hb.mono h.size).grown hg (by have:=hb.size;have:=h.size;omega) (λj e=>(h.row.lt j e).1)
 refine⟨h.x.below hb3 (by omega),h.y.below hb3 (by omega),h.r.below hb3 (by omega),?_,h.below.trans (hb3.mono (by omega)),by have:=hb3.size;have:=h.size;omega,by simp;omega⟩
 rw[Zz,List.length_append,List.length_singleton]
 exact hrow
theorem zd1 (xd:Int) (xA:Option Addr) (xn xc:Nat) (xt:List (Int×Int)) (yd:Int) (yA:Option Addr) (yn yc:Nat) (yt:List (Int×Int)) (times:Int) (B:Nat) (w:World) (hx:jJ w B xA xn xc xt) (hy:jJ w B yA yn yc yt) (hB:B<=w.heap.size)
  (htm:-1<=times/\times<=1) :
  Calls Tryz.prog 57 #[.agg #[.int .i64 xd,.slice xA xn xc],.agg #[.int .i64 yd,.slice yA yn yc],.int .i64 times] w (jV w (jL xd xt yd yt times)):=by
 have hlx:=hx.len
 have hly:=hy.len
 subst hlx
 subst hly
 have hnx:=Rq.nmax hx
 have hny:=Rq.nmax hy
 obtain⟨i1,hi1,hy0,hy1,hy2⟩:=info_parts Tryz.infoTerm
 obtain⟨w0,hw0⟩:∃w0,w0=((w.alloc (.cells #[.int .i64 xd,.slice xA xt.length xc] 24)).alloc (.cells #[.int .i64 yd,.slice yA yt.length yc] 24)).alloc (.cells #[.int .i64 0,.slice none 0 0] 24):=⟨_,rfl⟩
 have hz0:w0.heap.size=w.heap.size+3:=by rw[hw0];simp
 have HX0:Hid (jh w0 w.heap.size 24 #[.int .i64 xd,.slice xA xt.length xc]):=ja (by rw[hw0];exact((jh.new w _ _).alloc _).alloc _)
 have HY0:Hid (jh w0 (w.heap.size+1) 24 #[.int .i64 yd,.slice yA yt.length yc]):=ja (by
  rw[hw0]
  have h:=(jh.new (w.alloc (.cells #[.int .i64 xd,.slice xA xt.length xc] 24)) 24 #[.int .i64 yd,.slice yA yt.length yc]).alloc (.cells #[.int .i64 0,.slice none 0 0] 24)
  rwa [World.size_alloc] at h)
 have HR0:Hid (jh w0 (w.heap.size+2) 24 #[.int .i64 0,.slice none 0 0]):=ja (by
  rw[hw0]
  have h:=jh.new ((w.alloc (.cells #[.int .i64 xd,.slice xA xt.length xc] 24)).alloc (.cells #[.int .i64 yd,.slice yA yt.length yc] 24)) 24 #[.int .i64 0,.slice none 0 0]
  rwa [World.size_alloc,World.size_alloc] at h)
 have HB0:Hid (Below w.heap.size w w0):=ja (by rw[hw0];exact(((Below.refl _ _).alloc (Nat.le_refl _) _).alloc (by simp) _).alloc (by simp;omega) _)
 have HTX:=ja (λW (hb:Below w.heap.size w W)=>Rq.below hx (hb.mono hB))
 have HTY:=ja (λW (hb:Below w.heap.size w W)=>Rq.below hy (hb.mono hB))
 have HNX:=ja (λW (hb:Below w.heap.size w W)=>QB xd xA xt.length xc B xt W (HTX.o W hb) (by have:=hb.size;omega))
 have HNY:=ja (λW (hb:Below w.heap.size w W)=>QB yd yA yt.length yc B yt W (HTY.o W hb) (by have:=hb.size;omega))
 have HPS:=ja (show jL xd xt yd yt times=if(js xd xt&&js yd yt)=true then jY (ju (ju [] xt yd) yt (times*xd)) (xd*yd)else(0,[],2)from rfl)
 clear hx hy
 cases hox:js xd xt
 ·rw[hox] at HNX
  have HV:=ja (HPS.o.trans (if_neg (by rw[hox];simp)))
  go_enter Tryz.func57,Tryz.ntmps57
  go_upto_region 1 with fail
  rw[<-hw0]
  clear hw0
  obtain⟨x0,x1,_,_⟩:=HX0.o.two
  obtain⟨y0,y1,_,_⟩:=HY0.o.two
  go_wp2_with (first
   | (go_at_call 39;refine(HNX.o _ HB0.o).mono ?_;rintro e w1 ⟨rfl,hb1⟩
      have HR1:=ja (HR0.o.below hb1 (by omega));have HB1:=ja (HB0.o.trans (hb1.mono (by omega)))
      obtain⟨r0,r1,rf0,rf1⟩:=HR1.o.two
      clear hb1))
  refine jq (p:=6) (u:=7) (ty:=24) rfl rfl ((HR1.o.set_ 0 _).set_ 1 _) Tryz.underlying24 rfl Tryz.sizeNumber rfl ?_
  unfold jV
  exact⟨none,0,0,by rw[HV.o];rfl,by rw[HV.o];exact World.ownsRow_nil _ _ _ _,Below.setCell (Below.setCell HB1.o (p:=⟨w.heap.size+2,0,none⟩) (by show _<=w.heap.size+2;omega) _) (p:=⟨w.heap.size+2,1,none⟩) (by show _<=w.heap.size+2;omega) _⟩
 rw[hox] at HNX
 cases hoy:js yd yt
 ·rw[hoy] at HNY
  have HV:=ja (HPS.o.trans (if_neg (by rw[hoy];simp)))
  go_enter Tryz.func57,Tryz.ntmps57
  go_upto_region 1 with fail
  rw[<-hw0]
  clear hw0
  obtain⟨x0,x1,_,_⟩:=HX0.o.two
  obtain⟨y0,y1,_,_⟩:=HY0.o.two
  go_wp2_with (first
   | (go_at_call 39;refine(HNX.o _ HB0.o).mono ?_;rintro e w1 ⟨rfl,hb1⟩
      have HY1:=ja (HY0.o.below hb1 (by omega));have HR1:=ja (HR0.o.below hb1 (by omega));have HB1:=ja (HB0.o.trans (hb1.mono (by omega)));have hz1:=hb1.size
      obtain⟨y0,y1,_,_⟩:=HY1.o.two
      clear hb1 HNX)
   | (go_at_call 39;refine(HNY.o _ HB1.o).mono ?_;rintro e w2 ⟨rfl,hb2⟩
      have HR2:=ja (HR1.o.below hb2 (by omega));have HB2:=ja (HB1.o.trans (hb2.mono (by omega)))
      obtain⟨r0,r1,rf0,rf1⟩:=HR2.o.two
      clear hb2))
  refine jq (p:=6) (u:=7) (ty:=24) rfl rfl ((HR2.o.set_ 0 _).set_ 1 _) Tryz.underlying24 rfl Tryz.sizeNumber rfl ?_
  unfold jV
  exact⟨none,0,0,by rw[HV.o];rfl,by rw[HV.o];exact World.ownsRow_nil _ _ _ _,Below.setCell (Below.setCell HB2.o (p:=⟨w.heap.size+2,0,none⟩) (by show _<=w.heap.size+2;omega) _) (p:=⟨w.heap.size+2,1,none⟩) (by show _<=w.heap.size+2;omega) _⟩
 rw[hoy] at HNY
 have HV:=ja (HPS.o.trans (if_pos (by rw[hox,hoy];rfl)))
 obtain⟨hx1,hx2,hx3,hx4⟩:=jz hox
 obtain⟨hy1',hy2',hy3,hy4⟩:=jz hoy
 have HTXB:=ja hx4
 have HTYB:=ja hy4
 clear hx4 hy4 hox hoy HPS
 go_enter Tryz.func57,Tryz.ntmps57
 go_upto_region 1 with fail
 rw[<-hw0]
 clear hw0
 obtain⟨x0,x1,_,_⟩:=HX0.o.two
 obtain⟨y0,y1,_,_⟩:=HY0.o.two
 go_wp2_with (first
  | (go_at_call 39;refine(HNX.o _ HB0.o).mono ?_;rintro e w1 ⟨rfl,hb1⟩
     have HX1:=ja (HX0.o.below hb1 (by omega));have HY1:=ja (HY0.o.below hb1 (by omega));have HR1:=ja (HR0.o.below hb1 (by omega));have HB1:=ja (HB0.o.trans (hb1.mono (by omega)));have hz1:=hb1.size
     obtain⟨y0,y1,_,_⟩:=HY1.o.two
     clear hb1 HNX)
  | (go_at_call 39;refine(HNY.o _ HB1.o).mono ?_;rintro e w2 ⟨rfl,hb2⟩
     have HX2:=ja (HX1.o.below hb2 (by omega));have HY2:=ja (HY1.o.below hb2 (by omega));have HR2:=ja (HR1.o.below hb2 (by omega));have HB2:=ja (HB1.o.trans (hb2.mono (by omega)));have hz2:=hb2.size
     clear hb2 HNY))
 have HI:Hid (PlusI w (w2.alloc (.cells #[] 59)) xd xA xt.length xc yd yA yt.length yc (.slice (some ⟨w2.heap.size,0,none⟩) 0 0) []):=ja
  ⟨HX2.o.alloc _,HY2.o.alloc _,HR2.o.alloc _,World.ownsRow_lit (base:=w.heap.size+3) (e:=59) (size:=2) w2 #[] 0 (by omega) (by unfold maxLen;omega) rfl,HB2.o.alloc (by omega) _,by simp;omega,by simp⟩
 clear HX2 HY2 HR2 HB2 HX1 HY1 HR1 HB1 HX0 HY0 HR0 HB0 x0 x1 y0 y1
 go_loopw [8,9] (λo i W=>∃k:Nat,k<=xt.length/\i=.int .i64 k/\PlusI w W xd xA xt.length xc yd yA yt.length yc o ((xt.take k).map (λt=>(t.1*yd,t.2)))) (λ_ i _=>xt.length-(intOf i).toNat)
 case atStart=>exact⟨0,by omega,rfl,by simpa using HI.o⟩
 case round=>
  obtain⟨k,hk,rfl,hI⟩:=hrel
  have HI1:=ja hI
  clear hI HI
  obtain⟨x0,x1,_,_⟩:=HI1.o.x.two
  obtain⟨y0,y1,_,_⟩:=HI1.o.y.two
  have hWz:=HI1.o.size
  by_cases hkl:(k:Int)<(xt.length:Int)
  ·have hk1:k<xt.length:=by omega
   obtain⟨ad,rfl,had,ha0,ha1⟩:=jJ.at_ (HTX.o _ HI1.o.below) hk1
   have htb:=HTXB.o xt[k] (List.getElem_mem hk1)
   have HTS:=ja (jw xt k hk1)
   generalize xt[k]=t at *
   obtain⟨co,ro⟩:=t
   dsimp only at ha0 ha1 htb
   have HTS:Hid (xt.take (k+1)=xt.take k++[(co,ro)]):=ja HTS.o
   have hcb:-100000<=co/\co<=100000:=htb.1.2.2.2
   have hmb:=jE hcb (b:=yd) (B:=100000) (by omega)
   have hmw:IntKind.i64.wrap (co*yd)=co*yd:=by rw[IntKind.wrap_i64];omega
   obtain⟨L,hL⟩:∃L,L=((xt.take k).map (λt=>(t.1*yd,t.2))):=⟨_,rfl⟩
   have hlL:L.length<8:=by rw[hL];simp;omega
   rw[<-hL] at HI1
   have HL:=ja hL
   clear hL
   have HROW:=ja (World.ownsRow.drew (HI1.o.row.alloc (.cells #[.int .i64 (co*yd),.int .i64 ro] 59)))
   obtain⟨Ao,co2,rfl⟩:=jx HI1.o.row
   obtain⟨W,hW⟩:∃W,W=wr:=⟨_,rfl⟩
   subst hW
   have hadB:ad.block<w.heap.size+3:=by omega
   have HBW:=ja ((Below.drew (Below.refl (w.heap.size+3) W)).alloc (by show _<=W.heap.size;omega) (.cells #[.int .i64 (co*yd),.int .i64 ro] 59))
   have HBU:=ja (Below.drew ((Below.refl W.heap.size W).alloc (Nat.le_refl _) (.cells #[.int .i64 (co*yd),.int .i64 ro] 59)))
   go_wp2
   refine jk (λw'=>Below (w.heap.size+3) W w') 18 (λ_=>True) 18 (λ_=>True) (by kernel_rfl) ⟨Below.drew (Below.refl _ _),λ_=>trivial,λ_=>trivial⟩ (λjb=>?_)
   revert jb
   refine jtq 0 ?_ ?_ ?_
   rotate_left 1
   focus(intro;go_simp;try with_reducible rfl)
   (try simp only[Act.put,lA,lB,lC])
   refine jtq 1 ?_ ?_ ?_
   rotate_left 1
   focus(intro;go_simp;try with_reducible rfl)
   (try simp only[Act.put,lA,lB,lC])
   refine jtk 2 ?_ ?_ ?_
   rotate_left 1
   focus(intro w' hSw;obtain⟨hC,hF,hG⟩:=hSw;clear hF;clear hG;have c1:=(hC.cell (p:=⟨w.heap.size,1,none⟩) (by show w.heap.size<_;omega)).trans x1;clear hC;go_simp;try with_reducible rfl)
   (try simp only[Act.put,lA,lB,lC])
   refine jtq 3 ?_ ?_ ?_
   rotate_left 1
   focus(intro;go_simp;try with_reducible rfl)
   (try simp only[Act.put,lA,lB,lC])
   refine jtq 4 ?_ ?_ ?_
   rotate_left 1
   focus(intro;go_simp;try with_reducible rfl)
   (try simp only[Act.put,lA,lB,lC])
   refine jtq 5 ?_ ?_ ?_
   rotate_left 1
   focus(intro;go_simp;try with_reducible rfl)
   (try simp only[Act.put,lA,lB,lC])
   refine jtk 6 ?_ ?_ ?_
   rotate_left 1
   focus(intro w' hSw;obtain⟨hC,hF,hG⟩:=hSw;clear hF;clear hG;have c2:=(hC.cell (p:=ad.add (k*2)) (by rw[jH];omega)).trans ha0;clear hC;go_simp;try with_reducible rfl)
   (try simp only[Act.put,lA,lB,lC])
   refine jtq 7 ?_ ?_ ?_
   rotate_left 1
   focus(intro;go_simp;try with_reducible rfl)
   (try simp only[Act.put,lA,lB,lC])
   refine jtk 8 ?_ ?_ ?_
   rotate_left 1
   focus(intro w' hSw;obtain⟨hC,hF,hG⟩:=hSw;clear hF;clear hG;have c1:=(hC.cell (p:=⟨w.heap.size+1,0,none⟩) (by show w.heap.size+1<_;omega)).trans y0;clear hC;go_simp;try with_reducible rfl)
   (try simp only[Act.put,lA,lB,lC])
   refine jtq 9 ?_ ?_ ?_
   rotate_left 1
   focus(intro;go_simp;try with_reducible rfl)
   (try simp only[Act.put,lA,lB,lC])
   refine jtq 10 ?_ ?_ ?_
   rotate_left 1
   focus(intro;go_simp;try with_reducible rfl)
   (try simp only[Act.put,lA,lB,lC])
   refine jtk 11 ?_ ?_ ?_
   rotate_left 1
   focus(intro w' hSw;obtain⟨hC,hF,hG⟩:=hSw;clear hF;clear hG;have c1:=(hC.cell (p:=⟨w.heap.size,1,none⟩) (by show w.heap.size<_;omega)).trans x1;clear hC;go_simp;try with_reducible rfl)
   (try simp only[Act.put,lA,lB,lC])
   refine jtq 12 ?_ ?_ ?_
   rotate_left 1
   focus(intro;go_simp;try with_reducible rfl)
   (try simp only[Act.put,lA,lB,lC])
   refine jtq 13 ?_ ?_ ?_
   rotate_left 1
   focus(intro;go_simp;try with_reducible rfl)
   (try simp only[Act.put,lA,lB,lC])
   refine jtq 14 ?_ ?_ ?_
   rotate_left 1
   focus(intro;go_simp;try with_reducible rfl)
   (try simp only[Act.put,lA,lB,lC])
   refine jtk 15 ?_ ?_ ?_
   rotate_left 1
   focus(intro w' hSw;obtain⟨hC,hF,hG⟩:=hSw;clear hF;clear hG;have c3:=(hC.cell (p:=⟨(ad.add (k*2)).block,(ad.add (k*2)).off+1,none⟩) (by show(ad.add (k*2)).block<_;rw[jH];omega)).trans ha1;clear hC;go_simp;try with_reducible rfl)
   (try simp only[Act.put,lA,lB,lC])
   refine jtq 16 ?_ ?_ ?_
   rotate_left 1
   focus(intro;go_simp;try with_reducible rfl)
   (try simp only[Act.put,lA,lB,lC])
   intro jb
   refine je 17 rfl (by decide +kernel) (λK hK=>?_)
   go_simp
   refine hK.out _ _ ⟨HBW.o,λ_=>trivial,λ_=>trivial⟩ (λjb=>?_)
   clear hK K
   (try simp only[Act.put,lA,lB,lC])
   refine je 18 rfl (by decide +kernel) (λK hK=>?_)
   refine step_append_lies _ rfl _ _ 22 rfl (w.heap.size+3) 59 i1 (.agg #[.int .i64 0,.int .i64 0]) 2 16 Tryz.underlying22 hi1 hy0 hy1 hy2 rfl (by decide) (.slice Ao L.length co2) L.length _ rfl HROW.o ⟨W.heap.size,0,none⟩ 1 1 [.int .i64 (co*yd),.int .i64 ro] rfl rfl (zx W _ _ _) (by simp[Value.oneCell']) (by decide) (by unfold maxLen;omega) (by omega) (by show _<=(W.alloc _).heap.size;rw[World.size_alloc];omega) (W.heap.size+1) (by show(W.alloc _).heap.size=_;rw[World.size_alloc]) ?_
   intro g3 cap3 w3 ho3 hg3 hat3 hlt3
   have HN:=ja (HI1.o.next HBU.o ho3 hg3 hlL)
   have HB3:=ja (HBW.o.grown hg3 (by show _<=(W.alloc _).heap.size;rw[World.size_alloc];omega) (λj e=>(HI1.o.row.lt j e).1))
   refine hK.out _ _ ⟨HB3.o,λh=>absurd h (by decide +kernel),λh=>absurd h (by decide +kernel)⟩ (λjb=>?_)
   clear hK K ho3 hg3 hat3 hlt3
   (try simp only[Act.put,lA,lB,lC])
   revert jb
   refine jtq 19 ?_ ?_ ?_
   rotate_left 1
   focus(intro;go_simp;try with_reducible rfl)
   (try simp only[Act.put,lA,lB,lC])
   intro jb
   refine jl (by decide +kernel) ?_
   clear jb
   go_wp2
   exact⟨⟨k+1,by omega,by go_num,by rw[HTS.o,List.map_append,<-HL.o];exact HN.o⟩,by simp[intOf];omega⟩
  ·obtain rfl:k=xt.length:=by omega
   rw[List.take_length] at HI1
   obtain⟨L1,hL1⟩:∃L1,L1=xt.map (λt=>(t.1*yd,t.2)):=⟨_,rfl⟩
   have hL1l:L1.length=xt.length:=by rw[hL1];simp
   rw[<-hL1] at HI1
   have HL1:=ja hL1
   clear hL1
   have HI:=ja HI1.o
   clear HI1
   go_wp2
   go_loopw [8,10] (λo i W=>∃k:Nat,k<=yt.length/\i=.int .i64 k/\PlusI w W xd xA xt.length xc yd yA yt.length yc o (L1++(yt.take k).map (λt=>(times*t.1*xd,t.2)))) (λ_ i _=>yt.length-(intOf i).toNat)
   case atStart=>exact⟨0,by omega,rfl,by simpa using HI.o⟩
   case round=>
    obtain⟨k,hk,rfl,hI⟩:=hrel
    have HI1:=ja hI
    clear hI HI
    obtain⟨x0,x1,_,_⟩:=HI1.o.x.two
    obtain⟨y0,y1,_,_⟩:=HI1.o.y.two
    have hWz:=HI1.o.size
    by_cases hkl:(k:Int)<(yt.length:Int)
    ·have hk1:k<yt.length:=by omega
     obtain⟨ad,rfl,had,ha0,ha1⟩:=jJ.at_ (HTY.o _ HI1.o.below) hk1
     have htb:=HTYB.o yt[k] (List.getElem_mem hk1)
     have HTS:=ja (jw yt k hk1)
     generalize yt[k]=t at *
     obtain⟨co,ro⟩:=t
     dsimp only at ha0 ha1 htb
     have HTS:Hid (yt.take (k+1)=yt.take k++[(co,ro)]):=ja HTS.o
     have hcb:-100000<=co/\co<=100000:=htb.1.2.2.2
     have hmb:=jE htm (b:=co) (B:=100000) hcb
     have hmb2:=jE hmb (b:=xd) (B:=100000) (by omega)
     have hmw:IntKind.i64.wrap (times*co)=times*co:=by rw[IntKind.wrap_i64];omega
     have hmw2:IntKind.i64.wrap (times*co*xd)=times*co*xd:=by rw[IntKind.wrap_i64];omega
     obtain⟨L,hL⟩:∃L,L=(L1++(yt.take k).map (λt=>(times*t.1*xd,t.2))):=⟨_,rfl⟩
     have hlL:L.length<8:=by rw[hL];simp;omega
     rw[<-hL] at HI1
     have HL:=ja hL
     clear hL
     have HROW:=ja (World.ownsRow.drew (HI1.o.row.alloc (.cells #[.int .i64 (times*co*xd),.int .i64 ro] 59)))
     obtain⟨Ao,co2,rfl⟩:=jx HI1.o.row
     obtain⟨W,hW⟩:∃W,W=wr:=⟨_,rfl⟩
     subst hW
     have hadB:ad.block<w.heap.size+3:=by omega
     have HBW:=ja ((Below.drew (Below.refl (w.heap.size+3) W)).alloc (by show _<=W.heap.size;omega) (.cells #[.int .i64 (times*co*xd),.int .i64 ro] 59))
     have HBU:=ja (Below.drew ((Below.refl W.heap.size W).alloc (Nat.le_refl _) (.cells #[.int .i64 (times*co*xd),.int .i64 ro] 59)))
     go_wp2
     refine jk (λw'=>Below (w.heap.size+3) W w') 20 (λ_=>True) 20 (λ_=>True) (by kernel_rfl) ⟨Below.drew (Below.refl _ _),λ_=>trivial,λ_=>trivial⟩ (λjb=>?_)
     revert jb
     refine jtq 0 ?_ ?_ ?_
     rotate_left 1
     focus(intro;go_simp;try with_reducible rfl)
     (try simp only[Act.put,lA,lB,lC])
     refine jtq 1 ?_ ?_ ?_
     rotate_left 1
     focus(intro;go_simp;try with_reducible rfl)
     (try simp only[Act.put,lA,lB,lC])
     refine jtq 2 ?_ ?_ ?_
     rotate_left 1
     focus(intro;go_simp;try with_reducible rfl)
     (try simp only[Act.put,lA,lB,lC])
     refine jtk 3 ?_ ?_ ?_
     rotate_left 1
     focus(intro w' hSw;obtain⟨hC,hF,hG⟩:=hSw;clear hF;clear hG;have c1:=(hC.cell (p:=⟨w.heap.size+1,1,none⟩) (by show w.heap.size+1<_;omega)).trans y1;clear hC;go_simp;try with_reducible rfl)
     (try simp only[Act.put,lA,lB,lC])
     refine jtq 4 ?_ ?_ ?_
     rotate_left 1
     focus(intro;go_simp;try with_reducible rfl)
     (try simp only[Act.put,lA,lB,lC])
     refine jtq 5 ?_ ?_ ?_
     rotate_left 1
     focus(intro;go_simp;try with_reducible rfl)
     (try simp only[Act.put,lA,lB,lC])
     refine jtq 6 ?_ ?_ ?_
     rotate_left 1
     focus(intro;go_simp;try with_reducible rfl)
     (try simp only[Act.put,lA,lB,lC])
     refine jtk 7 ?_ ?_ ?_
     rotate_left 1
     focus(intro w' hSw;obtain⟨hC,hF,hG⟩:=hSw;clear hF;clear hG;have c2:=(hC.cell (p:=ad.add (k*2)) (by rw[jH];omega)).trans ha0;clear hC;go_simp;try with_reducible rfl)
     (try simp only[Act.put,lA,lB,lC])
     refine jtq 8 ?_ ?_ ?_
     rotate_left 1
     focus(intro;go_simp;try with_reducible rfl)
     (try simp only[Act.put,lA,lB,lC])
     refine jtq 9 ?_ ?_ ?_
     rotate_left 1
     focus(intro;go_simp;try with_reducible rfl)
     (try simp only[Act.put,lA,lB,lC])
     refine jtk 10 ?_ ?_ ?_
     rotate_left 1
     focus(intro w' hSw;obtain⟨hC,hF,hG⟩:=hSw;clear hF;clear hG;have c1:=(hC.cell (p:=⟨w.heap.size,0,none⟩) (by show w.heap.size<_;omega)).trans x0;clear hC;go_simp;try with_reducible rfl)
     (try simp only[Act.put,lA,lB,lC])
     refine jtq 11 ?_ ?_ ?_
     rotate_left 1
     focus(intro;go_simp;try with_reducible rfl)
     (try simp only[Act.put,lA,lB,lC])
     refine jtq 12 ?_ ?_ ?_
     rotate_left 1
     focus(intro;go_simp;try with_reducible rfl)
     (try simp only[Act.put,lA,lB,lC])
     refine jtk 13 ?_ ?_ ?_
     rotate_left 1
     focus(intro w' hSw;obtain⟨hC,hF,hG⟩:=hSw;clear hF;clear hG;have c1:=(hC.cell (p:=⟨w.heap.size+1,1,none⟩) (by show w.heap.size+1<_;omega)).trans y1;clear hC;go_simp;try with_reducible rfl)
     (try simp only[Act.put,lA,lB,lC])
     refine jtq 14 ?_ ?_ ?_
     rotate_left 1
     focus(intro;go_simp;try with_reducible rfl)
     (try simp only[Act.put,lA,lB,lC])
     refine jtq 15 ?_ ?_ ?_
     rotate_left 1
     focus(intro;go_simp;try with_reducible rfl)
     (try simp only[Act.put,lA,lB,lC])
     refine jtq 16 ?_ ?_ ?_
     rotate_left 1
     focus(intro;go_simp;try with_reducible rfl)
     (try simp only[Act.put,lA,lB,lC])
     refine jtk 17 ?_ ?_ ?_
     rotate_left 1
     focus(intro w' hSw;obtain⟨hC,hF,hG⟩:=hSw;clear hF;clear hG;have c3:=(hC.cell (p:=⟨(ad.add (k*2)).block,(ad.add (k*2)).off+1,none⟩) (by show(ad.add (k*2)).block<_;rw[jH];omega)).trans ha1;clear hC;go_simp;try with_reducible rfl)
     (try simp only[Act.put,lA,lB,lC])
     refine jtq 18 ?_ ?_ ?_
     rotate_left 1
     focus(intro;go_simp;try with_reducible rfl)
     (try simp only[Act.put,lA,lB,lC])
     intro jb
     refine je 19 rfl (by decide +kernel) (λK hK=>?_)
     go_simp
     refine hK.out _ _ ⟨HBW.o,λ_=>trivial,λ_=>trivial⟩ (λjb=>?_)
     clear hK K
     (try simp only[Act.put,lA,lB,lC])
     refine je 20 rfl (by decide +kernel) (λK hK=>?_)
     refine step_append_lies _ rfl _ _ 22 rfl (w.heap.size+3) 59 i1 (.agg #[.int .i64 0,.int .i64 0]) 2 16 Tryz.underlying22 hi1 hy0 hy1 hy2 rfl (by decide) (.slice Ao L.length co2) L.length _ rfl HROW.o ⟨W.heap.size,0,none⟩ 1 1 [.int .i64 (times*co*xd),.int .i64 ro] rfl rfl (zx W _ _ _) (by simp[Value.oneCell']) (by decide) (by unfold maxLen;omega) (by omega) (by show _<=(W.alloc _).heap.size;rw[World.size_alloc];omega) (W.heap.size+1) (by show(W.alloc _).heap.size=_;rw[World.size_alloc]) ?_
     intro g3 cap3 w3 ho3 hg3 hat3 hlt3
     have HN:=ja (HI1.o.next HBU.o ho3 hg3 hlL)
     have HB3:=ja (HBW.o.grown hg3 (by show _<=(W.alloc _).heap.size;rw[World.size_alloc];omega) (λj e=>(HI1.o.row.lt j e).1))
     refine hK.out _ _ ⟨HB3.o,λh=>absurd h (by decide +kernel),λh=>absurd h (by decide +kernel)⟩ (λjb=>?_)
     clear hK K ho3 hg3 hat3 hlt3
     (try simp only[Act.put,lA,lB,lC])
     revert jb
     refine jtq 21 ?_ ?_ ?_
     rotate_left 1
     focus(intro;go_simp;try with_reducible rfl)
     (try simp only[Act.put,lA,lB,lC])
     intro jb
     refine jl (by decide +kernel) ?_
     clear jb
     go_wp2
     exact⟨⟨k+1,by omega,by go_num,by rw[HTS.o,List.map_append,<-List.append_assoc,<-HL.o];exact HN.o⟩,by simp[intOf];omega⟩
    ·obtain rfl:k=yt.length:=by omega
     rw[List.take_length] at HI1
     have hps:zm8 (xd*yd) (L1++yt.map (λt=>(times*t.1*xd,t.2)))=jL xd xt yd yt times:=by
      rw[HL1.o,jar9];exact HV.o.symm
     have hpos:0<xd*yd:=Int.mul_pos (by omega) (by omega)
     have hxy:=jE (a:=xd) (b:=yd) (A:=100000) (B:=100000) (by omega) (by omega)
     have hbd:∀(a:Int) (ro:Int) (s:Nat),s<=1->(-10000000000<=a/\a<=10000000000)->-10000000000<=a*(s:Int)/\a*(s:Int)<=10000000000:=λa ro s hs ha=>by
      rcases Nat.lt_or_ge 0 s with h|h
      ·obtain rfl:s=1:=by omega
       simpa using ha
      ·obtain rfl:s=0:=by omega
       simp
     have HALL:=ja (show ∀t∈L1++yt.map (λt=>(times*t.1*xd,t.2)),(0<=t.2/\t.2<=100000000000)/\-10000000000<=t.1*((jo t.2.toNat).1:Int)/\t.1*((jo t.2.toNat).1:Int)<=10000000000 from λt ht=>by
      rcases List.mem_append.1 ht with h|h
      ·rw[HL1.o] at h
       obtain⟨u,hu,rfl⟩:=List.mem_map.1 h
       obtain⟨⟨a1,a2,a3,a4⟩,a5⟩:=HTXB.o u hu
       have h1:=jE a4 (b:=yd) (B:=100000) (by omega)
       exact⟨by dsimp only;omega,hbd _ u.2 _ a5 (by dsimp only;omega)⟩
      ·obtain⟨u,hu,rfl⟩:=List.mem_map.1 h
       obtain⟨⟨a1,a2,a3,a4⟩,a5⟩:=HTYB.o u hu
       have h1:=jE (a:=times) (A:=1) (by omega) a4
       have h2:=jE h1 (b:=xd) (B:=100000) (by omega)
       exact⟨by dsimp only;omega,hbd _ u.2 _ a5 (by dsimp only;omega)⟩)
     obtain⟨L2,hL2⟩:∃L2,L2=L1++yt.map (λt=>(times*t.1*xd,t.2)):=⟨_,rfl⟩
     rw[<-hL2] at HI1 HALL hps
     clear hL2
     have hl2:=HI1.o.len
     obtain⟨Ao,co2,rfl⟩:=jx HI1.o.row
     have HPP:=ja (jaf8 (xd*yd) 10000000000 Ao L2.length co2 wr.heap.size L2 wr (Rq.of (Rd.of_own HI1.o.row)) (Nat.le_refl _) (by omega) (by omega) (by omega) (λt ht=>(HALL.o t ht).1) (by decide) (λt ht=>(HALL.o t ht).2) (by omega))
     rw[hps] at HPP
     clear hps hbd HALL HV HL1
     generalize jL xd xt yd yt times=sv at *
     obtain⟨s1,s2,s3⟩:=sv
     obtain⟨x0,x1,_,_⟩:=HI1.o.x.two
     obtain⟨y0,y1,_,_⟩:=HI1.o.y.two
     have hmw:IntKind.i64.wrap (xd*yd)=xd*yd:=by rw[IntKind.wrap_i64];omega
     go_wp2_with (first
      | (go_at_call 89;refine HPP.o.mono ?_;rintro e w5 ⟨A5,n5,c5,rfl,ho5,hb5⟩
         have hz5:=hb5.size
         have hsz:=HI1.o.size
         have HR5:=ja (HI1.o.r.below hb5 (by omega));have HB5:=ja (HI1.o.below.trans (hb5.mono (by omega)));have HO5:=ja ho5
         obtain⟨r0,r1,rf0,rf1⟩:=HR5.o.two
         clear hb5 ho5))
     refine jq (p:=6) (u:=7) (ty:=24) rfl rfl ((HR5.o.set_ 0 _).set_ 1 _) Tryz.underlying24 rfl Tryz.sizeNumber rfl ?_
     unfold jV
     exact⟨A5,n5,c5,rfl,jO (ownsRow_setCell_below (ownsRow_setCell_below HO5.o (by show w.heap.size+2<_;omega) _) (by show w.heap.size+2<_;omega) _) (by omega),Below.setCell (Below.setCell HB5.o (p:=⟨w.heap.size+2,0,none⟩) (by show _<=w.heap.size+2;omega) _) (p:=⟨w.heap.size+2,1,none⟩) (by show _<=w.heap.size+2;omega) _⟩
