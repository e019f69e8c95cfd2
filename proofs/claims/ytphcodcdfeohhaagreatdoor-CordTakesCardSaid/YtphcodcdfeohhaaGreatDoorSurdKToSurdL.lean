import Derived.Test.YtphcodcdfeohhaaGreatDoorSurdGToSurdM
set_option linter.unusedVariables false
set_option linter.unusedSimpArgs false
namespace Go.Proofs.YtphcodcdfeohhaaGreatDoor
set_option maxRecDepth 100000
set_option maxHeartbeats 4000000
open Go.RowKit
theorem jbg4 (xd:Int) (xA:Option Addr) (xn xc:Nat) (xt:List (Int×Int)) (yd:Int) (yA:Option Addr) (yn yc:Nat) (yt:List (Int×Int)) (B:Nat) (times:Int) (w:World) (hx:ja3 w B xA xn xc xt) (hy:ja3 w B yA yn yc yt) (hB:B<=w.heap.size) (ht:-1<=times/\times<=1) :
  Calls Tryz.prog 67 #[.agg #[.int .i64 xd,.slice xA xn xc],.agg #[.int .i64 yd,.slice yA yn yc],.int .i64 times] w (jg0 w (jc4 xd xt yd yt times)):=by
 have HV:=ja0 (zg5 xd xA xn xc xt yd yA yn yc yt B (((w.alloc (.cells #[.int .i64 xd,.slice xA xn xc] 24)).alloc (.cells #[.int .i64 yd,.slice yA yn yc] 24)).alloc (.cells #[.int .i64 0,.slice none 0 0] 24))
  (Rd.alloc (Rd.alloc (Rd.alloc hx hB _) (by simp;omega) _) (by simp;omega) _) (Rd.alloc (Rd.alloc (Rd.alloc hy hB _) (by simp;omega) _) (by simp;omega) _) (by simp;omega))
 have HX0:=ja0 ((Blk.new w 24 #[.int .i64 xd,.slice xA xn xc]).alloc (.cells #[.int .i64 yd,.slice yA yn yc] 24) |>.alloc (.cells #[.int .i64 0,.slice none 0 0] 24))
 have HY0:=ja0 ((Blk.new (w.alloc (.cells #[.int .i64 xd,.slice xA xn xc] 24)) 24 #[.int .i64 yd,.slice yA yn yc]).alloc (.cells #[.int .i64 0,.slice none 0 0] 24))
 have HR0:=ja0 (Blk.new ((w.alloc (.cells #[.int .i64 xd,.slice xA xn xc] 24)).alloc (.cells #[.int .i64 yd,.slice yA yn yc] 24)) 24 #[.int .i64 0,.slice none 0 0])
 have hxm:=ja3.nmax hx
 have hym:=ja3.nmax hy
 obtain rfl:=ja3.len hx
 obtain rfl:=ja3.len hy
 have HB0:=ja0 ((((Below.refl w.heap.size w).alloc (Nat.le_refl _) (.cells #[.int .i64 xd,.slice xA xt.length xc] 24)).alloc (by simp) (.cells #[.int .i64 yd,.slice yA yt.length yc] 24)).alloc (by simp;omega) (.cells #[.int .i64 0,.slice none 0 0] 24))
 have hsz:Hid (w.heap.size+3=(((w.alloc (.cells #[.int .i64 xd,.slice xA xt.length xc] 24)).alloc (.cells #[.int .i64 yd,.slice yA yt.length yc] 24)).alloc (.cells #[.int .i64 0,.slice none 0 0] 24)).heap.size):=ja0 (by simp)
 simp only[World.size_alloc] at HV HX0 HY0 HR0
 go_enter Tryz.func67,Tryz.ntmps67
 go_wp2_with fail
 refine HV.out.mono ?_
 rintro e w1 ⟨rfl,hb1⟩
 clear HV
 have HXT:=ja0 (ja3.below hx (HB0.out.mono hB))
 have HYT:=ja0 (ja3.below hy (HB0.out.mono hB))
 clear hx hy
 generalize ((w.alloc (.cells #[.int .i64 xd,.slice xA xt.length xc] 24)).alloc (.cells #[.int .i64 yd,.slice yA yt.length yc] 24)).alloc (.cells #[.int .i64 0,.slice none 0 0] 24)=w0 at *
 have hszb:=hb1.size
 have hsz:=hsz.out
 have hb1':Below w0.heap.size w0 w1:=by rw[<-hsz];exact hb1
 have HX1:=ja0 (HX0.out.below hb1' (by omega))
 have HY1:=ja0 (HY0.out.below hb1' (by omega))
 have HR1:=ja0 (HR0.out.below hb1' (by omega))
 have HXT1:=ja0 (ja3.below HXT.out (hb1'.mono (by omega)))
 have HYT1:=ja0 (ja3.below HYT.out (hb1'.mono (by omega)))
 have HB1:=ja0 (HB0.out.trans (hb1'.mono (by omega)))
 have hz1:w.heap.size+3<=w1.heap.size:=by omega
 clear hb1 hb1' HX0 HY0 HR0 HXT HYT HB0 hsz hszb
 have hpost:∀(W:World) (a:Act) (A:Option Addr) (n c:Nat) (x y:Int) (l:List (Int×Int)),jc4 xd xt yd yt times=(x,l,y)->W.ownsRow w.heap.size 59 2 (.slice A n c) n (ja9 l)->Below w.heap.size w W->Blk W (w.heap.size+1+1) 24 #[.int .i64 x,.slice A n c] ->
   a.tmps.getD 6 undef=.pointer (some ⟨w.heap.size+1+1,0,none⟩)->a.tmps.getD 7 undef=.int .i64 y->a.defers=[] ->
   bodyPost Tryz.prog Tryz.f67 (jg0 w (jc4 xd xt yd yt times)) .ret a W:=by
  intro W a A n c x y l e1 e2 e3 e4 e5 e6 e7
  refine jb8 (p:=6) (u:=7) (ty:=24) rfl e5 e4 Tryz.underlying24 rfl Tryz.sizeNumber e7 ?_
  rw[e1,e6]
  exact⟨A,n,c,rfl,e2,e3⟩
 have hr0:=HR1.out.cell 0
 have hr1:=HR1.out.cell 1
 have hrf0:=HR1.out.free 0
 have hrf1:=HR1.out.free 1
 simp at hr0 hr1
 cases hok:(ja7 xd xt&&ja7 yd yt)
 ·have HP:=ja0 (show jc4 xd xt yd yt times=(0,[],2) by unfold jc4;rw[hok];rfl)
  go_wp2
  exact hpost _ _ none 0 0 0 2 [] HP.out ⟨rfl,.inl ⟨rfl,rfl⟩⟩ (Below.setCell (Below.setCell HB1.out (by simp;omega) _) (by simp;omega) _) ((HR1.out.set_ 0 _).set_ 1 _) rfl rfl rfl
 ·have HP:=ja0 (show jc4 xd xt yd yt times=jf4 (jb0 (jb0 [] xt yd) yt (times*xd)) (xd*yd) by unfold jc4;rw[hok];rfl)
  rw[Bool.and_eq_true] at hok
  obtain⟨px1,px2,px3,px4⟩:=jb1 hok.1
  obtain⟨py1,py2,py3,py4⟩:=jb1 hok.2
  have PX:=ja0 px4;have PY:=ja0 py4
  clear px4 py4 hok
  have HM2:Hid (jg6 (w1.alloc (.map #[] 0)) w1.heap.size []):=ja0 (ja6.new w1)
  have HX2:=ja0 (HX1.out.alloc (.map #[] 0))
  have HY2:=ja0 (HY1.out.alloc (.map #[] 0))
  have HR2:=ja0 (HR1.out.alloc (.map #[] 0))
  have HXT2:=ja0 (Rd.alloc HXT1.out (by omega) (.map #[] 0))
  have HYT2:=ja0 (Rd.alloc HYT1.out (by omega) (.map #[] 0))
  have HB2:=ja0 (Below.alloc HB1.out (by omega) (.map #[] 0))
  have hx1:=HX2.out.cell 1
  simp at hx1
  clear hr0 hr1 hrf0 hrf1
  go_wp2_with (first
   | (refine jf1 _ rfl _ rfl ?_))
  go_loopw [23] (fun i W=>∃(k:Nat),k<=xt.length/\i=.int .i64 k/\jg6 W w1.heap.size (jb0 [] (xt.take k) yd)/\Blk W w.heap.size 24 #[.int .i64 xd,.slice xA xt.length xc]/\Blk W (w.heap.size+1) 24 #[.int .i64 yd,.slice yA yt.length yc] /\
   Blk W (w.heap.size+1+1) 24 #[.int .i64 0,.slice none 0 0]/\ja3 W B xA xt.length xc xt/\ja3 W B yA yt.length yc yt/\Below w.heap.size w W) (fun i _=>xt.length-(intOf i).toNat)
  case atStart=>exact⟨0,by omega,rfl,HM2.out,HX2.out,HY2.out,HR2.out,HXT2.out,HYT2.out,HB2.out⟩
  case round=>
   obtain⟨k,hk,rfl,a1,a2,a3,a4,a5,a6,a7⟩:=hrel
   have b1:=ja0 a1;have b2:=ja0 a2;have b3:=ja0 a3;have b4:=ja0 a4;have b5:=ja0 a5;have b6:=ja0 a6;have b7:=ja0 a7
   have hlm:=a1.lt
   clear a1 a2 a3 a4 a5 a6 a7
   by_cases hlt:k<xt.length
   ·have hy0:∀o,(wr.alloc o).cell? ⟨w.heap.size+1,0,none⟩=some (.int .i64 yd):=fun o=>(b3.out.alloc o).cell 0
    obtain⟨ad,rfl,hc0,hc1⟩:=b5.out.at_ hlt
    have hpt:=PX.out xt[k] (List.getElem_mem hlt)
    have hS:=ja0 (show jb0 [] (xt.take (k+1)) yd=addRoot (jb0 [] (xt.take k) yd) (xt[k].1*yd) xt[k].2 by rw[jc7 _ k hlt,zp2])
    have hbd:=jy1 (N:=10000000000) (m:=yd) (by omega) (xt.take k) [] 0 jg2.nil (fun t ht=>by
     have h1:=PX.out t (List.mem_of_mem_take ht)
     have h2:=zy2 (m:=yd) (N:=100000) h1.1 h1.2 (by omega)
     omega)
    have hll:((xt.take k).length:Int)<=4:=by simp;omega
    generalize xt[k]=t at *
    obtain⟨co,ro⟩:=t
    have htm:=zy2 (m:=yd) (N:=100000) hpt.1 hpt.2 (by omega)
    have hro:=hpt.1.2.1
    simp only at hro htm hc0 hc1 hS
    have hbd2:jg2 (jb0 [] (xt.take k) yd) 1000000000000:=hbd.mono (by omega)
    have HA:=ja0 (zt1 w1.heap.size (jb0 [] (xt.take k) yd) (co*yd) ro (wr.alloc (.cells #[.int .i64 co,.int .i64 ro] 59)) (ja6.alloc b1.out _) (by omega) (by rw[htm.2.2];omega) (fun r=>by have:=hbd2 r;omega))
    have hcy1:-9000000000000000000<=co*yd/\co*yd<=9000000000000000000:=by omega
    clear hpt hbd hll htm hbd2
    go_wp2_with (first
     | (go_at_call 63;refine HA.out.mono ?_;rintro e w3 ⟨rfl,hm3,hg3,hz3⟩;have HM3:=ja0 hm3;have HG3:=ja0 hg3;have HZ3:=ja0 hz3;clear hm3 hg3 hz3))
    have hw3:wr.heap.size+1<=w3.heap.size:=by have:=HG3.out.size;simpa using this
    have HAL:=ja0 (Below.alloc b7.out b7.out.size (.cells #[.int .i64 co,.int .i64 ro] 59))
    have hlm2:w.heap.size+3<=w1.heap.size:=hz1
    refine⟨⟨k+1,by omega,rfl,by rw[hS.out];exact HM3.out,(b2.out.alloc _).grown HG3.out (by simp;omega),(b3.out.alloc _).grown HG3.out (by simp;omega),(b4.out.alloc _).grown HG3.out (by simp;omega),
     Rd.grown (Rd.alloc b5.out (by omega) _) HG3.out (by simp;omega) (by simp;omega),Rd.grown (Rd.alloc b6.out (by omega) _) HG3.out (by simp;omega) (by simp;omega),HAL.out.grown HG3.out (by simp;omega) (by simp;omega)⟩,by simp[intOf];omega⟩
   ·obtain rfl:k=xt.length:=by omega
    rw[List.take_length] at b1
    have hbd:=jy1 (N:=10000000000) (m:=yd) (by omega) xt [] 0 jg2.nil (fun t ht=>by
     have h1:=PX.out t ht
     have h2:=zy2 (m:=yd) (N:=100000) h1.1 h1.2 (by omega)
     omega)
    have hbd2:jg2 (jb0 [] xt yd) 1000000000000:=hbd.mono (by omega)
    have hlen0:=jy2 xt [] yd
    simp only[List.length_nil,Nat.zero_add] at hlen0
    have HBD:=ja0 hbd2
    have hy1:=b3.out.cell 1
    simp at hy1
    clear hbd hbd2 HX1 HXT1 HX2 HXT2 PX HM2 HY2 HR2 HYT2 HB2 HY1 HR1 HYT1 hx1
    have hlm2:w.heap.size+3<=w1.heap.size:=hz1
    generalize jb0 [] xt yd=kv0 at *
    generalize hmm:w1.heap.size=m at *
    have hmm:=ja0 hmm
    clear HB1
    go_wp2
    go_loopw [40] (fun i W=>∃(k:Nat),k<=yt.length/\i=.int .i64 k/\jg6 W m (jb0 kv0 (yt.take k) (times*xd))/\Blk W w.heap.size 24 #[.int .i64 xd,.slice xA xt.length xc]/\Blk W (w.heap.size+1) 24 #[.int .i64 yd,.slice yA yt.length yc] /\
     Blk W (w.heap.size+1+1) 24 #[.int .i64 0,.slice none 0 0]/\ja3 W B yA yt.length yc yt/\Below w.heap.size w W) (fun i _=>yt.length-(intOf i).toNat)
    case atStart=>exact⟨0,by omega,rfl,b1.out,b2.out,b3.out,b4.out,b6.out,b7.out⟩
    case round=>
     clear b1 b2 b3 b4 b5 b6 b7 hlm
     obtain⟨k,hk,rfl,a1,a2,a3,a4,a6,a7⟩:=hrel
     have b1:=ja0 a1;have b2:=ja0 a2;have b3:=ja0 a3;have b4:=ja0 a4;have b6:=ja0 a6;have b7:=ja0 a7
     have hlm:=a1.lt
     clear a1 a2 a3 a4 a6 a7
     have htx:-100000<=times*xd/\times*xd<=100000:=jc0 (A:=1) (B:=100000) (by omega) (by omega)
     by_cases hlt:k<yt.length
     ·have hy0:∀o,(wr.alloc o).cell? ⟨w.heap.size,0,none⟩=some (.int .i64 xd):=fun o=>(b2.out.alloc o).cell 0
      obtain⟨ad,rfl,hc0,hc1⟩:=b6.out.at_ hlt
      have hpt:=PY.out yt[k] (List.getElem_mem hlt)
      have hS:=ja0 (show jb0 kv0 (yt.take (k+1)) (times*xd)=addRoot (jb0 kv0 (yt.take k) (times*xd)) (yt[k].1*(times*xd)) yt[k].2 by rw[jc7 _ k hlt,zp2])
      have hbd:=jy1 (N:=10000000000) (m:=times*xd) (by omega) (yt.take k) kv0 _ HBD.out (fun t ht=>by
       have h1:=PY.out t (List.mem_of_mem_take ht)
       have h2:=zy2 (m:=times*xd) (N:=100000) h1.1 h1.2 (by omega)
       omega)
      have hll:((yt.take k).length:Int)<=4:=by simp;omega
      generalize yt[k]=t at *
      obtain⟨co,ro⟩:=t
      have htm:=zy2 (m:=times*xd) (N:=100000) hpt.1 hpt.2 (by omega)
      have hro:=hpt.1.2.1
      have hco:=hpt.1.2.2.2
      simp only at hro htm hc0 hc1 hS hco
      have hbd2:jg2 (jb0 kv0 (yt.take k) (times*xd)) 2000000000000:=hbd.mono (by omega)
      have hcm:times*co*xd=co*(times*xd):=by rw[Int.mul_comm times co,Int.mul_assoc]
      have HA:=ja0 (zt1 m (jb0 kv0 (yt.take k) (times*xd)) (co*(times*xd)) ro (wr.alloc (.cells #[.int .i64 co,.int .i64 ro] 59)) (ja6.alloc b1.out _) (by omega) (by rw[htm.2.2];omega) (fun r=>by have:=hbd2 r;omega))
      have hcy1:-9000000000000000000<=times*co*xd/\times*co*xd<=9000000000000000000:=by omega
      have hcy2:-9000000000000000000<=times*co/\times*co<=9000000000000000000:=by have:=jc0 (A:=1) (B:=100000) (a:=times) (b:=co) (by omega) (by omega);omega
      clear hpt hbd hll htm hbd2 hco
      go_wp2_with (first
       | (go_at_call 63;refine HA.out.mono ?_;rintro e w3 ⟨rfl,hm3,hg3,hz3⟩;have HM3:=ja0 hm3;have HG3:=ja0 hg3;have HZ3:=ja0 hz3;clear hm3 hg3 hz3))
      have hw3:wr.heap.size+1<=w3.heap.size:=by have:=HG3.out.size;simpa using this
      have HAL:=ja0 (Below.alloc b7.out b7.out.size (.cells #[.int .i64 co,.int .i64 ro] 59))
      refine⟨⟨k+1,by omega,rfl,by rw[hS.out];exact HM3.out,(b2.out.alloc _).grown HG3.out (by simp;omega),(b3.out.alloc _).grown HG3.out (by simp;omega),(b4.out.alloc _).grown HG3.out (by simp;omega),
       Rd.grown (Rd.alloc b6.out (by omega) _) HG3.out (by simp;omega) (by simp;omega),HAL.out.grown HG3.out (by simp;omega) (by simp;omega)⟩,by simp[intOf];omega⟩
     ·obtain rfl:k=yt.length:=by omega
      rw[List.take_length] at b1
      have hbd:=jy1 (N:=10000000000) (m:=times*xd) (by omega) yt kv0 _ HBD.out (fun t ht=>by
       have h1:=PY.out t ht
       have h2:=zy2 (m:=times*xd) (N:=100000) h1.1 h1.2 (by omega)
       omega)
      have hbd2:jg2 (jb0 kv0 yt (times*xd)) 2000000000000:=hbd.mono (by omega)
      have hlen2:=jy2 yt kv0 (times*xd)
      have hx0:=b2.out.cell 0
      have hy0:=b3.out.cell 0
      simp at hx0 hy0
      have hdd:=jc0 (a:=xd) (b:=yd) (A:=100000) (B:=100000) (by omega) (by omega)
      have hd1:1<=xd*yd:=by
       have:(1:Int)*1<=xd*yd:=Int.mul_le_mul (by omega) (by omega) (by omega) (by omega)
       omega
      have HOV:=ja0 (zc5 m (jb0 kv0 yt (times*xd)) (xd*yd) 2000000000000 wr b1.out (by omega) (by omega) (by omega) hbd2 (by omega))
      clear hbd hbd2 hlen2
      generalize jb0 kv0 yt (times*xd)=kv1 at *
      generalize hsv:jf4 kv1 (xd*yd)=sv at *
      obtain⟨s1,s2,s3⟩:=sv
      have HSV:=ja0 hsv;clear hsv
      go_wp2_with (first
       | (go_at_call 64;refine HOV.out.mono ?_;rintro e w4 ⟨A4,n4,c4,rfl,ht4,hg4⟩;obtain⟨q1,q2,q3,q4⟩:=(b4.out.grown hg4 (by simp;omega)).two;have HG4:=ja0 hg4;have HT4:=ja0 ht4;clear hg4 ht4))
      have hw4:=HG4.out.size
      exact hpost _ _ A4 n4 c4 s1 s3 s2 HP.out (jc5 (ownsRow_setCell_below (ownsRow_setCell_below HT4.out (by show w.heap.size+1+1<_;omega) _) (by show w.heap.size+1+1<_;omega) _) (by have:=b7.out.size;omega))
       (Below.setCell (Below.setCell (b7.out.grown HG4.out (by have:=b7.out.size;omega) (by simp;omega)) (by show _<=w.heap.size+1+1;omega) _) (by show _<=w.heap.size+1+1;omega) _) (((b4.out.grown HG4.out (by simp;omega)).set_ 0 _).set_ 1 _) rfl rfl rfl
theorem jda6 (xd:Int) (xA:Option Addr) (xn xc:Nat) (xt:List (Int×Int)) (yd:Int) (yA:Option Addr) (yn yc:Nat) (yt:List (Int×Int)) (B:Nat) (w:World) (hx:ja3 w B xA xn xc xt) (hy:ja3 w B yA yn yc yt) (hB:B<=w.heap.size) :
  Calls Tryz.prog 77 #[.agg #[.int .i64 xd,.slice xA xn xc],.agg #[.int .i64 yd,.slice yA yn yc]] w (jg0 w (jc4 xd xt yd yt 1)):=by
 have HPL:=ja0 (jbg4 xd xA xn xc xt yd yA yn yc yt B 1 (((w.alloc (.cells #[.int .i64 xd,.slice xA xn xc] 24)).alloc (.cells #[.int .i64 yd,.slice yA yn yc] 24)).alloc (.cells #[.int .i64 0,.slice none 0 0] 24))
  (Rd.alloc (Rd.alloc (Rd.alloc hx hB _) (by simp;omega) _) (by simp;omega) _) (Rd.alloc (Rd.alloc (Rd.alloc hy hB _) (by simp;omega) _) (by simp;omega) _) (by simp;omega) (by omega))
 have HR0:=ja0 (Blk.new ((w.alloc (.cells #[.int .i64 xd,.slice xA xn xc] 24)).alloc (.cells #[.int .i64 yd,.slice yA yn yc] 24)) 24 #[.int .i64 0,.slice none 0 0])
 have HB0:=ja0 ((((Below.refl w.heap.size w).alloc (Nat.le_refl _) (.cells #[.int .i64 xd,.slice xA xn xc] 24)).alloc (by simp) (.cells #[.int .i64 yd,.slice yA yn yc] 24)).alloc (by simp;omega) (.cells #[.int .i64 0,.slice none 0 0] 24))
 have hsz:Hid (w.heap.size+3=(((w.alloc (.cells #[.int .i64 xd,.slice xA xn xc] 24)).alloc (.cells #[.int .i64 yd,.slice yA yn yc] 24)).alloc (.cells #[.int .i64 0,.slice none 0 0] 24)).heap.size):=ja0 (by simp)
 simp only[World.size_alloc] at HR0
 generalize jc4 xd xt yd yt 1=s at *
 go_enter Tryz.func77,Tryz.ntmps77
 go_wp2_with fail
 refine HPL.out.mono ?_
 rintro e w1 ⟨A,n,c,rfl,ho,hb⟩
 have hsz:=hsz.out
 obtain⟨q1,q2,q3,q4⟩:=(HR0.out.below hb (by omega)).two
 have HR1:=ja0 (HR0.out.below hb (by omega))
 have hz1:=hb.size
 have HB1:=ja0 (HB0.out.trans (hb.mono (by omega)))
 have HO:=ja0 ho
 clear HR0 HB0 HPL hb ho
 generalize ((w.alloc (.cells #[.int .i64 xd,.slice xA xn xc] 24)).alloc (.cells #[.int .i64 yd,.slice yA yn yc] 24)).alloc (.cells #[.int .i64 0,.slice none 0 0] 24)=w0 at *
 have hsz:=ja0 hsz
 go_wp2
 refine jb8 (p:=4) (u:=5) (ty:=24) rfl rfl ((HR1.out.set_ 0 _).set_ 1 _) Tryz.underlying24 rfl Tryz.sizeNumber rfl ?_
 have hsz:=hsz.out
 exact⟨A,n,c,rfl,jc5 (ownsRow_setCell_below (ownsRow_setCell_below HO.out (by show w.heap.size+1+1<_;omega) _) (by show w.heap.size+1+1<_;omega) _) (by omega),(HB1.out.setCell (by show _<=w.heap.size+1+1;omega) _).setCell (by show _<=w.heap.size+1+1;omega) _⟩
theorem zj7 (xd:Int) (xA:Option Addr) (xn xc:Nat) (xt:List (Int×Int)) (yd:Int) (yA:Option Addr) (yn yc:Nat) (yt:List (Int×Int)) (B:Nat) (w:World) (hx:ja3 w B xA xn xc xt) (hy:ja3 w B yA yn yc yt) (hB:B<=w.heap.size) :
  Calls Tryz.prog 28 #[.agg #[.int .i64 xd,.slice xA xn xc],.agg #[.int .i64 yd,.slice yA yn yc]] w (jg0 w (jc4 xd xt yd yt (-1))):=by
 have HPL:=ja0 (jbg4 xd xA xn xc xt yd yA yn yc yt B (-1) (((w.alloc (.cells #[.int .i64 xd,.slice xA xn xc] 24)).alloc (.cells #[.int .i64 yd,.slice yA yn yc] 24)).alloc (.cells #[.int .i64 0,.slice none 0 0] 24))
  (Rd.alloc (Rd.alloc (Rd.alloc hx hB _) (by simp;omega) _) (by simp;omega) _) (Rd.alloc (Rd.alloc (Rd.alloc hy hB _) (by simp;omega) _) (by simp;omega) _) (by simp;omega) (by omega))
 have HR0:=ja0 (Blk.new ((w.alloc (.cells #[.int .i64 xd,.slice xA xn xc] 24)).alloc (.cells #[.int .i64 yd,.slice yA yn yc] 24)) 24 #[.int .i64 0,.slice none 0 0])
 have HB0:=ja0 ((((Below.refl w.heap.size w).alloc (Nat.le_refl _) (.cells #[.int .i64 xd,.slice xA xn xc] 24)).alloc (by simp) (.cells #[.int .i64 yd,.slice yA yn yc] 24)).alloc (by simp;omega) (.cells #[.int .i64 0,.slice none 0 0] 24))
 have hsz:Hid (w.heap.size+3=(((w.alloc (.cells #[.int .i64 xd,.slice xA xn xc] 24)).alloc (.cells #[.int .i64 yd,.slice yA yn yc] 24)).alloc (.cells #[.int .i64 0,.slice none 0 0] 24)).heap.size):=ja0 (by simp)
 simp only[World.size_alloc] at HR0
 generalize jc4 xd xt yd yt (-1)=s at *
 go_enter Tryz.func28,Tryz.ntmps28
 go_wp2_with fail
 refine HPL.out.mono ?_
 rintro e w1 ⟨A,n,c,rfl,ho,hb⟩
 have hsz:=hsz.out
 obtain⟨q1,q2,q3,q4⟩:=(HR0.out.below hb (by omega)).two
 have HR1:=ja0 (HR0.out.below hb (by omega))
 have hz1:=hb.size
 have HB1:=ja0 (HB0.out.trans (hb.mono (by omega)))
 have HO:=ja0 ho
 clear HR0 HB0 HPL hb ho
 generalize ((w.alloc (.cells #[.int .i64 xd,.slice xA xn xc] 24)).alloc (.cells #[.int .i64 yd,.slice yA yn yc] 24)).alloc (.cells #[.int .i64 0,.slice none 0 0] 24)=w0 at *
 have hsz:=ja0 hsz
 go_wp2
 refine jb8 (p:=4) (u:=5) (ty:=24) rfl rfl ((HR1.out.set_ 0 _).set_ 1 _) Tryz.underlying24 rfl Tryz.sizeNumber rfl ?_
 have hsz:=hsz.out
 exact⟨A,n,c,rfl,jc5 (ownsRow_setCell_below (ownsRow_setCell_below HO.out (by show w.heap.size+1+1<_;omega) _) (by show w.heap.size+1+1<_;omega) _) (by omega),(HB1.out.setCell (by show _<=w.heap.size+1+1;omega) _).setCell (by show _<=w.heap.size+1+1;omega) _⟩
end Go.Proofs.YtphcodcdfeohhaaGreatDoor
