import Derived.Test.YtphcodcdfeohhaaGreatDoorSurdGToSurdM
import Derived.Test.YtphcodcdfeohhaaGreatDoorIdxToSurdF
set_option linter.unusedVariables false
set_option linter.unusedSimpArgs false
namespace Go.Proofs.YtphcodcdfeohhaaGreatDoor
set_option maxRecDepth 100000
set_option maxHeartbeats 4000000
open Go.RowKit
def badT(t:Int×Int):Bool:=!(inB t.1 (-100000) 100000) || !(inB t.2 0 1000)
def zs5(den:Int)(ts:List (Int×Int)):Int×List (Int×Int)×Int:=
 if 16<ts.length then(0,[],5)
 else if inB den 1 100000=false\/ts.any badT=true then(0,[],2)
 else jf4 (jb0 [] ts 1) den
theorem jdj5(n:Nat)(h:n<=1000):(ja5 n).1<=1000:=by
 rcases Nat.eq_zero_or_pos n with rfl|hp
 ·decide +kernel
 ·have:=(zj6 n hp).1;omega
theorem jbp6{t:Int×Int}(h:badT t=false):(-100000<=t.1/\t.1<=100000)/\0<=t.2/\t.2<=1000:=by
 unfold badT at h
 rw[Bool.or_eq_false_iff] at h
 exact⟨by simpa [inB] using h.1,by simpa [inB] using h.2⟩
theorem jay0{t:Int×Int}(h:badT t=false):-100000000<=t.1*1*((ja5 t.2.toNat).1:Int)/\t.1*1*((ja5 t.2.toNat).1:Int)<=100000000:=by
 obtain⟨h1,h2,h3⟩:=jbp6 h
 have h4:=jdj5 t.2.toNat (by omega)
 rw[Int.mul_one]
 exact jc0 (A:=100000) (B:=1000) h1 (by omega)
theorem jcs9(c r:Int)(w:World):Calls Tryz.prog 62 #[.agg #[.int .i64 c,.int .i64 r]] w fun e w'=>e=.returned (.bool (badT (c,r)))/\Below w.heap.size w w':=by
 have HC:=ja0 (fun W=>jd0 c (-100000) 100000 W)
 have HR:=ja0 (fun W=>jd0 r 0 1000 W)
 have HB:=ja0 ((Below.refl w.heap.size w).alloc (Nat.le_refl _) (.cells #[.int .i64 c,.int .i64 r] 59))
 obtain⟨x0,x1,_,_⟩:=(Blk.new w 59 #[.int .i64 c,.int .i64 r]).two
 have HV:Hid (badT (c,r)=(!(inB c (-100000) 100000) || !(inB r 0 1000))):=ja0 rfl
 cases hc:inB c (-100000) 100000
 all_goals
  rw[hc] at HC HV
  cases hr:inB r 0 1000
  all_goals
   rw[hr] at HR HV
   go_enter Tryz.func62,Tryz.ntmps62
   go_wp2_with (first
    | (go_at_call_of 60 c;refine(HC.out _).mono ?_;rintro e w1 ⟨rfl,hw1⟩;subst w1)
    | (go_at_call_of 60 r;refine(HR.out _).mono ?_;rintro e w1 ⟨rfl,hw1⟩;subst w1))
   go_ret
   exact⟨by rw[HV.out];rfl,HB.out⟩
theorem jdf1 (den:Int) (A:Option Addr) (n c B:Nat) (ts:List (Int×Int)) (w:World) (hR:ja3 w B A n c ts) (hB:B<=w.heap.size) :
  Calls Tryz.prog 25 #[.int .i64 den,.slice A n c] w (jg0 w (zs5 den ts)):=by
 have hm:=hR.nmax
 obtain rfl:=hR.len
 obtain⟨w0,hw0⟩:∃w0,w0=w.alloc (.cells #[.int .i64 0,.slice none 0 0] 24):=⟨_,rfl⟩
 have hz0:w0.heap.size=w.heap.size+1:=by rw[hw0];simp
 have HX0:Hid (Blk w0 w.heap.size 24 #[.int .i64 0,.slice none 0 0]):=ja0 (by rw[hw0];exact Blk.new w _ _)
 have HB0:Hid (Below w.heap.size w w0):=ja0 (by rw[hw0];exact(Below.refl _ _).alloc (Nat.le_refl _) _)
 have HT0:Hid (ja3 w0 B A ts.length c ts):=ja0 (by rw[hw0];exact Rd.alloc hR hB _)
 obtain⟨res,hres⟩:∃res,zs5 den ts=res:=⟨_,rfl⟩
 rw[hres]
 have hpost:∀(W:World) (a:Act) (A':Option Addr) (n' c':Nat) (x y:Int) (l:List (Int×Int)),res=(x,l,y)->W.ownsRow w.heap.size 59 2 (.slice A' n' c') n' (ja9 l)->Below w.heap.size w W->Blk W w.heap.size 24 #[.int .i64 x,.slice A' n' c'] ->
   a.tmps.getD 4 undef=.pointer (some ⟨w.heap.size,0,none⟩)->a.tmps.getD 5 undef=.int .i64 y->a.defers=[]->bodyPost Tryz.prog Tryz.f25 (jg0 w res) .ret a W:=by
  intro W a A' n' c' x y l e1 e2 e3 e4 e5 e6 e7
  refine jb8 (p:=4) (u:=5) (ty:=24) rfl e5 e4 Tryz.underlying24 rfl Tryz.sizeNumber e7 ?_
  rw[e1,e6]
  exact⟨A',n',c',rfl,e2,e3⟩
 have HPOST:=ja0 hpost
 have HW:=ja0 (fun W=>jd0 den 1 100000 W)
 have HCF:=ja0 (zf6 encT A ts.length c B 62 #[] ts badT w0 HT0.out (by omega) (fun args w=>enters_of Tryz.func62 (by kernel_rfl) rfl args w) (fun W x hx hW=>jcs9 x.1 x.2 W))
 unfold zs5 at hres
 clear hR hpost
 obtain⟨r0,r1,rf0,rf1⟩:=HX0.out.two
 go_enter Tryz.func25,Tryz.ntmps25
 go_upto_region 1 with fail
 rw[<-hw0]
 clear hw0
 by_cases h16:16<(ts.length:Int)
 ·rw[if_pos (by omega)] at hres
  have HV:=ja0 hres.symm
  clear hres HCF HW
  go_wp2
  exact HPOST.out _ _ none 0 0 0 5 [] HV.out ⟨rfl,.inl ⟨rfl,rfl⟩⟩ (Below.setCell (Below.setCell HB0.out (p:=⟨w.heap.size,0,none⟩) (Nat.le_refl _) _) (p:=⟨w.heap.size,1,none⟩) (Nat.le_refl _) _) ((HX0.out.set_ 0 _).set_ 1 _) rfl rfl rfl
 rw[if_neg (by omega)] at hres
 cases hd:inB den 1 100000
 ·rw[if_pos (.inl hd)] at hres
  rw[hd] at HW
  have HV:=ja0 hres.symm
  clear hres HCF hd
  go_wp2_with (first
   | (go_at_call 60;refine(HW.out _).mono ?_;rintro e w1 ⟨rfl,hw1⟩;subst w1))
  exact HPOST.out _ _ none 0 0 0 2 [] HV.out ⟨rfl,.inl ⟨rfl,rfl⟩⟩ (Below.setCell (Below.setCell HB0.out (p:=⟨w.heap.size,0,none⟩) (Nat.le_refl _) _) (p:=⟨w.heap.size,1,none⟩) (Nat.le_refl _) _) ((HX0.out.set_ 0 _).set_ 1 _) rfl rfl rfl
 rw[hd] at HW
 have hdb:1<=den/\den<=100000:=by simpa [inB] using hd
 cases hb:ts.any badT
 case' true=>
  rw[if_pos (.inr hb)] at hres
  rw[hb] at HCF
  have HV:=ja0 hres.symm
  clear hres hd hb
  go_wp2_with (first
   | (go_at_call 60;refine(HW.out _).mono ?_;rintro e w1 ⟨rfl,hw1⟩;subst w1)
   | (go_at_call 61;refine HCF.out.mono ?_;rintro e w1 ⟨rfl,hb1⟩
      have HX1:=ja0 (HX0.out.below hb1 (by omega));have HB1:=ja0 (HB0.out.trans (hb1.mono (by omega)))
      obtain⟨r0,r1,rf0,rf1⟩:=HX1.out.two
      clear hb1))
  exact HPOST.out _ _ none 0 0 0 2 [] HV.out ⟨rfl,.inl ⟨rfl,rfl⟩⟩ (Below.setCell (Below.setCell HB1.out (p:=⟨w.heap.size,0,none⟩) (Nat.le_refl _) _) (p:=⟨w.heap.size,1,none⟩) (Nat.le_refl _) _) ((HX1.out.set_ 0 _).set_ 1 _) rfl rfl rfl
 rw[if_neg (by rintro(h|h);rw[hd] at h;cases h;rw[hb] at h;cases h)] at hres
 rw[hb] at HCF
 have HV:=ja0 hres.symm
 have PT:=ja0 (fun t (ht:t∈ts)=>(show badT t=false by
  have h:=List.any_eq_false.1 hb t ht
  simpa using h))
 clear hres hd hb
 go_upto_region 5 with(first
  | (go_at_call 60;refine(HW.out _).mono ?_;rintro e w1 ⟨rfl,hw1⟩;subst w1)
  | (go_at_call 61;refine HCF.out.mono ?_;rintro e w1 ⟨rfl,hb1⟩
     have HX1:=ja0 (HX0.out.below hb1 (by omega));have HB1:=ja0 (HB0.out.trans (hb1.mono (by omega)));have HT1:=ja0 (Rd.below HT0.out (hb1.mono (by omega)))
     have hz1:=hb1.size
     clear hb1))
 have HM2:Hid (jg6 (w1.alloc (.map #[] 0)) w1.heap.size []):=ja0 (ja6.new w1)
 have HX2:=ja0 (HX1.out.alloc (.map #[] 0))
 have HT2:=ja0 (Rd.alloc HT1.out (by omega) (.map #[] 0))
 have HB2:=ja0 (Below.alloc HB1.out (by omega) (.map #[] 0))
 clear r0 r1 rf0 rf1 HX0 HX1 HT0 HT1 HB0 HCF HW
 go_wp2_with (first
  | (refine jf1 _ rfl _ rfl ?_))
 go_loopw [26] (fun i W=>∃(k:Nat),k<=ts.length/\i=.int .i64 k/\jg6 W w1.heap.size (jb0 [] (ts.take k) 1)/\Blk W w.heap.size 24 #[.int .i64 0,.slice none 0 0]/\ja3 W B A ts.length c ts/\Below w.heap.size w W) (fun i _=>ts.length-(intOf i).toNat)
 case atStart=>exact⟨0,by omega,rfl,HM2.out,HX2.out,HT2.out,HB2.out⟩
 case round=>
  obtain⟨k,hk,rfl,a1,a2,a3,a4⟩:=hrel
  have b1:=ja0 a1;have b2:=ja0 a2;have b3:=ja0 a3;have b4:=ja0 a4
  have hlm:=a1.lt
  clear a1 a2 a3 a4 HM2 HX2 HT2 HB2
  by_cases hlt:k<ts.length
  ·obtain⟨ad,rfl,hc0,hc1⟩:=b3.out.at_ hlt
   have hpt:=PT.out ts[k] (List.getElem_mem hlt)
   have hS:=ja0 (show jb0 [] (ts.take (k+1)) 1=addRoot (jb0 [] (ts.take k) 1) (ts[k].1*1) ts[k].2 by rw[jc7 _ k hlt,zp2])
   have hbd:=jy1 (N:=100000000) (m:=1) (by omega) (ts.take k) [] 0 jg2.nil (fun t ht=>jay0 (PT.out t (List.mem_of_mem_take ht)))
   have hll:((ts.take k).length:Int)<=16:=by simp;omega
   generalize ts[k]=t at *
   obtain⟨co,ro⟩:=t
   have htm:=jay0 hpt
   obtain⟨hco,hro⟩:=jbp6 hpt
   rw[Int.mul_one] at hS htm
   simp only at hro hco htm hc0 hc1 hS
   have hbd2:jg2 (jb0 [] (ts.take k) 1) 2000000000:=hbd.mono (by omega)
   have HA:=ja0 (zt1 w1.heap.size (jb0 [] (ts.take k) 1) co ro (wr.alloc (.cells #[.int .i64 co,.int .i64 ro] 59)) (ja6.alloc b1.out _) (by omega) (by omega) (fun r=>by have:=hbd2 r;omega))
   clear hpt hbd hll htm hbd2
   go_wp2_with (first
    | (go_at_call 63;refine HA.out.mono ?_;rintro e w3 ⟨rfl,hm3,hg3,hz3⟩;have HM3:=ja0 hm3;have HG3:=ja0 hg3;have HZ3:=ja0 hz3;clear hm3 hg3 hz3))
   have hw3:wr.heap.size+1<=w3.heap.size:=by have:=HG3.out.size;simpa using this
   have HAL:=ja0 (Below.alloc b4.out b4.out.size (.cells #[.int .i64 co,.int .i64 ro] 59))
   refine⟨⟨k+1,by omega,rfl,by rw[hS.out];exact HM3.out,(b2.out.alloc _).grown HG3.out (by simp;omega),
    Rd.grown (Rd.alloc b3.out (by omega) _) HG3.out (by simp;omega) (by simp;omega),HAL.out.grown HG3.out (by simp;omega) (by simp;omega)⟩,by simp[intOf];omega⟩
  ·obtain rfl:k=ts.length:=by omega
   rw[List.take_length] at b1
   have hbd:=jy1 (N:=100000000) (m:=1) (by omega) ts [] 0 jg2.nil (fun t ht=>jay0 (PT.out t ht))
   have hbd2:jg2 (jb0 [] ts 1) 2000000000:=hbd.mono (by omega)
   have hlen2:=jy2 ts [] 1
   rw[List.length_nil,Nat.zero_add] at hlen2
   have HOV:=ja0 (zc5 w1.heap.size (jb0 [] ts 1) den 2000000000 wr b1.out (by omega) (by omega) (by omega) hbd2 (by omega))
   clear hbd hbd2 hlen2
   generalize jf4 (jb0 [] ts 1) den=sv at *
   obtain⟨s1,s2,s3⟩:=sv
   go_wp2_with (first
    | (go_at_call 64;refine HOV.out.mono ?_;rintro e w4 ⟨A4,n4,c4,rfl,ht4,hg4⟩;obtain⟨q1,q2,q3,q4⟩:=(b2.out.grown hg4 (by simp;omega)).two;have HG4:=ja0 hg4;have HT4:=ja0 ht4;clear hg4 ht4))
   have hw4:=HG4.out.size
   exact HPOST.out _ _ A4 n4 c4 s1 s3 s2 HV.out (jc5 (ownsRow_setCell_below (ownsRow_setCell_below HT4.out (by show w.heap.size<_;omega) _) (by show w.heap.size<_;omega) _) (by have:=b4.out.size;omega))
    (Below.setCell (Below.setCell (b4.out.grown HG4.out (by have:=b4.out.size;omega) (by simp;omega)) (p:=⟨w.heap.size,0,none⟩) (Nat.le_refl _) _) (p:=⟨w.heap.size,1,none⟩) (Nat.le_refl _) _) (((b2.out.grown HG4.out (by simp;omega)).set_ 0 _).set_ 1 _) rfl rfl rfl
end Go.Proofs.YtphcodcdfeohhaaGreatDoor
