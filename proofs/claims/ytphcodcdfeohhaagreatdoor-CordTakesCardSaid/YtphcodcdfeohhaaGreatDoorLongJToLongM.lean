import Derived.Test.YtphcodcdfeohhaaGreatDoorLongFToLongI
import Derived.Test.YtphcodcdfeohhaaGreatDoorRFToKVOps
import Derived.Stop.RegionWithIn
set_option linter.unusedVariables false
set_option linter.unusedSimpArgs false
namespace Go.Proofs.YtphcodcdfeohhaaGreatDoor
set_option maxRecDepth 100000
set_option maxHeartbeats 2000000
open Go.RowKit
attribute [local go_sem] Oper.semAt_some
def jj9 (ds:List Nat):Nat->List (Nat×Nat)
 | 0=>[]
 | k+1=>(k,ds.getD k 0)::jj9 ds k
def jdc0(x:Nat×Nat):Array Value:=#[.int .i64 (x.1:Int),.int .u32 (x.2:Int)]
theorem jf5.keepB{w w':World}{B n c:Nat}{A:Option Addr}{ds:List Nat}(h:jf5 w B A n c ds){R:Nat->Prop}(hk:KeepB R w w')(hR:∀ad,A=some ad->R ad.block):jf5 w' B A n c ds:=
 RdT.keep h fun ad ha=>hk.same _ (hR ad ha)
theorem jbs0(args:Array Value)(w:World):(callFunc 185 args).run Tryz.prog w=.ok (.enter 185 args) w:=enters_of Tryz.func185 (by kernel_rfl) rfl args w
theorem jcb1 (B1:Nat) (B:Nat) (A:Option Addr) (n c:Nat) (ds:List Nat) (w0:World) (h:jf5 w0 B A n c ds) (hB1:Box w0 B1 149 (.slice A n c)) :
  zy6 Tryz.prog 185 #[.pointer (some ⟨B1,0,none⟩)] jdc0 (fun ys=>ys=jj9 ds n) (fun pre=>∃rest,pre++rest=jj9 ds n) (fun b=>b=B1\/∃ad,A=some ad/\ad.block=b) 0 w0:=by
 intro l J Jx W hW hJ hJx hY h0
 have hm:=h.nmax
 have hl:=h.len
 have hBl:B1<w0.heap.size:=hB1.lt
 have HBX:=ja0 (hB1.below hW hBl)
 have HWD:=ja0 (RdT.below h hW (Nat.le_refl _))
 have hadl:=ja0 (fun ad (e:A=some ad)=>RdT.lt h e)
 have HW:=ja0 hW
 have HY:=ja0 hY
 have H0:=ja0 h0
 clear h hB1 hW hJ hJx hY h0
 subst hl
 refine callsIn_of_wp Tryz.func185 rfl trivial ?_
 simp only[Tryz.ntmps185,List.size_toArray,List.length_cons,List.length_nil,Nat.reduceAdd,Nat.reduceSub,Array.replicate_succ,Array.replicate_zero,List.push_toArray,List.append_toArray,List.nil_append,List.cons_append]
 have hcb:=HBX.out.cell
 gi_wp2
 gi_loopw [3] (fun i V=>∃(k:Nat) (pre:List (Nat×Nat)),k<=ds.length/\i=.int .i64 ((k:Int)-1)/\pre++jj9 ds k=jj9 ds ds.length/\J pre V/\Box V B1 149 (.slice A ds.length c)/\jf5 V B A ds.length c ds/\W.heap.size<=V.heap.size) (fun i _=>(intOf i+1).toNat)
 case atStart=>exact⟨ds.length,[],by omega,rfl,rfl,H0.out,HBX.out,HWD.out,Nat.le_refl _⟩
 case round=>
  obtain⟨k,pre,hk,rfl,hp,hJp,hbx,hwd,hsz⟩:=hrel
  have HP:=ja0 hp
  have HJp:=ja0 hJp
  have HBX2:=ja0 hbx
  have HWD2:=ja0 hwd
  clear hp hJp hbx hwd hcb
  rcases Nat.eq_zero_or_pos k with rfl|hpos
  ·gi_wp2
   go_end0
   have hp:=HP.out
   simp only[jj9,List.append_nil] at hp
   exact⟨⟨_,rfl⟩,.inl ⟨pre,hp,HJp.out⟩⟩
  ·obtain⟨j,rfl⟩:∃j,k=j+1:=⟨k-1,by omega⟩
   have hj:(((j+1:Nat):Int)-1)=(j:Int):=by omega
   rw[hj]
   have hlt:j<ds.length:=by omega
   have hlti:(j:Int)<(ds.length:Int):=by omega
   obtain⟨ad,rfl,hca⟩:=HWD2.out.at_ hlt
   have hcb:=HBX2.out.cell
   have hgd:ds[j]=ds.getD j 0:=by rw[List.getD_eq_getElem?_getD,List.getElem?_eq_getElem hlt];rfl
   rw[hgd] at hca
   have HP2:Hid ((pre++[(j,ds.getD j 0)])++jj9 ds j=jj9 ds ds.length):=ja0 (by rw[<-HP.out];simp[jj9])
   obtain⟨fn,tm,as_,bd,hy,hR⟩:=HY.out pre (j,ds.getD j 0) wr ⟨_,HP2.out⟩ HJp.out (by omega)
   have HR:=ja0 hR;clear hR hgd
   simp only[jdc0] at hy
   generalize ds.getD j 0=x at *
   gi_wp2
   refine⟨rfl,HR.out.mono ?_⟩
   rintro e V (⟨rfl,hJ',hk'⟩|⟨rfl,hJx',_⟩)
   ·have HJ':=ja0 hJ';clear hJ'
    have HK:=ja0 hk';clear hk'
    gi_wp2
    go_roundw
    case rel=>
     exact⟨j,pre++[(j,x)],by omega,rfl,HP2.out,HJ'.out,HBX2.out.of_block (HK.out.same _ (.inl (.inl rfl))),HWD2.out.keepB HK.out (fun ad' e=>.inl (.inr ⟨ad',e,rfl⟩)),by have:=HK.out.size;omega⟩
    case measure=>simp[intOf]
   ·have HJx':=ja0 hJx';clear hJx'
    gi_wp2
    refine bodyPost_ret (results_none rfl _ _ _) rfl ?_
    exact⟨⟨_,rfl⟩,.inr ⟨pre++[(j,x)],⟨_,HP2.out⟩,HJx'.out⟩⟩
attribute [local go_sem] Oper.semAt_some
theorem jbj5(A:Option Addr)(n c:Nat)(w:World):Calls Tryz.prog 162 #[.slice A n c] w fun e w'=>
  e=.returned (.func (.func 185) #[] #[.pointer (some ⟨w.heap.size,0,none⟩)])/\w'=w.alloc (.cells #[.slice A n c] 149):=by
 go_enter Tryz.func162,Tryz.ntmps162
 go_wp2
 go_ret
 exact⟨rfl,rfl⟩
theorem jcv4(A:Option Addr)(n c:Nat)(w:World):Calls Tryz.prog 145 #[.slice A n c] w fun e w'=>
  e=.returned (.func (.func 161) #[] #[.pointer (some ⟨w.heap.size,0,none⟩)])/\w'=w.alloc (.cells #[.slice A n c] 149):=by
 go_enter Tryz.func145,Tryz.ntmps145
 go_wp2
 go_ret
 exact⟨rfl,rfl⟩
def jj0 (x:Nat):Nat->List Nat
 | 0=>[]
 | j+1=>x/4 ^ j % 4::jj0 x j
def jf9(l:List (Nat×Nat)):List Nat:=l.flatMap fun p=>jj0 p.2 16
def encP(x:Nat):Array Value:=#[.int .u32 (x:Int)]
theorem jbz2(l:List (Nat×Nat))(p:Nat×Nat):jf9 (l++[p])=jf9 l++jj0 p.2 16:=by simp[jf9,List.flatMap_append]
theorem jbp5 {ds:List Nat} (h:jn0 ds):∀(k:Nat) (p:Nat×Nat),p∈jj9 ds k->p.2<4294967296
 | k+1,p,hp=>by
  rcases List.mem_cons.1 hp with rfl|hp
  ·exact zv3 h k
  ·exact jbp5 h k p hp
theorem jdh8(x j:Nat)(hx:x<4294967296):bits BinOp.and IntKind.u32 ((x:Int)/2 ^ (2*(j:Int)).toNat) 3=((x/4 ^ j % 4:Nat):Int):=by
 have e1:(2*(j:Int)).toNat=2*j:=by omega
 have h4:(2:Nat) ^ (2*j)=4 ^ j:=by rw[Nat.pow_mul]
 have h2:(2:Int) ^ (2*j)=((4 ^ j:Nat):Int):=by rw[<-h4,Int.natCast_pow];rfl
 have e2:(x:Int)/2 ^ (2*j)=((x/4 ^ j:Nat):Int):=by rw[h2,<-Int.natCast_ediv]
 have h5:x/4 ^ j<4294967296:=Nat.lt_of_le_of_lt (Nat.div_le_self _ _) hx
 rw[e1,e2]
 have h6:=Go.u32_and_nat (x/4 ^ j) 3 h5 (by decide)
 have h7:x/4 ^ j &&&3=x/4 ^ j % 4:=Nat.and_two_pow_sub_one_eq_mod (x/4 ^ j) 2
 rw[h7] at h6
 exact h6
theorem jba5{e:Ending}{p q:Prop}(h:(e=.returned (.bool true)/\p)\/(e=.returned (.bool false)/\q)):∃b:Bool,e=.returned (.bool b)/\(b=true->p)/\(b=false->q):=by
 rcases h with⟨rfl,h⟩|⟨rfl,h⟩
 ·exact⟨true,rfl,fun _=>h,by simp⟩
 ·exact⟨false,rfl,by simp,fun _=>h⟩
theorem jbk2(args:Array Value)(w:World):(callFunc 161 args).run Tryz.prog w=.ok (.enter 161 args) w:=enters_of Tryz.func161 (by kernel_rfl) rfl args w
theorem jbz3 (B1:Nat) (B:Nat) (A:Option Addr) (n c:Nat) (ds:List Nat) (w0:World) (h:jf5 w0 B A n c ds) (hB1:Box w0 B1 149 (.slice A n c)) (hok:jn0 ds) :
  zy6 Tryz.prog 161 #[.pointer (some ⟨B1,0,none⟩)] encP (fun ys=>ys=jf9 (jj9 ds n)) (fun pre=>∃rest,pre++rest=jf9 (jj9 ds n)) (fun b=>b=B1\/∃ad,A=some ad/\ad.block=b) 4 w0:=by
 intro l J Jx W hW hJ hJx hY h0
 have hm:=h.nmax
 have hl:=h.len
 have hBl:B1<w0.heap.size:=hB1.lt
 have HBX:=ja0 (hB1.below hW hBl)
 have HWD:=ja0 (RdT.below h hW (Nat.le_refl _))
 have hadl:=ja0 (fun ad (e:A=some ad)=>RdT.lt h e)
 have HW:=ja0 hW
 have HY:=ja0 hY
 have HJ:=ja0 hJ
 have HJx:=ja0 hJx
 have H0:=ja0 h0
 clear h hB1 hW hJ hJx hY h0
 subst hl
 have HBW:=ja0 (fun n=>(callsIn_wide (n:=n)).2 (jbj5 A ds.length c (W.alloc (.cells #[.func (.yield l) #[] #[]] 195))))
 refine callsIn_of_wp_marks Tryz.func161 rfl trivial ?_ rfl
 simp only[Tryz.ntmps161,List.size_toArray,List.length_cons,List.length_nil,Nat.reduceAdd,Nat.reduceSub,Array.replicate_succ,Array.replicate_zero,List.push_toArray,List.append_toArray,List.nil_append,List.cons_append]
 have hcb:∀o,(W.alloc o).cell? ⟨B1,0,none⟩=some (.slice A ds.length c):=fun o=>(HBX.out.alloc o).cell
 gi_wp2_with fail
 refine⟨trivial,rfl,CallsIn.mono (HBW.out _) ?_⟩
 rintro e w1 ⟨rfl,rfl⟩
 gi_wp2_with fail
 have HBG:=ja0 (jcb1 (W.heap.size+1) B A ds.length c ds ((W.alloc (.cells #[.func (.yield l) #[] #[]] 195)).alloc (.cells #[.slice A ds.length c] 149)) (RdT.alloc (RdT.alloc HWD.out _) _) (by have:=Box.new (W.alloc (.cells #[.func (.yield l) #[] #[]] 195)) 149 (.slice A ds.length c);simpa using this))
 refine zf3 (gf:=185) rfl jbs0 HBG.out (w0:=(W.alloc (.cells #[.func (.yield l) #[] #[]] 195)).alloc (.cells #[.slice A ds.length c] 149)) (Below.refl _ _) ?_ (fun _=>rfl)
  (fun pre V=>J (jf9 pre) V/\Box V W.heap.size 195 (.func (.yield l) #[] #[])/\W.heap.size+2<=V.heap.size) (fun cd pre V=>cd=.ret/\∃pr,(∃rest,pr++rest=jf9 (jj9 ds ds.length))/\Jx pr V) ?_ ?_ ?_ ?_ ?_ ?_
 ·rintro b (rfl|⟨ad,e,rfl⟩)
  ·simp
  ·have h1:=hadl.out ad e;have h2:=HW.out.size;simp;omega
 ·rintro s V V' row ⟨h1,h2,h3⟩ hg hr
  simp only[World.size_alloc] at hr
  refine⟨HJ.out _ _ _ _ h1 hg (fun b e=>by have:=hr b e;omega),h2.grown hg (fun e=>by have:=hr _ e;omega),Nat.le_trans h3 hg.size⟩
 ·rintro cd s V V' row ⟨h1,pr,h2,h3⟩ hg hr
  simp only[World.size_alloc] at hr
  exact⟨h1,pr,h2,HJx.out _ _ _ _ h3 hg (fun b e=>by have:=hr b e;omega)⟩
 ·refine⟨HJ.out _ _ _ none (HJ.out _ _ _ none H0.out (World.grownBy_alloc _ _ _) (by simp)) (World.grownBy_alloc _ _ _) (by simp),(Box.new W _ _).alloc _,by simp⟩
 ·rintro pre x V hsp ⟨hj,hbx,hvz⟩ hsz
  simp only[World.size_alloc] at hsz ⊢
  have HJp:=ja0 hj
  have HBXV:=ja0 hbx
  have HSP:=ja0 hsp
  clear hj hbx hsp
  obtain⟨xi,xw⟩:=x
  simp only[jdc0]
  gi_wp2
  refine⟨KeepB.refl _ _,?_⟩
  intro V2 hg2 hzz
  have HJ2:=ja0 (HJ.out _ _ _ _ HJp.out hg2 (fun b e=>by cases e;omega))
  have HB2:=ja0 (HBXV.out.grown hg2 (by simp;omega))
  have hz2:W.heap.size+4<=V2.heap.size:=by omega
  clear HJp HBXV hg2 hzz hcb
  gi_wp2
  gi_loopw [5] (fun i U=>∃(k:Nat) (out:List Nat),k<=16/\i=.int .i64 (2*(k:Int)-2)/\out++jj0 xw k=jj0 xw 16/\J (jf9 pre++out) U/\Box U W.heap.size 195 (.func (.yield l) #[] #[]) /\
   KeepB (fun b=>(b=W.heap.size+1\/∃ad,A=some ad/\ad.block=b)\/(W.heap.size+1+1<=b/\b<W.heap.size+1+1+2+0)) V2 U) (fun i _=>(intOf i+2).toNat)
  case atStart=>exact⟨16,[],by omega,rfl,rfl,by simpa using HJ2.out,HB2.out,KeepB.refl _ _⟩
  case round=>
   obtain⟨k,out,hk,rfl,ho,hj,hbx,hkp⟩:=hrel
   have HO:=ja0 ho
   have HJU:=ja0 hj
   have HBU:=ja0 hbx
   have HKU:=ja0 hkp
   have hkz:=hkp.size
   clear ho hj hbx hkp HJ2 HB2
   rcases Nat.eq_zero_or_pos k with rfl|hpos
   ·gi_wp2
    refine⟨HKU.out,?_,HBU.out,by omega⟩
    have h1:out++jj0 xw 0=jj0 xw 16:=HO.out
    rw[show jj0 xw 0=[] from rfl,List.append_nil] at h1
    rw[jbz2,<-h1]
    exact HJU.out
   ·obtain⟨j,rfl⟩:∃j,k=j+1:=⟨k-1,by omega⟩
    have hj2:(2*((j+1:Nat):Int)-2)=(2*j:Int):=by omega
    rw[hj2]
    obtain⟨rest,hrest⟩:=HSP.out
    have hsp':∃rest,((jf9 pre++out)++[xw/4 ^ j % 4])++rest=jf9 (jj9 ds ds.length):=by
     refine⟨jj0 xw j++jf9 rest,?_⟩
     have h1:out++(xw/4 ^ j % 4::jj0 xw j)=jj0 xw 16:=HO.out
     rw[<-hrest]
     simp only[jf9,List.flatMap_append,List.flatMap_cons,List.flatMap_nil,List.append_nil]
     rw[<-h1]
     simp
    obtain⟨fn,tm,as_,bd,hy,hR⟩:=HY.out (jf9 pre++out) (xw/4 ^ j % 4) wr.drew hsp' (HJ.out _ _ _ none HJU.out (jar4 (jbk5 _ _)) (by simp)) (by show _<=wr.heap.size;omega)
    have HR:=ja0 hR;clear hR
    simp only[encP] at hy
    have hcb:=HBU.out.cell
    have hxw:xw<4294967296:=jbp5 hok ds.length (xi,xw) (by rw[<-hrest];simp)
    have hbits:=jdh8 xw j hxw
    have HO2:Hid ((out++[xw/4 ^ j % 4])++jj0 xw j=jj0 xw 16):=ja0 (by
     have h1:out++(xw/4 ^ j % 4::jj0 xw j)=jj0 xw 16:=HO.out
     rw[<-h1];simp)
    have hsp2:=ja0 hsp'
    clear HO hsp' hrest
    generalize xw/4 ^ j % 4=p at *
    gi_wp2
    gi_region_with (first
     | (refine⟨rfl,HR.out.mono ?_⟩
        rintro e V3 hV3
        obtain⟨bb,rfl,hT,hF⟩:=jba5 hV3))
    all_goals
     have hbx3:bb=true->Box V3 W.heap.size 195 (.func (.yield l) #[] #[]):=fun e=>HBU.out.of_block ((hT e).2.same _ (.inr (by omega)))
     have HT:=ja0 hT;have HF:=ja0 hF;have HBX3:=ja0 hbx3
     clear hT hF hbx3
     have hkeep:∀(K:KeepB (fun b=>(b=B1\/∃ad,A=some ad/\ad.block=b)\/W.heap.size<=b/\b<W.heap.size+4) wr.drew V3),KeepB (fun b=>(b=W.heap.size+1\/∃ad,A=some ad/\ad.block=b)\/(W.heap.size+1+1<=b/\b<W.heap.size+1+1+2+0)) V2 V3:=fun K=>
      (HKU.out.drewN 1).trans (K.mono (by rintro b ((h|h)|h);exact .inr (by omega);exact .inl (.inr h);exact .inr (by omega)))
     have hkeep:=ja0 hkeep
     cases bb
     ·gi_wp2
      have h:=HF.out (by first|rfl|trivial)
      exact⟨hkeep.out h.2,rfl,_,hsp2.out,h.1⟩
     ·gi_wp2
      go_roundw
      case rel=>
       have h:=HT.out (by first|rfl|trivial)
       exact⟨j,out++[p],by omega,by go_num,HO2.out,by rw[<-List.append_assoc];exact h.1,HBX3.out (by first|rfl|trivial),hkeep.out h.2⟩
      case measure=>simp[intOf];omega
 ·rintro xs V hS ⟨hj,hbx,hvz⟩ hD
  simp only[World.size_alloc] at hD
  have HJp:=ja0 hj
  have HD:=ja0 hD
  clear hj hD hbx
  simp only[World.size_alloc]
  gi_wp2
  refine⟨by simp,.inl ⟨_,_,rfl,run_takeDeferred HD.out,?_⟩⟩
  refine⟨_,results_none rfl _ _ _,⟨_,rfl⟩,.inl ⟨_,by rw[<-hS],HJ.out _ _ _ _ HJp.out (jd7 _ _) (fun b e=>by cases e;omega)⟩⟩
 ·rintro cd pre V hsp ⟨rfl,pr,hpr,hjx⟩ hD
  simp only[World.size_alloc] at hD
  have HJp:=ja0 hjx
  have HD:=ja0 hD
  clear hjx hD
  simp only[World.size_alloc]
  gi_wp2
  refine⟨by simp,.inl ⟨_,_,rfl,run_takeDeferred HD.out,?_⟩⟩
  exact⟨_,results_none rfl _ _ _,⟨_,rfl⟩,.inr ⟨pr,hpr,HJx.out _ _ _ _ HJp.out (jd7 _ _) (fun b e=>by cases e;omega)⟩⟩
attribute [local go_sem] Oper.semAt_some
def jm1(v R T:Nat):Prop:=R*R+T=v/\T<=2*R
theorem jbh3{v R T d:Nat}(h:jm1 v R T)(hd:d<4):jm1 (4*v+d) (jam9 R T d) (jan0 R T d):=by
 obtain⟨h1,h2⟩:=h
 unfold jm1 jam9 jan0
 by_cases hc:R*4+1<=T*4+d
 ·rw[if_pos hc,if_pos hc]
  have e:(R*2+1)*(R*2+1)=4*(R*R)+4*R+1:=by
   rw[Nat.mul_add,Nat.add_mul,Nat.mul_one,Nat.one_mul]
   have:R*2*(R*2)=4*(R*R):=by rw[Nat.mul_mul_mul_comm,Nat.mul_comm (R*R)]
   omega
  omega
 ·rw[if_neg hc,if_neg hc]
  have e:(R*2)*(R*2)=4*(R*R):=by rw[Nat.mul_mul_mul_comm,Nat.mul_comm (R*R)]
  omega
def jbf4(s:Nat×Nat)(d:Nat):Nat×Nat:=(jam9 s.1 s.2 d,jan0 s.1 s.2 d)
def zh2(l:List Nat):Nat×Nat:=l.foldl jbf4 (0,0)
theorem jbz5(l:List Nat)(d:Nat):zh2 (l++[d])=jbf4 (zh2 l) d:=by simp[zh2,List.foldl_append]
def valP(v:Nat)(l:List Nat):Nat:=l.foldl (fun p d=>4*p+d) v
theorem jbh2:∀(l:List Nat) (v:Nat) (s:Nat×Nat),jm1 v s.1 s.2->(∀d∈l,d<4)->jm1 (valP v l) (l.foldl jbf4 s).1 (l.foldl jbf4 s).2
 | [],v,s,h,_=>h
 | d::l,v,s,h,hl=>jbh2 l (4*v+d) (jbf4 s d) (jbh3 h (hl d (by simp))) (fun x hx=>hl x (List.mem_cons_of_mem _ hx))
theorem jbg2:∀(x k d:Nat),d∈jj0 x k->d<4
 | x,k+1,d,h=>by
  rcases List.mem_cons.1 h with rfl|h
  ·omega
  ·exact jbg2 x k d h
theorem jay9:∀(x k v:Nat),valP v (jj0 x k)=v*4 ^ k+x % 4 ^ k
 | x,0,v=>by simp[jj0,valP,Nat.mod_one]
 | x,k+1,v=>by
  have h:=jay9 x k (4*v+x/4 ^ k % 4)
  have h1:valP v (jj0 x (k+1))=valP (4*v+x/4 ^ k % 4) (jj0 x k):=rfl
  rw[h1,h,Nat.pow_succ,Nat.add_mul,Nat.mod_mul,Nat.mul_comm (4 ^ k) (x/4 ^ k % 4),Nat.mul_assoc 4 v,Nat.mul_comm 4,Nat.mul_assoc v]
  omega
theorem jca6(v:Nat)(a b:List Nat):valP v (a++b)=valP (valP v a) b:=by simp[valP,List.foldl_append]
theorem jay8 (ds:List Nat) (hok:jn0 ds):∀(k v:Nat),k<=ds.length->valP v (jf9 (jj9 ds k))=v*4294967296 ^ k+jb4 (ds.take k)
 | 0,v,_=>by simp[jj9,jf9,valP,jb4]
 | k+1,v,hk=>by
  have h1:jf9 (jj9 ds (k+1))=jj0 (ds.getD k 0) 16++jf9 (jj9 ds k):=by simp[jf9,jj9]
  have h3:(4:Nat) ^ 16=4294967296:=by decide
  have h2:=jay9 (ds.getD k 0) 16 v
  rw[h3,Nat.mod_eq_of_lt (zv3 hok k)] at h2
  rw[h1,jca6,h2,jay8 ds hok k _ (by omega),jp4,Nat.pow_succ,Nat.add_mul,Nat.mul_assoc v,Nat.mul_comm 4294967296 (4294967296 ^ k),Nat.mul_comm (ds.getD k 0)]
  omega
theorem jay7:∀(ds:List Nat) (k:Nat),(jf9 (jj9 ds k)).length=16*k
 | ds,0=>rfl
 | ds,k+1=>by
  have h1:jf9 (jj9 ds (k+1))=jj0 (ds.getD k 0) 16++jf9 (jj9 ds k):=by simp[jf9,jj9]
  have h2:∀x j,(jj0 x j).length=j:=by
   intro x j
   induction j with
   | zero=>rfl
   | succ j ih=>simp[jj0,ih]
  rw[h1,List.length_append,h2,jay7 ds k];omega
theorem jbg1(ds:List Nat)(k d:Nat)(h:d∈jf9 (jj9 ds k)):d<4:=by
 simp only[jf9,List.mem_flatMap] at h
 obtain⟨p,_,hd⟩:=h
 exact jbg2 _ _ _ hd
theorem jaz5(v:Nat):jm1 v (zh2 (jf9 (jj9 (dig v) (dig v).length))).1 (zh2 (jf9 (jj9 (dig v) (dig v).length))).2:=by
 have h:=jbh2 (jf9 (jj9 (dig v) (dig v).length)) 0 (0,0) ⟨rfl,Nat.le_refl _⟩ (fun d hd=>jbg1 _ _ _ hd)
 rw[jay8 _ (zc0 v) _ _ (Nat.le_refl _),List.take_length,jt4] at h
 simpa [zh2] using h
attribute [local go_sem] Oper.semAt_some
theorem jd4.row{w w':World}{F r R T L:Nat}(h:jd4 w F r R T L){row:Option Nat}(hg:w.grownBy w' row)(hr:∀b,row=some b->b≠r/\b<F):jd4 w' F r R T L:=by
 obtain⟨A,n,c,A2,n2,c2,h1,h2,h3,h4,h5,h6,h7⟩:=h
 exact⟨A,n,c,A2,n2,c2,h1.grown hg (fun e=>(hr _ e).1 rfl),h2.grown hg (fun ad ha e=>by have:=(hr _ e.symm).2;have:=h6 ad ha;omega),h3.grown hg (fun ad ha e=>by have:=(hr _ e.symm).2;have:=h7 ad ha;omega),h4,h5,h6,h7⟩
theorem jd4.less{w:World}{F F' r R T L L':Nat}(h:jd4 w F r R T L)(hF:F'<=F)(hL:L<=L'):jd4 w F' r R T L':=by
 obtain⟨A,n,c,A2,n2,c2,h1,h2,h3,h4,h5,h6,h7⟩:=h
 exact⟨A,n,c,A2,n2,c2,h1,h2,h3,by omega,by omega,fun ad ha=>Nat.le_trans hF (h6 ad ha),fun ad ha=>Nat.le_trans hF (h7 ad ha)⟩
theorem jcz1 (coef n:Int) (w:World) (hc:-4000000000000000000<=coef/\coef<=4000000000000000000) (hn:0<=n/\n<=4000000000000000000) :
  Calls Tryz.prog 113 #[.int .i64 coef,.int .i64 n] w fun e w'=>∃r R T,e=.returned (.pointer (some ⟨r,0,none⟩))/\w.heap.size<=r/\jd4 w' w.heap.size r R T 96/\jm1 (coef.natAbs*coef.natAbs*n.toNat) R T/\Below w.heap.size w w':=by
 obtain⟨m,rfl⟩:=Int.eq_ofNat_of_zero_le hn.1
 obtain⟨ca,hca⟩:∃ca,ca=coef.natAbs:=⟨_,rfl⟩
 have hmx:max coef (-coef)=(ca:Int):=by omega
 have hcab:ca<=4000000000000000000:=by omega
 rw[<-hca,Int.toNat_natCast]
 clear hca
 have HPR:=ja0 (fun n W=>(callsIn_wide (n:=n)).2 (jbm8 ca ca m W (by omega) (by omega) (by omega)))
 refine(callsIn_wide (n:=0)).1 ?_
 refine callsIn_of_wp_marks Tryz.func113 rfl trivial ?_ rfl
 simp only[Tryz.ntmps113,List.size_toArray,List.length_cons,List.length_nil,Nat.reduceAdd,Nat.reduceSub,Array.replicate_succ,Array.replicate_zero,List.push_toArray,List.append_toArray,List.nil_append,List.cons_append]
 have HPA:=ja0 (fun n A k c W=>(callsIn_wide (n:=n)).2 (jcv4 A k c W))
 have HBX:=ja0 ((Box.new (w.alloc (.cells #[.slice none 0 0,.slice none 0 0] 154)) 146 (.pointer (some ⟨w.heap.size,0,none⟩))))
 have HRT:=ja0 ((Blk.new w 154 #[.slice none 0 0,.slice none 0 0]).alloc (.cells #[.pointer (some ⟨w.heap.size,0,none⟩)] 146))
 have HB0:=ja0 (((Below.refl w.heap.size w).alloc (Nat.le_refl _) (.cells #[.slice none 0 0,.slice none 0 0] 154)).alloc (by simp) (.cells #[.pointer (some ⟨w.heap.size,0,none⟩)] 146))
 gi_wp2_with fail
 refine⟨trivial,rfl,CallsIn.mono (HPR.out _ _) ?_⟩
 rintro e w1 ⟨A,n1,c1,rfl,hw1,hn1,hb1⟩
 simp only[World.size_alloc] at hb1 HBX
 have hz1:=hb1.size
 simp only[World.size_alloc] at hz1
 have HBX1:=ja0 (HBX.out.below hb1 (by omega))
 have HRT1:=ja0 (HRT.out.below hb1 (by omega))
 have HB1:=ja0 (HB0.out.trans (hb1.mono (by omega)))
 have HW1:=ja0 hw1
 clear HBX HRT HB0 hb1 hw1 HPR
 gi_wp2_with fail
 refine⟨trivial,rfl,CallsIn.mono (HPA.out _ _ _ _ _) ?_⟩
 rintro e w2 ⟨rfl,rfl⟩
 have HBX2:=ja0 (HBX1.out.alloc (.cells #[.slice A n1 c1] 149))
 have HRT2:=ja0 (HRT1.out.alloc (.cells #[.slice A n1 c1] 149))
 have HB2:=ja0 (HB1.out.alloc HB1.out.size (.cells #[.slice A n1 c1] 149))
 have hl:=jf5.len HW1.out
 have hane:=ja0 (fun ad (e:A=some ad)=>LW.ne HW1.out HRT1.out (by decide) e)
 have HG:=ja0 (jbz3 w1.heap.size _ A n1 c1 (dig (ca*ca*m)) (w1.alloc (.cells #[.slice A n1 c1] 149)) (RdT.alloc HW1.out _) (Box.new w1 _ _) (zc0 _))
 have hval:=ja0 (jaz5 (ca*ca*m))
 have hpl:=jay7 (dig (ca*ca*m)) n1
 have hplt:=ja0 (jbg1 (dig (ca*ca*m)) n1)
 rw[hl] at hval
 generalize jf9 (jj9 (dig (ca*ca*m)) n1)=ps at *
 have hadl:=ja0 (fun ad (e:A=some ad)=>RdT.lt HW1.out e)
 gi_wp2_with fail
 refine zf3 (gf:=161) rfl jbk2 HG.out (w0:=w1.alloc (.cells #[.slice A n1 c1] 149)) (Below.refl _ _) ?_ (fun _=>rfl)
  (fun pre V=>jd4 V (w1.heap.size+7) w.heap.size (zh2 pre).1 (zh2 pre).2 pre.length/\Box V (w.heap.size+1) 146 (.pointer (some ⟨w.heap.size,0,none⟩))/\Below w.heap.size w V) (fun _ _ _=>False) ?_ ?_ ?_ ?_ ?_ ?_
 ·rintro b (rfl|⟨ad,e,rfl⟩)
  ·simp
  ·have h1:=hadl.out ad e;simp;omega
 ·rintro s V V' row ⟨h1,h2,h3⟩ hg hr
  simp only[World.size_alloc] at hr
  exact⟨h1.row hg (fun b e=>by have:=hr b e;omega),h2.grown hg (fun e=>by have:=hr _ e;omega),h3.grown hg h3.size (fun j e=>by have:=hr j e;omega)⟩
 ·rintro _ _ _ _ _ h;exact h.elim
 ·exact⟨⟨none,0,0,none,0,0,HRT2.out,LW.nil_ _,LW.nil_ _,Nat.le_refl _,Nat.le_refl _,by simp,by simp⟩,HBX2.out,HB2.out⟩
 ·rintro pre x V hsp ⟨hrt,hbx,hbl⟩ hsz
  simp only[World.size_alloc] at hsz ⊢
  obtain⟨rest,hrest⟩:=hsp
  have hx4:x<4:=hplt.out x (by rw[<-hrest];simp)
  have hpl2:pre.length+1<=96:=by
   have:=congrArg List.length hrest
   simp at this
   omega
  clear hrest
  have HRTV:=ja0 hrt
  have HBXV:=ja0 hbx
  have HBV:=ja0 hbl
  clear hrt hbx hbl
  simp only[encP]
  gi_wp2
  refine⟨KeepB.refl _ _,?_⟩
  intro V2 hg2 hzz
  have HRT3:=ja0 (HRTV.out.row hg2 (fun b e=>by cases e;omega))
  have HBX3:=ja0 (HBXV.out.grown hg2 (by simp;omega))
  have HB3:=ja0 (HBV.out.grown hg2 HBV.out.size (fun j e=>by cases e;omega))
  have hz3:w1.heap.size+7<=V2.heap.size:=by omega
  clear HRTV HBXV HBV hg2 hzz
  have hcb:=HBX3.out.cell
  have HNX:=ja0 (fun n=>(callsIn_wide (n:=n)).2 (jby5 (w1.heap.size+7) w.heap.size _ _ _ x V2 HRT3.out (by omega) (by omega) hx4))
  gi_wp2_with fail
  refine⟨trivial,rfl,CallsIn.mono (CallsIn.inRound _ (HNX.out _)) ?_⟩
  rintro e V3 ⟨rfl,hr3,hg3⟩
  have HR3:=ja0 hr3
  have HG3:=ja0 hg3
  clear hr3 hg3 HNX hcb
  gi_wp2
  refine⟨KeepB.of_grown HG3.out ?_ ?_,?_,HBX3.out.grown HG3.out (by simp),HB3.out.grown HG3.out HB3.out.size (fun j e=>by cases e;exact Nat.le_refl _)⟩
  ·rintro b ((rfl|⟨ad,e,rfl⟩)|h)
   ·omega
   ·have:=hadl.out ad e;omega
   ·omega
  ·rintro b hb' ((rfl|⟨ad,e,rfl⟩)|h)
   ·injection hb' with hb';omega
   ·injection hb' with hb';exact hane.out ad e hb'.symm
   ·injection hb' with hb';omega
  ·rw[jbz5,List.length_append]
   exact HR3.out
 ·rintro xs V rfl ⟨hrt,hbx,hbl⟩ hD
  simp only[World.size_alloc] at hD
  have HR:=ja0 hrt
  have HB:=ja0 hbl
  have HD:=ja0 hD
  have hcb:=hbx.cell
  clear hrt hbx hbl hD
  simp only[World.size_alloc]
  gi_wp2
  refine⟨by simp,.inl ⟨_,_,rfl,run_takeDeferred HD.out,?_⟩⟩
  refine⟨_,results_tmp rfl _ _ _,w.heap.size,_,_,rfl,Nat.le_refl _,(HR.out.row (jd7 _ _) (fun b e=>by cases e;omega)).less (by omega) (by omega),hval.out,HB.out.grown (jd7 _ _) HB.out.size (fun j e=>by cases e;omega)⟩
 ·rintro _ _ _ _ h;exact h.elim
end Go.Proofs.YtphcodcdfeohhaaGreatDoor
