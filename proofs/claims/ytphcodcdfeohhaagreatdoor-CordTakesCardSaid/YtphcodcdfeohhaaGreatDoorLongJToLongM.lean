import Derived.Test.YtphcodcdfeohhaaGreatDoorLongFToLongI
import Derived.Stop.RegionWithIn
set_option linter.all false
namespace Go.Proofs.YtphcodcdfeohhaaGreatDoor
set_option maxRecDepth 100000
set_option maxHeartbeats 2000000
open Go.RowKit
attribute [local go_sem] Oper.semAt_some
def zX (ds:List Nat):Nat->List (Nat×Nat)
 | 0=>[]
 | k+1=>(k,ds.getD k 0)::zX ds k
def jby7(x:Nat×Nat):Array Value:=#[.int .i64 (x.1:Int),.int .u32 (x.2:Int)]
theorem zg.keepB{w w':World}{B n c:Nat}{A:Option Addr}{ds:List Nat}(h:zg w B A n c ds){R:Nat->Prop}(hk:KeepB R w w')(hR:∀ad,A=some ad->R ad.block):zg w' B A n c ds:=
 JJ.keep h λad ha=>hk.same _ (hR ad ha)
theorem jak4(args:Array Value)(w:World):(callFunc 185 args).run Tryz.prog w=.ok (.enter 185 args) w:=enters_of Tryz.func185 (by kernel_rfl) rfl args w
theorem jay0 (B1:Nat) (B:Nat) (A:Option Addr) (n c:Nat) (ds:List Nat) (w0:World) (h:zg w0 B A n c ds) (hB1:ZG w0 B1 149 (.slice A n c)) :
  jk6 Tryz.prog 185 #[.pointer (some ⟨B1,0,none⟩)] jby7 (λys=>ys=zX ds n) (λpre=>∃rest,pre++rest=zX ds n) (λb=>b=B1\/∃ad,A=some ad/\ad.block=b) 0 w0:=by
 intro l J Jx W hW hJ hJx hY h0
 have hm:=h.nmax
 have hl:=h.len
 have hBl:B1<w0.heap.size:=hB1.lt
 have HBX:=ja (hB1.below hW hBl)
 have HWD:=ja (JJ.below h hW (Nat.le_refl _))
 have hadl:=ja (λad (e:A=some ad)=>JJ.lt h e)
 have HW:=ja hW
 have HY:=ja hY
 have H0:=ja h0
 clear h hB1 hW hJ hJx hY h0
 subst hl
 refine callsIn_of_wp Tryz.func185 rfl trivial ?_
 simp only[Tryz.ntmps185,List.size_toArray,List.length_cons,List.length_nil,Nat.reduceAdd,Nat.reduceSub,Array.replicate_succ,Array.replicate_zero,List.push_toArray,List.append_toArray,List.nil_append,List.cons_append]
 have hcb:=HBX.o.cell
 gi_wp2
 gi_loopw [3] (λi V=>∃(k:Nat) (pre:List (Nat×Nat)),k<=ds.length/\i=.int .i64 ((k:Int)-1)/\pre++zX ds k=zX ds ds.length/\J pre V/\ZG V B1 149 (.slice A ds.length c)/\zg V B A ds.length c ds/\W.heap.size<=V.heap.size) (λi _=>(intOf i+1).toNat)
 case atStart=>exact⟨ds.length,[],by omega,rfl,rfl,H0.o,HBX.o,HWD.o,Nat.le_refl _⟩
 case round=>
  obtain⟨k,pre,hk,rfl,hp,hJp,hbx,hwd,hsz⟩:=hrel
  have HP:=ja hp
  have HJp:=ja hJp
  have HBX2:=ja hbx
  have HWD2:=ja hwd
  clear hp hJp hbx hwd hcb
  rcases Nat.eq_zero_or_pos k with rfl|hpos
  ·gi_wp2
   go_end0
   have hp:=HP.o
   simp only[zX,List.append_nil] at hp
   exact⟨⟨_,rfl⟩,.inl ⟨pre,hp,HJp.o⟩⟩
  ·obtain⟨j,rfl⟩:∃j,k=j+1:=⟨k-1,by omega⟩
   have hj:(((j+1:Nat):Int)-1)=(j:Int):=by omega
   rw[hj]
   have hlt:j<ds.length:=by omega
   have hlti:(j:Int)<(ds.length:Int):=by omega
   obtain⟨ad,rfl,hca⟩:=HWD2.o.at_ hlt
   have hcb:=HBX2.o.cell
   have hgd:ds[j]=ds.getD j 0:=by rw[List.getD_eq_getElem?_getD,List.getElem?_eq_getElem hlt];rfl
   rw[hgd] at hca
   have HP2:Hid ((pre++[(j,ds.getD j 0)])++zX ds j=zX ds ds.length):=ja (by rw[<-HP.o];simp[zX])
   obtain⟨fn,tm,as_,bd,hy,hR⟩:=HY.o pre (j,ds.getD j 0) wr ⟨_,HP2.o⟩ HJp.o (by omega)
   have HR:=ja hR;clear hR hgd
   simp only[jby7] at hy
   generalize ds.getD j 0=x at *
   gi_wp2
   refine⟨rfl,HR.o.mono ?_⟩
   rintro e V (⟨rfl,hJ',hk'⟩|⟨rfl,hJx',_⟩)
   ·have HJ':=ja hJ';clear hJ'
    have HK:=ja hk';clear hk'
    gi_wp2
    go_roundw
    case rel=>
     exact⟨j,pre++[(j,x)],by omega,rfl,HP2.o,HJ'.o,HBX2.o.of_block (HK.o.same _ (.inl (.inl rfl))),HWD2.o.keepB HK.o (λad' e=>.inl (.inr ⟨ad',e,rfl⟩)),by have:=HK.o.size;omega⟩
    case measure=>simp[intOf]
   ·have HJx':=ja hJx';clear hJx'
    gi_wp2
    refine bodyPost_ret (results_none rfl _ _ _) rfl ?_
    exact⟨⟨_,rfl⟩,.inr ⟨pre++[(j,x)],⟨_,HP2.o⟩,HJx'.o⟩⟩
attribute [local go_sem] Oper.semAt_some
theorem jac1(A:Option Addr)(n c:Nat)(w:World):Calls Tryz.prog 162 #[.slice A n c] w λe w'=>
  e=.returned (.func (.func 185) #[] #[.pointer (some ⟨w.heap.size,0,none⟩)])/\w'=w.alloc (.cells #[.slice A n c] 149):=by
 go_enter Tryz.func162,Tryz.ntmps162
 go_wp2
 go_ret
 exact⟨rfl,rfl⟩
theorem jbp8(A:Option Addr)(n c:Nat)(w:World):Calls Tryz.prog 145 #[.slice A n c] w λe w'=>
  e=.returned (.func (.func 161) #[] #[.pointer (some ⟨w.heap.size,0,none⟩)])/\w'=w.alloc (.cells #[.slice A n c] 149):=by
 go_enter Tryz.func145,Tryz.ntmps145
 go_wp2
 go_ret
 exact⟨rfl,rfl⟩
def zN (x:Nat):Nat->List Nat
 | 0=>[]
 | j+1=>x/4 ^ j % 4::zN x j
def zo(l:List (Nat×Nat)):List Nat:=l.flatMap λp=>zN p.2 16
def encP(x:Nat):Array Value:=#[.int .u32 (x:Int)]
theorem jar7(l:List (Nat×Nat))(p:Nat×Nat):zo (l++[p])=zo l++zN p.2 16:=by simp[zo,List.flatMap_append]
theorem jaj2 {ds:List Nat} (h:Jy ds):∀(k:Nat) (p:Nat×Nat),p∈zX ds k->p.2<4294967296
 | k+1,p,hp=>by
  rcases List.mem_cons.1 hp with rfl|hp
  ·exact jh7 h k
  ·exact jaj2 h k p hp
theorem jcd8(x j:Nat)(hx:x<4294967296):bits BinOp.and IntKind.u32 ((x:Int)/2 ^ (2*(j:Int)).toNat) 3=((x/4 ^ j % 4:Nat):Int):=by
 have e1:(2*(j:Int)).toNat=2*j:=by omega
 have h4:(2:Nat) ^ (2*j)=4 ^ j:=by rw[Nat.pow_mul]
 have h2:(2:Int) ^ (2*j)=((4 ^ j:Nat):Int):=by rw[<-h4,Int.natCast_pow];rfl
 have e2:(x:Int)/2 ^ (2*j)=((x/4 ^ j:Nat):Int):=by rw[h2,<-Int.natCast_ediv]
 have h5:x/4 ^ j<4294967296:=Nat.lt_of_le_of_lt (Nat.div_le_self _ _) hx
 rw[e1,e2]
 have h6:=Go.u32_and_nat (x/4 ^ j) 3 h5 (by decide)
 have h7:x/4 ^ j &&&3=x/4 ^ j % 4:=Nat.and_two_pow_sub_one_eq_mod (x/4 ^ j) 2
 rw[h7] at h6
 exact h6
theorem zp4{e:Ending}{p q:Prop}(h:(e=.returned (.bool true)/\p)\/(e=.returned (.bool false)/\q)):∃b:Bool,e=.returned (.bool b)/\(b=true->p)/\(b=false->q):=by
 rcases h with⟨rfl,h⟩|⟨rfl,h⟩
 ·exact⟨true,rfl,λ_=>h,by simp⟩
 ·exact⟨false,rfl,by simp,λ_=>h⟩
theorem jac7(args:Array Value)(w:World):(callFunc 161 args).run Tryz.prog w=.ok (.enter 161 args) w:=enters_of Tryz.func161 (by kernel_rfl) rfl args w
theorem jar8 (B1:Nat) (B:Nat) (A:Option Addr) (n c:Nat) (ds:List Nat) (w0:World) (h:zg w0 B A n c ds) (hB1:ZG w0 B1 149 (.slice A n c)) (hok:Jy ds) :
  jk6 Tryz.prog 161 #[.pointer (some ⟨B1,0,none⟩)] encP (λys=>ys=zo (zX ds n)) (λpre=>∃rest,pre++rest=zo (zX ds n)) (λb=>b=B1\/∃ad,A=some ad/\ad.block=b) 4 w0:=by
 intro l J Jx W hW hJ hJx hY h0
 have hm:=h.nmax
 have hl:=h.len
 have hBl:B1<w0.heap.size:=hB1.lt
 have HBX:=ja (hB1.below hW hBl)
 have HWD:=ja (JJ.below h hW (Nat.le_refl _))
 have hadl:=ja (λad (e:A=some ad)=>JJ.lt h e)
 have HW:=ja hW
 have HY:=ja hY
 have HJ:=ja hJ
 have HJx:=ja hJx
 have H0:=ja h0
 clear h hB1 hW hJ hJx hY h0
 subst hl
 have HBW:=ja (λn=>(callsIn_wide (n:=n)).2 (jac1 A ds.length c (W.alloc (.cells #[.func (.yield l) #[] #[]] 195))))
 refine callsIn_of_wp_marks Tryz.func161 rfl trivial ?_ rfl
 simp only[Tryz.ntmps161,List.size_toArray,List.length_cons,List.length_nil,Nat.reduceAdd,Nat.reduceSub,Array.replicate_succ,Array.replicate_zero,List.push_toArray,List.append_toArray,List.nil_append,List.cons_append]
 have hcb:∀o,(W.alloc o).cell? ⟨B1,0,none⟩=some (.slice A ds.length c):=λo=>(HBX.o.alloc o).cell
 gi_wp2_with fail
 refine⟨trivial,rfl,CallsIn.mono (HBW.o _) ?_⟩
 rintro e w1 ⟨rfl,rfl⟩
 gi_wp2_with fail
 have HBG:=ja (jay0 (W.heap.size+1) B A ds.length c ds ((W.alloc (.cells #[.func (.yield l) #[] #[]] 195)).alloc (.cells #[.slice A ds.length c] 149)) (JJ.alloc (JJ.alloc HWD.o _) _) (by have:=ZG.new (W.alloc (.cells #[.func (.yield l) #[] #[]] 195)) 149 (.slice A ds.length c);simpa using this))
 refine QV (gf:=185) rfl jak4 HBG.o (w0:=(W.alloc (.cells #[.func (.yield l) #[] #[]] 195)).alloc (.cells #[.slice A ds.length c] 149)) (Below.refl _ _) ?_ (λ_=>rfl)
  (λpre V=>J (zo pre) V/\ZG V W.heap.size 195 (.func (.yield l) #[] #[])/\W.heap.size+2<=V.heap.size) (λcd pre V=>cd=.ret/\∃pr,(∃rest,pr++rest=zo (zX ds ds.length))/\Jx pr V) ?_ ?_ ?_ ?_ ?_ ?_
 ·rintro b (rfl|⟨ad,e,rfl⟩)
  ·simp
  ·have h1:=hadl.o ad e;have h2:=HW.o.size;simp;omega
 ·rintro s V V' row ⟨h1,h2,h3⟩ hg hr
  simp only[World.size_alloc] at hr
  refine⟨HJ.o _ _ _ _ h1 hg (λb e=>by have:=hr b e;omega),h2.grown hg (λe=>by have:=hr _ e;omega),Nat.le_trans h3 hg.size⟩
 ·rintro cd s V V' row ⟨h1,pr,h2,h3⟩ hg hr
  simp only[World.size_alloc] at hr
  exact⟨h1,pr,h2,HJx.o _ _ _ _ h3 hg (λb e=>by have:=hr b e;omega)⟩
 ·refine⟨HJ.o _ _ _ none (HJ.o _ _ _ none H0.o (World.grownBy_alloc _ _ _) (by simp)) (World.grownBy_alloc _ _ _) (by simp),(ZG.new W _ _).alloc _,by simp⟩
 ·rintro pre x V hsp ⟨hj,hbx,hvz⟩ hsz
  simp only[World.size_alloc] at hsz ⊢
  have HJp:=ja hj
  have HBXV:=ja hbx
  have HSP:=ja hsp
  clear hj hbx hsp
  obtain⟨xi,xw⟩:=x
  simp only[jby7]
  gi_wp2
  refine⟨KeepB.refl _ _,?_⟩
  intro V2 hg2 hzz
  have HJ2:=ja (HJ.o _ _ _ _ HJp.o hg2 (λb e=>by cases e;omega))
  have HB2:=ja (HBXV.o.grown hg2 (by simp;omega))
  have hz2:W.heap.size+4<=V2.heap.size:=by omega
  clear HJp HBXV hg2 hzz hcb
  gi_wp2
  gi_loopw [5] (λi U=>∃(k:Nat) (out:List Nat),k<=16/\i=.int .i64 (2*(k:Int)-2)/\out++zN xw k=zN xw 16/\J (zo pre++out) U/\ZG U W.heap.size 195 (.func (.yield l) #[] #[]) /\
   KeepB (λb=>(b=W.heap.size+1\/∃ad,A=some ad/\ad.block=b)\/(W.heap.size+1+1<=b/\b<W.heap.size+1+1+2+0)) V2 U) (λi _=>(intOf i+2).toNat)
  case atStart=>exact⟨16,[],by omega,rfl,rfl,by simpa using HJ2.o,HB2.o,KeepB.refl _ _⟩
  case round=>
   obtain⟨k,out,hk,rfl,ho,hj,hbx,hkp⟩:=hrel
   have HO:=ja ho
   have HJU:=ja hj
   have HBU:=ja hbx
   have HKU:=ja hkp
   have hkz:=hkp.size
   clear ho hj hbx hkp HJ2 HB2
   rcases Nat.eq_zero_or_pos k with rfl|hpos
   ·gi_wp2
    refine⟨HKU.o,?_,HBU.o,by omega⟩
    have h1:out++zN xw 0=zN xw 16:=HO.o
    rw[show zN xw 0=[] from rfl,List.append_nil] at h1
    rw[jar7,<-h1]
    exact HJU.o
   ·obtain⟨j,rfl⟩:∃j,k=j+1:=⟨k-1,by omega⟩
    have hj2:(2*((j+1:Nat):Int)-2)=(2*j:Int):=by omega
    rw[hj2]
    obtain⟨rest,hrest⟩:=HSP.o
    have hsp':∃rest,((zo pre++out)++[xw/4 ^ j % 4])++rest=zo (zX ds ds.length):=by
     refine⟨zN xw j++zo rest,?_⟩
     have h1:out++(xw/4 ^ j % 4::zN xw j)=zN xw 16:=HO.o
     rw[<-hrest]
     simp only[zo,List.flatMap_append,List.flatMap_cons,List.flatMap_nil,List.append_nil]
     rw[<-h1]
     simp
    obtain⟨fn,tm,as_,bd,hy,hR⟩:=HY.o (zo pre++out) (xw/4 ^ j % 4) wr.drew hsp' (HJ.o _ _ _ none HJU.o (zg3 (jac9 _ _)) (by simp)) (by show _<=wr.heap.size;omega)
    have HR:=ja hR;clear hR
    simp only[encP] at hy
    have hcb:=HBU.o.cell
    have hxw:xw<4294967296:=jaj2 hok ds.length (xi,xw) (by rw[<-hrest];simp)
    have hbits:=jcd8 xw j hxw
    have HO2:Hid ((out++[xw/4 ^ j % 4])++zN xw j=zN xw 16):=ja (by
     have h1:out++(xw/4 ^ j % 4::zN xw j)=zN xw 16:=HO.o
     rw[<-h1];simp)
    have hsp2:=ja hsp'
    clear HO hsp' hrest
    generalize xw/4 ^ j % 4=p at *
    gi_wp2
    gi_region_with (first
     | (refine⟨rfl,HR.o.mono ?_⟩
        rintro e V3 hV3
        obtain⟨bb,rfl,hT,hF⟩:=zp4 hV3))
    all_goals
     have hbx3:bb=true->ZG V3 W.heap.size 195 (.func (.yield l) #[] #[]):=λe=>HBU.o.of_block ((hT e).2.same _ (.inr (by omega)))
     have HT:=ja hT;have HF:=ja hF;have HBX3:=ja hbx3
     clear hT hF hbx3
     have hkeep:∀(K:KeepB (λb=>(b=B1\/∃ad,A=some ad/\ad.block=b)\/W.heap.size<=b/\b<W.heap.size+4) wr.drew V3),KeepB (λb=>(b=W.heap.size+1\/∃ad,A=some ad/\ad.block=b)\/(W.heap.size+1+1<=b/\b<W.heap.size+1+1+2+0)) V2 V3:=λK=>
      (HKU.o.drewN 1).trans (K.mono (by rintro b ((h|h)|h);exact .inr (by omega);exact .inl (.inr h);exact .inr (by omega)))
     have hkeep:=ja hkeep
     cases bb
     ·gi_wp2
      have h:=HF.o (by first|rfl|trivial)
      exact⟨hkeep.o h.2,rfl,_,hsp2.o,h.1⟩
     ·gi_wp2
      go_roundw
      case rel=>
       have h:=HT.o (by first|rfl|trivial)
       exact⟨j,out++[p],by omega,by go_num,HO2.o,by rw[<-List.append_assoc];exact h.1,HBX3.o (by first|rfl|trivial),hkeep.o h.2⟩
      case measure=>simp[intOf];omega
 ·rintro xs V hS ⟨hj,hbx,hvz⟩ hD
  simp only[World.size_alloc] at hD
  have HJp:=ja hj
  have HD:=ja hD
  clear hj hD hbx
  simp only[World.size_alloc]
  gi_wp2
  refine⟨by simp,.inl ⟨_,_,rfl,run_takeDeferred HD.o,?_⟩⟩
  refine⟨_,results_none rfl _ _ _,⟨_,rfl⟩,.inl ⟨_,by rw[<-hS],HJ.o _ _ _ _ HJp.o (jZ _ _) (λb e=>by cases e;omega)⟩⟩
 ·rintro cd pre V hsp ⟨rfl,pr,hpr,hjx⟩ hD
  simp only[World.size_alloc] at hD
  have HJp:=ja hjx
  have HD:=ja hD
  clear hjx hD
  simp only[World.size_alloc]
  gi_wp2
  refine⟨by simp,.inl ⟨_,_,rfl,run_takeDeferred HD.o,?_⟩⟩
  exact⟨_,results_none rfl _ _ _,⟨_,rfl⟩,.inr ⟨pr,hpr,HJx.o _ _ _ _ HJp.o (jZ _ _) (λb e=>by cases e;omega)⟩⟩
attribute [local go_sem] Oper.semAt_some
def Jn(v R T:Nat):Prop:=R*R+T=v/\T<=2*R
theorem jaa3{v R T d:Nat}(h:Jn v R T)(hd:d<4):Jn (4*v+d) (zc4 R T d) (zc5 R T d):=by
 obtain⟨h1,h2⟩:=h
 unfold Jn zc4 zc5
 by_cases hc:R*4+1<=T*4+d
 ·rw[if_pos hc,if_pos hc]
  have e:(R*2+1)*(R*2+1)=4*(R*R)+4*R+1:=by
   rw[Nat.mul_add,Nat.add_mul,Nat.mul_one,Nat.one_mul]
   have:R*2*(R*2)=4*(R*R):=by rw[Nat.mul_mul_mul_comm,Nat.mul_comm (R*R)]
   omega
  omega
 ·rw[if_neg hc,if_neg hc]
  have e:(R*2)*(R*2)=4*(R*R):=by rw[Nat.mul_mul_mul_comm,Nat.mul_comm (R*R)]
  omega
def zy9(s:Nat×Nat)(d:Nat):Nat×Nat:=(zc4 s.1 s.2 d,zc5 s.1 s.2 d)
def QD(l:List Nat):Nat×Nat:=l.foldl zy9 (0,0)
theorem jas7(l:List Nat)(d:Nat):QD (l++[d])=zy9 (QD l) d:=by simp[QD,List.foldl_append]
def zp8(v:Nat)(l:List Nat):Nat:=l.foldl (λp d=>4*p+d) v
theorem jaa2:∀(l:List Nat) (v:Nat) (s:Nat×Nat),Jn v s.1 s.2->(∀d∈l,d<4)->Jn (zp8 v l) (l.foldl zy9 s).1 (l.foldl zy9 s).2
 | [],v,s,h,_=>h
 | d::l,v,s,h,hl=>jaa2 l (4*v+d) (zy9 s d) (jaa3 h (hl d (by simp))) (λx hx=>hl x (List.mem_cons_of_mem _ hx))
theorem zz5:∀(x k d:Nat),d∈zN x k->d<4
 | x,k+1,d,h=>by
  rcases List.mem_cons.1 h with rfl|h
  ·omega
  ·exact zz5 x k d h
theorem zm7:∀(x k v:Nat),zp8 v (zN x k)=v*4 ^ k+x % 4 ^ k
 | x,0,v=>by simp[zN,zp8,Nat.mod_one]
 | x,k+1,v=>by
  have h:=zm7 x k (4*v+x/4 ^ k % 4)
  have h1:zp8 v (zN x (k+1))=zp8 (4*v+x/4 ^ k % 4) (zN x k):=rfl
  rw[h1,h,Nat.pow_succ,Nat.add_mul,Nat.mod_mul,Nat.mul_comm (4 ^ k) (x/4 ^ k % 4),Nat.mul_assoc 4 v,Nat.mul_comm 4,Nat.mul_assoc v]
  omega
theorem jav0(v:Nat)(a b:List Nat):zp8 v (a++b)=zp8 (zp8 v a) b:=by simp[zp8,List.foldl_append]
theorem zm6 (ds:List Nat) (hok:Jy ds):∀(k v:Nat),k<=ds.length->zp8 v (zo (zX ds k))=v*4294967296 ^ k+jF (ds.take k)
 | 0,v,_=>by simp[zX,zo,zp8,jF]
 | k+1,v,hk=>by
  have h1:zo (zX ds (k+1))=zN (ds.getD k 0) 16++zo (zX ds k):=by simp[zo,zX]
  have h3:(4:Nat) ^ 16=4294967296:=by decide
  have h2:=zm7 (ds.getD k 0) 16 v
  rw[h3,Nat.mod_eq_of_lt (jh7 hok k)] at h2
  rw[h1,jav0,h2,zm6 ds hok k _ (by omega),JT,Nat.pow_succ,Nat.add_mul,Nat.mul_assoc v,Nat.mul_comm 4294967296 (4294967296 ^ k),Nat.mul_comm (ds.getD k 0)]
  omega
theorem zm5:∀(ds:List Nat) (k:Nat),(zo (zX ds k)).length=16*k
 | ds,0=>rfl
 | ds,k+1=>by
  have h1:zo (zX ds (k+1))=zN (ds.getD k 0) 16++zo (zX ds k):=by simp[zo,zX]
  have h2:∀x j,(zN x j).length=j:=by
   intro x j
   induction j with
   | zero=>rfl
   | succ j ih=>simp[zN,ih]
  rw[h1,List.length_append,h2,zm5 ds k];omega
theorem zz4(ds:List Nat)(k d:Nat)(h:d∈zo (zX ds k)):d<4:=by
 simp only[zo,List.mem_flatMap] at h
 obtain⟨p,_,hd⟩:=h
 exact zz5 _ _ _ hd
theorem zn3(v:Nat):Jn v (QD (zo (zX (dig v) (dig v).length))).1 (QD (zo (zX (dig v) (dig v).length))).2:=by
 have h:=jaa2 (zo (zX (dig v) (dig v).length)) 0 (0,0) ⟨rfl,Nat.le_refl _⟩ (λd hd=>zz4 _ _ _ hd)
 rw[zm6 _ (qS v) _ _ (Nat.le_refl _),List.take_length,ZI] at h
 simpa [QD] using h
attribute [local go_sem] Oper.semAt_some
theorem jS.row{w w':World}{F r R T L:Nat}(h:jS w F r R T L){row:Option Nat}(hg:w.grownBy w' row)(hr:∀b,row=some b->b≠r/\b<F):jS w' F r R T L:=by
 obtain⟨A,n,c,A2,n2,c2,h1,h2,h3,h4,h5,h6,h7⟩:=h
 exact⟨A,n,c,A2,n2,c2,h1.grown hg (λe=>(hr _ e).1 rfl),h2.grown hg (λad ha e=>by have:=(hr _ e.symm).2;have:=h6 ad ha;omega),h3.grown hg (λad ha e=>by have:=(hr _ e.symm).2;have:=h7 ad ha;omega),h4,h5,h6,h7⟩
theorem jS.less{w:World}{F F' r R T L L':Nat}(h:jS w F r R T L)(hF:F'<=F)(hL:L<=L'):jS w F' r R T L':=by
 obtain⟨A,n,c,A2,n2,c2,h1,h2,h3,h4,h5,h6,h7⟩:=h
 exact⟨A,n,c,A2,n2,c2,h1,h2,h3,by omega,by omega,λad ha=>Nat.le_trans hF (h6 ad ha),λad ha=>Nat.le_trans hF (h7 ad ha)⟩
theorem jbs4 (coef n:Int) (w:World) (hc:-4000000000000000000<=coef/\coef<=4000000000000000000) (hn:0<=n/\n<=4000000000000000000) :
  Calls Tryz.prog 113 #[.int .i64 coef,.int .i64 n] w λe w'=>∃r R T,e=.returned (.pointer (some ⟨r,0,none⟩))/\w.heap.size<=r/\jS w' w.heap.size r R T 96/\Jn (coef.natAbs*coef.natAbs*n.toNat) R T/\Below w.heap.size w w':=by
 obtain⟨m,rfl⟩:=Int.eq_ofNat_of_zero_le hn.1
 obtain⟨ca,hca⟩:∃ca,ca=coef.natAbs:=⟨_,rfl⟩
 have hmx:max coef (-coef)=(ca:Int):=by omega
 have hcab:ca<=4000000000000000000:=by omega
 rw[<-hca,Int.toNat_natCast]
 clear hca
 have HPR:=ja (λn W=>(callsIn_wide (n:=n)).2 (jaf7 ca ca m W (by omega) (by omega) (by omega)))
 refine(callsIn_wide (n:=0)).1 ?_
 refine callsIn_of_wp_marks Tryz.func113 rfl trivial ?_ rfl
 simp only[Tryz.ntmps113,List.size_toArray,List.length_cons,List.length_nil,Nat.reduceAdd,Nat.reduceSub,Array.replicate_succ,Array.replicate_zero,List.push_toArray,List.append_toArray,List.nil_append,List.cons_append]
 have HPA:=ja (λn A k c W=>(callsIn_wide (n:=n)).2 (jbp8 A k c W))
 have HBX:=ja ((ZG.new (w.alloc (.cells #[.slice none 0 0,.slice none 0 0] 154)) 146 (.pointer (some ⟨w.heap.size,0,none⟩))))
 have HRT:=ja ((jh.new w 154 #[.slice none 0 0,.slice none 0 0]).alloc (.cells #[.pointer (some ⟨w.heap.size,0,none⟩)] 146))
 have HB0:=ja (((Below.refl w.heap.size w).alloc (Nat.le_refl _) (.cells #[.slice none 0 0,.slice none 0 0] 154)).alloc (by simp) (.cells #[.pointer (some ⟨w.heap.size,0,none⟩)] 146))
 gi_wp2_with fail
 refine⟨trivial,rfl,CallsIn.mono (HPR.o _ _) ?_⟩
 rintro e w1 ⟨A,n1,c1,rfl,hw1,hn1,hb1⟩
 simp only[World.size_alloc] at hb1 HBX
 have hz1:=hb1.size
 simp only[World.size_alloc] at hz1
 have HBX1:=ja (HBX.o.below hb1 (by omega))
 have HRT1:=ja (HRT.o.below hb1 (by omega))
 have HB1:=ja (HB0.o.trans (hb1.mono (by omega)))
 have HW1:=ja hw1
 clear HBX HRT HB0 hb1 hw1 HPR
 gi_wp2_with fail
 refine⟨trivial,rfl,CallsIn.mono (HPA.o _ _ _ _ _) ?_⟩
 rintro e w2 ⟨rfl,rfl⟩
 have HBX2:=ja (HBX1.o.alloc (.cells #[.slice A n1 c1] 149))
 have HRT2:=ja (HRT1.o.alloc (.cells #[.slice A n1 c1] 149))
 have HB2:=ja (HB1.o.alloc HB1.o.size (.cells #[.slice A n1 c1] 149))
 have hl:=zg.len HW1.o
 have hane:=ja (λad (e:A=some ad)=>LW.ne HW1.o HRT1.o (by decide) e)
 have HG:=ja (jar8 w1.heap.size _ A n1 c1 (dig (ca*ca*m)) (w1.alloc (.cells #[.slice A n1 c1] 149)) (JJ.alloc HW1.o _) (ZG.new w1 _ _) (qS _))
 have hval:=ja (zn3 (ca*ca*m))
 have hpl:=zm5 (dig (ca*ca*m)) n1
 have hplt:=ja (zz4 (dig (ca*ca*m)) n1)
 rw[hl] at hval
 generalize zo (zX (dig (ca*ca*m)) n1)=ps at *
 have hadl:=ja (λad (e:A=some ad)=>JJ.lt HW1.o e)
 gi_wp2_with fail
 refine QV (gf:=161) rfl jac7 HG.o (w0:=w1.alloc (.cells #[.slice A n1 c1] 149)) (Below.refl _ _) ?_ (λ_=>rfl)
  (λpre V=>jS V (w1.heap.size+7) w.heap.size (QD pre).1 (QD pre).2 pre.length/\ZG V (w.heap.size+1) 146 (.pointer (some ⟨w.heap.size,0,none⟩))/\Below w.heap.size w V) (λ_ _ _=>False) ?_ ?_ ?_ ?_ ?_ ?_
 ·rintro b (rfl|⟨ad,e,rfl⟩)
  ·simp
  ·have h1:=hadl.o ad e;simp;omega
 ·rintro s V V' row ⟨h1,h2,h3⟩ hg hr
  simp only[World.size_alloc] at hr
  exact⟨h1.row hg (λb e=>by have:=hr b e;omega),h2.grown hg (λe=>by have:=hr _ e;omega),h3.grown hg h3.size (λj e=>by have:=hr j e;omega)⟩
 ·rintro _ _ _ _ _ h;exact h.elim
 ·exact⟨⟨none,0,0,none,0,0,HRT2.o,LW.nil_ _,LW.nil_ _,Nat.le_refl _,Nat.le_refl _,by simp,by simp⟩,HBX2.o,HB2.o⟩
 ·rintro pre x V hsp ⟨hrt,hbx,hbl⟩ hsz
  simp only[World.size_alloc] at hsz ⊢
  obtain⟨rest,hrest⟩:=hsp
  have hx4:x<4:=hplt.o x (by rw[<-hrest];simp)
  have hpl2:pre.length+1<=96:=by
   have:=congrArg List.length hrest
   simp at this
   omega
  clear hrest
  have HRTV:=ja hrt
  have HBXV:=ja hbx
  have HBV:=ja hbl
  clear hrt hbx hbl
  simp only[encP]
  gi_wp2
  refine⟨KeepB.refl _ _,?_⟩
  intro V2 hg2 hzz
  have HRT3:=ja (HRTV.o.row hg2 (λb e=>by cases e;omega))
  have HBX3:=ja (HBXV.o.grown hg2 (by simp;omega))
  have HB3:=ja (HBV.o.grown hg2 HBV.o.size (λj e=>by cases e;omega))
  have hz3:w1.heap.size+7<=V2.heap.size:=by omega
  clear HRTV HBXV HBV hg2 hzz
  have hcb:=HBX3.o.cell
  have HNX:=ja (λn=>(callsIn_wide (n:=n)).2 (jap6 (w1.heap.size+7) w.heap.size _ _ _ x V2 HRT3.o (by omega) (by omega) hx4))
  gi_wp2_with fail
  refine⟨trivial,rfl,CallsIn.mono (CallsIn.inRound _ (HNX.o _)) ?_⟩
  rintro e V3 ⟨rfl,hr3,hg3⟩
  have HR3:=ja hr3
  have HG3:=ja hg3
  clear hr3 hg3 HNX hcb
  gi_wp2
  refine⟨KeepB.of_grown HG3.o ?_ ?_,?_,HBX3.o.grown HG3.o (by simp),HB3.o.grown HG3.o HB3.o.size (λj e=>by cases e;exact Nat.le_refl _)⟩
  ·rintro b ((rfl|⟨ad,e,rfl⟩)|h)
   ·omega
   ·have:=hadl.o ad e;omega
   ·omega
  ·rintro b hb' ((rfl|⟨ad,e,rfl⟩)|h)
   ·injection hb' with hb';omega
   ·injection hb' with hb';exact hane.o ad e hb'.symm
   ·injection hb' with hb';omega
  ·rw[jas7,List.length_append]
   exact HR3.o
 ·rintro xs V rfl ⟨hrt,hbx,hbl⟩ hD
  simp only[World.size_alloc] at hD
  have HR:=ja hrt
  have HB:=ja hbl
  have HD:=ja hD
  have hcb:=hbx.cell
  clear hrt hbx hbl hD
  simp only[World.size_alloc]
  gi_wp2
  refine⟨by simp,.inl ⟨_,_,rfl,run_takeDeferred HD.o,?_⟩⟩
  refine⟨_,results_tmp rfl _ _ _,w.heap.size,_,_,rfl,Nat.le_refl _,(HR.o.row (jZ _ _) (λb e=>by cases e;omega)).less (by omega) (by omega),hval.o,HB.o.grown (jZ _ _) HB.o.size (λj e=>by cases e;omega)⟩
 ·rintro _ _ _ _ h;exact h.elim
