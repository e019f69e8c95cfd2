import Derived.Test.YtphcodcdfeohhaaGreatDoorLongAToLongE
import Derived.Lib.SliceRun
import Derived.Laws.Externs
import Derived.Stop.RegionWithIn
set_option linter.all false
namespace Go.Proofs.YtphcodcdfeohhaaGreatDoor
set_option maxRecDepth 100000
set_option maxHeartbeats 4000000
open Go.RowKit
theorem jaj7 (B:Nat) (A:Option Addr) (n c:Nat) (ds:List Nat) (w:World) (h:zg w B A n c ds) (hn:n<=20000000000000) :
  Calls Tryz.prog 165 #[.slice A n c] w λe w'=>∃(A':Option Addr) (c':Nat),e=.returned (.slice A' n c')/\w'.ownsRow w.heap.size 158 1 (.slice A' n c') n (ds.map Jl)/\Below w.heap.size w w':=by
 have hl:=h.len
 subst hl
 obtain⟨i0,hi0,hz0,hz1,hz2⟩:=info_parts Tryz.infoU32
 have q208:∀(w:World) (a:Option Addr) (n c n' c':Nat),(binOp .eql 149 (.slice a n c) (.slice none n' c')).run Tryz.prog w=.ok (.bool a.isNone) w:=λw a n c n' c'=>Lib.run_eql_slice_nil w _ _ a n c n' c' Tryz.underlying149
 rcases h.1.2.2.2 with⟨rfl,rfl⟩|⟨ad,rfl,hb,hc⟩
 ·have h0:ds.length=0:=by have:=h.1.2.1;omega
  have h1:ds=[]:=List.length_eq_zero_iff.1 h0
  subst h1
  clear h h0
  go_enter Tryz.func165,Tryz.ntmps165
  go_wp2
  go_ret
  exact⟨none,0,rfl,⟨rfl,.inl ⟨rfl,rfl⟩⟩,Below.refl _ _⟩
 ·have H:=ja h
  have HC:=ja hc
  have hadl:=h.lt rfl
  have HO:=ja (World.ownsRow_lit (base:=w.heap.size) (e:=158) (size:=1) w #[] 0 (Nat.le_refl _) (by unfold maxLen;omega) rfl)
  have hnew:∀j u,(ds.map Jl)[j]?=some u->(w.alloc (.cells #[] 158)).cell? (ad.add j)=some u:=λj u hu=>(World.cell?_alloc_lt _ _ _ (by rw[jH];exact hadl)).trans (hc j u hu)
  have hnew:=ja hnew
  clear h hc
  go_enter Tryz.func165,Tryz.ntmps165
  go_wp2_with (first
   | (at_builtin;refine wpList_append_own _ rfl _ _ 149 rfl w.heap.size 158 i0 (.int .u32 0) 1 4 Tryz.underlying149 hi0 hz0 hz1 hz2 rfl (by decide) (.slice (some ⟨w.heap.size,0,none⟩) 0 0) 0 [] rfl HO.o ad ds.length c (ds.map Jl) rfl (by simp) hnew.o (by intro u hu;obtain⟨d,_,rfl⟩:=List.mem_map.1 hu;rfl) (by unfold maxLen;omega) (by omega) (by simp) ?_;intro v' w3 ho3 hg3 _;obtain⟨A4,c4,rfl⟩:=jx ho3;have HO3:=ja ho3;have HG3:=ja hg3;clear ho3 hg3))
  go_ret
  have hO:=HO3.o
  simp only[Nat.zero_add,List.nil_append] at hO
  refine⟨A4,c4,?_,hO,(((Below.refl w.heap.size w).alloc (Nat.le_refl _) _).grown HG3.o (by simp) (by simp[Value.ownBlock]))⟩
  simp
theorem jap1 {od da db:List Nat} {k bw:Nat} (hv:jF (da.take k)+4294967296 ^ k*bw=jF od+jF (db.take k)) (hl:od.length=k) (hb:bw<=1) (ha:da.getD k 0<4294967296) (hbd:db.getD k 0<4294967296) :
  jF (da.take (k+1))+4294967296 ^ (k+1)*Qa (da.getD k 0) (db.getD k 0) bw=jF (od++[zU (da.getD k 0) (db.getD k 0) bw])+jF (db.take (k+1)):=by
 rw[JT,JT,zt,hl]
 generalize da.getD k 0=x at *
 generalize db.getD k 0=y at *
 simp only[jF,Nat.pow_succ]
 have h1:x+4294967296*Qa x y bw=zU x y bw+y+bw:=by
  unfold Qa zU
  split<;>omega
 have h2:4294967296 ^ k*x+4294967296 ^ k*4294967296*Qa x y bw=4294967296 ^ k*(zU x y bw+4294967296*0)+4294967296 ^ k*y+4294967296 ^ k*bw:=by
  rw[Nat.mul_assoc,<-Nat.mul_add,h1,Nat.mul_add,Nat.mul_add,Nat.mul_zero,Nat.add_zero]
 omega
theorem jbb2{z a b P bw:Nat}(h:a+P*bw=z+b)(hz:z<P)(hb:b<=a)(hw:bw<=1):z=a-b:=by
 rcases Nat.eq_zero_or_pos bw with h1|h1
 ·subst h1;rw[Nat.mul_zero] at h;omega
 ·have:bw=1:=by omega
  subst this;rw[Nat.mul_one] at h;omega
theorem jbn8{od da db:List Nat}{bw:Nat}(h:jF (da.take da.length)+4294967296 ^ da.length*bw=jF od+jF (db.take da.length))(hl:od.length=da.length)(oo:Jy od)(hb:db.length<=da.length)(hle:jF db<=jF da)(hw:bw<=1):jF od=jF da-jF db:=by
 rw[List.take_length,List.take_of_length_le hb] at h
 have h1:=jk2 oo
 rw[hl] at h1
 exact jbb2 h h1 hle hw
theorem jcd7(od da:List Nat)(k d:Nat)(h:od.length=k)(hk:k<da.length):((od++da.drop k).map Jl).set k (Jl d)=((od++[d])++da.drop (k+1)).map Jl:=by
 subst h
 rw[List.drop_eq_getElem_cons hk]
 generalize da.drop (od.length+1)=tl
 generalize da[od.length]=x
 simp
theorem jbz7(od da:List Nat)(k:Nat)(h:od.length=k)(hk:k<da.length):((od++da.drop k).map Jl)[k]?=some (.int .u32 (da.getD k 0)):=by
 subst h
 rw[List.drop_eq_getElem_cons hk,List.getD_eq_getElem?_getD,List.getElem?_eq_getElem hk]
 generalize da.drop (od.length+1)=tl
 generalize da[od.length]=x
 simp[Jl]
theorem zm4{w:World}{base size n c:Nat}{e:TypeId}{A:Option Addr}{xs:List Value}(h:w.ownsRow base e size (.slice A n c) n xs)(hn:0<n):∃g,A=some ⟨g,0,none⟩/\base<=g/\g<w.heap.size:=by
 have hl:=h.lt
 rcases h.2 with⟨_,h0⟩|⟨g,cap,cur,hv,h1,_⟩
 ·omega
 ·injection hv with h2 _ _
  subst h2
  exact⟨g,rfl,h1,(hl g rfl).2⟩
theorem jbn7 (B:Nat) (A:Option Addr) (n c a B2:Nat) (A2:Option Addr) (n2 c2 b:Nat) (w:World) (h:zg w B A n c (dig a)) (h2:zg w B2 A2 n2 c2 (dig b)) (hn:n<=20000000000000) (hba:b<=a) :
  Calls Tryz.prog 150 #[.slice A n c,.slice A2 n2 c2] w λe w'=>∃(A':Option Addr) (n' c':Nat),e=.returned (.slice A' n' c')/\zg w' w'.heap.size A' n' c' (dig (a-b))/\n'<=n/\(∀ad:Addr,A'=some ad->w.heap.size<=ad.block)/\Below w.heap.size w w':=by
 have hl:=h.len
 have hl2:=h2.len
 have hm2:=h2.nmax
 have va:=ZI a
 have vb:=ZI b
 have oa:=ja (qS a)
 have ob:=ja (qS b)
 have nb:=jr3 b
 have HA:=ja h;have HB2:=ja h2;clear h h2
 generalize dig a=da at *
 generalize dig b=db at *
 subst hl
 subst hl2
 have hlen:db.length<=da.length:=Nat.le_of_not_lt λhlt=>by have:=Qf oa.o nb hlt;omega
 have HCL:=ja (jaj7 B A da.length c da w HA.o hn)
 go_enter Tryz.func150,Tryz.ntmps150
 go_wp2_with fail
 refine HCL.o.mono ?_
 rintro e w1 ⟨A1,c1,rfl,ho1,hb1⟩
 have HO1:=ja ho1;have HB1:=ja hb1
 have hz1:=hb1.size
 have hlt2:=ja (λad (e:A2=some ad)=>HB2.o.lt e)
 have HW1:=ja (JJ.below HB2.o hb1 (Nat.le_refl _))
 clear ho1 hb1 HCL
 go_wp2_with fail
 go_loopw [6,13] (λbv i W=>∃(k:Nat) (od:List Nat) (bw:Nat),k<=da.length/\i=.int .i64 k/\bv=.int .u32 bw/\bw<=1/\od.length=k/\Jy od/\jF (da.take k)+4294967296 ^ k*bw=jF od+jF (db.take k) /\
  W.ownsRow w.heap.size 158 1 (.slice A1 da.length c1) da.length ((od++da.drop k).map Jl)/\zg W B2 A2 db.length c2 db/\Below w.heap.size w W) (λ_ i _=>da.length-(intOf i).toNat)
 case atStart=>
  exact⟨0,[],0,by omega,rfl,rfl,by omega,rfl,by simp[Jy],by simp[jF],HO1.o,HW1.o,HB1.o⟩
 case round=>
  obtain⟨k,od,bw,hk,rfl,rfl,hbw,hol,hoo,hval,ho,hwb,hb⟩:=hrel
  have HO:=ja ho;have HWB:=ja hwb;have HBB:=ja hb;have HV:=ja hval;have HOO:=ja hoo;have HOL:=ja hol
  have hbz:=hb.size
  clear ho hwb hb hval hoo HO1 HB1 HW1 hol
  by_cases hlt:k<da.length
  ·obtain⟨g,rfl,hg1,hg2⟩:=zm4 HO.o (by omega)
   have hx:=jh7 oa.o k
   have hy:=jh7 ob.o k
   have hMR:=ja (jap1 HV.o HOL.o hbw hx hy)
   have hfz:=HO.o.frozenAt k
   have hce:=HO.o.cellAt k (by omega)
   rw[jbz7 _ _ _ HOL.o hlt] at hce
   have hsd:zU (da.getD k 0) (db.getD k 0) bw<4294967296:=by unfold zU;omega
   have hsb:Qa (da.getD k 0) (db.getD k 0) bw<=1:=by unfold Qa;split<;>omega
   have hpb:k<db.length->∃ad:Addr,A2=some ad/\wr.cell? (ad.add k)=some (.int .u32 (db.getD k 0)):=λh=>by
    obtain⟨ad,e,h1⟩:=HWB.o.at_ h
    exact⟨ad,e,by rw[h1,List.getD_eq_getElem?_getD,List.getElem?_eq_getElem h];rfl⟩
   have hzb:db.length<=k->db.getD k 0=0:=λh=>by rw[List.getD_eq_getElem?_getD,List.getElem?_eq_none h];rfl
   have hpb:=ja hpb;have hzb:=ja hzb
   have HSB:=ja (λW=>jbs5 (da.getD k 0) (db.getD k 0) bw W hx hy hbw)
   have hst:=ja (HO.o.stored k (Jl (zU (da.getD k 0) (db.getD k 0) bw)))
   have hsd2:=ja (jcd7 od da k (zU (da.getD k 0) (db.getD k 0) bw) HOL.o hlt)
   rw[hsd2.o] at hst
   generalize da.getD k 0=x at *
   generalize db.getD k 0=y at *
   generalize zU x y bw=D at *
   generalize Qa x y bw=Bo at *
   have hfin:∃k_1 od bw_1,k_1<=da.length/\Value.int .i64 ((k:Int)+1)=Value.int .i64 (k_1:Nat)/\Value.int .u32 (Bo:Int)=Value.int .u32 (bw_1:Nat)/\bw_1<=1/\od.length=k_1/\Jy od/\jF (da.take k_1)+4294967296 ^ k_1*bw_1=jF od+jF (db.take k_1) /\
     (wr.setCell ⟨g,k,none⟩ (.int .u32 (D:Int))).ownsRow w.heap.size 158 1 (.slice (some ⟨g,0,none⟩) da.length c1) da.length ((od++da.drop k_1).map Jl)/\zg (wr.setCell ⟨g,k,none⟩ (.int .u32 (D:Int))) B2 A2 db.length c2 db/\Below w.heap.size w (wr.setCell ⟨g,k,none⟩ (.int .u32 (D:Int))):=by
    have hol:=HOL.o
    exact⟨k+1,od++[D],Bo,by omega,rfl,rfl,hsb,by simp[hol],HOO.o.snoc hsd,hMR.o,hst.o.1,JJ.keep HWB.o (λad e=>Below.heap_setCell _ _ _ _ (by have:=hlt2.o ad e;show ad.block≠g;omega)),HBB.o.setCell hg1 _⟩
   have hfin:=ja hfin
   by_cases hkb:k<db.length
   ·obtain⟨ad2,rfl,hcb⟩:=hpb.o hkb
    go_wp2_with (first
     | (go_at_call 166;refine(HSB.o _).mono ?_;rintro e w3 ⟨rfl,hw3⟩;subst w3))
    exact⟨hfin.o,by simp[intOf];omega⟩
   ·obtain rfl:=hzb.o (by omega)
    go_wp2_with (first
     | (go_at_call 166;refine(HSB.o _).mono ?_;rintro e w3 ⟨rfl,hw3⟩;subst w3))
    exact⟨hfin.o,by simp[intOf];omega⟩
  ·obtain rfl:k=da.length:=by omega
   have hv:=jbn8 HV.o HOL.o HOO.o hlen (by omega) hbw
   rw[va,vb] at hv
   have hge:=jbb9 HO.o
   have hrow:=HO.o
   rw[List.drop_length,List.append_nil] at hrow
   have HSH:=ja (QR wr.heap.size A1 da.length c1 od wr (JJ.of_own hrow) HOO.o)
   rw[hv] at HSH
   clear hrow
   go_wp2_with fail
   refine HSH.o.mono ?_
   rintro e w5 ⟨n5,rfl,hw5,hn5,hw5'⟩
   subst w5
   go_wp2
   go_ret
   exact⟨_,n5,_,rfl,hw5,hn5,hge,HBB.o⟩
def LW(w:World)(A:Option Addr)(n c v:Nat):Prop:=zg w w.heap.size A n c (dig v)
section
variable {w w' : World} {A : Option Addr} {n c v : Nat}
theorem LW.keep(h:LW w A n c v)(hk:∀ad:Addr,A=some ad->w'.heap[ad.block]?=w.heap[ad.block]?):LW w' A n c v:=JJ.self (JJ.keep h hk)
theorem LW.below(h:LW w A n c v)(hb:Below w.heap.size w w'):LW w' A n c v:=h.keep λad ha=>hb.block _ (JJ.lt h ha)
theorem LW.drewN(h:LW w A n c v)(q:Nat):LW (w.drewN q) A n c v:=h
theorem LW.drew(h:LW w A n c v):LW w.drew A n c v:=h
theorem LW.alloc(h:LW w A n c v)(o:Obj):LW (w.alloc o) A n c v:=h.keep λad ha=>Below.heap_alloc w o _ (JJ.lt h ha)
theorem LW.setCell(h:LW w A n c v){p:Addr}{t:TypeId}{cb:Array Value}(hb:jh w p.block t cb)(hne:158≠t)(u:Value):LW (w.setCell p u) A n c v:=JJ.self (JJ.setCell h hb hne u)
theorem LW.ne(h:LW w A n c v){b:Nat}{t:TypeId}{cb:Array Value}(hb:jh w b t cb)(hne:158≠t){ad:Addr}(ha:A=some ad):ad.block≠b:=JJ.ne h hb hne ha
theorem LW.grown(h:LW w A n c v){row:Option Nat}(hg:w.grownBy w' row)(hr:∀ad:Addr,A=some ad->some ad.block≠row):LW w' A n c v:=h.keep λad ha=>hg.block _ (JJ.lt h ha) (hr ad ha)
theorem LW.grownB(h:LW w A n c v){b:Nat}{t:TypeId}{cb:Array Value}(hb:jh w b t cb)(hne:158≠t)(hg:w.grownBy w' (some b)):LW w' A n c v:=h.grown hg λad ha e=>h.ne hb hne ha (by injection e)
theorem LW.nil_(w:World):LW w none 0 0 0:=JJ.nil_ _ _ _ _
end
def jS(w:World)(F r R T L:Nat):Prop:=
 ∃(A:Option Addr) (n c:Nat) (A2:Option Addr) (n2 c2:Nat),jh w r 154 #[.slice A n c,.slice A2 n2 c2]/\LW w A n c R/\LW w A2 n2 c2 T/\n<=L/\n2<=L/\(∀ad:Addr,A=some ad->F<=ad.block)/\∀ad:Addr,A2=some ad->F<=ad.block
theorem jS.lt{w:World}{F r R T L:Nat}(h:jS w F r R T L):r<w.heap.size:=by
 obtain⟨A,n,c,A2,n2,c2,hb,_⟩:=h
 exact hb.lt
theorem jS.below{w w':World}{F r R T L:Nat}(h:jS w F r R T L)(hb:Below w.heap.size w w'):jS w' F r R T L:=by
 obtain⟨A,n,c,A2,n2,c2,h1,h2,h3,h4,h5,h6,h7⟩:=h
 exact⟨A,n,c,A2,n2,c2,h1.below hb h1.lt,h2.below hb,h3.below hb,h4,h5,h6,h7⟩
theorem jS.drewN{w:World}{F r R T L:Nat}(h:jS w F r R T L)(q:Nat):jS (w.drewN q) F r R T L:=h
theorem jS.grown{w w':World}{F r R T L b:Nat}(h:jS w F r R T L){t:TypeId}{cb:Array Value}(hb:jh w b t cb)(hne:158≠t)(hrb:r≠b)(hg:w.grownBy w' (some b)):jS w' F r R T L:=by
 obtain⟨A,n,c,A2,n2,c2,h1,h2,h3,h4,h5,h6,h7⟩:=h
 exact⟨A,n,c,A2,n2,c2,h1.grown hg (λe=>hrb (by injection e with e;exact e.symm)),h2.grownB hb hne hg,h3.grownB hb hne hg,h4,h5,h6,h7⟩
theorem zn{b:Nat}{w A:World}(h:w.grownBy A (some b))(o:Nat)(u:Value):w.grownBy (A.setCell ⟨b,o,none⟩ u) (some b):=
 ⟨h.os,h.tape,h.output,by simpa using h.size,λk hk hne=>(Below.heap_setCell A ⟨b,o,none⟩ u k (λe=>hne (by rw[e]))).trans (h.block k hk hne)⟩
def zc4(R T p:Nat):Nat:=if R*4+1<=T*4+p then R*2+1 else R*2
def zc5(R T p:Nat):Nat:=if R*4+1<=T*4+p then T*4+p-(R*4+1)else T*4+p
section
variable {w : World} {F r R T L : Nat} {A A2 B B2 : Option Addr} {n c n2 c2 m d m2 d2 : Nat} {u v : Value}
theorem jcd3 (hb:jh w r 154 #[u,v]) (hR:LW w A n c R) (hT:LW w A2 n2 c2 T) (hn:n<=L) (hn2:n2<=L) (hf:∀ad:Addr,A=some ad->F<=ad.block) (hf2:∀ad:Addr,A2=some ad->F<=ad.block) :
  jS ((w.setCell ⟨r,1,none⟩ (.slice A2 n2 c2)).setCell ⟨r,0,none⟩ (.slice A n c)) F r R T L:=by
 have h1:=hb.set_ 1 (.slice A2 n2 c2)
 refine⟨A,n,c,A2,n2,c2,h1.set_ 0 _,?_,?_,hn,hn2,hf,hf2⟩
 ·exact(hR.setCell (p:=⟨r,1,none⟩) hb (by decide) _).setCell (p:=⟨r,0,none⟩) h1 (by decide) _
 ·exact(hT.setCell (p:=⟨r,1,none⟩) hb (by decide) _).setCell (p:=⟨r,0,none⟩) h1 (by decide) _
theorem jbr6 (hb:jh w r 154 #[u,v]) (hR:LW w A n c R) (hT:LW w A2 n2 c2 T) (hn:n<=L) (hn2:n2<=L) (hf:∀ad:Addr,A=some ad->F<=ad.block) (hf2:∀ad:Addr,A2=some ad->F<=ad.block) :
  jS ((w.setCell ⟨r,0,none⟩ (.slice A n c)).setCell ⟨r,1,none⟩ (.slice A2 n2 c2)) F r R T L:=by
 have h1:=hb.set_ 0 (.slice A n c)
 refine⟨A,n,c,A2,n2,c2,h1.set_ 1 _,?_,?_,hn,hn2,hf,hf2⟩
 ·exact(hR.setCell (p:=⟨r,0,none⟩) hb (by decide) _).setCell (p:=⟨r,1,none⟩) h1 (by decide) _
 ·exact(hT.setCell (p:=⟨r,0,none⟩) hb (by decide) _).setCell (p:=⟨r,1,none⟩) h1 (by decide) _
theorem jbr7 (hb:jh w r 154 #[u,.slice A2 n2 c2]) (hR:LW w A n c R) (hT:LW w A2 n2 c2 T) (hn:n<=L) (hn2:n2<=L) (hf:∀ad:Addr,A=some ad->F<=ad.block) (hf2:∀ad:Addr,A2=some ad->F<=ad.block) :
  jS (w.setCell ⟨r,0,none⟩ (.slice A n c)) F r R T L:=
 ⟨A,n,c,A2,n2,c2,hb.set_ 0 _,hR.setCell (p:=⟨r,0,none⟩) hb (by decide) _,hT.setCell (p:=⟨r,0,none⟩) hb (by decide) _,hn,hn2,hf,hf2⟩
end
theorem jap6 (F r R T L p:Nat) (w:World) (h:jS w F r R T L) (hF:F<=w.heap.size) (hL:L<=10000000000000) (hp:p<4) :
  Calls Tryz.prog 117 #[.pointer (some ⟨r,0,none⟩),.int .u32 p] w λe w'=>e=.returned (.tuple #[])/\jS w' F r (zc4 R T p) (zc5 R T p) (L+1)/\w.grownBy w' (some r):=by
 obtain⟨A,n,c,A2,n2,c2,hbk,hR,hT,hn,hn2,hfA,hfT⟩:=h
 have HBK:=ja hbk
 have HR:=ja hR
 have HT:=ja hT
 have HU1:=ja (jbj5 _ A2 n2 c2 T p w hT (by omega) hp)
 have hrl:=hbk.lt
 obtain⟨q1,q2,q3,q4⟩:=hbk.two
 clear hbk hR hT
 go_enter Tryz.func117,Tryz.ntmps117
 go_wp2_with fail
 refine HU1.o.mono ?_
 rintro e w1 ⟨A3,n3,c3,rfl,hw3,hn3,hf3,hb3⟩
 have HBK1:=ja (HBK.o.below hb3 hrl)
 obtain⟨s1,s2,s3,s4⟩:=HBK1.o.two
 have HR1:=ja (HR.o.below hb3)
 have HW3:Hid (LW w1 A3 n3 c3 (T*4+p)):=ja hw3
 have HB3:=ja hb3
 clear hw3 hb3 HU1 q1 q2 q3 q4
 have HBK2:=ja (HBK1.o.set_ 1 (.slice A3 n3 c3))
 have HR2:=ja (HR1.o.setCell (p:=⟨r,1,none⟩) HBK1.o (by decide) (.slice A3 n3 c3))
 have HW4:=ja (HW3.o.setCell (p:=⟨r,1,none⟩) HBK1.o (by decide) (.slice A3 n3 c3))
 have HU2:=ja (jbj5 _ A n c R 1 (w1.setCell ⟨r,1,none⟩ (.slice A3 n3 c3)) HR2.o (by omega) (by omega))
 rw[show((1:Nat):Int)=1 from rfl] at HU2
 have HF2:Hid (w.grownBy (w1.setCell ⟨r,1,none⟩ (.slice A3 n3 c3)) (some r)):=ja (zn (jX HB3.o (some r)) _ _)
 have hz2:w.heap.size<=(w1.setCell ⟨r,1,none⟩ (.slice A3 n3 c3)).heap.size:=HF2.o.size
 go_wp2_with fail
 clear HBK HR HT HBK1 HR1 HW3 HB3 s1 s2 s3 s4
 generalize w1.setCell ⟨r,1,none⟩ (.slice A3 n3 c3)=w2 at *
 refine HU2.o.mono ?_
 rintro e w3 ⟨A4,n4,c4,rfl,hw3,hn4,_,hb3⟩
 clear HU2
 have hrl2:=HBK2.o.lt
 have HBK3:=ja (HBK2.o.below hb3 hrl2)
 have HR3:=ja (HR2.o.below hb3)
 have HT3:=ja (HW4.o.below hb3)
 have HF3:=ja (zI HF2.o hb3 hz2)
 have HQ3:Hid (LW w3 A4 n4 c4 (R*4+1)):=ja hw3
 clear hw3 HBK2 HR2 HW4 HF2 hb3
 obtain⟨s1,s2,s3,s4⟩:=HBK3.o.two
 have HCM:=ja (jd7 _ A3 n3 c3 (T*4+p) _ A4 n4 c4 (R*4+1) w3 HT3.o HQ3.o)
 by_cases hcmp:R*4+1<=T*4+p
 ·have HN1:=ja (show zc4 R T p=R*2+1 by unfold zc4;rw[if_pos hcmp])
  have HN2:=ja (show zc5 R T p=T*4+p-(R*4+1) by unfold zc5;rw[if_pos hcmp])
  have hc0:(0:Int)<=Jz (T*4+p) (R*4+1):=by unfold Jz;rw[if_neg (by omega)];split<;>omega
  generalize Jz (T*4+p) (R*4+1)=cv at *
  go_wp2_with fail
  refine HCM.o.mono ?_
  rintro e w4 ⟨rfl,q,rfl⟩
  have HBK4:=ja (HBK3.o.drewN q);have HR4:=ja (HR3.o.drewN q);have HT4:=ja (HT3.o.drewN q);have HQ4:=ja (HQ3.o.drewN q);have HF4:=ja (jr9 HF3.o q)
  have t1:(w3.drewN q).cell? ⟨r,0,none⟩=_:=s1
  have t2:(w3.drewN q).cell? ⟨r,1,none⟩=_:=s2
  have t3:(w3.drewN q).frozen? ⟨r,0,none⟩=_:=s3
  have t4:(w3.drewN q).frozen? ⟨r,1,none⟩=_:=s4
  clear HBK3 HR3 HT3 HQ3 HF3 HCM s1 s2 s3 s4
  generalize w3.drewN q=w4 at *
  have HMI:=ja (jbn7 _ A3 n3 c3 (T*4+p) _ A4 n4 c4 (R*4+1) w4.drew HT4.o.drew HQ4.o.drew (by omega) hcmp)
  have hrl4:=HBK4.o.lt
  go_wp2_with fail
  go_region_with (first
   | (go_at_call 150;refine HMI.o.mono ?_;rintro e w5 ⟨A5,n5,c5,rfl,hw5,hn5,hf5,hb5⟩
      have HBK5:=ja (jh.below (HBK4.o.drew) hb5 hrl4)
      obtain⟨u1,u2,u3,u4⟩:=HBK5.o.two
      have HU5:=ja (jbj4 _ A n c R 1 w5 (LW.below HR4.o.drew hb5) (by omega) (by omega))
      rw[show((1:Nat):Int)=1 from rfl] at HU5
      have HW5:Hid (LW w5 A5 n5 c5 (T*4+p-(R*4+1))):=ja hw5
      have HF5:=ja (zI (zg3 HF4.o) hb5 (by have:=HF4.o.size;exact this))
      clear hw5 hb5)
   | (go_at_call 149;refine HU5.o.mono ?_;rintro e w6 ⟨A6,n6,c6,rfl,hw6,hn6,hf6,hb6⟩
      have HBK6:=ja (jh.below HBK5.o hb6 HBK5.o.lt)
      obtain⟨v1,v2,v3,v4⟩:=HBK6.o.two
      have HW6:Hid (LW w6 A6 n6 c6 (R*2+1)):=ja hw6
      have hzz5:=HF5.o.size
      have HX6:=ja (LW.below HW5.o hb6)
      have HF6:=ja (zI HF5.o hb6 HF5.o.size)
      clear hw6 hb6))
  all_goals
   go_wp2
   (try simp only[Exit.inBlock,Exit.then])
   refine bodyPost_ret (results_none rfl _ _ _) rfl ?_
   refine⟨rfl,?_,zn (zn HF6.o _ _) _ _⟩
   rw[HN1.o,HN2.o]
   first
    | exact jcd3 HBK6.o HW6.o HX6.o (by omega) (by omega) (λad e=>by have:=hf6 ad e;omega) (λad e=>by have:=hf5 ad e;have h9:w.heap.size<=w4.heap.size:=HF4.o.size;simp at this;omega)
    | exact jbr6 HBK6.o HW6.o HX6.o (by omega) (by omega) (λad e=>by have:=hf6 ad e;omega) (λad e=>by have:=hf5 ad e;have h9:w.heap.size<=w4.heap.size:=HF4.o.size;simp at this;omega)
 ·have HN1:=ja (show zc4 R T p=R*2 by unfold zc4;rw[if_neg hcmp])
  have HN2:=ja (show zc5 R T p=T*4+p by unfold zc5;rw[if_neg hcmp])
  have hc0:Jz (T*4+p) (R*4+1)=-1:=by unfold Jz;rw[if_pos (by omega)]
  rw[hc0] at HCM
  have HBK4:=ja (λq=>HBK3.o.drewN q)
  have hrl3:=HBK3.o.lt
  go_wp2_with (first
   | (go_at_call 116;refine HCM.o.mono ?_;rintro e w4 ⟨rfl,q,rfl⟩;have t1:(w3.drewN q).cell? ⟨r,0,none⟩=_:=s1;have HU5:=ja (jbj4 _ A n c R 0 (w3.drewN q) (HR3.o.drewN q) (by omega) (by omega));rw[show((0:Nat):Int)=0 from rfl] at HU5)
   | (go_at_call 149;refine HU5.o.mono ?_;rintro e w6 ⟨A6,n6,c6,rfl,hw6,hn6,hf6,hb6⟩
      have HBK6:=ja (jh.below (HBK4.o _) hb6 hrl3)
      obtain⟨v1,v2,v3,v4⟩:=HBK6.o.two
      have HW6:Hid (LW w6 A6 n6 c6 (R*2)):=ja hw6
      have HX6:=ja (LW.below (HT3.o.drewN _) hb6)
      have HF6:=ja (zI (jr9 HF3.o _) hb6 HF3.o.size)
      clear hw6 hb6))
  go_end0
  refine⟨rfl,?_,zn HF6.o _ _⟩
  rw[HN1.o,HN2.o]
  exact jbr7 HBK6.o HW6.o HX6.o (by omega) (by omega) (λad e=>by have:=hf6 ad e;have h9:w.heap.size<=w3.heap.size:=HF3.o.size;simp at this;omega) (λad e=>by have:=hf3 ad e;omega)
theorem jak1(v:Nat):0<(dig v).length↔v≠0:=by
 constructor
 ·intro h e
  subst e
  exact absurd h (by decide)
 ·intro h
  rcases Nat.eq_zero_or_pos (dig v).length with h1|h1
  ·have h2:=ZI v
   rw[List.length_eq_zero_iff.1 h1] at h2
   exact absurd h2.symm h
  ·exact h1
theorem LW.len{w:World}{A:Option Addr}{n c v:Nat}(h:LW w A n c v):(dig v).length=n:=zg.len h
theorem LW.one(w:World):LW (w.alloc (.cells #[.int .u32 1] 158)) (some ⟨w.heap.size,0,none⟩) 1 1 1:=by
 have h:dig 1=[1]:=(jby6 (ds:=[1]) (by simp[Jy]) (by simp[jp7])).symm
 unfold LW zg
 rw[h]
 exact JJ.of_own (World.ownsRow_lit (base:=0) w #[.int .u32 1] 1 (Nat.zero_le _) (by unfold maxLen;omega) rfl)
def jf2(R T:Nat):Nat:=if T=0 then R else R+1
theorem jam1 (F r R T L:Nat) (w:World) (h:jS w F r R T L) (hL:L<=10000000000000) :
  Calls Tryz.prog 115 #[.pointer (some ⟨r,0,none⟩)] w λe w'=>∃(A:Option Addr) (n c:Nat),e=.returned (.slice A n c)/\LW w' A n c (jf2 R T)/\n<=L+1/\Below w.heap.size w w':=by
 obtain⟨A,n,c,A2,n2,c2,hbk,hR,hT,hn,hn2,_,_⟩:=h
 have hl2:=hT.len
 have hp:=jak1 T
 rw[hl2] at hp
 obtain⟨q1,q2,q3,q4⟩:=hbk.two
 have hrl:=hbk.lt
 have q5:=ja (λo=>(hbk.alloc o).two)
 have HR:=ja hR
 by_cases h0:T=0
 ·have h2:n2=0:=by omega
  subst h2
  have HH:=ja (show jf2 R T=R by unfold jf2;rw[if_pos h0])
  clear hbk hR hT hp
  go_enter Tryz.func115,Tryz.ntmps115
  go_wp2
  go_ret
  exact⟨A,n,c,rfl,by rw[HH.o];exact HR.o,by omega,Below.refl _ _⟩
 ·have h2:0<n2:=hp.2 h0
  have HH:=ja (show jf2 R T=R+1 by unfold jf2;rw[if_neg h0])
  have HP:=ja (Zn _ A n c R _ (some ⟨w.heap.size,0,none⟩) 1 1 1 (w.alloc (.cells #[.int .u32 1] 158)) (hR.alloc _) (LW.one w) (by omega) (by omega))
  clear hbk hR hT hp
  go_enter Tryz.func115,Tryz.ntmps115
  go_wp2_with (first
   | (go_at_call 114;refine HP.o.mono ?_;rintro e w2 ⟨A3,n3,c3,rfl,hw3,hn3,hb3⟩;have HW3:=ja hw3;have HB3:=ja hb3;clear hw3 hb3))
  go_ret
  exact⟨A3,n3,c3,rfl,by rw[HH.o];exact HW3.o,by omega,((Below.refl _ _).alloc (Nat.le_refl _) _).trans (HB3.o.mono (by simp))⟩
theorem val6(x y z:Nat):jF [x % 4294967296,x/4294967296,y % 4294967296,y/4294967296,z % 4294967296,z/4294967296]=x+18446744073709551616*(y+18446744073709551616*z):=by
 simp only[jF]
 omega
theorem jcs1 {c P H L P2 P3 T N C L2 S mc N2 K:Nat} (h1:K*H+L=P) (hP2:H*c=P2) (h2:K*T+N=P2) (hP3:L*c=P3) (h3:K*C+L2=P3) (hS:N+C=S) (h4:K*mc+N2=S) :
  L2+K*(N2+K*(T+mc))=P*c:=by
 rw[<-h1,Nat.add_mul,Nat.mul_assoc,hP2,hP3,<-h2,<-h3,Nat.mul_add,Nat.mul_add K (K*T) N]
 have e1:K*(K*(T+mc))=K*(K*T)+K*(K*mc):=by rw[Nat.mul_add,Nat.mul_add]
 have e2:K*S=K*(K*mc)+K*N2:=by rw[<-h4,Nat.mul_add]
 have e3:K*S=K*N+K*C:=by rw[<-hS,Nat.mul_add]
 omega
theorem jbk3 (x y:Nat) (w:World):(callFunc 160 #[.int .u64 x,.int .u64 y,.int .u64 0]).run Tryz.prog w =
  .ok (.value (.tuple #[.int .u64 (((x+y) % 18446744073709551616:Nat):Int),.int .u64 (((x+y)/18446744073709551616:Nat):Int)])) w:=by
 rw[run_callFunc_extern Tryz.func160 (by kernel_rfl) (by kernel_rfl) (by kernel_rfl) (e:=add64Entry) (by kernel_rfl),run_add64 x y 0 (by omega) (by omega) (by omega) (by omega)]
 simp only[Result.andThen]
 congr 5<;>omega
theorem jaf7 (a b c:Nat) (w:World) (ha:a<18446744073709551616) (hb:b<18446744073709551616) (hc:c<18446744073709551616) :
  Calls Tryz.prog 144 #[.int .u64 a,.int .u64 b,.int .u64 c] w λe w'=>∃(A:Option Addr) (n c':Nat),e=.returned (.slice A n c')/\LW w' A n c' (a*b*c)/\n<=6/\Below w.heap.size w w':=by
 have H1:=ja (λW=>Tryz.bits_Mul64 a b ha hb W)
 generalize hP:a*b=P at *
 have hH:P/18446744073709551616<18446744073709551616:=by
  rw[<-hP,Nat.div_lt_iff_lt_mul (by decide)]
  exact Nat.mul_lt_mul'' ha hb
 have hL:P % 18446744073709551616<18446744073709551616:=Nat.mod_lt _ (by decide)
 have hPd:=ja (Nat.div_add_mod P 18446744073709551616)
 generalize P/18446744073709551616=H at *
 generalize P % 18446744073709551616=L at *
 have H2:=ja (λW=>Tryz.bits_Mul64 H c hH hc W)
 generalize hP2:H*c=P2 at *
 have hT:P2/18446744073709551616<18446744073709551615:=by
  rw[<-hP2,Nat.div_lt_iff_lt_mul (by decide)]
  exact Nat.mul_lt_mul_of_le_of_lt (by omega) hc (by decide)
 have hN:P2 % 18446744073709551616<18446744073709551616:=Nat.mod_lt _ (by decide)
 have hPd2:=ja (Nat.div_add_mod P2 18446744073709551616)
 generalize P2/18446744073709551616=T at *
 generalize P2 % 18446744073709551616=N at *
 have H3:=ja (λW=>Tryz.bits_Mul64 L c hL hc W)
 generalize hP3:L*c=P3 at *
 have hC:P3/18446744073709551616<18446744073709551616:=by
  rw[<-hP3,Nat.div_lt_iff_lt_mul (by decide)]
  exact Nat.mul_lt_mul'' hL hc
 have hL2:P3 % 18446744073709551616<18446744073709551616:=Nat.mod_lt _ (by decide)
 have hPd3:=ja (Nat.div_add_mod P3 18446744073709551616)
 generalize P3/18446744073709551616=C at *
 generalize P3 % 18446744073709551616=L2 at *
 have hP:=ja hP;have hP2:=ja hP2;have hP3:=ja hP3
 go_enter Tryz.func144,Tryz.ntmps144
 go_wp2_with fail
 refine(H1.o _).mono ?_
 rintro e w1 ⟨rfl,hw1⟩;subst w1
 go_wp2_with fail
 refine(H2.o _).mono ?_
 rintro e w1 ⟨rfl,hw1⟩;subst w1
 go_wp2_with fail
 refine(H3.o _).mono ?_
 rintro e w1 ⟨rfl,hw1⟩;subst w1
 clear H1 H2 H3
 have HAD:=jbk3 N C w
 have hS:N+C<2*18446744073709551616:=by omega
 generalize hSd:N+C=S at *
 have hSd:=ja hSd
 have hmc:S/18446744073709551616<=1:=by omega
 have hN2:S % 18446744073709551616<18446744073709551616:=Nat.mod_lt _ (by decide)
 have hPd4:=ja (Nat.div_add_mod S 18446744073709551616)
 generalize S/18446744073709551616=mc at *
 generalize S % 18446744073709551616=N2 at *
 clear hS
 have htp:T+mc<18446744073709551616:=by omega
 have hwr:IntKind.u64.wrap ((T:Int)+(mc:Int))=((T+mc:Nat):Int):=by rw[IntKind.wrap_u64];omega
 have HV:=ja (jcs1 hPd.o hP2.o hPd2.o hP3.o hPd3.o hSd.o hPd4.o)
 generalize T+mc=tp at *
 have hq1:((tp:Int)/4294967296) % 4294967296=(tp:Int)/4294967296:=by omega
 have hds:Jy [L2 % 4294967296,L2/4294967296,N2 % 4294967296,N2/4294967296,tp % 4294967296,tp/4294967296]:=by
  intro d hd
  simp only[List.mem_cons,List.not_mem_nil,or_false] at hd
  rcases hd with rfl|rfl|rfl|rfl|rfl|rfl<;>omega
 have hvv:=val6 L2 N2 tp
 rw[HV.o] at hvv
 have hcs:#[Value.int .u32 ((L2:Int) % 4294967296),Value.int .u32 ((L2:Int)/4294967296),Value.int .u32 ((N2:Int) % 4294967296),Value.int .u32 ((N2:Int)/4294967296),Value.int .u32 ((tp:Int) % 4294967296),Value.int .u32 ((tp:Int)/4294967296)].toList=[L2 % 4294967296,L2/4294967296,N2 % 4294967296,N2/4294967296,tp % 4294967296,tp/4294967296].map Jl:=rfl
 generalize [L2 % 4294967296,L2/4294967296,N2 % 4294967296,N2/4294967296,tp % 4294967296,tp/4294967296]=ds at *
 have hrow:=World.ownsRow_lit (base:=w.heap.size) (e:=158) (size:=1) w #[Value.int .u32 ((L2:Int) % 4294967296),Value.int .u32 ((L2:Int)/4294967296),Value.int .u32 ((N2:Int) % 4294967296),Value.int .u32 ((N2:Int)/4294967296),Value.int .u32 ((tp:Int) % 4294967296),Value.int .u32 ((tp:Int)/4294967296)] 6 (Nat.le_refl _) (by unfold maxLen;omega) rfl
 rw[hcs] at hrow
 have HSH:=ja (QR _ _ _ _ ds _ (JJ.of_own hrow) hds)
 rw[hvv] at HSH
 clear hrow hcs hvv hds HV
 go_wp2_with fail
 refine HSH.o.mono ?_
 rintro e w5 ⟨n5,rfl,hw5,hn5,hw5'⟩
 subst w5
 go_wp2
 go_ret
 exact⟨_,n5,_,rfl,hw5,hn5,(Below.refl _ _).alloc (Nat.le_refl _) _⟩
attribute [local go_sem] Oper.semAt_some
def zX (ds:List Nat):Nat->List (Nat×Nat)
 | 0=>[]
 | k+1=>(k,ds.getD k 0)::zX ds k
def jby7(x:Nat×Nat):Array Value:=#[.int .i64 (x.1:Int),.int .u32 (x.2:Int)]
theorem zg.keepB{w w':World}{B n c:Nat}{A:Option Addr}{ds:List Nat}(h:zg w B A n c ds){R:Nat->Prop}(hk:KeepB R w w')(hR:∀ad,A=some ad->R ad.block):zg w' B A n c ds:=
 JJ.keep h λad ha=>hk.same _ (hR ad ha)
theorem jak4(args:Array Value)(w:World):(callFunc 185 args).run Tryz.prog w=.ok (.enter 185 args) w:=enters_of Tryz.func185 (by kernel_rfl) rfl args w
theorem jay0 (B1:Nat) (B:Nat) (A:Option Addr) (n c:Nat) (ds:List Nat) (w0:World) (h:zg w0 B A n c ds) (hB1:ZG w0 B1 149 (.slice A n c)) :
  jk6 Tryz.prog 185 #[.pointer (some ⟨B1,0,none⟩)] jby7 (λys=>ys=zX ds n) (λpre=>∃rest,pre++rest=zX ds n) (λb=>b=B1\/∃ad,A=some ad/\ad.block=b) 0 w0:=by
 intro l J Jx W hW hJ hJx hY h0
 have hm:=h.nmax
 have hl:=h.len
 have hBl:B1<w0.heap.size:=hB1.lt
 have HBX:=ja (hB1.below hW hBl)
 have HWD:=ja (JJ.below h hW (Nat.le_refl _))
 have hadl:=ja (λad (e:A=some ad)=>JJ.lt h e)
 have HW:=ja hW
 have HY:=ja hY
 have H0:=ja h0
 clear h hB1 hW hJ hJx hY h0
 subst hl
 refine callsIn_of_wp Tryz.func185 rfl trivial ?_
 simp only[Tryz.ntmps185,List.size_toArray,List.length_cons,List.length_nil,Nat.reduceAdd,Nat.reduceSub,Array.replicate_succ,Array.replicate_zero,List.push_toArray,List.append_toArray,List.nil_append,List.cons_append]
 have hcb:=HBX.o.cell
 gi_wp2
 gi_loopw [3] (λi V=>∃(k:Nat) (pre:List (Nat×Nat)),k<=ds.length/\i=.int .i64 ((k:Int)-1)/\pre++zX ds k=zX ds ds.length/\J pre V/\ZG V B1 149 (.slice A ds.length c)/\zg V B A ds.length c ds/\W.heap.size<=V.heap.size) (λi _=>(intOf i+1).toNat)
 case atStart=>exact⟨ds.length,[],by omega,rfl,rfl,H0.o,HBX.o,HWD.o,Nat.le_refl _⟩
 case round=>
  obtain⟨k,pre,hk,rfl,hp,hJp,hbx,hwd,hsz⟩:=hrel
  have HP:=ja hp
  have HJp:=ja hJp
  have HBX2:=ja hbx
  have HWD2:=ja hwd
  clear hp hJp hbx hwd hcb
  rcases Nat.eq_zero_or_pos k with rfl|hpos
  ·gi_wp2
   go_end0
   have hp:=HP.o
   simp only[zX,List.append_nil] at hp
   exact⟨⟨_,rfl⟩,.inl ⟨pre,hp,HJp.o⟩⟩
  ·obtain⟨j,rfl⟩:∃j,k=j+1:=⟨k-1,by omega⟩
   have hj:(((j+1:Nat):Int)-1)=(j:Int):=by omega
   rw[hj]
   have hlt:j<ds.length:=by omega
   have hlti:(j:Int)<(ds.length:Int):=by omega
   obtain⟨ad,rfl,hca⟩:=HWD2.o.at_ hlt
   have hcb:=HBX2.o.cell
   have hgd:ds[j]=ds.getD j 0:=by rw[List.getD_eq_getElem?_getD,List.getElem?_eq_getElem hlt];rfl
   rw[hgd] at hca
   have HP2:Hid ((pre++[(j,ds.getD j 0)])++zX ds j=zX ds ds.length):=ja (by rw[<-HP.o];simp[zX])
   obtain⟨fn,tm,as_,bd,hy,hR⟩:=HY.o pre (j,ds.getD j 0) wr ⟨_,HP2.o⟩ HJp.o (by omega)
   have HR:=ja hR;clear hR hgd
   simp only[jby7] at hy
   generalize ds.getD j 0=x at *
   gi_wp2
   refine⟨rfl,HR.o.mono ?_⟩
   rintro e V (⟨rfl,hJ',hk'⟩|⟨rfl,hJx',_⟩)
   ·have HJ':=ja hJ';clear hJ'
    have HK:=ja hk';clear hk'
    gi_wp2
    go_roundw
    case rel=>
     exact⟨j,pre++[(j,x)],by omega,rfl,HP2.o,HJ'.o,HBX2.o.of_block (HK.o.same _ (.inl (.inl rfl))),HWD2.o.keepB HK.o (λad' e=>.inl (.inr ⟨ad',e,rfl⟩)),by have:=HK.o.size;omega⟩
    case measure=>simp[intOf]
   ·have HJx':=ja hJx';clear hJx'
    gi_wp2
    refine bodyPost_ret (results_none rfl _ _ _) rfl ?_
    exact⟨⟨_,rfl⟩,.inr ⟨pre++[(j,x)],⟨_,HP2.o⟩,HJx'.o⟩⟩
attribute [local go_sem] Oper.semAt_some
theorem jac1(A:Option Addr)(n c:Nat)(w:World):Calls Tryz.prog 162 #[.slice A n c] w λe w'=>
  e=.returned (.func (.func 185) #[] #[.pointer (some ⟨w.heap.size,0,none⟩)])/\w'=w.alloc (.cells #[.slice A n c] 149):=by
 go_enter Tryz.func162,Tryz.ntmps162
 go_wp2
 go_ret
 exact⟨rfl,rfl⟩
theorem jbp8(A:Option Addr)(n c:Nat)(w:World):Calls Tryz.prog 145 #[.slice A n c] w λe w'=>
  e=.returned (.func (.func 161) #[] #[.pointer (some ⟨w.heap.size,0,none⟩)])/\w'=w.alloc (.cells #[.slice A n c] 149):=by
 go_enter Tryz.func145,Tryz.ntmps145
 go_wp2
 go_ret
 exact⟨rfl,rfl⟩
def zN (x:Nat):Nat->List Nat
 | 0=>[]
 | j+1=>x/4 ^ j % 4::zN x j
def zo(l:List (Nat×Nat)):List Nat:=l.flatMap λp=>zN p.2 16
def encP(x:Nat):Array Value:=#[.int .u32 (x:Int)]
theorem jar7(l:List (Nat×Nat))(p:Nat×Nat):zo (l++[p])=zo l++zN p.2 16:=by simp[zo,List.flatMap_append]
theorem jaj2 {ds:List Nat} (h:Jy ds):∀(k:Nat) (p:Nat×Nat),p∈zX ds k->p.2<4294967296
 | k+1,p,hp=>by
  rcases List.mem_cons.1 hp with rfl|hp
  ·exact jh7 h k
  ·exact jaj2 h k p hp
theorem jcd8(x j:Nat)(hx:x<4294967296):bits BinOp.and IntKind.u32 ((x:Int)/2 ^ (2*(j:Int)).toNat) 3=((x/4 ^ j % 4:Nat):Int):=by
 have e1:(2*(j:Int)).toNat=2*j:=by omega
 have h4:(2:Nat) ^ (2*j)=4 ^ j:=by rw[Nat.pow_mul]
 have h2:(2:Int) ^ (2*j)=((4 ^ j:Nat):Int):=by rw[<-h4,Int.natCast_pow];rfl
 have e2:(x:Int)/2 ^ (2*j)=((x/4 ^ j:Nat):Int):=by rw[h2,<-Int.natCast_ediv]
 have h5:x/4 ^ j<4294967296:=Nat.lt_of_le_of_lt (Nat.div_le_self _ _) hx
 rw[e1,e2]
 have h6:=Go.u32_and_nat (x/4 ^ j) 3 h5 (by decide)
 have h7:x/4 ^ j &&&3=x/4 ^ j % 4:=Nat.and_two_pow_sub_one_eq_mod (x/4 ^ j) 2
 rw[h7] at h6
 exact h6
theorem zp4{e:Ending}{p q:Prop}(h:(e=.returned (.bool true)/\p)\/(e=.returned (.bool false)/\q)):∃b:Bool,e=.returned (.bool b)/\(b=true->p)/\(b=false->q):=by
 rcases h with⟨rfl,h⟩|⟨rfl,h⟩
 ·exact⟨true,rfl,λ_=>h,by simp⟩
 ·exact⟨false,rfl,by simp,λ_=>h⟩
theorem jac7(args:Array Value)(w:World):(callFunc 161 args).run Tryz.prog w=.ok (.enter 161 args) w:=enters_of Tryz.func161 (by kernel_rfl) rfl args w
theorem jar8 (B1:Nat) (B:Nat) (A:Option Addr) (n c:Nat) (ds:List Nat) (w0:World) (h:zg w0 B A n c ds) (hB1:ZG w0 B1 149 (.slice A n c)) (hok:Jy ds) :
  jk6 Tryz.prog 161 #[.pointer (some ⟨B1,0,none⟩)] encP (λys=>ys=zo (zX ds n)) (λpre=>∃rest,pre++rest=zo (zX ds n)) (λb=>b=B1\/∃ad,A=some ad/\ad.block=b) 4 w0:=by
 intro l J Jx W hW hJ hJx hY h0
 have hm:=h.nmax
 have hl:=h.len
 have hBl:B1<w0.heap.size:=hB1.lt
 have HBX:=ja (hB1.below hW hBl)
 have HWD:=ja (JJ.below h hW (Nat.le_refl _))
 have hadl:=ja (λad (e:A=some ad)=>JJ.lt h e)
 have HW:=ja hW
 have HY:=ja hY
 have HJ:=ja hJ
 have HJx:=ja hJx
 have H0:=ja h0
 clear h hB1 hW hJ hJx hY h0
 subst hl
 have HBW:=ja (λn=>(callsIn_wide (n:=n)).2 (jac1 A ds.length c (W.alloc (.cells #[.func (.yield l) #[] #[]] 195))))
 refine callsIn_of_wp_marks Tryz.func161 rfl trivial ?_ rfl
 simp only[Tryz.ntmps161,List.size_toArray,List.length_cons,List.length_nil,Nat.reduceAdd,Nat.reduceSub,Array.replicate_succ,Array.replicate_zero,List.push_toArray,List.append_toArray,List.nil_append,List.cons_append]
 have hcb:∀o,(W.alloc o).cell? ⟨B1,0,none⟩=some (.slice A ds.length c):=λo=>(HBX.o.alloc o).cell
 gi_wp2_with fail
 refine⟨trivial,rfl,CallsIn.mono (HBW.o _) ?_⟩
 rintro e w1 ⟨rfl,rfl⟩
 gi_wp2_with fail
 have HBG:=ja (jay0 (W.heap.size+1) B A ds.length c ds ((W.alloc (.cells #[.func (.yield l) #[] #[]] 195)).alloc (.cells #[.slice A ds.length c] 149)) (JJ.alloc (JJ.alloc HWD.o _) _) (by have:=ZG.new (W.alloc (.cells #[.func (.yield l) #[] #[]] 195)) 149 (.slice A ds.length c);simpa using this))
 refine QV (gf:=185) rfl jak4 HBG.o (w0:=(W.alloc (.cells #[.func (.yield l) #[] #[]] 195)).alloc (.cells #[.slice A ds.length c] 149)) (Below.refl _ _) ?_ (λ_=>rfl)
  (λpre V=>J (zo pre) V/\ZG V W.heap.size 195 (.func (.yield l) #[] #[])/\W.heap.size+2<=V.heap.size) (λcd pre V=>cd=.ret/\∃pr,(∃rest,pr++rest=zo (zX ds ds.length))/\Jx pr V) ?_ ?_ ?_ ?_ ?_ ?_
 ·rintro b (rfl|⟨ad,e,rfl⟩)
  ·simp
  ·have h1:=hadl.o ad e;have h2:=HW.o.size;simp;omega
 ·rintro s V V' row ⟨h1,h2,h3⟩ hg hr
  simp only[World.size_alloc] at hr
  refine⟨HJ.o _ _ _ _ h1 hg (λb e=>by have:=hr b e;omega),h2.grown hg (λe=>by have:=hr _ e;omega),Nat.le_trans h3 hg.size⟩
 ·rintro cd s V V' row ⟨h1,pr,h2,h3⟩ hg hr
  simp only[World.size_alloc] at hr
  exact⟨h1,pr,h2,HJx.o _ _ _ _ h3 hg (λb e=>by have:=hr b e;omega)⟩
 ·refine⟨HJ.o _ _ _ none (HJ.o _ _ _ none H0.o (World.grownBy_alloc _ _ _) (by simp)) (World.grownBy_alloc _ _ _) (by simp),(ZG.new W _ _).alloc _,by simp⟩
 ·rintro pre x V hsp ⟨hj,hbx,hvz⟩ hsz
  simp only[World.size_alloc] at hsz ⊢
  have HJp:=ja hj
  have HBXV:=ja hbx
  have HSP:=ja hsp
  clear hj hbx hsp
  obtain⟨xi,xw⟩:=x
  simp only[jby7]
  gi_wp2
  refine⟨KeepB.refl _ _,?_⟩
  intro V2 hg2 hzz
  have HJ2:=ja (HJ.o _ _ _ _ HJp.o hg2 (λb e=>by cases e;omega))
  have HB2:=ja (HBXV.o.grown hg2 (by simp;omega))
  have hz2:W.heap.size+4<=V2.heap.size:=by omega
  clear HJp HBXV hg2 hzz hcb
  gi_wp2
  gi_loopw [5] (λi U=>∃(k:Nat) (out:List Nat),k<=16/\i=.int .i64 (2*(k:Int)-2)/\out++zN xw k=zN xw 16/\J (zo pre++out) U/\ZG U W.heap.size 195 (.func (.yield l) #[] #[]) /\
   KeepB (λb=>(b=W.heap.size+1\/∃ad,A=some ad/\ad.block=b)\/(W.heap.size+1+1<=b/\b<W.heap.size+1+1+2+0)) V2 U) (λi _=>(intOf i+2).toNat)
  case atStart=>exact⟨16,[],by omega,rfl,rfl,by simpa using HJ2.o,HB2.o,KeepB.refl _ _⟩
  case round=>
   obtain⟨k,out,hk,rfl,ho,hj,hbx,hkp⟩:=hrel
   have HO:=ja ho
   have HJU:=ja hj
   have HBU:=ja hbx
   have HKU:=ja hkp
   have hkz:=hkp.size
   clear ho hj hbx hkp HJ2 HB2
   rcases Nat.eq_zero_or_pos k with rfl|hpos
   ·gi_wp2
    refine⟨HKU.o,?_,HBU.o,by omega⟩
    have h1:out++zN xw 0=zN xw 16:=HO.o
    rw[show zN xw 0=[] from rfl,List.append_nil] at h1
    rw[jar7,<-h1]
    exact HJU.o
   ·obtain⟨j,rfl⟩:∃j,k=j+1:=⟨k-1,by omega⟩
    have hj2:(2*((j+1:Nat):Int)-2)=(2*j:Int):=by omega
    rw[hj2]
    obtain⟨rest,hrest⟩:=HSP.o
    have hsp':∃rest,((zo pre++out)++[xw/4 ^ j % 4])++rest=zo (zX ds ds.length):=by
     refine⟨zN xw j++zo rest,?_⟩
     have h1:out++(xw/4 ^ j % 4::zN xw j)=zN xw 16:=HO.o
     rw[<-hrest]
     simp only[zo,List.flatMap_append,List.flatMap_cons,List.flatMap_nil,List.append_nil]
     rw[<-h1]
     simp
    obtain⟨fn,tm,as_,bd,hy,hR⟩:=HY.o (zo pre++out) (xw/4 ^ j % 4) wr.drew hsp' (HJ.o _ _ _ none HJU.o (zg3 (jac9 _ _)) (by simp)) (by show _<=wr.heap.size;omega)
    have HR:=ja hR;clear hR
    simp only[encP] at hy
    have hcb:=HBU.o.cell
    have hxw:xw<4294967296:=jaj2 hok ds.length (xi,xw) (by rw[<-hrest];simp)
    have hbits:=jcd8 xw j hxw
    have HO2:Hid ((out++[xw/4 ^ j % 4])++zN xw j=zN xw 16):=ja (by
     have h1:out++(xw/4 ^ j % 4::zN xw j)=zN xw 16:=HO.o
     rw[<-h1];simp)
    have hsp2:=ja hsp'
    clear HO hsp' hrest
    generalize xw/4 ^ j % 4=p at *
    gi_wp2
    gi_region_with (first
     | (refine⟨rfl,HR.o.mono ?_⟩
        rintro e V3 hV3
        obtain⟨bb,rfl,hT,hF⟩:=zp4 hV3))
    all_goals
     have hbx3:bb=true->ZG V3 W.heap.size 195 (.func (.yield l) #[] #[]):=λe=>HBU.o.of_block ((hT e).2.same _ (.inr (by omega)))
     have HT:=ja hT;have HF:=ja hF;have HBX3:=ja hbx3
     clear hT hF hbx3
     have hkeep:∀(K:KeepB (λb=>(b=B1\/∃ad,A=some ad/\ad.block=b)\/W.heap.size<=b/\b<W.heap.size+4) wr.drew V3),KeepB (λb=>(b=W.heap.size+1\/∃ad,A=some ad/\ad.block=b)\/(W.heap.size+1+1<=b/\b<W.heap.size+1+1+2+0)) V2 V3:=λK=>
      (HKU.o.drewN 1).trans (K.mono (by rintro b ((h|h)|h);exact .inr (by omega);exact .inl (.inr h);exact .inr (by omega)))
     have hkeep:=ja hkeep
     cases bb
     ·gi_wp2
      have h:=HF.o (by first|rfl|trivial)
      exact⟨hkeep.o h.2,rfl,_,hsp2.o,h.1⟩
     ·gi_wp2
      go_roundw
      case rel=>
       have h:=HT.o (by first|rfl|trivial)
       exact⟨j,out++[p],by omega,by go_num,HO2.o,by rw[<-List.append_assoc];exact h.1,HBX3.o (by first|rfl|trivial),hkeep.o h.2⟩
      case measure=>simp[intOf];omega
 ·rintro xs V hS ⟨hj,hbx,hvz⟩ hD
  simp only[World.size_alloc] at hD
  have HJp:=ja hj
  have HD:=ja hD
  clear hj hD hbx
  simp only[World.size_alloc]
  gi_wp2
  refine⟨by simp,.inl ⟨_,_,rfl,run_takeDeferred HD.o,?_⟩⟩
  refine⟨_,results_none rfl _ _ _,⟨_,rfl⟩,.inl ⟨_,by rw[<-hS],HJ.o _ _ _ _ HJp.o (jZ _ _) (λb e=>by cases e;omega)⟩⟩
 ·rintro cd pre V hsp ⟨rfl,pr,hpr,hjx⟩ hD
  simp only[World.size_alloc] at hD
  have HJp:=ja hjx
  have HD:=ja hD
  clear hjx hD
  simp only[World.size_alloc]
  gi_wp2
  refine⟨by simp,.inl ⟨_,_,rfl,run_takeDeferred HD.o,?_⟩⟩
  exact⟨_,results_none rfl _ _ _,⟨_,rfl⟩,.inr ⟨pr,hpr,HJx.o _ _ _ _ HJp.o (jZ _ _) (λb e=>by cases e;omega)⟩⟩
attribute [local go_sem] Oper.semAt_some
def Jn(v R T:Nat):Prop:=R*R+T=v/\T<=2*R
theorem jaa3{v R T d:Nat}(h:Jn v R T)(hd:d<4):Jn (4*v+d) (zc4 R T d) (zc5 R T d):=by
 obtain⟨h1,h2⟩:=h
 unfold Jn zc4 zc5
 by_cases hc:R*4+1<=T*4+d
 ·rw[if_pos hc,if_pos hc]
  have e:(R*2+1)*(R*2+1)=4*(R*R)+4*R+1:=by
   rw[Nat.mul_add,Nat.add_mul,Nat.mul_one,Nat.one_mul]
   have:R*2*(R*2)=4*(R*R):=by rw[Nat.mul_mul_mul_comm,Nat.mul_comm (R*R)]
   omega
  omega
 ·rw[if_neg hc,if_neg hc]
  have e:(R*2)*(R*2)=4*(R*R):=by rw[Nat.mul_mul_mul_comm,Nat.mul_comm (R*R)]
  omega
def zy9(s:Nat×Nat)(d:Nat):Nat×Nat:=(zc4 s.1 s.2 d,zc5 s.1 s.2 d)
def QD(l:List Nat):Nat×Nat:=l.foldl zy9 (0,0)
theorem jas7(l:List Nat)(d:Nat):QD (l++[d])=zy9 (QD l) d:=by simp[QD,List.foldl_append]
def zp8(v:Nat)(l:List Nat):Nat:=l.foldl (λp d=>4*p+d) v
theorem jaa2:∀(l:List Nat) (v:Nat) (s:Nat×Nat),Jn v s.1 s.2->(∀d∈l,d<4)->Jn (zp8 v l) (l.foldl zy9 s).1 (l.foldl zy9 s).2
 | [],v,s,h,_=>h
 | d::l,v,s,h,hl=>jaa2 l (4*v+d) (zy9 s d) (jaa3 h (hl d (by simp))) (λx hx=>hl x (List.mem_cons_of_mem _ hx))
theorem zz5:∀(x k d:Nat),d∈zN x k->d<4
 | x,k+1,d,h=>by
  rcases List.mem_cons.1 h with rfl|h
  ·omega
  ·exact zz5 x k d h
theorem zm7:∀(x k v:Nat),zp8 v (zN x k)=v*4 ^ k+x % 4 ^ k
 | x,0,v=>by simp[zN,zp8,Nat.mod_one]
 | x,k+1,v=>by
  have h:=zm7 x k (4*v+x/4 ^ k % 4)
  have h1:zp8 v (zN x (k+1))=zp8 (4*v+x/4 ^ k % 4) (zN x k):=rfl
  rw[h1,h,Nat.pow_succ,Nat.add_mul,Nat.mod_mul,Nat.mul_comm (4 ^ k) (x/4 ^ k % 4),Nat.mul_assoc 4 v,Nat.mul_comm 4,Nat.mul_assoc v]
  omega
theorem jav0(v:Nat)(a b:List Nat):zp8 v (a++b)=zp8 (zp8 v a) b:=by simp[zp8,List.foldl_append]
theorem zm6 (ds:List Nat) (hok:Jy ds):∀(k v:Nat),k<=ds.length->zp8 v (zo (zX ds k))=v*4294967296 ^ k+jF (ds.take k)
 | 0,v,_=>by simp[zX,zo,zp8,jF]
 | k+1,v,hk=>by
  have h1:zo (zX ds (k+1))=zN (ds.getD k 0) 16++zo (zX ds k):=by simp[zo,zX]
  have h3:(4:Nat) ^ 16=4294967296:=by decide
  have h2:=zm7 (ds.getD k 0) 16 v
  rw[h3,Nat.mod_eq_of_lt (jh7 hok k)] at h2
  rw[h1,jav0,h2,zm6 ds hok k _ (by omega),JT,Nat.pow_succ,Nat.add_mul,Nat.mul_assoc v,Nat.mul_comm 4294967296 (4294967296 ^ k),Nat.mul_comm (ds.getD k 0)]
  omega
theorem zm5:∀(ds:List Nat) (k:Nat),(zo (zX ds k)).length=16*k
 | ds,0=>rfl
 | ds,k+1=>by
  have h1:zo (zX ds (k+1))=zN (ds.getD k 0) 16++zo (zX ds k):=by simp[zo,zX]
  have h2:∀x j,(zN x j).length=j:=by
   intro x j
   induction j with
   | zero=>rfl
   | succ j ih=>simp[zN,ih]
  rw[h1,List.length_append,h2,zm5 ds k];omega
theorem zz4(ds:List Nat)(k d:Nat)(h:d∈zo (zX ds k)):d<4:=by
 simp only[zo,List.mem_flatMap] at h
 obtain⟨p,_,hd⟩:=h
 exact zz5 _ _ _ hd
theorem zn3(v:Nat):Jn v (QD (zo (zX (dig v) (dig v).length))).1 (QD (zo (zX (dig v) (dig v).length))).2:=by
 have h:=jaa2 (zo (zX (dig v) (dig v).length)) 0 (0,0) ⟨rfl,Nat.le_refl _⟩ (λd hd=>zz4 _ _ _ hd)
 rw[zm6 _ (qS v) _ _ (Nat.le_refl _),List.take_length,ZI] at h
 simpa [QD] using h
attribute [local go_sem] Oper.semAt_some
theorem jS.row{w w':World}{F r R T L:Nat}(h:jS w F r R T L){row:Option Nat}(hg:w.grownBy w' row)(hr:∀b,row=some b->b≠r/\b<F):jS w' F r R T L:=by
 obtain⟨A,n,c,A2,n2,c2,h1,h2,h3,h4,h5,h6,h7⟩:=h
 exact⟨A,n,c,A2,n2,c2,h1.grown hg (λe=>(hr _ e).1 rfl),h2.grown hg (λad ha e=>by have:=(hr _ e.symm).2;have:=h6 ad ha;omega),h3.grown hg (λad ha e=>by have:=(hr _ e.symm).2;have:=h7 ad ha;omega),h4,h5,h6,h7⟩
theorem jS.less{w:World}{F F' r R T L L':Nat}(h:jS w F r R T L)(hF:F'<=F)(hL:L<=L'):jS w F' r R T L':=by
 obtain⟨A,n,c,A2,n2,c2,h1,h2,h3,h4,h5,h6,h7⟩:=h
 exact⟨A,n,c,A2,n2,c2,h1,h2,h3,by omega,by omega,λad ha=>Nat.le_trans hF (h6 ad ha),λad ha=>Nat.le_trans hF (h7 ad ha)⟩
theorem jbs4 (coef n:Int) (w:World) (hc:-4000000000000000000<=coef/\coef<=4000000000000000000) (hn:0<=n/\n<=4000000000000000000) :
  Calls Tryz.prog 113 #[.int .i64 coef,.int .i64 n] w λe w'=>∃r R T,e=.returned (.pointer (some ⟨r,0,none⟩))/\w.heap.size<=r/\jS w' w.heap.size r R T 96/\Jn (coef.natAbs*coef.natAbs*n.toNat) R T/\Below w.heap.size w w':=by
 obtain⟨m,rfl⟩:=Int.eq_ofNat_of_zero_le hn.1
 obtain⟨ca,hca⟩:∃ca,ca=coef.natAbs:=⟨_,rfl⟩
 have hmx:max coef (-coef)=(ca:Int):=by omega
 have hcab:ca<=4000000000000000000:=by omega
 rw[<-hca,Int.toNat_natCast]
 clear hca
 have HPR:=ja (λn W=>(callsIn_wide (n:=n)).2 (jaf7 ca ca m W (by omega) (by omega) (by omega)))
 refine(callsIn_wide (n:=0)).1 ?_
 refine callsIn_of_wp_marks Tryz.func113 rfl trivial ?_ rfl
 simp only[Tryz.ntmps113,List.size_toArray,List.length_cons,List.length_nil,Nat.reduceAdd,Nat.reduceSub,Array.replicate_succ,Array.replicate_zero,List.push_toArray,List.append_toArray,List.nil_append,List.cons_append]
 have HPA:=ja (λn A k c W=>(callsIn_wide (n:=n)).2 (jbp8 A k c W))
 have HBX:=ja ((ZG.new (w.alloc (.cells #[.slice none 0 0,.slice none 0 0] 154)) 146 (.pointer (some ⟨w.heap.size,0,none⟩))))
 have HRT:=ja ((jh.new w 154 #[.slice none 0 0,.slice none 0 0]).alloc (.cells #[.pointer (some ⟨w.heap.size,0,none⟩)] 146))
 have HB0:=ja (((Below.refl w.heap.size w).alloc (Nat.le_refl _) (.cells #[.slice none 0 0,.slice none 0 0] 154)).alloc (by simp) (.cells #[.pointer (some ⟨w.heap.size,0,none⟩)] 146))
 gi_wp2_with fail
 refine⟨trivial,rfl,CallsIn.mono (HPR.o _ _) ?_⟩
 rintro e w1 ⟨A,n1,c1,rfl,hw1,hn1,hb1⟩
 simp only[World.size_alloc] at hb1 HBX
 have hz1:=hb1.size
 simp only[World.size_alloc] at hz1
 have HBX1:=ja (HBX.o.below hb1 (by omega))
 have HRT1:=ja (HRT.o.below hb1 (by omega))
 have HB1:=ja (HB0.o.trans (hb1.mono (by omega)))
 have HW1:=ja hw1
 clear HBX HRT HB0 hb1 hw1 HPR
 gi_wp2_with fail
 refine⟨trivial,rfl,CallsIn.mono (HPA.o _ _ _ _ _) ?_⟩
 rintro e w2 ⟨rfl,rfl⟩
 have HBX2:=ja (HBX1.o.alloc (.cells #[.slice A n1 c1] 149))
 have HRT2:=ja (HRT1.o.alloc (.cells #[.slice A n1 c1] 149))
 have HB2:=ja (HB1.o.alloc HB1.o.size (.cells #[.slice A n1 c1] 149))
 have hl:=zg.len HW1.o
 have hane:=ja (λad (e:A=some ad)=>LW.ne HW1.o HRT1.o (by decide) e)
 have HG:=ja (jar8 w1.heap.size _ A n1 c1 (dig (ca*ca*m)) (w1.alloc (.cells #[.slice A n1 c1] 149)) (JJ.alloc HW1.o _) (ZG.new w1 _ _) (qS _))
 have hval:=ja (zn3 (ca*ca*m))
 have hpl:=zm5 (dig (ca*ca*m)) n1
 have hplt:=ja (zz4 (dig (ca*ca*m)) n1)
 rw[hl] at hval
 generalize zo (zX (dig (ca*ca*m)) n1)=ps at *
 have hadl:=ja (λad (e:A=some ad)=>JJ.lt HW1.o e)
 gi_wp2_with fail
 refine QV (gf:=161) rfl jac7 HG.o (w0:=w1.alloc (.cells #[.slice A n1 c1] 149)) (Below.refl _ _) ?_ (λ_=>rfl)
  (λpre V=>jS V (w1.heap.size+7) w.heap.size (QD pre).1 (QD pre).2 pre.length/\ZG V (w.heap.size+1) 146 (.pointer (some ⟨w.heap.size,0,none⟩))/\Below w.heap.size w V) (λ_ _ _=>False) ?_ ?_ ?_ ?_ ?_ ?_
 ·rintro b (rfl|⟨ad,e,rfl⟩)
  ·simp
  ·have h1:=hadl.o ad e;simp;omega
 ·rintro s V V' row ⟨h1,h2,h3⟩ hg hr
  simp only[World.size_alloc] at hr
  exact⟨h1.row hg (λb e=>by have:=hr b e;omega),h2.grown hg (λe=>by have:=hr _ e;omega),h3.grown hg h3.size (λj e=>by have:=hr j e;omega)⟩
 ·rintro _ _ _ _ _ h;exact h.elim
 ·exact⟨⟨none,0,0,none,0,0,HRT2.o,LW.nil_ _,LW.nil_ _,Nat.le_refl _,Nat.le_refl _,by simp,by simp⟩,HBX2.o,HB2.o⟩
 ·rintro pre x V hsp ⟨hrt,hbx,hbl⟩ hsz
  simp only[World.size_alloc] at hsz ⊢
  obtain⟨rest,hrest⟩:=hsp
  have hx4:x<4:=hplt.o x (by rw[<-hrest];simp)
  have hpl2:pre.length+1<=96:=by
   have:=congrArg List.length hrest
   simp at this
   omega
  clear hrest
  have HRTV:=ja hrt
  have HBXV:=ja hbx
  have HBV:=ja hbl
  clear hrt hbx hbl
  simp only[encP]
  gi_wp2
  refine⟨KeepB.refl _ _,?_⟩
  intro V2 hg2 hzz
  have HRT3:=ja (HRTV.o.row hg2 (λb e=>by cases e;omega))
  have HBX3:=ja (HBXV.o.grown hg2 (by simp;omega))
  have HB3:=ja (HBV.o.grown hg2 HBV.o.size (λj e=>by cases e;omega))
  have hz3:w1.heap.size+7<=V2.heap.size:=by omega
  clear HRTV HBXV HBV hg2 hzz
  have hcb:=HBX3.o.cell
  have HNX:=ja (λn=>(callsIn_wide (n:=n)).2 (jap6 (w1.heap.size+7) w.heap.size _ _ _ x V2 HRT3.o (by omega) (by omega) hx4))
  gi_wp2_with fail
  refine⟨trivial,rfl,CallsIn.mono (CallsIn.inRound _ (HNX.o _)) ?_⟩
  rintro e V3 ⟨rfl,hr3,hg3⟩
  have HR3:=ja hr3
  have HG3:=ja hg3
  clear hr3 hg3 HNX hcb
  gi_wp2
  refine⟨KeepB.of_grown HG3.o ?_ ?_,?_,HBX3.o.grown HG3.o (by simp),HB3.o.grown HG3.o HB3.o.size (λj e=>by cases e;exact Nat.le_refl _)⟩
  ·rintro b ((rfl|⟨ad,e,rfl⟩)|h)
   ·omega
   ·have:=hadl.o ad e;omega
   ·omega
  ·rintro b hb' ((rfl|⟨ad,e,rfl⟩)|h)
   ·injection hb' with hb';omega
   ·injection hb' with hb';exact hane.o ad e hb'.symm
   ·injection hb' with hb';omega
  ·rw[jas7,List.length_append]
   exact HR3.o
 ·rintro xs V rfl ⟨hrt,hbx,hbl⟩ hD
  simp only[World.size_alloc] at hD
  have HR:=ja hrt
  have HB:=ja hbl
  have HD:=ja hD
  have hcb:=hbx.cell
  clear hrt hbx hbl hD
  simp only[World.size_alloc]
  gi_wp2
  refine⟨by simp,.inl ⟨_,_,rfl,run_takeDeferred HD.o,?_⟩⟩
  refine⟨_,results_tmp rfl _ _ _,w.heap.size,_,_,rfl,Nat.le_refl _,(HR.o.row (jZ _ _) (λb e=>by cases e;omega)).less (by omega) (by omega),hval.o,HB.o.grown (jZ _ _) HB.o.size (λj e=>by cases e;omega)⟩
 ·rintro _ _ _ _ h;exact h.elim
