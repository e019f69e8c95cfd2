import Derived.Test.YtphcodcdfeohhaaGreatDoorOrdBToSgn
set_option linter.all false
namespace Go.Proofs.YtphcodcdfeohhaaGreatDoor
set_option maxRecDepth 100000
set_option maxHeartbeats 8000000
open Go.RowKit
theorem jbj7(x:Int):∃q,IntKind.i64.wrap x=x+q*18446744073709551616:=⟨-((x+9223372036854775808)/18446744073709551616),by rw[IntKind.wrap_i64];omega⟩
theorem jav5(z r:Int):IntKind.i64.wrap (z+r*18446744073709551616)=IntKind.i64.wrap z:=by rw[IntKind.wrap_i64,IntKind.wrap_i64];omega
theorem jcm4(x y:Int):IntKind.i64.wrap (IntKind.i64.wrap x*y)=IntKind.i64.wrap (x*y):=by
 obtain⟨q,hq⟩:=jbj7 x
 rw[hq,Int.add_mul,Int.mul_right_comm,jav5]
theorem jbf5(x y:Int):IntKind.i64.wrap (x+IntKind.i64.wrap y)=IntKind.i64.wrap (x+y):=by
 obtain⟨q,hq⟩:=jbj7 y
 rw[hq,<-Int.add_assoc,jav5]
def mulK(t u:Int×Int):Int:=((t.2.toNat/jM [t.2,u.2]*(u.2.toNat/jM [t.2,u.2]):Nat):Int)
def jc6(t u:Int×Int):Int:=t.1*u.1*(jM [t.2,u.2]:Int)
def Zo(kv:List (Int×Int))(t:Int×Int)(b:List (Int×Int)):List (Int×Int):=b.foldl (λkv u=>addS kv (mulK t u) (jc6 t u)) kv
def Jq(kv a b:List (Int×Int)):List (Int×Int):=a.foldl (λkv t=>Zo kv t b) kv
theorem jbc2(kv:List (Int×Int))(t:Int×Int)(b:List (Int×Int))(u:Int×Int):Zo kv t (b++[u])=addS (Zo kv t b) (mulK t u) (jc6 t u):=by simp[Zo,List.foldl_append]
theorem jbc3(kv a b:List (Int×Int))(t:Int×Int):Jq kv (a++[t]) b=Zo (Jq kv a b) t b:=by simp[Jq,List.foldl_append]
theorem zm9 {N:Int} (hN:0<=N) (t:Int×Int):∀(b kv:List (Int×Int)) (M:Int),zB kv M->(∀u∈b,-N<=jc6 t u/\jc6 t u<=N)->zB (Zo kv t b) (M+b.length*N)
 | [],kv,M,h,_=>by simpa [Zo] using h
 | u::b,kv,M,h,hl=>by
  have h1:=zB.addS h (hl u (by simp)) (mulK t u)
  have h2:=zm9 hN t b _ _ h1 (λu hu=>hl u (List.mem_cons_of_mem _ hu))
  simp only[Zo,List.foldl_cons,List.length_cons] at h2 ⊢
  refine h2.mono ?_
  rw[Int.natCast_add,Int.add_mul];simp;omega
theorem jt6 {N:Int} (hN:0<=N) (b:List (Int×Int)):∀(a kv:List (Int×Int)) (M:Int),zB kv M->(∀t∈a,∀u∈b,-N<=jc6 t u/\jc6 t u<=N)->zB (Jq kv a b) (M+a.length*(b.length*N))
 | [],kv,M,h,_=>by simpa [Jq] using h
 | t::a,kv,M,h,hl=>by
  have h1:=zm9 hN t b kv M h (hl t (by simp))
  have h2:=jt6 hN b a _ _ h1 (λt ht=>hl t (List.mem_cons_of_mem _ ht))
  simp only[Jq,List.foldl_cons,List.length_cons] at h2 ⊢
  refine h2.mono ?_
  rw[Int.natCast_add,Int.add_mul];simp;omega
theorem zz8 (t:Int×Int):∀(b kv:List (Int×Int)),(Zo kv t b).length<=kv.length+b.length
 | [],kv=>by simp[Zo]
 | u::b,kv=>by
  have h1:=jd4 kv (mulK t u) (jc6 t u)
  have h2:=zz8 t b (addS kv (mulK t u) (jc6 t u))
  simp only[Zo,List.foldl_cons,List.length_cons] at h2 ⊢
  omega
theorem za2 (b:List (Int×Int)):∀(a kv:List (Int×Int)),(Jq kv a b).length<=kv.length+a.length*b.length
 | [],kv=>by simp[Jq]
 | t::a,kv=>by
  have h1:=zz8 t b kv
  have h2:=za2 b a (Zo kv t b)
  simp only[Jq,List.foldl_cons,List.length_cons] at h2 ⊢
  rw[Nat.add_mul];omega
theorem jbm6(w:World)(x y:Int):qP (w.alloc (.cells #[.int .i64 x,.int .i64 y] 3)) (w.heap.size+1) (some ⟨w.heap.size,0,none⟩) 2 2 [x,y]:=by
 have h:=Rd.of_own (World.ownsRow_lit (base:=0) (e:=3) (size:=1) w #[.int .i64 x,.int .i64 y] 2 (Nat.zero_le _) (by unfold maxLen;omega) rfl)
 rw[World.size_alloc] at h
 exact h
theorem jcj2{a L j k:Nat}{N X:Int}(hN:0<=N)(hj:j<a)(hk:k<L)(h:(a:Int)*((L:Int)*N)<=X):0+(j:Int)*((L:Int)*N)+(k:Int)*N<=X-N:=by
 have h1:((k:Int)+1)*N<=(L:Int)*N:=Int.mul_le_mul_of_nonneg_right (by omega) hN
 have h2:((j:Int)+1)*((L:Int)*N)<=(a:Int)*((L:Int)*N):=Int.mul_le_mul_of_nonneg_right (by omega) (Int.mul_nonneg (by omega) hN)
 rw[Int.add_mul,Int.one_mul] at h1 h2
 omega
theorem jcb5(c d:Int)(r1 r2:Nat):mulK (c,(r1:Int)) (d,(r2:Int))=((r1/jM [(r1:Int),(r2:Int)]*(r2/jM [(r1:Int),(r2:Int)]):Nat):Int):=by
 unfold mulK;rw[Int.toNat_natCast,Int.toNat_natCast]
theorem zd0 (xA:Option Addr) (xn xc:Nat) (xt:List (Int×Int)) (yA:Option Addr) (yn yc:Nat) (yt:List (Int×Int)) (B:Nat) (w:World) (hx:ji w B xA xn xc xt) (hy:ji w B yA yn yc yt) (hB:B<=w.heap.size)
  (hlx:xt.length<=4) (hly:yt.length<=4) (N:Int) (hN:0<=N) (hNN:xt.length*(yt.length*N)<=9000000000000000000) (hrx:∀t∈xt,1<=t.2/\t.2<=1000) (hry:∀t∈yt,1<=t.2/\t.2<=1000) (hcx:∀t∈xt,∀u∈yt,(-N<=jc6 t u/\jc6 t u<=N)/\-9000000000000000000<=t.1*u.1/\t.1*u.1<=9000000000000000000) :
  Calls Tryz.prog 79 #[.slice xA xn xc,.slice yA yn yc] w λe w'=>e=.returned (.map (some w.heap.size))/\zH w' w.heap.size (Jq [] xt yt)/\Below w.heap.size w w':=by
 have hlx':=hx.len
 have hly':=hy.len
 subst hlx'
 subst hly'
 have HRX:=ja hrx;have HRY:=ja hry;have HCX:=ja hcx
 have HX:=ja (Rd.alloc hx hB (.map #[] 0));have HY:=ja (Rd.alloc hy hB (.map #[] 0))
 have HM0:Hid (zH (w.alloc (.map #[] 0)) w.heap.size []):=ja (jt.new w)
 have HB0:=ja ((Below.refl w.heap.size w).alloc (Nat.le_refl _) (.map #[] 0))
 clear hrx hry hcx hx hy
 go_enter Tryz.func79,Tryz.ntmps79
 go_wp2_with (first
  | (refine zi _ rfl _ rfl ?_))
 go_loopw [14] (λi W=>∃j:Nat,j<=xt.length/\i=.int .i64 j/\zH W w.heap.size (Jq [] (xt.take j) yt)/\ji W B xA xt.length xc xt/\ji W B yA yt.length yc yt/\Below w.heap.size w W) (λi _=>xt.length-(intOf i).toNat)
 case atStart=>exact⟨0,by omega,rfl,HM0.o,HX.o,HY.o,HB0.o⟩
 case round=>
  obtain⟨j,hj,rfl,hm,hx,hy,hb⟩:=hrel
  have hlm:=jt.lt hm
  by_cases hlt:j<xt.length
  ·obtain⟨ad,had,hc0,hc1⟩:=hx.at_ hlt
   subst had
   have hbt:=HRX.o xt[j] (List.getElem_mem hlt)
   have hS:=ja (show Jq [] (xt.take (j+1)) yt=Zo (Jq [] (xt.take j) yt) xt[j] yt by rw[jw _ j hlt,jbc3])
   have hbd:=jt6 hN yt (xt.take j) [] 0 zB.nil (λt ht=>λu hu=>(HCX.o t (List.mem_of_mem_take ht) u hu).1)
   have hcc:=HCX.o xt[j] (List.getElem_mem hlt)
   have htl:((xt.take j).length:Int)=j:=by simp;omega
   rw[htl] at hbd
   generalize xt[j]=t at *
   obtain⟨co,ro⟩:=t
   dsimp only at hc0 hc1 hbt hcc
   obtain⟨r1,rfl⟩:=Int.eq_ofNat_of_zero_le (show 0<=ro by omega)
   have HCC:=ja hcc
   have HBD:=ja hbd
   have HX1:=ja (Rd.alloc hx (by omega) (.cells #[.int .i64 co,.int .i64 (r1:Int)] 59))
   have HY1:=ja (Rd.alloc hy (by omega) (.cells #[.int .i64 co,.int .i64 (r1:Int)] 59))
   have HB1:=ja (hb.alloc hb.size (.cells #[.int .i64 co,.int .i64 (r1:Int)] 59))
   have HM1:Hid (zH (wr.alloc (.cells #[.int .i64 co,.int .i64 (r1:Int)] 59)) w.heap.size (Jq [] (xt.take j) yt)):=ja (jt.alloc hm _)
   have HT1:=ja (jh.new wr 59 #[.int .i64 co,.int .i64 (r1:Int)])
   obtain⟨P,hP⟩:∃P,P=wr.heap.size:=⟨_,rfl⟩
   rw[<-hP] at HT1
   have hPm:w.heap.size<P:=by omega
   generalize Jq [] (xt.take j) yt=kv at *
   clear hcc hbd hx hy hb hm hlm HX HY HM0 HB0 htl
   go_wp2
   rw[<-hP]
   clear hP
   go_loopw [20] (λi W=>∃k:Nat,k<=yt.length/\i=.int .i64 k/\zH W w.heap.size (Zo kv (co,(r1:Int)) (yt.take k))/\jh W P 59 #[.int .i64 co,.int .i64 (r1:Int)]/\ji W B (some ad) xt.length xc xt/\ji W B yA yt.length yc yt/\Below w.heap.size w W) (λi _=>yt.length-(intOf i).toNat)
   case atStart=>exact⟨0,by omega,rfl,HM1.o,HT1.o,HX1.o,HY1.o,HB1.o⟩
   case round=>
    obtain⟨k,hk,rfl,hm,hT,hx,hy,hb⟩:=hrel
    have hlP:=hT.lt
    by_cases hlt2:k<yt.length
    ·obtain⟨ad2,had2,hd0,hd1⟩:=hy.at_ hlt2
     subst had2
     have hbu:=HRY.o yt[k] (List.getElem_mem hlt2)
     have hS2:=ja (show Zo kv (co,(r1:Int)) (yt.take (k+1))=addS (Zo kv (co,(r1:Int)) (yt.take k)) (mulK (co,(r1:Int)) yt[k]) (jc6 (co,(r1:Int)) yt[k]) by rw[jw _ k hlt2,jbc2])
     have hcu:=HCC.o yt[k] (List.getElem_mem hlt2)
     have hbd2:=zm9 hN (co,(r1:Int)) (yt.take k) kv _ HBD.o (λu hu=>(HCC.o u (List.mem_of_mem_take hu)).1)
     have hul:((yt.take k).length:Int)=k:=by simp;omega
     rw[hul] at hbd2
     have hbd3:zB (Zo kv (co,(r1:Int)) (yt.take k)) (9000000000000000000-N):=hbd2.mono (jcj2 hN hlt hlt2 hNN)
     generalize yt[k]=u at *
     obtain⟨cu,ru⟩:=u
     dsimp only at hd0 hd1 hbu hcu
     obtain⟨r2,rfl⟩:=Int.eq_ofNat_of_zero_le (show 0<=ru by omega)
     have hmk:=jcb5 co cu r1 r2
     have hmc:jc6 (co,(r1:Int)) (cu,(r2:Int))=co*cu*(jM [(r1:Int),(r2:Int)]:Int):=rfl
     rw[hmk,hmc] at hS2
     rw[hmc] at hcu
     have hg0:1<=jM [(r1:Int),(r2:Int)]:=ZK (x:=(r1:Int)) (by simp) (by omega)
     have hg1:jM [(r1:Int),(r2:Int)]<=r1:=by
      have:=qT [(r1:Int),(r2:Int)] (r1:Int) (by simp)
      rw[Int.natAbs_natCast] at this
      exact Nat.le_of_dvd (by omega) this
     obtain⟨wa,hwa⟩:∃wa,wa=wr.alloc (.cells #[.int .i64 cu,.int .i64 (r2:Int)] 59):=⟨_,rfl⟩
     have hza:wa.heap.size=wr.heap.size+1:=by rw[hwa];simp
     obtain⟨wb,hwb⟩:∃wb,wb=wa.alloc (.cells #[.int .i64 (r1:Int),.int .i64 (r2:Int)] 3):=⟨_,rfl⟩
     have hzb:wb.heap.size=wr.heap.size+2:=by rw[hwb];simp;omega
     have hbab:Below wr.heap.size wr wb:=by rw[hwb,hwa];exact((Below.refl _ _).alloc (Nat.le_refl _) _).alloc (by simp) _
     have HDV:=ja (jd9 (some ⟨wa.heap.size,0,none⟩) 2 2 _ [(r1:Int),(r2:Int)] wb (by rw[hwb];exact jbm6 wa _ _) (by intro x hx;simp at hx;rcases hx with rfl|rfl<;>omega))
     rw[hza] at HDV
     have HMb:Hid (jt wb w.heap.size (zM (Zo kv (co,(r1:Int)) (yt.take k)))):=ja (jt.below hm hbab (by omega))
     have HTb:=ja (hT.below hbab hlP)
     have HUb:Hid (jh wb wr.heap.size 59 #[.int .i64 cu,.int .i64 (r2:Int)]):=ja (by rw[hwb,hwa];exact(jh.new wr _ _).alloc _)
     have HXb:=ja (Rd.below hx (hbab.mono (by omega)))
     have HYb:=ja (Rd.below hy (hbab.mono (by omega)))
     have HBb:=ja (hb.trans (hbab.mono (by omega)))
     have ht1:∀o,(wr.alloc o).cell? ⟨P,1,none⟩=some (.int .i64 (r1:Int)):=λo=>(hT.alloc o).cell 1
     have hgs:=hbd3 (((r1/jM [(r1:Int),(r2:Int)]*(r2/jM [(r1:Int),(r2:Int)]):Nat):Int))
     have HU:=ja (jg7 (Zo kv (co,(r1:Int)) (yt.take k)) ((r1/jM [(r1:Int),(r2:Int)]*(r2/jM [(r1:Int),(r2:Int)]):Nat):Int) (co*cu*(jM [(r1:Int),(r2:Int)]:Int)))
     have HG:=ja (qN (Zo kv (co,(r1:Int)) (yt.take k)) ((r1/jM [(r1:Int),(r2:Int)]*(r2/jM [(r1:Int),(r2:Int)]):Nat):Int))
     generalize jM [(r1:Int),(r2:Int)]=g at *
     have hq1:((r1:Nat):Int).tdiv (g:Int)=((r1/g:Nat):Int):=rfl
     have hq2:((r2:Nat):Int).tdiv (g:Int)=((r2/g:Nat):Int):=rfl
     have hgi:1<=(g:Int):=by omega
     have hgn:((g:Int)==0)=false:=beq_eq_false_iff_ne.2 (by omega)
     have hb1:r1/g<=1000:=Nat.le_trans (Nat.div_le_self _ _) (by omega)
     have hb2:r2/g<=1000:=Nat.le_trans (Nat.div_le_self _ _) (by omega)
     have hb3:r1/g*(r2/g)<=1000*1000:=Nat.mul_le_mul hb1 hb2
     have hqq:((r1/g:Nat):Int)*((r2/g:Nat):Int)=((r1/g*(r2/g):Nat):Int):=(Int.natCast_mul _ _).symm
     generalize r1/g*(r2/g)=key at *
     generalize r1/g=qa at *
     generalize r2/g=qb at *
     have hwr1:IntKind.i64.wrap ((qa:Nat):Int)=(qa:Int):=by rw[IntKind.wrap_i64];omega
     have hwr2:IntKind.i64.wrap ((qb:Nat):Int)=(qb:Int):=by rw[IntKind.wrap_i64];omega
     have hwr3:IntKind.i64.wrap ((key:Nat):Int)=(key:Int):=by rw[IntKind.wrap_i64];omega
     generalize Zo kv (co,(r1:Int)) (yt.take k)=kv2 at *
     generalize zb kv2 (key:Int)=gv at *
     have hcs:-9000000000000000000<=gv+co*cu*(g:Int)/\gv+co*cu*(g:Int)<=9000000000000000000:=by omega
     have hwr4:IntKind.i64.wrap (gv+co*cu*(g:Int))=gv+co*cu*(g:Int):=by rw[IntKind.wrap_i64];omega
     clear hm hT hx hy hb hbab hmk hmc hbd2 hbd3 HM1 HT1 HX1 HY1 HB1 hul
     go_wp2_with fail
     rw[<-hwa,<-hwb]
     clear hwa hwb
     refine HDV.o.mono ?_
     rintro e w9 ⟨rfl,q,rfl⟩
     have HMc:Hid (jt (wb.drewN q) w.heap.size (zM kv2)):=ja HMb.o
     have HTc:=ja (HTb.o.drewN q)
     have HUc:=ja (HUb.o.drewN q)
     have HXc:Hid (ji (wb.drewN q) B (some ad) xt.length xc xt):=ja HXb.o
     have HYc:Hid (ji (wb.drewN q) B (some ad2) yt.length yc yt):=ja HYb.o
     have HBc:=ja (jp HBb.o q)
     have hlm:w.heap.size<(wb.drewN q).heap.size:=HMb.o.lt
     clear HMb HTb HUb HXb HYb HBb HDV
     obtain⟨U,hU⟩:∃U,U=wr.heap.size:=⟨_,rfl⟩
     rw[<-hU] at HUc ⊢
     have hUm:w.heap.size<U:=by omega
     clear hza hzb hU
     generalize wb.drewN q=W at *
     obtain⟨w6,hmu,hm6,hg6,hz6⟩:=QE (P:=Tryz.prog) (jt.drew HMc.o) Tryz.underlying104 Tryz.underlying3 (key:Int) (.int .i64 (gv+co*cu*(g:Int)))
     have hlk:(Instr.lookup 104 (.map (some w.heap.size)) (.int .i64 (key:Int)) false).run Tryz.prog W.drew=.ok (.int .i64 gv) W.drew:=by
      rw[<-HG.o]
      exact qu (jt.drew HMc.o) Tryz.underlying104 Tryz.underlying3 (.int .i64 0) Tryz.zeroValue3 (key:Int)
     rw[HU.o] at hm6
     obtain⟨t1,t2,t3,t4⟩:=HTc.o.two
     obtain⟨v1,v2,v3,v4⟩:=HUc.o.two
     have hT6:=HTc.o.drew.grown hg6 (by simp;omega)
     have hU6:=HUc.o.drew.grown hg6 (by simp;omega)
     have hS6:w6.cell? ⟨P,0,none⟩=some (.int .i64 co)/\w6.cell? ⟨P,1,none⟩=some (.int .i64 (r1:Int))/\w6.cell? ⟨U,0,none⟩=some (.int .i64 cu)/\w6.cell? ⟨U,1,none⟩=some (.int .i64 (r2:Int)):=⟨hT6.cell 0,hT6.cell 1,hU6.cell 0,hU6.cell 1⟩
     have HS6:=ja hS6
     have HT6:=ja hT6
     have HX6:=ja (Rd.grown (Rd.drew HXc.o) hg6 (by show B<=W.heap.size;omega) (λ_ e=>by cases e;omega))
     have HY6:=ja (Rd.grown (Rd.drew HYc.o) hg6 (by show B<=W.heap.size;omega) (λ_ e=>by cases e;omega))
     have HB6:=ja ((Below.drew HBc.o).grown hg6 (by show w.heap.size<=W.heap.size;omega) (λ_ e=>by cases e;exact Nat.le_refl _))
     have HM6:=ja hm6
     have hz6':W.heap.size<=w6.heap.size:=hg6.size
     clear hT6 hU6 hS6 hg6 hz6 hm6
     go_wp2
     have hgz:¬g=0:=by omega
     have hwr6:IntKind.i64.wrap (gv+IntKind.i64.wrap (IntKind.i64.wrap (co*cu)*(g:Int)))=gv+co*cu*(g:Int):=by rw[jcm4,jbf5];exact hwr4
     have HS1:W.drew.cell? ⟨P,0,none⟩=some (.int .i64 co)/\W.drew.cell? ⟨P,1,none⟩=some (.int .i64 (r1:Int))/\W.drew.cell? ⟨U,0,none⟩=some (.int .i64 cu)/\W.drew.cell? ⟨U,1,none⟩=some (.int .i64 (r2:Int)):=⟨t1,t2,v1,v2⟩
     refine jk (λw'=>w'.cell? ⟨P,0,none⟩=some (.int .i64 co)/\w'.cell? ⟨P,1,none⟩=some (.int .i64 (r1:Int))/\w'.cell? ⟨U,0,none⟩=some (.int .i64 cu)/\w'.cell? ⟨U,1,none⟩=some (.int .i64 (r2:Int))) 19 (λw'=>(Instr.lookup 104 (.map (some w.heap.size)) (.int .i64 (key:Int)) false).run Tryz.prog w'=.ok (.int .i64 gv) w') 19 (λw'=>(Instr.lookup 104 (.map (some w.heap.size)) (.int .i64 (key:Int)) false).run Tryz.prog w'=.ok (.int .i64 gv) w') (by kernel_rfl) ⟨HS1,λ_=>hlk,λ_=>hlk⟩ (λjb=>?_)
     revert jb
     refine jtk 0 ?_ ?_ ?_
     rotate_left 1
     focus(intro w' hSw;obtain⟨hC,hF,hG⟩:=hSw;clear hF;clear hG;go_simp;try with_reducible rfl)
     intro jb
     simp only[Act.put,lA,lB,lC]
     revert jb
     refine jtk 1 ?_ ?_ ?_
     rotate_left 1
     focus(intro w' hSw;obtain⟨hC,hF,hG⟩:=hSw;clear hF;clear hG;go_simp;try with_reducible rfl)
     intro jb
     simp only[Act.put,lA,lB,lC]
     revert jb
     refine jtk 2 ?_ ?_ ?_
     rotate_left 1
     focus(intro w' hSw;obtain⟨hC,hF,hG⟩:=hSw;clear hF;clear hG;go_simp;try with_reducible rfl)
     intro jb
     simp only[Act.put,lA,lB,lC]
     revert jb
     refine jtk 3 ?_ ?_ ?_
     rotate_left 1
     focus(intro w' hSw;obtain⟨hC,hF,hG⟩:=hSw;clear hF;clear hG;go_simp;try with_reducible rfl)
     intro jb
     simp only[Act.put,lA,lB,lC]
     revert jb
     refine jtk 4 ?_ ?_ ?_
     rotate_left 1
     focus(intro w' hSw;obtain⟨hC,hF,hG⟩:=hSw;clear hF;clear hG;go_simp;try with_reducible rfl)
     intro jb
     simp only[Act.put,lA,lB,lC]
     revert jb
     refine jtk 5 ?_ ?_ ?_
     rotate_left 1
     focus(intro w' hSw;obtain⟨hC,hF,hG⟩:=hSw;clear hF;clear hG;go_simp;try with_reducible rfl)
     intro jb
     simp only[Act.put,lA,lB,lC]
     revert jb
     refine jtk 6 ?_ ?_ ?_
     rotate_left 1
     focus(intro w' hSw;obtain⟨hC,hF,hG⟩:=hSw;clear hF;clear hG;go_simp;try with_reducible rfl)
     intro jb
     simp only[Act.put,lA,lB,lC]
     revert jb
     refine jtk 7 ?_ ?_ ?_
     rotate_left 1
     focus(intro w' hSw;obtain⟨hC,hF,hG⟩:=hSw;clear hF;clear hG;go_simp;try with_reducible rfl)
     intro jb
     simp only[Act.put,lA,lB,lC]
     revert jb
     refine jtk 8 ?_ ?_ ?_
     rotate_left 1
     focus(intro w' hSw;obtain⟨hC,hF,hG⟩:=hSw;clear hF;clear hG;go_simp;try with_reducible rfl)
     intro jb
     simp only[Act.put,lA,lB,lC]
     revert jb
     refine jtk 9 ?_ ?_ ?_
     rotate_left 1
     focus(intro w' hSw;obtain⟨hC,hF,hG⟩:=hSw;clear hF;clear hG;go_simp;try with_reducible rfl)
     intro jb
     simp only[Act.put,lA,lB,lC]
     revert jb
     refine jtk 10 ?_ ?_ ?_
     rotate_left 1
     focus(intro w' hSw;obtain⟨hC,hF,hG⟩:=hSw;have hF:=hF (by decide +kernel);clear hG;go_simp;try with_reducible rfl)
     intro jb
     simp only[Act.put,lA,lB,lC]
     revert jb
     refine jtk 11 ?_ ?_ ?_
     rotate_left 1
     focus(intro w' hSw;obtain⟨hC,hF,hG⟩:=hSw;clear hF;clear hG;go_simp;try with_reducible rfl)
     intro jb
     simp only[Act.put,lA,lB,lC]
     revert jb
     refine jtk 12 ?_ ?_ ?_
     rotate_left 1
     focus(intro w' hSw;obtain⟨hC,hF,hG⟩:=hSw;clear hF;clear hG;go_simp;try with_reducible rfl)
     intro jb
     simp only[Act.put,lA,lB,lC]
     revert jb
     refine jtk 13 ?_ ?_ ?_
     rotate_left 1
     focus(intro w' hSw;obtain⟨hC,hF,hG⟩:=hSw;clear hF;clear hG;go_simp;try with_reducible rfl)
     intro jb
     simp only[Act.put,lA,lB,lC]
     revert jb
     refine jtk 14 ?_ ?_ ?_
     rotate_left 1
     focus(intro w' hSw;obtain⟨hC,hF,hG⟩:=hSw;clear hF;clear hG;go_simp;try with_reducible rfl)
     intro jb
     simp only[Act.put,lA,lB,lC]
     revert jb
     refine jtk 15 ?_ ?_ ?_
     rotate_left 1
     focus(intro w' hSw;obtain⟨hC,hF,hG⟩:=hSw;clear hF;clear hG;go_simp;try with_reducible rfl)
     intro jb
     simp only[Act.put,lA,lB,lC]
     revert jb
     refine jtk 16 ?_ ?_ ?_
     rotate_left 1
     focus(intro w' hSw;obtain⟨hC,hF,hG⟩:=hSw;clear hF;clear hG;go_simp;try with_reducible rfl)
     intro jb
     simp only[Act.put,lA,lB,lC]
     revert jb
     refine jtk 17 ?_ ?_ ?_
     rotate_left 1
     focus(intro w' hSw;obtain⟨hC,hF,hG⟩:=hSw;clear hF;clear hG;go_simp;try with_reducible rfl)
     intro jb
     simp only[Act.put,lA,lB,lC]
     revert jb
     refine jtk 18 ?_ ?_ ?_
     rotate_left 1
     focus(intro w' hSw;obtain⟨hC,hF,hG⟩:=hSw;clear hF;clear hG;go_simp;try with_reducible rfl)
     intro jb
     simp only[Act.put,lA,lB,lC]
     refine je 19 rfl (by decide +kernel) (λK hK=>?_)
     go_simp
     go_wp2
     refine hK.out _ _ ⟨HS6.o,λh=>absurd h (by decide +kernel),λh=>absurd h (by decide +kernel)⟩ (λjb=>?_)
     clear hK K
     refine jl (by decide +kernel) ?_
     clear jb
     all_goals
      go_wp2
      refine⟨⟨k+1,by omega,by go_num,?_,HT6.o,HX6.o,HY6.o,HB6.o⟩,by simp[intOf];omega⟩
      rw[hS2.o]
      exact HM6.o
    ·obtain rfl:k=yt.length:=by omega
     rw[List.take_length] at hm
     have HM:=ja hm;have HX':=ja hx;have HY':=ja hy;have HB:=ja hb
     clear hm hT hx hy hb HM1 HT1 HX1 HY1 HB1
     go_wp2
     refine⟨⟨j+1,by omega,by go_num,?_,HX'.o,HY'.o,HB.o⟩,by simp[intOf];omega⟩
     rw[hS.o]
     exact HM.o
  ·obtain rfl:j=xt.length:=by omega
   rw[List.take_length] at hm
   have HM:=ja hm;have HB:=ja hb
   clear hm hx hy hb HM0 HX HY HB0
   go_wp2
   go_ret
   exact⟨rfl,HM.o,HB.o⟩
def jc7(xd:Int)(xt:List (Int×Int))(yd:Int)(yt:List (Int×Int)):Int×List (Int×Int)×Int:=
 if(js xd xt&&js yd yt)=true then jY (Jq [] xt yt) (xd*yd)else(0,[],2)
theorem jca7{a b:Nat}(h:a*b<=4*4){N:Int}(hN:0<=N):(a:Int)*((b:Int)*N)<=16*N:=by
 rw[<-Int.mul_assoc,<-Int.natCast_mul]
 exact Int.mul_le_mul_of_nonneg_right (by omega) hN
theorem jcp3{t u:Int×Int}(ht:1<=t.2/\t.2<=1000):(jM [t.2,u.2]:Int)<=1000:=by
 have h:=qT [t.2,u.2] t.2 (by simp)
 have:=Nat.le_of_dvd (by omega) h
 omega
theorem jbh5{t u:Int×Int}{A C:Int}(ht:1<=t.2/\t.2<=1000)(h1:-A<=t.1/\t.1<=A)(h2:-C<=u.1/\u.1<=C):(-(A*C*1000)<=jc6 t u/\jc6 t u<=A*C*1000)/\-(A*C)<=t.1*u.1/\t.1*u.1<=A*C:=by
 have h3:=jE h1 h2
 have h4:=jE h3 (b:=(jM [t.2,u.2]:Int)) (B:=1000) ⟨by omega,jcp3 ht⟩
 exact⟨h4,h3⟩
