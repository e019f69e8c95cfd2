import Derived.Test.YtphcodcdfeohhaaGreatDoorOrdBToSgn
import Derived.Test.YtphcodcdfeohhaaGreatDoorBaseToStage
set_option linter.unusedVariables false
set_option linter.unusedSimpArgs false
namespace Go.Proofs.YtphcodcdfeohhaaGreatDoor
set_option maxRecDepth 100000
set_option maxHeartbeats 8000000
open Go.RowKit
theorem jcn7(x:Int):∃q,IntKind.i64.wrap x=x+q*18446744073709551616:=⟨-((x+9223372036854775808)/18446744073709551616),by rw[IntKind.wrap_i64];omega⟩
theorem jcb0(z r:Int):IntKind.i64.wrap (z+r*18446744073709551616)=IntKind.i64.wrap z:=by rw[IntKind.wrap_i64,IntKind.wrap_i64];omega
theorem jdp6(x y:Int):IntKind.i64.wrap (IntKind.i64.wrap x*y)=IntKind.i64.wrap (x*y):=by
 obtain⟨q,hq⟩:=jcn7 x
 rw[hq,Int.add_mul,Int.mul_right_comm,jcb0]
theorem jcj0(x y:Int):IntKind.i64.wrap (x+IntKind.i64.wrap y)=IntKind.i64.wrap (x+y):=by
 obtain⟨q,hq⟩:=jcn7 y
 rw[hq,<-Int.add_assoc,jcb0]
def mulK(t u:Int×Int):Int:=((t.2.toNat/jf2 [t.2,u.2]*(u.2.toNat/jf2 [t.2,u.2]):Nat):Int)
def zn7(t u:Int×Int):Int:=t.1*u.1*(jf2 [t.2,u.2]:Int)
def jr9(kv:List (Int×Int))(t:Int×Int)(b:List (Int×Int)):List (Int×Int):=b.foldl (fun kv u=>addS kv (mulK t u) (zn7 t u)) kv
def jm7(kv a b:List (Int×Int)):List (Int×Int):=a.foldl (fun kv t=>jr9 kv t b) kv
theorem jcf9(kv:List (Int×Int))(t:Int×Int)(b:List (Int×Int))(u:Int×Int):jr9 kv t (b++[u])=addS (jr9 kv t b) (mulK t u) (zn7 t u):=by simp[jr9,List.foldl_append]
theorem jcg0(kv a b:List (Int×Int))(t:Int×Int):jm7 kv (a++[t]) b=jr9 (jm7 kv a b) t b:=by simp[jm7,List.foldl_append]
theorem jaz0 {N:Int} (hN:0<=N) (t:Int×Int):∀(b kv:List (Int×Int)) (M:Int),jg2 kv M->(∀u∈b,-N<=zn7 t u/\zn7 t u<=N)->jg2 (jr9 kv t b) (M+b.length*N)
 | [],kv,M,h,_=>by simpa [jr9] using h
 | u::b,kv,M,h,hl=>by
  have h1:=jg2.addS h (hl u (by simp)) (mulK t u)
  have h2:=jaz0 hN t b _ _ h1 (fun u hu=>hl u (List.mem_cons_of_mem _ hu))
  simp only[jr9,List.foldl_cons,List.length_cons] at h2 ⊢
  refine h2.mono ?_
  rw[Int.natCast_add,Int.add_mul];simp;omega
theorem jaf2 {N:Int} (hN:0<=N) (b:List (Int×Int)):∀(a kv:List (Int×Int)) (M:Int),jg2 kv M->(∀t∈a,∀u∈b,-N<=zn7 t u/\zn7 t u<=N)->jg2 (jm7 kv a b) (M+a.length*(b.length*N))
 | [],kv,M,h,_=>by simpa [jm7] using h
 | t::a,kv,M,h,hl=>by
  have h1:=jaz0 hN t b kv M h (hl t (by simp))
  have h2:=jaf2 hN b a _ _ h1 (fun t ht=>hl t (List.mem_cons_of_mem _ ht))
  simp only[jm7,List.foldl_cons,List.length_cons] at h2 ⊢
  refine h2.mono ?_
  rw[Int.natCast_add,Int.add_mul];simp;omega
theorem jbg5 (t:Int×Int):∀(b kv:List (Int×Int)),(jr9 kv t b).length<=kv.length+b.length
 | [],kv=>by simp[jr9]
 | u::b,kv=>by
  have h1:=zp4 kv (mulK t u) (zn7 t u)
  have h2:=jbg5 t b (addS kv (mulK t u) (zn7 t u))
  simp only[jr9,List.foldl_cons,List.length_cons] at h2 ⊢
  omega
theorem jaj8 (b:List (Int×Int)):∀(a kv:List (Int×Int)),(jm7 kv a b).length<=kv.length+a.length*b.length
 | [],kv=>by simp[jm7]
 | t::a,kv=>by
  have h1:=jbg5 t b kv
  have h2:=jaj8 b a (jr9 kv t b)
  simp only[jm7,List.foldl_cons,List.length_cons] at h2 ⊢
  rw[Nat.add_mul];omega
theorem jcs0(w:World)(x y:Int):zb0 (w.alloc (.cells #[.int .i64 x,.int .i64 y] 3)) (w.heap.size+1) (some ⟨w.heap.size,0,none⟩) 2 2 [x,y]:=by
 have h:=Rd.of_own (World.ownsRow_lit (base:=0) (e:=3) (size:=1) w #[.int .i64 x,.int .i64 y] 2 (Nat.zero_le _) (by unfold maxLen;omega) rfl)
 rw[World.size_alloc] at h
 exact h
theorem jdn0{a L j k:Nat}{N X:Int}(hN:0<=N)(hj:j<a)(hk:k<L)(h:(a:Int)*((L:Int)*N)<=X):0+(j:Int)*((L:Int)*N)+(k:Int)*N<=X-N:=by
 have h1:((k:Int)+1)*N<=(L:Int)*N:=Int.mul_le_mul_of_nonneg_right (by omega) hN
 have h2:((j:Int)+1)*((L:Int)*N)<=(a:Int)*((L:Int)*N):=Int.mul_le_mul_of_nonneg_right (by omega) (Int.mul_nonneg (by omega) hN)
 rw[Int.add_mul,Int.one_mul] at h1 h2
 omega
theorem jdf5(c d:Int)(r1 r2:Nat):mulK (c,(r1:Int)) (d,(r2:Int))=((r1/jf2 [(r1:Int),(r2:Int)]*(r2/jf2 [(r1:Int),(r2:Int)]):Nat):Int):=by
 unfold mulK;rw[Int.toNat_natCast,Int.toNat_natCast]
theorem jan6 (xA:Option Addr) (xn xc:Nat) (xt:List (Int×Int)) (yA:Option Addr) (yn yc:Nat) (yt:List (Int×Int)) (B:Nat) (w:World) (hx:ja3 w B xA xn xc xt) (hy:ja3 w B yA yn yc yt) (hB:B<=w.heap.size)
  (hlx:xt.length<=4) (hly:yt.length<=4) (N:Int) (hN:0<=N) (hNN:xt.length*(yt.length*N)<=9000000000000000000) (hrx:∀t∈xt,1<=t.2/\t.2<=1000) (hry:∀t∈yt,1<=t.2/\t.2<=1000) (hcx:∀t∈xt,∀u∈yt,(-N<=zn7 t u/\zn7 t u<=N)/\-9000000000000000000<=t.1*u.1/\t.1*u.1<=9000000000000000000) :
  Calls Tryz.prog 79 #[.slice xA xn xc,.slice yA yn yc] w fun e w'=>e=.returned (.map (some w.heap.size))/\jg6 w' w.heap.size (jm7 [] xt yt)/\Below w.heap.size w w':=by
 have hlx':=hx.len
 have hly':=hy.len
 subst hlx'
 subst hly'
 have HRX:=ja0 hrx;have HRY:=ja0 hry;have HCX:=ja0 hcx
 have HX:=ja0 (Rd.alloc hx hB (.map #[] 0));have HY:=ja0 (Rd.alloc hy hB (.map #[] 0))
 have HM0:Hid (jg6 (w.alloc (.map #[] 0)) w.heap.size []):=ja0 (ja6.new w)
 have HB0:=ja0 ((Below.refl w.heap.size w).alloc (Nat.le_refl _) (.map #[] 0))
 clear hrx hry hcx hx hy
 go_enter Tryz.func79,Tryz.ntmps79
 go_wp2_with (first
  | (refine jf1 _ rfl _ rfl ?_))
 go_loopw [14] (fun i W=>∃j:Nat,j<=xt.length/\i=.int .i64 j/\jg6 W w.heap.size (jm7 [] (xt.take j) yt)/\ja3 W B xA xt.length xc xt/\ja3 W B yA yt.length yc yt/\Below w.heap.size w W) (fun i _=>xt.length-(intOf i).toNat)
 case atStart=>exact⟨0,by omega,rfl,HM0.out,HX.out,HY.out,HB0.out⟩
 case round=>
  obtain⟨j,hj,rfl,hm,hx,hy,hb⟩:=hrel
  have hlm:=ja6.lt hm
  by_cases hlt:j<xt.length
  ·obtain⟨ad,had,hc0,hc1⟩:=hx.at_ hlt
   subst had
   have hbt:=HRX.out xt[j] (List.getElem_mem hlt)
   have hS:=ja0 (show jm7 [] (xt.take (j+1)) yt=jr9 (jm7 [] (xt.take j) yt) xt[j] yt by rw[jc7 _ j hlt,jcg0])
   have hbd:=jaf2 hN yt (xt.take j) [] 0 jg2.nil (fun t ht=>fun u hu=>(HCX.out t (List.mem_of_mem_take ht) u hu).1)
   have hcc:=HCX.out xt[j] (List.getElem_mem hlt)
   have htl:((xt.take j).length:Int)=j:=by simp;omega
   rw[htl] at hbd
   generalize xt[j]=t at *
   obtain⟨co,ro⟩:=t
   dsimp only at hc0 hc1 hbt hcc
   obtain⟨r1,rfl⟩:=Int.eq_ofNat_of_zero_le (show 0<=ro by omega)
   have HCC:=ja0 hcc
   have HBD:=ja0 hbd
   have HX1:=ja0 (Rd.alloc hx (by omega) (.cells #[.int .i64 co,.int .i64 (r1:Int)] 59))
   have HY1:=ja0 (Rd.alloc hy (by omega) (.cells #[.int .i64 co,.int .i64 (r1:Int)] 59))
   have HB1:=ja0 (hb.alloc hb.size (.cells #[.int .i64 co,.int .i64 (r1:Int)] 59))
   have HM1:Hid (jg6 (wr.alloc (.cells #[.int .i64 co,.int .i64 (r1:Int)] 59)) w.heap.size (jm7 [] (xt.take j) yt)):=ja0 (ja6.alloc hm _)
   have HT1:=ja0 (Blk.new wr 59 #[.int .i64 co,.int .i64 (r1:Int)])
   obtain⟨P,hP⟩:∃P,P=wr.heap.size:=⟨_,rfl⟩
   rw[<-hP] at HT1
   have hPm:w.heap.size<P:=by omega
   generalize jm7 [] (xt.take j) yt=kv at *
   clear hcc hbd hx hy hb hm hlm HX HY HM0 HB0 htl
   go_wp2
   rw[<-hP]
   clear hP
   go_loopw [20] (fun i W=>∃k:Nat,k<=yt.length/\i=.int .i64 k/\jg6 W w.heap.size (jr9 kv (co,(r1:Int)) (yt.take k))/\Blk W P 59 #[.int .i64 co,.int .i64 (r1:Int)]/\ja3 W B (some ad) xt.length xc xt/\ja3 W B yA yt.length yc yt/\Below w.heap.size w W) (fun i _=>yt.length-(intOf i).toNat)
   case atStart=>exact⟨0,by omega,rfl,HM1.out,HT1.out,HX1.out,HY1.out,HB1.out⟩
   case round=>
    obtain⟨k,hk,rfl,hm,hT,hx,hy,hb⟩:=hrel
    have hlP:=hT.lt
    by_cases hlt2:k<yt.length
    ·obtain⟨ad2,had2,hd0,hd1⟩:=hy.at_ hlt2
     subst had2
     have hbu:=HRY.out yt[k] (List.getElem_mem hlt2)
     have hS2:=ja0 (show jr9 kv (co,(r1:Int)) (yt.take (k+1))=addS (jr9 kv (co,(r1:Int)) (yt.take k)) (mulK (co,(r1:Int)) yt[k]) (zn7 (co,(r1:Int)) yt[k]) by rw[jc7 _ k hlt2,jcf9])
     have hcu:=HCC.out yt[k] (List.getElem_mem hlt2)
     have hbd2:=jaz0 hN (co,(r1:Int)) (yt.take k) kv _ HBD.out (fun u hu=>(HCC.out u (List.mem_of_mem_take hu)).1)
     have hul:((yt.take k).length:Int)=k:=by simp;omega
     rw[hul] at hbd2
     have hbd3:jg2 (jr9 kv (co,(r1:Int)) (yt.take k)) (9000000000000000000-N):=hbd2.mono (jdn0 hN hlt hlt2 hNN)
     generalize yt[k]=u at *
     obtain⟨cu,ru⟩:=u
     dsimp only at hd0 hd1 hbu hcu
     obtain⟨r2,rfl⟩:=Int.eq_ofNat_of_zero_le (show 0<=ru by omega)
     have hmk:=jdf5 co cu r1 r2
     have hmc:zn7 (co,(r1:Int)) (cu,(r2:Int))=co*cu*(jf2 [(r1:Int),(r2:Int)]:Int):=rfl
     rw[hmk,hmc] at hS2
     rw[hmc] at hcu
     have hg0:1<=jf2 [(r1:Int),(r2:Int)]:=zr3 (x:=(r1:Int)) (by simp) (by omega)
     have hg1:jf2 [(r1:Int),(r2:Int)]<=r1:=by
      have:=zj1 [(r1:Int),(r2:Int)] (r1:Int) (by simp)
      rw[Int.natAbs_natCast] at this
      exact Nat.le_of_dvd (by omega) this
     obtain⟨wa,hwa⟩:∃wa,wa=wr.alloc (.cells #[.int .i64 cu,.int .i64 (r2:Int)] 59):=⟨_,rfl⟩
     have hza:wa.heap.size=wr.heap.size+1:=by rw[hwa];simp
     obtain⟨wb,hwb⟩:∃wb,wb=wa.alloc (.cells #[.int .i64 (r1:Int),.int .i64 (r2:Int)] 3):=⟨_,rfl⟩
     have hzb:wb.heap.size=wr.heap.size+2:=by rw[hwb];simp;omega
     have hbab:Below wr.heap.size wr wb:=by rw[hwb,hwa];exact((Below.refl _ _).alloc (Nat.le_refl _) _).alloc (by simp) _
     have HDV:=ja0 (zp9 (some ⟨wa.heap.size,0,none⟩) 2 2 _ [(r1:Int),(r2:Int)] wb (by rw[hwb];exact jcs0 wa _ _) (by intro x hx;simp at hx;rcases hx with rfl|rfl<;>omega))
     rw[hza] at HDV
     have HMb:Hid (ja6 wb w.heap.size (jh8 (jr9 kv (co,(r1:Int)) (yt.take k)))):=ja0 (ja6.below hm hbab (by omega))
     have HTb:=ja0 (hT.below hbab hlP)
     have HUb:Hid (Blk wb wr.heap.size 59 #[.int .i64 cu,.int .i64 (r2:Int)]):=ja0 (by rw[hwb,hwa];exact(Blk.new wr _ _).alloc _)
     have HXb:=ja0 (Rd.below hx (hbab.mono (by omega)))
     have HYb:=ja0 (Rd.below hy (hbab.mono (by omega)))
     have HBb:=ja0 (hb.trans (hbab.mono (by omega)))
     have ht1:∀o,(wr.alloc o).cell? ⟨P,1,none⟩=some (.int .i64 (r1:Int)):=fun o=>(hT.alloc o).cell 1
     have hgs:=hbd3 (((r1/jf2 [(r1:Int),(r2:Int)]*(r2/jf2 [(r1:Int),(r2:Int)]):Nat):Int))
     have HU:=ja0 (zt4 (jr9 kv (co,(r1:Int)) (yt.take k)) ((r1/jf2 [(r1:Int),(r2:Int)]*(r2/jf2 [(r1:Int),(r2:Int)]):Nat):Int) (co*cu*(jf2 [(r1:Int),(r2:Int)]:Int)))
     have HG:=ja0 (zb5 (jr9 kv (co,(r1:Int)) (yt.take k)) ((r1/jf2 [(r1:Int),(r2:Int)]*(r2/jf2 [(r1:Int),(r2:Int)]):Nat):Int))
     generalize jf2 [(r1:Int),(r2:Int)]=g at *
     have hq1:((r1:Nat):Int).tdiv (g:Int)=((r1/g:Nat):Int):=rfl
     have hq2:((r2:Nat):Int).tdiv (g:Int)=((r2/g:Nat):Int):=rfl
     have hgi:1<=(g:Int):=by omega
     have hgn:((g:Int)==0)=false:=beq_eq_false_iff_ne.2 (by omega)
     have hb1:r1/g<=1000:=Nat.le_trans (Nat.div_le_self _ _) (by omega)
     have hb2:r2/g<=1000:=Nat.le_trans (Nat.div_le_self _ _) (by omega)
     have hb3:r1/g*(r2/g)<=1000*1000:=Nat.mul_le_mul hb1 hb2
     have hqq:((r1/g:Nat):Int)*((r2/g:Nat):Int)=((r1/g*(r2/g):Nat):Int):=(Int.natCast_mul _ _).symm
     generalize r1/g*(r2/g)=key at *
     generalize r1/g=qa at *
     generalize r2/g=qb at *
     have hwr1:IntKind.i64.wrap ((qa:Nat):Int)=(qa:Int):=by rw[IntKind.wrap_i64];omega
     have hwr2:IntKind.i64.wrap ((qb:Nat):Int)=(qb:Int):=by rw[IntKind.wrap_i64];omega
     have hwr3:IntKind.i64.wrap ((key:Nat):Int)=(key:Int):=by rw[IntKind.wrap_i64];omega
     generalize jr9 kv (co,(r1:Int)) (yt.take k)=kv2 at *
     generalize jc3 kv2 (key:Int)=gv at *
     have hcs:-9000000000000000000<=gv+co*cu*(g:Int)/\gv+co*cu*(g:Int)<=9000000000000000000:=by omega
     have hwr4:IntKind.i64.wrap (gv+co*cu*(g:Int))=gv+co*cu*(g:Int):=by rw[IntKind.wrap_i64];omega
     clear hm hT hx hy hb hbab hmk hmc hbd2 hbd3 HM1 HT1 HX1 HY1 HB1 hul
     go_wp2_with fail
     rw[<-hwa,<-hwb]
     clear hwa hwb
     refine HDV.out.mono ?_
     rintro e w9 ⟨rfl,q,rfl⟩
     have HMc:Hid (ja6 (wb.drewN q) w.heap.size (jh8 kv2)):=ja0 HMb.out
     have HTc:=ja0 (HTb.out.drewN q)
     have HUc:=ja0 (HUb.out.drewN q)
     have HXc:Hid (ja3 (wb.drewN q) B (some ad) xt.length xc xt):=ja0 HXb.out
     have HYc:Hid (ja3 (wb.drewN q) B (some ad2) yt.length yc yt):=ja0 HYb.out
     have HBc:=ja0 (jc8 HBb.out q)
     have hlm:w.heap.size<(wb.drewN q).heap.size:=HMb.out.lt
     clear HMb HTb HUb HXb HYb HBb HDV
     obtain⟨U,hU⟩:∃U,U=wr.heap.size:=⟨_,rfl⟩
     rw[<-hU] at HUc ⊢
     have hUm:w.heap.size<U:=by omega
     clear hza hzb hU
     generalize wb.drewN q=W at *
     obtain⟨w6,hmu,hm6,hg6,hz6⟩:=zh3 (P:=Tryz.prog) (ja6.drew HMc.out) Tryz.underlying104 Tryz.underlying3 (key:Int) (.int .i64 (gv+co*cu*(g:Int)))
     have hlk:(Instr.lookup 104 (.map (some w.heap.size)) (.int .i64 (key:Int)) false).run Tryz.prog W.drew=.ok (.int .i64 gv) W.drew:=by
      rw[<-HG.out]
      exact jz6 (ja6.drew HMc.out) Tryz.underlying104 Tryz.underlying3 (.int .i64 0) Tryz.zeroValue3 (key:Int)
     rw[HU.out] at hm6
     obtain⟨t1,t2,t3,t4⟩:=HTc.out.two
     obtain⟨v1,v2,v3,v4⟩:=HUc.out.two
     have hT6:=HTc.out.drew.grown hg6 (by simp;omega)
     have hU6:=HUc.out.drew.grown hg6 (by simp;omega)
     have hS6:w6.cell? ⟨P,0,none⟩=some (.int .i64 co)/\w6.cell? ⟨P,1,none⟩=some (.int .i64 (r1:Int))/\w6.cell? ⟨U,0,none⟩=some (.int .i64 cu)/\w6.cell? ⟨U,1,none⟩=some (.int .i64 (r2:Int)):=⟨hT6.cell 0,hT6.cell 1,hU6.cell 0,hU6.cell 1⟩
     have HS6:=ja0 hS6
     have HT6:=ja0 hT6
     have HX6:=ja0 (Rd.grown (Rd.drew HXc.out) hg6 (by show B<=W.heap.size;omega) (fun _ e=>by cases e;omega))
     have HY6:=ja0 (Rd.grown (Rd.drew HYc.out) hg6 (by show B<=W.heap.size;omega) (fun _ e=>by cases e;omega))
     have HB6:=ja0 ((Below.drew HBc.out).grown hg6 (by show w.heap.size<=W.heap.size;omega) (fun _ e=>by cases e;exact Nat.le_refl _))
     have HM6:=ja0 hm6
     have hz6':W.heap.size<=w6.heap.size:=hg6.size
     clear hT6 hU6 hS6 hg6 hz6 hm6
     go_wp2
     have hgz:¬g=0:=by omega
     have hwr6:IntKind.i64.wrap (gv+IntKind.i64.wrap (IntKind.i64.wrap (co*cu)*(g:Int)))=gv+co*cu*(g:Int):=by rw[jdp6,jcj0];exact hwr4
     have HS1:W.drew.cell? ⟨P,0,none⟩=some (.int .i64 co)/\W.drew.cell? ⟨P,1,none⟩=some (.int .i64 (r1:Int))/\W.drew.cell? ⟨U,0,none⟩=some (.int .i64 cu)/\W.drew.cell? ⟨U,1,none⟩=some (.int .i64 (r2:Int)):=⟨t1,t2,v1,v2⟩
     refine jj7 (fun w'=>w'.cell? ⟨P,0,none⟩=some (.int .i64 co)/\w'.cell? ⟨P,1,none⟩=some (.int .i64 (r1:Int))/\w'.cell? ⟨U,0,none⟩=some (.int .i64 cu)/\w'.cell? ⟨U,1,none⟩=some (.int .i64 (r2:Int))) 19 (fun w'=>(Instr.lookup 104 (.map (some w.heap.size)) (.int .i64 (key:Int)) false).run Tryz.prog w'=.ok (.int .i64 gv) w') 19 (fun w'=>(Instr.lookup 104 (.map (some w.heap.size)) (.int .i64 (key:Int)) false).run Tryz.prog w'=.ok (.int .i64 gv) w') (by kernel_rfl) ⟨HS1,fun _=>hlk,fun _=>hlk⟩ (fun ja1=>?_)
     refine ja2 0 rfl (by decide +kernel) (fun _ _ _ h=>h) (by rfl) (v:=?_) ?_ ja1 (fun ja4=>?_)
     rotate_left 1
     focus (intro w' hSw;obtain⟨hC,hF,hG⟩:=hSw;clear hF;clear hG;go_simp;try with_reducible rfl)
     clear ja1
     rename ja8 _ _ _ _ _ _ _=>ja1
     simp only[Act.put,lA,lB,lC]
     refine ja2 1 rfl (by decide +kernel) (fun _ _ _ h=>h) (by rfl) (v:=?_) ?_ ja1 (fun ja4=>?_)
     rotate_left 1
     focus (intro w' hSw;obtain⟨hC,hF,hG⟩:=hSw;clear hF;clear hG;go_simp;try with_reducible rfl)
     clear ja1
     rename ja8 _ _ _ _ _ _ _=>ja1
     simp only[Act.put,lA,lB,lC]
     refine ja2 2 rfl (by decide +kernel) (fun _ _ _ h=>h) (by rfl) (v:=?_) ?_ ja1 (fun ja4=>?_)
     rotate_left 1
     focus (intro w' hSw;obtain⟨hC,hF,hG⟩:=hSw;clear hF;clear hG;go_simp;try with_reducible rfl)
     clear ja1
     rename ja8 _ _ _ _ _ _ _=>ja1
     simp only[Act.put,lA,lB,lC]
     refine ja2 3 rfl (by decide +kernel) (fun _ _ _ h=>h) (by rfl) (v:=?_) ?_ ja1 (fun ja4=>?_)
     rotate_left 1
     focus (intro w' hSw;obtain⟨hC,hF,hG⟩:=hSw;clear hF;clear hG;go_simp;try with_reducible rfl)
     clear ja1
     rename ja8 _ _ _ _ _ _ _=>ja1
     simp only[Act.put,lA,lB,lC]
     refine ja2 4 rfl (by decide +kernel) (fun _ _ _ h=>h) (by rfl) (v:=?_) ?_ ja1 (fun ja4=>?_)
     rotate_left 1
     focus (intro w' hSw;obtain⟨hC,hF,hG⟩:=hSw;clear hF;clear hG;go_simp;try with_reducible rfl)
     clear ja1
     rename ja8 _ _ _ _ _ _ _=>ja1
     simp only[Act.put,lA,lB,lC]
     refine ja2 5 rfl (by decide +kernel) (fun _ _ _ h=>h) (by rfl) (v:=?_) ?_ ja1 (fun ja4=>?_)
     rotate_left 1
     focus (intro w' hSw;obtain⟨hC,hF,hG⟩:=hSw;clear hF;clear hG;go_simp;try with_reducible rfl)
     clear ja1
     rename ja8 _ _ _ _ _ _ _=>ja1
     simp only[Act.put,lA,lB,lC]
     refine ja2 6 rfl (by decide +kernel) (fun _ _ _ h=>h) (by rfl) (v:=?_) ?_ ja1 (fun ja4=>?_)
     rotate_left 1
     focus (intro w' hSw;obtain⟨hC,hF,hG⟩:=hSw;clear hF;clear hG;go_simp;try with_reducible rfl)
     clear ja1
     rename ja8 _ _ _ _ _ _ _=>ja1
     simp only[Act.put,lA,lB,lC]
     refine ja2 7 rfl (by decide +kernel) (fun _ _ _ h=>h) (by rfl) (v:=?_) ?_ ja1 (fun ja4=>?_)
     rotate_left 1
     focus (intro w' hSw;obtain⟨hC,hF,hG⟩:=hSw;clear hF;clear hG;go_simp;try with_reducible rfl)
     clear ja1
     rename ja8 _ _ _ _ _ _ _=>ja1
     simp only[Act.put,lA,lB,lC]
     refine ja2 8 rfl (by decide +kernel) (fun _ _ _ h=>h) (by rfl) (v:=?_) ?_ ja1 (fun ja4=>?_)
     rotate_left 1
     focus (intro w' hSw;obtain⟨hC,hF,hG⟩:=hSw;clear hF;clear hG;go_simp;try with_reducible rfl)
     clear ja1
     rename ja8 _ _ _ _ _ _ _=>ja1
     simp only[Act.put,lA,lB,lC]
     refine ja2 9 rfl (by decide +kernel) (fun _ _ _ h=>h) (by rfl) (v:=?_) ?_ ja1 (fun ja4=>?_)
     rotate_left 1
     focus (intro w' hSw;obtain⟨hC,hF,hG⟩:=hSw;clear hF;clear hG;go_simp;try with_reducible rfl)
     clear ja1
     rename ja8 _ _ _ _ _ _ _=>ja1
     simp only[Act.put,lA,lB,lC]
     refine ja2 10 rfl (by decide +kernel) (fun _ _ _ h=>h) (by rfl) (v:=?_) ?_ ja1 (fun ja4=>?_)
     rotate_left 1
     focus (intro w' hSw;obtain⟨hC,hF,hG⟩:=hSw;have hF:=hF (by decide +kernel);clear hG;go_simp;try with_reducible rfl)
     clear ja1
     rename ja8 _ _ _ _ _ _ _=>ja1
     simp only[Act.put,lA,lB,lC]
     refine ja2 11 rfl (by decide +kernel) (fun _ _ _ h=>h) (by rfl) (v:=?_) ?_ ja1 (fun ja4=>?_)
     rotate_left 1
     focus (intro w' hSw;obtain⟨hC,hF,hG⟩:=hSw;clear hF;clear hG;go_simp;try with_reducible rfl)
     clear ja1
     rename ja8 _ _ _ _ _ _ _=>ja1
     simp only[Act.put,lA,lB,lC]
     refine ja2 12 rfl (by decide +kernel) (fun _ _ _ h=>h) (by rfl) (v:=?_) ?_ ja1 (fun ja4=>?_)
     rotate_left 1
     focus (intro w' hSw;obtain⟨hC,hF,hG⟩:=hSw;clear hF;clear hG;go_simp;try with_reducible rfl)
     clear ja1
     rename ja8 _ _ _ _ _ _ _=>ja1
     simp only[Act.put,lA,lB,lC]
     refine ja2 13 rfl (by decide +kernel) (fun _ _ _ h=>h) (by rfl) (v:=?_) ?_ ja1 (fun ja4=>?_)
     rotate_left 1
     focus (intro w' hSw;obtain⟨hC,hF,hG⟩:=hSw;clear hF;clear hG;go_simp;try with_reducible rfl)
     clear ja1
     rename ja8 _ _ _ _ _ _ _=>ja1
     simp only[Act.put,lA,lB,lC]
     refine ja2 14 rfl (by decide +kernel) (fun _ _ _ h=>h) (by rfl) (v:=?_) ?_ ja1 (fun ja4=>?_)
     rotate_left 1
     focus (intro w' hSw;obtain⟨hC,hF,hG⟩:=hSw;clear hF;clear hG;go_simp;try with_reducible rfl)
     clear ja1
     rename ja8 _ _ _ _ _ _ _=>ja1
     simp only[Act.put,lA,lB,lC]
     refine ja2 15 rfl (by decide +kernel) (fun _ _ _ h=>h) (by rfl) (v:=?_) ?_ ja1 (fun ja4=>?_)
     rotate_left 1
     focus (intro w' hSw;obtain⟨hC,hF,hG⟩:=hSw;clear hF;clear hG;go_simp;try with_reducible rfl)
     clear ja1
     rename ja8 _ _ _ _ _ _ _=>ja1
     simp only[Act.put,lA,lB,lC]
     refine ja2 16 rfl (by decide +kernel) (fun _ _ _ h=>h) (by rfl) (v:=?_) ?_ ja1 (fun ja4=>?_)
     rotate_left 1
     focus (intro w' hSw;obtain⟨hC,hF,hG⟩:=hSw;clear hF;clear hG;go_simp;try with_reducible rfl)
     clear ja1
     rename ja8 _ _ _ _ _ _ _=>ja1
     simp only[Act.put,lA,lB,lC]
     refine ja2 17 rfl (by decide +kernel) (fun _ _ _ h=>h) (by rfl) (v:=?_) ?_ ja1 (fun ja4=>?_)
     rotate_left 1
     focus (intro w' hSw;obtain⟨hC,hF,hG⟩:=hSw;clear hF;clear hG;go_simp;try with_reducible rfl)
     clear ja1
     rename ja8 _ _ _ _ _ _ _=>ja1
     simp only[Act.put,lA,lB,lC]
     refine ja2 18 rfl (by decide +kernel) (fun _ _ _ h=>h) (by rfl) (v:=?_) ?_ ja1 (fun ja4=>?_)
     rotate_left 1
     focus (intro w' hSw;obtain⟨hC,hF,hG⟩:=hSw;clear hF;clear hG;go_simp;try with_reducible rfl)
     clear ja1
     rename ja8 _ _ _ _ _ _ _=>ja1
     simp only[Act.put,lA,lB,lC]
     refine jb5 19 rfl (by decide +kernel) (fun K hK=>?_)
     go_simp
     go_wp2
     refine hK.out _ _ ⟨HS6.out,fun h=>absurd h (by decide +kernel),fun h=>absurd h (by decide +kernel)⟩ (fun ja1=>?_)
     clear hK K
     refine jf8 (by decide +kernel) ?_
     clear ja1
     all_goals
      go_wp2
      refine⟨⟨k+1,by omega,by go_num,?_,HT6.out,HX6.out,HY6.out,HB6.out⟩,by simp[intOf];omega⟩
      rw[hS2.out]
      exact HM6.out
    ·obtain rfl:k=yt.length:=by omega
     rw[List.take_length] at hm
     have HM:=ja0 hm;have HX':=ja0 hx;have HY':=ja0 hy;have HB:=ja0 hb
     clear hm hT hx hy hb HM1 HT1 HX1 HY1 HB1
     go_wp2
     refine⟨⟨j+1,by omega,by go_num,?_,HX'.out,HY'.out,HB.out⟩,by simp[intOf];omega⟩
     rw[hS.out]
     exact HM.out
  ·obtain rfl:j=xt.length:=by omega
   rw[List.take_length] at hm
   have HM:=ja0 hm;have HB:=ja0 hb
   clear hm hx hy hb HM0 HX HY HB0
   go_wp2
   go_ret
   exact⟨rfl,HM.out,HB.out⟩
def zn8(xd:Int)(xt:List (Int×Int))(yd:Int)(yt:List (Int×Int)):Int×List (Int×Int)×Int:=
 if(ja7 xd xt&&ja7 yd yt)=true then jf4 (jm7 [] xt yt) (xd*yd)else(0,[],2)
theorem jdd6{a b:Nat}(h:a*b<=4*4){N:Int}(hN:0<=N):(a:Int)*((b:Int)*N)<=16*N:=by
 rw[<-Int.mul_assoc,<-Int.natCast_mul]
 exact Int.mul_le_mul_of_nonneg_right (by omega) hN
theorem jds4{t u:Int×Int}(ht:1<=t.2/\t.2<=1000):(jf2 [t.2,u.2]:Int)<=1000:=by
 have h:=zj1 [t.2,u.2] t.2 (by simp)
 have:=Nat.le_of_dvd (by omega) h
 omega
theorem jcm3{t u:Int×Int}{A C:Int}(ht:1<=t.2/\t.2<=1000)(h1:-A<=t.1/\t.1<=A)(h2:-C<=u.1/\u.1<=C):(-(A*C*1000)<=zn7 t u/\zn7 t u<=A*C*1000)/\-(A*C)<=t.1*u.1/\t.1*u.1<=A*C:=by
 have h3:=jc0 h1 h2
 have h4:=jc0 h3 (b:=(jf2 [t.2,u.2]:Int)) (B:=1000) ⟨by omega,jds4 ht⟩
 exact⟨h4,h3⟩
end Go.Proofs.YtphcodcdfeohhaaGreatDoor
