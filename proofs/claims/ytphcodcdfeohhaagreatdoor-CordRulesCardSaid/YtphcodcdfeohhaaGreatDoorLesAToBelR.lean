import Derived.Test.YtphcodcdfeohhaaGreatDoorTimAToAsyY
import Derived.Test.YtphcodcdfeohhaaGreatDoorDgtJ
set_option linter.all false
namespace Go.Proofs.YtphcodcdfeohhaaGreatDoor
set_option maxRecDepth 100000
set_option maxHeartbeats 16000000
theorem zv5 (m:Int):∀(ts:List (Int×Int)),(ts.map (·.2)).Nodup->∀j,j<=ts.length->ze [] (ts.take j) m=(ts.take j).map λt=>(t.2,t.1*m)
 | ts,hn,0,_=>by simp[ze]
 | ts,hn,j+1,h=>by
  have ih:=zv5 m ts hn j (by omega)
  have hj:j<ts.length:=by omega
  have hk:ts[j].2∉(ze [] (ts.take j) m).map (·.1):=by
   rw[ih,List.map_map]
   intro hm
   obtain⟨t,ht,e⟩:=List.mem_map.1 hm
   obtain⟨i,hi,e2⟩:=List.getElem_of_mem ht
   rw[List.length_take] at hi
   rw[List.getElem_take] at e2
   have h1:i<(ts.map (·.2)).length:=by rw[List.length_map];omega
   have h2:j<(ts.map (·.2)).length:=by rw[List.length_map];omega
   have h3:=(List.nodup_iff_pairwise_ne.1 hn)
   rw[List.pairwise_iff_getElem] at h3
   have h4:=h3 i j h1 h2 (by omega)
   rw[List.getElem_map,List.getElem_map,e2] at h4
   exact h4 e
  rw[List.take_succ_eq_append_getElem hj,QJ,jah7 _ _ _ hk,ih,List.map_append]
  rfl
open Go Go.RowKit
structure LesI(w W:World)(o:Value)(kv:List (Int×Int)):Prop where
 row:W.ownsRow w.heap.size 59 2 o kv.length (jr (zZ kv))
 below:Below w.heap.size w W
theorem LesI.next{w V w1 w3:World}{o v:Value}{kv:List (Int×Int)}{r x:Int}(h:LesI w V o kv)(hb:Below V.heap.size V w1)(hrow:w3.ownsRow w.heap.size 59 2 v (kv.length+1) (jr (zZ kv)++[.int .i64 x,.int .i64 r]))(hg:w1.grownBy w3 o.ownBlock):LesI w w3 v (kv++[(r,x)]):=by
 have hb3:Below w.heap.size V w3:=(hb.mono h.below.size).grown hg (by have:=hb.size;have:=h.below.size;omega) (λj e=>(h.row.lt j e).1)
 refine⟨?_,h.below.trans hb3⟩
 rw[zz1,Zz,List.length_append,List.length_singleton]
 exact hrow
theorem LesI.drewN{w W:World}{o:Value}{kv:List (Int×Int)}(h:LesI w W o kv)(q:Nat):LesI w (W.drewN q) o kv:=⟨jG h.row (jp (Below.refl _ _) q),h.below.trans (jp (Below.refl _ _) q)⟩
theorem LesI.drew{w W:World}{o:Value}{kv:List (Int×Int)}(h:LesI w W o kv):LesI w W.drew o kv:=⟨jG h.row (Below.drew (Below.refl _ _)),h.below.trans ((Below.drew (Below.refl _ _)).mono h.below.size)⟩
theorem LesI.put{w W:World}{g cap:Nat}{kv kv':List (Int×Int)}{j:Nat}{x:Int}(h:LesI w W (.slice (some ⟨g,0,none⟩) kv.length cap) kv)(hj:j<kv.length)(e:kv.set j (kv[j].1,x)=kv'):LesI w (W.setCell ⟨g,j*2,none⟩ (.int .i64 x)) (.slice (some ⟨g,0,none⟩) kv.length cap) kv':=by
 have hg:=(h.row.lt g rfl).1
 have h1:=World.ownsRow.stored h.row (j*2) (.int .i64 x)
 have hjo:j<(zZ kv).length:=by rw[zE];exact hj
 rw[jd6 _ j _ hjo] at h1
 have e4:(zZ kv)[j]=(kv[j].2,kv[j].1):=by simp[zZ]
 have e2:(zZ kv).set j (x,(zZ kv)[j].2)=zZ kv':=by
  rw[e4,<-e]
  unfold zZ
  rw[List.map_set]
 rw[e2] at h1
 have e3:kv'.length=kv.length:=by rw[<-e];simp
 exact⟨by rw[e3];exact h1.1,h.below.setCell (by show _<=g;omega) _⟩
theorem jas6 (xA:Option Addr) (xn xc:Nat) (xt:List (Int×Int)) (m:Int) (yA:Option Addr) (yn yc:Nat) (yt:List (Int×Int)) (tm:Int) (B:Nat) (w:World) (hx:jJ w B xA xn xc xt) (hy:jJ w B yA yn yc yt) (hB:B<=w.heap.size)
  (hnx:(xt.map (·.2)).Nodup) (hrx:∀t∈xt,zu t.2) (hry:∀t∈yt,zu t.2) (hlx:xt.length<=4) (hly:yt.length<=4) (hbx:∀t∈xt,-400000000000000000<=t.1*m/\t.1*m<=400000000000000000) (hby:∀t∈yt,-400000000000000000<=t.1*tm/\t.1*tm<=400000000000000000)
  (hcy:∀t∈yt,-9000000000000000000<=t.1/\t.1<=9000000000000000000) :
  Calls Tryz.prog 98 #[.slice xA xn xc,.int .i64 m,.slice yA yn yc,.int .i64 tm] w λe w'=>∃(A:Option Addr) (n c:Nat),e=.returned (.slice A n c)/\jJ w' w'.heap.size A n c (zO xt m yt tm)/\Below w.heap.size w w':=by
 have e1:=hx.len
 have e2:=hy.len
 subst e1 e2
 obtain⟨i1,hi1,hy0,hy1,hy2⟩:=info_parts Tryz.infoTerm
 have HTX:=ja (λW (hb:Below w.heap.size w W)=>Rq.below hx (hb.mono hB))
 have HTY:=ja (λW (hb:Below w.heap.size w W)=>Rq.below hy (hb.mono hB))
 have HFREE:=ja (zv5 m xt hnx)
 have hk1:=(QI (P:=zu) xt [] m (by simp) (by simp) hrx)
 have HKEY:Hid (∀j,((ze (ze [] xt m) (yt.take j) (-tm)).map (·.1)).Nodup):=ja (λj=>(QI (P:=zu) (yt.take j) _ (-tm) hk1.1 hk1.2 (λt ht=>hry t (List.mem_of_mem_take ht))).1)
 have HBND:Hid (∀j,∀p∈ze (ze [] xt m) (yt.take j) (-tm),-3200000000000000000<=p.2/\p.2<=3200000000000000000):=ja (λj p hp=>by
  have h1:=zk6 (yt:=yt.take j) (by omega) hbx (λt ht=>hby t (List.mem_of_mem_take ht))
  have h2:=h1.mono (N:=3200000000000000000) (by rw[List.length_take];omega) p.1
  have h3:=zr (HKEY.o j) p hp
  have h4:zb (Zl xt m (yt.take j) tm) p.1=p.2:=h3
  rw[h4] at h2
  exact h2)
 have HLEN:Hid (∀j,(ze (ze [] xt m) (yt.take j) (-tm)).length<=8):=ja (λj=>by
  have:=jy9 xt (yt.take j) m tm
  rw[List.length_take] at this
  unfold Zl at this
  omega)
 have HXB:=ja hbx
 have HYB:Hid (∀t∈yt,(-400000000000000000<=t.1*tm/\t.1*tm<=400000000000000000)/\-9000000000000000000<=t.1/\t.1<=9000000000000000000):=ja (λt ht=>⟨hby t ht,hcy t ht⟩)
 clear hx hy hnx hrx hry hbx hby hcy hk1
 go_enter Tryz.func98,Tryz.ntmps98
 go_wp2
 go_loopw [9,10] (λo i W=>∃k:Nat,k<=xt.length/\i=.int .i64 k/\LesI w W o ((xt.take k).map λt=>(t.2,t.1*m))) (λ_ i _=>xt.length-(intOf i).toNat)
 case atStart=>exact⟨0,by omega,rfl,⟨World.ownsRow_lit (base:=w.heap.size) (e:=59) (size:=2) w #[] 0 (Nat.le_refl _) (by unfold maxLen;omega) rfl,(Below.refl _ _).alloc (Nat.le_refl _) _⟩⟩
 case round=>
  obtain⟨k,hk,rfl,hI⟩:=hrel
  have HI1:=ja hI
  clear hI
  have hWz:=HI1.o.below.size
  by_cases hkl:(k:Int)<(xt.length:Int)
  ·have hk1:k<xt.length:=by omega
   obtain⟨ad,rfl,had,ha0,ha1⟩:=jJ.at_ (HTX.o _ HI1.o.below) hk1
   have htb:=HXB.o xt[k] (List.getElem_mem hk1)
   have HTS:=ja (jw xt k hk1)
   generalize xt[k]=t at *
   obtain⟨co,ro⟩:=t
   dsimp only at ha0 ha1 htb
   have HTS:Hid (xt.take (k+1)=xt.take k++[(co,ro)]):=ja HTS.o
   have hmw:IntKind.i64.wrap (co*m)=co*m:=by rw[IntKind.wrap_i64];omega
   obtain⟨kv,hkv⟩:∃kv,kv=(xt.take k).map λt=>(t.2,t.1*m):=⟨_,rfl⟩
   have hlL:kv.length<=4:=by rw[hkv];simp;omega
   rw[<-hkv] at HI1
   have HL:=ja hkv
   clear hkv
   obtain⟨Ao,co2,rfl⟩:=jx HI1.o.row
   have HROW:=ja (World.ownsRow.drew (HI1.o.row.alloc (.cells #[.int .i64 (co*m),.int .i64 ro] 59)))
   obtain⟨W,hW⟩:∃W,W=wr:=⟨_,rfl⟩
   subst hW
   have HBW:=ja ((Below.drew (Below.refl w.heap.size W)).alloc (by show _<=W.heap.size;omega) (.cells #[.int .i64 (co*m),.int .i64 ro] 59))
   have HBU:=ja (Below.drew ((Below.refl W.heap.size W).alloc (Nat.le_refl _) (.cells #[.int .i64 (co*m),.int .i64 ro] 59)))
   go_wp2
   refine jk (λw'=>Below w.heap.size W w') 15 (λ_=>True) 15 (λ_=>True) (by kernel_rfl) ⟨Below.drew (Below.refl _ _),λ_=>trivial,λ_=>trivial⟩ (λjb=>?_)
   revert jb
   refine jtq 0 ?_ ?_ ?_
   rotate_left 1
   focus(intro;go_simp;try with_reducible rfl)
   (try simp only[Act.put,lA,lB,lC])
   refine jtq 1 ?_ ?_ ?_
   rotate_left 1
   focus(intro;go_simp;try with_reducible rfl)
   (try simp only[Act.put,lA,lB,lC])
   refine jtq 2 ?_ ?_ ?_
   rotate_left 1
   focus(intro;go_simp;try with_reducible rfl)
   (try simp only[Act.put,lA,lB,lC])
   refine jtq 3 ?_ ?_ ?_
   rotate_left 1
   focus(intro;go_simp;try with_reducible rfl)
   (try simp only[Act.put,lA,lB,lC])
   refine jtq 4 ?_ ?_ ?_
   rotate_left 1
   focus(intro;go_simp;try with_reducible rfl)
   (try simp only[Act.put,lA,lB,lC])
   refine jtk 5 ?_ ?_ ?_
   rotate_left 1
   focus(intro w' hSw;obtain⟨hC,hF,hG⟩:=hSw;clear hG;have c1:=(hC.cell (p:=ad.add (k*2)) (by rw[jH];omega)).trans ha0;(try clear hF);clear hC;go_simp;try with_reducible rfl)
   (try simp only[Act.put,lA,lB,lC])
   refine jtq 6 ?_ ?_ ?_
   rotate_left 1
   focus(intro;go_simp;try with_reducible rfl)
   (try simp only[Act.put,lA,lB,lC])
   refine jtq 7 ?_ ?_ ?_
   rotate_left 1
   focus(intro;go_simp;try with_reducible rfl)
   (try simp only[Act.put,lA,lB,lC])
   refine jtq 8 ?_ ?_ ?_
   rotate_left 1
   focus(intro;go_simp;try with_reducible rfl)
   (try simp only[Act.put,lA,lB,lC])
   refine jtq 9 ?_ ?_ ?_
   rotate_left 1
   focus(intro;go_simp;try with_reducible rfl)
   (try simp only[Act.put,lA,lB,lC])
   refine jtq 10 ?_ ?_ ?_
   rotate_left 1
   focus(intro;go_simp;try with_reducible rfl)
   (try simp only[Act.put,lA,lB,lC])
   refine jtq 11 ?_ ?_ ?_
   rotate_left 1
   focus(intro;go_simp;try with_reducible rfl)
   (try simp only[Act.put,lA,lB,lC])
   refine jtk 12 ?_ ?_ ?_
   rotate_left 1
   focus(intro w' hSw;obtain⟨hC,hF,hG⟩:=hSw;clear hG;have c1:=(hC.cell (p:=⟨(ad.add (k*2)).block,(ad.add (k*2)).off+1,none⟩) (by show(ad.add (k*2)).block<_;rw[jH];omega)).trans ha1;(try clear hF);clear hC;go_simp;try with_reducible rfl)
   (try simp only[Act.put,lA,lB,lC])
   refine jtq 13 ?_ ?_ ?_
   rotate_left 1
   focus(intro;go_simp;try with_reducible rfl)
   (try simp only[Act.put,lA,lB,lC])
   intro jb
   refine je 14 rfl (by decide +kernel) (λK hK=>?_)
   go_simp
   refine hK.out _ _ ⟨HBW.o,λ_=>trivial,λ_=>trivial⟩ (λjb=>?_)
   clear hK K
   (try simp only[Act.put,lA,lB,lC])
   refine je 15 rfl (by decide +kernel) (λK hK=>?_)
   refine step_append_lies _ rfl _ _ 22 rfl w.heap.size 59 i1 (.agg #[.int .i64 0,.int .i64 0]) 2 16 Tryz.underlying22 hi1 hy0 hy1 hy2 rfl (by decide) (.slice Ao kv.length co2) kv.length _ rfl HROW.o ⟨W.heap.size,0,none⟩ 1 1 [.int .i64 (co*m),.int .i64 ro] rfl rfl (zx W _ _ _) (by simp[Value.oneCell']) (by decide) (by unfold maxLen;omega) (by omega) (by show _<=(W.alloc _).heap.size;rw[World.size_alloc];omega) (W.heap.size+1) (by show(W.alloc _).heap.size=_;rw[World.size_alloc]) ?_
   intro g3 cap3 w3 ho3 hg3 hat3 hlt3
   have HN:=ja (HI1.o.next HBU.o ho3 hg3)
   have HB3:=ja (HBW.o.grown hg3 (by show _<=(W.alloc _).heap.size;rw[World.size_alloc];omega) (λj e=>(HI1.o.row.lt j e).1))
   refine hK.out _ _ ⟨HB3.o,λh=>absurd h (by decide +kernel),λh=>absurd h (by decide +kernel)⟩ (λjb=>?_)
   clear hK K ho3 hg3 hat3 hlt3
   (try simp only[Act.put,lA,lB,lC])
   revert jb
   refine jtq 16 ?_ ?_ ?_
   rotate_left 1
   focus(intro;go_simp;try with_reducible rfl)
   (try simp only[Act.put,lA,lB,lC])
   intro jb
   refine jl (by decide +kernel) ?_
   clear jb
   go_wp2
   exact⟨⟨k+1,by omega,by go_num,by rw[HTS.o,List.map_append,<-HL.o];exact HN.o⟩,by simp only[intOf];omega⟩
  ·obtain rfl:k=xt.length:=by omega
   rw[<-HFREE.o _ (Nat.le_refl _),List.take_length] at HI1
   clear HTX HXB HFREE
   obtain⟨K0,hK0⟩:∃K0,K0=ze [] xt m:=⟨_,rfl⟩
   rw[<-hK0] at HI1 HKEY HBND HLEN
   have HK0:=ja hK0
   clear hK0
   go_wp2
   go_loopw [9,11] (λo i W=>∃k:Nat,k<=yt.length/\i=.int .i64 k/\LesI w W o (ze K0 (yt.take k) (-tm))) (λ_ i _=>yt.length-(intOf i).toNat)
   case atStart=>exact⟨0,by omega,rfl,by simpa [ze] using HI1.o⟩
   case round=>
    obtain⟨k,hk,rfl,hI⟩:=hrel
    clear HI1 hWz
    have HI1:=ja hI
    clear hI
    have hWz:=HI1.o.below.size
    by_cases hkl:(k:Int)<(yt.length:Int)
    ·have hk1:k<yt.length:=by omega
     have htb:=HYB.o yt[k] (List.getElem_mem hk1)
     have HTS:=ja (jw yt k hk1)
     obtain⟨t,ht⟩:∃t,t=yt[k]:=⟨_,rfl⟩
     rw[<-ht] at htb HTS
     have HXK:=ja ht
     clear ht
     obtain⟨co,ro⟩:=t
     dsimp only at htb
     have HBD:=ja (HBND.o k)
     have HKN:=ja (HKEY.o k)
     have hlL:=HLEN.o k
     have hmw:IntKind.i64.wrap (co*tm)=co*tm:=by rw[IntKind.wrap_i64];omega
     obtain⟨kv,hkv⟩:∃kv,kv=ze K0 (yt.take k) (-tm):=⟨_,rfl⟩
     rw[<-hkv] at HI1 HBD HKN hlL
     have HL:=ja hkv
     clear hkv
     obtain⟨Ao,cap,rfl⟩:=jx HI1.o.row
     go_wp2
     clear hWz
     go_loopw [12,13] (λf i W=>∃q:Nat,q<=kv.length/\i=.int .i64 q/\f=.bool (JW (kv.take q) ro)/\LesI w W (.slice Ao kv.length cap) (Zq kv ro (co*-tm) q)) (λ_ i _=>kv.length-(intOf i).toNat)
     case atStart=>exact⟨0,by omega,rfl,rfl,by rw[jaa9];exact HI1.o⟩
     case round=>
      obtain⟨q,hq,rfl,rfl,hI⟩:=hrel
      have HOJ:=ja hI
      clear hI HI1
      have hWz:=HOJ.o.below.size
      by_cases hql:(q:Int)<(kv.length:Int)
      ·have hj1:q<kv.length:=by omega
       have hrow:=HOJ.o.row
       rw[Zr] at hrow
       obtain⟨g,cap',he,hgb,hgl⟩:=hrow.form (by omega)
       injection he with he1 he2 he3
       subst he1
       subst he3
       obtain⟨c0,c1,cf0,cf1⟩:=zl hrow (j:=q) (by rw[zE,Zr];exact hj1)
       rw[jbh8 ro (co*-tm) hj1] at c0 c1
       have hxb:=HBD.o kv[q] (List.getElem_mem hj1)
       have HYES:=ja (λh=>jat8 (r:=ro) (co*-tm) hj1 h)
       have HNO:=ja (λh=>jbj6 (r:=ro) (co*-tm) hj1 h)
       have HAT:=ja (jag4 ro (co*-tm) hj1)
       have HHS:=ja (zy3 (kv:=kv) ro hj1)
       clear hrow
       obtain⟨e,he⟩:∃e,e=kv[q]:=⟨_,rfl⟩
       rw[<-he] at c0 c1 hxb HYES HNO HHS HAT
       clear he
       obtain⟨kr,kx⟩:=e
       dsimp only at c0 c1 hxb
       have HYES:Hid (kr=ro->(Zq kv ro (co*-tm) q).set q (kr,kx+co*-tm)=Zq kv ro (co*-tm) (q+1)):=ja (λh=>HYES.o h)
       have HNO:Hid (¬kr=ro->Zq kv ro (co*-tm) (q+1)=Zq kv ro (co*-tm) q):=ja (λh=>HNO.o h)
       obtain⟨ad,rfl,had,ha0,ha1⟩:=jJ.at_ (HTY.o _ HOJ.o.below) hk1
       rw[<-HXK.o] at ha0 ha1
       dsimp only at ha0 ha1
       by_cases hkr:kr=ro
       ·have HU:=ja (HYES.o hkr)
        have HHS2:Hid (JW (kv.take (q+1)) ro=true):=ja (by rw[HHS.o,decide_eq_true (show(kr,kx).1=ro from hkr)];simp)
        have hsw:IntKind.i64.wrap (kx-co*tm)=kx-co*tm:=by rw[IntKind.wrap_i64];omega
        have HEQ:Hid (kx-co*tm=kx+co*-tm):=ja (by rw[Int.mul_neg];omega)
        clear HYES HNO HHS
        subst hkr
        have hkb:(kr==kr)=true:=by simp
        go_wp2
        go_quiet (fail)
        go_wp2
        have HO1:=ja (HOJ.o.drewN nq)
        have z0:(wr.drewN nq).cell? ⟨g,q*2,none⟩=some (.int .i64 kx):=c0
        have zf:(wr.drewN nq).frozen? ⟨g,q*2,none⟩=false:=cf0
        have zs:w.heap.size<=(wr.drewN nq).heap.size:=hWz
        have y0:(wr.drewN nq).cell? (ad.add (k*2))=some (.int .i64 co):=ha0
        clear HOJ c0 c1 cf0 cf1 ha0 ha1 hWz
        generalize wr.drewN nq=V1 at *
        refine jk (λw'=>w'.cell? (ad.add (k*2))=some (.int .i64 co)) 15 (λw'=>w'.cell? ⟨g,q*2,none⟩=some (.int .i64 kx)) 15 (λ_=>True) (by kernel_rfl) ⟨y0,λ_=>z0,λ_=>trivial⟩ (λjb=>?_)
        revert jb
        refine jtq 0 ?_ ?_ ?_
        rotate_left 1
        focus(intro;go_simp;try with_reducible rfl)
        (try simp only[Act.put,lA,lB,lC])
        refine jtq 1 ?_ ?_ ?_
        rotate_left 1
        focus(intro;go_simp;try with_reducible rfl)
        (try simp only[Act.put,lA,lB,lC])
        refine jtq 2 ?_ ?_ ?_
        rotate_left 1
        focus(intro;go_simp;try with_reducible rfl)
        (try simp only[Act.put,lA,lB,lC])
        refine jtq 3 ?_ ?_ ?_
        rotate_left 1
        focus(intro;go_simp;try with_reducible rfl)
        (try simp only[Act.put,lA,lB,lC])
        refine jtk 4 ?_ ?_ ?_
        rotate_left 1
        focus(intro w' hSw;obtain⟨hC,hF,hG⟩:=hSw;clear hG;have e2:=hF (by decide +kernel);(try clear hF);clear hC;go_simp;try with_reducible rfl)
        (try simp only[Act.put,lA,lB,lC])
        refine jtq 5 ?_ ?_ ?_
        rotate_left 1
        focus(intro;go_simp;try with_reducible rfl)
        (try simp only[Act.put,lA,lB,lC])
        refine jtq 6 ?_ ?_ ?_
        rotate_left 1
        focus(intro;go_simp;try with_reducible rfl)
        (try simp only[Act.put,lA,lB,lC])
        refine jtq 7 ?_ ?_ ?_
        rotate_left 1
        focus(intro;go_simp;try with_reducible rfl)
        (try simp only[Act.put,lA,lB,lC])
        refine jtq 8 ?_ ?_ ?_
        rotate_left 1
        focus(intro;go_simp;try with_reducible rfl)
        (try simp only[Act.put,lA,lB,lC])
        refine jtk 9 ?_ ?_ ?_
        rotate_left 1
        focus(intro w' hSw;obtain⟨hC,hF,hG⟩:=hSw;clear hG;have e1:=hC;clear hF;(try clear hF);clear hC;go_simp;try with_reducible rfl)
        (try simp only[Act.put,lA,lB,lC])
        refine jtq 10 ?_ ?_ ?_
        rotate_left 1
        focus(intro;go_simp;try with_reducible rfl)
        (try simp only[Act.put,lA,lB,lC])
        refine jtq 11 ?_ ?_ ?_
        rotate_left 1
        focus(intro;go_simp;try with_reducible rfl)
        (try simp only[Act.put,lA,lB,lC])
        refine jtq 12 ?_ ?_ ?_
        rotate_left 1
        focus(intro;go_simp;try with_reducible rfl)
        (try simp only[Act.put,lA,lB,lC])
        refine jtq 13 ?_ ?_ ?_
        rotate_left 1
        focus(intro;go_simp;try with_reducible rfl)
        (try simp only[Act.put,lA,lB,lC])
        refine jtq 14 ?_ ?_ ?_
        rotate_left 1
        focus(intro;go_simp;try with_reducible rfl)
        (try simp only[Act.put,lA,lB,lC])
        intro jb
        refine je 15 rfl (by decide +kernel) (λK hK=>?_)
        go_simp
        refine hK.out _ _ ⟨?_,λh=>absurd h (by decide +kernel),λh=>absurd h (by decide +kernel)⟩ (λjb=>?_)
        ·show(V1.setCell ⟨g,q*2,none⟩ _).cell? (ad.add (k*2))=_
         exact(World.cell?_setCell_far V1 _ _ _ (by show g≠(ad.add (k*2)).block;rw[jH];omega)).trans y0
        clear hK K
        refine jl (by decide +kernel) ?_
        clear jb
        go_wp2
        refine⟨⟨q+1,by omega,by go_num,by rw[HHS2.o],?_⟩,by simp only[intOf];omega⟩
        have hO:=HO1.o
        have hl:=Zr kv kr (co*-tm) q
        have hO2:=LesI.put (j:=q) (x:=kx-co*tm) (kv:=Zq kv kr (co*-tm) q) (kv':=Zq kv kr (co*-tm) (q+1)) (by rw[hl];exact hO) (by rw[hl];exact hj1) (by rw[HAT.o,HEQ.o];exact HU.o)
        rw[hl] at hO2
        exact hO2.drew
       ·have hkb:(kr==ro)=false:=by simpa using hkr
        have HU:=ja (HNO.o hkr)
        have HHS2:Hid (JW (kv.take (q+1)) ro=JW (kv.take q) ro):=ja (by rw[HHS.o,decide_eq_false (show ¬(kr,kx).1=ro from hkr)];simp)
        clear HYES HNO HHS
        go_wp2
        go_quiet (fail)
        go_wp2
        exact⟨⟨q+1,by omega,by go_num,by rw[HHS2.o],by rw[HU.o];exact HOJ.o.drewN nq⟩,by simp only[intOf];omega⟩
      ·obtain rfl:q=kv.length:=by omega
       rw[List.take_length]
       rw[jat7] at HOJ
       have HADD:=ja (zh0 kv ro (co*-tm) HKN.o)
       cases hhas:JW kv ro
       ·have hno:=jk1 kv ro (co*-tm) hhas
        rw[hno] at HOJ
        rw[hhas,if_neg (by decide)] at HADD
        have HI1:=ja HOJ.o
        have HNEG:Hid (-co*tm=co*-tm):=ja (by rw[Int.neg_mul,Int.mul_neg])
        have hneg1:IntKind.i64.wrap (-co)=-co:=by rw[IntKind.wrap_i64];omega
        have hneg:IntKind.i64.wrap (-co*tm)=-co*tm:=by rw[IntKind.wrap_i64];have:=HNEG.o;rw[Int.mul_neg] at this;omega
        clear hno HOJ hhas
        obtain⟨ad,rfl,had,ha0,ha1⟩:=jJ.at_ (HTY.o _ HI1.o.below) hk1
        rw[<-HXK.o] at ha0 ha1
        dsimp only at ha0 ha1
        have HROW:=ja (World.ownsRow.drew (HI1.o.row.alloc (.cells #[.int .i64 (-co*tm),.int .i64 ro] 59)))
        obtain⟨W,hW⟩:∃W,W=wr:=⟨_,rfl⟩
        subst hW
        have HBW:=ja ((Below.drew (Below.refl w.heap.size W)).alloc (by show _<=W.heap.size;omega) (.cells #[.int .i64 (-co*tm),.int .i64 ro] 59))
        have HBU:=ja (Below.drew ((Below.refl W.heap.size W).alloc (Nat.le_refl _) (.cells #[.int .i64 (-co*tm),.int .i64 ro] 59)))
        go_wp2
        refine jk (λw'=>Below w.heap.size W w') 16 (λ_=>True) 16 (λ_=>True) (by kernel_rfl) ⟨Below.drew (Below.refl _ _),λ_=>trivial,λ_=>trivial⟩ (λjb=>?_)
        revert jb
        refine jtq 0 ?_ ?_ ?_
        rotate_left 1
        focus(intro;go_simp;try with_reducible rfl)
        (try simp only[Act.put,lA,lB,lC])
        refine jtq 1 ?_ ?_ ?_
        rotate_left 1
        focus(intro;go_simp;try with_reducible rfl)
        (try simp only[Act.put,lA,lB,lC])
        refine jtq 2 ?_ ?_ ?_
        rotate_left 1
        focus(intro;go_simp;try with_reducible rfl)
        (try simp only[Act.put,lA,lB,lC])
        refine jtq 3 ?_ ?_ ?_
        rotate_left 1
        focus(intro;go_simp;try with_reducible rfl)
        (try simp only[Act.put,lA,lB,lC])
        refine jtq 4 ?_ ?_ ?_
        rotate_left 1
        focus(intro;go_simp;try with_reducible rfl)
        (try simp only[Act.put,lA,lB,lC])
        refine jtk 5 ?_ ?_ ?_
        rotate_left 1
        focus(intro w' hSw;obtain⟨hC,hF,hG⟩:=hSw;clear hG;have c1:=(hC.cell (p:=ad.add (k*2)) (by rw[jH];omega)).trans ha0;(try clear hF);clear hC;go_simp;try with_reducible rfl)
        (try simp only[Act.put,lA,lB,lC])
        refine jtq 6 ?_ ?_ ?_
        rotate_left 1
        focus(intro;go_simp;try with_reducible rfl)
        (try simp only[Act.put,lA,lB,lC])
        refine jtq 7 ?_ ?_ ?_
        rotate_left 1
        focus(intro;go_simp;try with_reducible rfl)
        (try simp only[Act.put,lA,lB,lC])
        refine jtq 8 ?_ ?_ ?_
        rotate_left 1
        focus(intro;go_simp;try with_reducible rfl)
        (try simp only[Act.put,lA,lB,lC])
        refine jtq 9 ?_ ?_ ?_
        rotate_left 1
        focus(intro;go_simp;try with_reducible rfl)
        (try simp only[Act.put,lA,lB,lC])
        refine jtq 10 ?_ ?_ ?_
        rotate_left 1
        focus(intro;go_simp;try with_reducible rfl)
        (try simp only[Act.put,lA,lB,lC])
        refine jtq 11 ?_ ?_ ?_
        rotate_left 1
        focus(intro;go_simp;try with_reducible rfl)
        (try simp only[Act.put,lA,lB,lC])
        refine jtq 12 ?_ ?_ ?_
        rotate_left 1
        focus(intro;go_simp;try with_reducible rfl)
        (try simp only[Act.put,lA,lB,lC])
        refine jtk 13 ?_ ?_ ?_
        rotate_left 1
        focus(intro w' hSw;obtain⟨hC,hF,hG⟩:=hSw;clear hG;have c1:=(hC.cell (p:=⟨(ad.add (k*2)).block,(ad.add (k*2)).off+1,none⟩) (by show(ad.add (k*2)).block<_;rw[jH];omega)).trans ha1;(try clear hF);clear hC;go_simp;try with_reducible rfl)
        (try simp only[Act.put,lA,lB,lC])
        refine jtq 14 ?_ ?_ ?_
        rotate_left 1
        focus(intro;go_simp;try with_reducible rfl)
        (try simp only[Act.put,lA,lB,lC])
        intro jb
        refine je 15 rfl (by decide +kernel) (λK hK=>?_)
        go_simp
        refine hK.out _ _ ⟨HBW.o,λ_=>trivial,λ_=>trivial⟩ (λjb=>?_)
        clear hK K
        (try simp only[Act.put,lA,lB,lC])
        refine je 16 rfl (by decide +kernel) (λK hK=>?_)
        refine step_append_lies _ rfl _ _ 22 rfl w.heap.size 59 i1 (.agg #[.int .i64 0,.int .i64 0]) 2 16 Tryz.underlying22 hi1 hy0 hy1 hy2 rfl (by decide) (.slice Ao kv.length cap) kv.length _ rfl HROW.o ⟨W.heap.size,0,none⟩ 1 1 [.int .i64 (-co*tm),.int .i64 ro] rfl rfl (zx W _ _ _) (by simp[Value.oneCell']) (by decide) (by unfold maxLen;omega) (by omega) (by show _<=(W.alloc _).heap.size;rw[World.size_alloc];omega) (W.heap.size+1) (by show(W.alloc _).heap.size=_;rw[World.size_alloc]) ?_
        intro g3 cap3 w3 ho3 hg3 hat3 hlt3
        have HN:=ja (HI1.o.next HBU.o ho3 hg3)
        have HB3:=ja (HBW.o.grown hg3 (by show _<=(W.alloc _).heap.size;rw[World.size_alloc];omega) (λj e=>(HI1.o.row.lt j e).1))
        refine hK.out _ _ ⟨HB3.o,λh=>absurd h (by decide +kernel),λh=>absurd h (by decide +kernel)⟩ (λjb=>?_)
        clear hK K ho3 hg3 hat3 hlt3
        (try simp only[Act.put,lA,lB,lC])
        revert jb
        refine jtq 17 ?_ ?_ ?_
        rotate_left 1
        focus(intro;go_simp;try with_reducible rfl)
        (try simp only[Act.put,lA,lB,lC])
        intro jb
        refine jl (by decide +kernel) ?_
        clear jb
        go_wp2
        exact⟨⟨k+1,by omega,by go_num,by rw[HTS.o,QJ,<-HL.o];dsimp only;rw[HADD.o,<-HNEG.o];exact HN.o⟩,by simp only[intOf];omega⟩
       ·rw[hhas,if_pos rfl] at HADD
        go_wp2
        exact⟨⟨k+1,by omega,by go_num,by rw[HTS.o,QJ,<-HL.o];dsimp only;rw[HADD.o];have h:=HOJ.o;exact h⟩,by simp only[intOf];omega⟩
    ·obtain rfl:k=yt.length:=by omega
     rw[List.take_length,show ze K0 yt (-tm)=Zl xt m yt tm by rw[HK0.o];rfl] at HI1
     obtain⟨Ao,cap,rfl⟩:=jx HI1.o.row
     go_wp2
     go_ret
     have hrow:=HI1.o.row
     have hsw:zZ (Zl xt m yt tm)=zO xt m yt tm:=rfl
     rw[hsw] at hrow
     exact⟨Ao,_,cap,rfl,Rq.of (Rd.of_own hrow),HI1.o.below⟩
theorem jag0 {xt yt:List (Int×Int)} {m k:Int} (hx:∀t∈xt,zu t.2) (hy:∀t∈yt,zu t.2) (hlx:xt.length<=4) (hly:yt.length<=4)
  (hbx:∀t∈xt,-400000000000000000<=t.1*m/\t.1*m<=400000000000000000) (hby:∀t∈yt,-400000000000000000<=t.1*k/\t.1*k<=400000000000000000)
  (A:Option Addr) (n c:Nat) (w:World) (h:jJ w w.heap.size A n c (zO xt m yt k)) :
  Calls Tryz.prog 41 #[.slice A n c] w λe w'=>∃s,e=.returned (.int .i64 s)/\jA (zO xt m yt k) s/\Below w.heap.size w w':=by
 obtain⟨hk1,hk2⟩:=jn2 hx hy m k
 have hbd:=zk6 (by omega) hbx hby
 have hbd2:zB (Zl xt m yt k) 3200000000000000000:=hbd.mono (by omega)
 have hlen:=jy9 xt yt m k
 have hkeys:(zO xt m yt k).map (·.2)=(Zl xt m yt k).map (·.1):=by simp[zO,ZZ,Function.comp_def]
 refine jbd1 A n c w.heap.size (zO xt m yt k) w h (Nat.le_refl _) ?_ ?_ ?_ ?_
 ·intro t ht
  obtain⟨p,hpm,rfl⟩:=List.mem_map.1 ht
  have h1:=zr hk1 p hpm
  have h2:=hbd2 p.1
  rw[h1] at h2
  show -_<=p.2/\p.2<=_
  omega
 ·intro t ht
  exact hk2 _ (by rw[<-hkeys];exact List.mem_map_of_mem ht)
 ·rw[hkeys];exact hk1
 ·simp[zO];omega
theorem jcs5 (xd:Int) (A:Option Addr) (n c:Nat) (xt:List (Int×Int)) (den v:Int) (B:Nat) (w:World) (hx:jJ w B A n c xt) (hB:B<=w.heap.size) (hok:js xd xt=true) (hd:1<=den/\den<=1000000000) (hv:-400000000000000000<=v*xd/\v*xd<=400000000000000000) (hv2:-9000000000000000000<=v/\v<=9000000000000000000) :
  Calls Tryz.prog 92 #[.agg #[.int .i64 xd,.slice A n c],.int .i64 den,.int .i64 v] w λe w'=>∃s,e=.returned (.int .i64 s)/\jA (zO xt den [(v,1)] xd) s/\Below w.heap.size w w':=by
 obtain⟨px1,px2,px3,px4⟩:=jz hok
 obtain⟨hro,hnd⟩:=Jd hok
 have hbx:∀t∈xt,-400000000000000000<=t.1*den/\t.1*den<=400000000000000000:=λt ht=>by
  have:=jE (a:=t.1) (b:=den) (A:=100000) (B:=1000000000) (px4 t ht).1.2.2.2 ⟨by omega,by omega⟩
  omega
 have hby:∀t∈[(v,(1:Int))],-400000000000000000<=t.1*xd/\t.1*xd<=400000000000000000:=λt ht=>by
  simp only[List.mem_singleton] at ht;subst ht;exact hv
 have hry:∀t∈[(v,(1:Int))],zu t.2:=λt ht=>by
  simp only[List.mem_singleton] at ht;subst ht;exact jn8
 have HT:=ja (λW (hb:Below w.heap.size w W)=>Rq.below hx (hb.mono hB))
 have HSG:=ja (λA n c W h=>jag0 (m:=den) (k:=xd) hro hry px3 (by simp) hbx hby A n c W h)
 have HX0:=ja ((jh.new w 24 #[.int .i64 xd,.slice A n c]).alloc (.cells #[.int .i64 v,.int .i64 1] 59))
 obtain⟨w1,hw1⟩:∃w1,w1=w.alloc (.cells #[.int .i64 xd,.slice A n c] 24):=⟨_,rfl⟩
 have HB0:Hid (Below w.heap.size w (w1.alloc (.cells #[.int .i64 v,.int .i64 1] 59))):=ja (by rw[hw1];exact((Below.refl w.heap.size w).alloc (Nat.le_refl _) _).alloc (by simp) _)
 have HX1:Hid (jh w1 w.heap.size 24 #[.int .i64 xd,.slice A n c]):=ja (by rw[hw1];exact jh.new _ _ _)
 have HL:=ja (jas6 A n c xt den (some ⟨w1.heap.size,0,none⟩) 1 1 [(v,1)] xd (w1.alloc (.cells #[.int .i64 v,.int .i64 1] 59)).heap.size (w1.alloc (.cells #[.int .i64 v,.int .i64 1] 59)) (Rq.more (HT.o _ HB0.o) (by have:=HB0.o.size;omega)) (Rq.of (Rd.more (jaa6 w1 v) (by simp))) (Nat.le_refl _) hnd hro hry px3 (by simp) hbx hby (λt ht=>by simp only[List.mem_singleton] at ht;subst ht;exact hv2))
 clear hx hok px4 hro hnd hbx hby hry
 obtain⟨q1,q2,q3,q4⟩:=HX1.o.two
 go_enter Tryz.func92,Tryz.ntmps92
 go_upto_region 1 with fail
 rw[<-hw1]
 clear hw1
 have HQ:=ja ((HX1.o.alloc (.cells #[.int .i64 v,.int .i64 1] 59)).two)
 obtain⟨r1,r2,_,_⟩:=HQ.o
 go_wp2_with (first
  | (go_at_call 41;refine(HSG.o _ _ _ _ HT2.o).mono ?_;rintro e w3 ⟨s,rfl,hs,hb3⟩;have HS:=ja hs;have HB3:=ja hb3;clear hs hb3)
  | (go_at_call 98;refine HL.o.mono ?_;rintro e w2 ⟨A2,n2,c2,rfl,ht2,hb2⟩;have HT2:=ja ht2;have HB2:=ja hb2;clear ht2 hb2))
 go_ret
 exact⟨s,rfl,HS.o,HB0.o.trans ((HB2.o.trans (HB3.o.mono HB2.o.size)).mono HB0.o.size)⟩
theorem qX (xd:Int) (xA:Option Addr) (xn xc:Nat) (xt:List (Int×Int)) (yd:Int) (yA:Option Addr) (yn yc:Nat) (yt:List (Int×Int)) (B:Nat) (w:World) (hx:jJ w B xA xn xc xt) (hy:jJ w B yA yn yc yt) (hB:B<=w.heap.size) (hox:js xd xt=true) (hoy:js yd yt=true) :
  Calls Tryz.prog 52 #[.agg #[.int .i64 xd,.slice xA xn xc],.agg #[.int .i64 yd,.slice yA yn yc]] w λe w'=>∃s,e=.returned (.int .i64 s)/\jA (zO xt yd yt xd) s/\Below w.heap.size w w':=by
 obtain⟨px1,px2,px3,px4⟩:=jz hox
 obtain⟨hrx,hnx⟩:=Jd hox
 obtain⟨py1,py2,py3,py4⟩:=jz hoy
 obtain⟨hry,hny⟩:=Jd hoy
 have hbx:∀t∈xt,-400000000000000000<=t.1*yd/\t.1*yd<=400000000000000000:=λt ht=>by
  have:=jE (a:=t.1) (b:=yd) (A:=100000) (B:=100000) (px4 t ht).1.2.2.2 ⟨by omega,by omega⟩
  omega
 have hby:∀t∈yt,-400000000000000000<=t.1*xd/\t.1*xd<=400000000000000000:=λt ht=>by
  have:=jE (a:=t.1) (b:=xd) (A:=100000) (B:=100000) (py4 t ht).1.2.2.2 ⟨by omega,by omega⟩
  omega
 obtain⟨w1,hw1⟩:∃w1,w1=(w.alloc (.cells #[.int .i64 xd,.slice xA xn xc] 24)).alloc (.cells #[.int .i64 yd,.slice yA yn yc] 24):=⟨_,rfl⟩
 have HB0:Hid (Below w.heap.size w w1):=ja (by rw[hw1];exact((Below.refl w.heap.size w).alloc (Nat.le_refl _) _).alloc (by simp) _)
 have HX1:Hid (jh w1 w.heap.size 24 #[.int .i64 xd,.slice xA xn xc]):=ja (by rw[hw1];exact(jh.new _ _ _).alloc _)
 have HY1:Hid (jh w1 (w.heap.size+1) 24 #[.int .i64 yd,.slice yA yn yc]):=ja (by
  rw[hw1]
  have h:=jh.new (w.alloc (.cells #[.int .i64 xd,.slice xA xn xc] 24)) 24 #[.int .i64 yd,.slice yA yn yc]
  rwa [World.size_alloc] at h)
 have HL:=ja (jas6 xA xn xc xt yd yA yn yc yt xd w1.heap.size w1 (Rq.more (Rq.below hx (HB0.o.mono hB)) (by have:=HB0.o.size;omega)) (Rq.more (Rq.below hy (HB0.o.mono hB)) (by have:=HB0.o.size;omega)) (Nat.le_refl _) hnx hrx hry px3 py3 hbx hby (λt ht=>by have:=(py4 t ht).1.2.2.2;omega))
 have HSG:=ja (λA n c W h=>jag0 (m:=yd) (k:=xd) hrx hry px3 py3 hbx hby A n c W h)
 clear hx hy hox hoy px4 py4 hrx hnx hry hny hbx hby
 obtain⟨q1,q2,q3,q4⟩:=HX1.o.two
 obtain⟨r1,r2,r3,r4⟩:=HY1.o.two
 go_enter Tryz.func52,Tryz.ntmps52
 go_upto_region 1 with fail
 rw[<-hw1]
 clear hw1
 go_wp2_with (first
  | (go_at_call 41;refine(HSG.o _ _ _ _ HT2.o).mono ?_;rintro e w3 ⟨s,rfl,hs,hb3⟩;have HS:=ja hs;have HB3:=ja hb3;clear hs hb3)
  | (go_at_call 98;refine HL.o.mono ?_;rintro e w2 ⟨A2,n2,c2,rfl,ht2,hb2⟩;have HT2:=ja ht2;have HB2:=ja hb2;clear ht2 hb2))
 go_ret
 exact⟨s,rfl,HS.o,HB0.o.trans ((HB2.o.trans (HB3.o.mono HB2.o.size)).mono HB0.o.size)⟩
theorem jcz1 (xd:Nat) (A:Option Addr) (n c:Nat) (xt:List (Int×Int)) (den:Nat) (B:Nat) (w:World) (hx:jJ w B A n c xt) (hB:B<=w.heap.size) (hok:js xd xt=true) (hd1:1<=den) (hd2:den<=1000000000) :
  Calls Tryz.prog 91 #[.agg #[.int .i64 xd,.slice A n c],.int .i64 den] w λe w'=>∃r,e=.returned (.int .i64 r)/\jd0 xd xt den r/\Below w.heap.size w w':=by
 obtain⟨px1,px2,px3,px4⟩:=jz hok
 have hro:=(Jd hok).1
 have hc:∀t∈xt,-100000<=t.1/\t.1<=100000:=λt ht=>(px4 t ht).1.2.2.2
 have hM:=λk=>jcb4 (xd:=xd) (den:=den) (xt:=xt.take k) (by simp;omega) (by omega) hd2 (λt ht=>hc t (List.mem_of_mem_take ht)) (by omega)
 have HM:=ja hM
 have HSG:=ja (jbb5 (xd:=xd) (den:=den) (by omega) hro)
 have HC:=ja hc
 have hl:=hx.len
 subst hl
 have HX0:=ja (jh.new w 24 #[.int .i64 xd,.slice A xt.length c])
 have HT:=ja (λW (hb:Below w.heap.size w W)=>Rq.below hx (hb.mono hB))
 have HB0:=ja ((Below.refl w.heap.size w).alloc (Nat.le_refl _) (.cells #[.int .i64 xd,.slice A xt.length c] 24))
 have HBS:=ja (λ(mid:Int) (W:World) (hb:Below w.heap.size w W) (h1:-400000000000000000<=mid*xd/\mid*xd<=400000000000000000) (h2:-9000000000000000000<=mid/\mid<=9000000000000000000)=>
  jcs5 xd A xt.length c xt den mid B W (HT.o W hb) (Nat.le_trans hB hb.size) hok ⟨by omega,by omega⟩ h1 h2)
 clear hx hok hM hc px4 hro
 go_enter Tryz.func91,Tryz.ntmps91
 go_wp2
 go_loopw [5,6] (λs i W=>∃k:Nat,k<=xt.length/\i=.int .i64 k/\s=.int .i64 (ZY xd (xt.take k) den)/\jh W w.heap.size 24 #[.int .i64 xd,.slice A xt.length c]/\Below w.heap.size w W) (λ_ i _=>xt.length-(intOf i).toNat)
 case atStart=>exact⟨0,by omega,rfl,rfl,HX0.o,HB0.o⟩
 case round=>
  obtain⟨k,hk,rfl,rfl,hb,hbl⟩:=hrel
  obtain⟨q1,q2,q3,q4⟩:=hb.two
  have HX1:=ja hb;have HB1:=ja hbl
  have hlw:=hb.lt
  clear hb hbl HX0 HB0
  by_cases hlt:k<xt.length
  ·have hct:=HC.o xt[k] (List.getElem_mem hlt)
   have HS:=ja (jbb4 xd den (jw xt k hlt))
   have hm0:=(HM.o k).1
   have hm1:=(HM.o (k+1)).1
   rw[HS.o] at hm1
   obtain⟨t,ht⟩:∃t,t=xt[k]:=⟨_,rfl⟩
   rw[<-ht] at hct HS hm1
   have HTI:=ja ht
   clear ht
   obtain⟨co,ro⟩:=t
   dsimp only at hct HS hm1
   obtain⟨ca,hca⟩:∃ca,ca=co.natAbs:=⟨_,rfl⟩
   have hca2:ca<=100000:=by omega
   have hqd:((ca:Int)*32).tdiv (xd:Int)=((ca*32/xd:Nat):Int):=by
    rw[show(ca:Int)*32=((ca*32:Nat):Int) by omega]
    rfl
   rw[<-hca] at HS hm1
   have hq2:ca*32/xd<=3200000:=Nat.le_trans (Nat.div_le_self _ _) (by omega)
   generalize ca*32/xd=qq at *
   have hqm:((qq:Int)+1)*(den:Int)=(((qq+1)*den:Nat):Int):=by rw[Int.natCast_mul,Int.natCast_add];rfl
   generalize (qq+1)*den=pr at *
   generalize ZY xd (xt.take k) den=ms at *
   have hw1:IntKind.i64.wrap ((ca:Int)*32)=(ca:Int)*32:=by rw[IntKind.wrap_i64];omega
   have hw2:IntKind.i64.wrap (qq:Int)=(qq:Int):=by rw[IntKind.wrap_i64];omega
   have hw3:IntKind.i64.wrap ((qq:Int)+1)=(qq:Int)+1:=by rw[IntKind.wrap_i64];omega
   have hw4:IntKind.i64.wrap (pr:Int)=(pr:Int):=by rw[IntKind.wrap_i64];omega
   have hw5:IntKind.i64.wrap ((ms:Int)+(pr:Int))=(ms:Int)+(pr:Int):=by rw[IntKind.wrap_i64];omega
   have hx0:¬xd=0:=by omega
   clear HC HM
   go_upto_region 5 with fail
   refine jk (λW'=>Below wr.drew.heap.size wr.drew W') 16 (λ_=>True) 16 (λ_=>True) (by kernel_rfl) ⟨Below.refl _ _,λ_=>trivial,λ_=>trivial⟩ (λjb=>?_)
   have HX2:=ja (HX1.o.below (Below.drew (Below.refl wr.heap.size wr)) HX1.o.lt)
   have HB2:=ja (HB1.o.trans ((Below.drew (Below.refl wr.heap.size wr)).mono HB1.o.size))
   obtain⟨ad,rfl,hadb,ha0,ha1⟩:=jJ.at_ (HT.o _ HB2.o) hlt
   replace hadb:ad.block<wr.drew.heap.size:=by have:=HB2.o.size;omega
   rw[<-HTI.o] at ha0
   dsimp only at ha0
   clear q1 q2 q3 q4 HX1 HB1 ha1
   generalize wr.drew=Wd at *
   have hX:=HX2.o.lt
   obtain⟨q1,q2,_,_⟩:=HX2.o.two
   revert jb
   refine jtq 0 ?_ ?_ ?_
   rotate_left 1
   focus(intro;go_simp;try with_reducible rfl)
   (try simp only[Act.put,lA,lB,lC])
   refine jtq 1 ?_ ?_ ?_
   rotate_left 1
   focus(intro;go_simp;try with_reducible rfl)
   (try simp only[Act.put,lA,lB,lC])
   refine jtk 2 ?_ ?_ ?_
   rotate_left 1
   focus(intro w' hSw;obtain⟨hC,hF,hG⟩:=hSw;clear hG;clear hF;have e1:=(hC.cell (p:=⟨w.heap.size,1,none⟩) (by show w.heap.size<_;exact hX)).trans q2;clear hC;go_simp;try with_reducible rfl)
   (try simp only[Act.put,lA,lB,lC])
   refine jtq 3 ?_ ?_ ?_
   rotate_left 1
   focus(intro;go_simp;try with_reducible rfl)
   (try simp only[Act.put,lA,lB,lC])
   refine jtq 4 ?_ ?_ ?_
   rotate_left 1
   focus(intro;go_simp;try with_reducible rfl)
   (try simp only[Act.put,lA,lB,lC])
   refine jtq 5 ?_ ?_ ?_
   rotate_left 1
   focus(intro;go_simp;try with_reducible rfl)
   (try simp only[Act.put,lA,lB,lC])
   refine jtk 6 ?_ ?_ ?_
   rotate_left 1
   focus(intro w' hSw;obtain⟨hC,hF,hG⟩:=hSw;clear hG;clear hF;have e1:=(hC.cell (p:=ad.add (k*2)) (by rw[jH];exact hadb)).trans ha0;clear hC;go_simp;try with_reducible rfl)
   (try simp only[Act.put,lA,lB,lC])
   refine jtq 9 ?_ ?_ ?_
   rotate_left 1
   focus(intro;go_simp;try with_reducible rfl)
   (try simp only[Act.put,lA,lB,lC])
   refine jtk 10 ?_ ?_ ?_
   rotate_left 1
   focus(intro w' hSw;obtain⟨hC,hF,hG⟩:=hSw;clear hG;clear hF;have e1:=(hC.cell (p:=⟨w.heap.size,0,none⟩) (by show w.heap.size<_;exact hX)).trans q1;clear hC;go_simp;try with_reducible rfl)
   (try simp only[Act.put,lA,lB,lC])
   refine jtq 13 ?_ ?_ ?_
   rotate_left 1
   focus(intro;go_simp;try with_reducible rfl)
   (try simp only[Act.put,lA,lB,lC])
   intro jb
   refine je 7 rfl (by decide +kernel) (λK hK=>?_)
   go_simp
   have HAB:=ja (jbv5 co Wd (by omega))
   rw[<-hca] at HAB
   clear hca
   go_wp2_with (first
    | (go_at_call 130;refine HAB.o.mono ?_;rintro e w7 ⟨rfl,rfl⟩))
   refine hK.out _ _ ⟨Below.refl _ _,λ_=>trivial,λ_=>trivial⟩ (λjb=>?_)
   clear hK K HAB
   (try simp only[Act.put,lA,lB,lC])
   revert jb
   refine jtq 8 ?_ ?_ ?_
   rotate_left 1
   focus(intro;go_simp;try with_reducible rfl)
   (try simp only[Act.put,lA,lB,lC])
   refine jtq 11 ?_ ?_ ?_
   rotate_left 1
   focus(intro;go_simp;try with_reducible rfl)
   (try simp only[Act.put,lA,lB,lC])
   refine jtq 12 ?_ ?_ ?_
   rotate_left 1
   focus(intro;go_simp;try with_reducible rfl)
   (try simp only[Act.put,lA,lB,lC])
   refine jtq 14 ?_ ?_ ?_
   rotate_left 1
   focus(intro;go_simp;try with_reducible rfl)
   (try simp only[Act.put,lA,lB,lC])
   refine jtq 15 ?_ ?_ ?_
   rotate_left 1
   focus(intro;go_simp;try with_reducible rfl)
   (try simp only[Act.put,lA,lB,lC])
   intro jb
   refine je 16 rfl (by decide +kernel) (λK hK=>?_)
   go_simp
   refine hK.out _ _ ⟨Below.refl _ _,λh=>absurd h (by decide +kernel),λh=>absurd h (by decide +kernel)⟩ (λjb=>?_)
   clear hK K
   (try simp only[Act.put,lA,lB,lC])
   refine jl (by decide +kernel) ?_
   clear jb ha0 hadb
   clear hqd hqm hw1 hw2 hw3 hw4 hw5
   go_wp2
   refine⟨⟨k+1,by omega,by go_num,?_,HX2.o,HB2.o⟩,by simp only[intOf];omega⟩
   rw[HS.o];simp
  ·obtain rfl:k=xt.length:=by omega
   rw[List.take_length]
   have hm0:=HM.o xt.length
   rw[List.take_length] at hm0
   obtain⟨sg1,sg2⟩:=HSG.o
   have hm2:2<=ZY xd xt den:=Nat.le_add_right _ _
   generalize ZY xd xt den=ms at *
   have SG1:=ja sg1;have SG2:=ja sg2
   clear sg1 sg2 HC HM HSG
   go_wp2
   go_loopw [7,8] (λa b W=>∃lo hi:Int,a=.int .i64 lo/\b=.int .i64 hi/\-(ms:Int)<=lo/\lo<hi/\hi<=ms/\(∃s,0<=s/\jA (zO xt den [(lo,1)] xd) s)/\(∃s,s<0/\jA (zO xt den [(hi,1)] xd) s) /\
    jh W w.heap.size 24 #[.int .i64 xd,.slice A xt.length c]/\Below w.heap.size w W) (λa b _=>(intOf b-intOf a).toNat)
   case atStart=>
    exact⟨-(ms:Int),ms,rfl,rfl,by omega,by omega,by omega,⟨1,by omega,SG1.o⟩,⟨-1,by omega,SG2.o⟩,HX1.o,HB1.o⟩
   case round=>
    obtain⟨lo,hi,rfl,rfl,h1,h2,h3,hs1,hs2,hb,hbl⟩:=hrel
    clear q1 q2 q3 q4 HX1 HB1 hlw
    obtain⟨q1,q2,q3,q4⟩:=hb.two
    have hlw:=hb.lt
    have HX3:=ja hb;have HB3:=ja hbl
    have HS1:=ja hs1;have HS2:=ja hs2
    clear hb hbl hs1 hs2
    by_cases hgt:1<hi-lo
    ·obtain⟨h,hh⟩:∃h,(hi-lo).tdiv 2=h:=⟨_,rfl⟩
     have hh2:2*h<=hi-lo/\hi-lo<=2*h+1:=by
      rw[<-hh,Int.tdiv_eq_ediv_of_nonneg (by omega)];omega
     obtain⟨mid,hmid⟩:∃mid,lo+h=mid:=⟨_,rfl⟩
     have hmr:lo<mid/\mid<hi:=by omega
     have hmx:-400000000000000000<=mid*xd/\mid*xd<=400000000000000000:=by
      have h4:(mid*(xd:Int)).natAbs<=ms*xd:=by
       rw[Int.natAbs_mul,Int.natAbs_natCast]
       exact Nat.mul_le_mul_right _ (by omega)
      omega
     have HL:=ja (HBS.o mid wr HB3.o hmx (by omega))
     clear hmx
     go_upto_region 9 with fail
     by_cases hdummy:True
     ·go_wp2_with (first
       | (go_at_call 92;refine HL.o.mono ?_;rintro e w2 ⟨s,rfl,hs,hb2⟩;have HS:=ja hs;have HX4:=ja (HX3.o.below hb2 hlw);have HB5:=ja (HB3.o.trans (hb2.mono HB3.o.size));clear hs hb2))
      ·exact⟨⟨mid,hi,rfl,rfl,by omega,by omega,h3,⟨s,by assumption,HS.o⟩,HS2.o,HX4.o,HB5.o⟩,by simp only[intOf];omega⟩
      ·exact⟨⟨lo,mid,rfl,rfl,by omega,by omega,by omega,HS1.o,⟨s,by omega,HS.o⟩,HX4.o,HB5.o⟩,by simp only[intOf];omega⟩
     ·exact absurd trivial hdummy
    ·go_wp2
     go_ret
     have hhi:hi=lo+1:=by omega
     subst hhi
     have h4:(lo*(xd:Int)).natAbs<=ms*xd:=by
      rw[Int.natAbs_mul,Int.natAbs_natCast]
      exact Nat.mul_le_mul_right _ (by omega)
     exact⟨lo,rfl,⟨HS1.o,HS2.o,⟨by omega,by omega⟩,by omega,by omega⟩,HB3.o⟩
