import Derived.Test.YtphcodcdfeohhaaGreatDoorRatBToTkrA
import Derived.Test.YtphcodcdfeohhaaGreatDoorKnownToFloK
import Derived.Test.YtphcodcdfeohhaaGreatDoorRefH
import Derived.Test.YtphcodcdfeohhaaGreatDoorLesAToCmpR
set_option linter.all false
namespace Go.Proofs.YtphcodcdfeohhaaGreatDoor
set_option maxRecDepth 100000
set_option maxHeartbeats 16000000
open Go Go.RowKit
theorem zt1(q:Int)(w:World):Calls Tryz.prog 44 #[.int .i64 q] w (QY w (1,jK q)):=zr0 q▸jt7 q w
theorem QC(w:World):Calls Tryz.prog 44 #[.int .i64 1001] w (QY w (1,[(1001,1)])):=jt7 1001 w
theorem qo {w W:World} (h4:jh W (w.heap.size+1) 43 #[.int .i64 0,.slice none 0 0]) (h5:jh W (w.heap.size+2) 24 #[.int .i64 0,.slice none 0 0]) (hb:Below w.heap.size w W) {W4:World}
  (e:W4=(((W.setCell ⟨w.heap.size+1,0,none⟩ (.int .i64 0)).setCell ⟨w.heap.size+1,1,none⟩ (.slice none 0 0)).setCell ⟨w.heap.size+2,0,none⟩ (.int .i64 0)).setCell ⟨w.heap.size+2,1,none⟩ (.slice none 0 0)) :
  jh W4 (w.heap.size+1) 43 #[.int .i64 0,.slice none ([]:List PieceV).length 0]/\jh W4 (w.heap.size+2) 24 #[.int .i64 0,.slice none 0 0]/\jD W4 W4.heap.size none ([]:List PieceV).length 0 []/\jJ W4 W4.heap.size none 0 0 []/\Below w.heap.size w W4:=by
 subst e
 have e1:w.heap.size+1≠w.heap.size+2:=by omega
 refine⟨(((h4.set_ 0 _).set_ 1 _).far (p:=⟨w.heap.size+2,0,none⟩) e1 _).far (p:=⟨w.heap.size+2,1,none⟩) e1 _,(((h5.far (p:=⟨w.heap.size+1,0,none⟩) e1.symm _).far (p:=⟨w.heap.size+1,1,none⟩) e1.symm _).set_ 0 _).set_ 1 _,
  ⟨Rd.nil_ _ _ _,λp hp=>by cases hp⟩,Rq.empty _ _ _ _,?_⟩
 exact(((hb.setCell (p:=⟨w.heap.size+1,0,none⟩) (by show w.heap.size<=w.heap.size+1;omega) _).setCell (p:=⟨w.heap.size+1,1,none⟩) (by show w.heap.size<=w.heap.size+1;omega) _).setCell (p:=⟨w.heap.size+2,0,none⟩) (by show w.heap.size<=w.heap.size+2;omega) _).setCell (p:=⟨w.heap.size+2,1,none⟩) (by show w.heap.size<=w.heap.size+2;omega) _
theorem jby1{xd co:Int}(hx:js xd (jK co)=true)(h0:0<=co):∃s0:Int,(∀s,jA (zO (jK co) 1 [(1001,1)] xd) s->s=s0)/\(1000<co/xd↔0<=s0):=by
 have hy:js 1 (jK 1001)=true:=by decide +kernel
 have hd:=zP hx
 have e:(1000<co/xd)↔1001*xd<=co:=by
  rw[show(1000<co/xd)↔1001<=co/xd by omega,Int.le_ediv_iff_mul_le hd]
 refine⟨if co=1001*xd then 0 else if 1001*xd<co then 1 else -1,λs hs=>?_,?_⟩
 ·have h:=(jch2 (s:=s) (c:=0) hx hy (.inl ⟨by rw[hx,hy];rfl,hs,rfl⟩)).2
  split
  ·omega
  ·split<;>omega
 ·rw[e]
  split
  ·omega
  ·split<;>omega
theorem zt0 (xd:Int) (A:Option Addr) (n c B:Nat) (xt:List (Int×Int)) (most:Int) (w:World) (hx:jJ w B A n c xt) (hB:B<=w.heap.size) :
  Calls Tryz.prog 19 #[.agg #[.int .i64 xd,.slice A n c],.int .i64 most] w (zb3 w (zq xd xt most).1 (zq xd xt most).2.1 (zq xd xt most).2.2.1.1 (zq xd xt most).2.2.1.2 (zq xd xt most).2.2.2):=by
 obtain rfl:=hx.len
 have hnm:=Rq.nmax hx
 have hcm:c<=maxLen:=hx.2.2.1
 obtain⟨i1,hi1,hy0,hy1,hy2⟩:=info_parts Tryz.infoPiece
 obtain⟨w0,hw0⟩:∃w0,w0=(((w.alloc (.cells #[.int .i64 xd,.slice A xt.length c] 24)).alloc (.cells #[.int .i64 0,.slice none 0 0] 43)).alloc (.cells #[.int .i64 0,.slice none 0 0] 24)).alloc (.cells #[.int .i64 0,.slice none 0 0] 43):=⟨_,rfl⟩
 obtain⟨X7,hX7⟩:∃X,X=w.heap.size+3:=⟨_,rfl⟩
 have HS:Hid ((((((Below w.heap.size w w0/\w.heap.size<=w0.heap.size)/\jh w0 w.heap.size 24 #[.int .i64 xd,.slice A xt.length c])/\jh w0 (w.heap.size+1) 43 #[.int .i64 0,.slice none 0 0])/\jh w0 (w.heap.size+2) 24 #[.int .i64 0,.slice none 0 0])/\jh w0 X7 43 #[.int .i64 0,.slice none 0 0])):=ja (by
  rw[hw0]
  refine⟨⟨⟨⟨⟨(((((Below.refl _ _).alloc (Nat.le_refl _) _).alloc (by simp) _).alloc (by simp;omega) _).alloc (by simp;omega) _),by simp;omega⟩,?_⟩,?_⟩,?_⟩,?_⟩
  ·exact(((jh.new w _ _).alloc _).alloc _).alloc _
  ·have h:=((jh.new (w.alloc (.cells #[.int .i64 xd,.slice A xt.length c] 24)) 43 #[.int .i64 0,.slice none 0 0]).alloc (.cells #[.int .i64 0,.slice none 0 0] 24)).alloc (.cells #[.int .i64 0,.slice none 0 0] 43)
   rwa [World.size_alloc] at h
  ·have h:=(jh.new ((w.alloc (.cells #[.int .i64 xd,.slice A xt.length c] 24)).alloc (.cells #[.int .i64 0,.slice none 0 0] 43)) 24 #[.int .i64 0,.slice none 0 0]).alloc (.cells #[.int .i64 0,.slice none 0 0] 43)
   rwa [World.size_alloc,World.size_alloc] at h
  ·have h:=jh.new (((w.alloc (.cells #[.int .i64 xd,.slice A xt.length c] 24)).alloc (.cells #[.int .i64 0,.slice none 0 0] 43)).alloc (.cells #[.int .i64 0,.slice none 0 0] 24)) 43 #[.int .i64 0,.slice none 0 0]
   rw[World.size_alloc,World.size_alloc,World.size_alloc] at h
   rw[hX7];exact h)
 have HX27:Hid (w.heap.size≠X7):=ja (by omega)
 have HX7:Hid (w.heap.size+3<=X7):=ja (by omega)
 have HP:=ja (λW (hb:Below w.heap.size w W)=>Rq.below hx (hb.mono hB))
 obtain⟨res,hres⟩:∃res,zq xd xt most=res:=⟨_,rfl⟩
 rw[hres]
 have hpost:∀(W:World) (a:Act) (wh:Int) (Ao:Option Addr) (co:Nat) (L:List PieceV) (rd:Int) (Ar:Option Addr) (nr cr:Nat) (rt:List (Int×Int)) (ms:List Int) (code:Int),res=(wh,ms,(rd,rt),code)->L.map PieceV.flat=ms.map jz7 ->
   (jh W (w.heap.size+1) 43 #[.int .i64 wh,.slice Ao L.length co]/\jh W (w.heap.size+2) 24 #[.int .i64 rd,.slice Ar nr cr]/\jD W W.heap.size Ao L.length co L/\jJ W W.heap.size Ar nr cr rt/\Below w.heap.size w W) ->
   a.tmps.getD 4 undef=.pointer (some ⟨w.heap.size+1,0,none⟩)->a.tmps.getD 5 undef=.pointer (some ⟨w.heap.size+2,0,none⟩)->a.tmps.getD 6 undef=.int .i64 code->a.defers=[]->bodyPost Tryz.prog Tryz.f19 (zb3 w res.1 res.2.1 res.2.2.1.1 res.2.2.1.2 res.2.2.2) .ret a W:=by
  intro W a wh Ao co L rd Ar nr cr rt ms code e1 e2 e3 e4 e5 e6 e7
  refine qQ (p:=4) (q:=5) (u:=6) (ty:=43) (ty2:=24) rfl e4 e3.1 Tryz.underlying43 rfl Tryz.sizeOld e5 e3.2.1 Tryz.underlying24 rfl Tryz.sizeNumber e7 ?_
  rw[e6,e1]
  exact⟨Ao,co,L,Ar,nr,cr,rfl,e3.2.2.1,e2,e3.2.2.2.1,e3.2.2.2.2⟩
 have HPOST:=ja hpost
 have HNM:=ja (QB xd A xt.length c B xt w0 (HP.o _ HS.o.1.1.1.1.1) (Nat.le_trans hB HS.o.1.1.1.1.2))
 clear hx hpost
 go_enter Tryz.func19,Tryz.ntmps19
 go_upto_region 2 with fail
 rw[<-hX7,<-hw0]
 clear hX7 hw0
 obtain⟨x0,x1,_,_⟩:=HS.o.1.1.1.2.two
 cases hok:js xd xt
 ·have HV:Hid (res=(0,[],(0,[]),2)):=ja (by rw[<-hres];unfold zq;rw[if_pos hok])
  rw[hok] at HNM
  clear hok hres
  go_upto_region 3 with(first
   | (go_at_call 39;refine HNM.o.mono ?_;rintro e wa ⟨rfl,hb⟩
      have HS1:=ja (Kept.keep (S:=λW=>(((((Below w.heap.size w W/\w.heap.size<=W.heap.size)/\jh W w.heap.size 24 #[.int .i64 xd,.slice A xt.length c])/\jh W (w.heap.size+1) 43 #[.int .i64 0,.slice none 0 0])/\jh W (w.heap.size+2) 24 #[.int .i64 0,.slice none 0 0])/\jh W X7 43 #[.int .i64 0,.slice none 0 0])) _ _ HS.o hb)
      clear hb))
  obtain⟨o0,o1,of0,of1⟩:=HS1.o.1.1.2.two
  obtain⟨r0,r1,rf0,rf1⟩:=HS1.o.1.2.two
  obtain⟨p0,p1,_,_⟩:=HS1.o.2.two
  go_wp2
  exact HPOST.o _ _ 0 none 0 [] 0 none 0 0 [] [] 2 HV.o rfl (qo HS1.o.1.1.2 HS1.o.1.2 HS1.o.1.1.1.1.1 rfl) rfl rfl rfl rfl
 rw[hok] at HNM
 go_upto_region 4 with(first
  | (go_at_call 39;refine HNM.o.mono ?_;rintro e wa ⟨rfl,hb⟩
     have HS1:=ja (Kept.keep (S:=λW=>(((((Below w.heap.size w W/\w.heap.size<=W.heap.size)/\jh W w.heap.size 24 #[.int .i64 xd,.slice A xt.length c])/\jh W (w.heap.size+1) 43 #[.int .i64 0,.slice none 0 0])/\jh W (w.heap.size+2) 24 #[.int .i64 0,.slice none 0 0])/\jh W X7 43 #[.int .i64 0,.slice none 0 0])) _ _ HS.o hb)
     clear hb))
 clear x0 x1 HNM HS
 have HS:=ja HS1.o
 clear HS1
 have HG4:=trivial
 by_cases hl1:1<xt.length
 ·have HV:Hid (res=(0,[],(0,[]),3)):=ja (by
   rw[<-hres]
   unfold zq
   rw[if_neg (by rw[hok];simp)]
   have hp:jn xd xt=(0,0,false):=by
    rcases xt with _|⟨a,_|⟨u,t⟩⟩
    ·simp at hl1
    ·simp at hl1
    ·rfl
   rw[hp,if_pos (.inl rfl)])
  clear hok hres
  obtain⟨xl,hxl⟩:∃n,n=xt.length:=⟨_,rfl⟩
  rw[<-hxl] at HS hl1 ⊢
  have hl2:1<(xl:Int):=by omega
  clear hxl hl1
  obtain⟨x0,x1,_,_⟩:=HS.o.1.1.1.2.two
  have h2:w.heap.size<wa.heap.size:=HS.o.1.1.1.2.lt
  have HGd:Hid ((((((Below w.heap.size w wa.drew/\w.heap.size<=wa.drew.heap.size)/\jh wa.drew w.heap.size 24 #[.int .i64 xd,.slice A xl c])/\jh wa.drew (w.heap.size+1) 43 #[.int .i64 0,.slice none 0 0])/\jh wa.drew (w.heap.size+2) 24 #[.int .i64 0,.slice none 0 0])/\jh wa.drew X7 43 #[.int .i64 0,.slice none 0 0])/\(Below wa.heap.size wa wa.drew/\wa.heap.size<=wa.drew.heap.size)):=ja ⟨Kept.keep (S:=λW=>(((((Below w.heap.size w W/\w.heap.size<=W.heap.size)/\jh W w.heap.size 24 #[.int .i64 xd,.slice A xl c])/\jh W (w.heap.size+1) 43 #[.int .i64 0,.slice none 0 0])/\jh W (w.heap.size+2) 24 #[.int .i64 0,.slice none 0 0])/\jh W X7 43 #[.int .i64 0,.slice none 0 0])) _ _ HS.o (Below.drew (Below.refl _ _)),Below.drew (Below.refl _ _),Nat.le_refl _⟩
  refine zV 36 (λW'=>Below wa.heap.size wa W') (λ_ _ _=>True) [] (λW'=>(((((Below w.heap.size w W'/\w.heap.size<=W'.heap.size)/\jh W' w.heap.size 24 #[.int .i64 xd,.slice A xl c])/\jh W' (w.heap.size+1) 43 #[.int .i64 0,.slice none 0 0])/\jh W' (w.heap.size+2) 24 #[.int .i64 0,.slice none 0 0])/\jh W' X7 43 #[.int .i64 0,.slice none 0 0])/\(Below wa.heap.size wa W'/\wa.heap.size<=W'.heap.size)) (by kernel_rfl)
   (Floats.of (by decide +kernel) (λc a d v w=>by cases d<;>exact Iff.rfl) (by intro i hi;cases hi) (λ_ _ _ _ _ _=>trivial))
   (λ_ _ _ h=>h) (by decide) HGd.o (λW h=>h.2.1) (λHFL=>?_)
  refine jsq 0 HFL (λW h=>h.2.1) ?_ ?_ ?_
  rotate_left 1
  focus(intro;go_simp;try with_reducible rfl)
  (try simp only[Act.put,lA,lB,lC])
  refine jst 1 HFL (λW h=>h.2.1) ?_ ?_ ?_
  rotate_left 1
  focus(intro W hF;have hF:=hF (by decide +kernel);have e1:=(hF.cell (p:=⟨w.heap.size,0,none⟩) h2).trans x0;have e2:=(hF.cell (p:=⟨w.heap.size,1,none⟩) h2).trans x1;clear hF;go_simp;try with_reducible rfl)
  (try simp only[Act.put,lA,lB,lC])
  refine jsq 2 HFL (λW h=>h.2.1) ?_ ?_ ?_
  rotate_left 1
  focus(intro;go_simp;try with_reducible rfl)
  (try simp only[Act.put,lA,lB,lC])
  refine jsq 3 HFL (λW h=>h.2.1) ?_ ?_ ?_
  rotate_left 1
  focus(intro;go_simp;try with_reducible rfl)
  (try simp only[Act.put,lA,lB,lC])
  refine jsq 4 HFL (λW h=>h.2.1) ?_ ?_ ?_
  rotate_left 1
  focus(intro;go_simp;try with_reducible rfl)
  (try simp only[Act.put,lA,lB,lC])
  refine jg.skip 5 rfl rfl HFL (by decide +kernel) (λW h=>h.2.1) (by rfl) ?_
  (try simp only[Act.put,lA,lB,lC])
  refine jg.skip 6 rfl rfl HFL (by decide +kernel) (λW h=>h.2.1) (by rfl) ?_
  (try simp only[Act.put,lA,lB,lC])
  refine jg.skip 7 rfl rfl HFL (by decide +kernel) (λW h=>h.2.1) (by rfl) ?_
  (try simp only[Act.put,lA,lB,lC])
  refine jg.skip 8 rfl rfl HFL (by decide +kernel) (λW h=>h.2.1) (by rfl) ?_
  (try simp only[Act.put,lA,lB,lC])
  refine jg.skip 9 rfl rfl HFL (by decide +kernel) (λW h=>h.2.1) (by rfl) ?_
  (try simp only[Act.put,lA,lB,lC])
  refine jg.skip 10 rfl rfl HFL (by decide +kernel) (λW h=>h.2.1) (by rfl) ?_
  (try simp only[Act.put,lA,lB,lC])
  refine jg.skip 11 rfl rfl HFL (by decide +kernel) (λW h=>h.2.1) (by rfl) ?_
  (try simp only[Act.put,lA,lB,lC])
  refine jg.skip 12 rfl rfl HFL (by decide +kernel) (λW h=>h.2.1) (by rfl) ?_
  (try simp only[Act.put,lA,lB,lC])
  refine jg.skip 13 rfl rfl HFL (by decide +kernel) (λW h=>h.2.1) (by rfl) ?_
  (try simp only[Act.put,lA,lB,lC])
  refine jg.skip 14 rfl rfl HFL (by decide +kernel) (λW h=>h.2.1) (by rfl) ?_
  (try simp only[Act.put,lA,lB,lC])
  refine jg.skip 15 rfl rfl HFL (by decide +kernel) (λW h=>h.2.1) (by rfl) ?_
  (try simp only[Act.put,lA,lB,lC])
  refine jg.skip 16 rfl rfl HFL (by decide +kernel) (λW h=>h.2.1) (by rfl) ?_
  (try simp only[Act.put,lA,lB,lC])
  refine jg.skip 17 rfl rfl HFL (by decide +kernel) (λW h=>h.2.1) (by rfl) ?_
  (try simp only[Act.put,lA,lB,lC])
  refine jg.skip 18 rfl rfl HFL (by decide +kernel) (λW h=>h.2.1) (by rfl) ?_
  (try simp only[Act.put,lA,lB,lC])
  refine jg.skip 19 rfl rfl HFL (by decide +kernel) (λW h=>h.2.1) (by rfl) ?_
  (try simp only[Act.put,lA,lB,lC])
  refine jg.skip 20 rfl rfl HFL (by decide +kernel) (λW h=>h.2.1) (by rfl) ?_
  (try simp only[Act.put,lA,lB,lC])
  refine jg.skip 21 rfl rfl HFL (by decide +kernel) (λW h=>h.2.1) (by rfl) ?_
  (try simp only[Act.put,lA,lB,lC])
  refine jg.skip 22 rfl rfl HFL (by decide +kernel) (λW h=>h.2.1) (by rfl) ?_
  (try simp only[Act.put,lA,lB,lC])
  refine jg.skip 23 rfl rfl HFL (by decide +kernel) (λW h=>h.2.1) (by rfl) ?_
  (try simp only[Act.put,lA,lB,lC])
  refine jg.skip 24 rfl rfl HFL (by decide +kernel) (λW h=>h.2.1) (by rfl) ?_
  (try simp only[Act.put,lA,lB,lC])
  refine jsq 25 HFL (λW h=>h.2.1) ?_ ?_ ?_
  rotate_left 1
  focus(intro;go_simp;try with_reducible rfl)
  (try simp only[Act.put,lA,lB,lC])
  refine jsq 26 HFL (λW h=>h.2.1) ?_ ?_ ?_
  rotate_left 1
  focus(intro;go_simp;try with_reducible rfl)
  (try simp only[Act.put,lA,lB,lC])
  refine jg.skip 27 rfl rfl HFL (by decide +kernel) (λW h=>h.2.1) (by rfl) ?_
  (try simp only[Act.put,lA,lB,lC])
  refine jg.skip 28 rfl rfl HFL (by decide +kernel) (λW h=>h.2.1) (by rfl) ?_
  (try simp only[Act.put,lA,lB,lC])
  refine jg.skip 29 rfl rfl HFL (by decide +kernel) (λW h=>h.2.1) (by rfl) ?_
  (try simp only[Act.put,lA,lB,lC])
  refine jg.skip 30 rfl rfl HFL (by decide +kernel) (λW h=>h.2.1) (by rfl) ?_
  (try simp only[Act.put,lA,lB,lC])
  refine jsq 31 HFL (λW h=>h.2.1) ?_ ?_ ?_
  rotate_left 1
  focus(intro;go_simp;try with_reducible rfl)
  (try simp only[Act.put,lA,lB,lC])
  refine jsq 32 HFL (λW h=>h.2.1) ?_ ?_ ?_
  rotate_left 1
  focus(intro;go_simp;try with_reducible rfl)
  (try simp only[Act.put,lA,lB,lC])
  refine jg.skip 33 rfl rfl HFL (by decide +kernel) (λW h=>h.2.1) (by rfl) ?_
  (try simp only[Act.put,lA,lB,lC])
  refine jg.skip 34 rfl rfl HFL (by decide +kernel) (λW h=>h.2.1) (by rfl) ?_
  (try simp only[Act.put,lA,lB,lC])
  refine jg.skip 35 rfl rfl HFL (by decide +kernel) (λW h=>h.2.1) (by rfl) ?_
  (try simp only[Act.put,lA,lB,lC])
  refine jg.fin rfl (λW h=>h.2.1) (λwb hG jb=>?_)
  have HS1:=ja (hG.1)
  clear hG HGd HFL  HS x0 x1 h2
  have HS:=ja HS1.o
  clear HS1
  refine je 36 rfl (by decide +kernel) (λK hK=>?_)
  go_simp
  refine hK.out _ _ ⟨trivial,λh=>absurd h (by decide +kernel),λ_=>trivial⟩ (λjb=>?_)
  clear hK K
  (try simp only[Act.put,lA,lB,lC])
  refine jl (by decide +kernel) ?_
  clear jb
  go_upto_region 5 with fail
  obtain⟨o0,o1,of0,of1⟩:=HS.o.1.1.2.two
  obtain⟨r0,r1,rf0,rf1⟩:=HS.o.1.2.two
  obtain⟨p0,p1,_,_⟩:=HS.o.2.two
  go_wp2
  exact HPOST.o _ _ 0 none 0 [] 0 none 0 0 [] [] 3 HV.o rfl (qo HS.o.1.1.2 HS.o.1.2 HS.o.1.1.1.1.1 rfl) rfl rfl rfl rfl
 obtain⟨co,hco⟩:∃co,(∃ro,xt=[(co,ro)]/\ro≠1)\/xt=jK co:=by
  rcases xt with _|⟨⟨a,r⟩,_|⟨u,t⟩⟩
  ·exact⟨0,.inr rfl⟩
  ·by_cases hr:r=1
   ·subst hr
    refine⟨a,.inr ?_⟩
    have ha:=((jz hok).2.2.2 (a,1) (by simp)).1.2.2.1
    rw[za (by simpa using ha)]
   ·exact⟨a,.inl ⟨r,rfl,hr⟩⟩
  ·simp at hl1
 clear hl1
 rcases hco with⟨ro,rfl,hro⟩|rfl
 ·have HV:Hid (res=(0,[],(0,[]),3)):=ja (by
   rw[<-hres]
   unfold zq
   rw[if_neg (by rw[hok];simp)]
   have hp:jn xd [(co,ro)]=(0,0,false):=by simp[jn,hro]
   rw[hp,if_pos (.inl rfl)])
  have hrb:(ro !=1)=true:=by simpa using hro
  obtain⟨ad,rfl,hadb,ca0,ca1⟩:=jJ.at_ (HP.o _ HS.o.1.1.1.1.1) (i:=0) (by simp)
  replace hadb:ad.block<wa.heap.size:=Nat.lt_of_lt_of_le (by simpa [Addr.add] using hadb) (Nat.le_trans hB HS.o.1.1.1.1.2)
  replace ca0:wa.cell? ad=some (.int .i64 co):=by simpa [Addr.add] using ca0
  replace ca1:wa.cell? ⟨ad.block,ad.off+1,none⟩=some (.int .i64 ro):=by simpa [Addr.add] using ca1
  have HS2:Hid ((((((Below w.heap.size w wa/\w.heap.size<=wa.heap.size)/\jh wa w.heap.size 24 #[.int .i64 xd,.slice (some ad) 1 c])/\jh wa (w.heap.size+1) 43 #[.int .i64 0,.slice none 0 0])/\jh wa (w.heap.size+2) 24 #[.int .i64 0,.slice none 0 0])/\jh wa X7 43 #[.int .i64 0,.slice none 0 0])):=ja HS.o
  clear HS
  have HS:=ja HS2.o
  clear hok hres HS2
  rw[List.length_singleton]
  obtain⟨x0,x1,_,_⟩:=HS.o.1.1.1.2.two
  have h2:w.heap.size<wa.heap.size:=HS.o.1.1.1.2.lt
  have HGd:Hid ((((((Below w.heap.size w wa.drew/\w.heap.size<=wa.drew.heap.size)/\jh wa.drew w.heap.size 24 #[.int .i64 xd,.slice (some ad) 1 c])/\jh wa.drew (w.heap.size+1) 43 #[.int .i64 0,.slice none 0 0])/\jh wa.drew (w.heap.size+2) 24 #[.int .i64 0,.slice none 0 0])/\jh wa.drew X7 43 #[.int .i64 0,.slice none 0 0])/\(Below wa.heap.size wa wa.drew/\wa.heap.size<=wa.drew.heap.size)):=ja ⟨Kept.keep (S:=λW=>(((((Below w.heap.size w W/\w.heap.size<=W.heap.size)/\jh W w.heap.size 24 #[.int .i64 xd,.slice (some ad) 1 c])/\jh W (w.heap.size+1) 43 #[.int .i64 0,.slice none 0 0])/\jh W (w.heap.size+2) 24 #[.int .i64 0,.slice none 0 0])/\jh W X7 43 #[.int .i64 0,.slice none 0 0])) _ _ HS.o (Below.drew (Below.refl _ _)),Below.drew (Below.refl _ _),Nat.le_refl _⟩
  refine zV 36 (λW'=>Below wa.heap.size wa W') (λ_ _ _=>True) [] (λW'=>(((((Below w.heap.size w W'/\w.heap.size<=W'.heap.size)/\jh W' w.heap.size 24 #[.int .i64 xd,.slice (some ad) 1 c])/\jh W' (w.heap.size+1) 43 #[.int .i64 0,.slice none 0 0])/\jh W' (w.heap.size+2) 24 #[.int .i64 0,.slice none 0 0])/\jh W' X7 43 #[.int .i64 0,.slice none 0 0])/\(Below wa.heap.size wa W'/\wa.heap.size<=W'.heap.size)) (by kernel_rfl)
   (Floats.of (by decide +kernel) (λc a d v w=>by cases d<;>exact Iff.rfl) (by intro i hi;cases hi) (λ_ _ _ _ _ _=>trivial))
   (λ_ _ _ h=>h) (by decide) HGd.o (λW h=>h.2.1) (λHFL=>?_)
  refine jsq 0 HFL (λW h=>h.2.1) ?_ ?_ ?_
  rotate_left 1
  focus(intro;go_simp;try with_reducible rfl)
  (try simp only[Act.put,lA,lB,lC])
  refine jst 1 HFL (λW h=>h.2.1) ?_ ?_ ?_
  rotate_left 1
  focus(intro W hF;have hF:=hF (by decide +kernel);have e1:=(hF.cell (p:=⟨w.heap.size,0,none⟩) h2).trans x0;have e2:=(hF.cell (p:=⟨w.heap.size,1,none⟩) h2).trans x1;clear hF;go_simp;try with_reducible rfl)
  (try simp only[Act.put,lA,lB,lC])
  refine jsq 2 HFL (λW h=>h.2.1) ?_ ?_ ?_
  rotate_left 1
  focus(intro;go_simp;try with_reducible rfl)
  (try simp only[Act.put,lA,lB,lC])
  refine jsq 3 HFL (λW h=>h.2.1) ?_ ?_ ?_
  rotate_left 1
  focus(intro;go_simp;try with_reducible rfl)
  (try simp only[Act.put,lA,lB,lC])
  refine jsq 4 HFL (λW h=>h.2.1) ?_ ?_ ?_
  rotate_left 1
  focus(intro;go_simp;try with_reducible rfl)
  (try simp only[Act.put,lA,lB,lC])
  refine jsq 5 HFL (λW h=>h.2.1) ?_ ?_ ?_
  rotate_left 1
  focus(intro;go_simp;try with_reducible rfl)
  (try simp only[Act.put,lA,lB,lC])
  refine jst 6 HFL (λW h=>h.2.1) ?_ ?_ ?_
  rotate_left 1
  focus(intro W hF;have hF:=hF (by decide +kernel);have e1:=(hF.cell (p:=⟨w.heap.size,0,none⟩) h2).trans x0;have e2:=(hF.cell (p:=⟨w.heap.size,1,none⟩) h2).trans x1;clear hF;go_simp;try with_reducible rfl)
  (try simp only[Act.put,lA,lB,lC])
  refine jsq 7 HFL (λW h=>h.2.1) ?_ ?_ ?_
  rotate_left 1
  focus(intro;go_simp;try with_reducible rfl)
  (try simp only[Act.put,lA,lB,lC])
  refine jsq 8 HFL (λW h=>h.2.1) ?_ ?_ ?_
  rotate_left 1
  focus(intro;go_simp;try with_reducible rfl)
  (try simp only[Act.put,lA,lB,lC])
  refine jsq 9 HFL (λW h=>h.2.1) ?_ ?_ ?_
  rotate_left 1
  focus(intro;go_simp;try with_reducible rfl)
  (try simp only[Act.put,lA,lB,lC])
  refine jsq 10 HFL (λW h=>h.2.1) ?_ ?_ ?_
  rotate_left 1
  focus(intro;go_simp;try with_reducible rfl)
  (try simp only[Act.put,lA,lB,lC])
  refine jst 11 HFL (λW h=>h.2.1) ?_ ?_ ?_
  rotate_left 1
  focus(intro W hF;have hF:=hF (by decide +kernel);have e1:=(hF.cell (p:=⟨w.heap.size,0,none⟩) h2).trans x0;have e2:=(hF.cell (p:=⟨w.heap.size,1,none⟩) h2).trans x1;clear hF;go_simp;try with_reducible rfl)
  (try simp only[Act.put,lA,lB,lC])
  refine jsq 12 HFL (λW h=>h.2.1) ?_ ?_ ?_
  rotate_left 1
  focus(intro;go_simp;try with_reducible rfl)
  (try simp only[Act.put,lA,lB,lC])
  refine jsq 13 HFL (λW h=>h.2.1) ?_ ?_ ?_
  rotate_left 1
  focus(intro;go_simp;try with_reducible rfl)
  (try simp only[Act.put,lA,lB,lC])
  refine jst 14 HFL (λW h=>h.2.1) ?_ ?_ ?_
  rotate_left 1
  focus(intro W hF;have hF:=hF (by decide +kernel);have e1:=(hF.cell (p:=⟨ad.block,ad.off+1,none⟩) hadb).trans ca1;clear hF;go_simp;try with_reducible rfl)
  (try simp only[Act.put,lA,lB,lC])
  refine jsq 15 HFL (λW h=>h.2.1) ?_ ?_ ?_
  rotate_left 1
  focus(intro;go_simp;try with_reducible rfl)
  (try simp only[Act.put,lA,lB,lC])
  refine jsq 16 HFL (λW h=>h.2.1) ?_ ?_ ?_
  rotate_left 1
  focus(intro;go_simp;try with_reducible rfl)
  (try simp only[Act.put,lA,lB,lC])
  refine jg.skip 17 rfl rfl HFL (by decide +kernel) (λW h=>h.2.1) (by rfl) ?_
  (try simp only[Act.put,lA,lB,lC])
  refine jg.skip 18 rfl rfl HFL (by decide +kernel) (λW h=>h.2.1) (by rfl) ?_
  (try simp only[Act.put,lA,lB,lC])
  refine jg.skip 19 rfl rfl HFL (by decide +kernel) (λW h=>h.2.1) (by rfl) ?_
  (try simp only[Act.put,lA,lB,lC])
  refine jg.skip 20 rfl rfl HFL (by decide +kernel) (λW h=>h.2.1) (by rfl) ?_
  (try simp only[Act.put,lA,lB,lC])
  refine jg.skip 21 rfl rfl HFL (by decide +kernel) (λW h=>h.2.1) (by rfl) ?_
  (try simp only[Act.put,lA,lB,lC])
  refine jg.skip 22 rfl rfl HFL (by decide +kernel) (λW h=>h.2.1) (by rfl) ?_
  (try simp only[Act.put,lA,lB,lC])
  refine jsq 23 HFL (λW h=>h.2.1) ?_ ?_ ?_
  rotate_left 1
  focus(intro;go_simp;try with_reducible rfl)
  (try simp only[Act.put,lA,lB,lC])
  refine jsq 24 HFL (λW h=>h.2.1) ?_ ?_ ?_
  rotate_left 1
  focus(intro;go_simp;try with_reducible rfl)
  (try simp only[Act.put,lA,lB,lC])
  refine jsq 25 HFL (λW h=>h.2.1) ?_ ?_ ?_
  rotate_left 1
  focus(intro;go_simp;try with_reducible rfl)
  (try simp only[Act.put,lA,lB,lC])
  refine jsq 26 HFL (λW h=>h.2.1) ?_ ?_ ?_
  rotate_left 1
  focus(intro;go_simp;try with_reducible rfl)
  (try simp only[Act.put,lA,lB,lC])
  refine jg.skip 27 rfl rfl HFL (by decide +kernel) (λW h=>h.2.1) (by rfl) ?_
  (try simp only[Act.put,lA,lB,lC])
  refine jg.skip 28 rfl rfl HFL (by decide +kernel) (λW h=>h.2.1) (by rfl) ?_
  (try simp only[Act.put,lA,lB,lC])
  refine jg.skip 29 rfl rfl HFL (by decide +kernel) (λW h=>h.2.1) (by rfl) ?_
  (try simp only[Act.put,lA,lB,lC])
  refine jg.skip 30 rfl rfl HFL (by decide +kernel) (λW h=>h.2.1) (by rfl) ?_
  (try simp only[Act.put,lA,lB,lC])
  refine jsq 31 HFL (λW h=>h.2.1) ?_ ?_ ?_
  rotate_left 1
  focus(intro;go_simp;try with_reducible rfl)
  (try simp only[Act.put,lA,lB,lC])
  refine jsq 32 HFL (λW h=>h.2.1) ?_ ?_ ?_
  rotate_left 1
  focus(intro;go_simp;try with_reducible rfl)
  (try simp only[Act.put,lA,lB,lC])
  refine jg.skip 33 rfl rfl HFL (by decide +kernel) (λW h=>h.2.1) (by rfl) ?_
  (try simp only[Act.put,lA,lB,lC])
  refine jg.skip 34 rfl rfl HFL (by decide +kernel) (λW h=>h.2.1) (by rfl) ?_
  (try simp only[Act.put,lA,lB,lC])
  refine jg.skip 35 rfl rfl HFL (by decide +kernel) (λW h=>h.2.1) (by rfl) ?_
  (try simp only[Act.put,lA,lB,lC])
  refine jg.fin rfl (λW h=>h.2.1) (λwb hG jb=>?_)
  have HS1:=ja (hG.1)
  clear hG HGd HFL  HS x0 x1 h2
  have HS:=ja HS1.o
  clear HS1
  refine je 36 rfl (by decide +kernel) (λK hK=>?_)
  go_simp
  refine hK.out _ _ ⟨trivial,λh=>absurd h (by decide +kernel),λ_=>trivial⟩ (λjb=>?_)
  clear hK K
  (try simp only[Act.put,lA,lB,lC])
  refine jl (by decide +kernel) ?_
  clear jb
  clear ca0 ca1
  go_upto_region 5 with fail
  obtain⟨o0,o1,of0,of1⟩:=HS.o.1.1.2.two
  obtain⟨r0,r1,rf0,rf1⟩:=HS.o.1.2.two
  obtain⟨p0,p1,_,_⟩:=HS.o.2.two
  go_wp2
  exact HPOST.o _ _ 0 none 0 [] 0 none 0 0 [] [] 3 HV.o rfl (qo HS.o.1.1.2 HS.o.1.2 HS.o.1.1.1.1.1 rfl) rfl rfl rfl rfl
 by_cases hneg:co<0
 ·have HV:Hid (res=(0,[],(0,[]),3)):=ja (by
   rw[<-hres]
   unfold zq
   rw[if_neg (by rw[hok];simp),jj2,if_neg (show co≠0 by omega),if_pos (.inr (.inl hneg))])
  rw[za (show co≠0 by omega)] at *
  obtain⟨ad,rfl,hadb,ca0,ca1⟩:=jJ.at_ (HP.o _ HS.o.1.1.1.1.1) (i:=0) (by simp)
  replace hadb:ad.block<wa.heap.size:=Nat.lt_of_lt_of_le (by simpa [Addr.add] using hadb) (Nat.le_trans hB HS.o.1.1.1.1.2)
  replace ca0:wa.cell? ad=some (.int .i64 co):=by simpa [Addr.add] using ca0
  replace ca1:wa.cell? ⟨ad.block,ad.off+1,none⟩=some (.int .i64 1):=by simpa [Addr.add] using ca1
  have HS2:Hid ((((((Below w.heap.size w wa/\w.heap.size<=wa.heap.size)/\jh wa w.heap.size 24 #[.int .i64 xd,.slice (some ad) 1 c])/\jh wa (w.heap.size+1) 43 #[.int .i64 0,.slice none 0 0])/\jh wa (w.heap.size+2) 24 #[.int .i64 0,.slice none 0 0])/\jh wa X7 43 #[.int .i64 0,.slice none 0 0])):=ja HS.o
  clear HS
  have HS:=ja HS2.o
  clear hok hres HS2
  rw[List.length_singleton]
  obtain⟨x0,x1,_,_⟩:=HS.o.1.1.1.2.two
  have h2:w.heap.size<wa.heap.size:=HS.o.1.1.1.2.lt
  have HGd:Hid ((((((Below w.heap.size w wa.drew/\w.heap.size<=wa.drew.heap.size)/\jh wa.drew w.heap.size 24 #[.int .i64 xd,.slice (some ad) 1 c])/\jh wa.drew (w.heap.size+1) 43 #[.int .i64 0,.slice none 0 0])/\jh wa.drew (w.heap.size+2) 24 #[.int .i64 0,.slice none 0 0])/\jh wa.drew X7 43 #[.int .i64 0,.slice none 0 0])/\(Below wa.heap.size wa wa.drew/\wa.heap.size<=wa.drew.heap.size)):=ja ⟨Kept.keep (S:=λW=>(((((Below w.heap.size w W/\w.heap.size<=W.heap.size)/\jh W w.heap.size 24 #[.int .i64 xd,.slice (some ad) 1 c])/\jh W (w.heap.size+1) 43 #[.int .i64 0,.slice none 0 0])/\jh W (w.heap.size+2) 24 #[.int .i64 0,.slice none 0 0])/\jh W X7 43 #[.int .i64 0,.slice none 0 0])) _ _ HS.o (Below.drew (Below.refl _ _)),Below.drew (Below.refl _ _),Nat.le_refl _⟩
  refine zV 36 (λW'=>Below wa.heap.size wa W') (λ_ _ _=>True) [] (λW'=>(((((Below w.heap.size w W'/\w.heap.size<=W'.heap.size)/\jh W' w.heap.size 24 #[.int .i64 xd,.slice (some ad) 1 c])/\jh W' (w.heap.size+1) 43 #[.int .i64 0,.slice none 0 0])/\jh W' (w.heap.size+2) 24 #[.int .i64 0,.slice none 0 0])/\jh W' X7 43 #[.int .i64 0,.slice none 0 0])/\(Below wa.heap.size wa W'/\wa.heap.size<=W'.heap.size)) (by kernel_rfl)
   (Floats.of (by decide +kernel) (λc a d v w=>by cases d<;>exact Iff.rfl) (by intro i hi;cases hi) (λ_ _ _ _ _ _=>trivial))
   (λ_ _ _ h=>h) (by decide) HGd.o (λW h=>h.2.1) (λHFL=>?_)
  refine jsq 0 HFL (λW h=>h.2.1) ?_ ?_ ?_
  rotate_left 1
  focus(intro;go_simp;try with_reducible rfl)
  (try simp only[Act.put,lA,lB,lC])
  refine jst 1 HFL (λW h=>h.2.1) ?_ ?_ ?_
  rotate_left 1
  focus(intro W hF;have hF:=hF (by decide +kernel);have e1:=(hF.cell (p:=⟨w.heap.size,0,none⟩) h2).trans x0;have e2:=(hF.cell (p:=⟨w.heap.size,1,none⟩) h2).trans x1;clear hF;go_simp;try with_reducible rfl)
  (try simp only[Act.put,lA,lB,lC])
  refine jsq 2 HFL (λW h=>h.2.1) ?_ ?_ ?_
  rotate_left 1
  focus(intro;go_simp;try with_reducible rfl)
  (try simp only[Act.put,lA,lB,lC])
  refine jsq 3 HFL (λW h=>h.2.1) ?_ ?_ ?_
  rotate_left 1
  focus(intro;go_simp;try with_reducible rfl)
  (try simp only[Act.put,lA,lB,lC])
  refine jsq 4 HFL (λW h=>h.2.1) ?_ ?_ ?_
  rotate_left 1
  focus(intro;go_simp;try with_reducible rfl)
  (try simp only[Act.put,lA,lB,lC])
  refine jsq 5 HFL (λW h=>h.2.1) ?_ ?_ ?_
  rotate_left 1
  focus(intro;go_simp;try with_reducible rfl)
  (try simp only[Act.put,lA,lB,lC])
  refine jst 6 HFL (λW h=>h.2.1) ?_ ?_ ?_
  rotate_left 1
  focus(intro W hF;have hF:=hF (by decide +kernel);have e1:=(hF.cell (p:=⟨w.heap.size,0,none⟩) h2).trans x0;have e2:=(hF.cell (p:=⟨w.heap.size,1,none⟩) h2).trans x1;clear hF;go_simp;try with_reducible rfl)
  (try simp only[Act.put,lA,lB,lC])
  refine jsq 7 HFL (λW h=>h.2.1) ?_ ?_ ?_
  rotate_left 1
  focus(intro;go_simp;try with_reducible rfl)
  (try simp only[Act.put,lA,lB,lC])
  refine jsq 8 HFL (λW h=>h.2.1) ?_ ?_ ?_
  rotate_left 1
  focus(intro;go_simp;try with_reducible rfl)
  (try simp only[Act.put,lA,lB,lC])
  refine jsq 9 HFL (λW h=>h.2.1) ?_ ?_ ?_
  rotate_left 1
  focus(intro;go_simp;try with_reducible rfl)
  (try simp only[Act.put,lA,lB,lC])
  refine jsq 10 HFL (λW h=>h.2.1) ?_ ?_ ?_
  rotate_left 1
  focus(intro;go_simp;try with_reducible rfl)
  (try simp only[Act.put,lA,lB,lC])
  refine jst 11 HFL (λW h=>h.2.1) ?_ ?_ ?_
  rotate_left 1
  focus(intro W hF;have hF:=hF (by decide +kernel);have e1:=(hF.cell (p:=⟨w.heap.size,0,none⟩) h2).trans x0;have e2:=(hF.cell (p:=⟨w.heap.size,1,none⟩) h2).trans x1;clear hF;go_simp;try with_reducible rfl)
  (try simp only[Act.put,lA,lB,lC])
  refine jsq 12 HFL (λW h=>h.2.1) ?_ ?_ ?_
  rotate_left 1
  focus(intro;go_simp;try with_reducible rfl)
  (try simp only[Act.put,lA,lB,lC])
  refine jsq 13 HFL (λW h=>h.2.1) ?_ ?_ ?_
  rotate_left 1
  focus(intro;go_simp;try with_reducible rfl)
  (try simp only[Act.put,lA,lB,lC])
  refine jst 14 HFL (λW h=>h.2.1) ?_ ?_ ?_
  rotate_left 1
  focus(intro W hF;have hF:=hF (by decide +kernel);have e1:=(hF.cell (p:=⟨ad.block,ad.off+1,none⟩) hadb).trans ca1;clear hF;go_simp;try with_reducible rfl)
  (try simp only[Act.put,lA,lB,lC])
  refine jsq 15 HFL (λW h=>h.2.1) ?_ ?_ ?_
  rotate_left 1
  focus(intro;go_simp;try with_reducible rfl)
  (try simp only[Act.put,lA,lB,lC])
  refine jsq 16 HFL (λW h=>h.2.1) ?_ ?_ ?_
  rotate_left 1
  focus(intro;go_simp;try with_reducible rfl)
  (try simp only[Act.put,lA,lB,lC])
  refine jsq 17 HFL (λW h=>h.2.1) ?_ ?_ ?_
  rotate_left 1
  focus(intro;go_simp;try with_reducible rfl)
  (try simp only[Act.put,lA,lB,lC])
  refine jst 18 HFL (λW h=>h.2.1) ?_ ?_ ?_
  rotate_left 1
  focus(intro W hF;have hF:=hF (by decide +kernel);have e1:=(hF.cell (p:=⟨w.heap.size,0,none⟩) h2).trans x0;have e2:=(hF.cell (p:=⟨w.heap.size,1,none⟩) h2).trans x1;clear hF;go_simp;try with_reducible rfl)
  (try simp only[Act.put,lA,lB,lC])
  refine jsq 19 HFL (λW h=>h.2.1) ?_ ?_ ?_
  rotate_left 1
  focus(intro;go_simp;try with_reducible rfl)
  (try simp only[Act.put,lA,lB,lC])
  refine jsq 20 HFL (λW h=>h.2.1) ?_ ?_ ?_
  rotate_left 1
  focus(intro;go_simp;try with_reducible rfl)
  (try simp only[Act.put,lA,lB,lC])
  refine jst 21 HFL (λW h=>h.2.1) ?_ ?_ ?_
  rotate_left 1
  focus(intro W hF;have hF:=hF (by decide +kernel);have e1:=(hF.cell (p:=ad) hadb).trans ca0;clear hF;go_simp;try with_reducible rfl)
  (try simp only[Act.put,lA,lB,lC])
  refine jsq 22 HFL (λW h=>h.2.1) ?_ ?_ ?_
  rotate_left 1
  focus(intro;go_simp;try with_reducible rfl)
  (try simp only[Act.put,lA,lB,lC])
  refine jsq 23 HFL (λW h=>h.2.1) ?_ ?_ ?_
  rotate_left 1
  focus(intro;go_simp;try with_reducible rfl)
  (try simp only[Act.put,lA,lB,lC])
  refine jsq 24 HFL (λW h=>h.2.1) ?_ ?_ ?_
  rotate_left 1
  focus(intro;go_simp;try with_reducible rfl)
  (try simp only[Act.put,lA,lB,lC])
  refine jsq 25 HFL (λW h=>h.2.1) ?_ ?_ ?_
  rotate_left 1
  focus(intro;go_simp;try with_reducible rfl)
  (try simp only[Act.put,lA,lB,lC])
  refine jsq 26 HFL (λW h=>h.2.1) ?_ ?_ ?_
  rotate_left 1
  focus(intro;go_simp;try with_reducible rfl)
  (try simp only[Act.put,lA,lB,lC])
  refine jg.skip 27 rfl rfl HFL (by decide +kernel) (λW h=>h.2.1) (by rfl) ?_
  (try simp only[Act.put,lA,lB,lC])
  refine jg.skip 28 rfl rfl HFL (by decide +kernel) (λW h=>h.2.1) (by rfl) ?_
  (try simp only[Act.put,lA,lB,lC])
  refine jg.skip 29 rfl rfl HFL (by decide +kernel) (λW h=>h.2.1) (by rfl) ?_
  (try simp only[Act.put,lA,lB,lC])
  refine jg.skip 30 rfl rfl HFL (by decide +kernel) (λW h=>h.2.1) (by rfl) ?_
  (try simp only[Act.put,lA,lB,lC])
  refine jsq 31 HFL (λW h=>h.2.1) ?_ ?_ ?_
  rotate_left 1
  focus(intro;go_simp;try with_reducible rfl)
  (try simp only[Act.put,lA,lB,lC])
  refine jsq 32 HFL (λW h=>h.2.1) ?_ ?_ ?_
  rotate_left 1
  focus(intro;go_simp;try with_reducible rfl)
  (try simp only[Act.put,lA,lB,lC])
  refine jg.skip 33 rfl rfl HFL (by decide +kernel) (λW h=>h.2.1) (by rfl) ?_
  (try simp only[Act.put,lA,lB,lC])
  refine jg.skip 34 rfl rfl HFL (by decide +kernel) (λW h=>h.2.1) (by rfl) ?_
  (try simp only[Act.put,lA,lB,lC])
  refine jg.skip 35 rfl rfl HFL (by decide +kernel) (λW h=>h.2.1) (by rfl) ?_
  (try simp only[Act.put,lA,lB,lC])
  refine jg.fin rfl (λW h=>h.2.1) (λwb hG jb=>?_)
  have HS1:=ja (hG.1)
  clear hG HGd HFL  HS x0 x1 h2
  have HS:=ja HS1.o
  clear HS1
  refine je 36 rfl (by decide +kernel) (λK hK=>?_)
  go_simp
  refine hK.out _ _ ⟨trivial,λh=>absurd h (by decide +kernel),λ_=>trivial⟩ (λjb=>?_)
  clear hK K
  (try simp only[Act.put,lA,lB,lC])
  refine jl (by decide +kernel) ?_
  clear jb
  clear ca0 ca1
  go_upto_region 5 with fail
  obtain⟨o0,o1,of0,of1⟩:=HS.o.1.1.2.two
  obtain⟨r0,r1,rf0,rf1⟩:=HS.o.1.2.two
  obtain⟨p0,p1,_,_⟩:=HS.o.2.two
  go_wp2
  exact HPOST.o _ _ 0 none 0 [] 0 none 0 0 [] [] 3 HV.o rfl (qo HS.o.1.1.2 HS.o.1.2 HS.o.1.1.1.1.1 rfl) rfl rfl rfl rfl
 have hco0:0<=co:=by omega
 obtain⟨s0,hs0,hbig⟩:=jby1 hok hco0
 have HS0:=ja hs0
 have HOK:=ja hok
 obtain⟨bi,hbi⟩:∃b,zz most 0 8=b:=⟨_,rfl⟩
 have HIN:=ja (λW=>jbc6 most 0 8 W)
 rw[hbi] at HIN
 have hxb:=(Ja.1 hok).1
 have hxd:=zP hok
 have hcb:=(Ja.1 hok).2.1
 clear hs0 hneg
 by_cases hc0:co=0
 ·subst hc0
  rw[ZC] at *
  have hneg:¬0<=s0:=λh=>by have:=hbig.2 h;simp at this
  have HS2:Hid ((((((Below w.heap.size w wa/\w.heap.size<=wa.heap.size)/\jh wa w.heap.size 24 #[.int .i64 xd,.slice A 0 c])/\jh wa (w.heap.size+1) 43 #[.int .i64 0,.slice none 0 0])/\jh wa (w.heap.size+2) 24 #[.int .i64 0,.slice none 0 0])/\jh wa X7 43 #[.int .i64 0,.slice none 0 0])):=ja HS.o
  clear HS
  have HS:=ja HS2.o
  clear HS2 hbig
  rw[List.length_nil]
  obtain⟨x0,x1,_,_⟩:=HS.o.1.1.1.2.two
  have h2:w.heap.size<wa.heap.size:=HS.o.1.1.1.2.lt
  have HGd:Hid ((((((Below w.heap.size w wa.drew/\w.heap.size<=wa.drew.heap.size)/\jh wa.drew w.heap.size 24 #[.int .i64 xd,.slice A 0 c])/\jh wa.drew (w.heap.size+1) 43 #[.int .i64 0,.slice none 0 0])/\jh wa.drew (w.heap.size+2) 24 #[.int .i64 0,.slice none 0 0])/\jh wa.drew X7 43 #[.int .i64 0,.slice none 0 0])/\(Below wa.heap.size wa wa.drew/\wa.heap.size<=wa.drew.heap.size)):=ja ⟨Kept.keep (S:=λW=>(((((Below w.heap.size w W/\w.heap.size<=W.heap.size)/\jh W w.heap.size 24 #[.int .i64 xd,.slice A 0 c])/\jh W (w.heap.size+1) 43 #[.int .i64 0,.slice none 0 0])/\jh W (w.heap.size+2) 24 #[.int .i64 0,.slice none 0 0])/\jh W X7 43 #[.int .i64 0,.slice none 0 0])) _ _ HS.o (Below.drew (Below.refl _ _)),Below.drew (Below.refl _ _),Nat.le_refl _⟩
  refine zV 36 (λW'=>Below wa.heap.size wa W') (λ_ _ _=>True) [] (λW'=>(((((Below w.heap.size w W'/\w.heap.size<=W'.heap.size)/\jh W' w.heap.size 24 #[.int .i64 xd,.slice A 0 c])/\jh W' (w.heap.size+1) 43 #[.int .i64 0,.slice none 0 0])/\jh W' (w.heap.size+2) 24 #[.int .i64 0,.slice none 0 0])/\jh W' X7 43 #[.int .i64 0,.slice none 0 0])/\(Below wa.heap.size wa W'/\wa.heap.size<=W'.heap.size)) (by kernel_rfl)
   (Floats.of (by decide +kernel) (λc a d v w=>by cases d<;>exact Iff.rfl) (by intro i hi;cases hi) (λ_ _ _ _ _ _=>trivial))
   (λ_ _ _ h=>h) (by decide) HGd.o (λW h=>h.2.1) (λHFL=>?_)
  refine jsq 0 HFL (λW h=>h.2.1) ?_ ?_ ?_
  rotate_left 1
  focus(intro;go_simp;try with_reducible rfl)
  (try simp only[Act.put,lA,lB,lC])
  refine jst 1 HFL (λW h=>h.2.1) ?_ ?_ ?_
  rotate_left 1
  focus(intro W hF;have hF:=hF (by decide +kernel);have e1:=(hF.cell (p:=⟨w.heap.size,0,none⟩) h2).trans x0;have e2:=(hF.cell (p:=⟨w.heap.size,1,none⟩) h2).trans x1;clear hF;go_simp;try with_reducible rfl)
  (try simp only[Act.put,lA,lB,lC])
  refine jsq 2 HFL (λW h=>h.2.1) ?_ ?_ ?_
  rotate_left 1
  focus(intro;go_simp;try with_reducible rfl)
  (try simp only[Act.put,lA,lB,lC])
  refine jsq 3 HFL (λW h=>h.2.1) ?_ ?_ ?_
  rotate_left 1
  focus(intro;go_simp;try with_reducible rfl)
  (try simp only[Act.put,lA,lB,lC])
  refine jsq 4 HFL (λW h=>h.2.1) ?_ ?_ ?_
  rotate_left 1
  focus(intro;go_simp;try with_reducible rfl)
  (try simp only[Act.put,lA,lB,lC])
  refine jsq 5 HFL (λW h=>h.2.1) ?_ ?_ ?_
  rotate_left 1
  focus(intro;go_simp;try with_reducible rfl)
  (try simp only[Act.put,lA,lB,lC])
  refine jst 6 HFL (λW h=>h.2.1) ?_ ?_ ?_
  rotate_left 1
  focus(intro W hF;have hF:=hF (by decide +kernel);have e1:=(hF.cell (p:=⟨w.heap.size,0,none⟩) h2).trans x0;have e2:=(hF.cell (p:=⟨w.heap.size,1,none⟩) h2).trans x1;clear hF;go_simp;try with_reducible rfl)
  (try simp only[Act.put,lA,lB,lC])
  refine jsq 7 HFL (λW h=>h.2.1) ?_ ?_ ?_
  rotate_left 1
  focus(intro;go_simp;try with_reducible rfl)
  (try simp only[Act.put,lA,lB,lC])
  refine jsq 8 HFL (λW h=>h.2.1) ?_ ?_ ?_
  rotate_left 1
  focus(intro;go_simp;try with_reducible rfl)
  (try simp only[Act.put,lA,lB,lC])
  refine jsq 9 HFL (λW h=>h.2.1) ?_ ?_ ?_
  rotate_left 1
  focus(intro;go_simp;try with_reducible rfl)
  (try simp only[Act.put,lA,lB,lC])
  refine jg.skip 10 rfl rfl HFL (by decide +kernel) (λW h=>h.2.1) (by rfl) ?_
  (try simp only[Act.put,lA,lB,lC])
  refine jg.skip 11 rfl rfl HFL (by decide +kernel) (λW h=>h.2.1) (by rfl) ?_
  (try simp only[Act.put,lA,lB,lC])
  refine jg.skip 12 rfl rfl HFL (by decide +kernel) (λW h=>h.2.1) (by rfl) ?_
  (try simp only[Act.put,lA,lB,lC])
  refine jg.skip 13 rfl rfl HFL (by decide +kernel) (λW h=>h.2.1) (by rfl) ?_
  (try simp only[Act.put,lA,lB,lC])
  refine jg.skip 14 rfl rfl HFL (by decide +kernel) (λW h=>h.2.1) (by rfl) ?_
  (try simp only[Act.put,lA,lB,lC])
  refine jg.skip 15 rfl rfl HFL (by decide +kernel) (λW h=>h.2.1) (by rfl) ?_
  (try simp only[Act.put,lA,lB,lC])
  refine jg.skip 16 rfl rfl HFL (by decide +kernel) (λW h=>h.2.1) (by rfl) ?_
  (try simp only[Act.put,lA,lB,lC])
  refine jg.skip 17 rfl rfl HFL (by decide +kernel) (λW h=>h.2.1) (by rfl) ?_
  (try simp only[Act.put,lA,lB,lC])
  refine jg.skip 18 rfl rfl HFL (by decide +kernel) (λW h=>h.2.1) (by rfl) ?_
  (try simp only[Act.put,lA,lB,lC])
  refine jg.skip 19 rfl rfl HFL (by decide +kernel) (λW h=>h.2.1) (by rfl) ?_
  (try simp only[Act.put,lA,lB,lC])
  refine jg.skip 20 rfl rfl HFL (by decide +kernel) (λW h=>h.2.1) (by rfl) ?_
  (try simp only[Act.put,lA,lB,lC])
  refine jg.skip 21 rfl rfl HFL (by decide +kernel) (λW h=>h.2.1) (by rfl) ?_
  (try simp only[Act.put,lA,lB,lC])
  refine jg.skip 22 rfl rfl HFL (by decide +kernel) (λW h=>h.2.1) (by rfl) ?_
  (try simp only[Act.put,lA,lB,lC])
  refine jg.skip 23 rfl rfl HFL (by decide +kernel) (λW h=>h.2.1) (by rfl) ?_
  (try simp only[Act.put,lA,lB,lC])
  refine jsq 24 HFL (λW h=>h.2.1) ?_ ?_ ?_
  rotate_left 1
  focus(intro;go_simp;try with_reducible rfl)
  (try simp only[Act.put,lA,lB,lC])
  refine jsq 25 HFL (λW h=>h.2.1) ?_ ?_ ?_
  rotate_left 1
  focus(intro;go_simp;try with_reducible rfl)
  (try simp only[Act.put,lA,lB,lC])
  refine jsq 26 HFL (λW h=>h.2.1) ?_ ?_ ?_
  rotate_left 1
  focus(intro;go_simp;try with_reducible rfl)
  (try simp only[Act.put,lA,lB,lC])
  refine jst 27 HFL (λW h=>h.2.1) ?_ ?_ ?_
  rotate_left 1
  focus(intro W hF;have hF:=hF (by decide +kernel);have e1:=(hF.cell (p:=⟨w.heap.size,0,none⟩) h2).trans x0;have e2:=(hF.cell (p:=⟨w.heap.size,1,none⟩) h2).trans x1;clear hF;go_simp;try with_reducible rfl)
  (try simp only[Act.put,lA,lB,lC])
  refine jg.on 28 (λx:Sl=>.agg #[.int .i64 1,.slice x.1 x.2.1 x.2.2]) (λx W=>zf3 0 x [(1001,1)] W) rfl rfl HFL (by decide +kernel) (λW h=>h.2.1) (λW hG K' hK=>?_) (λx28 hF28=>?_)
  focus
   have HC:=ja (QC W)
   clear hG
   go_simp
   go_wp2_with (first
    | (go_at_call 44;refine HC.o.mono ?_;rintro e w6 ⟨A,n,c,rfl,ho,hb⟩
       have HO:=ja (jO ho (Nat.zero_le _));have HBB:=ja hb;clear ho hb))
   exact hK.out (A,n,c) _ HO.o HBB.o
  (try simp only[Act.put,lA,lB,lC])
  refine jg.on 29 (λx:Unit=>.int .i64 s0) (λx W=>True) rfl rfl HFL (by decide +kernel) hF28 (λW hG K' hK=>?_) (λx29 hF29=>?_)
  focus
   have HC:=ja (qX xd A 0 c [] 1 x28.1 x28.2.1 x28.2.2 [(1001,1)] W.heap.size W (Rq.more (HP.o W hG.1.1.1.1.1.1.1) (Nat.le_trans hB hG.1.1.1.1.1.1.2)) (Rq.of (ZF hG.2)) (Nat.le_refl _) HOK.o (by decide +kernel))
   clear hG
   go_simp
   go_wp2_with (first
    | (go_at_call 52;refine HC.o.mono ?_;rintro e w6 ⟨s,rfl,hs,hb⟩
       obtain rfl:=HS0.o s hs
       have HBB:=ja hb;clear hs hb))
   exact hK.out () _ trivial HBB.o
  (try simp only[Act.put,lA,lB,lC])
  refine jsq 30 HFL hF29 ?_ ?_ ?_
  rotate_left 1
  focus(intro;go_simp;try with_reducible rfl)
  (try simp only[Act.put,lA,lB,lC])
  refine jsq 31 HFL hF29 ?_ ?_ ?_
  rotate_left 1
  focus(intro;go_simp;try with_reducible rfl)
  (try simp only[Act.put,lA,lB,lC])
  refine jsq 32 HFL hF29 ?_ ?_ ?_
  rotate_left 1
  focus(intro;go_simp;try with_reducible rfl)
  (try simp only[Act.put,lA,lB,lC])
  refine jsq 33 HFL hF29 ?_ ?_ ?_
  rotate_left 1
  focus(intro;go_simp;try with_reducible rfl)
  (try simp only[Act.put,lA,lB,lC])
  refine jg.on 34 (λx:Unit=>.bool bi) (λx W=>True) rfl rfl HFL (by decide +kernel) hF29 (λW hG K' hK=>?_) (λx34 hF34=>?_)
  focus
   clear hG
   go_simp
   go_wp2_with (first
    | (go_at_call 56;refine(HIN.o _).mono ?_;rintro e w6 ⟨rfl,hw⟩;subst w6))
   exact hK.out () _ trivial (Below.refl _ _)
  (try simp only[Act.put,lA,lB,lC])
  refine jsq 35 HFL hF34 ?_ ?_ ?_
  rotate_left 1
  focus(intro;go_simp;try with_reducible rfl)
  (try simp only[Act.put,lA,lB,lC])
  refine jg.fin rfl hF34 (λwb hG jb=>?_)
  have HS1:=ja (hG.1.1.1.1)
  clear hG HGd HFL hF28 hF29 hF34 HS x0 x1 h2
  have HS:=ja HS1.o
  clear HS1
  refine je 36 rfl (by decide +kernel) (λK hK=>?_)
  go_simp
  refine hK.out _ _ ⟨trivial,λh=>absurd h (by decide +kernel),λ_=>trivial⟩ (λjb=>?_)
  clear hK K
  (try simp only[Act.put,lA,lB,lC])
  refine jl (by decide +kernel) ?_
  clear jb
  clear HIN HS0 hxb hxd hcb
  cases bi
  ·have HV:Hid (res=(0,[],(0,[]),3)):=ja (by
    rw[<-hres]
    unfold zq
    rw[if_neg (by rw[hok];simp),if_pos (.inr (.inr (.inr hbi)))])
   clear hok hres hbi
   go_upto_region 5 with fail
   obtain⟨o0,o1,of0,of1⟩:=HS.o.1.1.2.two
   obtain⟨r0,r1,rf0,rf1⟩:=HS.o.1.2.two
   obtain⟨p0,p1,_,_⟩:=HS.o.2.two
   go_wp2
   exact HPOST.o _ _ 0 none 0 [] 0 none 0 0 [] [] 3 HV.o rfl (qo HS.o.1.1.2 HS.o.1.2 HS.o.1.1.1.1.1 rfl) rfl rfl rfl rfl
  ·have hm:0<=most/\most<=8:=by simpa [zz] using hbi
   have hgr:=zc3 (xc:=0) hok (Int.le_refl _) hm
   rw[show jK 0=[] from rfl,hres,if_neg (by simp),Int.zero_ediv,Int.zero_emod,ja2 (show(jn xd (jK 0)).1=0 from rfl)] at hgr
   have HV:Hid (res=(0,[],(xd,[]),0)):=ja hgr
   clear hok hres hbi hgr
   obtain⟨x0,x1,_,_⟩:=HS.o.1.1.1.2.two
   go_upto_region 7 with fail
   clear x0 x1
   have HX8:Hid (w.heap.size+3<=wb.heap.size):=ja (Nat.le_trans HX7.o (Nat.le_of_lt HS.o.2.lt))
   have hX78:X7≠wb.heap.size:=Nat.ne_of_lt HS.o.2.lt
   have HG0:Hid (GrI w (wb.alloc (.cells #[.int .i64 xd,.slice A 0 c] 24)) X7 wb.heap.size 0 (.slice none 0 0) none 0 [] xd A 0 c []):=ja (by
    have hb:=(Below.refl wb.heap.size wb).alloc (Nat.le_refl _) (.cells #[.int .i64 xd,.slice A 0 c] 24)
    exact⟨HS.o.1.1.2.below hb HS.o.1.1.2.lt,HS.o.1.2.below hb HS.o.1.2.lt,HS.o.2.below hb HS.o.2.lt,jh.new wb _ _,World.ownsRow_nil _ _ _ _,λp hp=>(by cases hp),.inl ⟨rfl,rfl,hcm⟩,HS.o.1.1.1.1.1.trans (hb.mono HS.o.1.1.1.1.2),HX7.o,HX8.o,hX78⟩)
   have hxa:=((jh.below (w':=wb.alloc (.cells #[.int .i64 xd,.slice A 0 c] 24)) HS.o.1.1.1.2 ((Below.refl wb.heap.size wb).alloc (Nat.le_refl _) _) HS.o.1.1.1.2.lt).two).2.1
   obtain⟨X8,hX8⟩:∃X,X=wb.heap.size:=⟨_,rfl⟩
   rw[<-hX8] at HG0 ⊢
   clear hX8 hX78 HS HX8
   generalize wb.alloc (.cells #[.int .i64 xd,.slice A 0 c] 24)=W6 at *
   go_wp2
   go_loopg [] 1 (λgg W=>GrI w W X7 X8 0 (.slice none 0 0) none 0 [] xd A 0 c [])
   case atStart=>exact HG0.o
   case round=>
    have HG:=ja hrel
    clear hrel HG0 hxa
    obtain⟨r0,r1,_,_⟩:=HG.o.r.two
    go_upto_region 19 with fail
    have HSf:=ja (HG.o.under (Below.drew (Below.refl _ _)))
    obtain⟨o0,o1,_,_⟩:=HSf.o.o.two
    obtain⟨r0,r1,_,_⟩:=HSf.o.r.two
    have HOC:=ja (And.intro o0 o1)
    have HRC:=ja (And.intro r0 r1)
    have hn8:X8≠w.heap.size+1:=by have:=HSf.o.h8;omega
    have hn5:w.heap.size+2≠w.heap.size+1:=by omega
    clear o0 o1 r0 r1
    refine jk (λ_=>True) 2 (λw'=>w'.cell? ⟨X7,0,none⟩=some (.int .i64 (0))/\w'.cell? ⟨X7,1,none⟩=some (.slice none 0 0)) 3 (λw'=>w'.cell? ⟨X8,0,none⟩=some (.int .i64 (xd))/\w'.cell? ⟨X8,1,none⟩=some (.slice A 0 c)) (by kernel_rfl) ⟨trivial,λ_=>HOC.o,λ_=>HRC.o⟩ (λjb=>?_)
    revert jb
    refine jtk 0 ?_ ?_ ?_
    rotate_left 1
    focus(intro w' hSw;obtain⟨hC,hF,hG⟩:=hSw;clear hC;have hF:=hF (by decide +kernel);clear hG;obtain⟨c1,c2⟩:=hF;go_simp;try with_reducible rfl)
    (try simp only[Act.put,lA,lB,lC])
    refine jtk 1 ?_ ?_ ?_
    rotate_left 1
    focus(intro w' hSw;obtain⟨hC,hF,hG⟩:=hSw;clear hC;have hG:=hG (by decide +kernel);clear hF;obtain⟨c1,c2⟩:=hG;go_simp;try with_reducible rfl)
    (try simp only[Act.put,lA,lB,lC])
    intro jb
    obtain⟨q0,q1,qf0,qf1⟩:=HG.o.x4.two
    have HR2:=ja ((HG.o.r.far (p:=⟨w.heap.size+1,0,none⟩) hn8 (.int .i64 (0))).far (p:=⟨w.heap.size+1,1,none⟩) hn8 (.slice none 0 0))
    have HQ2:=ja ((HG.o.x5.far (p:=⟨w.heap.size+1,0,none⟩) hn5 (.int .i64 (0))).far (p:=⟨w.heap.size+1,1,none⟩) hn5 (.slice none 0 0))
    refine je 2 rfl (by decide +kernel) (λK hK=>?_)
    go_simp
    refine hK.out _ _ ⟨trivial,λh=>absurd h (by decide +kernel),λ_=>⟨HR2.o.two.1,HR2.o.two.2.1⟩⟩ (λjb=>?_)
    clear hK K q0 q1 qf0 qf1
    (try simp only[Act.put,lA,lB,lC])
    obtain⟨q0,q1,qf0,qf1⟩:=HQ2.o.two
    refine je 3 rfl (by decide +kernel) (λK hK=>?_)
    go_simp
    refine hK.out _ _ ⟨trivial,λh=>absurd h (by decide +kernel),λh=>absurd h (by decide +kernel)⟩ (λjb=>?_)
    clear hK K q0 q1 qf0 qf1
    (try simp only[Act.put,lA,lB,lC])
    revert jb
    refine jtk 4 ?_ ?_ ?_
    rotate_left 1
    focus(intro w' hSw;obtain⟨hC,hF,hG⟩:=hSw;clear hC;clear hF;clear hG;go_simp;try with_reducible rfl)
    (try simp only[Act.put,lA,lB,lC])
    intro jb
    refine jl (by decide +kernel) ?_
    clear jb
    clear hn8 hn5
    go_wp2
    exact HPOST.o _ _ (0) none 0 ([]:List PieceV) (xd) A 0 c ([]) [] 0 HV.o rfl (HSf.o.done (xd) HSf.o.terms rfl) rfl rfl rfl rfl
 obtain⟨ad,rfl,hadb,ca0,ca1⟩:=jJ.at_ (HP.o _ HS.o.1.1.1.1.1) (i:=0) (by rw[za hc0];simp)
 replace hadb:ad.block<B:=by simpa [Addr.add] using hadb
 replace ca0:wa.cell? ad=some (.int .i64 co):=by simpa [Addr.add,za hc0] using ca0
 replace ca1:wa.cell? ⟨ad.block,ad.off+1,none⟩=some (.int .i64 1):=by simpa [Addr.add,za hc0] using ca1
 have hln:(jK co).length=1:=by rw[za hc0];rfl
 rw[hln] at HS HP ⊢
 replace hadb:ad.block<wa.heap.size:=Nat.lt_of_lt_of_le hadb (Nat.le_trans hB HS.o.1.1.1.1.2)
 have hnc:¬co<0:=by omega
 by_cases hbg:1000<co/xd
 ·have HV:Hid (res=(0,[],(0,[]),3)):=ja (by
   rw[<-hres]
   unfold zq
   rw[if_neg (by rw[hok];simp),if_pos (.inr (.inr (.inl (by rw[jj2,if_neg hc0];show 1000<co.tdiv xd;rw[Int.tdiv_eq_ediv_of_nonneg hco0];exact hbg))))])
  have hs1:0<=s0:=hbig.1 hbg
  clear hok hres hbi hbig
  obtain⟨x0,x1,_,_⟩:=HS.o.1.1.1.2.two
  have h2:w.heap.size<wa.heap.size:=HS.o.1.1.1.2.lt
  have HGd:Hid ((((((Below w.heap.size w wa.drew/\w.heap.size<=wa.drew.heap.size)/\jh wa.drew w.heap.size 24 #[.int .i64 xd,.slice (some ad) 1 c])/\jh wa.drew (w.heap.size+1) 43 #[.int .i64 0,.slice none 0 0])/\jh wa.drew (w.heap.size+2) 24 #[.int .i64 0,.slice none 0 0])/\jh wa.drew X7 43 #[.int .i64 0,.slice none 0 0])/\(Below wa.heap.size wa wa.drew/\wa.heap.size<=wa.drew.heap.size)):=ja ⟨Kept.keep (S:=λW=>(((((Below w.heap.size w W/\w.heap.size<=W.heap.size)/\jh W w.heap.size 24 #[.int .i64 xd,.slice (some ad) 1 c])/\jh W (w.heap.size+1) 43 #[.int .i64 0,.slice none 0 0])/\jh W (w.heap.size+2) 24 #[.int .i64 0,.slice none 0 0])/\jh W X7 43 #[.int .i64 0,.slice none 0 0])) _ _ HS.o (Below.drew (Below.refl _ _)),Below.drew (Below.refl _ _),Nat.le_refl _⟩
  refine zV 36 (λW'=>Below wa.heap.size wa W') (λ_ _ _=>True) [] (λW'=>(((((Below w.heap.size w W'/\w.heap.size<=W'.heap.size)/\jh W' w.heap.size 24 #[.int .i64 xd,.slice (some ad) 1 c])/\jh W' (w.heap.size+1) 43 #[.int .i64 0,.slice none 0 0])/\jh W' (w.heap.size+2) 24 #[.int .i64 0,.slice none 0 0])/\jh W' X7 43 #[.int .i64 0,.slice none 0 0])/\(Below wa.heap.size wa W'/\wa.heap.size<=W'.heap.size)) (by kernel_rfl)
   (Floats.of (by decide +kernel) (λc a d v w=>by cases d<;>exact Iff.rfl) (by intro i hi;cases hi) (λ_ _ _ _ _ _=>trivial))
   (λ_ _ _ h=>h) (by decide) HGd.o (λW h=>h.2.1) (λHFL=>?_)
  refine jsq 0 HFL (λW h=>h.2.1) ?_ ?_ ?_
  rotate_left 1
  focus(intro;go_simp;try with_reducible rfl)
  (try simp only[Act.put,lA,lB,lC])
  refine jst 1 HFL (λW h=>h.2.1) ?_ ?_ ?_
  rotate_left 1
  focus(intro W hF;have hF:=hF (by decide +kernel);have e1:=(hF.cell (p:=⟨w.heap.size,0,none⟩) h2).trans x0;have e2:=(hF.cell (p:=⟨w.heap.size,1,none⟩) h2).trans x1;clear hF;go_simp;try with_reducible rfl)
  (try simp only[Act.put,lA,lB,lC])
  refine jsq 2 HFL (λW h=>h.2.1) ?_ ?_ ?_
  rotate_left 1
  focus(intro;go_simp;try with_reducible rfl)
  (try simp only[Act.put,lA,lB,lC])
  refine jsq 3 HFL (λW h=>h.2.1) ?_ ?_ ?_
  rotate_left 1
  focus(intro;go_simp;try with_reducible rfl)
  (try simp only[Act.put,lA,lB,lC])
  refine jsq 4 HFL (λW h=>h.2.1) ?_ ?_ ?_
  rotate_left 1
  focus(intro;go_simp;try with_reducible rfl)
  (try simp only[Act.put,lA,lB,lC])
  refine jsq 5 HFL (λW h=>h.2.1) ?_ ?_ ?_
  rotate_left 1
  focus(intro;go_simp;try with_reducible rfl)
  (try simp only[Act.put,lA,lB,lC])
  refine jst 6 HFL (λW h=>h.2.1) ?_ ?_ ?_
  rotate_left 1
  focus(intro W hF;have hF:=hF (by decide +kernel);have e1:=(hF.cell (p:=⟨w.heap.size,0,none⟩) h2).trans x0;have e2:=(hF.cell (p:=⟨w.heap.size,1,none⟩) h2).trans x1;clear hF;go_simp;try with_reducible rfl)
  (try simp only[Act.put,lA,lB,lC])
  refine jsq 7 HFL (λW h=>h.2.1) ?_ ?_ ?_
  rotate_left 1
  focus(intro;go_simp;try with_reducible rfl)
  (try simp only[Act.put,lA,lB,lC])
  refine jsq 8 HFL (λW h=>h.2.1) ?_ ?_ ?_
  rotate_left 1
  focus(intro;go_simp;try with_reducible rfl)
  (try simp only[Act.put,lA,lB,lC])
  refine jsq 9 HFL (λW h=>h.2.1) ?_ ?_ ?_
  rotate_left 1
  focus(intro;go_simp;try with_reducible rfl)
  (try simp only[Act.put,lA,lB,lC])
  refine jsq 10 HFL (λW h=>h.2.1) ?_ ?_ ?_
  rotate_left 1
  focus(intro;go_simp;try with_reducible rfl)
  (try simp only[Act.put,lA,lB,lC])
  refine jst 11 HFL (λW h=>h.2.1) ?_ ?_ ?_
  rotate_left 1
  focus(intro W hF;have hF:=hF (by decide +kernel);have e1:=(hF.cell (p:=⟨w.heap.size,0,none⟩) h2).trans x0;have e2:=(hF.cell (p:=⟨w.heap.size,1,none⟩) h2).trans x1;clear hF;go_simp;try with_reducible rfl)
  (try simp only[Act.put,lA,lB,lC])
  refine jsq 12 HFL (λW h=>h.2.1) ?_ ?_ ?_
  rotate_left 1
  focus(intro;go_simp;try with_reducible rfl)
  (try simp only[Act.put,lA,lB,lC])
  refine jsq 13 HFL (λW h=>h.2.1) ?_ ?_ ?_
  rotate_left 1
  focus(intro;go_simp;try with_reducible rfl)
  (try simp only[Act.put,lA,lB,lC])
  refine jst 14 HFL (λW h=>h.2.1) ?_ ?_ ?_
  rotate_left 1
  focus(intro W hF;have hF:=hF (by decide +kernel);have e1:=(hF.cell (p:=⟨ad.block,ad.off+1,none⟩) hadb).trans ca1;clear hF;go_simp;try with_reducible rfl)
  (try simp only[Act.put,lA,lB,lC])
  refine jsq 15 HFL (λW h=>h.2.1) ?_ ?_ ?_
  rotate_left 1
  focus(intro;go_simp;try with_reducible rfl)
  (try simp only[Act.put,lA,lB,lC])
  refine jsq 16 HFL (λW h=>h.2.1) ?_ ?_ ?_
  rotate_left 1
  focus(intro;go_simp;try with_reducible rfl)
  (try simp only[Act.put,lA,lB,lC])
  refine jsq 17 HFL (λW h=>h.2.1) ?_ ?_ ?_
  rotate_left 1
  focus(intro;go_simp;try with_reducible rfl)
  (try simp only[Act.put,lA,lB,lC])
  refine jst 18 HFL (λW h=>h.2.1) ?_ ?_ ?_
  rotate_left 1
  focus(intro W hF;have hF:=hF (by decide +kernel);have e1:=(hF.cell (p:=⟨w.heap.size,0,none⟩) h2).trans x0;have e2:=(hF.cell (p:=⟨w.heap.size,1,none⟩) h2).trans x1;clear hF;go_simp;try with_reducible rfl)
  (try simp only[Act.put,lA,lB,lC])
  refine jsq 19 HFL (λW h=>h.2.1) ?_ ?_ ?_
  rotate_left 1
  focus(intro;go_simp;try with_reducible rfl)
  (try simp only[Act.put,lA,lB,lC])
  refine jsq 20 HFL (λW h=>h.2.1) ?_ ?_ ?_
  rotate_left 1
  focus(intro;go_simp;try with_reducible rfl)
  (try simp only[Act.put,lA,lB,lC])
  refine jst 21 HFL (λW h=>h.2.1) ?_ ?_ ?_
  rotate_left 1
  focus(intro W hF;have hF:=hF (by decide +kernel);have e1:=(hF.cell (p:=ad) hadb).trans ca0;clear hF;go_simp;try with_reducible rfl)
  (try simp only[Act.put,lA,lB,lC])
  refine jsq 22 HFL (λW h=>h.2.1) ?_ ?_ ?_
  rotate_left 1
  focus(intro;go_simp;try with_reducible rfl)
  (try simp only[Act.put,lA,lB,lC])
  refine jsq 23 HFL (λW h=>h.2.1) ?_ ?_ ?_
  rotate_left 1
  focus(intro;go_simp;try with_reducible rfl)
  (try simp only[Act.put,lA,lB,lC])
  refine jsq 24 HFL (λW h=>h.2.1) ?_ ?_ ?_
  rotate_left 1
  focus(intro;go_simp;try with_reducible rfl)
  (try simp only[Act.put,lA,lB,lC])
  refine jsq 25 HFL (λW h=>h.2.1) ?_ ?_ ?_
  rotate_left 1
  focus(intro;go_simp;try with_reducible rfl)
  (try simp only[Act.put,lA,lB,lC])
  refine jsq 26 HFL (λW h=>h.2.1) ?_ ?_ ?_
  rotate_left 1
  focus(intro;go_simp;try with_reducible rfl)
  (try simp only[Act.put,lA,lB,lC])
  refine jst 27 HFL (λW h=>h.2.1) ?_ ?_ ?_
  rotate_left 1
  focus(intro W hF;have hF:=hF (by decide +kernel);have e1:=(hF.cell (p:=⟨w.heap.size,0,none⟩) h2).trans x0;have e2:=(hF.cell (p:=⟨w.heap.size,1,none⟩) h2).trans x1;clear hF;go_simp;try with_reducible rfl)
  (try simp only[Act.put,lA,lB,lC])
  refine jg.on 28 (λx:Sl=>.agg #[.int .i64 1,.slice x.1 x.2.1 x.2.2]) (λx W=>zf3 0 x [(1001,1)] W) rfl rfl HFL (by decide +kernel) (λW h=>h.2.1) (λW hG K' hK=>?_) (λx28 hF28=>?_)
  focus
   have HC:=ja (QC W)
   clear hG
   go_simp
   go_wp2_with (first
    | (go_at_call 44;refine HC.o.mono ?_;rintro e w6 ⟨A,n,c,rfl,ho,hb⟩
       have HO:=ja (jO ho (Nat.zero_le _));have HBB:=ja hb;clear ho hb))
   exact hK.out (A,n,c) _ HO.o HBB.o
  (try simp only[Act.put,lA,lB,lC])
  refine jg.on 29 (λx:Unit=>.int .i64 s0) (λx W=>True) rfl rfl HFL (by decide +kernel) hF28 (λW hG K' hK=>?_) (λx29 hF29=>?_)
  focus
   have HC:=ja (qX xd (some ad) 1 c (jK co) 1 x28.1 x28.2.1 x28.2.2 [(1001,1)] W.heap.size W (Rq.more (HP.o W hG.1.1.1.1.1.1.1) (Nat.le_trans hB hG.1.1.1.1.1.1.2)) (Rq.of (ZF hG.2)) (Nat.le_refl _) HOK.o (by decide +kernel))
   clear hG
   go_simp
   go_wp2_with (first
    | (go_at_call 52;refine HC.o.mono ?_;rintro e w6 ⟨s,rfl,hs,hb⟩
       obtain rfl:=HS0.o s hs
       have HBB:=ja hb;clear hs hb))
   exact hK.out () _ trivial HBB.o
  (try simp only[Act.put,lA,lB,lC])
  refine jsq 30 HFL hF29 ?_ ?_ ?_
  rotate_left 1
  focus(intro;go_simp;try with_reducible rfl)
  (try simp only[Act.put,lA,lB,lC])
  refine jsq 31 HFL hF29 ?_ ?_ ?_
  rotate_left 1
  focus(intro;go_simp;try with_reducible rfl)
  (try simp only[Act.put,lA,lB,lC])
  refine jsq 32 HFL hF29 ?_ ?_ ?_
  rotate_left 1
  focus(intro;go_simp;try with_reducible rfl)
  (try simp only[Act.put,lA,lB,lC])
  refine jg.skip 33 rfl rfl HFL (by decide +kernel) hF29 (by rfl) ?_
  (try simp only[Act.put,lA,lB,lC])
  refine jg.skip 34 rfl rfl HFL (by decide +kernel) hF29 (by rfl) ?_
  (try simp only[Act.put,lA,lB,lC])
  refine jg.skip 35 rfl rfl HFL (by decide +kernel) hF29 (by rfl) ?_
  (try simp only[Act.put,lA,lB,lC])
  refine jg.fin rfl hF29 (λwb hG jb=>?_)
  have HS1:=ja (hG.1.1.1)
  clear hG HGd HFL hF28 hF29 HS x0 x1 h2
  have HS:=ja HS1.o
  clear HS1
  refine je 36 rfl (by decide +kernel) (λK hK=>?_)
  go_simp
  refine hK.out _ _ ⟨trivial,λh=>absurd h (by decide +kernel),λ_=>trivial⟩ (λjb=>?_)
  clear hK K
  (try simp only[Act.put,lA,lB,lC])
  refine jl (by decide +kernel) ?_
  clear jb
  clear HIN HS0 ca0 ca1
  go_upto_region 5 with fail
  obtain⟨o0,o1,of0,of1⟩:=HS.o.1.1.2.two
  obtain⟨r0,r1,rf0,rf1⟩:=HS.o.1.2.two
  obtain⟨p0,p1,_,_⟩:=HS.o.2.two
  go_wp2
  exact HPOST.o _ _ 0 none 0 [] 0 none 0 0 [] [] 3 HV.o rfl (qo HS.o.1.1.2 HS.o.1.2 HS.o.1.1.1.1.1 rfl) rfl rfl rfl rfl
 have hs1:¬0<=s0:=λh=>hbg (hbig.2 h)
 obtain⟨x0,x1,_,_⟩:=HS.o.1.1.1.2.two
 have h2:w.heap.size<wa.heap.size:=HS.o.1.1.1.2.lt
 have HGd:Hid ((((((Below w.heap.size w wa.drew/\w.heap.size<=wa.drew.heap.size)/\jh wa.drew w.heap.size 24 #[.int .i64 xd,.slice (some ad) 1 c])/\jh wa.drew (w.heap.size+1) 43 #[.int .i64 0,.slice none 0 0])/\jh wa.drew (w.heap.size+2) 24 #[.int .i64 0,.slice none 0 0])/\jh wa.drew X7 43 #[.int .i64 0,.slice none 0 0])/\(Below wa.heap.size wa wa.drew/\wa.heap.size<=wa.drew.heap.size)):=ja ⟨Kept.keep (S:=λW=>(((((Below w.heap.size w W/\w.heap.size<=W.heap.size)/\jh W w.heap.size 24 #[.int .i64 xd,.slice (some ad) 1 c])/\jh W (w.heap.size+1) 43 #[.int .i64 0,.slice none 0 0])/\jh W (w.heap.size+2) 24 #[.int .i64 0,.slice none 0 0])/\jh W X7 43 #[.int .i64 0,.slice none 0 0])) _ _ HS.o (Below.drew (Below.refl _ _)),Below.drew (Below.refl _ _),Nat.le_refl _⟩
 refine zV 36 (λW'=>Below wa.heap.size wa W') (λ_ _ _=>True) [] (λW'=>(((((Below w.heap.size w W'/\w.heap.size<=W'.heap.size)/\jh W' w.heap.size 24 #[.int .i64 xd,.slice (some ad) 1 c])/\jh W' (w.heap.size+1) 43 #[.int .i64 0,.slice none 0 0])/\jh W' (w.heap.size+2) 24 #[.int .i64 0,.slice none 0 0])/\jh W' X7 43 #[.int .i64 0,.slice none 0 0])/\(Below wa.heap.size wa W'/\wa.heap.size<=W'.heap.size)) (by kernel_rfl)
  (Floats.of (by decide +kernel) (λc a d v w=>by cases d<;>exact Iff.rfl) (by intro i hi;cases hi) (λ_ _ _ _ _ _=>trivial))
  (λ_ _ _ h=>h) (by decide) HGd.o (λW h=>h.2.1) (λHFL=>?_)
 refine jsq 0 HFL (λW h=>h.2.1) ?_ ?_ ?_
 rotate_left 1
 focus(intro;go_simp;try with_reducible rfl)
 (try simp only[Act.put,lA,lB,lC])
 refine jst 1 HFL (λW h=>h.2.1) ?_ ?_ ?_
 rotate_left 1
 focus(intro W hF;have hF:=hF (by decide +kernel);have e1:=(hF.cell (p:=⟨w.heap.size,0,none⟩) h2).trans x0;have e2:=(hF.cell (p:=⟨w.heap.size,1,none⟩) h2).trans x1;clear hF;go_simp;try with_reducible rfl)
 (try simp only[Act.put,lA,lB,lC])
 refine jsq 2 HFL (λW h=>h.2.1) ?_ ?_ ?_
 rotate_left 1
 focus(intro;go_simp;try with_reducible rfl)
 (try simp only[Act.put,lA,lB,lC])
 refine jsq 3 HFL (λW h=>h.2.1) ?_ ?_ ?_
 rotate_left 1
 focus(intro;go_simp;try with_reducible rfl)
 (try simp only[Act.put,lA,lB,lC])
 refine jsq 4 HFL (λW h=>h.2.1) ?_ ?_ ?_
 rotate_left 1
 focus(intro;go_simp;try with_reducible rfl)
 (try simp only[Act.put,lA,lB,lC])
 refine jsq 5 HFL (λW h=>h.2.1) ?_ ?_ ?_
 rotate_left 1
 focus(intro;go_simp;try with_reducible rfl)
 (try simp only[Act.put,lA,lB,lC])
 refine jst 6 HFL (λW h=>h.2.1) ?_ ?_ ?_
 rotate_left 1
 focus(intro W hF;have hF:=hF (by decide +kernel);have e1:=(hF.cell (p:=⟨w.heap.size,0,none⟩) h2).trans x0;have e2:=(hF.cell (p:=⟨w.heap.size,1,none⟩) h2).trans x1;clear hF;go_simp;try with_reducible rfl)
 (try simp only[Act.put,lA,lB,lC])
 refine jsq 7 HFL (λW h=>h.2.1) ?_ ?_ ?_
 rotate_left 1
 focus(intro;go_simp;try with_reducible rfl)
 (try simp only[Act.put,lA,lB,lC])
 refine jsq 8 HFL (λW h=>h.2.1) ?_ ?_ ?_
 rotate_left 1
 focus(intro;go_simp;try with_reducible rfl)
 (try simp only[Act.put,lA,lB,lC])
 refine jsq 9 HFL (λW h=>h.2.1) ?_ ?_ ?_
 rotate_left 1
 focus(intro;go_simp;try with_reducible rfl)
 (try simp only[Act.put,lA,lB,lC])
 refine jsq 10 HFL (λW h=>h.2.1) ?_ ?_ ?_
 rotate_left 1
 focus(intro;go_simp;try with_reducible rfl)
 (try simp only[Act.put,lA,lB,lC])
 refine jst 11 HFL (λW h=>h.2.1) ?_ ?_ ?_
 rotate_left 1
 focus(intro W hF;have hF:=hF (by decide +kernel);have e1:=(hF.cell (p:=⟨w.heap.size,0,none⟩) h2).trans x0;have e2:=(hF.cell (p:=⟨w.heap.size,1,none⟩) h2).trans x1;clear hF;go_simp;try with_reducible rfl)
 (try simp only[Act.put,lA,lB,lC])
 refine jsq 12 HFL (λW h=>h.2.1) ?_ ?_ ?_
 rotate_left 1
 focus(intro;go_simp;try with_reducible rfl)
 (try simp only[Act.put,lA,lB,lC])
 refine jsq 13 HFL (λW h=>h.2.1) ?_ ?_ ?_
 rotate_left 1
 focus(intro;go_simp;try with_reducible rfl)
 (try simp only[Act.put,lA,lB,lC])
 refine jst 14 HFL (λW h=>h.2.1) ?_ ?_ ?_
 rotate_left 1
 focus(intro W hF;have hF:=hF (by decide +kernel);have e1:=(hF.cell (p:=⟨ad.block,ad.off+1,none⟩) hadb).trans ca1;clear hF;go_simp;try with_reducible rfl)
 (try simp only[Act.put,lA,lB,lC])
 refine jsq 15 HFL (λW h=>h.2.1) ?_ ?_ ?_
 rotate_left 1
 focus(intro;go_simp;try with_reducible rfl)
 (try simp only[Act.put,lA,lB,lC])
 refine jsq 16 HFL (λW h=>h.2.1) ?_ ?_ ?_
 rotate_left 1
 focus(intro;go_simp;try with_reducible rfl)
 (try simp only[Act.put,lA,lB,lC])
 refine jsq 17 HFL (λW h=>h.2.1) ?_ ?_ ?_
 rotate_left 1
 focus(intro;go_simp;try with_reducible rfl)
 (try simp only[Act.put,lA,lB,lC])
 refine jst 18 HFL (λW h=>h.2.1) ?_ ?_ ?_
 rotate_left 1
 focus(intro W hF;have hF:=hF (by decide +kernel);have e1:=(hF.cell (p:=⟨w.heap.size,0,none⟩) h2).trans x0;have e2:=(hF.cell (p:=⟨w.heap.size,1,none⟩) h2).trans x1;clear hF;go_simp;try with_reducible rfl)
 (try simp only[Act.put,lA,lB,lC])
 refine jsq 19 HFL (λW h=>h.2.1) ?_ ?_ ?_
 rotate_left 1
 focus(intro;go_simp;try with_reducible rfl)
 (try simp only[Act.put,lA,lB,lC])
 refine jsq 20 HFL (λW h=>h.2.1) ?_ ?_ ?_
 rotate_left 1
 focus(intro;go_simp;try with_reducible rfl)
 (try simp only[Act.put,lA,lB,lC])
 refine jst 21 HFL (λW h=>h.2.1) ?_ ?_ ?_
 rotate_left 1
 focus(intro W hF;have hF:=hF (by decide +kernel);have e1:=(hF.cell (p:=ad) hadb).trans ca0;clear hF;go_simp;try with_reducible rfl)
 (try simp only[Act.put,lA,lB,lC])
 refine jsq 22 HFL (λW h=>h.2.1) ?_ ?_ ?_
 rotate_left 1
 focus(intro;go_simp;try with_reducible rfl)
 (try simp only[Act.put,lA,lB,lC])
 refine jsq 23 HFL (λW h=>h.2.1) ?_ ?_ ?_
 rotate_left 1
 focus(intro;go_simp;try with_reducible rfl)
 (try simp only[Act.put,lA,lB,lC])
 refine jsq 24 HFL (λW h=>h.2.1) ?_ ?_ ?_
 rotate_left 1
 focus(intro;go_simp;try with_reducible rfl)
 (try simp only[Act.put,lA,lB,lC])
 refine jsq 25 HFL (λW h=>h.2.1) ?_ ?_ ?_
 rotate_left 1
 focus(intro;go_simp;try with_reducible rfl)
 (try simp only[Act.put,lA,lB,lC])
 refine jsq 26 HFL (λW h=>h.2.1) ?_ ?_ ?_
 rotate_left 1
 focus(intro;go_simp;try with_reducible rfl)
 (try simp only[Act.put,lA,lB,lC])
 refine jst 27 HFL (λW h=>h.2.1) ?_ ?_ ?_
 rotate_left 1
 focus(intro W hF;have hF:=hF (by decide +kernel);have e1:=(hF.cell (p:=⟨w.heap.size,0,none⟩) h2).trans x0;have e2:=(hF.cell (p:=⟨w.heap.size,1,none⟩) h2).trans x1;clear hF;go_simp;try with_reducible rfl)
 (try simp only[Act.put,lA,lB,lC])
 refine jg.on 28 (λx:Sl=>.agg #[.int .i64 1,.slice x.1 x.2.1 x.2.2]) (λx W=>zf3 0 x [(1001,1)] W) rfl rfl HFL (by decide +kernel) (λW h=>h.2.1) (λW hG K' hK=>?_) (λx28 hF28=>?_)
 focus
  have HC:=ja (QC W)
  clear hG
  go_simp
  go_wp2_with (first
   | (go_at_call 44;refine HC.o.mono ?_;rintro e w6 ⟨A,n,c,rfl,ho,hb⟩
      have HO:=ja (jO ho (Nat.zero_le _));have HBB:=ja hb;clear ho hb))
  exact hK.out (A,n,c) _ HO.o HBB.o
 (try simp only[Act.put,lA,lB,lC])
 refine jg.on 29 (λx:Unit=>.int .i64 s0) (λx W=>True) rfl rfl HFL (by decide +kernel) hF28 (λW hG K' hK=>?_) (λx29 hF29=>?_)
 focus
  have HC:=ja (qX xd (some ad) 1 c (jK co) 1 x28.1 x28.2.1 x28.2.2 [(1001,1)] W.heap.size W (Rq.more (HP.o W hG.1.1.1.1.1.1.1) (Nat.le_trans hB hG.1.1.1.1.1.1.2)) (Rq.of (ZF hG.2)) (Nat.le_refl _) HOK.o (by decide +kernel))
  clear hG
  go_simp
  go_wp2_with (first
   | (go_at_call 52;refine HC.o.mono ?_;rintro e w6 ⟨s,rfl,hs,hb⟩
      obtain rfl:=HS0.o s hs
      have HBB:=ja hb;clear hs hb))
  exact hK.out () _ trivial HBB.o
 (try simp only[Act.put,lA,lB,lC])
 refine jsq 30 HFL hF29 ?_ ?_ ?_
 rotate_left 1
 focus(intro;go_simp;try with_reducible rfl)
 (try simp only[Act.put,lA,lB,lC])
 refine jsq 31 HFL hF29 ?_ ?_ ?_
 rotate_left 1
 focus(intro;go_simp;try with_reducible rfl)
 (try simp only[Act.put,lA,lB,lC])
 refine jsq 32 HFL hF29 ?_ ?_ ?_
 rotate_left 1
 focus(intro;go_simp;try with_reducible rfl)
 (try simp only[Act.put,lA,lB,lC])
 refine jsq 33 HFL hF29 ?_ ?_ ?_
 rotate_left 1
 focus(intro;go_simp;try with_reducible rfl)
 (try simp only[Act.put,lA,lB,lC])
 refine jg.on 34 (λx:Unit=>.bool bi) (λx W=>True) rfl rfl HFL (by decide +kernel) hF29 (λW hG K' hK=>?_) (λx34 hF34=>?_)
 focus
  clear hG
  go_simp
  go_wp2_with (first
   | (go_at_call 56;refine(HIN.o _).mono ?_;rintro e w6 ⟨rfl,hw⟩;subst w6))
  exact hK.out () _ trivial (Below.refl _ _)
 (try simp only[Act.put,lA,lB,lC])
 refine jsq 35 HFL hF34 ?_ ?_ ?_
 rotate_left 1
 focus(intro;go_simp;try with_reducible rfl)
 (try simp only[Act.put,lA,lB,lC])
 refine jg.fin rfl hF34 (λwb hG jb=>?_)
 have HS1:=ja (hG.1.1.1.1)
 clear hG HGd HFL hF28 hF29 hF34 HS x0 x1 h2
 have HS:=ja HS1.o
 clear HS1
 refine je 36 rfl (by decide +kernel) (λK hK=>?_)
 go_simp
 refine hK.out _ _ ⟨trivial,λh=>absurd h (by decide +kernel),λ_=>trivial⟩ (λjb=>?_)
 clear hK K
 (try simp only[Act.put,lA,lB,lC])
 refine jl (by decide +kernel) ?_
 clear jb
 clear HIN HS0 ca0 ca1
 cases bi
 ·have HV:Hid (res=(0,[],(0,[]),3)):=ja (by
   rw[<-hres]
   unfold zq
   rw[if_neg (by rw[hok];simp),if_pos (.inr (.inr (.inr hbi)))])
  clear hok hres hbi hbig
  go_upto_region 5 with fail
  obtain⟨o0,o1,of0,of1⟩:=HS.o.1.1.2.two
  obtain⟨r0,r1,rf0,rf1⟩:=HS.o.1.2.two
  obtain⟨p0,p1,_,_⟩:=HS.o.2.two
  go_wp2
  exact HPOST.o _ _ 0 none 0 [] 0 none 0 0 [] [] 3 HV.o rfl (qo HS.o.1.1.2 HS.o.1.2 HS.o.1.1.1.1.1 rfl) rfl rfl rfl rfl
 obtain⟨hch,hpl⟩:=ChainQ.start hok hco0 (by omega)
 have hm:0<=most/\most<=8:=by simpa [zz] using hbi
 have hgr:=zc3 hok hco0 hm
 rw[hres,if_neg hbg] at hgr
 obtain⟨M,rfl⟩:∃M:Nat,most=M:=⟨most.toNat,by omega⟩
 rw[Int.toNat_natCast] at hgr
 have hq0:0<=co/xd:=Int.ediv_nonneg hco0 (by omega)
 have hq1:co/xd<=1000:=by omega
 have hr0:=Int.emod_nonneg co (show xd≠0 by omega)
 have hr1:=Int.emod_lt_of_pos co hxd
 have htq:co.tdiv xd=co/xd:=Int.tdiv_eq_ediv_of_nonneg hco0
 have hxz:¬xd=0:=by omega
 have hnr:=jas1 hpl
 generalize co/xd=q at *
 generalize co % xd=r at *
 have hqw:IntKind.i64.wrap q=q:=by rw[IntKind.wrap_i64];omega
 have hqw2:IntKind.i64.wrap (co.tdiv xd)=q:=by rw[htq,IntKind.wrap_i64];omega
 have HPL:=ja hpl
 have HNR:=ja hnr
 obtain⟨Q1,Q2,hQ⟩:∃a b,zC M (xd,jK r)=(a,b):=⟨_,_,rfl⟩
 rw[hQ] at hgr
 have HRES:=ja hgr
 have HQ:=ja hQ
 clear hok hres hbi hbig hch hpl hgr hQ hnr hbg
 obtain⟨x0,x1,_,_⟩:=HS.o.1.1.1.2.two
 have x1a:∀o,(wb.alloc o).cell? ⟨w.heap.size,1,none⟩=some (.slice (some ad) 1 c):=λo=>(HS.o.1.1.1.2.alloc o).two.2.1
 go_upto_region 8 with fail
 clear x0 x1 x1a
 have HX8:Hid (w.heap.size+3<=wb.heap.size):=ja (Nat.le_trans HX7.o (Nat.le_of_lt HS.o.2.lt))
 have hX78:X7≠wb.heap.size:=Nat.ne_of_lt HS.o.2.lt
 have HS6:=ja (And.intro (Kept.keep (S:=λW=>(((((Below w.heap.size w W/\w.heap.size<=W.heap.size)/\jh W w.heap.size 24 #[.int .i64 xd,.slice (some ad) 1 c])/\jh W (w.heap.size+1) 43 #[.int .i64 0,.slice none 0 0])/\jh W (w.heap.size+2) 24 #[.int .i64 0,.slice none 0 0])/\jh W X7 43 #[.int .i64 0,.slice none 0 0])) _ _ HS.o ((Below.refl wb.heap.size wb).alloc (Nat.le_refl _) (.cells #[.int .i64 xd,.slice (some ad) 1 c] 24))) (jh.new wb 24 #[.int .i64 xd,.slice (some ad) 1 c]))
 obtain⟨X8,hX8⟩:∃X,X=wb.heap.size:=⟨_,rfl⟩
 rw[<-hX8] at HS6 HX8 hX78 ⊢
 clear hX8 HS
 generalize wb.alloc (.cells #[.int .i64 xd,.slice (some ad) 1 c] 24)=W6 at *
 obtain⟨x0,x1,_,_⟩:=HS6.o.1.1.1.1.2.two
 obtain⟨ad',had,-,ca0,ca1⟩:=jJ.at_ (HP.o _ HS6.o.1.1.1.1.1.1) (i:=0) (by rw[za hc0];simp)
 injection had with had
 subst had
 replace ca0:W6.cell? ad=some (.int .i64 co):=by simpa [Addr.add,za hc0] using ca0
 obtain⟨o0,o1,of0,of1⟩:=HS6.o.1.2.two
 clear ca1
 refine jk (λ_=>True) 9 (λw'=>w'=W6.drew) 9 (λ_=>True) (by kernel_rfl) ⟨trivial,λ_=>rfl,λ_=>trivial⟩ (λjb=>?_)
 revert jb
 refine jtk 0 ?_ ?_ ?_
 rotate_left 1
 focus(intro w' hSw;obtain⟨hC,hF,hG⟩:=hSw;clear hC;clear hF;clear hG;go_simp;try with_reducible rfl)
 (try simp only[Act.put,lA,lB,lC])
 refine jtk 1 ?_ ?_ ?_
 rotate_left 1
 focus(intro w' hSw;obtain⟨hC,hF,hG⟩:=hSw;clear hC;have hF:=hF (by decide +kernel);subst hF;clear hG;go_simp;try with_reducible rfl)
 (try simp only[Act.put,lA,lB,lC])
 refine jtk 2 ?_ ?_ ?_
 rotate_left 1
 focus(intro w' hSw;obtain⟨hC,hF,hG⟩:=hSw;clear hC;clear hF;clear hG;go_simp;try with_reducible rfl)
 (try simp only[Act.put,lA,lB,lC])
 refine jtk 3 ?_ ?_ ?_
 rotate_left 1
 focus(intro w' hSw;obtain⟨hC,hF,hG⟩:=hSw;clear hC;clear hF;clear hG;go_simp;try with_reducible rfl)
 (try simp only[Act.put,lA,lB,lC])
 refine jtk 4 ?_ ?_ ?_
 rotate_left 1
 focus(intro w' hSw;obtain⟨hC,hF,hG⟩:=hSw;clear hC;have hF:=hF (by decide +kernel);subst hF;clear hG;go_simp;try with_reducible rfl)
 (try simp only[Act.put,lA,lB,lC])
 refine jtk 5 ?_ ?_ ?_
 rotate_left 1
 focus(intro w' hSw;obtain⟨hC,hF,hG⟩:=hSw;clear hC;clear hF;clear hG;go_simp;try with_reducible rfl)
 (try simp only[Act.put,lA,lB,lC])
 refine jtk 6 ?_ ?_ ?_
 rotate_left 1
 focus(intro w' hSw;obtain⟨hC,hF,hG⟩:=hSw;clear hC;have hF:=hF (by decide +kernel);subst hF;clear hG;go_simp;try with_reducible rfl)
 (try simp only[Act.put,lA,lB,lC])
 refine jtk 7 ?_ ?_ ?_
 rotate_left 1
 focus(intro w' hSw;obtain⟨hC,hF,hG⟩:=hSw;clear hC;clear hF;clear hG;go_simp;try with_reducible rfl)
 (try simp only[Act.put,lA,lB,lC])
 refine jtk 8 ?_ ?_ ?_
 rotate_left 1
 focus(intro w' hSw;obtain⟨hC,hF,hG⟩:=hSw;clear hC;clear hF;clear hG;go_simp;try with_reducible rfl)
 (try simp only[Act.put,lA,lB,lC])
 intro jb
 refine je 9 rfl (by decide +kernel) (λK hK=>?_)
 go_simp
 refine hK.out _ _ ⟨trivial,λh=>absurd h (by decide +kernel),λ_=>trivial⟩ (λjb=>?_)
 clear hK K
 (try simp only[Act.put,lA,lB,lC])
 refine jl (by decide +kernel) ?_
 clear jb
 clear x0 x1 ca0 o0 o1 of0 of1 hqw hqw2 htq hxz
 have HS7:Hid ((((((Below w.heap.size w (W6.setCell ⟨X7,0,none⟩ (.int .i64 q))/\w.heap.size<=(W6.setCell ⟨X7,0,none⟩ (.int .i64 q)).heap.size)/\jh (W6.setCell ⟨X7,0,none⟩ (.int .i64 q)) w.heap.size 24 #[.int .i64 xd,.slice (some ad) 1 c])/\jh (W6.setCell ⟨X7,0,none⟩ (.int .i64 q)) (w.heap.size+1) 43 #[.int .i64 0,.slice none 0 0])/\jh (W6.setCell ⟨X7,0,none⟩ (.int .i64 q)) (w.heap.size+2) 24 #[.int .i64 0,.slice none 0 0])/\jh (W6.setCell ⟨X7,0,none⟩ (.int .i64 q)) X7 43 #[.int .i64 q,.slice none 0 0])/\jh (W6.setCell ⟨X7,0,none⟩ (.int .i64 q)) X8 24 #[.int .i64 xd,.slice (some ad) 1 c]):=ja (by
  have h:=HS6.o
  have h7:=HX7.o
  have e2:w.heap.size≠X7:=HX27.o
  have e4:w.heap.size+1≠X7:=by omega
  have e5:w.heap.size+2≠X7:=by omega
  have e7:w.heap.size<=X7:=by omega
  exact⟨⟨⟨⟨⟨⟨h.1.1.1.1.1.1.setCell (p:=⟨X7,0,none⟩) e7 _,by simp;exact h.1.1.1.1.1.2⟩,h.1.1.1.1.2.far (p:=⟨X7,0,none⟩) e2 _⟩,h.1.1.1.2.far (p:=⟨X7,0,none⟩) e4 _⟩,h.1.1.2.far (p:=⟨X7,0,none⟩) e5 _⟩,h.1.2.set_ 0 _⟩,h.2.far (p:=⟨X7,0,none⟩) hX78.symm _⟩)
 have HS8:=ja (Kept.keep (S:=λW=>((((((Below w.heap.size w W/\w.heap.size<=W.heap.size)/\jh W w.heap.size 24 #[.int .i64 xd,.slice (some ad) 1 c])/\jh W (w.heap.size+1) 43 #[.int .i64 0,.slice none 0 0])/\jh W (w.heap.size+2) 24 #[.int .i64 0,.slice none 0 0])/\jh W X7 43 #[.int .i64 q,.slice none 0 0])/\jh W X8 24 #[.int .i64 xd,.slice (some ad) 1 c])) _ _ HS7.o (Below.drew (Below.refl _ _)))
 clear HS6 HS7
 generalize (W6.setCell ⟨X7,0,none⟩ (.int .i64 q)).drew=W8 at *
 go_upto_region 9 with fail
 obtain⟨x0,x1,_,_⟩:=HS8.o.1.1.1.1.2.two
 obtain⟨o0,o1,_,_⟩:=HS8.o.1.2.two
 have h2:w.heap.size<W8.heap.size:=HS8.o.1.1.1.1.2.lt
 have h7:X7<W8.heap.size:=HS8.o.1.2.lt
 have HGd:Hid (((((((Below w.heap.size w W8.drew/\w.heap.size<=W8.drew.heap.size)/\jh W8.drew w.heap.size 24 #[.int .i64 xd,.slice (some ad) 1 c])/\jh W8.drew (w.heap.size+1) 43 #[.int .i64 0,.slice none 0 0])/\jh W8.drew (w.heap.size+2) 24 #[.int .i64 0,.slice none 0 0])/\jh W8.drew X7 43 #[.int .i64 q,.slice none 0 0])/\jh W8.drew X8 24 #[.int .i64 xd,.slice (some ad) 1 c])/\(Below W8.heap.size W8 W8.drew/\W8.heap.size<=W8.drew.heap.size)):=ja ⟨Kept.keep (S:=λW=>((((((Below w.heap.size w W/\w.heap.size<=W.heap.size)/\jh W w.heap.size 24 #[.int .i64 xd,.slice (some ad) 1 c])/\jh W (w.heap.size+1) 43 #[.int .i64 0,.slice none 0 0])/\jh W (w.heap.size+2) 24 #[.int .i64 0,.slice none 0 0])/\jh W X7 43 #[.int .i64 q,.slice none 0 0])/\jh W X8 24 #[.int .i64 xd,.slice (some ad) 1 c])) _ _ HS8.o (Below.drew (Below.refl _ _)),Below.drew (Below.refl _ _),Nat.le_refl _⟩
 refine zV 8 (λW'=>Below W8.heap.size W8 W') (λ_ _ _=>True) [] (λW'=>((((((Below w.heap.size w W'/\w.heap.size<=W'.heap.size)/\jh W' w.heap.size 24 #[.int .i64 xd,.slice (some ad) 1 c])/\jh W' (w.heap.size+1) 43 #[.int .i64 0,.slice none 0 0])/\jh W' (w.heap.size+2) 24 #[.int .i64 0,.slice none 0 0])/\jh W' X7 43 #[.int .i64 q,.slice none 0 0])/\jh W' X8 24 #[.int .i64 xd,.slice (some ad) 1 c])/\(Below W8.heap.size W8 W'/\W8.heap.size<=W'.heap.size)) (by kernel_rfl)
  (Floats.of (by decide +kernel) (λc a d v w=>by cases d<;>exact Iff.rfl) (by intro i hi;cases hi) (λ_ _ _ _ _ _=>trivial))
  (λ_ _ _ h=>h) (by decide) HGd.o (λW h=>h.2.1) (λHFL=>?_)
 refine jst 0 HFL (λW h=>h.2.1) ?_ ?_ ?_
 rotate_left 1
 focus(intro W hF;have hF:=hF (by decide +kernel);have e1:=(hF.cell (p:=⟨w.heap.size,0,none⟩) h2).trans x0;have e2:=(hF.cell (p:=⟨w.heap.size,1,none⟩) h2).trans x1;clear hF;go_simp;try with_reducible rfl)
 (try simp only[Act.put,lA,lB,lC])
 refine jsq 1 HFL (λW h=>h.2.1) ?_ ?_ ?_
 rotate_left 1
 focus(intro;go_simp;try with_reducible rfl)
 (try simp only[Act.put,lA,lB,lC])
 refine jst 2 HFL (λW h=>h.2.1) ?_ ?_ ?_
 rotate_left 1
 focus(intro W hF;have hF:=hF (by decide +kernel);have e1:=(hF.cell (p:=⟨X7,0,none⟩) h7).trans o0;clear hF;go_simp;try with_reducible rfl)
 (try simp only[Act.put,lA,lB,lC])
 refine jg.on 3 (λx:Sl=>.agg #[.int .i64 1,.slice x.1 x.2.1 x.2.2]) (λx W=>zf3 0 x (jK q) W) rfl rfl HFL (by decide +kernel) (λW h=>h.2.1) (λW hG K' hK=>?_) (λx3 hF3=>?_)
 focus
  have HC:=ja (zt1 q W)
  clear hG
  go_simp
  go_wp2_with (first
   | (go_at_call 44;refine HC.o.mono ?_;rintro e w6 ⟨A,n,c,rfl,ho,hb⟩
      have HO:=ja (jO ho (Nat.zero_le _));have HBB:=ja hb;clear ho hb))
  exact hK.out (A,n,c) _ HO.o HBB.o
 (try simp only[Act.put,lA,lB,lC])
 refine jg.on 4 (λx:Sl=>.tuple #[.agg #[.int .i64 xd,.slice x.1 x.2.1 x.2.2],.int .i64 0]) (λx W=>zf3 (w.heap.size+3) x (jK r) W) rfl rfl HFL (by decide +kernel) hF3 (λW hG K' hK=>?_) (λx4 hF4=>?_)
 focus
  have HSZ:=ja (Nat.le_trans HX7.o (Nat.le_of_lt hG.1.1.1.2.lt))
  have HC:=ja (zd1 xd (some ad) 1 c (jK co) 1 x3.1 x3.2.1 x3.2.2 (jK q) (-1) W.heap.size W (Rq.more (HP.o W hG.1.1.1.1.1.1.1.1) (Nat.le_trans hB hG.1.1.1.1.1.1.1.2)) (Rq.of (ZF hG.2)) (Nat.le_refl _) (by omega))
  rw[HPL.o] at HC
  clear hG
  go_simp
  go_wp2_with (first
   | (go_at_call 57;refine HC.o.mono ?_;rintro e w6 ⟨A,n,c,rfl,ho,hb⟩
      have HO:=ja (jO ho HSZ.o);have HBB:=ja hb;clear ho hb))
  exact hK.out (A,n,c) _ HO.o HBB.o
 (try simp only[Act.put,lA,lB,lC])
 refine jsq 5 HFL hF4 ?_ ?_ ?_
 rotate_left 1
 focus(intro;go_simp;try with_reducible rfl)
 (try simp only[Act.put,lA,lB,lC])
 refine jsq 6 HFL hF4 ?_ ?_ ?_
 rotate_left 1
 focus(intro;go_simp;try with_reducible rfl)
 (try simp only[Act.put,lA,lB,lC])
 refine jsq 7 HFL hF4 ?_ ?_ ?_
 rotate_left 1
 focus(intro;go_simp;try with_reducible rfl)
 (try simp only[Act.put,lA,lB,lC])
 refine jg.fin rfl hF4 (λW9 hG jb=>?_)
 have HS9:=ja hG.1.1.1
 have HO9:=ja hG.2
 clear hG HGd HFL hF3 hF4 HS8 x0 x1 o0 o1 h2 h7
 obtain⟨r0,r1,rf0,rf1⟩:=HS9.o.2.two
 refine je 8 rfl (by decide +kernel) (λK hK=>?_)
 go_simp
 refine hK.out _ _ ⟨trivial,λh=>absurd h (by decide +kernel),λ_=>trivial⟩ (λjb=>?_)
 clear hK K
 (try simp only[Act.put,lA,lB,lC])
 refine jl (by decide +kernel) ?_
 clear jb
 clear r0 r1 rf0 rf1
 obtain⟨A9,n9,c9⟩:=x4
 dsimp only at HO9 ⊢
 have HG0:Hid (GrI w ((W9.setCell ⟨X8,0,none⟩ (.int .i64 xd)).setCell ⟨X8,1,none⟩ (.slice A9 n9 c9)) X7 X8 q (.slice none 0 0) none 0 [] xd A9 n9 c9 (jK r)):=ja (by
  have h:=HS9.o
  have hg:GrI w W9 X7 X8 q (.slice none 0 0) none 0 [] xd (some ad) 0 0 []->True:=λ_=>trivial
  have h8:=HX8.o
  have e4:w.heap.size+1≠X8:=by omega
  have e5:w.heap.size+2≠X8:=by omega
  have e8:w.heap.size<=X8:=by omega
  exact⟨(h.1.1.1.2.far (p:=⟨X8,0,none⟩) e4 _).far (p:=⟨X8,1,none⟩) e4 _,(h.1.1.2.far (p:=⟨X8,0,none⟩) e5 _).far (p:=⟨X8,1,none⟩) e5 _,(h.1.2.far (p:=⟨X8,0,none⟩) hX78 _).far (p:=⟨X8,1,none⟩) hX78 _,(h.2.set_ 0 _).set_ 1 _,
   World.ownsRow_nil _ _ _ _,λp hp=>(by cases hp),.inr (jC (jC HO9.o h.2 (i:=0) (u:=.int .i64 xd) (by decide)) (h.2.set_ 0 _) (i:=1) (u:=.slice A9 n9 c9) (by decide)),
   (h.1.1.1.1.1.1.setCell (p:=⟨X8,0,none⟩) e8 _).setCell (p:=⟨X8,1,none⟩) e8 _,HX7.o,HX8.o,hX78⟩)
 clear HS9 HO9 HP
 generalize (W9.setCell ⟨X8,0,none⟩ (.int .i64 xd)).setCell ⟨X8,1,none⟩ (.slice A9 n9 c9)=W10 at *
 go_wp2
 go_loopg [] (M+1) (λgg W=>∃(Ao:Option Addr) (co:Nat) (L:List PieceV) (rd rc:Int) (Ar:Option Addr) (nr cr:Nat) (ms:List Int),GrI w W X7 X8 q (.slice Ao L.length co) Ao co L rd Ar nr cr (jK rc)/\L.length<=M/\M-L.length<=gg /\
  L.map PieceV.flat=ms.map jz7/\(js rd (jK rc)=true/\0<=rc/\rc<rd)/\ms++(zC (M-L.length) (rd,jK rc)).1=Q1/\(zC (M-L.length) (rd,jK rc)).2=Q2)
 case atStart=>exact⟨none,0,[],xd,r,A9,n9,c9,[],HG0.o,by simp,by simp,rfl,⟨HNR.o,hr0,hr1⟩,by rw[List.length_nil,Nat.sub_zero,HQ.o,List.nil_append],by rw[List.length_nil,Nat.sub_zero,HQ.o]⟩
 case round=>
  obtain⟨Ao,co2,L,rd,rc,Ar,nr,cr,ms,hG,hLM,hgg,hlm,hrb,hq1',hq2'⟩:=hrel
  have HG:=ja hG;have HLM:=ja hlm;have HQ1:=ja hq1';have HQ2:=ja hq2';have HRB:=ja hrb.1
  have hrc0:=hrb.2.1
  have hrc1:=hrb.2.2
  have hrdb:=(Ja.1 hrb.1).1.2
  clear hG hlm hq1' hq2' HG0 HQ hrb HNR hr0 hr1 HPL hq0 hq1
  obtain⟨o0,o1,_,_⟩:=HG.o.o.two
  obtain⟨r0,r1,_,_⟩:=HG.o.r.two
  by_cases hrz:rc=0
  ·subst hrz
   have hg:=ja2 (k:=M-L.length) (r:=(rd,jK 0)) (by show(jn rd (jK 0)).1=0;rfl)
   have h1:=HQ1.o
   have h2:=HQ2.o
   rw[hg] at h1 h2
   dsimp only at h1 h2
   rw[List.append_nil] at h1
   have HV:Hid (res=(q,ms,(rd,jK 0),0)):=ja (by rw[HRES.o,<-h1,<-h2])
   have hnr0:nr=0:=by have:=(HG.o.terms.read).len;simpa [ZC] using this.symm
   subst hnr0
   clear hg h1 h2 HQ1 HQ2
   go_upto_region 19 with fail
   have HSf:=ja (HG.o.under (Below.drew (Below.refl _ _)))
   obtain⟨o0,o1,_,_⟩:=HSf.o.o.two
   obtain⟨r0,r1,_,_⟩:=HSf.o.r.two
   have HOC:=ja (And.intro o0 o1)
   have HRC:=ja (And.intro r0 r1)
   have hn8:X8≠w.heap.size+1:=by have:=HSf.o.h8;omega
   have hn5:w.heap.size+2≠w.heap.size+1:=by omega
   clear o0 o1 r0 r1
   refine jk (λ_=>True) 2 (λw'=>w'.cell? ⟨X7,0,none⟩=some (.int .i64 (q))/\w'.cell? ⟨X7,1,none⟩=some (.slice Ao L.length co2)) 3 (λw'=>w'.cell? ⟨X8,0,none⟩=some (.int .i64 (rd))/\w'.cell? ⟨X8,1,none⟩=some (.slice Ar 0 cr)) (by kernel_rfl) ⟨trivial,λ_=>HOC.o,λ_=>HRC.o⟩ (λjb=>?_)
   revert jb
   refine jtk 0 ?_ ?_ ?_
   rotate_left 1
   focus(intro w' hSw;obtain⟨hC,hF,hG⟩:=hSw;clear hC;have hF:=hF (by decide +kernel);clear hG;obtain⟨c1,c2⟩:=hF;go_simp;try with_reducible rfl)
   (try simp only[Act.put,lA,lB,lC])
   refine jtk 1 ?_ ?_ ?_
   rotate_left 1
   focus(intro w' hSw;obtain⟨hC,hF,hG⟩:=hSw;clear hC;have hG:=hG (by decide +kernel);clear hF;obtain⟨c1,c2⟩:=hG;go_simp;try with_reducible rfl)
   (try simp only[Act.put,lA,lB,lC])
   intro jb
   obtain⟨q0,q1,qf0,qf1⟩:=HG.o.x4.two
   have HR2:=ja ((HG.o.r.far (p:=⟨w.heap.size+1,0,none⟩) hn8 (.int .i64 (q))).far (p:=⟨w.heap.size+1,1,none⟩) hn8 (.slice Ao L.length co2))
   have HQ2:=ja ((HG.o.x5.far (p:=⟨w.heap.size+1,0,none⟩) hn5 (.int .i64 (q))).far (p:=⟨w.heap.size+1,1,none⟩) hn5 (.slice Ao L.length co2))
   refine je 2 rfl (by decide +kernel) (λK hK=>?_)
   go_simp
   refine hK.out _ _ ⟨trivial,λh=>absurd h (by decide +kernel),λ_=>⟨HR2.o.two.1,HR2.o.two.2.1⟩⟩ (λjb=>?_)
   clear hK K q0 q1 qf0 qf1
   (try simp only[Act.put,lA,lB,lC])
   obtain⟨q0,q1,qf0,qf1⟩:=HQ2.o.two
   refine je 3 rfl (by decide +kernel) (λK hK=>?_)
   go_simp
   refine hK.out _ _ ⟨trivial,λh=>absurd h (by decide +kernel),λh=>absurd h (by decide +kernel)⟩ (λjb=>?_)
   clear hK K q0 q1 qf0 qf1
   (try simp only[Act.put,lA,lB,lC])
   revert jb
   refine jtk 4 ?_ ?_ ?_
   rotate_left 1
   focus(intro w' hSw;obtain⟨hC,hF,hG⟩:=hSw;clear hC;clear hF;clear hG;go_simp;try with_reducible rfl)
   (try simp only[Act.put,lA,lB,lC])
   intro jb
   refine jl (by decide +kernel) ?_
   clear jb
   clear hn8 hn5
   go_wp2
   exact HPOST.o _ _ (q) Ao co2 L (rd) Ar 0 cr (jK 0) ms 0 HV.o HLM.o (HSf.o.done (rd) HSf.o.terms rfl) rfl rfl rfl rfl
  have hnr1:nr=1:=by have:=(HG.o.terms.read).len;rw[za hrz] at this;simpa using this.symm
  subst hnr1
  by_cases hLm:(L.length:Int)<(M:Int)
  rotate_left 1
  focus
   have hg:M-L.length=0:=by omega
   have h1:=HQ1.o
   have h2:=HQ2.o
   rw[hg] at h1 h2
   have HV:Hid (res=(q,ms,(rd,jK rc),0)):=ja (by
    rw[HRES.o,<-h1,<-h2]
    show(q,ms++[],(rd,jK rc),(0:Int))=_
    rw[List.append_nil])
   clear hg h1 h2 HQ1 HQ2
   go_upto_region 19 with fail
   have HSf:=ja (HG.o.under (Below.drew (Below.refl _ _)))
   obtain⟨o0,o1,_,_⟩:=HSf.o.o.two
   obtain⟨r0,r1,_,_⟩:=HSf.o.r.two
   have HOC:=ja (And.intro o0 o1)
   have HRC:=ja (And.intro r0 r1)
   have hn8:X8≠w.heap.size+1:=by have:=HSf.o.h8;omega
   have hn5:w.heap.size+2≠w.heap.size+1:=by omega
   clear o0 o1 r0 r1
   refine jk (λ_=>True) 2 (λw'=>w'.cell? ⟨X7,0,none⟩=some (.int .i64 (q))/\w'.cell? ⟨X7,1,none⟩=some (.slice Ao L.length co2)) 3 (λw'=>w'.cell? ⟨X8,0,none⟩=some (.int .i64 (rd))/\w'.cell? ⟨X8,1,none⟩=some (.slice Ar 1 cr)) (by kernel_rfl) ⟨trivial,λ_=>HOC.o,λ_=>HRC.o⟩ (λjb=>?_)
   revert jb
   refine jtk 0 ?_ ?_ ?_
   rotate_left 1
   focus(intro w' hSw;obtain⟨hC,hF,hG⟩:=hSw;clear hC;have hF:=hF (by decide +kernel);clear hG;obtain⟨c1,c2⟩:=hF;go_simp;try with_reducible rfl)
   (try simp only[Act.put,lA,lB,lC])
   refine jtk 1 ?_ ?_ ?_
   rotate_left 1
   focus(intro w' hSw;obtain⟨hC,hF,hG⟩:=hSw;clear hC;have hG:=hG (by decide +kernel);clear hF;obtain⟨c1,c2⟩:=hG;go_simp;try with_reducible rfl)
   (try simp only[Act.put,lA,lB,lC])
   intro jb
   obtain⟨q0,q1,qf0,qf1⟩:=HG.o.x4.two
   have HR2:=ja ((HG.o.r.far (p:=⟨w.heap.size+1,0,none⟩) hn8 (.int .i64 (q))).far (p:=⟨w.heap.size+1,1,none⟩) hn8 (.slice Ao L.length co2))
   have HQ2:=ja ((HG.o.x5.far (p:=⟨w.heap.size+1,0,none⟩) hn5 (.int .i64 (q))).far (p:=⟨w.heap.size+1,1,none⟩) hn5 (.slice Ao L.length co2))
   refine je 2 rfl (by decide +kernel) (λK hK=>?_)
   go_simp
   refine hK.out _ _ ⟨trivial,λh=>absurd h (by decide +kernel),λ_=>⟨HR2.o.two.1,HR2.o.two.2.1⟩⟩ (λjb=>?_)
   clear hK K q0 q1 qf0 qf1
   (try simp only[Act.put,lA,lB,lC])
   obtain⟨q0,q1,qf0,qf1⟩:=HQ2.o.two
   refine je 3 rfl (by decide +kernel) (λK hK=>?_)
   go_simp
   refine hK.out _ _ ⟨trivial,λh=>absurd h (by decide +kernel),λh=>absurd h (by decide +kernel)⟩ (λjb=>?_)
   clear hK K q0 q1 qf0 qf1
   (try simp only[Act.put,lA,lB,lC])
   revert jb
   refine jtk 4 ?_ ?_ ?_
   rotate_left 1
   focus(intro w' hSw;obtain⟨hC,hF,hG⟩:=hSw;clear hC;clear hF;clear hG;go_simp;try with_reducible rfl)
   (try simp only[Act.put,lA,lB,lC])
   intro jb
   refine jl (by decide +kernel) ?_
   clear jb
   clear hn8 hn5
   go_wp2
   exact HPOST.o _ _ (q) Ao co2 L (rd) Ar 1 cr (jK rc) ms 0 HV.o HLM.o (HSf.o.done (rd) HSf.o.terms rfl) rfl rfl rfl rfl
  obtain⟨k,hk⟩:∃k,M-L.length=k+1:=⟨M-L.length-1,by omega⟩
  obtain⟨g1,g2,g3⟩:=zh5 (num:=rc) (den:=rd) (by omega) hrc1
  obtain⟨p,hp⟩:∃p,(rd+rc-1).tdiv rc=p:=⟨_,rfl⟩
  rw[hp] at g1 g2 g3
  have hpb:p<=100001:=by
   rcases Int.lt_or_le 100001 p with h|h
   ·have h1:=g3 100001 h
    have h2:100001*1<=100001*rc:=Int.mul_le_mul_of_nonneg_left (by omega) (by omega)
    omega
   ·exact h
  have hpp:=jj2 rd rc
  rw[if_neg hrz] at hpp
  obtain⟨sd2,st2,sc2,hsv⟩:∃a b c,jL rd (jK rc) p [(1,1)] (-1)=(a,b,c):=⟨_,_,_,rfl⟩
  have HST:=ja (λh=>js2 (k:=k) (s:=(sd2,st2,sc2)) hpp (by rw[hp];exact hsv) (by rw[hp];exact h))
  have HNX:=ja (λh=>js1 (k:=k) (s:=(sd2,st2,sc2)) hpp (by rw[hp];exact hsv) hrz (by rw[hp];exact h))
  rw[hp] at HNX
  have HSV:=ja hsv
  have HRP:=ja (λ(h:p<=1000) (h0:sc2=0)=>jbc7 (d:=sd2) (t:=st2) HRB.o ⟨by omega,hrc1⟩ hp.symm h (by rw[h0] at hsv;exact hsv))
  have HG3:=ja g3
  clear hpp hp hsv g3
  go_upto_region 11 with fail
  clear o0 o1 r0 r1
  go_wp2
  go_loopw [9] (λd W=>∃dd:Int,d=.int .i64 dd/\2<=dd/\dd<=p/\GrI w W X7 X8 q (.slice Ao L.length co2) Ao co2 L rd Ar 1 cr (jK rc)) (λd _=>(p-intOf d).toNat)
  case atStart=>exact⟨2,rfl,by omega,g1,HG.o⟩
  case round=>
   obtain⟨dd,rfl,hd1,hd2,hGi⟩:=hrel
   have HGi:=ja hGi
   clear hGi HG
   have hmb:dd*rc<=100001*100000:=Int.mul_le_mul (by omega) (by omega) (by omega) (by omega)
   have hmb0:0<=dd*rc:=Int.mul_nonneg (by omega) hrc0
   obtain⟨pr,hpr⟩:∃pr,dd*rc=pr:=⟨_,rfl⟩
   rw[hpr] at hmb hmb0
   have hwp:IntKind.i64.wrap (dd*rc)=pr:=by rw[hpr,IntKind.wrap_i64];omega
   have HSd:=ja (HGi.o.under (Below.drew (Below.refl _ _)))
   obtain⟨r0,r1,_,_⟩:=HGi.o.r.two
   obtain⟨ad2,rfl,-,ca0,-⟩:=jJ.at_ HGi.o.terms.read (i:=0) (by rw[za hrz];simp)
   replace ca0:wr.cell? ad2=some (.int .i64 rc):=by simpa [Addr.add,za hrz] using ca0
   go_upto_region 12 with fail
   refine jk (λw'=>w'=wr.drew) 50 (λ_=>True) 50 (λ_=>True) (by kernel_rfl) ⟨rfl,λ_=>trivial,λ_=>trivial⟩ (λjb=>?_)
   revert jb
   refine jtq 0 ?_ ?_ ?_
   rotate_left 1
   focus(intro;go_simp;try with_reducible rfl)
   (try simp only[Act.put,lA,lB,lC])
   refine jtq 1 ?_ ?_ ?_
   rotate_left 1
   focus(intro;go_simp;try with_reducible rfl)
   (try simp only[Act.put,lA,lB,lC])
   refine jtk 2 ?_ ?_ ?_
   rotate_left 1
   focus(intro w' hSw;obtain⟨hC,hF,hG⟩:=hSw;clear hF;clear hG;subst hC;go_simp;try with_reducible rfl)
   (try simp only[Act.put,lA,lB,lC])
   refine jtq 3 ?_ ?_ ?_
   rotate_left 1
   focus(intro;go_simp;try with_reducible rfl)
   (try simp only[Act.put,lA,lB,lC])
   refine jtq 4 ?_ ?_ ?_
   rotate_left 1
   focus(intro;go_simp;try with_reducible rfl)
   (try simp only[Act.put,lA,lB,lC])
   refine jtk 5 ?_ ?_ ?_
   rotate_left 1
   focus(intro w' hSw;obtain⟨hC,hF,hG⟩:=hSw;clear hF;clear hG;subst hC;go_simp;try with_reducible rfl)
   (try simp only[Act.put,lA,lB,lC])
   refine jtq 6 ?_ ?_ ?_
   rotate_left 1
   focus(intro;go_simp;try with_reducible rfl)
   (try simp only[Act.put,lA,lB,lC])
   refine jtq 7 ?_ ?_ ?_
   rotate_left 1
   focus(intro;go_simp;try with_reducible rfl)
   (try simp only[Act.put,lA,lB,lC])
   refine jtk 8 ?_ ?_ ?_
   rotate_left 1
   focus(intro w' hSw;obtain⟨hC,hF,hG⟩:=hSw;clear hF;clear hG;subst hC;go_simp;try with_reducible rfl)
   (try simp only[Act.put,lA,lB,lC])
   refine jtq 9 ?_ ?_ ?_
   rotate_left 1
   focus(intro;go_simp;try with_reducible rfl)
   (try simp only[Act.put,lA,lB,lC])
   intro jb
   refine jl (by decide +kernel) ?_
   clear jb
   clear r0 r1 ca0 HGi
   generalize wr.drew=Wd at *
   rw[show IntKind.i64.wrap pr=pr by rw[IntKind.wrap_i64];omega]
   by_cases hlt:pr<rd
   ·have hdp:dd<p:=by
     rcases Int.lt_or_le dd p with h|h
     ·exact h
     ·have:dd=p:=by omega
      subst this
      omega
    go_wp2
    exact⟨⟨dd+1,by go_num,by omega,by omega,HSd.o⟩,by simp only[intOf];omega⟩
   have hdp:dd=p:=by
    rcases Int.lt_or_le dd p with h|h
    ·have:=HG3.o dd h
     omega
    ·omega
   subst hdp
   have hlt2:rd<=pr:=by omega
   go_upto_region 14 with fail
   clear hpr hwp hmb hmb0 hlt hlt2 HG3 g1 g2 hd1 hd2
   by_cases h1k:1000<dd
   ·have hg:=HST.o (.inl h1k)
    have h1:=HQ1.o
    have h2:=HQ2.o
    rw[hk,hg] at h1 h2
    dsimp only at h1 h2
    rw[List.append_nil] at h1
    have HV:Hid (res=(q,ms,(rd,jK rc),0)):=ja (by rw[HRES.o,<-h1,<-h2])
    clear hg h1 h2 HQ1 HQ2 HST HNX HSV HRP
    go_upto_region 19 with fail
    have HSf:=ja (HSd.o.under (Below.drew (Below.refl _ _)))
    obtain⟨o0,o1,_,_⟩:=HSf.o.o.two
    obtain⟨r0,r1,_,_⟩:=HSf.o.r.two
    have HOC:=ja (And.intro o0 o1)
    have HRC:=ja (And.intro r0 r1)
    have hn8:X8≠w.heap.size+1:=by have:=HSf.o.h8;omega
    have hn5:w.heap.size+2≠w.heap.size+1:=by omega
    clear o0 o1 r0 r1
    refine jk (λ_=>True) 2 (λw'=>w'.cell? ⟨X7,0,none⟩=some (.int .i64 (q))/\w'.cell? ⟨X7,1,none⟩=some (.slice Ao L.length co2)) 3 (λw'=>w'.cell? ⟨X8,0,none⟩=some (.int .i64 (rd))/\w'.cell? ⟨X8,1,none⟩=some (.slice (some ad2) 1 cr)) (by kernel_rfl) ⟨trivial,λ_=>HOC.o,λ_=>HRC.o⟩ (λjb=>?_)
    revert jb
    refine jtk 0 ?_ ?_ ?_
    rotate_left 1
    focus(intro w' hSw;obtain⟨hC,hF,hG⟩:=hSw;clear hC;have hF:=hF (by decide +kernel);clear hG;obtain⟨c1,c2⟩:=hF;go_simp;try with_reducible rfl)
    (try simp only[Act.put,lA,lB,lC])
    refine jtk 1 ?_ ?_ ?_
    rotate_left 1
    focus(intro w' hSw;obtain⟨hC,hF,hG⟩:=hSw;clear hC;have hG:=hG (by decide +kernel);clear hF;obtain⟨c1,c2⟩:=hG;go_simp;try with_reducible rfl)
    (try simp only[Act.put,lA,lB,lC])
    intro jb
    obtain⟨q0,q1,qf0,qf1⟩:=HSd.o.x4.two
    have HR2:=ja ((HSd.o.r.far (p:=⟨w.heap.size+1,0,none⟩) hn8 (.int .i64 (q))).far (p:=⟨w.heap.size+1,1,none⟩) hn8 (.slice Ao L.length co2))
    have HQ2:=ja ((HSd.o.x5.far (p:=⟨w.heap.size+1,0,none⟩) hn5 (.int .i64 (q))).far (p:=⟨w.heap.size+1,1,none⟩) hn5 (.slice Ao L.length co2))
    refine je 2 rfl (by decide +kernel) (λK hK=>?_)
    go_simp
    refine hK.out _ _ ⟨trivial,λh=>absurd h (by decide +kernel),λ_=>⟨HR2.o.two.1,HR2.o.two.2.1⟩⟩ (λjb=>?_)
    clear hK K q0 q1 qf0 qf1
    (try simp only[Act.put,lA,lB,lC])
    obtain⟨q0,q1,qf0,qf1⟩:=HQ2.o.two
    refine je 3 rfl (by decide +kernel) (λK hK=>?_)
    go_simp
    refine hK.out _ _ ⟨trivial,λh=>absurd h (by decide +kernel),λh=>absurd h (by decide +kernel)⟩ (λjb=>?_)
    clear hK K q0 q1 qf0 qf1
    (try simp only[Act.put,lA,lB,lC])
    revert jb
    refine jtk 4 ?_ ?_ ?_
    rotate_left 1
    focus(intro w' hSw;obtain⟨hC,hF,hG⟩:=hSw;clear hC;clear hF;clear hG;go_simp;try with_reducible rfl)
    (try simp only[Act.put,lA,lB,lC])
    intro jb
    refine jl (by decide +kernel) ?_
    clear jb
    clear hn8 hn5
    go_wp2
    exact HPOST.o _ _ (q) Ao co2 L (rd) (some ad2) 1 cr (jK rc) ms 0 HV.o HLM.o (HSf.o.done (rd) HSf.o.terms rfl) rfl rfl rfl rfl
   obtain⟨r0,r1,_,_⟩:=HSd.o.r.two
   have hrow:(Wd.alloc (.cells #[.int .i64 1,.int .i64 1] 59)).ownsRow Wd.heap.size 59 2 (.slice (some ⟨Wd.heap.size,0,none⟩) 1 1) 1 (jr [(1,1)]):=
    World.ownsRow_lit (base:=Wd.heap.size) (e:=59) (size:=2) Wd #[.int .i64 1,.int .i64 1] 1 (Nat.le_refl _) (by unfold maxLen;omega) rfl
   have HPU:=ja (zd1 rd (some ad2) 1 cr (jK rc) dd (some ⟨Wd.heap.size,0,none⟩) 1 1 [(1,1)] (-1) _ _ (HSd.o.alloc (.cells #[.int .i64 1,.int .i64 1] 59)).terms.read (Rq.of (Rd.of_own hrow)) (Nat.le_refl _) (by omega))
   rw[HSV.o] at HPU
   have HW3:=ja (Nat.le_trans HX7.o (Nat.le_of_lt HSd.o.o.lt))
   clear hrow
   go_upto_region 16 with(first
    | (go_at_call 57;refine HPU.o.mono ?_;rintro e w5 ⟨A5,n5,c5,rfl,ho,hb⟩
       have HT5:=ja (jO (ho.alloc (.cells #[.int .i64 sd2,.slice A5 n5 c5] 24)) (show w.heap.size+3<=_ by have:=HW3.o;simp;omega))
       have HG5:=ja (((HSd.o.alloc (.cells #[.int .i64 1,.int .i64 1] 59)).under hb).alloc (.cells #[.int .i64 sd2,.slice A5 n5 c5] 24))
       have HN5:=ja (jh.new w5 24 #[.int .i64 sd2,.slice A5 n5 c5])
       have HXL:Hid (w.heap.size+3<=w5.heap.size):=ja (by have h1:=hb.size;have h2:=HW3.o;simp at h1;omega)
       have HX10:Hid (X7≠w5.heap.size/\X8≠w5.heap.size):=ja (by have h1:=HSd.o.o.lt;have h2:=HSd.o.r.lt;have h3:=hb.size;simp at h3;omega)
       clear ho hb HPU))
   clear r0 r1 HSd
   obtain⟨X,hX⟩:∃X,X=w5.heap.size:=⟨_,rfl⟩
   rw[<-hX] at HN5 HXL HX10 ⊢
   clear hX
   generalize w5.alloc (.cells #[.int .i64 sd2,.slice A5 n5 c5] 24)=V at *
   by_cases hs0:sc2=0
   rotate_left 1
   focus
    have hsb:(sc2 !=0)=true:=by simpa using hs0
    have hg:=HST.o (.inr hs0)
    have h1:=HQ1.o
    have h2:=HQ2.o
    rw[hk,hg] at h1 h2
    dsimp only at h1 h2
    rw[List.append_nil] at h1
    have HV:Hid (res=(q,ms,(rd,jK rc),0)):=ja (by rw[HRES.o,<-h1,<-h2])
    clear hg h1 h2 HQ1 HQ2 HST HNX HSV HRP HN5 HT5 HXL HX10
    go_upto_region 19 with fail
    have HSf:=ja (HG5.o.under (Below.drew (Below.refl _ _)))
    obtain⟨o0,o1,_,_⟩:=HSf.o.o.two
    obtain⟨r0,r1,_,_⟩:=HSf.o.r.two
    have HOC:=ja (And.intro o0 o1)
    have HRC:=ja (And.intro r0 r1)
    have hn8:X8≠w.heap.size+1:=by have:=HSf.o.h8;omega
    have hn5:w.heap.size+2≠w.heap.size+1:=by omega
    clear o0 o1 r0 r1
    refine jk (λ_=>True) 2 (λw'=>w'.cell? ⟨X7,0,none⟩=some (.int .i64 (q))/\w'.cell? ⟨X7,1,none⟩=some (.slice Ao L.length co2)) 3 (λw'=>w'.cell? ⟨X8,0,none⟩=some (.int .i64 (rd))/\w'.cell? ⟨X8,1,none⟩=some (.slice (some ad2) 1 cr)) (by kernel_rfl) ⟨trivial,λ_=>HOC.o,λ_=>HRC.o⟩ (λjb=>?_)
    revert jb
    refine jtk 0 ?_ ?_ ?_
    rotate_left 1
    focus(intro w' hSw;obtain⟨hC,hF,hG⟩:=hSw;clear hC;have hF:=hF (by decide +kernel);clear hG;obtain⟨c1,c2⟩:=hF;go_simp;try with_reducible rfl)
    (try simp only[Act.put,lA,lB,lC])
    refine jtk 1 ?_ ?_ ?_
    rotate_left 1
    focus(intro w' hSw;obtain⟨hC,hF,hG⟩:=hSw;clear hC;have hG:=hG (by decide +kernel);clear hF;obtain⟨c1,c2⟩:=hG;go_simp;try with_reducible rfl)
    (try simp only[Act.put,lA,lB,lC])
    intro jb
    obtain⟨q0,q1,qf0,qf1⟩:=HG5.o.x4.two
    have HR2:=ja ((HG5.o.r.far (p:=⟨w.heap.size+1,0,none⟩) hn8 (.int .i64 (q))).far (p:=⟨w.heap.size+1,1,none⟩) hn8 (.slice Ao L.length co2))
    have HQ2:=ja ((HG5.o.x5.far (p:=⟨w.heap.size+1,0,none⟩) hn5 (.int .i64 (q))).far (p:=⟨w.heap.size+1,1,none⟩) hn5 (.slice Ao L.length co2))
    refine je 2 rfl (by decide +kernel) (λK hK=>?_)
    go_simp
    refine hK.out _ _ ⟨trivial,λh=>absurd h (by decide +kernel),λ_=>⟨HR2.o.two.1,HR2.o.two.2.1⟩⟩ (λjb=>?_)
    clear hK K q0 q1 qf0 qf1
    (try simp only[Act.put,lA,lB,lC])
    obtain⟨q0,q1,qf0,qf1⟩:=HQ2.o.two
    refine je 3 rfl (by decide +kernel) (λK hK=>?_)
    go_simp
    refine hK.out _ _ ⟨trivial,λh=>absurd h (by decide +kernel),λh=>absurd h (by decide +kernel)⟩ (λjb=>?_)
    clear hK K q0 q1 qf0 qf1
    (try simp only[Act.put,lA,lB,lC])
    revert jb
    refine jtk 4 ?_ ?_ ?_
    rotate_left 1
    focus(intro w' hSw;obtain⟨hC,hF,hG⟩:=hSw;clear hC;clear hF;clear hG;go_simp;try with_reducible rfl)
    (try simp only[Act.put,lA,lB,lC])
    intro jb
    refine jl (by decide +kernel) ?_
    clear jb
    clear hn8 hn5
    go_wp2
    exact HPOST.o _ _ (q) Ao co2 L (rd) (some ad2) 1 cr (jK rc) ms 0 HV.o HLM.o (HSf.o.done (rd) HSf.o.terms rfl) rfl rfl rfl rfl
   subst hs0
   obtain⟨c',rfl,hc1,hc2⟩:=HRP.o (by omega) rfl
   have hg:=HNX.o (by rintro(h|h);omega;exact h rfl)
   have h1:=HQ1.o
   have h2:=HQ2.o
   rw[hk,hg] at h1 h2
   dsimp only at h1 h2
   have HQ3:=ja h1
   have HQ4:=ja h2
   have HNC:=ja hc2
   have hLb:L.length<=8:=by omega
   clear hg h1 h2 HQ1 HQ2 HST HNX HSV HRP hc2
   have HM:Hid ((V.alloc (.cells #[.int .i64 dd] 3)).ownsRow (w.heap.size+3) 3 1 (.slice (some ⟨V.heap.size,0,none⟩) 1 1) 1 [.int .i64 dd]):=ja (World.ownsRow_lit (base:=w.heap.size+3) (e:=3) (size:=1) V #[.int .i64 dd] 1 (Nat.le_trans HX7.o (Nat.le_of_lt HG5.o.o.lt)) (by unfold maxLen;omega) rfl)
   have HCELL:Hid (∀j x,[Value.bool false,.slice (some ⟨V.heap.size,0,none⟩) 1 1][j]?=some x->((V.alloc (.cells #[.int .i64 dd] 3)).alloc (.cells #[.bool false,.slice (some ⟨V.heap.size,0,none⟩) 1 1] 94)).cell? ((⟨V.heap.size+1,0,none⟩:Addr).add j)=some x):=ja (by have h:=zx (V.alloc (.cells #[.int .i64 dd] 3)) (.bool false) (.slice (some ⟨V.heap.size,0,none⟩) 1 1) 94;rwa [World.size_alloc] at h)
   have HM2:=ja (HM.o.alloc (.cells #[.bool false,.slice (some ⟨V.heap.size,0,none⟩) 1 1] 94))
   have HG6:=ja ((HG5.o.alloc (.cells #[.int .i64 dd] 3)).alloc (.cells #[.bool false,.slice (some ⟨V.heap.size,0,none⟩) 1 1] 94))
   have HN6:=ja ((HN5.o.alloc (.cells #[.int .i64 dd] 3)).alloc (.cells #[.bool false,.slice (some ⟨V.heap.size,0,none⟩) 1 1] 94))
   have HT6:=ja ((HT5.o.alloc (.cells #[.int .i64 dd] 3)).alloc (.cells #[.bool false,.slice (some ⟨V.heap.size,0,none⟩) 1 1] 94))
   have HVZ:=ja (Nat.le_trans HX7.o (Nat.le_of_lt HG5.o.o.lt))
   obtain⟨o0,o1,of0,of1⟩:=HG5.o.o.two
   clear HM HN5 HT5
   go_upto_region 18 with(first
    | (at_builtin;refine wpList_append_lies _ rfl _ _ 41 rfl (w.heap.size+3) 94 i1 (.agg #[.bool false,.slice none 0 0]) 2 32 Tryz.underlying41 hi1 hy0 hy1 hy2 rfl (by decide) (.slice Ao L.length co2) L.length _ rfl HG6.o.row ⟨V.heap.size+1,0,none⟩ 1 1 [.bool false,.slice (some ⟨V.heap.size,0,none⟩) 1 1] rfl rfl HCELL.o (by simp[Value.oneCell']) (by decide) (by unfold maxLen;omega) (by omega) (by have h:=HVZ.o;simp;omega) _ rfl ?_
       intro g6 cap6 w6 ho6 hg6 hat6 hlt6
       have HN7:=ja (HN6.o.grown hg6 (λe=>JQ HG6.o.row HN6.o (by decide) e))
       have HT7:=ja (zF HT6.o hg6 (λg e1 e2=>zS HG6.o.row HT6.o (by decide) e2 e1))
       have HG7:=ja (HG6.o.grow HM2.o ho6 hg6)
       clear ho6 hg6 hat6 hlt6 o0 o1 of0 of1
       obtain⟨o0,o1,of0,of1⟩:=HG7.o.o.two))
   clear o0 o1 of0 of1 HG5 HG6 HN6 HT6 HM2 HCELL
   have HN8:=ja (HN7.o.far (p:=⟨X7,1,none⟩) (λh=>HX10.o.1 h.symm) (.slice (some ⟨g6,0,none⟩) (L.length+1) cap6))
   have HT8:=ja (jC HT7.o HG7.o.o (i:=1) (u:=.slice (some ⟨g6,0,none⟩) (L.length+1) cap6) (by decide))
   have HG8:=ja (HG7.o.second (.slice (some ⟨g6,0,none⟩) (L.length+1) cap6))
   clear HN7 HT7 HG7
   generalize w6.setCell ⟨X7,1,none⟩ (.slice (some ⟨g6,0,none⟩) (L.length+1) cap6)=V2 at *
   obtain⟨n0,n1,_,_⟩:=HN8.o.two
   obtain⟨r0,r1,rf0,rf1⟩:=HG8.o.r.two
   have HG9:=ja (HG8.o.rest HT8.o (rd':=sd2))
   go_wp2
   have e9:(L++[(⟨false,some ⟨V.heap.size,0,none⟩,1,1,[dd]⟩:PieceV)]).length=L.length+1:=by simp
   rw[<-e9] at HG9
   go_roundg (M-(L.length+1))
   case measure=>omega
   case rel=>
    refine⟨some ⟨g6,0,none⟩,cap6,L++[(⟨false,some ⟨V.heap.size,0,none⟩,1,1,[dd]⟩:PieceV)],sd2,c',A5,n5,c5,ms++[dd],HG9.o,?_,?_,?_,⟨HNC.o,hc1⟩,?_,?_⟩
    ·rw[e9];omega
    ·rw[e9];omega
    ·rw[List.map_append,List.map_append,HLM.o];rfl
    ·rw[e9,show M-(L.length+1)=k by omega,List.append_assoc];exact HQ3.o
    ·rw[e9,show M-(L.length+1)=k by omega];exact HQ4.o
