import Derived.Test.YtphcodcdfeohhaaGreatDoorRfrA
set_option linter.all false
namespace Go.Proofs.YtphcodcdfeohhaaGreatDoor
set_option maxRecDepth 100000
set_option maxHeartbeats 16000000
open Go Go.RowKit
theorem Tryz.sizeBetween:(Tryz.prog.info? 26).map (·.size)=some 4:=by kernel_rfl
def jdh4(w:World)(ld:Int)(lt:List (Int×Int))(hd:Int)(ht:List (Int×Int))(e:Ending)(w':World):Prop:=∃A1 n1 c1 A2 n2 c2,e=.returned (.agg #[.int .i64 ld,.slice A1 n1 c1,.int .i64 hd,.slice A2 n2 c2])/\zf3 0 (A1,n1,c1) lt w'/\zf3 0 (A2,n2,c2) ht w'/\Below w.heap.size w w'
theorem jdc3 (ld:Int) (A1:Option Addr) (n1 c1:Nat) (lt:List (Int×Int)) (hd:Int) (A2:Option Addr) (n2 c2:Nat) (ht:List (Int×Int)) (w:World)
  (hl:jJ w w.heap.size A1 n1 c1 lt) (hh:jJ w w.heap.size A2 n2 c2 ht) (hn1:n1<=1000) (hn2:n2<=1000) :
  Calls Tryz.prog 11 #[.agg #[.int .i64 ld,.slice A1 n1 c1,.int .i64 hd,.slice A2 n2 c2]] w (jdh4 w ld lt hd ht):=by
 obtain⟨w0,hw0⟩:∃w0,w0=(w.alloc (.cells #[.int .i64 ld,.slice A1 n1 c1,.int .i64 hd,.slice A2 n2 c2] 26)).alloc (.cells #[.int .i64 0,.slice none 0 0,.int .i64 0,.slice none 0 0] 26):=⟨_,rfl⟩
 obtain⟨X1,hX1⟩:∃X,X=w.heap.size:=⟨_,rfl⟩
 obtain⟨X2,hX2⟩:∃X,X=w.heap.size+1:=⟨_,rfl⟩
 have HX2:Hid (w.heap.size<=X2):=ja (by omega)
 have HS:Hid (((Below w.heap.size w w0/\w.heap.size<=w0.heap.size)/\jh w0 X1 26 #[.int .i64 ld,.slice A1 n1 c1,.int .i64 hd,.slice A2 n2 c2])/\jh w0 X2 26 #[.int .i64 0,.slice none 0 0,.int .i64 0,.slice none 0 0]):=ja (by
  rw[hw0]
  refine⟨⟨⟨((Below.refl _ _).alloc (Nat.le_refl _) _).alloc (by simp) _,by simp;omega⟩,hX1▸(jh.new w _ _).alloc _⟩,?_⟩
  have h:=jh.new (w.alloc (.cells #[.int .i64 ld,.slice A1 n1 c1,.int .i64 hd,.slice A2 n2 c2] 26)) 26 #[.int .i64 0,.slice none 0 0,.int .i64 0,.slice none 0 0]
  rw[World.size_alloc] at h
  rw[hX2];exact h)
 have HL:=ja (λW (hb:Below w.heap.size w W) (hB:w.heap.size<=W.heap.size)=>jar6 ld A1 n1 c1 w.heap.size lt W (Rq.below hl hb) hB hn1)
 have HH:=ja (λW (hb:Below w.heap.size w W) (hB:w.heap.size<=W.heap.size)=>jar6 hd A2 n2 c2 w.heap.size ht W (Rq.below hh hb) hB hn2)
 clear hl hh hn1 hn2
 go_enter Tryz.func11,Tryz.ntmps11
 go_upto_region 1 with fail
 rw[<-hX2,<-hX1,<-hw0]
 clear hX2 hX1 hw0
 obtain⟨z0,z1,z2,z3⟩:=HS.o.1.2.four
 have h1:X1<w0.heap.size:=HS.o.1.2.lt
 have HGd:Hid ((((Below w.heap.size w w0.drew/\w.heap.size<=w0.drew.heap.size)/\jh w0.drew X1 26 #[.int .i64 ld,.slice A1 n1 c1,.int .i64 hd,.slice A2 n2 c2])/\jh w0.drew X2 26 #[.int .i64 0,.slice none 0 0,.int .i64 0,.slice none 0 0])/\(Below w0.heap.size w0 w0.drew/\w0.heap.size<=w0.drew.heap.size)):=ja ⟨Kept.keep (S:=λW=>(((Below w.heap.size w W/\w.heap.size<=W.heap.size)/\jh W X1 26 #[.int .i64 ld,.slice A1 n1 c1,.int .i64 hd,.slice A2 n2 c2])/\jh W X2 26 #[.int .i64 0,.slice none 0 0,.int .i64 0,.slice none 0 0])) _ _ HS.o (Below.drew (Below.refl _ _)),Below.drew (Below.refl _ _),Nat.le_refl _⟩
 refine zV 7 (λW'=>Below w0.heap.size w0 W') (λ_ _ _=>True) [] (λW'=>(((Below w.heap.size w W'/\w.heap.size<=W'.heap.size)/\jh W' X1 26 #[.int .i64 ld,.slice A1 n1 c1,.int .i64 hd,.slice A2 n2 c2])/\jh W' X2 26 #[.int .i64 0,.slice none 0 0,.int .i64 0,.slice none 0 0])/\(Below w0.heap.size w0 W'/\w0.heap.size<=W'.heap.size)) (by kernel_rfl)
  (Floats.of (by decide +kernel) (λc a d v w=>by cases d<;>exact Iff.rfl) (by intro i hi;cases hi) (λ_ _ _ _ _ _=>trivial))
  (λ_ _ _ h=>h) (by decide) HGd.o (λW h=>h.2.1) (λHFL=>?_)
 refine jsq 0 HFL (λW h=>h.2.1) ?_ ?_ ?_
 rotate_left 1
 focus(intro;go_simp;try with_reducible rfl)
 (try simp only[Act.put,lA,lB,lC])
 refine jst 1 HFL (λW h=>h.2.1) ?_ ?_ ?_
 rotate_left 1
 focus(intro W hF;have hF:=hF (by decide +kernel);have e1:=(hF.cell (p:=⟨X1,0,none⟩) h1).trans z0;have e2:=(hF.cell (p:=⟨X1,1,none⟩) h1).trans z1;clear hF;go_simp;try with_reducible rfl)
 (try simp only[Act.put,lA,lB,lC])
 refine jsq 3 HFL (λW h=>h.2.1) ?_ ?_ ?_
 rotate_left 1
 focus(intro;go_simp;try with_reducible rfl)
 (try simp only[Act.put,lA,lB,lC])
 refine jst 4 HFL (λW h=>h.2.1) ?_ ?_ ?_
 rotate_left 1
 focus(intro W hF;have hF:=hF (by decide +kernel);have e1:=(hF.cell (p:=⟨X1,2,none⟩) h1).trans z2;have e2:=(hF.cell (p:=⟨X1,3,none⟩) h1).trans z3;clear hF;go_simp;try with_reducible rfl)
 (try simp only[Act.put,lA,lB,lC])
 refine jg.on 2 (λx:Sl=>.agg #[.int .i64 ld,.slice x.1 x.2.1 x.2.2]) (λx W=>zf3 0 x lt W) rfl rfl HFL (by decide +kernel) (λW h=>h.2.1) (λW hG K' hK=>?_) (λx2 hF2=>?_)
 focus
  have HC:=ja (HL.o W hG.1.1.1.1 hG.1.1.1.2)
  clear hG
  go_simp
  go_wp2_with (first
   | (go_at_call 10;refine HC.o.mono ?_;rintro e w6 ⟨A,n,c,rfl,ho,hb⟩
      have HO:=ja (jO ho (Nat.zero_le _));have HBB:=ja hb;clear ho hb))
  exact hK.out (A,n,c) _ HO.o HBB.o
 (try simp only[Act.put,lA,lB,lC])
 refine jg.on 5 (λx:Sl=>.agg #[.int .i64 hd,.slice x.1 x.2.1 x.2.2]) (λx W=>zf3 0 x ht W) rfl rfl HFL (by decide +kernel) hF2 (λW hG K' hK=>?_) (λx5 hF5=>?_)
 focus
  have HC:=ja (HH.o W hG.1.1.1.1.1 hG.1.1.1.1.2)
  clear hG
  go_simp
  go_wp2_with (first
   | (go_at_call 10;refine HC.o.mono ?_;rintro e w6 ⟨A,n,c,rfl,ho,hb⟩
      have HO:=ja (jO ho (Nat.zero_le _));have HBB:=ja hb;clear ho hb))
  exact hK.out (A,n,c) _ HO.o HBB.o
 (try simp only[Act.put,lA,lB,lC])
 refine jsq 6 HFL hF5 ?_ ?_ ?_
 rotate_left 1
 focus(intro;go_simp;try with_reducible rfl)
 (try simp only[Act.put,lA,lB,lC])
 refine jg.fin rfl hF5 (λW9 hG jb=>?_)
 have HS5:=ja hG.1.1.1
 have HA:=ja hG.1.2
 have HB:=ja hG.2
 clear hG HGd HFL hF2 hF5 HS z0 z1 z2 z3 h1
 obtain⟨q0,q1,q2,q3,qf0,qf1,qf2,qf3⟩:=HS5.o.2.fourF
 refine je 7 rfl (by decide +kernel) (λK hK=>?_)
 go_simp
 refine hK.out _ _ ⟨trivial,λh=>absurd h (by decide +kernel),λ_=>trivial⟩ (λjb=>?_)
 clear hK K
 (try simp only[Act.put,lA,lB,lC])
 refine jl (by decide +kernel) ?_
 clear jb
 clear q0 q1 q2 q3 qf0 qf1 qf2 qf3
 go_wp2
 refine Ji (p:=2) (ty:=26) rfl rfl ((((HS5.o.2.set_ 0 (.int .i64 ld)).set_ 1 (.slice x2.1 x2.2.1 x2.2.2)).set_ 2 (.int .i64 hd)).set_ 3 (.slice x5.1 x5.2.1 x5.2.2)) (d:=_) rfl Tryz.underlying26 Tryz.sizeBetween rfl ?_
 exact⟨x2.1,x2.2.1,x2.2.2,x5.1,x5.2.1,x5.2.2,rfl,(jC (jC (jC (jC HA.o HS5.o.2 (i:=0) (u:=.int .i64 ld) (by decide)) (HS5.o.2.set_ 0 (.int .i64 ld)) (i:=1) (u:=.slice x2.1 x2.2.1 x2.2.2) (by decide)) ((HS5.o.2.set_ 0 (.int .i64 ld)).set_ 1 (.slice x2.1 x2.2.1 x2.2.2)) (i:=2) (u:=.int .i64 hd) (by decide)) (((HS5.o.2.set_ 0 (.int .i64 ld)).set_ 1 (.slice x2.1 x2.2.1 x2.2.2)).set_ 2 (.int .i64 hd)) (i:=3) (u:=.slice x5.1 x5.2.1 x5.2.2) (by decide)),(jC (jC (jC (jC HB.o HS5.o.2 (i:=0) (u:=.int .i64 ld) (by decide)) (HS5.o.2.set_ 0 (.int .i64 ld)) (i:=1) (u:=.slice x2.1 x2.2.1 x2.2.2) (by decide)) ((HS5.o.2.set_ 0 (.int .i64 ld)).set_ 1 (.slice x2.1 x2.2.1 x2.2.2)) (i:=2) (u:=.int .i64 hd) (by decide)) (((HS5.o.2.set_ 0 (.int .i64 ld)).set_ 1 (.slice x2.1 x2.2.1 x2.2.2)).set_ 2 (.int .i64 hd)) (i:=3) (u:=.slice x5.1 x5.2.1 x5.2.2) (by decide)),((((HS5.o.1.1.1.setCell (p:=⟨X2,0,none⟩) HX2.o (.int .i64 ld)).setCell (p:=⟨X2,1,none⟩) HX2.o (.slice x2.1 x2.2.1 x2.2.2)).setCell (p:=⟨X2,2,none⟩) HX2.o (.int .i64 hd)).setCell (p:=⟨X2,3,none⟩) HX2.o (.slice x5.1 x5.2.1 x5.2.2))⟩
theorem jdc1{xd ld hd den l h c l' h' c':Int}{xt lt ht:List (Int×Int)}(g:jcs8 (xd,xt) (ld,lt) (hd,ht) den l h c)(g':jbt9 (xd,xt) (ld,lt) (hd,ht) (ld,lt) (hd,ht) (1,[(4,1)]) (1,[(4,1)]) den l' h' c'):l=l'/\h=h'/\c=c':=by
 obtain⟨r,hr,g⟩:=g
 exact jdb5 (x:=(xd,xt)) (lo:=(ld,lt)) (hi:=(hd,ht)) (g1:=λx y=>jc7 x.1 x.2 y.1 y.2) (g2:=λx _=>jn7 x.1 x.2 (jI 4).1 (jI 4).2) (g3:=λx _=>jL x.1 x.2 (jI 1).1 (jI 1).2 (-1)) (λ_=>rfl) (λ_=>rfl) (λ_=>rfl) (λ_=>rfl) (λ_ _=>rfl) _ _ hr g g'
theorem jdd3{xd ld hd den l h c l' h' c':Int}{xt lt ht:List (Int×Int)}(g:zv4 (xd,xt) (ld,lt) (hd,ht) den l h c)(g':jbt9 (xd,xt) (ld,lt) (hd,ht) (1,[(4,1)]) (1,[(4,1)]) (hd,ht) (ld,lt) den l' h' c'):l=l'/\h=h'/\c=c':=by
 obtain⟨r,hr,g⟩:=g
 exact jdb5 (x:=(xd,xt)) (lo:=(hd,ht)) (hi:=(ld,lt)) (g1:=λx _=>jc7 x.1 x.2 (jI 4).1 (jI 4).2) (g2:=λx y=>jn7 x.1 x.2 y.1 y.2) (g3:=λx _=>jL x.1 x.2 (jI 1).1 (jI 1).2 (-1)) (λ_=>rfl) (λ_=>rfl) (λ_=>rfl) (λ_=>rfl) (λ_ _=>rfl) _ _ hr g g'
def PiIs(w:World)(ld:Int)(lt:List (Int×Int))(hd:Int)(ht:List (Int×Int))(x:Sl×Sl)(W:World):Prop:=zf3 0 x.1 lt W/\zf3 0 x.2 ht W
instance {w:World}{ld hd:Int}{lt ht:List (Int×Int)}{x:Sl×Sl}:Kept (PiIs w ld lt hd ht x):=⟨λ_ _ h hb=>⟨jG h.1 hb,jG h.2 hb⟩⟩
theorem jdd1 (xd:Int) (A:Option Addr) (n c:Nat) (xt:List (Int×Int)) (ld:Int) (A1:Option Addr) (n1 c1:Nat) (lt:List (Int×Int)) (hd:Int) (A2:Option Addr) (n2 c2:Nat) (ht:List (Int×Int)) (den:Int) (w:World)
  (hx:jJ w w.heap.size A n c xt) (hlo:jJ w w.heap.size A1 n1 c1 lt) (hhi:jJ w w.heap.size A2 n2 c2 ht)
  (hE : Jm w) (htab : Lib.TabIs Tryz.prog w "internal/strconv.uint64pow10" .u64 Lib.pow10Tab) :
  Calls Tryz.prog 3 #[.agg #[.int .i64 xd,.slice A n c],.agg #[.int .i64 ld,.slice A1 n1 c1,.int .i64 hd,.slice A2 n2 c2],.int .i64 den] w λe w'=>e=.returned (.bool true)/\Below w.heap.size w w':=by
 obtain⟨gp,hgp⟩:=Option.isSome_iff_exists.1 Tryz.pow10g
 have HK:Hid (∀W,Below w.heap.size w W->Calls Tryz.prog 8 #[] W λe w'=>e=.returned (.bool true)/\Below W.heap.size W w'):=ja (λW hW=>jbn0 W (hE.below hW (Nat.le_refl _)) (JV hgp htab hW))
 have hl:=hx.len
 subst hl
 have hl:=hlo.len
 subst hl
 have hl:=hhi.len
 subst hl
 have HPX:=ja (λW (hb:Below w.heap.size w W)=>Rq.below hx hb)
 have HPL:=ja (λW (hb:Below w.heap.size w W)=>Rq.below hlo hb)
 have HPH:=ja (λW (hb:Below w.heap.size w W)=>Rq.below hhi hb)
 clear hx hlo hhi hE htab hgp
 go_enter Tryz.func3,Tryz.ntmps3
 go_upto_region 1 with fail
 obtain⟨X3,hX3⟩:∃X,X=w.heap.size:=⟨_,rfl⟩
 obtain⟨X4,hX4⟩:∃X,X=w.heap.size+1:=⟨_,rfl⟩
 obtain⟨W1,hW1⟩:∃W,W=(w.alloc (.cells #[.int .i64 xd,.slice A xt.length c] 24)).alloc (.cells #[.int .i64 ld,.slice A1 lt.length c1,.int .i64 hd,.slice A2 ht.length c2] 26):=⟨_,rfl⟩
 have HS:Hid (((Below w.heap.size w W1/\w.heap.size<=W1.heap.size)/\jh W1 X3 24 #[.int .i64 xd,.slice A xt.length c])/\jh W1 X4 26 #[.int .i64 ld,.slice A1 lt.length c1,.int .i64 hd,.slice A2 ht.length c2]):=ja (by
  rw[hW1]
  refine⟨⟨⟨((Below.refl _ _).alloc (Nat.le_refl _) _).alloc (by simp) _,by simp;omega⟩,hX3▸(jh.new w _ _).alloc _⟩,?_⟩
  have h:=jh.new (w.alloc (.cells #[.int .i64 xd,.slice A xt.length c] 24)) 26 #[.int .i64 ld,.slice A1 lt.length c1,.int .i64 hd,.slice A2 ht.length c2]
  rw[World.size_alloc] at h
  rw[hX4];exact h)
 rw[<-hX4,<-hX3,<-hW1] at ⊢
 clear hX3 hX4 hW1
 have hrow:(W1.alloc (.cells #[.int .i64 xd,.slice A xt.length c,.int .i64 ld,.slice A1 lt.length c1,.int .i64 hd,.slice A2 ht.length c2] 24)).ownsRow W1.heap.size 24 2 (.slice (some ⟨W1.heap.size,0,none⟩) 3 3) 3 (jB ([(xd,(A,xt.length,c)),(ld,(A1,lt.length,c1)),(hd,(A2,ht.length,c2))].map jby8)):=
  World.ownsRow_lit (base:=W1.heap.size) (e:=24) (size:=2) W1 #[.int .i64 xd,.slice A xt.length c,.int .i64 ld,.slice A1 lt.length c1,.int .i64 hd,.slice A2 ht.length c2] 3 (Nat.le_refl _) (by unfold maxLen;omega) rfl
 have HWD:=ja (jan4 (some ⟨W1.heap.size,0,none⟩) 3 3 _ [(xd,(A,xt.length,c)),(ld,(A1,lt.length,c1)),(hd,(A2,ht.length,c2))] _ (Rq.of (Rd.of_own hrow)))
 have HS1:=ja (Kept.keep (S:=λW=>(((Below w.heap.size w W/\w.heap.size<=W.heap.size)/\jh W X3 24 #[.int .i64 xd,.slice A xt.length c])/\jh W X4 26 #[.int .i64 ld,.slice A1 lt.length c1,.int .i64 hd,.slice A2 ht.length c2])) _ _ HS.o ((Below.refl _ _).alloc (Nat.le_refl _) (.cells #[.int .i64 xd,.slice A xt.length c,.int .i64 ld,.slice A1 lt.length c1,.int .i64 hd,.slice A2 ht.length c2] 24)))
 clear hrow
 obtain⟨z0,z1,_,_⟩:=(HS.o.1.2).two
 obtain⟨y0,y1,y2,y3⟩:=(HS.o.2).four
 cases hw8:jav3 [(xd,(A,xt.length,c)),(ld,(A1,lt.length,c1)),(hd,(A2,ht.length,c2))]
 rotate_left 1
 focus
  rw[hw8] at HWD
  have HB1:=ja HS1.o.1.1
  go_wp2_with (first
   | (go_at_call 8;refine(HK.o _ HB1.o.1).mono ?_;rintro e wz ⟨rfl,hbz⟩
      have HBe:=ja (HB1.o.1.trans (hbz.mono HB1.o.2))
      clear hbz)
   | (go_at_call 7;refine HWD.o.mono ?_;rintro e w1 ⟨rfl,hw⟩;subst w1))
  all_goals
   go_ret
   exact⟨rfl,HBe.o⟩
 rw[hw8] at HWD
 have h8:xt.length<=8/\lt.length<=8/\ht.length<=8:=by
  have h:=hw8
  simp[jav3] at h
  exact h
 go_upto_region 3 with(first
  | (go_at_call 7;refine HWD.o.mono ?_;rintro e w1 ⟨rfl,hw⟩;subst w1))
 clear z0 z1 y0 y1 y2 y3 HWD hw8 HS
 generalize W1.alloc (.cells #[.int .i64 xd,.slice A xt.length c,.int .i64 ld,.slice A1 lt.length c1,.int .i64 hd,.slice A2 ht.length c2] 24)=W2 at *
 have HS:=ja HS1.o
 clear HS1
 have HOX:=ja (λW (hb:Below w.heap.size w W) (hB:w.heap.size<=W.heap.size)=>jar6 xd A xt.length c w.heap.size xt W (HPX.o W hb) hB (by omega))
 have HOP:=ja (λW (hb:Below w.heap.size w W) (hB:w.heap.size<=W.heap.size)=>jdc3 ld A1 lt.length c1 lt hd A2 ht.length c2 ht W (Rq.more (HPL.o W hb) hB) (Rq.more (HPH.o W hb) hB) (by omega) (by omega))
 clear h8
 obtain⟨z0,z1,_,_⟩:=(HS.o.1.2).two
 obtain⟨y0,y1,y2,y3⟩:=(HS.o.2).four
 have h3:X3<W2.heap.size:=(HS.o.1.2).lt
 have h4:X4<W2.heap.size:=(HS.o.2).lt
 have HGd:Hid ((((Below w.heap.size w W2.drew/\w.heap.size<=W2.drew.heap.size)/\jh W2.drew X3 24 #[.int .i64 xd,.slice A xt.length c])/\jh W2.drew X4 26 #[.int .i64 ld,.slice A1 lt.length c1,.int .i64 hd,.slice A2 ht.length c2])/\(Below W2.heap.size W2 W2.drew/\W2.heap.size<=W2.drew.heap.size)):=ja ⟨Kept.keep (S:=λW=>(((Below w.heap.size w W/\w.heap.size<=W.heap.size)/\jh W X3 24 #[.int .i64 xd,.slice A xt.length c])/\jh W X4 26 #[.int .i64 ld,.slice A1 lt.length c1,.int .i64 hd,.slice A2 ht.length c2])) _ _ HS.o (Below.drew (Below.refl _ _)),Below.drew (Below.refl _ _),Nat.le_refl _⟩
 refine zV 10 (λW'=>Below W2.heap.size W2 W') (λ_ _ _=>True) [] (λW'=>(((Below w.heap.size w W'/\w.heap.size<=W'.heap.size)/\jh W' X3 24 #[.int .i64 xd,.slice A xt.length c])/\jh W' X4 26 #[.int .i64 ld,.slice A1 lt.length c1,.int .i64 hd,.slice A2 ht.length c2])/\(Below W2.heap.size W2 W'/\W2.heap.size<=W'.heap.size)) (by kernel_rfl)
  (Floats.of (by decide +kernel) (λc a d v w=>by cases d<;>exact Iff.rfl) (by intro i hi;cases hi) (λ_ _ _ _ _ _=>trivial))
  (λ_ _ _ h=>h) (by decide) HGd.o (λW h=>h.2.1) (λHFL=>?_)
 refine jst 0 HFL (λW h=>h.2.1) ?_ ?_ ?_
 rotate_left 1
 focus(intro W hF;have hF:=hF (by decide +kernel);have e1:=(hF.cell (p:=⟨X3,0,none⟩) h3).trans z0;have e2:=(hF.cell (p:=⟨X3,1,none⟩) h3).trans z1;clear hF;go_simp;try with_reducible rfl)
 (try simp only[Act.put,lA,lB,lC])
 refine jst 2 HFL (λW h=>h.2.1) ?_ ?_ ?_
 rotate_left 1
 focus(intro W hF;have hF:=hF (by decide +kernel);have e1:=(hF.cell (p:=⟨X4,0,none⟩) h4).trans y0;have e2:=(hF.cell (p:=⟨X4,1,none⟩) h4).trans y1;have e3:=(hF.cell (p:=⟨X4,2,none⟩) h4).trans y2;have e4:=(hF.cell (p:=⟨X4,3,none⟩) h4).trans y3;clear hF;go_simp;try with_reducible rfl)
 (try simp only[Act.put,lA,lB,lC])
 refine jsq 4 HFL (λW h=>h.2.1) ?_ ?_ ?_
 rotate_left 1
 focus(intro;go_simp;try with_reducible rfl)
 (try simp only[Act.put,lA,lB,lC])
 refine jg.on 1 (λx:Sl=>.agg #[.int .i64 xd,.slice x.1 x.2.1 x.2.2]) (λx W=>zf3 0 x xt W) rfl rfl HFL (by decide +kernel) (λW h=>h.2.1) (λW hG K' hK=>?_) (λx1 hF1=>?_)
 focus
  have HC:=ja (HOX.o W hG.1.1.1.1 hG.1.1.1.2)
  clear hG
  go_simp
  go_wp2_with (first
   | (go_at_call 10;refine HC.o.mono ?_;rintro e w6 ⟨A,n,c,rfl,ho,hb⟩
      have HO:=ja (jO ho (Nat.zero_le _));have HBB:=ja hb;clear ho hb))
  exact hK.out (A,n,c) _ HO.o HBB.o
 (try simp only[Act.put,lA,lB,lC])
 refine jg.on 3 (λx:Sl×Sl=>.agg #[.int .i64 ld,.slice x.1.1 x.1.2.1 x.1.2.2,.int .i64 hd,.slice x.2.1 x.2.2.1 x.2.2.2]) (λx W=>PiIs w ld lt hd ht x W) rfl rfl HFL (by decide +kernel) hF1 (λW hG K' hK=>?_) (λx3 hF3=>?_)
 focus
  have HC:=ja (HOP.o W hG.1.1.1.1.1 hG.1.1.1.1.2)
  clear hG
  go_simp
  go_wp2_with (first
   | (go_at_call 11;refine HC.o.mono ?_;rintro e w6 ⟨Aa,na,ca,Ab,nb,cb,rfl,ta,tb,hb⟩
      have HTA:=ja ta;have HTB:=ja tb
      have HBB:=ja hb;clear ta tb hb))
  exact hK.out ((Aa,na,ca),(Ab,nb,cb)) _ ⟨HTA.o,HTB.o⟩ HBB.o
 (try simp only[Act.put,lA,lB,lC])
 refine jg.on 5 (λx:Int×Int×Int=>.tuple #[.int .i64 x.1,.int .i64 x.2.1,.int .i64 x.2.2]) (λx W=>jcs8 (xd,xt) (ld,lt) (hd,ht) den x.1 x.2.1 x.2.2) rfl rfl HFL (by decide +kernel) hF3 (λW hG K' hK=>?_) (λx5 hF5=>?_)
 focus
  have HC:=ja (jcy8 xd x1.1 x1.2.1 x1.2.2 xt ld x3.1.1 x3.1.2.1 x3.1.2.2 lt hd x3.2.1 x3.2.2.1 x3.2.2.2 ht den W.heap.size W (ZF hG.1.2) (ZF hG.2.1) (ZF hG.2.2) (Nat.le_refl _))
  clear hG
  go_simp
  go_wp2_with (first
   | (go_at_call 9;refine HC.o.mono ?_;rintro e w6 ⟨low,high,cc,rfl,hr,hb⟩
      have HR:=ja hr
      have HBB:=ja hb;clear hr hb))
  exact hK.out (low,high,cc) _ HR.o HBB.o
 (try simp only[Act.put,lA,lB,lC])
 refine jg.fin rfl hF5 (λV3 hG jb=>?_)
 have HS0:=ja hG.1.1.1.1
 have HR:=ja hG.2
 clear hG HGd HFL hF1 hF3 hF5 HS z0 z1 y0 y1 y2 y3 h3 h4
 have HS:=ja HS0.o
 clear HS0
 refine jc 6 rfl (by decide +kernel) (λc a w h=>by first|exact h|(cases h;done)) (by rfl) (v:=?_) ?_ jb (λjd=>?_)
 rotate_left 1
 focus (intro w' hSw;clear hSw;go_simp;try with_reducible rfl)
 clear jb
 rename jf _ _ _ _ _ _ _=>jb
 (try simp only[Act.put,lA,lB,lC])
 refine jc 7 rfl (by decide +kernel) (λc a w h=>by first|exact h|(cases h;done)) (by rfl) (v:=?_) ?_ jb (λjd=>?_)
 rotate_left 1
 focus (intro w' hSw;clear hSw;go_simp;try with_reducible rfl)
 clear jb
 rename jf _ _ _ _ _ _ _=>jb
 (try simp only[Act.put,lA,lB,lC])
 refine jc 8 rfl (by decide +kernel) (λc a w h=>by first|exact h|(cases h;done)) (by rfl) (v:=?_) ?_ jb (λjd=>?_)
 rotate_left 1
 focus (intro w' hSw;clear hSw;go_simp;try with_reducible rfl)
 clear jb
 rename jf _ _ _ _ _ _ _=>jb
 (try simp only[Act.put,lA,lB,lC])
 refine jc 9 rfl (by decide +kernel) (λc a w h=>by first|exact h|(cases h;done)) (by rfl) (v:=?_) ?_ jb (λjd=>?_)
 rotate_left 1
 focus (intro w' hSw;clear hSw;go_simp;try with_reducible rfl)
 clear jb
 rename jf _ _ _ _ _ _ _=>jb
 (try simp only[Act.put,lA,lB,lC])
 refine je 10 rfl (by decide +kernel) (λK hK=>?_)
 go_simp
 refine hK.out _ _ ⟨trivial,λh=>absurd h (by decide +kernel),λ_=>trivial⟩ (λjb=>?_)
 clear hK K
 (try simp only[Act.put,lA,lB,lC])
 refine jc 11 rfl (by decide +kernel) (λc a w h=>by first|exact h|(cases h;done)) (by rfl) (v:=?_) ?_ jb (λjd=>?_)
 rotate_left 1
 focus (intro w' hSw;clear hSw;go_simp;try with_reducible rfl)
 clear jb
 rename jf _ _ _ _ _ _ _=>jb
 (try simp only[Act.put,lA,lB,lC])
 refine jc 12 rfl (by decide +kernel) (λc a w h=>by first|exact h|(cases h;done)) (by rfl) (v:=?_) ?_ jb (λjd=>?_)
 rotate_left 1
 focus (intro w' hSw;clear hSw;go_simp;try with_reducible rfl)
 clear jb
 rename jf _ _ _ _ _ _ _=>jb
 (try simp only[Act.put,lA,lB,lC])
 refine jl (by decide +kernel) ?_
 clear jb
 try clear jb
 obtain⟨g1l,g1h,g1c⟩:=x5
 dsimp only at HR
 have HR1:=ja HR.o
 clear HR
 go_upto_region 4 with fail
 obtain⟨z0,z1,_,_⟩:=(HS.o.1.2).two
 obtain⟨y0,y1,y2,y3⟩:=(HS.o.2).four
 go_upto_region 5 with(first
  | (go_at_call 12;refine(jcz2 xd A xt.length c xt ld A1 lt.length c1 lt hd A2 ht.length c2 ht den V3 (Rq.more (HPX.o _ HS.o.1.1.1) HS.o.1.1.2) (Rq.more (HPL.o _ HS.o.1.1.1) HS.o.1.1.2) (Rq.more (HPH.o _ HS.o.1.1.1) HS.o.1.1.2)).mono ?_;rintro e w101 ⟨a2,b2,d2,rfl,hr,hb⟩
     have HS_0:=ja (Kept.keep (S:=λW=>(((Below w.heap.size w W/\w.heap.size<=W.heap.size)/\jh W X3 24 #[.int .i64 xd,.slice A xt.length c])/\jh W X4 26 #[.int .i64 ld,.slice A1 lt.length c1,.int .i64 hd,.slice A2 ht.length c2])) _ _ HS.o hb)
     obtain⟨rfl,rfl,rfl⟩:=jdc1 HR1.o hr
     clear hr
     clear hb))
 clear z0 z1 y0 y1 y2 y3 HR1
 have HS0:=ja HS_0.o
 clear HS
 have HS:=ja HS0.o
 clear HS0
 try clear HS_0
 go_upto_region 7 with fail
 obtain⟨z0,z1,_,_⟩:=(HS.o.1.2).two
 obtain⟨y0,y1,y2,y3⟩:=(HS.o.2).four
 have h3:X3<w101.heap.size:=(HS.o.1.2).lt
 have h4:X4<w101.heap.size:=(HS.o.2).lt
 have HGd:Hid ((((Below w.heap.size w w101.drew/\w.heap.size<=w101.drew.heap.size)/\jh w101.drew X3 24 #[.int .i64 xd,.slice A xt.length c])/\jh w101.drew X4 26 #[.int .i64 ld,.slice A1 lt.length c1,.int .i64 hd,.slice A2 ht.length c2])/\(Below w101.heap.size w101 w101.drew/\w101.heap.size<=w101.drew.heap.size)):=ja ⟨Kept.keep (S:=λW=>(((Below w.heap.size w W/\w.heap.size<=W.heap.size)/\jh W X3 24 #[.int .i64 xd,.slice A xt.length c])/\jh W X4 26 #[.int .i64 ld,.slice A1 lt.length c1,.int .i64 hd,.slice A2 ht.length c2])) _ _ HS.o (Below.drew (Below.refl _ _)),Below.drew (Below.refl _ _),Nat.le_refl _⟩
 refine zV 10 (λW'=>Below w101.heap.size w101 W') (λ_ _ _=>True) [] (λW'=>(((Below w.heap.size w W'/\w.heap.size<=W'.heap.size)/\jh W' X3 24 #[.int .i64 xd,.slice A xt.length c])/\jh W' X4 26 #[.int .i64 ld,.slice A1 lt.length c1,.int .i64 hd,.slice A2 ht.length c2])/\(Below w101.heap.size w101 W'/\w101.heap.size<=W'.heap.size)) (by kernel_rfl)
  (Floats.of (by decide +kernel) (λc a d v w=>by cases d<;>exact Iff.rfl) (by intro i hi;cases hi) (λ_ _ _ _ _ _=>trivial))
  (λ_ _ _ h=>h) (by decide) HGd.o (λW h=>h.2.1) (λHFL=>?_)
 refine jst 0 HFL (λW h=>h.2.1) ?_ ?_ ?_
 rotate_left 1
 focus(intro W hF;have hF:=hF (by decide +kernel);have e1:=(hF.cell (p:=⟨X3,0,none⟩) h3).trans z0;have e2:=(hF.cell (p:=⟨X3,1,none⟩) h3).trans z1;clear hF;go_simp;try with_reducible rfl)
 (try simp only[Act.put,lA,lB,lC])
 refine jst 2 HFL (λW h=>h.2.1) ?_ ?_ ?_
 rotate_left 1
 focus(intro W hF;have hF:=hF (by decide +kernel);have e1:=(hF.cell (p:=⟨X4,0,none⟩) h4).trans y0;have e2:=(hF.cell (p:=⟨X4,1,none⟩) h4).trans y1;have e3:=(hF.cell (p:=⟨X4,2,none⟩) h4).trans y2;have e4:=(hF.cell (p:=⟨X4,3,none⟩) h4).trans y3;clear hF;go_simp;try with_reducible rfl)
 (try simp only[Act.put,lA,lB,lC])
 refine jsq 4 HFL (λW h=>h.2.1) ?_ ?_ ?_
 rotate_left 1
 focus(intro;go_simp;try with_reducible rfl)
 (try simp only[Act.put,lA,lB,lC])
 refine jg.on 1 (λx:Sl=>.agg #[.int .i64 xd,.slice x.1 x.2.1 x.2.2]) (λx W=>zf3 0 x xt W) rfl rfl HFL (by decide +kernel) (λW h=>h.2.1) (λW hG K' hK=>?_) (λx1 hF1=>?_)
 focus
  have HC:=ja (HOX.o W hG.1.1.1.1 hG.1.1.1.2)
  clear hG
  go_simp
  go_wp2_with (first
   | (go_at_call 10;refine HC.o.mono ?_;rintro e w6 ⟨A,n,c,rfl,ho,hb⟩
      have HO:=ja (jO ho (Nat.zero_le _));have HBB:=ja hb;clear ho hb))
  exact hK.out (A,n,c) _ HO.o HBB.o
 (try simp only[Act.put,lA,lB,lC])
 refine jg.on 3 (λx:Sl×Sl=>.agg #[.int .i64 ld,.slice x.1.1 x.1.2.1 x.1.2.2,.int .i64 hd,.slice x.2.1 x.2.2.1 x.2.2.2]) (λx W=>PiIs w ld lt hd ht x W) rfl rfl HFL (by decide +kernel) hF1 (λW hG K' hK=>?_) (λx3 hF3=>?_)
 focus
  have HC:=ja (HOP.o W hG.1.1.1.1.1 hG.1.1.1.1.2)
  clear hG
  go_simp
  go_wp2_with (first
   | (go_at_call 11;refine HC.o.mono ?_;rintro e w6 ⟨Aa,na,ca,Ab,nb,cb,rfl,ta,tb,hb⟩
      have HTA:=ja ta;have HTB:=ja tb
      have HBB:=ja hb;clear ta tb hb))
  exact hK.out ((Aa,na,ca),(Ab,nb,cb)) _ ⟨HTA.o,HTB.o⟩ HBB.o
 (try simp only[Act.put,lA,lB,lC])
 refine jg.on 5 (λx:Int×Int×Int=>.tuple #[.int .i64 x.1,.int .i64 x.2.1,.int .i64 x.2.2]) (λx W=>zv4 (xd,xt) (ld,lt) (hd,ht) den x.1 x.2.1 x.2.2) rfl rfl HFL (by decide +kernel) hF3 (λW hG K' hK=>?_) (λx5 hF5=>?_)
 focus
  have HC:=ja (jag1 xd x1.1 x1.2.1 x1.2.2 xt ld x3.1.1 x3.1.2.1 x3.1.2.2 lt hd x3.2.1 x3.2.2.1 x3.2.2.2 ht den W.heap.size W (ZF hG.1.2) (ZF hG.2.1) (ZF hG.2.2) (Nat.le_refl _))
  clear hG
  go_simp
  go_wp2_with (first
   | (go_at_call 13;refine HC.o.mono ?_;rintro e w6 ⟨low,high,cc,rfl,hr,hb⟩
      have HR:=ja hr
      have HBB:=ja hb;clear hr hb))
  exact hK.out (low,high,cc) _ HR.o HBB.o
 (try simp only[Act.put,lA,lB,lC])
 refine jg.fin rfl hF5 (λV7 hG jb=>?_)
 have HS0:=ja hG.1.1.1.1
 have HR:=ja hG.2
 clear hG HGd HFL hF1 hF3 hF5 HS z0 z1 y0 y1 y2 y3 h3 h4
 have HS:=ja HS0.o
 clear HS0
 refine jc 6 rfl (by decide +kernel) (λc a w h=>by first|exact h|(cases h;done)) (by rfl) (v:=?_) ?_ jb (λjd=>?_)
 rotate_left 1
 focus (intro w' hSw;clear hSw;go_simp;try with_reducible rfl)
 clear jb
 rename jf _ _ _ _ _ _ _=>jb
 (try simp only[Act.put,lA,lB,lC])
 refine jc 7 rfl (by decide +kernel) (λc a w h=>by first|exact h|(cases h;done)) (by rfl) (v:=?_) ?_ jb (λjd=>?_)
 rotate_left 1
 focus (intro w' hSw;clear hSw;go_simp;try with_reducible rfl)
 clear jb
 rename jf _ _ _ _ _ _ _=>jb
 (try simp only[Act.put,lA,lB,lC])
 refine jc 8 rfl (by decide +kernel) (λc a w h=>by first|exact h|(cases h;done)) (by rfl) (v:=?_) ?_ jb (λjd=>?_)
 rotate_left 1
 focus (intro w' hSw;clear hSw;go_simp;try with_reducible rfl)
 clear jb
 rename jf _ _ _ _ _ _ _=>jb
 (try simp only[Act.put,lA,lB,lC])
 refine jc 9 rfl (by decide +kernel) (λc a w h=>by first|exact h|(cases h;done)) (by rfl) (v:=?_) ?_ jb (λjd=>?_)
 rotate_left 1
 focus (intro w' hSw;clear hSw;go_simp;try with_reducible rfl)
 clear jb
 rename jf _ _ _ _ _ _ _=>jb
 (try simp only[Act.put,lA,lB,lC])
 refine je 10 rfl (by decide +kernel) (λK hK=>?_)
 go_simp
 refine hK.out _ _ ⟨trivial,λh=>absurd h (by decide +kernel),λ_=>trivial⟩ (λjb=>?_)
 clear hK K
 (try simp only[Act.put,lA,lB,lC])
 refine jc 11 rfl (by decide +kernel) (λc a w h=>by first|exact h|(cases h;done)) (by rfl) (v:=?_) ?_ jb (λjd=>?_)
 rotate_left 1
 focus (intro w' hSw;clear hSw;go_simp;try with_reducible rfl)
 clear jb
 rename jf _ _ _ _ _ _ _=>jb
 (try simp only[Act.put,lA,lB,lC])
 refine jc 12 rfl (by decide +kernel) (λc a w h=>by first|exact h|(cases h;done)) (by rfl) (v:=?_) ?_ jb (λjd=>?_)
 rotate_left 1
 focus (intro w' hSw;clear hSw;go_simp;try with_reducible rfl)
 clear jb
 rename jf _ _ _ _ _ _ _=>jb
 (try simp only[Act.put,lA,lB,lC])
 refine jl (by decide +kernel) ?_
 clear jb
 try clear jb
 obtain⟨g2l,g2h,g2c⟩:=x5
 dsimp only at HR
 have HR1:=ja HR.o
 clear HR
 go_upto_region 8 with fail
 obtain⟨z0,z1,_,_⟩:=(HS.o.1.2).two
 obtain⟨y0,y1,y2,y3⟩:=(HS.o.2).four
 go_upto_region 9 with(first
  | (go_at_call 12;refine(jcz3 xd A xt.length c xt ld A1 lt.length c1 lt hd A2 ht.length c2 ht den V7 (Rq.more (HPX.o _ HS.o.1.1.1) HS.o.1.1.2) (Rq.more (HPL.o _ HS.o.1.1.1) HS.o.1.1.2) (Rq.more (HPH.o _ HS.o.1.1.1) HS.o.1.1.2)).mono ?_;rintro e w102 ⟨a2,b2,d2,rfl,hr,hb⟩
     have HS_0:=ja (Kept.keep (S:=λW=>(((Below w.heap.size w W/\w.heap.size<=W.heap.size)/\jh W X3 24 #[.int .i64 xd,.slice A xt.length c])/\jh W X4 26 #[.int .i64 ld,.slice A1 lt.length c1,.int .i64 hd,.slice A2 ht.length c2])) _ _ HS.o hb)
     obtain⟨rfl,rfl,rfl⟩:=jdd3 HR1.o hr
     clear hr
     clear hb))
 clear z0 z1 y0 y1 y2 y3 HR1
 have HS0:=ja HS_0.o
 clear HS
 have HS:=ja HS0.o
 clear HS0
 try clear HS_0
 have HBk:=ja HS.o.1.1
 go_wp2_with (first
  | (go_at_call 8;refine(HK.o _ HBk.o.1).mono ?_;rintro e wz ⟨rfl,hbz⟩
     have HBe:=ja (HBk.o.1.trans (hbz.mono HBk.o.2))
     clear hbz))
 all_goals
  go_ret
  exact⟨rfl,HBe.o⟩
