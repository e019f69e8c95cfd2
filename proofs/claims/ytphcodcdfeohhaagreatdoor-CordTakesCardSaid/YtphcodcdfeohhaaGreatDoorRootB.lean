import Derived.Test.YtphcodcdfeohhaaGreatDoorRootAToProdB
set_option linter.all false
namespace Go.Proofs.YtphcodcdfeohhaaGreatDoor
set_option maxRecDepth 100000
set_option maxHeartbeats 8000000
open Go.RowKit
def jcd2(xd a b r:Int):Int×List (Int×Int)×Int:=
 if((isq (a*a-b*b*r).toNat*isq (a*a-b*b*r).toNat:Nat):Int)=a*a-b*b*r then
  jY (Jc (Jc [] (a+isq (a*a-b*b*r).toNat) (2*xd) 1) (a-isq (a*a-b*b*r).toNat) (2*xd) (if b<0 then -1 else 1)) (2*xd)
 else(0,[],11)
def zd2(xd:Int)(xt:List (Int×Int)):Int×List (Int×Int)×Int:=
 match xt with
 | [t]=>if t.2=1 then jY (Jc [] t.1 xd 1) xd else(0,[],11)
 | [t,u]=>if t.2=1 then jcd2 xd t.1 u.1 u.2 else(0,[],11)
 | _=>(0,[],11)
def qI(xd:Int)(xt:List (Int×Int))(res:Int×List (Int×Int)×Int):Prop:=
 (js xd xt=false/\res=(0,[],2))\/(js xd xt=true/\∃s,jA xt s/\((s<0/\res=(0,[],3))\/(s=0/\res=(1,[],0))\/(0<s/\res=zd2 xd xt)))
theorem jck4{cb:Int}(h:cb<0)(h2:-100000<=cb):wrap64 (1-wrap64 (2*wrap64 (IntKind.u64.wrap cb/9223372036854775808)))=-1:=by
 have h1:IntKind.u64.wrap cb/9223372036854775808=1:=by
  rw[IntKind.wrap_u64];omega
 rw[h1];unfold wrap64;omega
theorem zv6(ad:Addr):ad.add 0=ad:=by unfold Addr.add;simp
theorem jA.pos_ne{xt:List (Int×Int)}{s:Int}(h:jA xt s)(hs:0<s):xt≠[]:=by
 rintro rfl
 rcases h with⟨_,h⟩|⟨h,_⟩
 ·omega
 ·exact h rfl
theorem jf5{kv:List (Int×Int)}{M num den sign:Int}(h:zB kv M)(hd:1<=den/\den<=200000)(hn:-200000<=num/\num<=200000)(hs:-1<=sign/\sign<=1):zB (Jc kv num den sign) (M+40000000000):=by
 unfold Jc
 split
 ·rename_i hp
  have hm:=jE (a:=num) (b:=den) (A:=200000) (B:=200000) hn ⟨by omega,by omega⟩
  have hm1:(1:Int)*1<=num*den:=Int.mul_le_mul (by omega) (by omega) (by omega) (by omega)
  have hle:=za7 (num*den).toNat (by omega)
  have hmm:=jE (a:=sign) (b:=((jo (num*den).toNat).1:Int)) (A:=1) (B:=40000000000) (by omega) ⟨by omega,by omega⟩
  exact h.addS (by omega) _
 ·exact h.mono (by omega)
theorem QM(kv:List (Int×Int))(num den sign:Int):(Jc kv num den sign).length<=kv.length+1:=by
 unfold Jc
 split
 ·exact jd4 _ _ _
 ·omega
theorem jbg9 {w w5 w6:World} {m n c:Nat} {A:Option Addr} {l:List (Int×Int)} {s1:Int} (ht:w6.ownsRow w5.heap.size 59 2 (.slice A n c) n (jr l)) (hb:Below w.heap.size w w5) (hg:w5.grownBy w6 (some m))
  (hr:jh w5 (w.heap.size+1) 24 #[.int .i64 0,.slice none 0 0]) (hm:w.heap.size+1<m) :
  ((w6.setCell ⟨w.heap.size+1,0,none⟩ (.int .i64 s1)).setCell ⟨w.heap.size+1,1,none⟩ (.slice A n c)).ownsRow w.heap.size 59 2 (.slice A n c) n (jr l) /\
  Below w.heap.size w ((w6.setCell ⟨w.heap.size+1,0,none⟩ (.int .i64 s1)).setCell ⟨w.heap.size+1,1,none⟩ (.slice A n c)) /\
  jh ((w6.setCell ⟨w.heap.size+1,0,none⟩ (.int .i64 s1)).setCell ⟨w.heap.size+1,1,none⟩ (.slice A n c)) (w.heap.size+1) 24 #[.int .i64 s1,.slice A n c]:=by
 have hrl:=hr.lt
 have hbz:=hb.size
 refine⟨jO (ownsRow_setCell_below (ownsRow_setCell_below ht (by show w.heap.size+1<_;omega) _) (by show w.heap.size+1<_;omega) _) hbz,?_,((hr.grown hg (by simp;omega)).set_ 0 _).set_ 1 _⟩
 exact Below.setCell (Below.setCell (hb.grown hg hbz (λ_ e=>by cases e;omega)) (by show _<=w.heap.size+1;omega) _) (by show _<=w.heap.size+1;omega) _
theorem jbr8 (xd:Int) (xA:Option Addr) (xn xc:Nat) (xt:List (Int×Int)) (B:Nat) (w:World) (hx:ji w B xA xn xc xt) (hB:B<=w.heap.size) :
  Calls Tryz.prog 26 #[.agg #[.int .i64 xd,.slice xA xn xc]] w λe w'=>∃res,qI xd xt res/\jV w res e w':=by
 obtain⟨w0,hw0⟩:∃w0,w0=(w.alloc (.cells #[.int .i64 xd,.slice xA xn xc] 24)).alloc (.cells #[.int .i64 0,.slice none 0 0] 24):=⟨_,rfl⟩
 have hz0:w0.heap.size=w.heap.size+2:=by rw[hw0];simp
 have h01:Below w.heap.size w w0:=by rw[hw0];exact((Below.refl _ _).alloc (Nat.le_refl _) _).alloc (by simp) _
 have HX0:Hid (jh w0 w.heap.size 24 #[.int .i64 xd,.slice xA xn xc]):=ja (by rw[hw0];exact(jh.new w _ _).alloc _)
 have HR0:Hid (jh w0 (w.heap.size+1) 24 #[.int .i64 0,.slice none 0 0]):=ja (by
  rw[hw0]
  have h:=jh.new (w.alloc (.cells #[.int .i64 xd,.slice xA xn xc] 24)) 24 #[.int .i64 0,.slice none 0 0]
  rwa [World.size_alloc] at h)
 have HT0:=ja (Rd.below hx (h01.mono hB))
 have hxl:=hx.len
 subst hxl
 have HSG:=ja (za5 xd xA xt.length xc xt B w0 HT0.o (by omega))
 obtain⟨x0,x1,_,_⟩:=HX0.o.two
 have HB0:=ja h01
 clear hx h01
 go_enter Tryz.func26,Tryz.ntmps26
 go_wp2_with fail
 rw[<-hw0]
 clear hw0
 refine HSG.o.mono ?_
 rintro e w1 ⟨s,cd,rfl,hsr,hb1⟩
 have HX1:=ja (HX0.o.below hb1 (by omega))
 have HR1:=ja (HR0.o.below hb1 (by omega))
 have HT1:Hid (ji w1 B xA xt.length xc xt):=ja (Rd.below HT0.o (hb1.mono (by omega)))
 have HB1:=ja (HB0.o.trans (hb1.mono (by omega)))
 have hz1:w.heap.size+2<=w1.heap.size:=by have:=hb1.size;omega
 clear HX0 HR0 HT0 HB0 HSG hb1 hz0 x0 x1
 obtain⟨r0,r1,rf0,rf1⟩:=HR1.o.two
 obtain⟨x0,x1,_,_⟩:=HX1.o.two
 have hpost:∀(W:World) (a:Act) (A:Option Addr) (n c:Nat) (x y:Int) (l:List (Int×Int)),qI xd xt (x,l,y)->W.ownsRow w.heap.size 59 2 (.slice A n c) n (jr l)->Below w.heap.size w W->jh W (w.heap.size+1) 24 #[.int .i64 x,.slice A n c] ->
   a.tmps.getD 2 undef=.pointer (some ⟨w.heap.size+1,0,none⟩)->a.tmps.getD 3 undef=.int .i64 y->a.defers=[] ->
   bodyPost Tryz.prog Tryz.f26 (λe w'=>∃res,qI xd xt res/\jV w res e w') .ret a W:=by
  intro W a A n c x y l e1 e2 e3 e4 e5 e6 e7
  refine jq (p:=2) (u:=3) (ty:=24) rfl e5 e4 Tryz.underlying24 rfl Tryz.sizeNumber e7 ?_
  rw[e6]
  exact⟨(x,l,y),e1,A,n,c,rfl,e2,e3⟩
 have HPOST:=ja hpost
 clear hpost
 have HBS:=ja (λx y=>Below.setCell (Below.setCell HB1.o (p:=⟨w.heap.size+1,0,none⟩) (by simp) x) (p:=⟨w.heap.size+1,1,none⟩) (by simp) y)
 rcases hsr with⟨hok,hs,rfl⟩|⟨hok,rfl,rfl⟩
 ·rcases Int.lt_trichotomy s 0 with hs0|hs0|hs0
  ·have HP:Hid (qI xd xt (0,[],3)):=ja (.inr ⟨hok,s,hs,.inl ⟨hs0,rfl⟩⟩)
   clear hok hs
   go_wp2
   exact HPOST.o _ _ none 0 0 0 3 [] HP.o ⟨rfl,.inl ⟨rfl,rfl⟩⟩ (HBS.o _ _) ((HR1.o.set_ 0 _).set_ 1 _) rfl rfl rfl
  ·subst hs0
   have HP:Hid (qI xd xt (1,[],0)):=ja (.inr ⟨hok,0,hs,.inr (.inl ⟨rfl,rfl⟩)⟩)
   clear hok hs
   go_wp2
   exact HPOST.o _ _ none 0 0 1 0 [] HP.o ⟨rfl,.inl ⟨rfl,rfl⟩⟩ (HBS.o _ _) ((HR1.o.set_ 0 _).set_ 1 _) rfl rfl rfl
  ·have HP:=ja (λ(res:Int×List (Int×Int)×Int) (h:zd2 xd xt=res)=>(show qI xd xt res from .inr ⟨hok,s,hs,.inr (.inr ⟨hs0,h.symm⟩)⟩))
   have hne:=hs.pos_ne hs0
   have hs1:¬s<0:=by omega
   have hs2:(s==0)=false:=beq_eq_false_iff_ne.2 (by omega)
   obtain⟨px1,px2,px3,px4⟩:=jz hok
   have HPX:=ja px4
   clear hok hs px4
   obtain⟨t,ts,rfl⟩:=List.exists_cons_of_ne_nil hne
   clear hne
   obtain⟨ad,had,hc0,hc1⟩:=HT1.o.at_ (i:=0) (by simp)
   subst had
   obtain⟨co,ro⟩:=t
   simp only[Nat.zero_mul,List.getElem_cons_zero,zv6] at hc0 hc1
   have hlen1:((co,ro)::ts).length=ts.length+1:=rfl
   by_cases hr1:ro=1
   ·subst hr1
    have hcb:-100000<=co/\co<=100000:=(HPX.o (co,1) (by simp)).1.2.2.2
    have HM1:Hid (zH (w1.alloc (.map #[] 0)) w1.heap.size []):=ja (jt.new w1)
    have HXm:=ja (HX1.o.alloc (.map #[] 0))
    have HRm:=ja (HR1.o.alloc (.map #[] 0))
    have HBm:=ja (HB1.o.alloc HB1.o.size (.map #[] 0))
    have HTm:=ja (Rd.alloc HT1.o (by omega) (.map #[] 0))
    have hxm:∀o,(w1.alloc o).cell? ⟨w.heap.size,0,none⟩=some (.int .i64 xd):=λo=>(HX1.o.alloc o).cell 0
    have hxm1:∀o,(w1.alloc o).cell? ⟨w.heap.size,1,none⟩=some (.slice (some ad) ((co,1)::ts).length xc):=λo=>(HX1.o.alloc o).cell 1
    rcases ts with _|⟨u,_|⟨v,vs⟩⟩
    ·have hl1:([(co,(1:Int))]:List (Int×Int)).length=1:=rfl
     have hP1:zd2 xd [(co,1)]=jY (Jc [] co xd 1) xd:=by unfold zd2;simp
     have hib:=jf5 (num:=co) (den:=xd) (sign:=1) zB.nil (by omega) (by omega) (by omega)
     have hil:=QM [] co xd 1
     have HIN:=ja (jf6 w1.heap.size [] co xd 1 (w1.alloc (.map #[] 0)) HM1.o (by omega) (by omega) (by omega) (λr=>by have:=zB.nil r;omega))
     have HOV:=ja (λW h=>QO w1.heap.size (Jc [] co xd 1) xd 40000000000 W h (by simp at hil;omega) (by omega) (by omega) (hib.mono (by omega)) (by omega))
     clear hib hil
     generalize Jc [] co xd 1=kv1 at *
     generalize hsv:jY kv1 xd=sv at *
     obtain⟨s1,s2,s3⟩:=sv
     have HSV:=ja (HP.o (s1,s2,s3) hP1)
     clear hsv hP1 HP HPX
     go_wp2_with (first
      | (refine zi _ rfl _ rfl ?_)
      | (go_at_call 65;refine HIN.o.mono ?_;rintro e w3 ⟨rfl,hm3,hg3⟩
         have HX3:=ja (HXm.o.grown hg3 (by simp;omega));have HR3:=ja (HRm.o.grown hg3 (by simp;omega));have HB3:=ja (HBm.o.grown hg3 (by simp;omega) (λ_ e=>by cases e;omega))
         have HOV3:=ja (HOV.o w3 hm3)
         obtain⟨c30,c31,_,_⟩:=HX3.o.two
         have hz3:w1.heap.size+1<=w3.heap.size:=by have:=hg3.size;simpa using this
         clear hm3 hg3)
      | (go_at_call 64;refine HOV3.o.mono ?_;rintro e w4 ⟨A4,n4,c4,rfl,ht4,hg4⟩
         obtain⟨q1,q2,q3,q4⟩:=(HR3.o.grown hg4 (by simp;omega)).two
         have HG4:=ja hg4;have HT4:=ja ht4;clear hg4 ht4))
     have hw4:=HG4.o.size
     exact HPOST.o _ _ A4 n4 c4 s1 s3 s2 HSV.o (jO (ownsRow_setCell_below (ownsRow_setCell_below HT4.o (by show w.heap.size+1<_;omega) _) (by show w.heap.size+1<_;omega) _) (by omega))
      (Below.setCell (Below.setCell (HB3.o.grown HG4.o (by omega) (λ_ e=>by cases e;omega)) (by show _<=w.heap.size+1;omega) _) (by show _<=w.heap.size+1;omega) _) (((HR3.o.grown HG4.o (by simp;omega)).set_ 0 _).set_ 1 _) rfl rfl rfl
    ·have hub:=(HPX.o u (by simp)).1
     have hl2:(((co,(1:Int))::u::[]).length:Int)=2:=rfl
     have hP2:zd2 xd [(co,1),u]=jcd2 xd co u.1 u.2:=by unfold zd2;simp
     obtain⟨wm,hwm⟩:∃wm,wm=w1.alloc (.map #[] 0):=⟨_,rfl⟩
     rw[<-hwm] at HM1 HXm HRm HBm HTm
     have hzm:wm.heap.size=w1.heap.size+1:=by rw[hwm];simp
     have HTM:Hid (ji wm B (some ad) ((co,(1:Int))::u::[]).length xc ((co,1)::u::[])):=HTm
     obtain⟨ad2,had2,hd0,hd1⟩:=HTM.o.at_ (i:=1) (by simp)
     injection had2 with had2
     subst had2
     simp only[List.getElem_cons_succ,List.getElem_cons_zero,Nat.one_mul] at hd0 hd1
     rw[show ad.add 2=⟨ad.block,ad.off+2,none⟩ by unfold Addr.add;simp] at hd0 hd1
     dsimp only at hd0 hd1
     obtain⟨cb,rb⟩:=u
     have hbb:-100000<=cb/\cb<=100000:=hub.2.2.2
     have hrb:1<=rb/\rb<=1000:=⟨hub.1,hub.2.1⟩
     dsimp only at hd0 hd1 hP2
     have m1:=jE hcb hcb
     have m2:=jE hbb hbb
     have m3:=jE m2 (b:=rb) (B:=1000) ⟨by omega,by omega⟩
     have m4:0<=cb*cb*rb:=Int.mul_nonneg (by rcases Int.le_total 0 cb with h|h;exact Int.mul_nonneg h h;exact Int.mul_nonneg_of_nonpos_of_nonpos h h) (by omega)
     unfold jcd2 at hP2
     obtain⟨sq,hsq⟩:∃sq,co*co-cb*cb*rb=sq:=⟨_,rfl⟩
     have hsb:-20000000000000<=sq/\sq<=10000000000:=by omega
     rw[hsq] at hP2
     have hp1:-9000000000000000000<=co*co/\co*co<=9000000000000000000:=by omega
     have hp2:-9000000000000000000<=cb*cb/\cb*cb<=9000000000000000000:=by omega
     have hp3:-9000000000000000000<=cb*cb*rb/\cb*cb*rb<=9000000000000000000:=by omega
     have hmx:max sq 0=((sq.toNat:Nat):Int):=by omega
     have HWH:=ja (λW=>jbt8 sq.toNat W (by omega))
     have hiw:=qB sq.toNat
     have hwl:isq sq.toNat<=100000:=by
      rcases Nat.lt_or_ge 100000 (isq sq.toNat)with h|h
      ·have:=Nat.mul_le_mul h h;omega
      ·exact h
     have hww:=Nat.mul_le_mul hwl hwl
     have hcw:((isq sq.toNat:Nat):Int)*((isq sq.toNat:Nat):Int)=((isq sq.toNat*isq sq.toNat:Nat):Int):=(Int.natCast_mul _ _).symm
     obtain⟨wa,hwa⟩:∃wa,wa=wm.alloc (.cells #[.int .i64 cb,.int .i64 rb] 59):=⟨_,rfl⟩
     have hza:wa.heap.size=w1.heap.size+2:=by rw[hwa];simp;omega
     have hba:Below wm.heap.size wm wa:=by rw[hwa];exact(Below.refl _ _).alloc (Nat.le_refl _) _
     have HTa:Hid (jh wa (w1.heap.size+1) 59 #[.int .i64 cb,.int .i64 rb]):=ja (by rw[hwa,<-hzm];exact jh.new _ _ _)
     have HMa:Hid (zH wa w1.heap.size []):=ja (jt.below HM1.o hba (by omega))
     have HXa:=ja (HXm.o.below hba (by omega))
     have HRa:=ja (HRm.o.below hba (by omega))
     have HBa:=ja (HBm.o.trans (hba.mono (by omega)))
     have hX2:=ja (λq=>(HXa.o.drewN q).two)
     have hT2:=ja (λq=>(HTa.o.drewN q).two)
     clear hub m1 m2 m3 m4 HXm HRm HBm HTm HTM HM1 hba hiw HPX
     generalize isq sq.toNat=rw at *
     subst hwa
     subst hwm
     by_cases hneg:sq<0
     ·have hm0:sq.toNat=0:=by omega
      rw[hm0] at HWH
      have hc:¬((rw*rw:Nat):Int)=sq:=by omega
      rw[if_neg hc] at hP2
      have HPE:=ja (HP.o _ hP2)
      have hcn:(((rw*rw:Nat):Int) !=sq)=true:=by simpa using hc
      have HRz:=ja (λq=>HRa.o.drewN q)
      have HBz:=ja (λq=>jp HBa.o q)
      have hr4:=ja (λq=>(HRa.o.drewN q).two)
      generalize rw*rw=rr at *
      clear HP hP2 hc HMa HXa hX2
      go_wp2_with (first
       | (refine zi _ rfl _ rfl ?_)
       | (go_at_call 66;refine(HWH.o _).mono ?_;rintro e w3 ⟨rfl,q,rfl⟩;obtain⟨z1,z2,z3,z4⟩:=hr4.o q))
      exact HPOST.o _ _ none 0 0 0 11 [] HPE.o ⟨rfl,.inl ⟨rfl,rfl⟩⟩ (Below.setCell (Below.setCell (HBz.o q) (p:=⟨w.heap.size+1,0,none⟩) (by simp) _) (p:=⟨w.heap.size+1,1,none⟩) (by simp) _) (((HRz.o q).set_ 0 _).set_ 1 _) rfl rfl rfl
     ·obtain⟨m,rfl⟩:=Int.eq_ofNat_of_zero_le (show 0<=sq by omega)
      rw[Int.toNat_natCast] at HWH
      have hm0:¬((m:Int)<0):=by omega
      by_cases hc:((rw*rw:Nat):Int)=(m:Int)
      ·rw[if_pos hc] at hP2
       have hne:(((rw*rw:Nat):Int) != (m:Int))=false:=by simpa using hc
       have hxx:2<=2*xd/\2*xd<=200000:=by omega
       by_cases hcb0:cb<0
       ·rw[if_pos hcb0] at hP2
        have hsg:=jck4 hcb0 (by omega)
        have hib1:=jf5 (num:=co+rw) (den:=2*xd) (sign:=1) zB.nil (by omega) (by omega) (by omega)
        have hil1:=QM [] (co+rw) (2*xd) 1
        have hib2:=jf5 (num:=co-rw) (den:=2*xd) (sign:=(-1)) hib1 (by omega) (by omega) (by omega)
        have hil2:=QM (Jc [] (co+rw) (2*xd) 1) (co-rw) (2*xd) (-1)
        have HIN1:=ja (λW h=>jf6 w1.heap.size [] (co+rw) (2*xd) 1 W h (by omega) (by omega) (by omega) (λr=>by have:=zB.nil r;omega))
        have HIN2:=ja (λW h=>jf6 w1.heap.size (Jc [] (co+rw) (2*xd) 1) (co-rw) (2*xd) (-1) W h (by omega) (by omega) (by omega) (λr=>by have:=hib1 r;omega))
        have HOV:=ja (λW h=>QO w1.heap.size (Jc (Jc [] (co+rw) (2*xd) 1) (co-rw) (2*xd) (-1)) (2*xd) 80000000000 W h (by simp at hil1;omega) (by omega) (by omega) (hib2.mono (by omega)) (by omega))
        clear hib1 hil1 hib2 hil2
        generalize Jc (Jc [] (co+rw) (2*xd) 1) (co-rw) (2*xd) (-1)=kv2 at *
        generalize Jc [] (co+rw) (2*xd) 1=kv1 at *
        generalize hsv:jY kv2 (2*xd)=sv at *
        obtain⟨s1,s2,s3⟩:=sv
        have HSV:=ja (HP.o (s1,s2,s3) hP2)
        clear hsv hP2 HP
        go_wp2_with (first
         | (refine zi _ rfl _ rfl ?_)
         | (go_at_call 66;refine(HWH.o _).mono ?_;rintro e w3 ⟨rfl,q,rfl⟩
            have HM3:Hid (zH ((((w1.alloc (.map #[] 0)).alloc (.cells #[.int .i64 cb,.int .i64 rb] 59))).drewN q) w1.heap.size []):=ja HMa.o
            have HX3:=ja (HXa.o.drewN q);have HT3:=ja (HTa.o.drewN q);have HR3:=ja (HRa.o.drewN q);have HB3:=ja (jp HBa.o q)
            have hz3:w1.heap.size+2<=((((w1.alloc (.map #[] 0)).alloc (.cells #[.int .i64 cb,.int .i64 rb] 59))).drewN q).heap.size:=by simp
            generalize (((w1.alloc (.map #[] 0)).alloc (.cells #[.int .i64 cb,.int .i64 rb] 59))).drewN q=W3 at *
            have HI3:=ja (HIN1.o W3 HM3.o)
            obtain⟨c30,c31,_,_⟩:=HX3.o.two
            obtain⟨c32,c33,_,_⟩:=HT3.o.two)
         | (go_at_call_of 65 (co+(rw:Int));refine HI3.o.mono ?_;rintro e w4 ⟨rfl,hm4,hg4⟩
            have HX4:=ja (HX3.o.grown hg4 (by simp;omega));have HT4:=ja (HT3.o.grown hg4 (by simp));have HR4:=ja (HR3.o.grown hg4 (by simp;omega));have HB4:=ja (HB3.o.grown hg4 HB3.o.size (λ_ e=>by cases e;omega))
            have hz4:=hg4.size
            have HI4:=ja (HIN2.o w4 hm4)
            obtain⟨c40,c41,_,_⟩:=HX4.o.two
            obtain⟨c42,c43,_,_⟩:=HT4.o.two
            clear hm4 hg4)
         | (go_at_call_of 65 (co-(rw:Int));refine HI4.o.mono ?_;rintro e w5 ⟨rfl,hm5,hg5⟩
            have HX5:=ja (HX4.o.grown hg5 (by simp;omega));have HR5:=ja (HR4.o.grown hg5 (by simp;omega));have HB5:=ja (HB4.o.grown hg5 HB4.o.size (λ_ e=>by cases e;omega))
            have hz5:=hg5.size
            have HO5:=ja (HOV.o w5 hm5)
            obtain⟨c50,c51,_,_⟩:=HX5.o.two
            clear hm5 hg5)
         | (go_at_call 64;refine HO5.o.mono ?_;rintro e w6 ⟨A4,n4,c4,rfl,ht6,hg6⟩
            obtain⟨q1,q2,q3,q4⟩:=(HR5.o.grown hg6 (by simp;omega)).two
            have HG6:=ja hg6;have HT6:=ja ht6;clear hg6 ht6))
        have hfin:=jbg9 (s1:=s1) HT6.o HB5.o HG6.o HR5.o (by omega)
        exact HPOST.o _ _ A4 n4 c4 s1 s3 s2 HSV.o hfin.1 hfin.2.1 hfin.2.2 rfl rfl rfl
       ·rw[if_neg hcb0] at hP2
        have hcb1:0<=cb:=by omega
        have hsg:1-2*(cb/9223372036854775808)=1:=by omega
        have hib1:=jf5 (num:=co+rw) (den:=2*xd) (sign:=1) zB.nil (by omega) (by omega) (by omega)
        have hil1:=QM [] (co+rw) (2*xd) 1
        have hib2:=jf5 (num:=co-rw) (den:=2*xd) (sign:=1) hib1 (by omega) (by omega) (by omega)
        have hil2:=QM (Jc [] (co+rw) (2*xd) 1) (co-rw) (2*xd) 1
        have HIN1:=ja (λW h=>jf6 w1.heap.size [] (co+rw) (2*xd) 1 W h (by omega) (by omega) (by omega) (λr=>by have:=zB.nil r;omega))
        have HIN2:=ja (λW h=>jf6 w1.heap.size (Jc [] (co+rw) (2*xd) 1) (co-rw) (2*xd) 1 W h (by omega) (by omega) (by omega) (λr=>by have:=hib1 r;omega))
        have HOV:=ja (λW h=>QO w1.heap.size (Jc (Jc [] (co+rw) (2*xd) 1) (co-rw) (2*xd) 1) (2*xd) 80000000000 W h (by simp at hil1;omega) (by omega) (by omega) (hib2.mono (by omega)) (by omega))
        clear hib1 hil1 hib2 hil2
        generalize Jc (Jc [] (co+rw) (2*xd) 1) (co-rw) (2*xd) 1=kv2 at *
        generalize Jc [] (co+rw) (2*xd) 1=kv1 at *
        generalize hsv:jY kv2 (2*xd)=sv at *
        obtain⟨s1,s2,s3⟩:=sv
        have HSV:=ja (HP.o (s1,s2,s3) hP2)
        clear hsv hP2 HP
        go_wp2_with (first
         | (refine zi _ rfl _ rfl ?_)
         | (go_at_call 66;refine(HWH.o _).mono ?_;rintro e w3 ⟨rfl,q,rfl⟩
            have HM3:Hid (zH ((((w1.alloc (.map #[] 0)).alloc (.cells #[.int .i64 cb,.int .i64 rb] 59))).drewN q) w1.heap.size []):=ja HMa.o
            have HX3:=ja (HXa.o.drewN q);have HT3:=ja (HTa.o.drewN q);have HR3:=ja (HRa.o.drewN q);have HB3:=ja (jp HBa.o q)
            have hz3:w1.heap.size+2<=((((w1.alloc (.map #[] 0)).alloc (.cells #[.int .i64 cb,.int .i64 rb] 59))).drewN q).heap.size:=by simp
            generalize (((w1.alloc (.map #[] 0)).alloc (.cells #[.int .i64 cb,.int .i64 rb] 59))).drewN q=W3 at *
            have HI3:=ja (HIN1.o W3 HM3.o)
            obtain⟨c30,c31,_,_⟩:=HX3.o.two
            obtain⟨c32,c33,_,_⟩:=HT3.o.two)
         | (go_at_call_of 65 (co+(rw:Int));refine HI3.o.mono ?_;rintro e w4 ⟨rfl,hm4,hg4⟩
            have HX4:=ja (HX3.o.grown hg4 (by simp;omega));have HT4:=ja (HT3.o.grown hg4 (by simp));have HR4:=ja (HR3.o.grown hg4 (by simp;omega));have HB4:=ja (HB3.o.grown hg4 HB3.o.size (λ_ e=>by cases e;omega))
            have hz4:=hg4.size
            have HI4:=ja (HIN2.o w4 hm4)
            obtain⟨c40,c41,_,_⟩:=HX4.o.two
            obtain⟨c42,c43,_,_⟩:=HT4.o.two
            clear hm4 hg4)
         | (go_at_call_of 65 (co-(rw:Int));refine HI4.o.mono ?_;rintro e w5 ⟨rfl,hm5,hg5⟩
            have HX5:=ja (HX4.o.grown hg5 (by simp;omega));have HR5:=ja (HR4.o.grown hg5 (by simp;omega));have HB5:=ja (HB4.o.grown hg5 HB4.o.size (λ_ e=>by cases e;omega))
            have hz5:=hg5.size
            have HO5:=ja (HOV.o w5 hm5)
            obtain⟨c50,c51,_,_⟩:=HX5.o.two
            clear hm5 hg5)
         | (go_at_call 64;refine HO5.o.mono ?_;rintro e w6 ⟨A4,n4,c4,rfl,ht6,hg6⟩
            obtain⟨q1,q2,q3,q4⟩:=(HR5.o.grown hg6 (by simp;omega)).two
            have HG6:=ja hg6;have HT6:=ja ht6;clear hg6 ht6))
        have hfin:=jbg9 (s1:=s1) HT6.o HB5.o HG6.o HR5.o (by omega)
        exact HPOST.o _ _ A4 n4 c4 s1 s3 s2 HSV.o hfin.1 hfin.2.1 hfin.2.2 rfl rfl rfl
      ·rw[if_neg hc] at hP2
       have HPE:=ja (HP.o _ hP2)
       have hcn:(((rw*rw:Nat):Int) != (m:Int))=true:=by simpa using hc
       have HRz:=ja (λq=>HRa.o.drewN q)
       have HBz:=ja (λq=>jp HBa.o q)
       have hr4:=ja (λq=>(HRa.o.drewN q).two)
       generalize rw*rw=rr at *
       clear HP hP2 hc HMa HXa hX2
       go_wp2_with (first
        | (refine zi _ rfl _ rfl ?_)
        | (go_at_call 66;refine(HWH.o _).mono ?_;rintro e w3 ⟨rfl,q,rfl⟩;obtain⟨z1,z2,z3,z4⟩:=hr4.o q))
       exact HPOST.o _ _ none 0 0 0 11 [] HPE.o ⟨rfl,.inl ⟨rfl,rfl⟩⟩ (Below.setCell (Below.setCell (HBz.o q) (p:=⟨w.heap.size+1,0,none⟩) (by simp) _) (p:=⟨w.heap.size+1,1,none⟩) (by simp) _) (((HRz.o q).set_ 0 _).set_ 1 _) rfl rfl rfl
    ·have HPE:=ja (HP.o (0,[],11) rfl)
     have hl3:(2:Int)<(((co,(1:Int))::u::v::vs).length:Int):=by simp;omega
     clear HP
     generalize ((co,(1:Int))::u::v::vs).length=len at *
     go_wp2
     exact HPOST.o _ _ none 0 0 0 11 [] HPE.o ⟨rfl,.inl ⟨rfl,rfl⟩⟩ (HBS.o _ _) ((HR1.o.set_ 0 _).set_ 1 _) rfl rfl rfl
   ·have hrn:(ro !=1)=true:=by simpa using hr1
    have HPE:=ja (HP.o (0,[],11) (by
     unfold zd2
     match ts with
     | []=>exact if_neg hr1
     | [u]=>exact if_neg hr1
     | _::_::_=>rfl))
    clear HP
    go_wp2
    exact HPOST.o _ _ none 0 0 0 11 [] HPE.o ⟨rfl,.inl ⟨rfl,rfl⟩⟩ (HBS.o _ _) ((HR1.o.set_ 0 _).set_ 1 _) rfl rfl rfl
 ·have HP:Hid (qI xd xt (0,[],2)):=ja (.inl ⟨hok,rfl⟩)
  clear hok
  go_wp2
  exact HPOST.o _ _ none 0 0 0 2 [] HP.o ⟨rfl,.inl ⟨rfl,rfl⟩⟩ (HBS.o _ _) ((HR1.o.set_ 0 _).set_ 1 _) rfl rfl rfl
