import Derived.Test.YtphcodcdfeohhaaGreatDoorCordAToCordB
import Derived.Test.YtphcodcdfeohhaaGreatDoorWeakRToAppQ
import Derived.Test.YtphcodcdfeohhaaGreatDoorKnowToLawA
import Derived.Test.YtphcodcdfeohhaaGreatDoorTimAToAsyY
set_option linter.unusedVariables false
set_option linter.unusedSimpArgs false
namespace Go.Proofs.YtphcodcdfeohhaaGreatDoor
set_option maxRecDepth 100000
set_option maxHeartbeats 2000000
open Go.RowKit
def jn1(w:World)(B:Nat)(A:Option Addr)(n c:Nat)(l:List PieceV):Prop:=Rq w B 2 A n c (jb7 (l.map PieceV.enc))/\∀p∈l,zh7 w B p.A p.n p.c p.ms
section
variable {w w' : World} {B B' n c : Nat} {A : Option Addr} {l : List PieceV}
theorem jn1.of(h:jb6 w B A n c l):jn1 w B A n c l:=⟨Rq.of h.1,fun p hp=>Rq.of (h.2 p hp)⟩
theorem jn1.len(h:jn1 w B A n c l):l.length=n:=by
 have h1:=h.1.1
 rw[jz4,List.length_map] at h1
 omega
theorem jn1.below(h:jn1 w B A n c l)(hb:Below B w w'):jn1 w' B A n c l:=⟨h.1.below hb,fun p hp=>Rq.below (h.2 p hp) hb⟩
theorem jn1.more(h:jn1 w B A n c l)(hB:B<=B'):jn1 w B' A n c l:=⟨h.1.more hB,fun p hp=>Rq.more (h.2 p hp) hB⟩
theorem jn1.alloc(h:jn1 w B A n c l)(hB:B<=w.heap.size)(o:Obj):jn1 (w.alloc o) B A n c l:=⟨h.1.alloc hB o,fun p hp=>Rq.alloc (h.2 p hp) hB o⟩
theorem jn1.at_(h:jn1 w B A n c l){i:Nat}(hi:i<l.length):∃ad:Addr,A=some ad/\ad.block<B/\w.cell? (ad.add (i*2))=some (.bool l[i].minus)/\w.cell? ⟨(ad.add (i*2)).block,(ad.add (i*2)).off+1,none⟩=some (.slice l[i].A l[i].n l[i].c):=by
 obtain⟨ad,e,hb,h1,h2⟩:=jdh3 h.1 (i:=i) (by simpa using hi)
 simp only[List.getElem_map] at h1 h2
 exact⟨ad,e,hb,h1,h2⟩
end
theorem jbv2 (A:Option Addr) (n c:Nat) (xs:List Int) (A2:Option Addr) (n2 c2:Nat) (ys:List Int) (B:Nat) (w:World) (hx:zh7 w B A n c xs) (hy:zh7 w B A2 n2 c2 ys) (hB:B<=w.heap.size) :
  Calls Tryz.prog 24 #[.slice A n c,.slice A2 n2 c2] w fun e w'=>e=.returned (.bool (decide (xs=ys)))/\∃m,w'=w.drewN m:=by
 have hlx:=hx.len
 have hly:=hy.len
 subst hlx
 subst hly
 have hnx:=Rq.nmax hx
 have hny:=Rq.nmax hy
 have HTX:=ja0 hx
 have HTY:=ja0 hy
 clear hx hy
 go_enter Tryz.func24,Tryz.ntmps24
 by_cases hl:(xs.length:Int)=(ys.length:Int)
 ·go_wp2
  go_loopw [5] (fun i W=>∃(k:Nat),k<=xs.length/\i=.int .i64 k/\xs.take k=ys.take k/\∃q,W=w.drewN q) (fun i _=>xs.length-(intOf i).toNat)
  case atStart=>exact⟨0,by omega,rfl,rfl,0,rfl⟩
  case round=>
   obtain⟨k,hk,rfl,hpre,q,rfl⟩:=hrel
   have HPRE:=ja0 hpre
   have HTXq:Hid (zh7 (w.drewN q) B A xs.length c xs):=ja0 HTX.out
   have HTYq:Hid (zh7 (w.drewN q) B A2 ys.length c2 ys):=ja0 HTY.out
   have HBq:Hid (∃m,w.drewN q=w.drewN m):=ja0 ⟨q,rfl⟩
   have HDD:=ja0 (fun p=>dd w q p)
   clear hpre
   generalize w.drewN q=W at *
   by_cases hkl:(k:Int)<(xs.length:Int)
   ·have hk1:k<xs.length:=by omega
    have hk2:k<ys.length:=by omega
    obtain⟨ad,rfl,-,ha0⟩:=HTXq.out.at_ hk1
    obtain⟨ad2,rfl,-,hb0⟩:=HTYq.out.at_ hk2
    have hky:(k:Int)<(ys.length:Int):=by omega
    go_wp2
    have htk1:=List.take_succ_eq_append_getElem hk1
    have htk2:=List.take_succ_eq_append_getElem hk2
    by_cases heq:xs[k]=ys[k]
    ·have HTK:Hid (xs.take (k+1)=ys.take (k+1)):=ja0 (by rw[htk1,htk2,HPRE.out,heq])
     rw[heq] at ha0
     clear htk1 htk2 heq
     go_quiet (fail)
     go_wp2
     obtain⟨q2,hq2⟩:=HDD.out nq
     exact⟨⟨k+1,by omega,by go_num,HTK.out,q2,hq2⟩,by simp[intOf];omega⟩
    ·have HNE:=ja0 (show ¬xs=ys from fun e=>heq (by simp only[e]))
     clear htk1 htk2
     go_quiet (fail)
     go_wp2
     go_ret
     exact⟨by simp[HNE.out],HDD.out nq⟩
   ·obtain rfl:k=xs.length:=by omega
    go_wp2
    go_ret
    have hpre:=HPRE.out
    rw[List.take_of_length_le (Nat.le_refl _),List.take_of_length_le (by omega)] at hpre
    exact⟨by simp[hpre],HBq.out⟩
 ·go_wp2
  go_ret
  have hne:¬xs=ys:=fun e=>hl (by rw[e])
  exact⟨by simp[hne],0,rfl⟩
theorem Sg.congr{f g:Nat->Int}{s:Int}(h:Sg f s)(e:∀k,f k=g k):Sg g s:=h.near (jd2.of_eq e)
theorem Sg.range{f:Nat->Int}{s:Int}(h:Sg f s):s=1\/s=-1\/s=0:=by
 rcases h with⟨h,_⟩|⟨h,_⟩|⟨h,_⟩<;>omega
theorem Sg.bdd{f:Nat->Int}(h:Sg f 0):Bdd f:=by
 rcases h with⟨h,_⟩|⟨h,_⟩|⟨_,h⟩
 ·omega
 ·omega
 ·exact h
theorem jds0{xd yd s c:Int}{xt yt:List (Int×Int)}(hx:ja7 xd xt=true)(hy:ja7 yd yt=true)(h:zz6 xd xt yd yt s c):c=0/\jb3 (jk5 xt yd yt xd) s:=by
 rcases h with⟨_,h,h0⟩|⟨h,_⟩
 ·exact⟨h0,h⟩
 ·rw[hx,hy] at h;cases h
theorem jdj2{d s c:Int}{ts:List (Int×Int)}(hx:ja7 d ts=true)(h:zt7 d ts s c):c=0/\jb3 ts s:=by
 rcases h with⟨_,h,h0⟩|⟨h,_⟩
 ·exact⟨h0,h⟩
 ·rw[hx] at h;cases h
theorem jds1{xd yd s c:Int}{xt yt:List (Int×Int)}(hx:ja7 xd xt=true)(hy:ja7 yd yt=true)(h:zz6 xd xt yd yt s c):c=0/\Sg (fun k=>yd*jh9 xt k-xd*jh9 yt k) s:=by
 obtain⟨h0,h1⟩:=jds0 hx hy h
 exact⟨h0,h1.sg.congr fun k=>jaa5 _ _ _ _ _⟩
theorem jdb0{D1 D2 a b s c:Int}{X Y:Nat->Int}{at_ bt:List (Int×Int)}(hx:IsN D1 X a at_)(hy:IsN D2 Y b bt)(h:zz6 a at_ b bt s c):c=0/\Sg (fun k=>D2*X k-D1*Y k) s:=by
 obtain⟨h0,h1⟩:=jds1 hx.1 hy.1 h
 refine⟨h0,?_⟩
 obtain⟨_,G1,hG1,rfl,n1⟩:=hx
 obtain⟨_,G2,hG2,rfl,n2⟩:=hy
 refine(h1.smul (Int.mul_pos hG1 hG2)).near (jd2.trans (jd2.of_eq fun k=>?_) ((n1.smul (b*G2)).sub (n2.smul (a*G1))))
 (try dsimp only);grind
end Go.Proofs.YtphcodcdfeohhaaGreatDoor
