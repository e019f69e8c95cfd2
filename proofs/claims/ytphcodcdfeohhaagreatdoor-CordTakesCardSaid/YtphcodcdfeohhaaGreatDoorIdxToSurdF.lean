import Derived.Test.YtphcodcdfeohhaaGreatDoorSurdCToSurdE
import Derived.Deep.AppendLies
set_option linter.all false
namespace Go.Proofs.YtphcodcdfeohhaaGreatDoor
set_option maxRecDepth 100000
set_option maxHeartbeats 4000000
open Go.RowKit
def jB(l:List (Value×Value)):List Value:=l.flatMap λp=>[p.1,p.2]
theorem Jj(l:List (Value×Value)):(jB l).length=l.length*2:=by
 unfold jB
 induction l with
 | nil=>rfl
 | cons p t ih=>simp only[List.flatMap_cons,List.length_append,List.length_cons,List.length_nil,ih];omega
theorem jm8:∀(l:List (Value×Value)) (i:Nat) (h:i<l.length),(jB l)[i*2]?=some l[i].1/\(jB l)[i*2+1]?=some l[i].2:=by
 intro l
 induction l with
 | nil=>intro i h;simp at h
 | cons p t ih=>
  intro i h
  cases i with
  | zero=>simp[jB]
  | succ i=>
   have h1:=ih i (by simpa using h)
   have e:jB (p::t)=[p.1,p.2]++jB t:=rfl
   rw[e,List.getElem?_append_right (by simp;omega),List.getElem?_append_right (by simp;omega)]
   simpa [show(i+1)*2-2=i*2 by omega,show(i+1)*2+1-2=i*2+1 by omega] using h1
theorem qd{w:World}{B n c:Nat}{A:Option Addr}{l:List (Value×Value)}(h:Rd w B 2 A n c (jB l)):l.length=n:=by
 have h1:=h.len
 rw[Jj] at h1
 omega
theorem zn1 {w:World} {B n c:Nat} {A:Option Addr} {l:List (Value×Value)} (h:Rd w B 2 A n c (jB l)) {i:Nat} (hi:i<l.length) :
  ∃ad:Addr,A=some ad/\w.cell? (ad.add (i*2))=some l[i].1/\w.cell? ⟨(ad.add (i*2)).block,(ad.add (i*2)).off+1,none⟩=some l[i].2:=by
 have hl:=qd h
 obtain⟨ad,e,_,hc⟩:=h.addr (by omega)
 obtain⟨h1,h2⟩:=jm8 l i hi
 exact⟨ad,e,hc _ _ h1,by have h3:=hc _ _ h2;rw[<-zh1] at h3;exact h3⟩
def jf3{α:Type}(l:List α)(p:α->Bool):Int:=match l.findIdx? p with|some i=>(i:Int)|none=>-1
theorem jh9{α:Type}{l:List α}{p:α->Bool}{k:Nat}(h:k<l.length)(hk:p l[k]=true)(hno:∀j (hj:j<k),p (l[j]'(by omega))=false):jf3 l p=(k:Int):=by
 unfold jf3
 rw[List.findIdx?_eq_some_iff_getElem.2 ⟨h,hk,λj hj=>by simp[hno j hj]⟩]
theorem jh8{α:Type}{l:List α}{p:α->Bool}(hno:∀j (h:j<l.length),p l[j]=false):jf3 l p=-1:=by
 unfold jf3
 rw[List.findIdx?_eq_none_iff.2 (λx hx=>by obtain⟨j,hj,rfl⟩:=List.mem_iff_getElem.1 hx;exact hno j hj)]
theorem js3{α:Type}(l:List α)(p:α->Bool):decide (0<=jf3 l p)=l.any p:=by
 unfold jf3
 cases h:l.findIdx? p with
 | none=>
  rw[List.findIdx?_eq_none_iff] at h
  have:l.any p=false:=List.any_eq_false.2 (λx hx=>by simp[h x hx])
  rw[this];decide
 | some i=>
  obtain⟨hi,hp,_⟩:=List.findIdx?_eq_some_iff_getElem.1 h
  have:l.any p=true:=List.any_eq_true.2 ⟨l[i],by simp,hp⟩
  rw[this];simp
theorem jf4 {α:Type} (enc:α->Value×Value) (A:Option Addr) (n c B gf:Nat) (lb:Array Value) (l:List α) (p:α->Bool) (w:World) (hR:Rd w B 2 A n c (jB (l.map enc))) (hB:B<=w.heap.size)
  (eg:∀args w,(callFunc gf args).run Tryz.prog w=.ok (.enter gf args) w)
  (hp:∀W x,x∈l->Below w.heap.size w W->Calls Tryz.prog gf (#[.agg #[(enc x).1,(enc x).2]]++lb) W λe W'=>e=.returned (.bool (p x))/\Below W.heap.size W W') :
  Calls Tryz.prog 101 #[.slice A n c,.func (.func gf) #[] lb] w λe w'=>e=.returned (.int .i64 (jf3 l p))/\Below w.heap.size w w':=by
 have hm:=hR.nmax
 obtain rfl:l.length=n:=by have:=qd hR;simpa using this
 have HP:=ja hp;clear hp
 have HR:=ja hR;clear hR
 go_enter Tryz.func101,Tryz.ntmps101
 go_wp2
 go_loopw [8] (λi W=>∃k:Nat,k<=l.length/\i=.int .i64 (k:Int)/\(∀j (h:j<l.length),j<k->p l[j]=false)/\Below w.heap.size w W) (λi _=>l.length-(intOf i).toNat)
 case atStart=>exact⟨0,by omega,rfl,λj _ h=>by omega,Below.refl _ _⟩
 case round=>
  obtain⟨k,hk,rfl,hno,hbl⟩:=hrel
  have HNO:=ja hno;clear hno
  have HB:=ja hbl;clear hbl
  by_cases hlt:k<l.length
  ·obtain⟨ad,rfl,hc0,hc1⟩:=zn1 (HR.o.below (HB.o.mono hB)) (i:=k) (by simpa using hlt)
   simp only[List.getElem_map] at hc0 hc1
   have HC:=ja (HP.o wr l[k] (by simp) HB.o)
   clear hB
   generalize hx:l[k]=x at *
   have HX:=ja hx;clear hx
   generalize (enc x).1=a at *
   generalize (enc x).2=b at *
   cases hpx:p x
   ·have HPX:=ja hpx;clear hpx
    go_wp2_with (first
     | (refine(HC.o).mono ?_;rintro e w1 ⟨rfl,hb1⟩;rw[HPX.o];have HB1:=ja hb1;clear hb1))
    go_roundw
    case rel=>exact⟨k+1,by omega,by go_num,λj h hj=>by
     rcases Nat.lt_or_ge j k with h1|h1
     ·exact HNO.o j h h1
     ·obtain rfl:j=k:=by omega
      rw[HX.o];exact HPX.o,Zy HB.o HB1.o HB.o.size⟩
    case measure=>simp[intOf];omega
   ·have HPX:=ja hpx;clear hpx
    go_wp2_with (first
     | (refine(HC.o).mono ?_;rintro e w1 ⟨rfl,hb1⟩;rw[HPX.o];have HB1:=ja hb1;clear hb1))
    go_ret
    exact⟨qK (jh9 hlt (by rw[HX.o];exact HPX.o) (λj h=>HNO.o j (by omega) h)).symm,Zy HB.o HB1.o HB.o.size⟩
  ·obtain rfl:k=l.length:=by omega
   go_wp2
   go_ret
   exact⟨qK (jh8 (λj h=>HNO.o j h h)).symm,HB.o⟩
theorem jr1 {α:Type} (enc:α->Value×Value) (A:Option Addr) (n c B gf:Nat) (lb:Array Value) (l:List α) (p:α->Bool) (w:World) (hR:Rd w B 2 A n c (jB (l.map enc))) (hB:B<=w.heap.size)
  (eg:∀args w,(callFunc gf args).run Tryz.prog w=.ok (.enter gf args) w)
  (hp:∀W x,x∈l->Below w.heap.size w W->Calls Tryz.prog gf (#[.agg #[(enc x).1,(enc x).2]]++lb) W λe W'=>e=.returned (.bool (p x))/\Below W.heap.size W W') :
  Calls Tryz.prog 61 #[.slice A n c,.func (.func gf) #[] lb] w λe w'=>e=.returned (.bool (l.any p))/\Below w.heap.size w w':=by
 have H:=ja (jf4 enc A n c B gf lb l p w hR hB eg hp)
 have HI:=ja (js3 l p)
 clear hR hB eg hp
 generalize jf3 l p=i at *
 generalize l.any p=r at *
 go_enter Tryz.func61,Tryz.ntmps61
 go_wp2_with fail
 refine H.o.mono ?_
 rintro e w' ⟨rfl,hb⟩
 have HB:=ja hb;clear hb
 go_wp2
 all_goals go_ret
 all_goals refine⟨?_,HB.o⟩
 all_goals rw[<-HI.o];rfl
theorem jy6 {α:Type} (enc:α->Value×Value) (A:Option Addr) (n c B gf:Nat) (lb:Array Value) (l:List α) (p:α->Bool) (w:World) (hR:Rd w B 2 A n c (jB (l.map enc))) (hB:B<=w.heap.size)
  (eg:∀args w,(callFunc gf args).run Tryz.prog w=.ok (.enter gf args) w)
  (hp:∀W x,x∈l->Below w.heap.size w W->Calls Tryz.prog gf (#[.agg #[(enc x).1,(enc x).2]]++lb) W λe W'=>e=.returned (.bool (p x))/\Below W.heap.size W W') :
  Calls Tryz.prog 143 #[.slice A n c,.func (.func gf) #[] lb] w λe w'=>e=.returned (.int .i64 (jf3 l p))/\Below w.heap.size w w':=by
 have hm:=hR.nmax
 obtain rfl:l.length=n:=by have:=qd hR;simpa using this
 have HP:=ja hp;clear hp
 have HR:=ja hR;clear hR
 go_enter Tryz.func143,Tryz.ntmps143
 go_wp2
 go_loopw [8] (λi W=>∃k:Nat,k<=l.length/\i=.int .i64 (k:Int)/\(∀j (h:j<l.length),j<k->p l[j]=false)/\Below w.heap.size w W) (λi _=>l.length-(intOf i).toNat)
 case atStart=>exact⟨0,by omega,rfl,λj _ h=>by omega,Below.refl _ _⟩
 case round=>
  obtain⟨k,hk,rfl,hno,hbl⟩:=hrel
  have HNO:=ja hno;clear hno
  have HB:=ja hbl;clear hbl
  by_cases hlt:k<l.length
  ·obtain⟨ad,rfl,hc0,hc1⟩:=zn1 (HR.o.below (HB.o.mono hB)) (i:=k) (by simpa using hlt)
   simp only[List.getElem_map] at hc0 hc1
   have HC:=ja (HP.o wr l[k] (by simp) HB.o)
   clear hB
   generalize hx:l[k]=x at *
   have HX:=ja hx;clear hx
   generalize (enc x).1=a at *
   generalize (enc x).2=b at *
   cases hpx:p x
   ·have HPX:=ja hpx;clear hpx
    go_wp2_with (first
     | (refine(HC.o).mono ?_;rintro e w1 ⟨rfl,hb1⟩;rw[HPX.o];have HB1:=ja hb1;clear hb1))
    go_roundw
    case rel=>exact⟨k+1,by omega,by go_num,λj h hj=>by
     rcases Nat.lt_or_ge j k with h1|h1
     ·exact HNO.o j h h1
     ·obtain rfl:j=k:=by omega
      rw[HX.o];exact HPX.o,Zy HB.o HB1.o HB.o.size⟩
    case measure=>simp[intOf];omega
   ·have HPX:=ja hpx;clear hpx
    go_wp2_with (first
     | (refine(HC.o).mono ?_;rintro e w1 ⟨rfl,hb1⟩;rw[HPX.o];have HB1:=ja hb1;clear hb1))
    go_ret
    exact⟨qK (jh9 hlt (by rw[HX.o];exact HPX.o) (λj h=>HNO.o j (by omega) h)).symm,Zy HB.o HB1.o HB.o.size⟩
  ·obtain rfl:k=l.length:=by omega
   go_wp2
   go_ret
   exact⟨qK (jh8 (λj h=>HNO.o j h h)).symm,HB.o⟩
theorem jk5 {α:Type} (enc:α->Value×Value) (A:Option Addr) (n c B gf:Nat) (lb:Array Value) (l:List α) (p:α->Bool) (w:World) (hR:Rd w B 2 A n c (jB (l.map enc))) (hB:B<=w.heap.size)
  (eg:∀args w,(callFunc gf args).run Tryz.prog w=.ok (.enter gf args) w)
  (hp:∀W x,x∈l->Below w.heap.size w W->Calls Tryz.prog gf (#[.agg #[(enc x).1,(enc x).2]]++lb) W λe W'=>e=.returned (.bool (p x))/\Below W.heap.size W W') :
  Calls Tryz.prog 109 #[.slice A n c,.func (.func gf) #[] lb] w λe w'=>e=.returned (.bool (l.any p))/\Below w.heap.size w w':=by
 have H:=ja (jy6 enc A n c B gf lb l p w hR hB eg hp)
 have HI:=ja (js3 l p)
 clear hR hB eg hp
 generalize jf3 l p=i at *
 generalize l.any p=r at *
 go_enter Tryz.func109,Tryz.ntmps109
 go_wp2_with fail
 refine H.o.mono ?_
 rintro e w' ⟨rfl,hb⟩
 have HB:=ja hb;clear hb
 go_wp2
 all_goals go_ret
 all_goals refine⟨?_,HB.o⟩
 all_goals rw[<-HI.o];rfl
def jr7(t:Int×Int):Value×Value:=(.int .i64 t.1,.int .i64 t.2)
def jr(ts:List (Int×Int)):List Value:=jB (ts.map jr7)
def ji(w:World)(B:Nat)(A:Option Addr)(n c:Nat)(ts:List (Int×Int)):Prop:=Rd w B 2 A n c (jr ts)
theorem ji.len{w:World}{B n c:Nat}{A:Option Addr}{ts:List (Int×Int)}(h:ji w B A n c ts):ts.length=n:=by
 have:=qd h;simpa using this
theorem ji.at_ {w:World} {B n c:Nat} {A:Option Addr} {ts:List (Int×Int)} (h:ji w B A n c ts) {i:Nat} (hi:i<ts.length) :
  ∃ad:Addr,A=some ad/\w.cell? (ad.add (i*2))=some (.int .i64 ts[i].1)/\w.cell? ⟨(ad.add (i*2)).block,(ad.add (i*2)).off+1,none⟩=some (.int .i64 ts[i].2):=by
 obtain⟨ad,e,h1,h2⟩:=zn1 h (i:=i) (by simpa using hi)
 simp only[List.getElem_map] at h1 h2
 exact⟨ad,e,h1,h2⟩
theorem ji.below{w w':World}{B n c:Nat}{A:Option Addr}{ts:List (Int×Int)}(h:ji w B A n c ts)(hb:Below B w w'):ji w' B A n c ts:=Rd.below h hb
theorem ji.more{w:World}{B B' n c:Nat}{A:Option Addr}{ts:List (Int×Int)}(h:ji w B A n c ts)(hb:B<=B'):ji w B' A n c ts:=Rd.more h hb
theorem ji.nmax{w:World}{B n c:Nat}{A:Option Addr}{ts:List (Int×Int)}(h:ji w B A n c ts):n<=9223372036854775807:=Rd.nmax h
def okT(last:Int)(t:Int×Int):Bool:=decide (last<t.2)&&decide (t.2<=1000)&&decide (t.1≠0)&&zz t.1 (-100000) 100000&&decide ((jo t.2.toNat).1<=1)
def Qj:Int->List (Int×Int)->Bool
 | _,[]=>true
 | last,t::ts=>okT last t&&Qj t.2 ts
def js(den:Int)(ts:List (Int×Int)):Bool:=zz den 1 100000&&decide (ts.length<=4)&&Qj 0 ts&&decide (jM (den::ts.map (·.1))=1)
def QK(b:Bool):Int:=if b then 0 else 2
theorem zv9{ts:List (Int×Int)}{last:Int}{k:Nat}(hk:k<ts.length)(h:Qj 0 ts=Qj last (ts.drop k)):Qj 0 ts=(okT last ts[k]&&Qj ts[k].2 (ts.drop (k+1))):=by
 rw[h,List.drop_eq_getElem_cons hk];rfl
theorem zf4{l m:List Int}(h:l.Perm m):∀g:Nat,l.foldl (λg x=>Nat.gcd g x.natAbs) g=m.foldl (λg x=>Nat.gcd g x.natAbs) g:=by
 induction h with
 | nil=>intro g;rfl
 | cons x _ ih=>intro g;exact ih _
 | swap x y l=>
  intro g
  simp only[List.foldl_cons]
  rw[Nat.gcd_assoc,Nat.gcd_assoc,Nat.gcd_comm y.natAbs]
 | trans _ _ ih1 ih2=>intro g;rw[ih1,ih2]
theorem jh5{l m:List Int}(h:l.Perm m):jM l=jM m:=zf4 h 0
theorem qT(l:List Int):∀x∈l,jM l∣x.natAbs:=by
 intro x hx
 obtain⟨a,b,rfl⟩:=List.append_of_mem hx
 have hp:(a++x::b).Perm ((a++b)++[x]):=by
  refine List.Perm.trans (List.perm_middle) ?_
  exact(List.perm_append_singleton x (a++b)).symm
 rw[jh5 hp,jh6]
 exact Nat.gcd_dvd_right _ _
theorem ZK{l:List Int}{x:Int}(hx:x∈l)(h0:x≠0):1<=jM l:=by
 have h:=qT l x hx
 rcases Nat.eq_zero_or_pos (jM l)with h1|h1
 ·rw[h1] at h
  have:=Nat.eq_zero_of_zero_dvd h
  omega
 ·exact h1
def jcn4(w:World)(den:Int)(ts:List (Int×Int))(v l i:Value)(W:World):Prop:=
 ∃(k:Nat) (last:Int),k<=ts.length/\i=.int .i64 (k:Int)/\l=.int .i64 last/\0<=last/\last<=1000/\W.ownsRow (w.heap.size+1) 3 1 v (k+1) ((den::(ts.take k).map (·.1)).map (Value.int .i64)) /\
  Qj 0 ts=Qj last (ts.drop k)/\(∀x∈ts.take k,-100000<=x.1/\x.1<=100000)/\Below w.heap.size w W
theorem jy3 (den:Int) (A:Option Addr) (n c B:Nat) (ts:List (Int×Int)) (w:World) (hR:ji w B A n c ts) (hB:B<=w.heap.size) :
  Calls Tryz.prog 49 #[.agg #[.int .i64 den,.slice A n c]] w λe w'=>e=.returned (.int .i64 (QK (js den ts)))/\Below w.heap.size w w':=by
 have hm:=hR.nmax
 obtain rfl:=hR.len
 have HR:=ja hR;clear hR
 obtain⟨i0,hi0,hz0,hz1,hz2⟩:=info_parts Tryz.infoInt
 cases hd:zz den 1 100000
 ·have HN:=ja (show js den ts=false by unfold js;rw[hd];rfl)
  have HD:=ja hd;clear hd
  go_enter Tryz.func49,Tryz.ntmps49
  go_wp2_with (first
   | (go_at_call 60;refine(zj _ _ _ _).mono ?_;rintro e w1 ⟨rfl,rfl⟩;rw[HD.o]))
  go_ret
  exact⟨by rw[HN.o];rfl,(Below.refl _ _).alloc (Nat.le_refl _) _⟩
 ·have HD:=ja hd;clear hd
  by_cases h4:ts.length<=4
  ·have hd4:decide (4<(ts.length:Int))=false:=by simp;omega
   go_enter Tryz.func49,Tryz.ntmps49
   go_wp2_with (first
    | (go_at_call 60;refine(zj _ _ _ _).mono ?_;rintro e w1 ⟨rfl,rfl⟩;rw[HD.o]))
   go_loopw [3,4,25] (λv l i W=>jcn4 w den ts v l i W) (λ_ _ i _=>ts.length-(intOf i).toNat)
   case atStart=>
    refine⟨0,0,by omega,rfl,rfl,by omega,by omega,?_,rfl,by simp,((Below.refl _ _).alloc (Nat.le_refl _) _).alloc (by simp) _⟩
    have:=World.ownsRow_lit (base:=w.heap.size+1) (e:=3) (size:=1) (w.alloc (.cells #[.int .i64 den,.slice A ts.length c] 24)) #[.int .i64 den] 1 (by simp) (by unfold maxLen;omega) rfl
    simpa using this
   case round=>
    obtain⟨k,last,hk,rfl,rfl,hl0,hl1,ho,hchk,hco,hbl⟩:=hrel
    have HO:=ja ho;clear ho
    have HC:=ja hchk;clear hchk
    have HX:=ja hco;clear hco
    have HB:=ja hbl;clear hbl
    by_cases hlt:k<ts.length
    ·obtain⟨ad,rfl,hc0,hc1⟩:=(HR.o.below (HB.o.mono hB)).at_ hlt
     have HT:=ja (zv9 hlt HC.o)
     have HF:=ja (show(ts.take (k+1)).map (·.1)=(ts.take k).map (·.1)++[ts[k].1] by rw[jw ts k hlt,List.map_append];rfl)
     have HM:=ja (show ∀x∈ts.take (k+1),x∈ts.take k\/x=ts[k] by
      intro x hx
      rw[jw ts k hlt,List.mem_append,List.mem_singleton] at hx
      exact hx)
     generalize ts[k]=t at *
     obtain⟨co,ro⟩:=t
     dsimp only at hc0 hc1
     cases ht:okT last (co,ro)
     ·have HN:=ja (show js den ts=false by unfold js;rw[HT.o,ht];simp)
      have hcase:ro<=last\/(last<ro/\1000<ro)\/(last<ro/\ro<=1000/\(co==0)=true)\/(last<ro/\ro<=1000/\(co==0)=false/\zz co (-100000) 100000=false)\/(last<ro/\ro<=1000/\(co==0)=false/\zz co (-100000) 100000=true/\1<(jo ro.toNat).1):=by
       by_cases a1:ro<=last
       ·exact .inl a1
       by_cases a2:1000<ro
       ·exact .inr (.inl ⟨by omega,a2⟩)
       by_cases a3:co=0
       ·exact .inr (.inr (.inl ⟨by omega,by omega,by simpa using a3⟩))
       cases a4:zz co (-100000) 100000
       ·exact .inr (.inr (.inr (.inl ⟨by omega,by omega,by simpa using a3,rfl⟩)))
       ·refine .inr (.inr (.inr (.inr ⟨by omega,by omega,by simpa using a3,rfl,?_⟩)))
        unfold okT at ht
        simp only[Bool.and_eq_false_iff,decide_eq_false_iff_not] at ht
        rcases ht with(((h|h)|h)|h)|h
        ·exact absurd (show last<(co,ro).2 from by show last<ro;omega) h
        ·exact absurd (show(co,ro).2<=1000 from by show ro<=1000;omega) h
        ·exact absurd a3 h
        ·rw[show zz (co,ro).1 (-100000) 100000=true from a4] at h;cases h
        ·have h':¬(jo ro.toNat).1<=1:=h
         omega
      clear ht HX HM HF HC HT
      rcases hcase with a1|⟨a1,a2⟩|⟨a1,a2,a3⟩|⟨a1,a2,a3,a4⟩|⟨a1,a2,a3,a4,a5⟩
      ·go_wp2
       go_ret
       exact⟨by rw[HN.o];rfl,HB.o.alloc HB.o.size _⟩
      ·go_wp2
       go_ret
       exact⟨by rw[HN.o];rfl,HB.o.alloc HB.o.size _⟩
      ·go_wp2
       go_ret
       exact⟨by rw[HN.o];rfl,HB.o.alloc HB.o.size _⟩
      ·have A4:=ja a4;clear a4
       go_wp2_with (first
        | (go_at_call 60;refine(zj _ _ _ _).mono ?_;rintro e w1 ⟨rfl,rfl⟩;rw[A4.o]))
       go_ret
       exact⟨by rw[HN.o];rfl,HB.o.alloc HB.o.size _⟩
      ·have A4:=ja a4;clear a4
       obtain⟨m,rfl⟩:=Int.eq_ofNat_of_zero_le (show 0<=ro by omega)
       rw[Int.toNat_natCast] at a5
       have HS:=ja (λW=>jj7 m W (by omega) (by omega))
       generalize (jo m).1=sq at *
       generalize (jo m).2=rs at *
       go_wp2_with (first
        | (go_at_call 60;refine(zj _ _ _ _).mono ?_;rintro e w1 ⟨rfl,rfl⟩;rw[A4.o])
        | (go_at_call 96;refine(HS.o _).mono ?_;rintro e w1 ⟨rfl,q,rfl⟩))
       go_ret
       exact⟨by rw[HN.o];rfl,jp (HB.o.alloc HB.o.size _) _⟩
     ·have HK:=ja ht
      unfold okT at ht
      simp only[Bool.and_eq_true,decide_eq_true_eq] at ht
      obtain⟨⟨⟨⟨a1,a2⟩,a3⟩,a4⟩,a5⟩:=ht
      have A4:=ja a4;clear a4
      have a6:-100000<=co/\co<=100000:=by
       have:=A4.o
       simpa [zz] using this
      obtain⟨m,rfl⟩:=Int.eq_ofNat_of_zero_le (show 0<=ro by omega)
      rw[Int.toNat_natCast] at a5
      have HS:=ja (λW=>jj7 m W (by omega) (by omega))
      have a3':(co==0)=false:=by simpa using a3
      clear a3
      generalize (jo m).1=sq at *
      generalize (jo m).2=rs at *
      have a5':¬(1:Int)<(sq:Int):=by omega
      go_wp2_with (first
       | (go_at_call 60;refine(zj _ _ _ _).mono ?_;rintro e w1 ⟨rfl,rfl⟩;rw[A4.o])
       | (go_at_call 96;refine(HS.o _).mono ?_;rintro e w1 ⟨rfl,q,rfl⟩))
      have HB1:=ja (jp (HB.o.alloc HB.o.size (.cells #[.int .i64 co,.int .i64 (m:Int)] 59)) q)
      have HO1:=ja (show((wr.alloc (.cells #[.int .i64 co,.int .i64 (m:Int)] 59)).drewN q).ownsRow (w.heap.size+1) 3 1 u3 (k+1) ((den::(ts.take k).map (·.1)).map (Value.int .i64))from HO.o.alloc _)
      have hcc0:((wr.alloc (.cells #[.int .i64 co,.int .i64 (m:Int)] 59)).drewN q).cell? ⟨wr.heap.size,0,none⟩=some (.int .i64 co):=by simp
      have hcc1:((wr.alloc (.cells #[.int .i64 co,.int .i64 (m:Int)] 59)).drewN q).cell? ⟨wr.heap.size,1,none⟩=some (.int .i64 (m:Int)):=by simp
      have hsz1:=HB1.o.size
      have hltW:wr.heap.size<((wr.alloc (.cells #[.int .i64 co,.int .i64 (m:Int)] 59)).drewN q).heap.size:=by simp
      have hne3:some wr.heap.size≠u3.ownBlock:=λe=>by have:=(HO.o.lt _ e.symm).2;omega
      have HU:=ja hne3;clear hne3
      generalize (wr.alloc (.cells #[.int .i64 co,.int .i64 (m:Int)] 59)).drewN q=W at *
      go_region_law (first
       | (refine step_append_lies _ rfl _ _ 52 rfl (w.heap.size+1) 3 i0 (.int .i64 0) 1 8 Tryz.underlying52 hi0 hz0 hz1 hz2 rfl (by decide) u3 (k+1) _ rfl (World.ownsRow.alloc HO1.o _) ⟨W.heap.size,0,none⟩ 1 1 [.int .i64 co] rfl rfl (JG _ _ _) (by simp[Value.oneCell']) (by decide) (by unfold maxLen;omega) (by omega) (by simp;omega) _ rfl ?_;intro g cap w3 hown' hgrow hat hlt3;have hc3:w3.cell? ⟨wr.heap.size,1,none⟩=some (.int .i64 (m:Int)):=hgrow.cell (a:=⟨wr.heap.size,1,none⟩) ((World.cell?_alloc_lt _ _ _ hltW).trans hcc1) HU.o;have HO3:=ja hown';have HG3:=ja hgrow;clear hown' hgrow hat hlt3))
      all_goals
       go_wp2
       go_roundw
       case rel=>
        refine⟨k+1,(m:Int),by omega,by go_num,rfl,by omega,by omega,?_,?_,?_,?_⟩
        ·rw[HF.o]
         have:=HO3.o
         simpa using this
        ·rw[HT.o]
         rw[HK.o];rfl
        ·intro x hx
         rcases HM.o x hx with h|rfl
         ·exact HX.o x h
         ·exact a6
        ·exact(jp (HB1.o.alloc hsz1 _) 1).grown HG3.o (by simp;omega) (λj e=>by have:=(HO1.o.lt j e).1;omega)
       case measure=>simp[intOf];omega
    ·obtain rfl:k=ts.length:=by omega
     obtain⟨A3,c3,rfl⟩:=jx HO.o
     have hden:1<=den/\den<=100000:=by
      have:=HD.o
      simpa [zz] using this
     have hrd:=Rd.of_own HO.o
     have hc:=HC.o
     rw[List.drop_length] at hc
     have HN:=ja (show js den ts=decide (jM (den::ts.map (·.1))=1) by unfold js;rw[HD.o,hc];simp[h4,Qj])
     rw[List.take_length] at hrd
     have HDV:=ja (λW (hW:W=wr)=>jd9 A3 (ts.length+1) c3 wr.heap.size (den::ts.map (·.1)) W (by subst hW;exact hrd) (by
      intro x hx
      rcases List.mem_cons.1 hx with rfl|hx
      ·omega
      ·obtain⟨y,hy,rfl⟩:=List.mem_map.1 hx
       have:=HX.o y (by rw[List.take_length];exact hy)
       omega))
     clear hrd hc
     generalize jM (den::ts.map (·.1))=gg at *
     by_cases hg:gg=1
     ·subst hg
      go_wp2_with (first
       | (go_at_call 97;refine(HDV.o _ rfl).mono ?_;rintro e w1 ⟨rfl,q,rfl⟩))
      go_ret
      exact⟨by rw[HN.o];rfl,jp HB.o _⟩
     ·have hg':((gg:Int)==1)=false:=by rw[beq_eq_false_iff_ne];omega
      have HG:=ja hg;clear hg
      go_wp2_with (first
       | (go_at_call 97;refine(HDV.o _ rfl).mono ?_;rintro e w1 ⟨rfl,q,rfl⟩))
      go_ret
      exact⟨by rw[HN.o];simp[HG.o,QK],jp HB.o _⟩
  ·have hd4:decide (4<(ts.length:Int))=true:=by simp;omega
   have HN:=ja (show js den ts=false by unfold js;rw[HD.o];simp[h4])
   go_enter Tryz.func49,Tryz.ntmps49
   go_wp2_with (first
    | (go_at_call 60;refine(zj _ _ _ _).mono ?_;rintro e w1 ⟨rfl,rfl⟩;rw[HD.o]))
   go_ret
   exact⟨by rw[HN.o];rfl,(Below.refl _ _).alloc (Nat.le_refl _) _⟩
