import Derived.Test.YtphcodcdfeohhaaGreatDoorBaseToStage
import Derived.Test.YtphcodcdfeohhaaGreatDoorSurdAToSurdB
import Derived.Test.YtphcodcdfeohhaaGreatDoorSurdCToSurdE
import Derived.Deep.AppendLies
set_option linter.unusedVariables false
set_option linter.unusedSimpArgs false
namespace Go.Proofs.YtphcodcdfeohhaaGreatDoor
set_option maxRecDepth 100000
set_option maxHeartbeats 4000000
open Go.RowKit
def jb7(l:List (Value×Value)):List Value:=l.flatMap fun p=>[p.1,p.2]
theorem jz4(l:List (Value×Value)):(jb7 l).length=l.length*2:=by
 unfold jb7
 induction l with
 | nil=>rfl
 | cons p t ih=>simp only[List.flatMap_cons,List.length_append,List.length_cons,List.length_nil,ih];omega
theorem jas7:∀(l:List (Value×Value)) (i:Nat) (h:i<l.length),(jb7 l)[i*2]?=some l[i].1/\(jb7 l)[i*2+1]?=some l[i].2:=by
 intro l
 induction l with
 | nil=>intro i h;simp at h
 | cons p t ih=>
  intro i h
  cases i with
  | zero=>simp[jb7]
  | succ i=>
   have h1:=ih i (by simpa using h)
   have e:jb7 (p::t)=[p.1,p.2]++jb7 t:=rfl
   rw[e,List.getElem?_append_right (by simp;omega),List.getElem?_append_right (by simp;omega)]
   simpa [show(i+1)*2-2=i*2 by omega,show(i+1)*2+1-2=i*2+1 by omega] using h1
theorem jy3{w:World}{B n c:Nat}{A:Option Addr}{l:List (Value×Value)}(h:Rd w B 2 A n c (jb7 l)):l.length=n:=by
 have h1:=h.len
 rw[jz4] at h1
 omega
theorem jaz2 {w:World} {B n c:Nat} {A:Option Addr} {l:List (Value×Value)} (h:Rd w B 2 A n c (jb7 l)) {i:Nat} (hi:i<l.length) :
  ∃ad:Addr,A=some ad/\w.cell? (ad.add (i*2))=some l[i].1/\w.cell? ⟨(ad.add (i*2)).block,(ad.add (i*2)).off+1,none⟩=some l[i].2:=by
 have hl:=jy3 h
 obtain⟨ad,e,_,hc⟩:=h.addr (by omega)
 obtain⟨h1,h2⟩:=jas7 l i hi
 exact⟨ad,e,hc _ _ h1,by have h3:=hc _ _ h2;rw[<-jbp3] at h3;exact h3⟩
def zr6{α:Type}(l:List α)(p:α->Bool):Int:=match l.findIdx? p with|some i=>(i:Int)|none=>-1
theorem zv6{α:Type}{l:List α}{p:α->Bool}{k:Nat}(h:k<l.length)(hk:p l[k]=true)(hno:∀j (hj:j<k),p (l[j]'(by omega))=false):zr6 l p=(k:Int):=by
 unfold zr6
 rw[List.findIdx?_eq_some_iff_getElem.2 ⟨h,hk,fun j hj=>by simp[hno j hj]⟩]
theorem zv5{α:Type}{l:List α}{p:α->Bool}(hno:∀j (h:j<l.length),p l[j]=false):zr6 l p=-1:=by
 unfold zr6
 rw[List.findIdx?_eq_none_iff.2 (fun x hx=>by obtain⟨j,hj,rfl⟩:=List.mem_iff_getElem.1 hx;exact hno j hj)]
theorem jad2{α:Type}(l:List α)(p:α->Bool):decide (0<=zr6 l p)=l.any p:=by
 unfold zr6
 cases h:l.findIdx? p with
 | none=>
  rw[List.findIdx?_eq_none_iff] at h
  have:l.any p=false:=List.any_eq_false.2 (fun x hx=>by simp[h x hx])
  rw[this];decide
 | some i=>
  obtain⟨hi,hp,_⟩:=List.findIdx?_eq_some_iff_getElem.1 h
  have:l.any p=true:=List.any_eq_true.2 ⟨l[i],by simp,hp⟩
  rw[this];simp
theorem zr7 {α:Type} (enc:α->Value×Value) (A:Option Addr) (n c B gf:Nat) (lb:Array Value) (l:List α) (p:α->Bool) (w:World) (hR:Rd w B 2 A n c (jb7 (l.map enc))) (hB:B<=w.heap.size)
  (eg:∀args w,(callFunc gf args).run Tryz.prog w=.ok (.enter gf args) w)
  (hp:∀W x,x∈l->Below w.heap.size w W->Calls Tryz.prog gf (#[.agg #[(enc x).1,(enc x).2]]++lb) W fun e W'=>e=.returned (.bool (p x))/\Below W.heap.size W W') :
  Calls Tryz.prog 101 #[.slice A n c,.func (.func gf) #[] lb] w fun e w'=>e=.returned (.int .i64 (zr6 l p))/\Below w.heap.size w w':=by
 have hm:=hR.nmax
 obtain rfl:l.length=n:=by have:=jy3 hR;simpa using this
 have HP:=ja0 hp;clear hp
 have HR:=ja0 hR;clear hR
 go_enter Tryz.func101,Tryz.ntmps101
 go_wp2
 go_loopw [8] (fun i W=>∃k:Nat,k<=l.length/\i=.int .i64 (k:Int)/\(∀j (h:j<l.length),j<k->p l[j]=false)/\Below w.heap.size w W) (fun i _=>l.length-(intOf i).toNat)
 case atStart=>exact⟨0,by omega,rfl,fun j _ h=>by omega,Below.refl _ _⟩
 case round=>
  obtain⟨k,hk,rfl,hno,hbl⟩:=hrel
  have HNO:=ja0 hno;clear hno
  have HB:=ja0 hbl;clear hbl
  by_cases hlt:k<l.length
  ·obtain⟨ad,rfl,hc0,hc1⟩:=jaz2 (HR.out.below (HB.out.mono hB)) (i:=k) (by simpa using hlt)
   simp only[List.getElem_map] at hc0 hc1
   have HC:=ja0 (HP.out wr l[k] (by simp) HB.out)
   clear hB
   generalize hx:l[k]=x at *
   have HX:=ja0 hx;clear hx
   generalize (enc x).1=a at *
   generalize (enc x).2=b at *
   cases hpx:p x
   ·have HPX:=ja0 hpx;clear hpx
    go_wp2_with (first
     | (refine(HC.out).mono ?_;rintro e w1 ⟨rfl,hb1⟩;rw[HPX.out];have HB1:=ja0 hb1;clear hb1))
    go_roundw
    case rel=>exact⟨k+1,by omega,by go_num,fun j h hj=>by
     rcases Nat.lt_or_ge j k with h1|h1
     ·exact HNO.out j h h1
     ·obtain rfl:j=k:=by omega
      rw[HX.out];exact HPX.out,js6 HB.out HB1.out HB.out.size⟩
    case measure=>simp[intOf];omega
   ·have HPX:=ja0 hpx;clear hpx
    go_wp2_with (first
     | (refine(HC.out).mono ?_;rintro e w1 ⟨rfl,hb1⟩;rw[HPX.out];have HB1:=ja0 hb1;clear hb1))
    go_ret
    exact⟨zb2 (zv6 hlt (by rw[HX.out];exact HPX.out) (fun j h=>HNO.out j (by omega) h)).symm,js6 HB.out HB1.out HB.out.size⟩
  ·obtain rfl:k=l.length:=by omega
   go_wp2
   go_ret
   exact⟨zb2 (zv5 (fun j h=>HNO.out j h h)).symm,HB.out⟩
theorem zf6 {α:Type} (enc:α->Value×Value) (A:Option Addr) (n c B gf:Nat) (lb:Array Value) (l:List α) (p:α->Bool) (w:World) (hR:Rd w B 2 A n c (jb7 (l.map enc))) (hB:B<=w.heap.size)
  (eg:∀args w,(callFunc gf args).run Tryz.prog w=.ok (.enter gf args) w)
  (hp:∀W x,x∈l->Below w.heap.size w W->Calls Tryz.prog gf (#[.agg #[(enc x).1,(enc x).2]]++lb) W fun e W'=>e=.returned (.bool (p x))/\Below W.heap.size W W') :
  Calls Tryz.prog 61 #[.slice A n c,.func (.func gf) #[] lb] w fun e w'=>e=.returned (.bool (l.any p))/\Below w.heap.size w w':=by
 have H:=ja0 (zr7 enc A n c B gf lb l p w hR hB eg hp)
 have HI:=ja0 (jad2 l p)
 clear hR hB eg hp
 generalize zr6 l p=i at *
 generalize l.any p=r at *
 go_enter Tryz.func61,Tryz.ntmps61
 go_wp2_with fail
 refine H.out.mono ?_
 rintro e w' ⟨rfl,hb⟩
 have HB:=ja0 hb;clear hb
 go_wp2
 all_goals go_ret
 all_goals refine⟨?_,HB.out⟩
 all_goals rw[<-HI.out];rfl
theorem jah7 {α:Type} (enc:α->Value×Value) (A:Option Addr) (n c B gf:Nat) (lb:Array Value) (l:List α) (p:α->Bool) (w:World) (hR:Rd w B 2 A n c (jb7 (l.map enc))) (hB:B<=w.heap.size)
  (eg:∀args w,(callFunc gf args).run Tryz.prog w=.ok (.enter gf args) w)
  (hp:∀W x,x∈l->Below w.heap.size w W->Calls Tryz.prog gf (#[.agg #[(enc x).1,(enc x).2]]++lb) W fun e W'=>e=.returned (.bool (p x))/\Below W.heap.size W W') :
  Calls Tryz.prog 143 #[.slice A n c,.func (.func gf) #[] lb] w fun e w'=>e=.returned (.int .i64 (zr6 l p))/\Below w.heap.size w w':=by
 have hm:=hR.nmax
 obtain rfl:l.length=n:=by have:=jy3 hR;simpa using this
 have HP:=ja0 hp;clear hp
 have HR:=ja0 hR;clear hR
 go_enter Tryz.func143,Tryz.ntmps143
 go_wp2
 go_loopw [8] (fun i W=>∃k:Nat,k<=l.length/\i=.int .i64 (k:Int)/\(∀j (h:j<l.length),j<k->p l[j]=false)/\Below w.heap.size w W) (fun i _=>l.length-(intOf i).toNat)
 case atStart=>exact⟨0,by omega,rfl,fun j _ h=>by omega,Below.refl _ _⟩
 case round=>
  obtain⟨k,hk,rfl,hno,hbl⟩:=hrel
  have HNO:=ja0 hno;clear hno
  have HB:=ja0 hbl;clear hbl
  by_cases hlt:k<l.length
  ·obtain⟨ad,rfl,hc0,hc1⟩:=jaz2 (HR.out.below (HB.out.mono hB)) (i:=k) (by simpa using hlt)
   simp only[List.getElem_map] at hc0 hc1
   have HC:=ja0 (HP.out wr l[k] (by simp) HB.out)
   clear hB
   generalize hx:l[k]=x at *
   have HX:=ja0 hx;clear hx
   generalize (enc x).1=a at *
   generalize (enc x).2=b at *
   cases hpx:p x
   ·have HPX:=ja0 hpx;clear hpx
    go_wp2_with (first
     | (refine(HC.out).mono ?_;rintro e w1 ⟨rfl,hb1⟩;rw[HPX.out];have HB1:=ja0 hb1;clear hb1))
    go_roundw
    case rel=>exact⟨k+1,by omega,by go_num,fun j h hj=>by
     rcases Nat.lt_or_ge j k with h1|h1
     ·exact HNO.out j h h1
     ·obtain rfl:j=k:=by omega
      rw[HX.out];exact HPX.out,js6 HB.out HB1.out HB.out.size⟩
    case measure=>simp[intOf];omega
   ·have HPX:=ja0 hpx;clear hpx
    go_wp2_with (first
     | (refine(HC.out).mono ?_;rintro e w1 ⟨rfl,hb1⟩;rw[HPX.out];have HB1:=ja0 hb1;clear hb1))
    go_ret
    exact⟨zb2 (zv6 hlt (by rw[HX.out];exact HPX.out) (fun j h=>HNO.out j (by omega) h)).symm,js6 HB.out HB1.out HB.out.size⟩
  ·obtain rfl:k=l.length:=by omega
   go_wp2
   go_ret
   exact⟨zb2 (zv5 (fun j h=>HNO.out j h h)).symm,HB.out⟩
theorem zy5 {α:Type} (enc:α->Value×Value) (A:Option Addr) (n c B gf:Nat) (lb:Array Value) (l:List α) (p:α->Bool) (w:World) (hR:Rd w B 2 A n c (jb7 (l.map enc))) (hB:B<=w.heap.size)
  (eg:∀args w,(callFunc gf args).run Tryz.prog w=.ok (.enter gf args) w)
  (hp:∀W x,x∈l->Below w.heap.size w W->Calls Tryz.prog gf (#[.agg #[(enc x).1,(enc x).2]]++lb) W fun e W'=>e=.returned (.bool (p x))/\Below W.heap.size W W') :
  Calls Tryz.prog 109 #[.slice A n c,.func (.func gf) #[] lb] w fun e w'=>e=.returned (.bool (l.any p))/\Below w.heap.size w w':=by
 have H:=ja0 (jah7 enc A n c B gf lb l p w hR hB eg hp)
 have HI:=ja0 (jad2 l p)
 clear hR hB eg hp
 generalize zr6 l p=i at *
 generalize l.any p=r at *
 go_enter Tryz.func109,Tryz.ntmps109
 go_wp2_with fail
 refine H.out.mono ?_
 rintro e w' ⟨rfl,hb⟩
 have HB:=ja0 hb;clear hb
 go_wp2
 all_goals go_ret
 all_goals refine⟨?_,HB.out⟩
 all_goals rw[<-HI.out];rfl
def encT(t:Int×Int):Value×Value:=(.int .i64 t.1,.int .i64 t.2)
def ja9(ts:List (Int×Int)):List Value:=jb7 (ts.map encT)
def ja3(w:World)(B:Nat)(A:Option Addr)(n c:Nat)(ts:List (Int×Int)):Prop:=Rd w B 2 A n c (ja9 ts)
theorem ja3.len{w:World}{B n c:Nat}{A:Option Addr}{ts:List (Int×Int)}(h:ja3 w B A n c ts):ts.length=n:=by
 have:=jy3 h;simpa using this
theorem ja3.at_ {w:World} {B n c:Nat} {A:Option Addr} {ts:List (Int×Int)} (h:ja3 w B A n c ts) {i:Nat} (hi:i<ts.length) :
  ∃ad:Addr,A=some ad/\w.cell? (ad.add (i*2))=some (.int .i64 ts[i].1)/\w.cell? ⟨(ad.add (i*2)).block,(ad.add (i*2)).off+1,none⟩=some (.int .i64 ts[i].2):=by
 obtain⟨ad,e,h1,h2⟩:=jaz2 h (i:=i) (by simpa using hi)
 simp only[List.getElem_map] at h1 h2
 exact⟨ad,e,h1,h2⟩
theorem ja3.below{w w':World}{B n c:Nat}{A:Option Addr}{ts:List (Int×Int)}(h:ja3 w B A n c ts)(hb:Below B w w'):ja3 w' B A n c ts:=Rd.below h hb
theorem ja3.more{w:World}{B B' n c:Nat}{A:Option Addr}{ts:List (Int×Int)}(h:ja3 w B A n c ts)(hb:B<=B'):ja3 w B' A n c ts:=Rd.more h hb
theorem ja3.nmax{w:World}{B n c:Nat}{A:Option Addr}{ts:List (Int×Int)}(h:ja3 w B A n c ts):n<=9223372036854775807:=Rd.nmax h
def okT(last:Int)(t:Int×Int):Bool:=decide (last<t.2)&&decide (t.2<=1000)&&decide (t.1≠0)&&inB t.1 (-100000) 100000&&decide ((ja5 t.2.toNat).1<=1)
def jt3:Int->List (Int×Int)->Bool
 | _,[]=>true
 | last,t::ts=>okT last t&&jt3 t.2 ts
def ja7(den:Int)(ts:List (Int×Int)):Bool:=inB den 1 100000&&decide (ts.length<=4)&&jt3 0 ts&&decide (jf2 (den::ts.map (·.1))=1)
def zh8(b:Bool):Int:=if b then 0 else 2
theorem jcp7{ts:List (Int×Int)}{last:Int}{k:Nat}(hk:k<ts.length)(h:jt3 0 ts=jt3 last (ts.drop k)):jt3 0 ts=(okT last ts[k]&&jt3 ts[k].2 (ts.drop (k+1))):=by
 rw[h,List.drop_eq_getElem_cons hk];rfl
theorem jap4{l m:List Int}(h:l.Perm m):∀g:Nat,l.foldl (fun g x=>Nat.gcd g x.natAbs) g=m.foldl (fun g x=>Nat.gcd g x.natAbs) g:=by
 induction h with
 | nil=>intro g;rfl
 | cons x _ ih=>intro g;exact ih _
 | swap x y l=>
  intro g
  simp only[List.foldl_cons]
  rw[Nat.gcd_assoc,Nat.gcd_assoc,Nat.gcd_comm y.natAbs]
 | trans _ _ ih1 ih2=>intro g;rw[ih1,ih2]
theorem zv2{l m:List Int}(h:l.Perm m):jf2 l=jf2 m:=jap4 h 0
theorem zj1(l:List Int):∀x∈l,jf2 l∣x.natAbs:=by
 intro x hx
 obtain⟨a,b,rfl⟩:=List.append_of_mem hx
 have hp:(a++x::b).Perm ((a++b)++[x]):=by
  refine List.Perm.trans (List.perm_middle) ?_
  exact(List.perm_append_singleton x (a++b)).symm
 rw[zv2 hp,jbd9]
 exact Nat.gcd_dvd_right _ _
theorem zr3{l:List Int}{x:Int}(hx:x∈l)(h0:x≠0):1<=jf2 l:=by
 have h:=zj1 l x hx
 rcases Nat.eq_zero_or_pos (jf2 l)with h1|h1
 ·rw[h1] at h
  have:=Nat.eq_zero_of_zero_dvd h
  omega
 ·exact h1
def jdr4(w:World)(den:Int)(ts:List (Int×Int))(v l i:Value)(W:World):Prop:=
 ∃(k:Nat) (last:Int),k<=ts.length/\i=.int .i64 (k:Int)/\l=.int .i64 last/\0<=last/\last<=1000/\W.ownsRow (w.heap.size+1) 3 1 v (k+1) ((den::(ts.take k).map (·.1)).map (Value.int .i64)) /\
  jt3 0 ts=jt3 last (ts.drop k)/\(∀x∈ts.take k,-100000<=x.1/\x.1<=100000)/\Below w.heap.size w W
theorem jah2 (den:Int) (A:Option Addr) (n c B:Nat) (ts:List (Int×Int)) (w:World) (hR:ja3 w B A n c ts) (hB:B<=w.heap.size) :
  Calls Tryz.prog 49 #[.agg #[.int .i64 den,.slice A n c]] w fun e w'=>e=.returned (.int .i64 (zh8 (ja7 den ts)))/\Below w.heap.size w w':=by
 have hm:=hR.nmax
 obtain rfl:=hR.len
 have HR:=ja0 hR;clear hR
 obtain⟨i0,hi0,hz0,hz1,hz2⟩:=info_parts Tryz.infoInt
 cases hd:inB den 1 100000
 ·have HN:=ja0 (show ja7 den ts=false by unfold ja7;rw[hd];rfl)
  have HD:=ja0 hd;clear hd
  go_enter Tryz.func49,Tryz.ntmps49
  go_wp2_with (first
   | (go_at_call 60;refine(jd0 _ _ _ _).mono ?_;rintro e w1 ⟨rfl,rfl⟩;rw[HD.out]))
  go_ret
  exact⟨by rw[HN.out];rfl,(Below.refl _ _).alloc (Nat.le_refl _) _⟩
 ·have HD:=ja0 hd;clear hd
  by_cases h4:ts.length<=4
  ·have hd4:decide (4<(ts.length:Int))=false:=by simp;omega
   go_enter Tryz.func49,Tryz.ntmps49
   go_wp2_with (first
    | (go_at_call 60;refine(jd0 _ _ _ _).mono ?_;rintro e w1 ⟨rfl,rfl⟩;rw[HD.out]))
   go_loopw [3,4,25] (fun v l i W=>jdr4 w den ts v l i W) (fun _ _ i _=>ts.length-(intOf i).toNat)
   case atStart=>
    refine⟨0,0,by omega,rfl,rfl,by omega,by omega,?_,rfl,by simp,((Below.refl _ _).alloc (Nat.le_refl _) _).alloc (by simp) _⟩
    have:=World.ownsRow_lit (base:=w.heap.size+1) (e:=3) (size:=1) (w.alloc (.cells #[.int .i64 den,.slice A ts.length c] 24)) #[.int .i64 den] 1 (by simp) (by unfold maxLen;omega) rfl
    simpa using this
   case round=>
    obtain⟨k,last,hk,rfl,rfl,hl0,hl1,ho,hchk,hco,hbl⟩:=hrel
    have HO:=ja0 ho;clear ho
    have HC:=ja0 hchk;clear hchk
    have HX:=ja0 hco;clear hco
    have HB:=ja0 hbl;clear hbl
    by_cases hlt:k<ts.length
    ·obtain⟨ad,rfl,hc0,hc1⟩:=(HR.out.below (HB.out.mono hB)).at_ hlt
     have HT:=ja0 (jcp7 hlt HC.out)
     have HF:=ja0 (show(ts.take (k+1)).map (·.1)=(ts.take k).map (·.1)++[ts[k].1] by rw[jc7 ts k hlt,List.map_append];rfl)
     have HM:=ja0 (show ∀x∈ts.take (k+1),x∈ts.take k\/x=ts[k] by
      intro x hx
      rw[jc7 ts k hlt,List.mem_append,List.mem_singleton] at hx
      exact hx)
     generalize ts[k]=t at *
     obtain⟨co,ro⟩:=t
     dsimp only at hc0 hc1
     cases ht:okT last (co,ro)
     ·have HN:=ja0 (show ja7 den ts=false by unfold ja7;rw[HT.out,ht];simp)
      have hcase:ro<=last\/(last<ro/\1000<ro)\/(last<ro/\ro<=1000/\(co==0)=true)\/(last<ro/\ro<=1000/\(co==0)=false/\inB co (-100000) 100000=false)\/(last<ro/\ro<=1000/\(co==0)=false/\inB co (-100000) 100000=true/\1<(ja5 ro.toNat).1):=by
       by_cases a1:ro<=last
       ·exact .inl a1
       by_cases a2:1000<ro
       ·exact .inr (.inl ⟨by omega,a2⟩)
       by_cases a3:co=0
       ·exact .inr (.inr (.inl ⟨by omega,by omega,by simpa using a3⟩))
       cases a4:inB co (-100000) 100000
       ·exact .inr (.inr (.inr (.inl ⟨by omega,by omega,by simpa using a3,rfl⟩)))
       ·refine .inr (.inr (.inr (.inr ⟨by omega,by omega,by simpa using a3,rfl,?_⟩)))
        unfold okT at ht
        simp only[Bool.and_eq_false_iff,decide_eq_false_iff_not] at ht
        rcases ht with(((h|h)|h)|h)|h
        ·exact absurd (show last<(co,ro).2 from by show last<ro;omega) h
        ·exact absurd (show(co,ro).2<=1000 from by show ro<=1000;omega) h
        ·exact absurd a3 h
        ·rw[show inB (co,ro).1 (-100000) 100000=true from a4] at h;cases h
        ·have h':¬(ja5 ro.toNat).1<=1:=h
         omega
      clear ht HX HM HF HC HT
      rcases hcase with a1|⟨a1,a2⟩|⟨a1,a2,a3⟩|⟨a1,a2,a3,a4⟩|⟨a1,a2,a3,a4,a5⟩
      ·go_wp2
       go_ret
       exact⟨by rw[HN.out];rfl,HB.out.alloc HB.out.size _⟩
      ·go_wp2
       go_ret
       exact⟨by rw[HN.out];rfl,HB.out.alloc HB.out.size _⟩
      ·go_wp2
       go_ret
       exact⟨by rw[HN.out];rfl,HB.out.alloc HB.out.size _⟩
      ·have A4:=ja0 a4;clear a4
       go_wp2_with (first
        | (go_at_call 60;refine(jd0 _ _ _ _).mono ?_;rintro e w1 ⟨rfl,rfl⟩;rw[A4.out]))
       go_ret
       exact⟨by rw[HN.out];rfl,HB.out.alloc HB.out.size _⟩
      ·have A4:=ja0 a4;clear a4
       obtain⟨m,rfl⟩:=Int.eq_ofNat_of_zero_le (show 0<=ro by omega)
       rw[Int.toNat_natCast] at a5
       have HS:=ja0 (fun W=>zy1 m W (by omega) (by omega))
       generalize (ja5 m).1=sq at *
       generalize (ja5 m).2=rs at *
       go_wp2_with (first
        | (go_at_call 60;refine(jd0 _ _ _ _).mono ?_;rintro e w1 ⟨rfl,rfl⟩;rw[A4.out])
        | (go_at_call 96;refine(HS.out _).mono ?_;rintro e w1 ⟨rfl,q,rfl⟩))
       go_ret
       exact⟨by rw[HN.out];rfl,jc8 (HB.out.alloc HB.out.size _) _⟩
     ·have HK:=ja0 ht
      unfold okT at ht
      simp only[Bool.and_eq_true,decide_eq_true_eq] at ht
      obtain⟨⟨⟨⟨a1,a2⟩,a3⟩,a4⟩,a5⟩:=ht
      have A4:=ja0 a4;clear a4
      have a6:-100000<=co/\co<=100000:=by
       have:=A4.out
       simpa [inB] using this
      obtain⟨m,rfl⟩:=Int.eq_ofNat_of_zero_le (show 0<=ro by omega)
      rw[Int.toNat_natCast] at a5
      have HS:=ja0 (fun W=>zy1 m W (by omega) (by omega))
      have a3':(co==0)=false:=by simpa using a3
      clear a3
      generalize (ja5 m).1=sq at *
      generalize (ja5 m).2=rs at *
      have a5':¬(1:Int)<(sq:Int):=by omega
      go_wp2_with (first
       | (go_at_call 60;refine(jd0 _ _ _ _).mono ?_;rintro e w1 ⟨rfl,rfl⟩;rw[A4.out])
       | (go_at_call 96;refine(HS.out _).mono ?_;rintro e w1 ⟨rfl,q,rfl⟩))
      have HB1:=ja0 (jc8 (HB.out.alloc HB.out.size (.cells #[.int .i64 co,.int .i64 (m:Int)] 59)) q)
      have HO1:=ja0 (show((wr.alloc (.cells #[.int .i64 co,.int .i64 (m:Int)] 59)).drewN q).ownsRow (w.heap.size+1) 3 1 u3 (k+1) ((den::(ts.take k).map (·.1)).map (Value.int .i64))from HO.out.alloc _)
      have hcc0:((wr.alloc (.cells #[.int .i64 co,.int .i64 (m:Int)] 59)).drewN q).cell? ⟨wr.heap.size,0,none⟩=some (.int .i64 co):=by simp
      have hcc1:((wr.alloc (.cells #[.int .i64 co,.int .i64 (m:Int)] 59)).drewN q).cell? ⟨wr.heap.size,1,none⟩=some (.int .i64 (m:Int)):=by simp
      have hsz1:=HB1.out.size
      have hltW:wr.heap.size<((wr.alloc (.cells #[.int .i64 co,.int .i64 (m:Int)] 59)).drewN q).heap.size:=by simp
      have hne3:some wr.heap.size≠u3.ownBlock:=fun e=>by have:=(HO.out.lt _ e.symm).2;omega
      have HU:=ja0 hne3;clear hne3
      generalize (wr.alloc (.cells #[.int .i64 co,.int .i64 (m:Int)] 59)).drewN q=W at *
      go_region_law (first
       | (refine step_append_lies _ rfl _ _ 52 rfl (w.heap.size+1) 3 i0 (.int .i64 0) 1 8 Tryz.underlying52 hi0 hz0 hz1 hz2 rfl (by decide) u3 (k+1) _ rfl (World.ownsRow.alloc HO1.out _) ⟨W.heap.size,0,none⟩ 1 1 [.int .i64 co] rfl rfl (jm4 _ _ _) (by simp[Value.oneCell']) (by decide) (by unfold maxLen;omega) (by omega) (by simp;omega) _ rfl ?_;intro g cap w3 hown' hgrow hat hlt3;have hc3:w3.cell? ⟨wr.heap.size,1,none⟩=some (.int .i64 (m:Int)):=hgrow.cell (a:=⟨wr.heap.size,1,none⟩) ((World.cell?_alloc_lt _ _ _ hltW).trans hcc1) HU.out;have HO3:=ja0 hown';have HG3:=ja0 hgrow;clear hown' hgrow hat hlt3))
      all_goals
       go_wp2
       go_roundw
       case rel=>
        refine⟨k+1,(m:Int),by omega,by go_num,rfl,by omega,by omega,?_,?_,?_,?_⟩
        ·rw[HF.out]
         have:=HO3.out
         simpa using this
        ·rw[HT.out]
         rw[HK.out];rfl
        ·intro x hx
         rcases HM.out x hx with h|rfl
         ·exact HX.out x h
         ·exact a6
        ·exact(jc8 (HB1.out.alloc hsz1 _) 1).grown HG3.out (by simp;omega) (fun j e=>by have:=(HO1.out.lt j e).1;omega)
       case measure=>simp[intOf];omega
    ·obtain rfl:k=ts.length:=by omega
     obtain⟨A3,c3,rfl⟩:=jc1 HO.out
     have hden:1<=den/\den<=100000:=by
      have:=HD.out
      simpa [inB] using this
     have hrd:=Rd.of_own HO.out
     have hc:=HC.out
     rw[List.drop_length] at hc
     have HN:=ja0 (show ja7 den ts=decide (jf2 (den::ts.map (·.1))=1) by unfold ja7;rw[HD.out,hc];simp[h4,jt3])
     rw[List.take_length] at hrd
     have HDV:=ja0 (fun W (hW:W=wr)=>zp9 A3 (ts.length+1) c3 wr.heap.size (den::ts.map (·.1)) W (by subst hW;exact hrd) (by
      intro x hx
      rcases List.mem_cons.1 hx with rfl|hx
      ·omega
      ·obtain⟨y,hy,rfl⟩:=List.mem_map.1 hx
       have:=HX.out y (by rw[List.take_length];exact hy)
       omega))
     clear hrd hc
     generalize jf2 (den::ts.map (·.1))=gg at *
     by_cases hg:gg=1
     ·subst hg
      go_wp2_with (first
       | (go_at_call 97;refine(HDV.out _ rfl).mono ?_;rintro e w1 ⟨rfl,q,rfl⟩))
      go_ret
      exact⟨by rw[HN.out];rfl,jc8 HB.out _⟩
     ·have hg':((gg:Int)==1)=false:=by rw[beq_eq_false_iff_ne];omega
      have HG:=ja0 hg;clear hg
      go_wp2_with (first
       | (go_at_call 97;refine(HDV.out _ rfl).mono ?_;rintro e w1 ⟨rfl,q,rfl⟩))
      go_ret
      exact⟨by rw[HN.out];simp[HG.out,zh8],jc8 HB.out _⟩
  ·have hd4:decide (4<(ts.length:Int))=true:=by simp;omega
   have HN:=ja0 (show ja7 den ts=false by unfold ja7;rw[HD.out];simp[h4])
   go_enter Tryz.func49,Tryz.ntmps49
   go_wp2_with (first
    | (go_at_call 60;refine(jd0 _ _ _ _).mono ?_;rintro e w1 ⟨rfl,rfl⟩;rw[HD.out]))
   go_ret
   exact⟨by rw[HN.out];rfl,(Below.refl _ _).alloc (Nat.le_refl _) _⟩
end Go.Proofs.YtphcodcdfeohhaaGreatDoor
