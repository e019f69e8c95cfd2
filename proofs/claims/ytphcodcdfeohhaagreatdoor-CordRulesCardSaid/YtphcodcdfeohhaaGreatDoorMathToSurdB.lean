import Init
import Derived.Test.YtphcodcdfeohhaaGreatDoorBaseToStage
import Derived.Maps.Own
import Derived.Maps.OwnOps
import Derived.Maps.OwnSet
import Derived.RangeFuncRecord
set_option linter.all false
namespace Go.Proofs.YtphcodcdfeohhaaGreatDoor
set_option maxHeartbeats 1000000
def JH:Nat->Nat->Nat->Nat->Nat×Nat
 | 0,_,sq,rest=>(sq,rest)
 | f+1,d,sq,rest=>
  if d*d<=rest then
   if rest % (d*d)=0 then JH f d (sq*d) (rest/(d*d))else JH f (d+1) sq rest
  else(sq,rest)
theorem zd3:∀(f g d sq rest:Nat),2<=d->rest-d<f->rest-d<g->JH f d sq rest=JH g d sq rest:=by
 intro f
 induction f with
 | zero=>intro g d sq rest _ h;omega
 | succ f ih=>
  intro g d sq rest hd hf hg
  cases g with
  | zero=>omega
  | succ g=>
   unfold JH
   by_cases h1:d*d<=rest
   ·rw[if_pos h1,if_pos h1]
    have h2:2*d<=d*d:=Nat.mul_le_mul_right d hd
    by_cases h3:rest % (d*d)=0
    ·rw[if_pos h3,if_pos h3]
     have h4:rest/(d*d)<rest:=Nat.div_lt_self (by omega) (by omega)
     exact ih g d _ _ hd (by omega) (by omega)
    ·rw[if_neg h3,if_neg h3]
     exact ih g (d+1) _ _ (by omega) (by omega) (by omega)
   ·rw[if_neg h1,if_neg h1]
def qE(d sq rest:Nat):Nat×Nat:=JH (rest+1) d sq rest
theorem Qt{d sq rest:Nat}(h:rest<d*d):qE d sq rest=(sq,rest):=by
 unfold qE JH;rw[if_neg (by omega)]
theorem zn8{d sq rest:Nat}(hd:2<=d)(hr:1<=rest)(h:rest % (d*d)=0):qE d sq rest=qE d (sq*d) (rest/(d*d)):=by
 have hle:d*d<=rest:=Nat.le_of_dvd (by omega) (Nat.dvd_of_mod_eq_zero h)
 have h2:2*d<=d*d:=Nat.mul_le_mul_right d hd
 have h4:rest/(d*d)<rest:=Nat.div_lt_self (by omega) (by omega)
 conv=>lhs;unfold qE JH
 rw[if_pos hle,if_pos h]
 generalize rest/(d*d)=q at *
 exact zd3 _ _ _ _ _ hd (by omega) (by omega)
theorem zd4{d sq rest:Nat}(hd:2<=d)(hr:1<=rest)(h:rest % (d*d)≠0):qE d sq rest=qE (d+1) sq rest:=by
 have h2:2*d<=d*d:=Nat.mul_le_mul_right d hd
 by_cases hle:d*d<=rest
 ·conv=>lhs;unfold qE JH
  rw[if_pos hle,if_neg h]
  exact zd3 _ _ _ _ _ (by omega) (by omega) (by omega)
 ·rw[Qt (by omega),Qt]
  have:d*d<=(d+1)*(d+1):=Nat.mul_le_mul (by omega) (by omega)
  omega
def jo(n:Nat):Nat×Nat:=qE 2 1 n
def jm7(n:Nat):Prop:=∀e,2<=e->¬e*e∣n
theorem jat0:∀(f d sq rest:Nat),2<=d->1<=rest->rest-d<f->(∀e,2<=e->e<d->¬e*e∣rest) ->
  ∃m,(JH f d sq rest).1=sq*m/\1<=m/\m*m*(JH f d sq rest).2=rest/\jm7 (JH f d sq rest).2:=by
 intro f
 induction f with
 | zero=>intro d sq rest _ _ h;omega
 | succ f ih=>
  intro d sq rest hd hr hf hno
  unfold JH
  have h2:2*d<=d*d:=Nat.mul_le_mul_right d hd
  by_cases h1:d*d<=rest
  ·rw[if_pos h1]
   by_cases h3:rest % (d*d)=0
   ·rw[if_pos h3]
    have h4:rest/(d*d)<rest:=Nat.div_lt_self (by omega) (by omega)
    have h5:1<=rest/(d*d):=(Nat.le_div_iff_mul_le (by omega)).2 (by omega)
    have h6:rest/(d*d)*(d*d)=rest:=Nat.div_mul_cancel (Nat.dvd_of_mod_eq_zero h3)
    obtain⟨m,e1,e2,e3,e4⟩:=ih d (sq*d) (rest/(d*d)) hd h5 (by omega) (λe he hl hdv=>hno e he hl (Nat.dvd_trans hdv ⟨d*d,h6.symm⟩))
    refine⟨d*m,by rw[e1,Nat.mul_assoc],Nat.mul_pos (by omega) (by omega),?_,e4⟩
    generalize (JH f d (sq*d) (rest/(d*d))).2=r at *
    rw[<-e3] at h6
    rw[<-h6]
    grind
   ·rw[if_neg h3]
    refine ih (d+1) sq rest (by omega) hr (by omega) (λe he hl hdv=>?_)
    rcases Nat.lt_or_ge e d with h|h
    ·exact hno e he h hdv
    ·have:e=d:=by omega
     subst this
     exact h3 (Nat.mod_eq_zero_of_dvd hdv)
  ·rw[if_neg h1]
   refine⟨1,by simp,by omega,by simp,λe he hdv=>?_⟩
   rcases Nat.lt_or_ge e d with h|h
   ·exact hno e he h hdv
   ·have h7:=Nat.le_of_dvd (by omega) hdv
    have:d*d<=e*e:=Nat.mul_le_mul h h
    omega
theorem JR(n:Nat)(h:1<=n):(jo n).1*(jo n).1*(jo n).2=n/\jm7 (jo n).2/\1<=(jo n).1/\1<=(jo n).2:=by
 obtain⟨m,e1,e2,e3,e4⟩:=jat0 (n+1) 2 1 n (by omega) h (by omega) (λe _ _=>by omega)
 have hs:jo n=JH (n+1) 2 1 n:=rfl
 rw[Nat.one_mul] at e1
 rw[hs,e1]
 refine⟨e3,e4,e2,?_⟩
 rcases Nat.eq_zero_or_pos (JH (n+1) 2 1 n).2 with h0|h0
 ·rw[h0] at e3;omega
 ·exact h0
theorem za7(n:Nat)(h:1<=n):(jo n).1<=n/\(jo n).2<=n:=by
 obtain⟨h1,_,h3,h4⟩:=JR n h
 refine⟨?_,?_⟩
 ·calc (jo n).1<=(jo n).1*(jo n).1:=Nat.le_mul_of_pos_left _ h3
   _<=(jo n).1*(jo n).1*(jo n).2:=Nat.le_mul_of_pos_right _ h4
   _=n:=h1
 ·calc (jo n).2<=(jo n).1*(jo n).1*(jo n).2:=Nat.le_mul_of_pos_left _ (Nat.mul_pos h3 h3)
   _=n:=h1
theorem jg6(n:Nat)(h:1<=n):(jo n).1=1↔jm7 n:=by
 obtain⟨h1,h2,h3,_⟩:=JR n h
 constructor
 ·intro e
  rw[e] at h1
  have:(jo n).2=n:=by omega
  rw[<-this];exact h2
 ·intro hf
  rcases Nat.lt_or_ge 1 (jo n).1 with hlt|hle
  ·exact absurd ⟨(jo n).2,h1.symm⟩ (hf _ hlt)
  ·omega
def jM(l:List Int):Nat:=l.foldl (λg x=>Nat.gcd g x.natAbs) 0
theorem jh6(l:List Int)(x:Int):jM (l++[x])=Nat.gcd (jM l) x.natAbs:=by
 unfold jM;simp[List.foldl_append]
theorem jw{α:Type}(l:List α)(k:Nat)(h:k<l.length):l.take (k+1)=l.take k++[l[k]]:=List.take_succ_eq_append_getElem h
theorem jbm5(l:List Int)(k:Nat)(h:k<l.length):jM (l.take (k+1))=Nat.gcd (jM (l.take k)) (l[k]).natAbs:=by
 rw[jw l k h,jh6]
theorem jbt2(a b:Int)(h:b≠0):Nat.gcd b.natAbs (a.tmod b).natAbs=Nat.gcd a.natAbs b.natAbs/\(a.tmod b).natAbs<b.natAbs:=by
 have hb:0<b.natAbs:=by omega
 rw[Int.natAbs_tmod]
 refine⟨?_,Nat.mod_lt _ hb⟩
 rw[Nat.gcd_comm b.natAbs,<-Nat.gcd_rec,Nat.gcd_comm]
open Go.RowKit
def zz(a b c:Int):Bool:=decide (b<=a)&&decide (a<=c)
theorem zj(a b c:Int)(w:World):Calls Tryz.prog 60 #[.int .i64 a,.int .i64 b,.int .i64 c] w λe w'=>e=.returned (.bool (zz a b c))/\w'=w:=by
 unfold zz
 go_enter Tryz.func60,Tryz.ntmps60
 go_wp2
 all_goals go_ret
 ·simp[*]
 ·have h:¬b<=a:=by omega
  simp[h]
theorem jd9 (A:Option Addr) (n c B:Nat) (l:List Int) (w:World) (hR:qP w B A n c l) (hb:∀x∈l,-9000000000000000000<=x/\x<=9000000000000000000) :
  Calls Tryz.prog 97 #[.slice A n c] w λe w'=>e=.returned (.int .i64 (jM l))/\∃q,w'=w.drewN q:=by
 have hm:=hR.nmax
 obtain rfl:=hR.len
 go_enter Tryz.func97,Tryz.ntmps97
 go_wp2
 go_loopw [2,7] (λa i W=>∃(k:Nat) (x:Int),k<=l.length/\i=.int .i64 k/\a=.int .i64 x/\x.natAbs=jM (l.take k)/\(-9000000000000000000<=x/\x<=9000000000000000000)/\∃q,W=w.drewN q) (λ_ i _=>l.length-(intOf i).toNat)
 case atStart=>exact⟨0,0,by omega,rfl,rfl,rfl,by omega,0,rfl⟩
 case round=>
  obtain⟨k,x,hk,rfl,rfl,hx,hxb,q,rfl⟩:=hrel
  have HX:=ja hx;clear hx
  have Hb:=ja hb;clear hb
  by_cases hlt:k<l.length
  ·obtain⟨ad,rfl,hcell⟩:=hR.at_ hlt
   have hyb:=Hb.o l[k] (by simp)
   have HT:=ja (jbm5 l k hlt)
   have HR:=ja hR;clear hR
   generalize l[k]=y at *
   go_wp2
   go_loopw [2,4] (λa b W=>∃(u v:Int),a=.int .i64 u/\b=.int .i64 v/\Nat.gcd u.natAbs v.natAbs=Nat.gcd x.natAbs y.natAbs/\(-9000000000000000000<=u/\u<=9000000000000000000)/\(-9000000000000000000<=v/\v<=9000000000000000000)/\∃q,W=w.drewN q) (λ_ b _=>(intOf b).natAbs)
   case atStart=>exact⟨x,y,rfl,rfl,rfl,hxb,hyb,q,rfl⟩
   case round=>
    obtain⟨u,v,rfl,rfl,huv,hub,hvb,q1,rfl⟩:=hrel
    have HUV:=ja huv;clear huv
    by_cases hv:v=0
    ·subst hv
     go_wp2
     go_roundw
     case rel=>
      refine⟨k+1,u,by omega,by go_num,rfl,?_,hub,_,rfl⟩
      have h1:=HUV.o
      rw[HT.o,<-HX.o,<-h1];simp
     case measure=>simp[intOf];omega
    ·have hne:(v==0)=false:=by simpa using hv
     have hne':(v !=0)=true:=by simpa using hv
     have hs:=jbt2 u v hv
     have HS:=ja hs;clear hs
     go_wp2
     go_quiet (fail)
     go_wp2
     go_roundw
     case rel=>exact⟨v,u.tmod v,rfl,rfl,by rw[HS.o.1];exact HUV.o,hvb,by have:=HS.o.2;omega,dd _ _ _⟩
     case measure=>exact HS.o.2
  ·have hk':k=l.length:=by omega
   subst hk'
   have hne:decide ((l.length:Int)<l.length)=false:=by simp
   have HE:(x.natAbs:Int)=(jM l:Int):=by have:=HX.o;rw[List.take_length] at this;rw[this]
   have HE':=ja HE;clear HE
   go_wp2
   all_goals go_ret
   all_goals exact⟨qK (by rw[<-HE'.o];omega),_,rfl⟩
theorem jv4{n sq rest:Nat}(h:sq*sq*rest=n)(hr:1<=rest)(hs:1<=sq)(hn:n<=1000000000000):rest<=1000000000000/\sq<=1000000:=by
 have h1:rest<=sq*sq*rest:=Nat.le_mul_of_pos_left _ (Nat.mul_pos hs hs)
 have h2:sq*sq<=sq*sq*rest:=Nat.le_mul_of_pos_right _ hr
 refine⟨by omega,?_⟩
 rcases Nat.lt_or_ge sq 1000001 with h3|h3
 ·omega
 ·have:1000001*1000001<=sq*sq:=Nat.mul_le_mul h3 h3
  omega
theorem jcf5{d m:Nat}(h:d*d<=m)(hm:m<=1000000000000):d<=1000000:=by
 rcases Nat.lt_or_ge d 1000001 with h3|h3
 ·omega
 ·have:1000001*1000001<=d*d:=Nat.mul_le_mul h3 h3
  omega
theorem jj7 (n:Nat) (w:World) (hn:1<=n) (hm:n<=1000000000000) :
  Calls Tryz.prog 96 #[.int .i64 (n:Int)] w λe w'=>e=.returned (.tuple #[.int .i64 ((jo n).1:Int),.int .i64 ((jo n).2:Int)])/\∃q,w'=w.drewN q:=by
 go_enter Tryz.func96,Tryz.ntmps96
 go_wp2
 go_loopw [2,3,4] (λs r d W=>∃(sq rest d0:Nat),s=.int .i64 (sq:Int)/\r=.int .i64 (rest:Int)/\d=.int .i64 (d0:Int)/\2<=d0/\d0<=1000001/\1<=rest/\1<=sq/\sq*sq*rest=n/\qE d0 sq rest=jo n/\∃q,W=w.drewN q) (λ_ r d _=>(intOf r).toNat-(intOf d).toNat)
 case atStart=>exact⟨1,n,2,rfl,rfl,rfl,by omega,by omega,hn,by omega,by simp,rfl,0,rfl⟩
 case round=>
  obtain⟨sq,rest,d,rfl,rfl,rfl,hd,hdm,hr,hs,hval,hT,q,rfl⟩:=hrel
  have hbb:=jv4 hval hr hs hm
  have hdd:(d*d:Nat)<=1000002000001:=Nat.le_trans (Nat.mul_le_mul hdm hdm) (by decide)
  have hdd':(d:Int)*(d:Int)<=1000002000001:=by rw[<-Int.natCast_mul];omega
  have hdd0:0<=(d:Int)*(d:Int):=Int.mul_nonneg (by omega) (by omega)
  have HV:=ja hval;clear hval
  have HT:=ja hT;clear hT
  by_cases hle:d*d<=rest
  ·have hle':(d:Int)*(d:Int)<=(rest:Int):=by exact_mod_cast hle
   have hd2:2*d<=d*d:=Nat.mul_le_mul_right d hd
   have hd3:(2:Int)*d<=(d:Int)*d:=by exact_mod_cast hd2
   have hdb:=jcf5 hle hbb.1
   go_wp2
   go_loopw [2,3] (λs r W=>∃(sq' rest':Nat),s=.int .i64 (sq':Int)/\r=.int .i64 (rest':Int)/\1<=rest'/\rest'<=rest/\1<=sq'/\sq'*sq'*rest'=n/\qE d sq' rest'=jo n/\∃q,W=w.drewN q) (λ_ r _=>(intOf r).toNat)
   case atStart=>exact⟨sq,rest,rfl,rfl,hr,by omega,hs,HV.o,HT.o,q,rfl⟩
   case round=>
    obtain⟨sq',rest',rfl,rfl,hr',hrr,hs',hval',hT',q1,rfl⟩:=hrel
    have hbb':=jv4 hval' hr' hs' hm
    have HV':=ja hval';clear hval'
    have HT':=ja hT';clear hT'
    by_cases hz:rest' % (d*d)=0
    ·have hz':((rest':Int) % ((d:Int)*(d:Int))==0)=true:=by
      rw[beq_iff_eq];exact_mod_cast hz
     have hle2:d*d<=rest':=Nat.le_of_dvd (by omega) (Nat.dvd_of_mod_eq_zero hz)
     have HD:=ja (zn8 (sq:=sq') hd hr' hz)
     have h4:rest'/(d*d)<rest':=Nat.div_lt_self (by omega) (by omega)
     have h5:1<=rest'/(d*d):=(Nat.le_div_iff_mul_le (by omega)).2 (by omega)
     have h6:rest'/(d*d)*(d*d)=rest':=Nat.div_mul_cancel (Nat.dvd_of_mod_eq_zero hz)
     have hmul:(sq':Int)*(d:Int)<=1000000000000:=by
      have:sq'*d<=1000000*1000000:=Nat.mul_le_mul hbb'.2 hdb
      rw[<-Int.natCast_mul];omega
     have hmul0:0<=(sq':Int)*(d:Int):=Int.mul_nonneg (by omega) (by omega)
     go_wp2
     have HQ:=ja (show(rest':Int)/((d:Int)*(d:Int))=((rest'/(d*d):Nat):Int) by simp)
     have hq1:0<=(rest':Int)/((d:Int)*(d:Int)):=by rw[HQ.o];omega
     have hq2:(rest':Int)/((d:Int)*(d:Int))<=1000000000000:=by rw[HQ.o];omega
     go_quiet (fail)
     go_wp2
     go_roundw
     case rel=>
      refine⟨sq'*d,rest'/(d*d),by rw[Int.natCast_mul],by rw[HQ.o],h5,by omega,Nat.mul_pos hs' (by omega),?_,by rw[<-HD.o];exact HT'.o,dd _ _ _⟩
      have h7:=HV'.o
      generalize rest'/(d*d)=x at h6
      rw[<-h7,<-h6];grind
     case measure=>simp only[intOf];rw[HQ.o];omega
    ·have hz':((rest':Int) % ((d:Int)*(d:Int))==0)=false:=by
      rw[beq_eq_false_iff_ne];intro h;exact hz (by exact_mod_cast h)
     go_wp2
     go_roundw
     case rel=>exact⟨sq',rest',d+1,rfl,rfl,by go_num,by omega,by omega,hr',hs',HV'.o,by rw[<-zd4 hd hr' hz];exact HT'.o,_,rfl⟩
     case measure=>simp[intOf];omega
  ·have hle':¬(d:Int)*(d:Int)<=(rest:Int):=by intro h;exact hle (by exact_mod_cast h)
   have HS:=ja (Qt (sq:=sq) (show rest<d*d by omega))
   go_wp2
   go_ret2
   refine⟨?_,_,rfl⟩
   rw[<-HT.o,HS.o];rfl
def JC:List (Int×Value)->Int->Nat->Option (Nat×Value)
 | [],_,_=>none
 | (a,v)::t,r,i=>if r=a then some (i,v)else JC t r (i+1)
def zk0(kv:List (Int×Value))(r:Int)(z:Value):Value:=((JC kv r 0).map (·.2)).getD z
def jc9:List (Int×Value)->Int->Value->List (Int×Value)
 | [],r,v=>[(r,v)]
 | (a,x)::t,r,v=>if r=a then(a,v)::t else(a,x)::jc9 t r v
def KV(es:List MapEntry)(kv:List (Int×Value)):Prop:=es.map (λe=>(e.key,e.val))=kv.map (λp=>(Value.int .i64 p.1,p.2))
def jt(w:World)(b:Nat)(kv:List (Int×Value)):Prop:=
 ∃(es:Array MapEntry) (clk:Nat),w.heap[b]?=some (.map es clk)/\KV es.toList kv/\(kv.map (·.1)).Nodup/\(es.toList.map (·.born)).Nodup/\∀e∈es.toList,e.born<clk
theorem jam2:∀(kv:List (Int×Value)) (r:Int) (i:Nat),JC kv r (i+1)=(JC kv r i).map (λp=>(p.1+1,p.2)):=by
 intro kv
 induction kv with
 | nil=>intro r i;rfl
 | cons p t ih=>
  intro r i
  unfold JC
  split
  ·rfl
  ·exact ih r (i+1)
theorem jn0(q:IntKind):∀(es:List MapEntry) (kv:List (Int×Value)) (r:Int) (i:Nat),KV es kv->Instr.findNow (.int q) (.int .i64 r) es i=some (JC kv r i):=by
 intro es
 induction es with
 | nil=>
  intro kv r i h
  cases kv with
  | nil=>rfl
  | cons p t=>simp[KV] at h
 | cons e es ih=>
  intro kv r i h
  cases kv with
  | nil=>simp[KV] at h
  | cons p t=>
   obtain⟨a,v⟩:=p
   simp only[KV,List.map_cons,List.cons.injEq,Prod.mk.injEq] at h
   obtain⟨⟨hk,hv⟩,ht⟩:=h
   unfold Instr.findNow JC
   rw[hk]
   by_cases hra:r=a
   ·subst hra
    simp[Instr.sameNow,hv]
   ·have hf:(r==a)=false:=by simpa using hra
    simp only[Instr.sameNow,if_true,hf,if_neg hra]
    exact ih t r (i+1) ht
theorem ja3:∀(kv:List (Int×Value)) (r:Int) (i j:Nat) (v:Value),JC kv r i=some (j,v)->i<=j/\j-i<kv.length/\kv[j-i]?=some (r,v):=by
 intro kv
 induction kv with
 | nil=>intro r i j v h;cases h
 | cons p t ih=>
  intro r i j v h
  obtain⟨a,x⟩:=p
  unfold JC at h
  split at h
  ·rename_i hra
   subst hra
   simp only[Option.some.injEq,Prod.mk.injEq] at h
   obtain⟨rfl,rfl⟩:=h
   simp
  ·obtain⟨h1,h2,h3⟩:=ih r (i+1) j v h
   refine⟨by omega,by simp;omega,?_⟩
   rw[show j-i=(j-(i+1))+1 by omega,List.getElem?_cons_succ]
   exact h3
theorem zk1:∀(kv:List (Int×Value)) (r:Int) (i:Nat),JC kv r i=none↔r∉kv.map (·.1):=by
 intro kv
 induction kv with
 | nil=>intro r i;simp[JC]
 | cons p t ih=>
  intro r i
  obtain⟨a,x⟩:=p
  unfold JC
  by_cases hra:r=a
  ·subst hra;simp
  ·rw[if_neg hra,ih];simp[hra]
theorem jaa8:∀(kv:List (Int×Value)) (r:Int) (v:Value),r∉kv.map (·.1)->jc9 kv r v=kv++[(r,v)]:=by
 intro kv
 induction kv with
 | nil=>intro r v _;rfl
 | cons p t ih=>
  intro r v h
  obtain⟨a,x⟩:=p
  simp only[List.map_cons,List.mem_cons,not_or] at h
  unfold jc9
  rw[if_neg h.1,ih r v h.2];rfl
theorem jbt7:∀(kv:List (Int×Value)) (r:Int) (v:Value) (i j:Nat) (x:Value),JC kv r i=some (j,x)->jc9 kv r v=kv.modify (j-i) (λp=>(p.1,v)):=by
 intro kv
 induction kv with
 | nil=>intro r v i j x h;cases h
 | cons p t ih=>
  intro r v i j x h
  obtain⟨a,y⟩:=p
  unfold JC at h
  unfold jc9
  split at h
  ·rename_i hra
   simp only[Option.some.injEq,Prod.mk.injEq] at h
   obtain⟨rfl,rfl⟩:=h
   rw[if_pos hra];simp
  ·rename_i hra
   rw[if_neg hra]
   have h1:=(ja3 t r (i+1) j x h).1
   rw[ih r v (i+1) j x h,show j-i=(j-(i+1))+1 by omega,List.modify_succ_cons]
theorem jbt6:∀(kv:List (Int×Value)) (r:Int) (v:Value),(jc9 kv r v).map (·.1)=if r∈kv.map (·.1)then kv.map (·.1)else kv.map (·.1)++[r]:=by
 intro kv
 induction kv with
 | nil=>intro r v;simp[jc9]
 | cons p t ih=>
  intro r v
  obtain⟨a,x⟩:=p
  unfold jc9
  by_cases hra:r=a
  ·subst hra;simp
  ·rw[if_neg hra]
   simp only[List.map_cons,ih,List.mem_cons,hra,false_or]
   split<;>simp
theorem zp6(kv:List (Int×Value))(r:Int)(v:Value)(h:(kv.map (·.1)).Nodup):((jc9 kv r v).map (·.1)).Nodup:=by
 rw[jbt6]
 split
 ·exact h
 ·rename_i hn
  rw[List.nodup_append]
  exact⟨h,by simp,λa ha b hb=>by simp at hb;subst hb;exact λe=>hn (e▸ha)⟩
theorem KV.len{es:List MapEntry}{kv:List (Int×Value)}(h:KV es kv):es.length=kv.length:=by
 have:=congrArg List.length h;simpa using this
theorem KV.get{es:List MapEntry}{kv:List (Int×Value)}(h:KV es kv){i:Nat}{r:Int}{v:Value}(hi:kv[i]?=some (r,v)):∃e,es[i]?=some e/\e.key=.int .i64 r/\e.val=v:=by
 have h1:(es.map (λe=>(e.key,e.val)))[i]?=(kv.map (λp=>(Value.int .i64 p.1,p.2)))[i]?:=by rw[h]
 rw[List.getElem?_map,List.getElem?_map,hi] at h1
 cases he:es[i]? with
 | none=>rw[he] at h1;cases h1
 | some e=>
  rw[he] at h1
  simp only[Option.map_some,Option.some.injEq,Prod.mk.injEq] at h1
  exact⟨e,rfl,h1.1,h1.2⟩
theorem KV.modify {es:List MapEntry} {kv:List (Int×Value)} (h:KV es kv) (i:Nat) (r:Int) (v:Value) (hi:∃x,kv[i]?=some (r,x)) :
  KV (es.modify i λe=>{ e with key:=.int .i64 r,val:=v }) (kv.modify i λp=>(p.1,v)):=by
 unfold KV at h ⊢
 apply List.ext_getElem?
 intro j
 have hj:(es.map (λe=>(e.key,e.val)))[j]?=(kv.map (λp=>(Value.int .i64 p.1,p.2)))[j]?:=by rw[h]
 rw[List.getElem?_map,List.getElem?_map] at hj
 rw[List.getElem?_map,List.getElem?_map,List.getElem?_modify,List.getElem?_modify]
 by_cases hij:i=j
 ·subst hij
  obtain⟨x,hx⟩:=hi
  rw[hx] at hj ⊢
  cases he:es[i]? with
  | none=>rw[he] at hj;cases hj
  | some e=>simp
 ·simp only[hij,if_false]
  simpa using hj
section
variable {P : Program} {w : World} {b : Nat} {kv : List (Int × Value)}
theorem jt.lt(h:jt w b kv):b<w.heap.size:=by
 obtain⟨es,clk,hb,_⟩:=h
 exact lt_of_block hb
theorem jt.nodup(h:jt w b kv):(kv.map (·.1)).Nodup:=by
 obtain⟨es,clk,_,_,h1,_⟩:=h;exact h1
theorem jt.of_block{w':World}(h:jt w b kv)(hb:w'.heap[b]?=w.heap[b]?):jt w' b kv:=by
 obtain⟨es,clk,h1,h2⟩:=h
 exact⟨es,clk,hb.trans h1,h2⟩
theorem jt.new(w:World):jt (w.alloc (.map #[] 0)) w.heap.size []:=
 ⟨#[],0,heap_alloc_new w _,rfl,by simp,by simp,by simp⟩
theorem jt.drewN(h:jt w b kv)(n:Nat):jt (w.drewN n) b kv:=h
theorem jt.drew(h:jt w b kv):jt w.drew b kv:=h
theorem jt.alloc(h:jt w b kv)(o:Obj):jt (w.alloc o) b kv:=h.of_block (Below.heap_alloc w o b h.lt)
theorem jt.setCell(h:jt w b kv)(p:Addr)(u:Value):jt (w.setCell p u) b kv:=by
 by_cases hp:b=p.block
 ·obtain⟨es,clk,h1,h2⟩:=h
  refine⟨es,clk,?_,h2⟩
  simp only[World.setCell,Array.getElem?_modify,hp]
  rw[hp] at h1
  rw[h1];rfl
 ·exact h.of_block (Below.heap_setCell w p u b hp)
theorem jt.below{B:Nat}{w':World}(h:jt w b kv)(hb:Below B w w')(hB:b<B):jt w' b kv:=h.of_block (hb.block b hB)
theorem jt.grown{w':World}{row:Option Nat}(h:jt w b kv)(hg:w.grownBy w' row)(hr:some b≠row):jt w' b kv:=h.of_block (hg.block b h.lt hr)
theorem qi{K:TypeId}{q:IntKind}(hK:P.underlying K=some (.int q))(e:Bool)(n:Nat)(r:Int):(Instr.checkKey e (n+1) K (.int .i64 r)).run P w=.ok () w:=by
 simp[Instr.checkKey,run_underlying hK]
theorem qu {T K E:TypeId} {q:IntKind} (h:jt w b kv) (hT:P.underlying T=some (.map K E)) (hK:P.underlying K=some (.int q)) (z:Value)
  (hz:∀w,(zeroValue E).run P w=.ok z w) (r:Int):(Instr.lookup T (.map (some b)) (.int .i64 r) false).run P w=.ok (zk0 kv r z) w:=by
 obtain⟨es,clk,hb,hkv,_⟩:=h
 have hget:(getObj b).run P w=.ok (.map es clk) w:=by simp[getObj,Sem.run,hb]
 have hck:∀e,(Instr.checkKey e 10000 K (.int .i64 r)).run P w=.ok () w:=λe=>qi hK e 9999 r
 have hfind:(Instr.findKey K (.int .i64 r) es.toList).run P w=.ok (JC kv r 0) w:=by
  simp[Instr.findKey,run_underlying hK,jn0 q es.toList kv r 0 hkv]
 unfold zk0
 simp only[Instr.lookup]
 cases hi:JC kv r 0 with
 | none=>simp[run_underlying hT,hget,hck,hfind,hi,hz]
 | some p=>simp[run_underlying hT,hget,hck,hfind,hi]
theorem QE {T K E:TypeId} {q:IntKind} (h:jt w b kv) (hT:P.underlying T=some (.map K E)) (hK:P.underlying K=some (.int q)) (r:Int) (v:Value) :
  ∃w',(Instr.mapUpdate T (.map (some b)) (.int .i64 r) v).run P w=.ok () w'/\jt w' b (jc9 kv r v)/\w.grownBy w' (some b)/\w'.heap.size=w.heap.size:=by
 have hlt:=h.lt
 have hnd:=h.nodup
 obtain⟨es,clk,hb,hkv,_,hbn,hbl⟩:=h
 have hget:(getObj b).run P w=.ok (.map es clk) w:=by simp[getObj,Sem.run,hb]
 have hck:∀e,(Instr.checkKey e 10000 K (.int .i64 r)).run P w=.ok () w:=λe=>qi hK e 9999 r
 have hfind:(Instr.findKey K (.int .i64 r) es.toList).run P w=.ok (JC kv r 0) w:=by
  simp[Instr.findKey,run_underlying hK,jn0 q es.toList kv r 0 hkv]
 have hset:∀es' c,(setObj b (.map es' c)).run P w=.ok () (w.putObj b (.map es' c)):=by
  intro es' c;simp[setObj,Sem.run,hb,World.putObj]
 have hgb:∀o,w.grownBy (w.putObj b o) (some b):=λo=>
  ⟨rfl,rfl,rfl,by simp,λk _ hk=>World.putObj_heap_other (λe=>hk (by rw[e]))⟩
 cases hi:JC kv r 0 with
 | none=>
  refine⟨w.putObj b (.map (es.push { key:=.int .i64 r,val:=v,born:=clk }) (clk+1)),?_,?_,hgb _,by simp⟩
  ·simp only[Instr.mapUpdate]
   simp[run_underlying hT,hget,hck,hfind,hi,hset]
  ·have hn:=(zk1 kv r 0).1 hi
   refine⟨_,_,World.putObj_heap_same hlt,?_,zp6 kv r v hnd,?_,?_⟩
   ·unfold KV at hkv ⊢
    rw[jaa8 kv r v hn]
    simp[hkv]
   ·simp only[Array.toList_push,List.map_append,List.map_cons,List.map_nil]
    rw[List.nodup_append]
    refine⟨hbn,by simp,λa ha c hc=>?_⟩
    simp only[List.mem_singleton] at hc
    obtain⟨e,he,rfl⟩:=List.mem_map.1 ha
    have:=hbl e he
    omega
   ·intro e he
    simp only[Array.toList_push,List.mem_append,List.mem_singleton] at he
    rcases he with he|rfl
    ·have:=hbl e he;omega
    ·simp
 | some p=>
  obtain⟨i,x⟩:=p
  obtain⟨_,h2,h3⟩:=ja3 kv r 0 i x hi
  rw[Nat.sub_zero] at h2 h3
  obtain⟨e,he,hek,_⟩:=hkv.get h3
  have hea:es[i]?=some e:=by rw[<-Array.getElem?_toList];exact he
  have hkey:(Instr.keyThatStays (((es[i]?).map (·.key)).getD (.int .i64 r)) (.int .i64 r)).run P w=.ok (.int .i64 r) w:=by
   simp[Instr.keyThatStays,hea,hek,Instr.sameBits]
  refine⟨w.putObj b (.map (es.modify i λe=>{ e with key:=.int .i64 r,val:=v }) clk),?_,?_,hgb _,by simp⟩
  ·simp only[Instr.mapUpdate]
   simp only[Sem.run_bind,run_underlying hT,Result.andThen_ok,hget,hck,hfind,hi,hkey,hset]
  ·refine⟨_,_,World.putObj_heap_same hlt,?_,zp6 kv r v hnd,?_,?_⟩
   ·rw[Array.toList_modify,jbt7 kv r v 0 i x hi,Nat.sub_zero]
    exact hkv.modify i r v ⟨x,h3⟩
   ·rw[Array.toList_modify]
    have:(List.modify es.toList i λe=>{ e with key:=.int .i64 r,val:=v }).map (·.born)=es.toList.map (·.born):=by
     apply List.ext_getElem?
     intro j
     rw[List.getElem?_map,List.getElem?_map,List.getElem?_modify]
     by_cases hij:i=j
     ·simp[hij];cases es[j]?<;>rfl
     ·simp[hij]
    rw[this];exact hbn
   ·intro e' he'
    rw[Array.toList_modify] at he'
    obtain⟨j,hj⟩:=List.mem_iff_getElem?.1 he'
    rw[List.getElem?_modify] at hj
    cases hej:es.toList[j]? with
    | none=>rw[hej] at hj;cases hj
    | some e0=>
     have h0:=hbl e0 (List.mem_iff_getElem?.2 ⟨j,hej⟩)
     rw[hej] at hj
     by_cases hij:i=j
     ·simp[hij] at hj;subst hj;exact h0
     ·simp[hij] at hj;subst hj;exact h0
end
section
variable {P : Program} (w : World) {ops : Array Oper} {rest : List Oper} {o : Oper} {a : Act} {Q : Exit → Act → World → Prop}
theorem Za (hg:o.guard=none) (m x:Operand) (t:TypeId) (hop:o.op=Op.lookup t m x false) {K E:TypeId} {q:IntKind} (hT:P.underlying t=some (.map K E)) (hK:P.underlying K=some (.int q)) (z:Value)
  (hz:∀w,(zeroValue E).run P w=.ok z w) (b:Nat) (kv:List (Int×Value)) (r:Int) (hm:a.eval m=.map (some b)) (hx:a.eval x=.int .i64 r) (h:jt w b kv)
  (hn:wpList P ops Q rest (a.put o.dst (zk0 kv r z)) w):wpList P ops Q (o::rest) a w:=by
 refine wpList_plain hg λK' hK'=>?_
 unfold Oper.wp
 simp[execOp,hop,hm,hx,qu h hT hK z hz r,Result.andThen]
 exact hK' _ _ hn
theorem Zb (hg:o.guard=none) (m x y:Operand) (t:TypeId) (hop:o.op=Op.mapUpdate t m x y) {K E:TypeId} {q:IntKind} (hT:P.underlying t=some (.map K E)) (hK:P.underlying K=some (.int q))
  (b:Nat) (kv:List (Int×Value)) (r:Int) (v:Value) (hm:a.eval m=.map (some b)) (hx:a.eval x=.int .i64 r) (hy:a.eval y=v) (h:jt w b kv)
  (hn:∀w',jt w' b (jc9 kv r v)->w.grownBy w' (some b)->w'.heap.size=w.heap.size->wpList P ops Q rest (a.put o.dst undef) w'):wpList P ops Q (o::rest) a w:=by
 obtain⟨w',hr,h1,h2,h3⟩:=QE h hT hK r v
 refine wpList_plain hg λK' hK'=>?_
 unfold Oper.wp
 simp[execOp,hop,hm,hx,hy,hr,Result.andThen]
 exact hK' _ _ (hn w' h1 h2 h3)
end
def zM(kv:List (Int×Int)):List (Int×Value):=kv.map λp=>(p.1,.int .i64 p.2)
def zb:List (Int×Int)->Int->Int
 | [],_=>0
 | (a,x)::t,r=>if r=a then x else zb t r
def addS:List (Int×Int)->Int->Int->List (Int×Int)
 | [],r,c=>[(r,c)]
 | (a,x)::t,r,c=>if r=a then(a,x+c)::t else(a,x)::addS t r c
theorem qN:∀(kv:List (Int×Int)) (r:Int),zk0 (zM kv) r (.int .i64 0)=.int .i64 (zb kv r):=by
 intro kv
 unfold zk0
 induction kv with
 | nil=>intro r;rfl
 | cons p t ih=>
  intro r
  obtain⟨a,x⟩:=p
  by_cases h:r=a
  ·simp[zM,JC,zb,h]
  ·have h1:=ih r
   simp only[zM,List.map_cons,JC,zb,if_neg h]
   rw[jam2]
   rw[<-h1]
   simp[zM,Option.map_map,Function.comp_def]
theorem jg7:∀(kv:List (Int×Int)) (r c:Int),jc9 (zM kv) r (.int .i64 (zb kv r+c))=zM (addS kv r c):=by
 intro kv
 induction kv with
 | nil=>intro r c;simp[zM,jc9,addS,zb]
 | cons p t ih=>
  intro r c
  obtain⟨a,x⟩:=p
  by_cases h:r=a
  ·simp[zM,jc9,addS,zb,h]
  ·have h1:=ih r c
   simp only[zM,List.map_cons,jc9,addS,zb,if_neg h] at h1 ⊢
   rw[h1]
def zH(w:World)(b:Nat)(kv:List (Int×Int)):Prop:=jt w b (zM kv)
def addRoot(kv:List (Int×Int))(coef root:Int):List (Int×Int):=
 if 0<root then addS kv ((jo root.toNat).2:Int) (coef*((jo root.toNat).1:Int))else kv
theorem zd5 (b:Nat) (kv:List (Int×Int)) (coef root:Int) (w:World) (h:zH w b kv) (hr:root<=1000000000000)
  (h1:-1000000000000000000<=coef*((jo root.toNat).1:Int)/\coef*((jo root.toNat).1:Int)<=1000000000000000000)
  (h2:∀r,-8000000000000000000<=zb kv r/\zb kv r<=8000000000000000000) :
  Calls Tryz.prog 63 #[.map (some b),.int .i64 coef,.int .i64 root] w λe w'=>e=.returned (.tuple #[])/\zH w' b (addRoot kv coef root)/\w.grownBy w' (some b)/\w'.heap.size=w.heap.size:=by
 by_cases hp:0<root
 ·obtain⟨n,rfl⟩:=Int.eq_ofNat_of_zero_le (show 0<=root by omega)
  rw[Int.toNat_natCast] at h1
  have h3:=h2 ((jo n).2:Int)
  have HA:=ja (show addRoot kv coef n=addS kv ((jo n).2:Int) (coef*((jo n).1:Int)) by unfold addRoot;rw[if_pos hp,Int.toNat_natCast])
  have HU:=ja (jg7 kv ((jo n).2:Int) (coef*((jo n).1:Int)))
  have HG:=ja (qN kv ((jo n).2:Int))
  have H:=ja h;clear h
  clear h2
  have HS:=λw=>jj7 n w (by omega) (by omega)
  have HS':=ja HS;clear HS
  generalize (jo n).1=sq at *
  generalize (jo n).2=rest at *
  go_enter Tryz.func63,Tryz.ntmps63
  go_wp2_with (first
   | (go_at_call 96;refine(HS'.o _).mono ?_;rintro e w' ⟨rfl,q,rfl⟩)
   | (at_lookup;refine Za _ rfl _ _ _ rfl Tryz.underlying104 Tryz.underlying3 (.int .i64 0) Tryz.zeroValue3 b (zM kv) _ rfl rfl (jt.drewN H.o _) ?_;rw[HG.o])
   | (at_mapUpdate;refine Zb _ rfl _ _ _ _ rfl Tryz.underlying104 Tryz.underlying3 b (zM kv) _ _ rfl rfl rfl (jt.drewN H.o _) ?_;intro w2 hm2 hg2 hz2))
  go_end0
  refine⟨rfl,?_,⟨hg2.os,hg2.tape,hg2.output,hg2.size,hg2.block⟩,hz2⟩
  unfold zH
  rw[HA.o,<-HU.o]
  exact hm2
 ·have HA:=ja (show addRoot kv coef root=kv by unfold addRoot;rw[if_neg hp])
  have H:=ja h;clear h
  clear h1 h2
  go_enter Tryz.func63,Tryz.ntmps63
  go_wp2
  go_end0
  exact⟨rfl,by rw[HA.o];exact H.o,World.grownBy.refl _ _,rfl⟩
