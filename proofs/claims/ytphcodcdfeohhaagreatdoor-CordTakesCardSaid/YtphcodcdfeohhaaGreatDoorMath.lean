import Init
set_option linter.all false
namespace Go.Proofs.YtphcodcdfeohhaaGreatDoor
def JH:Nat->Nat->Nat->Nat->Nat×Nat
 | 0,_,sq,rest=>(sq,rest)
 | f+1,d,sq,rest=>
  if d*d<=rest then
   if rest % (d*d)=0 then JH f d (sq*d) (rest/(d*d))else JH f (d+1) sq rest
  else(sq,rest)
theorem zd3:∀(f g d sq rest:Nat),2<=d->rest-d<f->rest-d<g->JH f d sq rest=JH g d sq rest:=by
 intro f
 induction f with
 | zero=>intro g d sq rest _ h;omega
 | succ f ih=>
  intro g d sq rest hd hf hg
  cases g with
  | zero=>omega
  | succ g=>
   unfold JH
   by_cases h1:d*d<=rest
   ·rw[if_pos h1,if_pos h1]
    have h2:2*d<=d*d:=Nat.mul_le_mul_right d hd
    by_cases h3:rest % (d*d)=0
    ·rw[if_pos h3,if_pos h3]
     have h4:rest/(d*d)<rest:=Nat.div_lt_self (by omega) (by omega)
     exact ih g d _ _ hd (by omega) (by omega)
    ·rw[if_neg h3,if_neg h3]
     exact ih g (d+1) _ _ (by omega) (by omega) (by omega)
   ·rw[if_neg h1,if_neg h1]
def qE(d sq rest:Nat):Nat×Nat:=JH (rest+1) d sq rest
theorem Qt{d sq rest:Nat}(h:rest<d*d):qE d sq rest=(sq,rest):=by
 unfold qE JH;rw[if_neg (by omega)]
theorem zn8{d sq rest:Nat}(hd:2<=d)(hr:1<=rest)(h:rest % (d*d)=0):qE d sq rest=qE d (sq*d) (rest/(d*d)):=by
 have hle:d*d<=rest:=Nat.le_of_dvd (by omega) (Nat.dvd_of_mod_eq_zero h)
 have h2:2*d<=d*d:=Nat.mul_le_mul_right d hd
 have h4:rest/(d*d)<rest:=Nat.div_lt_self (by omega) (by omega)
 conv=>lhs;unfold qE JH
 rw[if_pos hle,if_pos h]
 generalize rest/(d*d)=q at *
 exact zd3 _ _ _ _ _ hd (by omega) (by omega)
theorem zd4{d sq rest:Nat}(hd:2<=d)(hr:1<=rest)(h:rest % (d*d)≠0):qE d sq rest=qE (d+1) sq rest:=by
 have h2:2*d<=d*d:=Nat.mul_le_mul_right d hd
 by_cases hle:d*d<=rest
 ·conv=>lhs;unfold qE JH
  rw[if_pos hle,if_neg h]
  exact zd3 _ _ _ _ _ (by omega) (by omega) (by omega)
 ·rw[Qt (by omega),Qt]
  have:d*d<=(d+1)*(d+1):=Nat.mul_le_mul (by omega) (by omega)
  omega
def jo(n:Nat):Nat×Nat:=qE 2 1 n
def jm7(n:Nat):Prop:=∀e,2<=e->¬e*e∣n
theorem jat0:∀(f d sq rest:Nat),2<=d->1<=rest->rest-d<f->(∀e,2<=e->e<d->¬e*e∣rest) ->
  ∃m,(JH f d sq rest).1=sq*m/\1<=m/\m*m*(JH f d sq rest).2=rest/\jm7 (JH f d sq rest).2:=by
 intro f
 induction f with
 | zero=>intro d sq rest _ _ h;omega
 | succ f ih=>
  intro d sq rest hd hr hf hno
  unfold JH
  have h2:2*d<=d*d:=Nat.mul_le_mul_right d hd
  by_cases h1:d*d<=rest
  ·rw[if_pos h1]
   by_cases h3:rest % (d*d)=0
   ·rw[if_pos h3]
    have h4:rest/(d*d)<rest:=Nat.div_lt_self (by omega) (by omega)
    have h5:1<=rest/(d*d):=(Nat.le_div_iff_mul_le (by omega)).2 (by omega)
    have h6:rest/(d*d)*(d*d)=rest:=Nat.div_mul_cancel (Nat.dvd_of_mod_eq_zero h3)
    obtain⟨m,e1,e2,e3,e4⟩:=ih d (sq*d) (rest/(d*d)) hd h5 (by omega) (λe he hl hdv=>hno e he hl (Nat.dvd_trans hdv ⟨d*d,h6.symm⟩))
    refine⟨d*m,by rw[e1,Nat.mul_assoc],Nat.mul_pos (by omega) (by omega),?_,e4⟩
    generalize (JH f d (sq*d) (rest/(d*d))).2=r at *
    rw[<-e3] at h6
    rw[<-h6]
    grind
   ·rw[if_neg h3]
    refine ih (d+1) sq rest (by omega) hr (by omega) (λe he hl hdv=>?_)
    rcases Nat.lt_or_ge e d with h|h
    ·exact hno e he h hdv
    ·have:e=d:=by omega
     subst this
     exact h3 (Nat.mod_eq_zero_of_dvd hdv)
  ·rw[if_neg h1]
   refine⟨1,by simp,by omega,by simp,λe he hdv=>?_⟩
   rcases Nat.lt_or_ge e d with h|h
   ·exact hno e he h hdv
   ·have h7:=Nat.le_of_dvd (by omega) hdv
    have:d*d<=e*e:=Nat.mul_le_mul h h
    omega
theorem JR(n:Nat)(h:1<=n):(jo n).1*(jo n).1*(jo n).2=n/\jm7 (jo n).2/\1<=(jo n).1/\1<=(jo n).2:=by
 obtain⟨m,e1,e2,e3,e4⟩:=jat0 (n+1) 2 1 n (by omega) h (by omega) (λe _ _=>by omega)
 have hs:jo n=JH (n+1) 2 1 n:=rfl
 rw[Nat.one_mul] at e1
 rw[hs,e1]
 refine⟨e3,e4,e2,?_⟩
 rcases Nat.eq_zero_or_pos (JH (n+1) 2 1 n).2 with h0|h0
 ·rw[h0] at e3;omega
 ·exact h0
theorem za7(n:Nat)(h:1<=n):(jo n).1<=n/\(jo n).2<=n:=by
 obtain⟨h1,_,h3,h4⟩:=JR n h
 refine⟨?_,?_⟩
 ·calc (jo n).1<=(jo n).1*(jo n).1:=Nat.le_mul_of_pos_left _ h3
   _<=(jo n).1*(jo n).1*(jo n).2:=Nat.le_mul_of_pos_right _ h4
   _=n:=h1
 ·calc (jo n).2<=(jo n).1*(jo n).1*(jo n).2:=Nat.le_mul_of_pos_left _ (Nat.mul_pos h3 h3)
   _=n:=h1
theorem jg6(n:Nat)(h:1<=n):(jo n).1=1↔jm7 n:=by
 obtain⟨h1,h2,h3,_⟩:=JR n h
 constructor
 ·intro e
  rw[e] at h1
  have:(jo n).2=n:=by omega
  rw[<-this];exact h2
 ·intro hf
  rcases Nat.lt_or_ge 1 (jo n).1 with hlt|hle
  ·exact absurd ⟨(jo n).2,h1.symm⟩ (hf _ hlt)
  ·omega
def jM(l:List Int):Nat:=l.foldl (λg x=>Nat.gcd g x.natAbs) 0
theorem jh6(l:List Int)(x:Int):jM (l++[x])=Nat.gcd (jM l) x.natAbs:=by
 unfold jM;simp[List.foldl_append]
theorem jw{α:Type}(l:List α)(k:Nat)(h:k<l.length):l.take (k+1)=l.take k++[l[k]]:=List.take_succ_eq_append_getElem h
theorem jbm5(l:List Int)(k:Nat)(h:k<l.length):jM (l.take (k+1))=Nat.gcd (jM (l.take k)) (l[k]).natAbs:=by
 rw[jw l k h,jh6]
theorem jbt2(a b:Int)(h:b≠0):Nat.gcd b.natAbs (a.tmod b).natAbs=Nat.gcd a.natAbs b.natAbs/\(a.tmod b).natAbs<b.natAbs:=by
 have hb:0<b.natAbs:=by omega
 rw[Int.natAbs_tmod]
 refine⟨?_,Nat.mod_lt _ hb⟩
 rw[Nat.gcd_comm b.natAbs,<-Nat.gcd_rec,Nat.gcd_comm]
