import Init
set_option linter.unusedVariables false
set_option linter.unusedSimpArgs false
namespace Go.Proofs.YtphcodcdfeohhaaGreatDoor
def jr3:Nat->Nat->Nat->Nat->Nat×Nat
 | 0,_,sq,rest=>(sq,rest)
 | f+1,d,sq,rest=>
  if d*d<=rest then
   if rest % (d*d)=0 then jr3 f d (sq*d) (rest/(d*d))else jr3 f (d+1) sq rest
  else(sq,rest)
theorem jan8:∀(f g d sq rest:Nat),2<=d->rest-d<f->rest-d<g->jr3 f d sq rest=jr3 g d sq rest:=by
 intro f
 induction f with
 | zero=>intro g d sq rest _ h;omega
 | succ f ih=>
  intro g d sq rest hd hf hg
  cases g with
  | zero=>omega
  | succ g=>
   unfold jr3
   by_cases h1:d*d<=rest
   ·rw[if_pos h1,if_pos h1]
    have h2:2*d<=d*d:=Nat.mul_le_mul_right d hd
    by_cases h3:rest % (d*d)=0
    ·rw[if_pos h3,if_pos h3]
     have h4:rest/(d*d)<rest:=Nat.div_lt_self (by omega) (by omega)
     exact ih g d _ _ hd (by omega) (by omega)
    ·rw[if_neg h3,if_neg h3]
     exact ih g (d+1) _ _ (by omega) (by omega) (by omega)
   ·rw[if_neg h1,if_neg h1]
def zd0(d sq rest:Nat):Nat×Nat:=jr3 (rest+1) d sq rest
theorem zt0{d sq rest:Nat}(h:rest<d*d):zd0 d sq rest=(sq,rest):=by
 unfold zd0 jr3;rw[if_neg (by omega)]
theorem jcg6{d sq rest:Nat}(hd:2<=d)(hr:1<=rest)(h:rest % (d*d)=0):zd0 d sq rest=zd0 d (sq*d) (rest/(d*d)):=by
 have hle:d*d<=rest:=Nat.le_of_dvd (by omega) (Nat.dvd_of_mod_eq_zero h)
 have h2:2*d<=d*d:=Nat.mul_le_mul_right d hd
 have h4:rest/(d*d)<rest:=Nat.div_lt_self (by omega) (by omega)
 conv=>lhs;unfold zd0 jr3
 rw[if_pos hle,if_pos h]
 generalize rest/(d*d)=q at *
 exact jan8 _ _ _ _ _ hd (by omega) (by omega)
theorem jbz9{d sq rest:Nat}(hd:2<=d)(hr:1<=rest)(h:rest % (d*d)≠0):zd0 d sq rest=zd0 (d+1) sq rest:=by
 have h2:2*d<=d*d:=Nat.mul_le_mul_right d hd
 by_cases hle:d*d<=rest
 ·conv=>lhs;unfold zd0 jr3
  rw[if_pos hle,if_neg h]
  exact jan8 _ _ _ _ _ (by omega) (by omega) (by omega)
 ·rw[zt0 (by omega),zt0]
  have:d*d<=(d+1)*(d+1):=Nat.mul_le_mul (by omega) (by omega)
  omega
def ja5(n:Nat):Nat×Nat:=zd0 2 1 n
def jy0(n:Nat):Prop:=∀e,2<=e->¬e*e∣n
theorem jbz8:∀(f d sq rest:Nat),2<=d->1<=rest->rest-d<f->(∀e,2<=e->e<d->¬e*e∣rest) ->
  ∃m,(jr3 f d sq rest).1=sq*m/\1<=m/\m*m*(jr3 f d sq rest).2=rest/\jy0 (jr3 f d sq rest).2:=by
 intro f
 induction f with
 | zero=>intro d sq rest _ _ h;omega
 | succ f ih=>
  intro d sq rest hd hr hf hno
  unfold jr3
  have h2:2*d<=d*d:=Nat.mul_le_mul_right d hd
  by_cases h1:d*d<=rest
  ·rw[if_pos h1]
   by_cases h3:rest % (d*d)=0
   ·rw[if_pos h3]
    have h4:rest/(d*d)<rest:=Nat.div_lt_self (by omega) (by omega)
    have h5:1<=rest/(d*d):=(Nat.le_div_iff_mul_le (by omega)).2 (by omega)
    have h6:rest/(d*d)*(d*d)=rest:=Nat.div_mul_cancel (Nat.dvd_of_mod_eq_zero h3)
    obtain⟨m,e1,e2,e3,e4⟩:=ih d (sq*d) (rest/(d*d)) hd h5 (by omega) (fun e he hl hdv=>hno e he hl (Nat.dvd_trans hdv ⟨d*d,h6.symm⟩))
    refine⟨d*m,by rw[e1,Nat.mul_assoc],Nat.mul_pos (by omega) (by omega),?_,e4⟩
    generalize (jr3 f d (sq*d) (rest/(d*d))).2=r at *
    rw[<-e3] at h6
    rw[<-h6]
    grind
   ·rw[if_neg h3]
    refine ih (d+1) sq rest (by omega) hr (by omega) (fun e he hl hdv=>?_)
    rcases Nat.lt_or_ge e d with h|h
    ·exact hno e he h hdv
    ·have:e=d:=by omega
     subst this
     exact h3 (Nat.mod_eq_zero_of_dvd hdv)
  ·rw[if_neg h1]
   refine⟨1,by simp,by omega,by simp,fun e he hdv=>?_⟩
   rcases Nat.lt_or_ge e d with h|h
   ·exact hno e he h hdv
   ·have h7:=Nat.le_of_dvd (by omega) hdv
    have:d*d<=e*e:=Nat.mul_le_mul h h
    omega
theorem jm9(n:Nat)(h:1<=n):(ja5 n).1*(ja5 n).1*(ja5 n).2=n/\jy0 (ja5 n).2/\1<=(ja5 n).1/\1<=(ja5 n).2:=by
 obtain⟨m,e1,e2,e3,e4⟩:=jbz8 (n+1) 2 1 n (by omega) h (by omega) (fun e _ _=>by omega)
 have hs:ja5 n=jr3 (n+1) 2 1 n:=rfl
 rw[Nat.one_mul] at e1
 rw[hs,e1]
 refine⟨e3,e4,e2,?_⟩
 rcases Nat.eq_zero_or_pos (jr3 (n+1) 2 1 n).2 with h0|h0
 ·rw[h0] at e3;omega
 ·exact h0
theorem zj6(n:Nat)(h:1<=n):(ja5 n).1<=n/\(ja5 n).2<=n:=by
 obtain⟨h1,_,h3,h4⟩:=jm9 n h
 refine⟨?_,?_⟩
 ·calc (ja5 n).1<=(ja5 n).1*(ja5 n).1:=Nat.le_mul_of_pos_left _ h3
   _<=(ja5 n).1*(ja5 n).1*(ja5 n).2:=Nat.le_mul_of_pos_right _ h4
   _=n:=h1
 ·calc (ja5 n).2<=(ja5 n).1*(ja5 n).1*(ja5 n).2:=Nat.le_mul_of_pos_left _ (Nat.mul_pos h3 h3)
   _=n:=h1
theorem zg4(n:Nat)(h:1<=n):(ja5 n).1=1↔jy0 n:=by
 obtain⟨h1,h2,h3,_⟩:=jm9 n h
 constructor
 ·intro e
  rw[e] at h1
  have:(ja5 n).2=n:=by omega
  rw[<-this];exact h2
 ·intro hf
  rcases Nat.lt_or_ge 1 (ja5 n).1 with hlt|hle
  ·exact absurd ⟨(ja5 n).2,h1.symm⟩ (hf _ hlt)
  ·omega
def jf2(l:List Int):Nat:=l.foldl (fun g x=>Nat.gcd g x.natAbs) 0
theorem jbd9(l:List Int)(x:Int):jf2 (l++[x])=Nat.gcd (jf2 l) x.natAbs:=by
 unfold jf2;simp[List.foldl_append]
theorem jc7{α:Type}(l:List α)(k:Nat)(h:k<l.length):l.take (k+1)=l.take k++[l[k]]:=List.take_succ_eq_append_getElem h
theorem jcr9(l:List Int)(k:Nat)(h:k<l.length):jf2 (l.take (k+1))=Nat.gcd (jf2 (l.take k)) (l[k]).natAbs:=by
 rw[jc7 l k h,jbd9]
theorem jcz5(a b:Int)(h:b≠0):Nat.gcd b.natAbs (a.tmod b).natAbs=Nat.gcd a.natAbs b.natAbs/\(a.tmod b).natAbs<b.natAbs:=by
 have hb:0<b.natAbs:=by omega
 rw[Int.natAbs_tmod]
 refine⟨?_,Nat.mod_lt _ hb⟩
 rw[Nat.gcd_comm b.natAbs,<-Nat.gcd_rec,Nat.gcd_comm]
end Go.Proofs.YtphcodcdfeohhaaGreatDoor
