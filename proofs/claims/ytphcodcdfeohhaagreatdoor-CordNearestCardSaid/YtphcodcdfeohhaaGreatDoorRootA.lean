import Derived.Test.YtphcodcdfeohhaaGreatDoorQuoB
set_option linter.unusedVariables false
set_option linter.unusedSimpArgs false
namespace Go.Proofs.YtphcodcdfeohhaaGreatDoor
set_option maxRecDepth 100000
set_option maxHeartbeats 2000000
open Go.RowKit
theorem jds5{r n:Nat}(h1:r*r<=n)(h2:n<(r+1)*(r+1)):r=isq n:=Nat.le_antisymm (jav6 h1) (zm1 (zg9 n) h2)
def bitW(j:Nat):Nat:=if j=0 then 0 else 2 ^ (j-1)
theorem jbd6(j:Nat):bitW (j+1)=2 ^ j:=by unfold bitW;rw[if_neg (by omega)];rfl
theorem jcp3(j:Nat):bitW (j+1)/2=bitW j:=by
 rw[jbd6]
 unfold bitW
 cases j with
 | zero=>rfl
 | succ j=>rw[if_neg (by omega),Nat.pow_succ,Nat.mul_div_cancel _ (by omega)];rfl
theorem jda1(n:Nat)(w:World)(hn:n<=1000000000000):Calls Tryz.prog 66 #[.int .i64 n] w fun e w'=>e=.returned (.int .i64 (isq n))/\∃q,w'=w.drewN q:=by
 go_enter Tryz.func66,Tryz.ntmps66
 go_wp2
 go_loopw [3,4] (fun a b W=>∃(j r:Nat),j<=32/\a=.int .i64 r/\b=.int .i64 (bitW j)/\r*r<=n/\n<(r+2 ^ j)*(r+2 ^ j)/\∃q,W=w.drewN q) (fun _ b _=>(intOf b).toNat)
 case atStart=>exact⟨32,0,by omega,rfl,rfl,by omega,by omega,0,rfl⟩
 case round=>
  obtain⟨j,r,hj,rfl,rfl,h1,h2,q,rfl⟩:=hrel
  cases j with
  | zero=>
   have hb:bitW 0=0:=rfl
   rw[hb]
   have hr:=ja0 (jds5 h1 (by simpa using h2))
   go_wp2
   go_ret
   refine⟨?_,q,rfl⟩
   rw[<-hr.out];rfl
  | succ j=>
   have hb:=jbd6 j
   have hh:=jcp3 j
   have hbl:2 ^ j<=2 ^ 31:=Nat.pow_le_pow_right (by omega) (by omega)
   have hbp:1<=2 ^ j:=Nat.one_le_two_pow
   have hrl:r<=1000000:=by
    rcases Nat.lt_or_ge 1000000 r with h|h
    ·have:=Nat.mul_le_mul h h;omega
    ·exact h
   rw[Nat.pow_succ] at h2
   rw[hb] at hh ⊢
   obtain⟨b,hbe⟩:∃b,2 ^ j=b:=⟨_,rfl⟩
   have HBE:=ja0 hbe
   rw[hbe] at hh hbl hbp h2 ⊢
   clear hbe hb
   have hsq:(r+b)*(r+b)<=(1000000+2 ^ 31)*(1000000+2 ^ 31):=Nat.mul_le_mul (by omega) (by omega)
   have hcast:((r:Int)+(b:Int))*((r:Int)+(b:Int))=(((r+b)*(r+b):Nat):Int):=by rw[Int.natCast_mul,Int.natCast_add]
   by_cases hc:(r+b)*(r+b)<=n
   ·have HC:=ja0 hc
    have e1:(r+b+b)*(r+b+b)=(r+b*2)*(r+b*2):=by rw[show r+b+b=r+b*2 by omega]
    generalize hsq2:(r+b)*(r+b)=sq at *
    have HSQ:=ja0 hsq2
    clear hsq2
    go_wp2
    refine⟨⟨j,r+b,by omega,rfl,?_,by rw[HSQ.out];exact HC.out,by rw[HBE.out,e1];exact h2,q,rfl⟩,by simp[intOf];omega⟩
    rw[<-hh];simp
   ·generalize hsq2:(r+b)*(r+b)=sq at *
    have HSQ:=ja0 hsq2
    clear hsq2
    go_wp2
    refine⟨⟨j,r,by omega,rfl,?_,h1,by rw[HBE.out,HSQ.out];omega,q,rfl⟩,by simp[intOf];omega⟩
    rw[<-hh];simp
def jj1(kv:List (Int×Int))(num den sign:Int):List (Int×Int):=
 if 0<num then addS kv ((ja5 (num*den).toNat).2:Int) (sign*((ja5 (num*den).toNat).1:Int))else kv
theorem zr9 (b:Nat) (kv:List (Int×Int)) (num den sign:Int) (w:World) (h:jg6 w b kv) (hd:1<=den/\den<=200000) (hn:-200000<=num/\num<=200000) (hs:-1<=sign/\sign<=1) (h2:∀r,-1000000000000000000<=jc3 kv r/\jc3 kv r<=1000000000000000000) :
  Calls Tryz.prog 65 #[.agg #[.int .i64 num,.int .i64 den],.map (some b),.int .i64 sign] w fun e w'=>e=.returned (.tuple #[])/\jg6 w' b (jj1 kv num den sign)/\w.grownBy w' (some b):=by
 have HX:=ja0 (Blk.new w 108 #[.int .i64 num,.int .i64 den])
 have hlt:=ja6.lt h
 obtain⟨q1,q2,_,_⟩:=HX.out.two
 by_cases hp:0<num
 ·obtain⟨nn,hnn⟩:=Int.eq_ofNat_of_zero_le (show 0<=num*den from Int.mul_nonneg (by omega) (by omega))
  have hm:=jc0 (a:=num) (b:=den) (A:=200000) (B:=200000) hn ⟨by omega,by omega⟩
  have hm1:(1:Int)*1<=num*den:=Int.mul_le_mul (by omega) (by omega) (by omega) (by omega)
  have hnb:1<=nn/\nn<=40000000000:=by omega
  have HA:=ja0 (show jj1 kv num den sign=addS kv ((ja5 nn).2:Int) (sign*((ja5 nn).1:Int)) by unfold jj1;rw[if_pos hp,hnn,Int.toNat_natCast])
  have h3:=h2 ((ja5 nn).2:Int)
  have HU:=ja0 (zt4 kv ((ja5 nn).2:Int) (sign*((ja5 nn).1:Int)))
  have HG:=ja0 (zb5 kv ((ja5 nn).2:Int))
  have HS:=ja0 (fun w=>zy1 nn w (by omega) (by omega))
  have hle:=zj6 nn hnb.1
  have HI:=ja0 (ja6.alloc h (.cells #[.int .i64 num,.int .i64 den] 108))
  have hmm:=jc0 (a:=sign) (b:=((ja5 nn).1:Int)) (A:=1) (B:=40000000000) (by omega) ⟨by omega,by omega⟩
  clear h h2
  generalize (ja5 nn).1=sq at *
  generalize (ja5 nn).2=rest at *
  generalize jc3 kv (rest:Int)=gv at *
  have hcs:-9000000000000000000<=gv+sign*(sq:Int)/\gv+sign*(sq:Int)<=9000000000000000000:=by omega
  have hcm:-9000000000000000000<=sign*(sq:Int)/\sign*(sq:Int)<=9000000000000000000:=by omega
  have hcn:-9000000000000000000<=num*den/\num*den<=9000000000000000000:=by omega
  go_enter Tryz.func65,Tryz.ntmps65
  go_wp2_with (first
   | (go_at_call 96;refine(HS.out _).mono ?_;rintro e w' ⟨rfl,q,rfl⟩)
   | (at_lookup;refine jp8 _ rfl _ _ _ rfl Tryz.underlying104 Tryz.underlying3 (.int .i64 0) Tryz.zeroValue3 b (jh8 kv) _ rfl rfl (ja6.drewN HI.out _) ?_;rw[HG.out])
   | (at_mapUpdate;refine jp9 _ rfl _ _ _ _ rfl Tryz.underlying104 Tryz.underlying3 b (jh8 kv) _ (.int .i64 (gv+sign*(sq:Int))) rfl rfl rfl (ja6.drewN HI.out _) ?_;intro w2 hm2 hg2 hz2))
  go_end0
  refine⟨rfl,?_,jp1 (jac8 (jp0 (World.grownBy.refl w _) _) _) hg2 (fun _ _=>.inl rfl)⟩
  unfold jg6
  rw[HA.out,<-HU.out]
  exact hm2
 ·have HA:=ja0 (show jj1 kv num den sign=kv by unfold jj1;rw[if_neg hp])
  have H:=ja0 h;clear h
  clear h2
  go_enter Tryz.func65,Tryz.ntmps65
  go_wp2
  go_end0
  exact⟨rfl,by rw[HA.out];exact ja6.alloc H.out _,jp0 (World.grownBy.refl w _) _⟩
end Go.Proofs.YtphcodcdfeohhaaGreatDoor
