import Derived.Test.YtphcodcdfeohhaaGreatDoorIdxToSurdF
import Derived.Test.YtphcodcdfeohhaaGreatDoorSurdGToSurdM
set_option linter.unusedVariables false
set_option linter.unusedSimpArgs false
namespace Go.Proofs.YtphcodcdfeohhaaGreatDoor
set_option maxRecDepth 100000
set_option maxHeartbeats 1000000
open Go.RowKit
theorem jap5 {α:Type} (enc:α->Value×Value) (A:Option Addr) (n c B gf:Nat) (lb:Array Value) (l:List α) (p:α->Bool) (w:World) (hR:Rd w B 2 A n c (jb7 (l.map enc))) (hB:B<=w.heap.size)
  (eg:∀args w,(callFunc gf args).run Tryz.prog w=.ok (.enter gf args) w)
  (hp:∀W x,x∈l->Below w.heap.size w W->Calls Tryz.prog gf (#[.agg #[(enc x).1,(enc x).2]]++lb) W fun e W'=>e=.returned (.bool (p x))/\Below W.heap.size W W') :
  Calls Tryz.prog 129 #[.slice A n c,.func (.func gf) #[] lb] w fun e w'=>e=.returned (.int .i64 (zr6 l p))/\Below w.heap.size w w':=by
 have hm:=hR.nmax
 obtain rfl:l.length=n:=by have:=jy3 hR;simpa using this
 have HP:=ja0 hp;clear hp
 have HR:=ja0 hR;clear hR
 go_enter Tryz.func129,Tryz.ntmps129
 go_wp2
 go_loopw [8] (fun i W=>∃k:Nat,k<=l.length/\i=.int .i64 (k:Int)/\(∀j (h:j<l.length),j<k->p l[j]=false)/\Below w.heap.size w W) (fun i _=>l.length-(intOf i).toNat)
 case atStart=>exact⟨0,by omega,rfl,fun j _ h=>by omega,Below.refl _ _⟩
 case round=>
  obtain⟨k,hk,rfl,hno,hbl⟩:=hrel
  have HNO:=ja0 hno;clear hno
  have HB:=ja0 hbl;clear hbl
  by_cases hlt:k<l.length
  ·obtain⟨ad,rfl,hc0,hc1⟩:=jaz2 (HR.out.below (HB.out.mono hB)) (i:=k) (by simpa using hlt)
   simp only[List.getElem_map] at hc0 hc1
   have HC:=ja0 (HP.out wr l[k] (by simp) HB.out)
   clear hB
   generalize hx:l[k]=x at *
   have HX:=ja0 hx;clear hx
   generalize (enc x).1=a at *
   generalize (enc x).2=b at *
   cases hpx:p x
   ·have HPX:=ja0 hpx;clear hpx
    go_wp2_with (first
     | (refine(HC.out).mono ?_;rintro e w1 ⟨rfl,hb1⟩;rw[HPX.out];have HB1:=ja0 hb1;clear hb1))
    go_roundw
    case rel=>exact⟨k+1,by omega,by go_num,fun j h hj=>by
     rcases Nat.lt_or_ge j k with h1|h1
     ·exact HNO.out j h h1
     ·obtain rfl:j=k:=by omega
      rw[HX.out];exact HPX.out,js6 HB.out HB1.out HB.out.size⟩
    case measure=>simp[intOf];omega
   ·have HPX:=ja0 hpx;clear hpx
    go_wp2_with (first
     | (refine(HC.out).mono ?_;rintro e w1 ⟨rfl,hb1⟩;rw[HPX.out];have HB1:=ja0 hb1;clear hb1))
    go_ret
    exact⟨zb2 (zv6 hlt (by rw[HX.out];exact HPX.out) (fun j h=>HNO.out j (by omega) h)).symm,js6 HB.out HB1.out HB.out.size⟩
  ·obtain rfl:k=l.length:=by omega
   go_wp2
   go_ret
   exact⟨zb2 (zv5 (fun j h=>HNO.out j h h)).symm,HB.out⟩
theorem zb9 {α:Type} (enc:α->Value×Value) (A:Option Addr) (n c B gf:Nat) (lb:Array Value) (l:List α) (p:α->Bool) (w:World) (hR:Rd w B 2 A n c (jb7 (l.map enc))) (hB:B<=w.heap.size)
  (eg:∀args w,(callFunc gf args).run Tryz.prog w=.ok (.enter gf args) w)
  (hp:∀W x,x∈l->Below w.heap.size w W->Calls Tryz.prog gf (#[.agg #[(enc x).1,(enc x).2]]++lb) W fun e W'=>e=.returned (.bool (p x))/\Below W.heap.size W W') :
  Calls Tryz.prog 74 #[.slice A n c,.func (.func gf) #[] lb] w fun e w'=>e=.returned (.bool (l.any p))/\Below w.heap.size w w':=by
 have H:=ja0 (jap5 enc A n c B gf lb l p w hR hB eg hp)
 have HI:=ja0 (jad2 l p)
 clear hR hB eg hp
 generalize zr6 l p=i at *
 generalize l.any p=r at *
 go_enter Tryz.func74,Tryz.ntmps74
 go_wp2_with fail
 refine H.out.mono ?_
 rintro e w' ⟨rfl,hb⟩
 have HB:=ja0 hb;clear hb
 go_wp2
 all_goals go_ret
 all_goals refine⟨?_,HB.out⟩
 all_goals rw[<-HI.out];rfl
theorem jcg5{l l':List Int}{r:Int}(hp:l.Perm (r::l'))(hr:∀x∈l',r<=x):jg7 l=r::jg7 l':=by
 have h:(jg7 l).Perm (r::jg7 l'):=(jg5 l).trans (hp.trans ((jg5 l').symm.cons r))
 exact zz2 _ _ h (jv2 l) (List.pairwise_cons.2 ⟨fun x hx=>hr x ((jg5 l').mem_iff.1 hx),jv2 l'⟩)
theorem jcm5{r c:Int}(h:c≠0):nz (r,c)=true:=by simp[nz,h]
theorem jby9(r:Int):nz (r,0)=false:=by simp[nz]
theorem jbs5{xs ys:List (Int×Int)}{r c:Int}(h:c≠0):(xs++(r,c)::ys).filter nz=xs.filter nz++(r,c)::ys.filter nz:=by
 rw[List.filter_append,List.filter_cons,jcm5 h,if_pos rfl]
theorem jbs6{xs ys:List (Int×Int)}{r:Int}:(xs++(r,0)::ys).filter nz=xs.filter nz++ys.filter nz:=by
 rw[List.filter_append,List.filter_cons,jby9]
 simp
theorem jca3 {xs ys:List (Int×Int)} {r c:Int} (G:Int) (hn:((xs++(r,c)::ys).map (·.1)).Nodup) (hc:c≠0) (hl:∀p∈xs++ys,p.2≠0->r<=p.1) :
  jh0 ((xs++(r,c)::ys).filter nz) G=(c.tdiv G,r)::jh0 ((xs++(r,0)::ys).filter nz) G:=by
 rw[jbs5 hc,jbs6]
 have hsub:(((xs.filter nz++(r,c)::ys.filter nz)).map (·.1)).Nodup:=by
  have h:(xs.filter nz++(r,c)::ys.filter nz).Sublist (xs++(r,c)::ys):=List.Sublist.append List.filter_sublist (List.Sublist.cons_cons _ List.filter_sublist)
  exact(h.map (·.1)).nodup hn
 have hmem:∀p∈xs.filter nz++ys.filter nz,p∈xs++ys/\p.2≠0:=fun p hp=>by
  rcases List.mem_append.1 hp with h|h
  ·obtain⟨h1,h2⟩:=List.mem_filter.1 h
   exact⟨List.mem_append_left _ h1,by simpa [nz] using h2⟩
  ·obtain⟨h1,h2⟩:=List.mem_filter.1 h
   exact⟨List.mem_append_right _ h1,by simpa [nz] using h2⟩
 generalize xs.filter nz=X at *
 generalize ys.filter nz=Y at *
 have hperm:((X++(r,c)::Y).map (·.1)).Perm (r::(X++Y).map (·.1)):=by
  have h:=(List.perm_middle (a:=(r,c)) (l₁:=X) (l₂:=Y)).map (·.1)
  rw[List.map_cons] at h
  exact h
 have hsub2:((X++Y).map (·.1)).Nodup:=by
  have:=hperm.nodup_iff.1 hsub
  exact(List.nodup_cons.1 this).2
 unfold jh0
 rw[jcg5 hperm (fun x hx=>by
  obtain⟨p,hp,rfl⟩:=List.mem_map.1 hx
  exact hl p (hmem p hp).1 (hmem p hp).2),List.map_cons]
 rw[jg9 hsub (r,c) (by simp)]
 congr 1
 refine List.map_congr_left fun x hx=>?_
 obtain⟨p,hp,rfl⟩:=List.mem_map.1 ((jg5 _).mem_iff.1 hx)
 rw[jg9 hsub p (by rcases List.mem_append.1 hp with h|h<;>simp[h]),jg9 hsub2 p hp]
theorem jan9{kv:List (Int×Int)}(G:Int)(h:∀p∈kv,p.2=0):jh0 (kv.filter nz) G=[]:=by
 have e:kv.filter nz=[]:=List.filter_eq_nil_iff.2 fun p hp=>by simp[nz,h p hp]
 rw[e]
 unfold jh0
 have:jg7 []=[]:=(jg5 []).eq_nil
 simp[this]
theorem jbk6:∀(kv:List (Int×Int)) (g:Nat),(kv.map (·.2)).foldl (fun g x=>Nat.gcd g x.natAbs) g=((kv.filter nz).map (·.2)).foldl (fun g x=>Nat.gcd g x.natAbs) g
 | [],_=>rfl
 | (r,c)::kv,g=>by
  by_cases h:c=0
  ·subst h
   rw[List.filter_cons,jby9]
   simp only[List.map_cons,List.foldl_cons,Int.natAbs_zero,Nat.gcd_zero_right,Bool.false_eq_true,if_false]
   exact jbk6 kv g
  ·rw[List.filter_cons,jcm5 h,if_pos rfl]
   simp only[List.map_cons,List.foldl_cons]
   exact jbk6 kv _
theorem jdg0(kv:List (Int×Int))(den:Int):jf3 kv den=if den<0 then -(jf2 (den::kv.map (·.2)):Int)else(jf2 (den::kv.map (·.2)):Int):=by
 have e:jf2 ((kv.filter nz).map (·.2)++[den])=jf2 (den::kv.map (·.2)):=by
  rw[zv2 (List.perm_append_singleton den ((kv.filter nz).map (·.2)))]
  unfold jf2
  rw[List.foldl_cons,List.foldl_cons]
  exact(jbk6 kv _).symm
 unfold jf3
 rw[e]
end Go.Proofs.YtphcodcdfeohhaaGreatDoor
