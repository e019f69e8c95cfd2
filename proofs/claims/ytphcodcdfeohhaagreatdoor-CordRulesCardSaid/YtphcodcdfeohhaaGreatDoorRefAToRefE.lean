import Derived.Test.YtphcodcdfeohhaaGreatDoorMakeAToCardI
import Derived.Test.YtphcodcdfeohhaaGreatDoorQuoAToSurdL
set_option linter.all false
namespace Go.Proofs.YtphcodcdfeohhaaGreatDoor
set_option maxRecDepth 100000
set_option maxHeartbeats 8000000
open Go.RowKit
def zm8(den:Int)(l:List (Int×Int)):Int×List (Int×Int)×Int:=jY (ju [] l 1) den
theorem jbd3{l l':List Int}{r:Int}(hp:l.Perm (r::l'))(hr:∀x∈l',r<=x):zG l=r::zG l':=by
 have h:(zG l).Perm (r::zG l'):=(zT l).trans (hp.trans ((zT l').symm.cons r))
 exact jm2 _ _ h (ZP l) (List.pairwise_cons.2 ⟨λx hx=>hr x ((zT l').mem_iff.1 hx),ZP l'⟩)
theorem jbh6{r c:Int}(h:c≠0):nz (r,c)=true:=by simp[nz,h]
theorem jar1(r:Int):nz (r,0)=false:=by simp[nz]
theorem Qn{xs ys:List (Int×Int)}{r c:Int}(h:c≠0):(xs++(r,c)::ys).filter nz=xs.filter nz++(r,c)::ys.filter nz:=by
 rw[List.filter_append,List.filter_cons,jbh6 h,if_pos rfl]
theorem Qo{xs ys:List (Int×Int)}{r:Int}:(xs++(r,0)::ys).filter nz=xs.filter nz++ys.filter nz:=by
 rw[List.filter_append,List.filter_cons,jar1]
 simp
theorem zd6 {xs ys:List (Int×Int)} {r c:Int} (G:Int) (hn:((xs++(r,c)::ys).map (·.1)).Nodup) (hc:c≠0) (hl:∀p∈xs++ys,p.2≠0->r<=p.1) :
  zp ((xs++(r,c)::ys).filter nz) G=(c.tdiv G,r)::zp ((xs++(r,0)::ys).filter nz) G:=by
 rw[Qn hc,Qo]
 have hsub:(((xs.filter nz++(r,c)::ys.filter nz)).map (·.1)).Nodup:=by
  have h:(xs.filter nz++(r,c)::ys.filter nz).Sublist (xs++(r,c)::ys):=List.Sublist.append List.filter_sublist (List.Sublist.cons_cons _ List.filter_sublist)
  exact(h.map (·.1)).nodup hn
 have hmem:∀p∈xs.filter nz++ys.filter nz,p∈xs++ys/\p.2≠0:=λp hp=>by
  rcases List.mem_append.1 hp with h|h
  ·obtain⟨h1,h2⟩:=List.mem_filter.1 h
   exact⟨List.mem_append_left _ h1,by simpa [nz] using h2⟩
  ·obtain⟨h1,h2⟩:=List.mem_filter.1 h
   exact⟨List.mem_append_right _ h1,by simpa [nz] using h2⟩
 generalize xs.filter nz=X at *
 generalize ys.filter nz=Y at *
 have hperm:((X++(r,c)::Y).map (·.1)).Perm (r::(X++Y).map (·.1)):=by
  have h:=(List.perm_middle (a:=(r,c)) (l₁:=X) (l₂:=Y)).map (·.1)
  rw[List.map_cons] at h
  exact h
 have hsub2:((X++Y).map (·.1)).Nodup:=by
  have:=hperm.nodup_iff.1 hsub
  exact(List.nodup_cons.1 this).2
 unfold zp
 rw[jbd3 hperm (λx hx=>by
  obtain⟨p,hp,rfl⟩:=List.mem_map.1 hx
  exact hl p (hmem p hp).1 (hmem p hp).2),List.map_cons]
 rw[zr hsub (r,c) (by simp)]
 congr 1
 refine List.map_congr_left λx hx=>?_
 obtain⟨p,hp,rfl⟩:=List.mem_map.1 ((zT _).mem_iff.1 hx)
 rw[zr hsub p (by rcases List.mem_append.1 hp with h|h<;>simp[h]),zr hsub2 p hp]
theorem Qu{kv:List (Int×Int)}(G:Int)(h:∀p∈kv,p.2=0):zp (kv.filter nz) G=[]:=by
 have e:kv.filter nz=[]:=List.filter_eq_nil_iff.2 λp hp=>by simp[nz,h p hp]
 rw[e]
 unfold zp
 have:zG []=[]:=(zT []).eq_nil
 simp[this]
theorem jad0:∀(kv:List (Int×Int)) (g:Nat),(kv.map (·.2)).foldl (λg x=>Nat.gcd g x.natAbs) g=((kv.filter nz).map (·.2)).foldl (λg x=>Nat.gcd g x.natAbs) g
 | [],_=>rfl
 | (r,c)::kv,g=>by
  by_cases h:c=0
  ·subst h
   rw[List.filter_cons,jar1]
   simp only[List.map_cons,List.foldl_cons,Int.natAbs_zero,Nat.gcd_zero_right,Bool.false_eq_true,if_false]
   exact jad0 kv g
  ·rw[List.filter_cons,jbh6 h,if_pos rfl]
   simp only[List.map_cons,List.foldl_cons]
   exact jad0 kv _
theorem jg3(kv:List (Int×Int))(den:Int):jU kv den=if den<0 then -(jM (den::kv.map (·.2)):Int)else(jM (den::kv.map (·.2)):Int):=by
 have e:jM ((kv.filter nz).map (·.2)++[den])=jM (den::kv.map (·.2)):=by
  rw[jh5 (List.perm_append_singleton den ((kv.filter nz).map (·.2)))]
  unfold jM
  rw[List.foldl_cons,List.foldl_cons]
  exact(jad0 kv _).symm
 unfold jU
 rw[e]
theorem zr7(kv a b:List (Int×Int))(m:Int):ju kv (a++b) m=ju (ju kv a m) b m:=by
 unfold ju;rw[List.foldl_append]
theorem zg8(kv l:List (Int×Int))(m:Int):ju kv (l.map λt=>(t.1*m,t.2)) 1=ju kv l m:=by
 unfold ju
 rw[List.foldl_map]
 simp only[Int.mul_one]
theorem jar9 (xd yd times:Int) (xt yt:List (Int×Int)) :
  zm8 (xd*yd) (xt.map (λt=>(t.1*yd,t.2))++yt.map (λt=>(times*t.1*xd,t.2)))=jY (ju (ju [] xt yd) yt (times*xd)) (xd*yd):=by
 unfold zm8
 rw[zr7,zg8]
 congr 1
 rw[<-zg8 _ yt (times*xd)]
 congr 1
 refine List.map_congr_left λt _=>?_
 rw[Int.mul_comm times t.1,Int.mul_assoc]
theorem za3(n a b:Int)(w:World):Calls Tryz.prog 82 #[.int .i64 n,.int .i64 a,.int .i64 b] w λe w'=>e=.returned (.bool (zz n a b))/\w'=w:=by
 unfold zz
 by_cases h1:a<=n
 all_goals
  go_enter Tryz.func82,Tryz.ntmps82
  go_wp2
  go_ret
  exact⟨by first|(simp[h1];done)|(simp[h1];omega),rfl⟩
theorem qW(n:Int)(w:World)(h:-9000000000000000000<=n/\n<=9000000000000000000):Calls Tryz.prog 130 #[.int .i64 n] w λe w'=>e=.returned (.int .i64 (n.natAbs:Int))/\w'=w:=by
 have hm:max n (-n)=(n.natAbs:Int):=by omega
 have hw:IntKind.i64.wrap (-n)=-n:=by rw[IntKind.wrap_i64];omega
 go_enter Tryz.func130,Tryz.ntmps130
 go_wp2
 go_ret
 exact⟨by first|rfl|simp[hm]|(congr 1;congr 1),rfl⟩
theorem jd8 (a b:Int) (w:World) (ha:-9000000000000000000<=a/\a<=9000000000000000000) (hb:-9000000000000000000<=b/\b<=9000000000000000000) :
  Calls Tryz.prog 84 #[.int .i64 a,.int .i64 b] w λe w'=>e=.returned (.int .i64 (Nat.gcd a.natAbs b.natAbs:Int))/\∃m,w'=w.drewN m:=by
 have HA:=ja (λW=>qW a W ha)
 have HBB:=ja (λW=>qW b W hb)
 obtain⟨p0,hp0⟩:∃p:Nat,p=a.natAbs:=⟨_,rfl⟩
 obtain⟨q0,hq0⟩:∃q:Nat,q=b.natAbs:=⟨_,rfl⟩
 have hpb:p0<=9000000000000000000:=by omega
 have hqb:q0<=9000000000000000000:=by omega
 rw[<-hp0] at HA ⊢
 rw[<-hq0] at HBB ⊢
 clear hp0 hq0 ha hb
 go_enter Tryz.func84,Tryz.ntmps84
 go_wp2_with (first
  | (go_at_call_of 130 a;refine(HA.o _).mono ?_;rintro e w1 ⟨rfl,hw1⟩;subst w1)
  | (go_at_call_of 130 b;refine(HBB.o _).mono ?_;rintro e w1 ⟨rfl,hw1⟩;subst w1))
 go_loopw [0,1] (λx y W=>∃(p q:Nat),x=.int .i64 p/\y=.int .i64 q/\Nat.gcd p q=Nat.gcd p0 q0/\p<=9000000000000000000/\q<=9000000000000000000/\∃m,W=w.drewN m) (λ_ y _=>(intOf y).toNat)
 case atStart=>exact⟨p0,q0,rfl,rfl,rfl,hpb,hqb,0,rfl⟩
 case round=>
  obtain⟨p,q,rfl,rfl,hg,hp,hq,m,rfl⟩:=hrel
  have HG:=ja hg
  have HDD:=ja (λp=>dd w m p)
  have HWm:=ja (⟨m,rfl⟩:∃m',w.drewN m=w.drewN m')
  clear hg HA HBB
  generalize w.drewN m=W at *
  by_cases hq0:(q:Int)=0
  ·obtain rfl:q=0:=by omega
   go_wp2
   go_ret
   have:=HG.o
   rw[Nat.gcd_zero_right] at this
   exact⟨by rw[this];rfl,HWm.o⟩
  ·have hlt:p % q<q:=Nat.mod_lt _ (by omega)
   have hge:=Nat.gcd_rec q p
   have HE:Hid (Nat.gcd q (p % q)=Nat.gcd p0 q0):=ja (by rw[<-HG.o,Nat.gcd_comm p q,Nat.gcd_rec q p,Nat.gcd_comm])
   have hc:((p % q:Nat):Int)=(p:Int) % (q:Int):=Int.natCast_emod p q
   clear hge
   go_wp2
   go_quiet (fail)
   go_wp2
   obtain⟨m2,hm2⟩:=HDD.o nq
   exact⟨⟨q,p % q,rfl,by congr 1<;>omega,HE.o,by omega,by omega,m2,hm2⟩,by simp[intOf];omega⟩
theorem jas5(n:Nat)(w:World)(h1:1<=n)(h2:n<=1000000):Calls Tryz.prog 83 #[.int .i64 n] w λe w'=>e=.returned (.bool (decide ((jo n).1<=1)))/\w'=w:=by
 have HS:=ja (jg6 n h1)
 have HP:=ja (JR n h1).2.2.1
 go_enter Tryz.func83,Tryz.ntmps83
 go_wp2
 go_loopw [3] (λi W=>∃d:Nat,i=.int .i64 d/\2<=d/\d<=1001/\(∀e:Nat,2<=e->e<d->¬e*e∣n)/\W=w) (λi _=>1002-(intOf i).toNat)
 case atStart=>exact⟨2,rfl,by omega,by omega,λe h h'=>by omega,rfl⟩
 case round=>
  obtain⟨d,rfl,hd,hd2,hno,rfl⟩:=hrel
  have HN:=ja hno
  clear hno
  have hm:=jE (a:=(d:Int)) (b:=(d:Int)) (A:=1001) (B:=1001) (by omega) (by omega)
  have hpos:0<(d:Int)*(d:Int):=Int.mul_pos (by omega) (by omega)
  have hcast:((d*d:Nat):Int)=(d:Int)*(d:Int):=Int.natCast_mul d d
  by_cases hle:(d:Int)*(d:Int)<=(n:Int)
  ·have hd3:d<=1000:=by
    rcases Nat.lt_or_ge 1000 d with h|h
    ·have h5:1001*1001<=d*d:=Nat.mul_le_mul h h
     omega
    ·exact h
   have hdv:((n:Int) % ((d:Int)*(d:Int))=0)↔d*d∣n:=by
    rw[<-hcast,<-Int.natCast_emod,Nat.dvd_iff_mod_eq_zero]
    omega
   by_cases hz:(n:Int) % ((d:Int)*(d:Int))=0
   ·have HF:Hid (decide ((jo n).1<=1)=false):=ja (decide_eq_false (λh=>by
     have h3:=HP.o
     exact HS.o.1 (by omega) d hd (hdv.1 hz)))
    have hzb:((n:Int) % ((d:Int)*(d:Int))==0)=true:=by simpa using hz
    clear hdv hcast
    generalize hdd:(d:Int)*(d:Int)=s at *
    go_wp2
    go_ret
    exact⟨by rw[HF.o];rfl,by trivial⟩
   ·have HN2:=ja (show ∀e:Nat,2<=e->e<d+1->¬e*e∣n from λe h3 h4=>by
     rcases Nat.lt_or_ge e d with h5|h5
     ·exact HN.o e h3 h5
     ·obtain rfl:e=d:=by omega
      exact λh=>hz (hdv.2 h))
    have hzb:((n:Int) % ((d:Int)*(d:Int))==0)=false:=by simpa using hz
    clear hdv hcast
    generalize hdd:(d:Int)*(d:Int)=s at *
    go_wp2
    exact⟨⟨d+1,by go_num,by omega,by omega,HN2.o,by trivial⟩,by simp[intOf];omega⟩
  ·have HF:Hid (decide ((jo n).1<=1)=true):=ja (decide_eq_true (by
    have:jm7 n:=λe he hdv=>by
     rcases Nat.lt_or_ge e d with h5|h5
     ·exact HN.o e he h5 hdv
     ·have h6:=Nat.le_of_dvd (by omega) hdv
      have h7:d*d<=e*e:=Nat.mul_le_mul h5 h5
      omega
    have:=HS.o.2 this
    omega))
   clear hcast
   generalize hdd:(d:Int)*(d:Int)=s at *
   go_wp2
   go_ret
   exact⟨by rw[HF.o];rfl,by trivial⟩
theorem jbz6(den:Int)(ts:List (Int×Int))(k:Nat)(hk:k<ts.length):jM (den::(ts.take (k+1)).map (·.1))=Nat.gcd (jM (den::(ts.take k).map (·.1))) (ts[k].1).natAbs:=by
 rw[jw ts k hk,List.map_append,List.map_singleton,<-List.cons_append,jh6]
def ZX(ts:List (Int×Int))(k:Nat):Int:=if k=0 then 0 else(ts[k-1]?.map (·.2)).getD 0
theorem QB (den:Int) (A:Option Addr) (n c B:Nat) (ts:List (Int×Int)) (w:World) (hx:jJ w B A n c ts) (hB:B<=w.heap.size) :
  Calls Tryz.prog 39 #[.agg #[.int .i64 den,.slice A n c]] w λe w'=>e=.returned (.bool (js den ts))/\Below w.heap.size w w':=by
 have hlx:=hx.len
 subst hlx
 have hnx:=Rq.nmax hx
 obtain⟨w0,hw0⟩:∃w0,w0=w.alloc (.cells #[.int .i64 den,.slice A ts.length c] 24):=⟨_,rfl⟩
 have hz0:w0.heap.size=w.heap.size+1:=by rw[hw0];simp
 have HX0:Hid (jh w0 w.heap.size 24 #[.int .i64 den,.slice A ts.length c]):=ja (by rw[hw0];exact jh.new w _ _)
 have HB0:Hid (Below w.heap.size w w0):=ja (by rw[hw0];exact(Below.refl _ _).alloc (Nat.le_refl _) _)
 have HT:=ja (λW (hb:Below w.heap.size w W)=>Rq.below hx (hb.mono hB))
 have HIN:=ja (λW=>za3 den 1 100000 W)
 clear hx
 cases hden:zz den 1 100000
 ·have HN:Hid (js den ts=false):=ja (by unfold js;rw[hden];rfl)
  rw[hden] at HIN
  go_enter Tryz.func39,Tryz.ntmps39
  go_upto_region 1 with fail
  rw[<-hw0]
  clear hw0
  obtain⟨x0,x1,_,_⟩:=HX0.o.two
  go_wp2_with (first
   | (go_at_call 82;refine(HIN.o _).mono ?_;rintro e w1 ⟨rfl,hw1⟩;subst w1))
  go_ret
  exact⟨by rw[HN.o];rfl,HB0.o⟩
 by_cases h4:4<(ts.length:Int)
 ·have HN:Hid (js den ts=false):=ja (by unfold js;rw[show decide (ts.length<=4)=false from decide_eq_false (by omega)];simp)
  rw[hden] at HIN
  go_enter Tryz.func39,Tryz.ntmps39
  go_upto_region 1 with fail
  rw[<-hw0]
  clear hw0
  obtain⟨x0,x1,_,_⟩:=HX0.o.two
  go_wp2_with (first
   | (go_at_call 82;refine(HIN.o _).mono ?_;rintro e w1 ⟨rfl,hw1⟩;subst w1))
  go_ret
  exact⟨by rw[HN.o];rfl,HB0.o⟩
 have hdb:1<=den/\den<=100000:=by simpa [zz] using hden
 have HN:Hid (js den ts=(Qj 0 ts&&decide (jM (den::ts.map (·.1))=1))):=ja (by unfold js;rw[hden,decide_eq_true (show ts.length<=4 by omega)];simp)
 rw[hden] at HIN
 clear hden
 go_enter Tryz.func39,Tryz.ntmps39
 go_upto_region 1 with fail
 rw[<-hw0]
 clear hw0
 obtain⟨x0,x1,_,_⟩:=HX0.o.two
 go_wp2_with (first
  | (go_at_call 82;refine(HIN.o _).mono ?_;rintro e w1 ⟨rfl,hw1⟩;subst w1))
 go_loopw [3,4] (λg i W=>∃k:Nat,k<=ts.length/\g=.int .i64 (jM (den::(ts.take k).map (·.1)):Int)/\jM (den::(ts.take k).map (·.1))<=100000/\i=.int .i64 k/\Qj 0 ts=Qj (ZX ts k) (ts.drop k)/\0<=ZX ts k/\Below w.heap.size w W/\jh W w.heap.size 24 #[.int .i64 den,.slice A ts.length c]) (λ_ i _=>ts.length-(intOf i).toNat)
 case atStart=>
  have hg:jM [den]=den.natAbs:=by simp[jM]
  refine⟨0,by omega,?_,?_,rfl,rfl,by unfold ZX;simp,HB0.o,HX0.o⟩
  ·rw[List.take_zero,List.map_nil,hg]
   congr 1;omega
  ·rw[List.take_zero,List.map_nil,hg]
   omega
 case round=>
  obtain⟨k,hk,rfl,hgb,rfl,hchk,hl0,hb,hX⟩:=hrel
  have HB:=ja hb
  have HX:=ja hX
  have HC:=ja hchk
  have hbz:=hb.size
  have HTq:=ja (HT.o _ hb)
  clear hb hX hchk x0 x1 HX0 HB0
  obtain⟨x0,x1,_,_⟩:=HX.o.two
  by_cases hkl:(k:Int)<(ts.length:Int)
  ·have hk1:k<ts.length:=by omega
   obtain⟨ad,rfl,had,ha0,ha1⟩:=jJ.at_ HTq.o hk1
   have HGS:=ja (jbz6 den ts k hk1)
   have HOK:Hid (Qj 0 ts=(okT (ZX ts k) ts[k]&&Qj ts[k].2 (ts.drop (k+1)))):=ja (zv9 hk1 HC.o)
   have HL1:Hid (ZX ts (k+1)=ts[k].2):=ja (by unfold ZX;simp[hk1])
   have hprev:k=0\/∃j,k=j+1/\ZX ts k=(ts[j]?.map (·.2)).getD 0:=by
    rcases Nat.eq_zero_or_pos k with h|h
    ·exact .inl h
    ·exact .inr ⟨k-1,by omega,by unfold ZX;rw[if_neg (by omega)]⟩
   have hgp:0<jM (den::(ts.take k).map (·.1)):=ZK (List.mem_cons_self) (show den≠0 by omega)
   generalize hg:jM (den::(ts.take k).map (·.1))=g at *
   obtain⟨t,ht⟩:∃t,t=ts[k]:=⟨_,rfl⟩
   rw[<-ht] at ha0 ha1 HGS HOK HL1
   clear ht hg
   obtain⟨co,ro⟩:=t
   dsimp only at ha0 ha1
   have HGS:=ja HGS.o
   have HBAD:=ja (show okT (ZX ts k) (co,ro)=false->js den ts=false from λh=>by rw[HN.o,HOK.o,h];rfl)
   have HL1:Hid (ZX ts (k+1)=ro):=ja HL1.o
   have HI1:=ja (λW=>za3 ro 1 1000 W)
   have HI2:=ja (λW=>za3 co (-100000) 100000 W)
   have HP5:Hid (∀j,k=j+1->∃pr,ts[j]?.map (·.2)=some pr/\(wr.alloc (.cells #[.int .i64 co,.int .i64 ro] 59)).cell? ⟨(ad.add (j*2)).block,(ad.add (j*2)).off+1,none⟩=some (.int .i64 pr)):=ja (λj hj=>by
    have hj1:j<ts.length:=by omega
    obtain⟨ad',e,hb',_,h1⟩:=jJ.at_ HTq.o hj1
    injection e with e
    subst e
    exact⟨ts[j].2,by simp[hj1],(World.cell?_alloc_lt _ _ _ (by show(ad.add (j*2)).block<_;rw[jH];omega)).trans h1⟩)
   have HB5:=ja (HB.o.alloc hbz (.cells #[.int .i64 co,.int .i64 ro] 59))
   have HX5:=ja (HX.o.alloc (.cells #[.int .i64 co,.int .i64 ro] 59))
   have HT5:=ja (jh.new wr 59 #[.int .i64 co,.int .i64 ro])
   go_upto_region 8 with fail
   clear x0 x1 ha0 ha1 HTq HX HB hbz
   obtain⟨P5,hP5⟩:∃P5,P5=wr.heap.size:=⟨_,rfl⟩
   rw[<-hP5] at HT5 ⊢
   clear hP5
   generalize wr.alloc (.cells #[.int .i64 co,.int .i64 ro] 59)=W5 at *
   obtain⟨x0,x1,_,_⟩:=HX5.o.two
   obtain⟨y0,y1,_,_⟩:=HT5.o.two
   cases h1:zz ro 1 1000
   ·rw[h1] at HI1
    have HF:=ja (HBAD.o (by
     have h2:ro<1\/1000<ro:=by
      rcases Int.lt_or_le ro 1 with h|h
      ·exact .inl h
      ·rcases Int.lt_or_le 1000 ro with h'|h'
       ·exact .inr h'
       ·simp[zz,h,h'] at h1
     unfold okT
     rcases h2 with h2|h2
     ·rw[decide_eq_false (show ¬ZX ts k<ro by omega)];rfl
     ·rw[decide_eq_false (show ¬ro<=1000 by omega)];simp))
    go_quiet (first|(go_at_call_of 82 ro;refine Calls.quiet_of_same (HI1.o _))|(go_at_call_of 82 co;refine Calls.quiet_of_same (HI2.o _))|(go_at_call 83;refine Calls.quiet_of_same (HFR.o _)))
    go_wp2
    go_ret
    exact⟨by rw[HF.o];rfl,jp HB5.o _⟩
   rw[h1] at HI1
   have hrb:1<=ro/\ro<=1000:=by simpa [zz] using h1
   have HFR:=ja (λW=>jas5 ro.toNat W (by omega) (by omega))
   rw[Int.toNat_of_nonneg (by omega)] at HFR
   cases hfr:decide ((jo ro.toNat).1<=1)
   ·rw[hfr] at HFR
    have HF:=ja (HBAD.o (by unfold okT;dsimp only;rw[hfr];simp))
    go_quiet (first|(go_at_call_of 82 ro;refine Calls.quiet_of_same (HI1.o _))|(go_at_call_of 82 co;refine Calls.quiet_of_same (HI2.o _))|(go_at_call 83;refine Calls.quiet_of_same (HFR.o _)))
    go_wp2
    go_ret
    exact⟨by rw[HF.o];rfl,jp HB5.o _⟩
   rw[hfr] at HFR
   rcases hprev with h0|⟨j,h0,hlj⟩
   ·have hl:ZX ts k=0:=by rw[h0];rfl
    have hkz:¬0<(k:Int):=by omega
    by_cases hc0:co=0
    ·have hcb0:(co==0)=true:=by simpa using hc0
     have HF:=ja (HBAD.o (by unfold okT;dsimp only;rw[decide_eq_false (show ¬co≠0 by omega)];simp))
     go_quiet (first|(go_at_call_of 82 ro;refine Calls.quiet_of_same (HI1.o _))|(go_at_call_of 82 co;refine Calls.quiet_of_same (HI2.o _))|(go_at_call 83;refine Calls.quiet_of_same (HFR.o _)))
     go_wp2
     go_ret
     exact⟨by rw[HF.o];rfl,jp HB5.o _⟩
    have hcb0:(co==0)=false:=by simpa using hc0
    cases h5:zz co (-100000) 100000
    ·rw[h5] at HI2
     have HF:=ja (HBAD.o (by unfold okT;dsimp only;rw[h5];simp))
     go_quiet (first|(go_at_call_of 82 ro;refine Calls.quiet_of_same (HI1.o _))|(go_at_call_of 82 co;refine Calls.quiet_of_same (HI2.o _))|(go_at_call 83;refine Calls.quiet_of_same (HFR.o _)))
     go_wp2
     go_ret
     exact⟨by rw[HF.o];rfl,jp HB5.o _⟩
    rw[h5] at HI2
    have HOK2:=ja (show okT (ZX ts k) (co,ro)=true by unfold okT;rw[decide_eq_true (show ZX ts k<ro by omega),decide_eq_true (show ro<=1000 by omega),decide_eq_true (show co≠0 from hc0),h5,hfr];rfl)
    have hcb:-100000<=co/\co<=100000:=by simpa [zz] using h5
    have HDV:=ja (λW=>jd8 (g:Int) co W (by omega) (by omega))
    rw[Int.natAbs_natCast] at HDV
    go_quiet (first|(go_at_call_of 82 ro;refine Calls.quiet_of_same (HI1.o _))|(go_at_call_of 82 co;refine Calls.quiet_of_same (HI2.o _))|(go_at_call 83;refine Calls.quiet_of_same (HFR.o _)))
    go_wp2_with (first
     | (go_at_call 84;refine(HDV.o _).mono ?_;rintro e w6 ⟨rfl,m6,rfl⟩))
    refine⟨⟨k+1,by omega,by rw[HGS.o],by rw[HGS.o];exact Nat.le_trans (Nat.gcd_le_left _ hgp) hgb,by go_num,?_,by rw[HL1.o];omega,(by first|exact jp HB5.o _|exact jp (jp HB5.o _) _),HX5.o⟩,by simp[intOf];omega⟩
    rw[HOK.o,HOK2.o,HL1.o];rfl
   ·obtain⟨pr,hpr,hcp⟩:=HP5.o j h0
    have hl:ZX ts k=pr:=by rw[hlj,hpr];rfl
    have hkz:0<(k:Int):=by omega
    have hkj:(k:Int)-1=(j:Int):=by omega
    by_cases hpo:ro<=pr
    ·have HF:=ja (HBAD.o (by unfold okT;dsimp only;rw[decide_eq_false (show ¬ZX ts k<ro by omega)];rfl))
     go_quiet (first|(go_at_call_of 82 ro;refine Calls.quiet_of_same (HI1.o _))|(go_at_call_of 82 co;refine Calls.quiet_of_same (HI2.o _))|(go_at_call 83;refine Calls.quiet_of_same (HFR.o _)))
     go_wp2
     go_ret
     exact⟨by rw[HF.o];rfl,jp HB5.o _⟩
    have hpo2:¬ro<=pr:=hpo
    by_cases hc0:co=0
    ·have hcb0:(co==0)=true:=by simpa using hc0
     have HF:=ja (HBAD.o (by unfold okT;dsimp only;rw[decide_eq_false (show ¬co≠0 by omega)];simp))
     go_quiet (first|(go_at_call_of 82 ro;refine Calls.quiet_of_same (HI1.o _))|(go_at_call_of 82 co;refine Calls.quiet_of_same (HI2.o _))|(go_at_call 83;refine Calls.quiet_of_same (HFR.o _)))
     go_wp2
     go_ret
     exact⟨by rw[HF.o];rfl,jp HB5.o _⟩
    have hcb0:(co==0)=false:=by simpa using hc0
    cases h5:zz co (-100000) 100000
    ·rw[h5] at HI2
     have HF:=ja (HBAD.o (by unfold okT;dsimp only;rw[h5];simp))
     go_quiet (first|(go_at_call_of 82 ro;refine Calls.quiet_of_same (HI1.o _))|(go_at_call_of 82 co;refine Calls.quiet_of_same (HI2.o _))|(go_at_call 83;refine Calls.quiet_of_same (HFR.o _)))
     go_wp2
     go_ret
     exact⟨by rw[HF.o];rfl,jp HB5.o _⟩
    rw[h5] at HI2
    have HOK2:=ja (show okT (ZX ts k) (co,ro)=true by unfold okT;rw[decide_eq_true (show ZX ts k<ro by omega),decide_eq_true (show ro<=1000 by omega),decide_eq_true (show co≠0 from hc0),h5,hfr];rfl)
    have hcb:-100000<=co/\co<=100000:=by simpa [zz] using h5
    have HDV:=ja (λW=>jd8 (g:Int) co W (by omega) (by omega))
    rw[Int.natAbs_natCast] at HDV
    go_quiet (first|(go_at_call_of 82 ro;refine Calls.quiet_of_same (HI1.o _))|(go_at_call_of 82 co;refine Calls.quiet_of_same (HI2.o _))|(go_at_call 83;refine Calls.quiet_of_same (HFR.o _)))
    go_wp2_with (first
     | (go_at_call 84;refine(HDV.o _).mono ?_;rintro e w6 ⟨rfl,m6,rfl⟩))
    refine⟨⟨k+1,by omega,by rw[HGS.o],by rw[HGS.o];exact Nat.le_trans (Nat.gcd_le_left _ hgp) hgb,by go_num,?_,by rw[HL1.o];omega,(by first|exact jp HB5.o _|exact jp (jp HB5.o _) _),HX5.o⟩,by simp[intOf];omega⟩
    rw[HOK.o,HOK2.o,HL1.o];rfl
  ·obtain rfl:k=ts.length:=by omega
   have HE:Hid (js den ts=decide (jM (den::ts.map (·.1))=1)):=ja (by
    rw[HN.o,HC.o,List.drop_length]
    exact Bool.true_and _)
   have e1:(ts.take ts.length).map (·.1)=ts.map (·.1):=by rw[List.take_length]
   rw[e1] at hgb
   simp only[e1]
   generalize jM (den::ts.map (·.1))=g at *
   go_wp2
   go_ret
   exact⟨by rw[HE.o];by_cases hg1:g=1<;>simp[hg1]<;>omega,HB.o⟩
def zZ(kv:List (Int×Int)):List (Int×Int):=kv.map λp=>(p.2,p.1)
theorem zE(kv:List (Int×Int)):(zZ kv).length=kv.length:=by simp[zZ]
theorem zz1(kv:List (Int×Int))(p:Int×Int):zZ (kv++[p])=zZ kv++[(p.2,p.1)]:=by simp[zZ]
def jp1(kv:List (Int×Int))(r c:Int):List (Int×Int):=kv.map λp=>if p.1=r then(p.1,p.2+c)else p
theorem jg8(kv:List (Int×Int))(r c:Int):(jp1 kv r c).length=kv.length:=by simp[jp1]
theorem jk1:∀(kv:List (Int×Int)) (r c:Int),JW kv r=false->jp1 kv r c=kv
 | [],_,_,_=>rfl
 | p::t,r,c,h=>by
  unfold JW at h
  rw[List.any_cons,Bool.or_eq_false_iff] at h
  have h1:¬p.1=r:=by simpa using h.1
  have h2:=jk1 t r c h.2
  unfold jp1 at h2 ⊢
  rw[List.map_cons,h2,if_neg h1]
theorem zh0:∀(kv:List (Int×Int)) (r c:Int),(kv.map (·.1)).Nodup->addS kv r c=if JW kv r then jp1 kv r c else kv++[(r,c)]
 | [],r,c,_=>by simp[addS,JW]
 | (a,x)::t,r,c,hn=>by
  simp only[List.map_cons,List.nodup_cons] at hn
  by_cases h:r=a
  ·subst h
   have h1:JW t r=false:=by
    cases hh:JW t r
    ·rfl
    ·exact absurd (jam0.1 hh) hn.1
   have h2:JW ((r,x)::t) r=true:=by simp[JW]
   rw[h2]
   have h3:=jk1 t r c h1
   unfold jp1 at h3 ⊢
   simp[addS,h3]
  ·have h1:=zh0 t r c hn.2
   have h2:JW ((a,x)::t) r=JW t r:=by unfold JW;rw[List.any_cons,decide_eq_false (show ¬a=r from λe=>h e.symm)];rfl
   rw[h2]
   have h3:¬a=r:=λe=>h e.symm
   simp only[addS,if_neg h,h1]
   cases JW t r
   ·simp
   ·simp[jp1,h3]
def Zq(kv:List (Int×Int))(r c:Int)(k:Nat):List (Int×Int):=jp1 (kv.take k) r c++kv.drop k
theorem Zr(kv:List (Int×Int))(r c:Int)(k:Nat):(Zq kv r c k).length=kv.length:=by
 unfold Zq;rw[List.length_append,jg8,List.length_take,List.length_drop];omega
theorem jaa9(kv:List (Int×Int))(r c:Int):Zq kv r c 0=kv:=by simp[Zq,jp1]
theorem jat7(kv:List (Int×Int))(r c:Int):Zq kv r c kv.length=jp1 kv r c:=by simp[Zq]
theorem jag4{kv:List (Int×Int)}(r c:Int){k:Nat}(h:k<kv.length):(Zq kv r c k)[k]'(by rw[Zr];exact h)=kv[k]:=by
 unfold Zq
 rw[List.getElem_append_right (by rw[jg8,List.length_take];omega)]
 simp[jg8,Nat.min_eq_left (Nat.le_of_lt h)]
theorem jbj6{kv:List (Int×Int)}{r:Int}(c:Int){k:Nat}(h:k<kv.length)(hr:¬kv[k].1=r):Zq kv r c (k+1)=Zq kv r c k:=by
 unfold Zq
 rw[jw kv k h,List.drop_eq_getElem_cons h]
 unfold jp1
 rw[List.map_append,List.map_singleton,if_neg hr,List.append_assoc]
 rfl
theorem jat8{kv:List (Int×Int)}{r:Int}(c:Int){k:Nat}(h:k<kv.length)(hr:kv[k].1=r):(Zq kv r c k).set k (kv[k].1,kv[k].2+c)=Zq kv r c (k+1):=by
 unfold Zq
 rw[jw kv k h,List.drop_eq_getElem_cons h,List.set_append_right _ _ (by rw[jg8,List.length_take];omega)]
 have e:k-(jp1 (kv.take k) r c).length=0:=by rw[jg8,List.length_take];omega
 rw[e,List.set_cons_zero]
 unfold jp1
 rw[List.map_append,List.map_singleton,if_pos hr,List.append_assoc]
 rfl
theorem zy3{kv:List (Int×Int)}(r:Int){k:Nat}(h:k<kv.length):JW (kv.take (k+1)) r=(JW (kv.take k) r || decide (kv[k].1=r)):=by
 unfold JW;rw[jw kv k h,List.any_append];simp
structure OutI(w W:World)(o:Value)(kv:List (Int×Int)):Prop where
 row:W.ownsRow (w.heap.size+1) 59 2 o kv.length (jr (zZ kv))
 res:jh W w.heap.size 24 #[.int .i64 0,.slice none 0 0]
 below:Below w.heap.size w W
theorem OutI.under{w W W':World}{o:Value}{kv:List (Int×Int)}(h:OutI w W o kv)(hb:Below W.heap.size W W'):OutI w W' o kv:=
 ⟨jG h.row hb,h.res.below hb h.res.lt,h.below.trans (hb.mono h.below.size)⟩
theorem OutI.alloc{w W:World}{o:Value}{kv:List (Int×Int)}(h:OutI w W o kv)(x:Obj):OutI w (W.alloc x) o kv:=h.under ((Below.refl _ _).alloc (Nat.le_refl _) x)
theorem OutI.drewN{w W:World}{o:Value}{kv:List (Int×Int)}(h:OutI w W o kv)(q:Nat):OutI w (W.drewN q) o kv:=h.under (jp (Below.refl _ _) q)
theorem OutI.set{w W:World}{o:Value}{kv:List (Int×Int)}{P:Nat}(h:OutI w W o kv)(ho:o.ownBlock≠some P)(hP:w.heap.size<P)(i:Nat)(u:Value):OutI w (W.setCell ⟨P,i,none⟩ u) o kv:=
 ⟨ownsRow_setCell_other h.row ho u,h.res.far (by show _≠P;omega) u,h.below.setCell (by show _<=P;omega) u⟩
theorem OutI.put{w W:World}{g cap:Nat}{kv kv':List (Int×Int)}{j:Nat}{x:Int}(h:OutI w W (.slice (some ⟨g,0,none⟩) kv.length cap) kv)(hj:j<kv.length)(e:kv.set j (kv[j].1,x)=kv'):OutI w (W.setCell ⟨g,j*2,none⟩ (.int .i64 x)) (.slice (some ⟨g,0,none⟩) kv.length cap) kv':=by
 have hg:=(h.row.lt g rfl).1
 have h1:=World.ownsRow.stored h.row (j*2) (.int .i64 x)
 have hjo:j<(zZ kv).length:=by rw[zE];exact hj
 rw[jd6 _ j _ hjo] at h1
 have e4:(zZ kv)[j]=(kv[j].2,kv[j].1):=by simp[zZ]
 have e2:(zZ kv).set j (x,(zZ kv)[j].2)=zZ kv':=by
  rw[e4,<-e]
  unfold zZ
  rw[List.map_set]
 rw[e2] at h1
 have e3:kv'.length=kv.length:=by rw[<-e];simp
 exact⟨by rw[e3];exact h1.1,h.res.far (by show _≠g;omega) _,h.below.setCell (by show _<=g;omega) _⟩
theorem jcf4{n s r:Nat}(h:s*s*r=n)(hr:1<=r)(hn:n<=100000000000):s<=400000:=by
 rcases Nat.lt_or_ge 400000 s with h1|h1
 ·have h2:400001*400001<=s*s:=Nat.mul_le_mul h1 h1
  have h3:s*s<=s*s*r:=Nat.le_mul_of_pos_right _ hr
  omega
 ·exact h1
theorem jbh8{kv:List (Int×Int)}(r c:Int){k:Nat}(h:k<kv.length)(h2:k<(zZ (Zq kv r c k)).length):(zZ (Zq kv r c k))[k]=(kv[k].2,kv[k].1):=by
 have h3:∀(m:List (Int×Int)) (hm:k<(zZ m).length) (hm2:k<m.length),(zZ m)[k]=(m[k].2,m[k].1):=λm hm hm2=>by simp[zZ]
 rw[h3 _ h2 (by rw[Zr];exact h),jag4 r c h]
theorem OutI.snoc{w V w3:World}{o v:Value}{kv:List (Int×Int)}{r x:Int}{ob:Obj}(h:OutI w V o kv)(hrow:w3.ownsRow (w.heap.size+1) 59 2 v (kv.length+1) (jr (zZ kv)++[.int .i64 x,.int .i64 r]))(hg:(V.alloc ob).grownBy w3 o.ownBlock):OutI w w3 v (kv++[(r,x)]):=by
 have hlt:∀j,o.ownBlock=some j->w.heap.size+1<=j:=λj e=>(h.row.lt j e).1
 refine⟨?_,(h.res.alloc ob).grown hg (λe=>by have:=hlt _ e;omega),(h.below.alloc h.below.size ob).grown hg (by have:=h.below.size;simp;omega) (λj e=>by have:=hlt _ e;omega)⟩
 rw[zz1,Zz,List.length_append,List.length_singleton]
 exact hrow
theorem za6:∀(f d sq rest:Nat),1<=d->sq<=(JH f d sq rest).1
 | 0,_,_,_,_=>Nat.le_refl _
 | f+1,d,sq,rest,h=>by
  unfold JH
  split
  ·split
   ·exact Nat.le_trans (Nat.le_mul_of_pos_right _ h) (za6 f d (sq*d) _ h)
   ·exact za6 f (d+1) sq rest (by omega)
  ·exact Nat.le_refl _
theorem jcb6{a b c M:Int}(h0:0<=b)(h:b<=c)(hm:-M<=a*c/\a*c<=M):-M<=a*b/\a*b<=M:=by
 rcases Int.le_total 0 a with ha|ha
 ·have h1:=Int.mul_le_mul_of_nonneg_left h ha
  have h2:=Int.mul_nonneg ha h0
  omega
 ·have h1:=Int.mul_le_mul_of_nonneg_left h (show 0<=-a by omega)
  have h2:=Int.mul_nonneg (show 0<=-a by omega) h0
  rw[Int.neg_mul] at h1 h2
  rw[Int.neg_mul] at h1
  omega
