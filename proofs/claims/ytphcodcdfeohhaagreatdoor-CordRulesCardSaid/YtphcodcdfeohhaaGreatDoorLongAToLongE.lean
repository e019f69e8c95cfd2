import Derived.Test.YtphcodcdfeohhaaGreatDoorSurdGToSurdM
import Derived.Laws.BitsAllLaws
set_option linter.all false
namespace Go.Proofs.YtphcodcdfeohhaaGreatDoor
set_option maxRecDepth 100000
set_option maxHeartbeats 4000000
open Go.RowKit
def jF:List Nat->Nat
 | []=>0
 | d::ds=>d+4294967296*jF ds
def Jy(ds:List Nat):Prop:=∀d∈ds,d<4294967296
def jp7(ds:List Nat):Prop:=∀h:ds≠[],ds.getLast h≠0
def zj3:Nat->Nat->List Nat
 | 0,_=>[]
 | f+1,v=>if v=0 then [] else v % 4294967296::zj3 f (v/4294967296)
def dig(v:Nat):List Nat:=zj3 v v
theorem jr2:∀f v,v<=f->jF (zj3 f v)=v/\Jy (zj3 f v)/\jp7 (zj3 f v)
 | 0,v,h=>by
  obtain rfl:v=0:=by omega
  exact⟨rfl,by simp[zj3,Jy],by simp[zj3,jp7]⟩
 | f+1,v,h=>by
  by_cases h0:v=0
  ·subst h0
   exact⟨rfl,by simp[zj3,Jy],by simp[zj3,jp7]⟩
  ·obtain⟨h1,h2,h3⟩:=jr2 f (v/4294967296) (by omega)
   simp only[zj3,if_neg h0]
   refine⟨by simp only[jF,h1];omega,?_,?_⟩
   ·intro d hd
    rcases List.mem_cons.1 hd with rfl|hd
    ·omega
    ·exact h2 d hd
   ·intro hne
    by_cases h4:zj3 f (v/4294967296)=[]
    ·have h5:v/4294967296=0:=by rw[h4] at h1;simpa [jF] using h1.symm
     simp only[h4,List.getLast_singleton]
     omega
    ·rw[List.getLast_cons h4]
     exact h3 h4
theorem ZI(v:Nat):jF (dig v)=v:=(jr2 v v (Nat.le_refl _)).1
theorem qS(v:Nat):Jy (dig v):=(jr2 v v (Nat.le_refl _)).2.1
theorem jr3(v:Nat):jp7 (dig v):=(jr2 v v (Nat.le_refl _)).2.2
theorem zp7:∀ {ds:List Nat},jp7 ds->ds≠[]->0<jF ds
 | [d],h,_=>by
  have:=h (by simp)
  simp only[List.getLast_singleton] at this
  simp only[jF];omega
 | d::e::ds,h,_=>by
  have:=zp7 (ds:=e::ds) (λh1=>by have:=h (by simp);rwa [List.getLast_cons h1] at this) (by simp)
  simp only[jF] at this ⊢;omega
theorem jp7.tail{d:Nat}{ds:List Nat}(h:jp7 (d::ds)):jp7 ds:=λh1=>by
 have:=h (by simp)
 rwa [List.getLast_cons h1] at this
theorem Jy.tail{d:Nat}{ds:List Nat}(h:Jy (d::ds)):Jy ds:=λx hx=>h x (List.mem_cons_of_mem _ hx)
theorem zj4:∀(ds es:List Nat),Jy ds->Jy es->jp7 ds->jp7 es->jF ds=jF es->ds=es
 | [],[],_,_,_,_,_=>rfl
 | [],e::es,_,_,_,h2,hv=>by
  have:=zp7 h2 (by simp)
  rw[<-hv] at this
  simp[jF] at this
 | d::ds,[],_,_,h2,_,hv=>by
  have:=zp7 h2 (by simp)
  rw[hv] at this
  simp[jF] at this
 | d::ds,e::es,o1,o2,h1,h2,hv=>by
  simp only[jF] at hv
  have a1:=o1 d (by simp)
  have a2:=o2 e (by simp)
  have h3:d=e:=by omega
  have h4:jF ds=jF es:=by omega
  rw[h3,zj4 ds es o1.tail o2.tail h1.tail h2.tail h4]
theorem jby6{ds:List Nat}(h1:Jy ds)(h2:jp7 ds):ds=dig (jF ds):=zj4 _ _ h1 (qS _) h2 (jr3 _) (ZI _).symm
theorem zt:∀(a b:List Nat),jF (a++b)=jF a+4294967296 ^ a.length*jF b
 | [],b=>by simp[jF]
 | d::a,b=>by
  simp only[List.cons_append,jF,zt a b,List.length_cons,Nat.pow_succ]
  have:4294967296*(4294967296 ^ a.length*jF b)=4294967296 ^ a.length*4294967296*jF b:=by
   rw[<-Nat.mul_assoc,Nat.mul_comm 4294967296]
  rw[Nat.mul_add,this];omega
theorem jk2:∀ {a:List Nat},Jy a->jF a<4294967296 ^ a.length
 | [],_=>by simp[jF]
 | d::a,h=>by
  have h1:=jk2 h.tail
  have h2:=h d (by simp)
  simp only[jF,List.length_cons,Nat.pow_succ]
  omega
theorem Jy.take{ds:List Nat}(h:Jy ds)(k:Nat):Jy (ds.take k):=λd hd=>h d (List.mem_of_mem_take hd)
theorem Jy.snoc{ds:List Nat}(h:Jy ds){d:Nat}(hd:d<4294967296):Jy (ds++[d]):=by
 intro x hx
 rcases List.mem_append.1 hx with hx|hx
 ·exact h x hx
 ·rw[List.mem_singleton.1 hx];exact hd
theorem Qg{ds:List Nat}{k:Nat}(h:k<ds.length):jF (ds.take (k+1))=jF (ds.take k)+4294967296 ^ k*ds[k]:=by
 rw[jw _ _ h,zt]
 simp[jF,List.length_take,Nat.min_eq_left (Nat.le_of_lt h)]
theorem jcm3{ds:List Nat}(h:jp7 ds)(hn:ds≠[]):4294967296 ^ (ds.length-1)<=jF ds:=by
 have h1:ds=ds.dropLast++[ds.getLast hn]:=(List.dropLast_concat_getLast hn).symm
 have h2:=h hn
 rw[h1,zt]
 simp only[jF,List.length_append,List.length_dropLast,List.length_singleton]
 have h3:ds.length-1+1-1=ds.length-1:=by omega
 rw[h3]
 have:4294967296 ^ (ds.length-1)*1<=4294967296 ^ (ds.length-1)*(ds.getLast hn+4294967296*0):=Nat.mul_le_mul_left _ (by omega)
 omega
theorem Qf{a b:List Nat}(ha:Jy a)(hb:jp7 b)(h:a.length<b.length):jF a<jF b:=by
 have h1:=jk2 ha
 have h2:=jcm3 hb (by intro e;rw[e] at h;simp at h)
 have h3:4294967296 ^ a.length<=4294967296 ^ (b.length-1):=Nat.pow_le_pow_right (by omega) (by omega)
 omega
theorem jc2{a b:List Nat}{i:Nat}(ha:Jy a)(h1:i<a.length)(h2:i<b.length)(hd:a.drop (i+1)=b.drop (i+1))(hl:a[i]<b[i]):jF a<jF b:=by
 have ea:a=a.take i++(a[i]::a.drop (i+1)):=by rw[<-List.drop_eq_getElem_cons h1,List.take_append_drop]
 have eb:b=b.take i++(b[i]::b.drop (i+1)):=by rw[<-List.drop_eq_getElem_cons h2,List.take_append_drop]
 have la:(a.take i).length=i:=by simp;omega
 have lb:(b.take i).length=i:=by simp;omega
 have h3:=jk2 (ha.take i)
 rw[la] at h3
 have va:jF a=jF (a.take i)+4294967296 ^ i*(a[i]+4294967296*jF (a.drop (i+1))):=by
  have h:=zt (a.take i) (a[i]::a.drop (i+1))
  rw[<-ea,la] at h
  exact h
 have vb:jF b=jF (b.take i)+4294967296 ^ i*(b[i]+4294967296*jF (a.drop (i+1))):=by
  have h:=zt (b.take i) (b[i]::b.drop (i+1))
  rw[<-eb,lb,<-hd] at h
  exact h
 have h4:4294967296 ^ i*(a[i]+4294967296*jF (a.drop (i+1)))+4294967296 ^ i<=4294967296 ^ i*(b[i]+4294967296*jF (a.drop (i+1))):=by
  rw[<-Nat.mul_succ]
  exact Nat.mul_le_mul_left _ (by omega)
 omega
def Jz(a b:Nat):Int:=if a<b then -1 else if b<a then 1 else 0
def Jl(d:Nat):Value:=.int .u32 d
def JJ(w:World)(B k:Nat)(e:TypeId)(A:Option Addr)(n c:Nat)(cs:List Value):Prop:=
 Rd w B k A n c cs/\∀ad,A=some ad->∃cs' fz,w.heap[ad.block]?=some (.cells cs' e fz)
section
variable {w w' : World} {B B' k n c : Nat} {e : TypeId} {A : Option Addr} {cs : List Value}
theorem JJ.nil_(w:World)(B k:Nat)(e:TypeId):JJ w B k e none 0 0 []:=⟨Rd.nil_ _ _ _,by simp⟩
theorem JJ.keep(h:JJ w B k e A n c cs)(hk:∀ad,A=some ad->w'.heap[ad.block]?=w.heap[ad.block]?):JJ w' B k e A n c cs:=by
 obtain⟨⟨h1,h2,h3,h4⟩,h5⟩:=h
 refine⟨⟨h1,h2,h3,?_⟩,λad ha=>?_⟩
 ·rcases h4 with h4|⟨ad,ea,hb,hc⟩
  ·exact .inl h4
  ·exact .inr ⟨ad,ea,hb,λj u hu=>(World.cell?_of_block (by rw[jH];exact hk ad ea)).trans (hc j u hu)⟩
 ·rw[hk ad ha];exact h5 ad ha
theorem JJ.lt(h:JJ w B k e A n c cs){ad:Addr}(ha:A=some ad):ad.block<w.heap.size:=by
 obtain⟨cs',fz,h1⟩:=h.2 ad ha
 exact lt_of_block h1
theorem JJ.alloc(h:JJ w B k e A n c cs)(o:Obj):JJ (w.alloc o) B k e A n c cs:=h.keep λad ha=>Below.heap_alloc w o _ (h.lt ha)
theorem JJ.drewN(h:JJ w B k e A n c cs)(q:Nat):JJ (w.drewN q) B k e A n c cs:=h
theorem JJ.drew(h:JJ w B k e A n c cs):JJ w.drew B k e A n c cs:=h
theorem JJ.below(h:JJ w B k e A n c cs){L:Nat}(hb:Below L w w')(hL:w.heap.size<=L):JJ w' B k e A n c cs:=h.keep λad ha=>hb.block _ (Nat.lt_of_lt_of_le (h.lt ha) hL)
theorem JJ.ne(h:JJ w B k e A n c cs){b:Nat}{t:TypeId}{cb:Array Value}{fz:Nat×Nat}(hb:w.heap[b]?=some (.cells cb t fz))(hne:e≠t){ad:Addr}(ha:A=some ad):ad.block≠b:=by
 rintro rfl
 obtain⟨cs',fz,h1⟩:=h.2 ad ha
 rw[hb] at h1
 injection h1 with h1
 injection h1 with _ h2
 exact hne h2.symm
theorem JJ.setCell(h:JJ w B k e A n c cs){p:Addr}{t:TypeId}{cb:Array Value}{fz:Nat×Nat}(hb:w.heap[p.block]?=some (.cells cb t fz))(hne:e≠t)(u:Value):JJ (w.setCell p u) B k e A n c cs:=
 h.keep λ_ ha=>Below.heap_setCell w p u _ (h.ne hb hne ha)
theorem JJ.grown(h:JJ w B k e A n c cs){row:Option Nat}(hg:w.grownBy w' row)(hr:∀ad,A=some ad->some ad.block≠row):JJ w' B k e A n c cs:=
 h.keep λad ha=>hg.block _ (h.lt ha) (hr ad ha)
theorem JJ.of_own{base:Nat}(h:w.ownsRow base e k (.slice A n c) n cs):JJ w w.heap.size k e A n c cs:=by
 refine⟨Rd.of_own h,λad ha=>?_⟩
 rcases h.2 with⟨h0,rfl⟩|⟨g,cap,cur,hv,hb,hg,hnc,hcm,hcs,ht⟩
 ·injection h0 with h1 _ _
  rw[ha] at h1;cases h1
 ·injection hv with h1 _ _
  rw[ha] at h1;injection h1 with h1;subst h1
  exact⟨_,_,hg⟩
theorem JJ.more(h:JJ w B k e A n c cs)(hB:B<=B'):JJ w B' k e A n c cs:=⟨h.1.more hB,h.2⟩
theorem JJ.self(h:JJ w B k e A n c cs):JJ w w.heap.size k e A n c cs:=by
 refine⟨⟨h.1.1,h.1.2.1,h.1.2.2.1,?_⟩,h.2⟩
 rcases h.1.2.2.2 with h4|⟨ad,ea,hb,hc⟩
 ·exact .inl h4
 ·exact .inr ⟨ad,ea,h.lt ea,hc⟩
end
theorem jf7(x:Int)(w:World):Calls Tryz.prog 164 #[.int .u32 x] w λe w'=>e=.returned (.bool false)/\w'=w:=by
 go_enter Tryz.func164,Tryz.ntmps164
 go_wp2
 go_ret
 exact⟨rfl,rfl⟩
theorem jbm0(a b:Nat)(w:World):Calls Tryz.prog 148 #[.int .u32 a,.int .u32 b] w λe w'=>e=.returned (.int .i64 (Jz a b))/\w'=w:=by
 rcases Nat.lt_trichotomy a b with h|h|h
 ·have HC:=ja (show Jz a b=-1 by unfold Jz;rw[if_pos h])
  go_enter Tryz.func148,Tryz.ntmps148
  go_wp2_with (first
   | (go_at_call 164;refine(jf7 _ _).mono ?_;rintro e w1 ⟨rfl,rfl⟩))
  go_ret
  exact⟨by rw[HC.o];rfl,rfl⟩
 ·subst h
  have HC:=ja (show Jz a a=0 by unfold Jz;simp)
  go_enter Tryz.func148,Tryz.ntmps148
  go_wp2_with (first
   | (go_at_call 164;refine(jf7 _ _).mono ?_;rintro e w1 ⟨rfl,rfl⟩))
  go_ret
  exact⟨by rw[HC.o];rfl,rfl⟩
 ·have HC:=ja (show Jz a b=1 by unfold Jz;rw[if_neg (by omega),if_pos h])
  have hn:¬a<b:=by omega
  go_enter Tryz.func148,Tryz.ntmps148
  go_wp2_with (first
   | (go_at_call 164;refine(jf7 _ _).mono ?_;rintro e w1 ⟨rfl,rfl⟩))
  go_ret
  exact⟨by rw[HC.o];rfl,rfl⟩
theorem zs7{ds:List Nat}{i:Nat}(h:i<ds.length):(ds.map Jl)[i]?=some (.int .u32 ds[i]):=by
 rw[List.getElem?_map,List.getElem?_eq_getElem h];rfl
def zg(w:World)(B:Nat)(A:Option Addr)(n c:Nat)(ds:List Nat):Prop:=JJ w B 1 158 A n c (ds.map Jl)
theorem zg.len{w:World}{B n c:Nat}{A:Option Addr}{ds:List Nat}(h:zg w B A n c ds):ds.length=n:=by
 have:=h.1.1;simpa using this
theorem zg.nmax{w:World}{B n c:Nat}{A:Option Addr}{ds:List Nat}(h:zg w B A n c ds):n<=9223372036854775807:=Rd.nmax h.1
theorem zg.at_ {w:World} {B n c:Nat} {A:Option Addr} {ds:List Nat} (h:zg w B A n c ds) {i:Nat} (hi:i<ds.length) :
  ∃ad:Addr,A=some ad/\w.cell? (ad.add i)=some (.int .u32 ds[i]):=by
 obtain⟨ad,e,u,hu,hc⟩:=Rd.at1 h.1 (i:=i) (by have:=h.len;omega)
 refine⟨ad,e,?_⟩
 rw[zs7 hi] at hu
 injection hu with hu
 rw[hc,<-hu]
theorem zg.take{w:World}{B n c k:Nat}{A:Option Addr}{ds:List Nat}(h:zg w B A n c ds)(hk:k<=n):zg w B A k c (ds.take k):=by
 have hl:=h.len
 obtain⟨⟨h1,h2,h3,h4⟩,h5⟩:=h
 refine⟨⟨by simp;omega,by omega,h3,?_⟩,h5⟩
 rcases h4 with h4|⟨ad,ea,hb,hc⟩
 ·exact .inl h4
 ·refine .inr ⟨ad,ea,hb,λj u hu=>hc j u ?_⟩
  rw[List.getElem?_map,List.getElem?_take] at hu
  rw[List.getElem?_map]
  split at hu
  ·exact hu
  ·cases hu
theorem QR (B:Nat) (A:Option Addr) (n c:Nat) (ds:List Nat) (w:World) (h:zg w B A n c ds) (ho:Jy ds) :
  Calls Tryz.prog 146 #[.slice A n c] w λe w'=>∃n',e=.returned (.slice A n' c)/\zg w' B A n' c (dig (jF ds))/\n'<=n/\w'=w:=by
 have hm:=h.nmax
 obtain rfl:=h.len
 have HW:=ja h;clear h
 go_enter Tryz.func146,Tryz.ntmps146
 go_wp2
 go_loopw [0] (λs W=>∃(k:Nat),k<=ds.length/\s=.slice A k c/\jF (ds.take k)=jF ds/\W=w) (λs _=>match s with|.slice _ k _=>k|_=>0)
 case atStart=>exact⟨ds.length,by omega,rfl,by rw[List.take_length],rfl⟩
 case round=>
  obtain⟨k,hk,rfl,hv,rfl⟩:=hrel
  have HV:=ja hv;clear hv
  have hcap:=HW.o.1.2.1
  rcases Nat.eq_zero_or_pos k with rfl|hp
  ·go_wp2
   go_ret
   have h0:jF ds=0:=by rw[<-HV.o];rfl
   refine⟨0,rfl,?_,by omega,rfl⟩
   rw[h0]
   exact(HW.o.take (k:=0) (by omega))
  ·have hlt:k-1<ds.length:=by omega
   obtain⟨ad,rfl,hc⟩:=HW.o.at_ hlt
   have hk1:((k:Int)-1)=((k-1:Nat):Int):=by omega
   have hk2:((k:Int)-1).toNat=k-1:=by omega
   have hts:ds.take k=ds.take (k-1)++[ds[k-1]]:=by rw[<-jw _ _ hlt];congr 1;omega
   have HTS:=ja hts;clear hts
   by_cases hz:ds[k-1]=0
   ·have HZ:=ja hz
    rw[hz] at hc
    clear hz
    go_wp2
    refine⟨⟨k-1,by omega,rfl,?_,trivial⟩,by show k-1<k;omega⟩
    rw[<-HV.o,HTS.o,HZ.o,zt]
    simp[jF]
   ·have HZ:=ja hz
    generalize hx:ds[k-1]=x at *
    have HX:=ja hx;clear hx
    have hx0:((x:Int)==0)=false:=by rw[beq_eq_false_iff_ne];omega
    go_wp2
    go_ret
    refine⟨k,rfl,?_,hk,rfl⟩
    have h1:ds.take k=dig (jF (ds.take k)):=jby6 (ho.take k) (by
     intro hne
     have:∀(l:List Nat) (h:l≠[]),l=ds.take (k-1)++[x]->l.getLast h=x:=by
      intro l h e
      subst e
      simp
     rw[this _ hne HTS.o]
     exact HZ.o)
    rw[<-HV.o,<-h1]
    exact HW.o.take hk
theorem jd7 (B:Nat) (A:Option Addr) (n c a:Nat) (B2:Nat) (A2:Option Addr) (n2 c2 b:Nat) (w:World) (h:zg w B A n c (dig a)) (h2:zg w B2 A2 n2 c2 (dig b)) :
  Calls Tryz.prog 116 #[.slice A n c,.slice A2 n2 c2] w λe w'=>e=.returned (.int .i64 (Jz a b))/\∃q,w'=w.drewN q:=by
 have hm:=h.nmax
 have hm2:=h2.nmax
 have hcap:=h.1.2.1
 have hcap2:=h2.1.2.1
 have hl:=h.len
 have hl2:=h2.len
 have HA:=ja h;have HB:=ja h2
 clear h h2
 have va:=ZI a
 have vb:=ZI b
 have oa:=qS a
 have ob:=qS b
 have na:=jr3 a
 have nb:=jr3 b
 generalize dig a=da at *
 generalize dig b=db at *
 subst hl
 subst hl2
 rcases Nat.lt_trichotomy da.length db.length with hlt|heq|hgt
 ·have h1:=Qf oa nb hlt
  have HC:=ja (show Jz a b=-1 by unfold Jz;rw[if_pos (by omega)])
  have HI:Hid (Lib.compareInt da.length db.length=-1):=ja (by unfold Lib.compareInt;rw[if_pos (by omega)])
  go_enter Tryz.func116,Tryz.ntmps116
  go_wp2_with (first
   | (go_at_call 147;refine(Tryz.cmp_Compare_int _ _ _).mono ?_;rintro e w1 ⟨rfl,rfl⟩;rw[HI.o]))
  go_ret
  exact⟨by rw[HC.o];rfl,0,rfl⟩
 ·have HI:Hid (Lib.compareInt da.length db.length=0):=ja (by unfold Lib.compareInt;rw[if_neg (by omega),if_neg (by omega)])
  have heq':=ja heq;clear heq
  go_enter Tryz.func116,Tryz.ntmps116
  go_wp2_with (first
   | (go_at_call 147;refine(Tryz.cmp_Compare_int _ _ _).mono ?_;rintro e w1 ⟨rfl,hw1⟩;subst w1;rw[HI.o]))
  go_loopw [6] (λi W=>∃(k:Nat),k<=da.length/\i=.int .i64 ((k:Int)-1)/\da.drop k=db.drop k/\∃q,W=w.drewN q) (λi _=>(intOf i+1).toNat)
  case atStart=>exact⟨da.length,by omega,rfl,by rw[List.drop_of_length_le (Nat.le_refl _),List.drop_of_length_le (by have:=heq'.o;omega)],0,rfl⟩
  case round=>
   obtain⟨k,hk,rfl,hd,q,rfl⟩:=hrel
   have HD:=ja hd;clear hd
   rcases Nat.eq_zero_or_pos k with rfl|hp
   ·have HC:=ja (show Jz a b=0 by
     have h:=HD.o
     simp only[List.drop_zero] at h
     unfold Jz
     rw[<-va,<-vb,h];simp)
    go_wp2
    go_ret
    exact⟨by rw[HC.o];rfl,_,rfl⟩
   ·have hk1:((k:Int)-1)=((k-1:Nat):Int):=by omega
    obtain⟨j,rfl⟩:∃j,k=j+1:=⟨k-1,by omega⟩
    clear hk1
    have hj:(((j+1:Nat):Int)-1)=(j:Int):=by omega
    rw[hj]
    have h1:j<da.length:=by omega
    have h2:j<db.length:=by have:=heq'.o;omega
    obtain⟨ad,rfl,hca⟩:=HA.o.at_ h1
    obtain⟨ad2,rfl,hcb⟩:=HB.o.at_ h2
    have hca:(w.drewN q).cell? (ad.add j)=some (.int .u32 da[j]):=hca
    have hcb:(w.drewN q).cell? (ad2.add j)=some (.int .u32 db[j]):=hcb
    have hWW:=ja (λp=>dd w q p)
    generalize w.drewN q=W at *
    have hb1:(j:Int)<(da.length:Int):=by omega
    have hb2:(j:Int)<(db.length:Int):=by omega
    have HCM:=ja (λW=>jbm0 da[j] db[j] W)
    have hdj:Hid (da[j]=db[j]->da.drop j=db.drop j):=ja (λe=>by rw[List.drop_eq_getElem_cons h1,List.drop_eq_getElem_cons h2,e,HD.o])
    have hlj:=ja (λe:da[j]<db[j]=>jc2 oa h1 h2 HD.o e)
    have hgj:=ja (λe:db[j]<da[j]=>jc2 ob h2 h1 HD.o.symm e)
    generalize da[j]=x at *
    generalize db[j]=y at *
    rcases Nat.lt_trichotomy x y with hxy|hxy|hxy
    ·have hcv:Hid (Jz x y=-1):=ja (by unfold Jz;rw[if_pos hxy])
     have HC:=ja (show Jz a b=-1 by have:=hlj.o hxy;unfold Jz;rw[if_pos (by omega)])
     rw[hcv.o] at HCM
     go_wp2_with fail
     go_quiet (first|(go_at_call 148;refine Calls.quiet_of_same (HCM.o _)))
     go_wp2
     go_ret
     exact⟨by rw[HC.o];rfl,hWW.o _⟩
    ·subst hxy
     have hcv:Hid (Jz x x=0):=ja (by unfold Jz;rw[if_neg (by omega),if_neg (by omega)])
     rw[hcv.o] at HCM
     go_wp2_with fail
     go_quiet (first|(go_at_call 148;refine Calls.quiet_of_same (HCM.o _)))
     go_wp2
     go_roundw
     case rel=>exact⟨j,by omega,rfl,hdj.o trivial,hWW.o _⟩
     case measure=>simp[intOf]
    ·have hcv:Hid (Jz x y=1):=ja (by unfold Jz;rw[if_neg (by omega),if_pos hxy])
     have HC:=ja (show Jz a b=1 by have:=hgj.o hxy;unfold Jz;rw[if_neg (by omega),if_pos (by omega)])
     rw[hcv.o] at HCM
     go_wp2_with fail
     go_quiet (first|(go_at_call 148;refine Calls.quiet_of_same (HCM.o _)))
     go_wp2
     go_ret
     exact⟨by rw[HC.o];rfl,hWW.o _⟩
 ·have h1:=Qf ob na hgt
  have HC:=ja (show Jz a b=1 by unfold Jz;rw[if_neg (by omega),if_pos (by omega)])
  have HI:Hid (Lib.compareInt da.length db.length=1):=ja (by unfold Lib.compareInt;rw[if_neg (by omega),if_pos (by omega)])
  go_enter Tryz.func116,Tryz.ntmps116
  go_wp2_with (first
   | (go_at_call 147;refine(Tryz.cmp_Compare_int _ _ _).mono ?_;rintro e w1 ⟨rfl,rfl⟩;rw[HI.o]))
  go_ret
  exact⟨by rw[HC.o];rfl,0,rfl⟩
theorem jcj7(y x:Nat)(hx:x<4):(y*4 % 4294967296) ||| x=y*4 % 4294967296+x:=by
 have h1:y*4 % 4294967296=2 ^ 2*(y % 1073741824):=by omega
 rw[h1,<-Nat.two_pow_add_eq_or_of_lt (i:=2) (by omega)]
theorem jcj6(y x:Nat)(hx:x<2):(y*2 % 4294967296) ||| x=y*2 % 4294967296+x:=by
 have h1:y*2 % 4294967296=2 ^ 1*(y % 2147483648):=by omega
 rw[h1,<-Nat.two_pow_add_eq_or_of_lt (i:=1) (by omega)]
theorem jbb9{w:World}{base size n c:Nat}{e:TypeId}{A:Option Addr}{xs:List Value}(h:w.ownsRow base e size (.slice A n c) n xs):∀ad:Addr,A=some ad->base<=ad.block:=by
 intro ad ha
 rcases h.2 with⟨h0,_⟩|⟨g,cap,cur,hv,h1,_⟩
 ·injection h0 with h2 _ _
  rw[ha] at h2;cases h2
 ·injection hv with h2 _ _
  rw[ha] at h2;injection h2 with h2;subst h2
  exact h1
theorem Tryz.infoU32:(Tryz.prog.info? 158).map (λi=>(i.zero,i.size,i.bytes))=some (some (.int .u32 0),1,4):=by kernel_rfl
theorem jbj5 (B:Nat) (A:Option Addr) (n c v word:Nat) (w:World) (h:zg w B A n c (dig v)) (hn:n<=20000000000000) (hw:word<4) :
  Calls Tryz.prog 149 #[.slice A n c,.int .u64 2,.int .u32 word] w λe w'=>∃(A':Option Addr) (n' c':Nat),e=.returned (.slice A' n' c')/\zg w' w'.heap.size A' n' c' (dig (v*4+word))/\n'<=n+1/\(∀ad:Addr,A'=some ad->w.heap.size<=ad.block)/\Below w.heap.size w w':=by
 have hl:=h.len
 have vv:=ZI v
 have vo:=qS v
 have HW:=ja h;clear h
 generalize dig v=ds at *
 subst hl
 obtain⟨i0,hi0,hz0,hz1,hz2⟩:=info_parts Tryz.infoU32
 go_enter Tryz.func149,Tryz.ntmps149
 have hb0:i0.bytes*(ds.length+1)<=281474976710656:=by rw[hz2];omega
 go_wp2_with (first
  | (at_make;refine wpList_make_own _ rfl _ _ 149 rfl w.heap.size 158 i0 (.int .u32 0) 1 Tryz.underlying149 hi0 hz0 hz1 .i64 .i64 _ (ds.length+1) rfl rfl rfl hb0 (by unfold maxLen;omega) (Nat.le_refl _) ?_;intro w1 ho1 hg1;have HO1:=ja ho1;have HG1:=ja hg1;clear ho1 hg1))
 go_loopw [7,8,18] (λo cr i W=>∃(k:Nat) (od:List Nat) (x:Nat),k<=ds.length/\i=.int .i64 k/\cr=.int .u32 x/\x<4/\od.length=k/\Jy od/\jF od+4294967296 ^ k*x=jF (ds.take k)*4+word/\W.ownsRow w.heap.size 158 1 o k (od.map Jl)/\zg W B A ds.length c ds/\Below w.heap.size w W) (λ_ _ i _=>ds.length-(intOf i).toNat)
 case atStart=>
  exact⟨0,[],word,by omega,rfl,rfl,hw,rfl,by simp[Jy],by simp[jF],HO1.o,JJ.grown HW.o HG1.o (by simp),Qk HG1.o⟩
 case round=>
  obtain⟨k,od,x,hk,rfl,rfl,hx,hol,hoo,hval,ho,hwd,hb⟩:=hrel
  have HO:=ja ho;have HWD:=ja hwd;have HB:=ja hb;have HV:=ja hval;have HOO:=ja hoo;have HOL:=ja hol
  have hbz:=hb.size
  clear ho hwd hb hval hoo HO1 HG1 hol
  by_cases hlt:k<ds.length
  ·obtain⟨ad,rfl,hc0⟩:=HWD.o.at_ hlt
   have hlt32:=vo ds[k] (List.getElem_mem hlt)
   have htv:=ja (Qg hlt)
   generalize ds[k]=y at *
   have hbits:bits BinOp.or IntKind.u32 ((y:Int)*4 % 4294967296) (x:Int)=((y*4 % 4294967296+x:Nat):Int):=by
    have e:(y:Int)*4 % 4294967296=((y*4 % 4294967296:Nat):Int):=by omega
    rw[e,Go.u32_or_nat _ _ (by omega) (by omega),jcj7 y x hx]
   obtain⟨A3,c3,rfl⟩:=jx HO.o
   go_wp2_with (first
    | (at_builtin;refine wpList_append_own _ rfl _ _ 149 rfl w.heap.size 158 i0 (.int .u32 0) 1 4 Tryz.underlying149 hi0 hz0 hz1 hz2 rfl (by decide) (.slice A3 k c3) k _ rfl (World.ownsRow.alloc HO.o _) ⟨wr.heap.size,0,none⟩ 1 1 [.int .u32 ((y*4 % 4294967296+x:Nat):Int)] rfl rfl (JG _ _ _) (by simp[Value.oneCell']) (by unfold maxLen;omega) (by omega) (by simp;omega) ?_;intro v' w3 ho3 hg3 _;obtain⟨A4,c4,rfl⟩:=jx ho3;have HO3:=ja ho3;have HG3:=ja hg3;clear ho3 hg3))
   have hz3:wr.heap.size+1<=w3.heap.size:=by have:=HG3.o.size;simpa using this
   have hol:=HOL.o
   have hnr:∀j,(Value.slice A3 k c3).ownBlock=some j->w.heap.size<=j:=λj e=>(HO.o.lt j e).1
   refine⟨⟨k+1,od++[y*4 % 4294967296+x],y/1073741824,by omega,rfl,by congr 1,by omega,by simp[hol],HOO.o.snoc (by omega),?_,?_,?_,?_⟩,by simp[intOf];omega⟩
   ·rw[htv.o,zt,hol]
    have h1:=HV.o
    simp only[jF,Nat.pow_succ]
    have h2:4294967296 ^ k*(y*4 % 4294967296+x+4294967296*0)+4294967296 ^ k*4294967296*(y/1073741824)=4294967296 ^ k*(y*4+x):=by
     rw[Nat.mul_assoc,<-Nat.mul_add]
     congr 1;omega
    have h3:4294967296 ^ k*(y*4+x)=(4294967296 ^ k*y)*4+4294967296 ^ k*x:=by rw[Nat.mul_add,Nat.mul_assoc]
    have h4:=Nat.add_mul (jF (ds.take k)) (4294967296 ^ k*y) 4
    generalize 4294967296 ^ k*y=p1 at *
    generalize 4294967296 ^ k*(y*4 % 4294967296+x+4294967296*0)=p2 at *
    generalize 4294967296 ^ k*4294967296*(y/1073741824)=p3 at *
    omega
   ·rw[List.map_append];exact HO3.o
   ·refine JJ.grown (JJ.alloc HWD.o _) HG3.o (λad' e e2=>?_)
    injection e with e
    subst e
    have h1:=HW.o.lt rfl
    have h2:=hnr _ e2.symm
    omega
   ·exact(HB.o.alloc hbz _).grown HG3.o (by simp;omega) hnr
  ·obtain rfl:k=ds.length:=by omega
   obtain⟨A3,c3,rfl⟩:=jx HO.o
   go_wp2_with (first
    | (at_builtin;refine wpList_append_own _ rfl _ _ 149 rfl w.heap.size 158 i0 (.int .u32 0) 1 4 Tryz.underlying149 hi0 hz0 hz1 hz2 rfl (by decide) (.slice A3 ds.length c3) ds.length _ rfl (World.ownsRow.alloc HO.o _) ⟨wr.heap.size,0,none⟩ 1 1 [.int .u32 (x:Int)] rfl rfl (JG _ _ _) (by simp[Value.oneCell']) (by unfold maxLen;omega) (by omega) (by simp;omega) ?_;intro v' w3 ho3 hg3 _;obtain⟨A4,c4,rfl⟩:=jx ho3;have HO3:=ja ho3;have HG3:=ja hg3;clear ho3 hg3))
   have hz3:wr.heap.size+1<=w3.heap.size:=by have:=HG3.o.size;simpa using this
   have hnr:∀j,(Value.slice A3 ds.length c3).ownBlock=some j->w.heap.size<=j:=λj e=>(HO.o.lt j e).1
   have hO4:w3.ownsRow w.heap.size 158 1 (.slice A4 (ds.length+1) c4) (ds.length+1) ((od++[x]).map Jl):=by rw[List.map_append];exact HO3.o
   refine(QR w3.heap.size A4 (ds.length+1) c4 (od++[x]) w3 (JJ.of_own hO4) (HOO.o.snoc (by omega))).mono ?_
   rintro e w5 ⟨n5,rfl,hw5,hn5,hw5'⟩
   subst w5
   go_wp2
   go_ret
   have hvv:jF (od++[x])=v*4+word:=by
    rw[zt,HOL.o]
    have h1:=HV.o
    rw[List.take_length,vv] at h1
    simp only[jF]
    omega
   rw[hvv] at hw5
   exact⟨A4,n5,c4,rfl,hw5,hn5,jbb9 hO4,(HB.o.alloc hbz _).grown HG3.o (by simp;omega) hnr⟩
theorem jbj4 (B:Nat) (A:Option Addr) (n c v word:Nat) (w:World) (h:zg w B A n c (dig v)) (hn:n<=20000000000000) (hw:word<2) :
  Calls Tryz.prog 149 #[.slice A n c,.int .u64 1,.int .u32 word] w λe w'=>∃(A':Option Addr) (n' c':Nat),e=.returned (.slice A' n' c')/\zg w' w'.heap.size A' n' c' (dig (v*2+word))/\n'<=n+1/\(∀ad:Addr,A'=some ad->w.heap.size<=ad.block)/\Below w.heap.size w w':=by
 have hl:=h.len
 have vv:=ZI v
 have vo:=qS v
 have HW:=ja h;clear h
 generalize dig v=ds at *
 subst hl
 obtain⟨i0,hi0,hz0,hz1,hz2⟩:=info_parts Tryz.infoU32
 go_enter Tryz.func149,Tryz.ntmps149
 have hb0:i0.bytes*(ds.length+1)<=281474976710656:=by rw[hz2];omega
 go_wp2_with (first
  | (at_make;refine wpList_make_own _ rfl _ _ 149 rfl w.heap.size 158 i0 (.int .u32 0) 1 Tryz.underlying149 hi0 hz0 hz1 .i64 .i64 _ (ds.length+1) rfl rfl rfl hb0 (by unfold maxLen;omega) (Nat.le_refl _) ?_;intro w1 ho1 hg1;have HO1:=ja ho1;have HG1:=ja hg1;clear ho1 hg1))
 go_loopw [7,8,18] (λo cr i W=>∃(k:Nat) (od:List Nat) (x:Nat),k<=ds.length/\i=.int .i64 k/\cr=.int .u32 x/\x<2/\od.length=k/\Jy od/\jF od+4294967296 ^ k*x=jF (ds.take k)*2+word/\W.ownsRow w.heap.size 158 1 o k (od.map Jl)/\zg W B A ds.length c ds/\Below w.heap.size w W) (λ_ _ i _=>ds.length-(intOf i).toNat)
 case atStart=>
  exact⟨0,[],word,by omega,rfl,rfl,hw,rfl,by simp[Jy],by simp[jF],HO1.o,JJ.grown HW.o HG1.o (by simp),Qk HG1.o⟩
 case round=>
  obtain⟨k,od,x,hk,rfl,rfl,hx,hol,hoo,hval,ho,hwd,hb⟩:=hrel
  have HO:=ja ho;have HWD:=ja hwd;have HB:=ja hb;have HV:=ja hval;have HOO:=ja hoo;have HOL:=ja hol
  have hbz:=hb.size
  clear ho hwd hb hval hoo HO1 HG1 hol
  by_cases hlt:k<ds.length
  ·obtain⟨ad,rfl,hc0⟩:=HWD.o.at_ hlt
   have hlt32:=vo ds[k] (List.getElem_mem hlt)
   have htv:=ja (Qg hlt)
   generalize ds[k]=y at *
   have hbits:bits BinOp.or IntKind.u32 ((y:Int)*2 % 4294967296) (x:Int)=((y*2 % 4294967296+x:Nat):Int):=by
    have e:(y:Int)*2 % 4294967296=((y*2 % 4294967296:Nat):Int):=by omega
    rw[e,Go.u32_or_nat _ _ (by omega) (by omega),jcj6 y x hx]
   obtain⟨A3,c3,rfl⟩:=jx HO.o
   go_wp2_with (first
    | (at_builtin;refine wpList_append_own _ rfl _ _ 149 rfl w.heap.size 158 i0 (.int .u32 0) 1 4 Tryz.underlying149 hi0 hz0 hz1 hz2 rfl (by decide) (.slice A3 k c3) k _ rfl (World.ownsRow.alloc HO.o _) ⟨wr.heap.size,0,none⟩ 1 1 [.int .u32 ((y*2 % 4294967296+x:Nat):Int)] rfl rfl (JG _ _ _) (by simp[Value.oneCell']) (by unfold maxLen;omega) (by omega) (by simp;omega) ?_;intro v' w3 ho3 hg3 _;obtain⟨A4,c4,rfl⟩:=jx ho3;have HO3:=ja ho3;have HG3:=ja hg3;clear ho3 hg3))
   have hz3:wr.heap.size+1<=w3.heap.size:=by have:=HG3.o.size;simpa using this
   have hol:=HOL.o
   have hnr:∀j,(Value.slice A3 k c3).ownBlock=some j->w.heap.size<=j:=λj e=>(HO.o.lt j e).1
   refine⟨⟨k+1,od++[y*2 % 4294967296+x],y/2147483648,by omega,rfl,by congr 1,by omega,by simp[hol],HOO.o.snoc (by omega),?_,?_,?_,?_⟩,by simp[intOf];omega⟩
   ·rw[htv.o,zt,hol]
    have h1:=HV.o
    simp only[jF,Nat.pow_succ]
    have h2:4294967296 ^ k*(y*2 % 4294967296+x+4294967296*0)+4294967296 ^ k*4294967296*(y/2147483648)=4294967296 ^ k*(y*2+x):=by
     rw[Nat.mul_assoc,<-Nat.mul_add]
     congr 1;omega
    have h3:4294967296 ^ k*(y*2+x)=(4294967296 ^ k*y)*2+4294967296 ^ k*x:=by rw[Nat.mul_add,Nat.mul_assoc]
    have h4:=Nat.add_mul (jF (ds.take k)) (4294967296 ^ k*y) 2
    generalize 4294967296 ^ k*y=p1 at *
    generalize 4294967296 ^ k*(y*2 % 4294967296+x+4294967296*0)=p2 at *
    generalize 4294967296 ^ k*4294967296*(y/2147483648)=p3 at *
    omega
   ·rw[List.map_append];exact HO3.o
   ·refine JJ.grown (JJ.alloc HWD.o _) HG3.o (λad' e e2=>?_)
    injection e with e
    subst e
    have h1:=HW.o.lt rfl
    have h2:=hnr _ e2.symm
    omega
   ·exact(HB.o.alloc hbz _).grown HG3.o (by simp;omega) hnr
  ·obtain rfl:k=ds.length:=by omega
   obtain⟨A3,c3,rfl⟩:=jx HO.o
   go_wp2_with (first
    | (at_builtin;refine wpList_append_own _ rfl _ _ 149 rfl w.heap.size 158 i0 (.int .u32 0) 1 4 Tryz.underlying149 hi0 hz0 hz1 hz2 rfl (by decide) (.slice A3 ds.length c3) ds.length _ rfl (World.ownsRow.alloc HO.o _) ⟨wr.heap.size,0,none⟩ 1 1 [.int .u32 (x:Int)] rfl rfl (JG _ _ _) (by simp[Value.oneCell']) (by unfold maxLen;omega) (by omega) (by simp;omega) ?_;intro v' w3 ho3 hg3 _;obtain⟨A4,c4,rfl⟩:=jx ho3;have HO3:=ja ho3;have HG3:=ja hg3;clear ho3 hg3))
   have hz3:wr.heap.size+1<=w3.heap.size:=by have:=HG3.o.size;simpa using this
   have hnr:∀j,(Value.slice A3 ds.length c3).ownBlock=some j->w.heap.size<=j:=λj e=>(HO.o.lt j e).1
   have hO4:w3.ownsRow w.heap.size 158 1 (.slice A4 (ds.length+1) c4) (ds.length+1) ((od++[x]).map Jl):=by rw[List.map_append];exact HO3.o
   refine(QR w3.heap.size A4 (ds.length+1) c4 (od++[x]) w3 (JJ.of_own hO4) (HOO.o.snoc (by omega))).mono ?_
   rintro e w5 ⟨n5,rfl,hw5,hn5,hw5'⟩
   subst w5
   go_wp2
   go_ret
   have hvv:jF (od++[x])=v*2+word:=by
    rw[zt,HOL.o]
    have h1:=HV.o
    rw[List.take_length,vv] at h1
    simp only[jF]
    omega
   rw[hvv] at hw5
   exact⟨A4,n5,c4,rfl,hw5,hn5,jbb9 hO4,(HB.o.alloc hbz _).grown HG3.o (by simp;omega) hnr⟩
theorem JT(ds:List Nat)(k:Nat):jF (ds.take (k+1))=jF (ds.take k)+4294967296 ^ k*ds.getD k 0:=by
 by_cases h:k<ds.length
 ·rw[Qg h,List.getD_eq_getElem?_getD,List.getElem?_eq_getElem h];rfl
 ·rw[List.take_of_length_le (by omega),List.take_of_length_le (by omega),List.getD_eq_getElem?_getD,List.getElem?_eq_none (by omega)]
  simp
theorem jh7{ds:List Nat}(h:Jy ds)(k:Nat):ds.getD k 0<4294967296:=by
 rw[List.getD_eq_getElem?_getD]
 by_cases hk:k<ds.length
 ·rw[List.getElem?_eq_getElem hk];exact h _ (List.getElem_mem hk)
 ·rw[List.getElem?_eq_none (by omega)];simp
theorem jck3(od:List Nat)(m:Nat)(d:Nat)(h:od.length<m):((od++List.replicate (m-od.length) 0).map Jl).set od.length (Jl d)=((od++[d])++List.replicate (m-(od.length+1)) 0).map Jl:=by
 have h1:List.replicate (m-od.length) 0=0::List.replicate (m-(od.length+1)) 0:=by
  have:m-od.length=(m-(od.length+1))+1:=by omega
  rw[this];rfl
 rw[h1]
 simp
theorem jbc1 {od da db:List Nat} {k cr:Nat} (hv:jF od+4294967296 ^ k*cr=jF (da.take k)+jF (db.take k)) (hl:od.length=k) :
  jF (od++[(cr+da.getD k 0+db.getD k 0) % 4294967296])+4294967296 ^ (k+1)*((cr+da.getD k 0+db.getD k 0)/4294967296)=jF (da.take (k+1))+jF (db.take (k+1)):=by
 rw[JT,JT,zt,hl]
 generalize da.getD k 0=x
 generalize db.getD k 0=y
 simp only[jF,Nat.pow_succ]
 have h2:4294967296 ^ k*((cr+x+y) % 4294967296+4294967296*0)+4294967296 ^ k*4294967296*((cr+x+y)/4294967296)=4294967296 ^ k*(cr+x+y):=by
  rw[Nat.mul_assoc,<-Nat.mul_add]
  congr 1;omega
 have h3:4294967296 ^ k*(cr+x+y)=4294967296 ^ k*cr+4294967296 ^ k*x+4294967296 ^ k*y:=by rw[Nat.mul_add,Nat.mul_add]
 omega
theorem jcd0{P:Nat}:P*2<=P*4294967296:=Nat.mul_le_mul_left _ (by decide)
theorem jbr4{x y z P q cr:Nat}(h5:P*2<=q)(h1:z+q*cr=x+y)(h2:x<P)(h3:y<P)(hcr:cr<=1):z=x+y:=by
 rcases Nat.eq_zero_or_pos cr with h|h
 ·subst h;simpa using h1
 ·have h4:cr=1:=Nat.le_antisymm hcr h
  subst h4
  omega
theorem jbr3{x y z P cr:Nat}(h1:z+P*4294967296*cr=x+y)(h2:x<P)(h3:y<P)(hcr:cr<=1):z=x+y:=jbr4 (P:=P) (q:=P*4294967296) jcd0 h1 h2 h3 hcr
theorem jcc9{od da db:List Nat}{m cr:Nat}(h1:jF od+4294967296 ^ (m+1)*cr=jF (da.take (m+1))+jF (db.take (m+1)))(oa:Jy da)(ob:Jy db)(ha:da.length<=m)(hb:db.length<=m)(hcr:cr<=1):jF od=jF da+jF db:=by
 rw[List.take_of_length_le (Nat.le_succ_of_le ha),List.take_of_length_le (Nat.le_succ_of_le hb),Nat.pow_succ] at h1
 exact jbr3 h1 (Nat.lt_of_lt_of_le (jk2 oa) (Nat.pow_le_pow_right (by decide) ha)) (Nat.lt_of_lt_of_le (jk2 ob) (Nat.pow_le_pow_right (by decide) hb)) hcr
theorem Zn (B:Nat) (A:Option Addr) (n c a B2:Nat) (A2:Option Addr) (n2 c2 b:Nat) (w:World) (h:zg w B A n c (dig a)) (h2:zg w B2 A2 n2 c2 (dig b)) (hn:n<=20000000000000) (hn2:n2<=20000000000000) :
  Calls Tryz.prog 114 #[.slice A n c,.slice A2 n2 c2] w λe w'=>∃(A':Option Addr) (n' c':Nat),e=.returned (.slice A' n' c')/\zg w' w'.heap.size A' n' c' (dig (a+b))/\n'<=max n n2+1/\Below w.heap.size w w':=by
 have hl:=h.len
 have hl2:=h2.len
 have va:=ZI a
 have vb:=ZI b
 have oa:=ja (qS a)
 have ob:=ja (qS b)
 have HA:=ja h;have HB2:=ja h2;clear h h2
 generalize dig a=da at *
 generalize dig b=db at *
 subst hl
 subst hl2
 obtain⟨i0,hi0,hz0,hz1,hz2⟩:=info_parts Tryz.infoU32
 obtain⟨m,hm⟩:∃m,m=max da.length db.length:=⟨_,rfl⟩
 have hmi:max (da.length:Int) (db.length:Int)=(m:Int):=by omega
 have hmb:m<=20000000000000/\da.length<=m/\db.length<=m:=by omega
 have hb0:i0.bytes*(m+1)<=281474976710656:=by rw[hz2];omega
 rw[<-hm]
 clear hm
 go_enter Tryz.func114,Tryz.ntmps114
 go_wp2_with (first
  | (at_make;refine wpList_make_full _ rfl _ _ 149 rfl w.heap.size 158 i0 (.int .u32 0) 1 Tryz.underlying149 hi0 hz0 hz1 .i64 .i64 _ _ (m+1) rfl rfl rfl rfl hb0 (by unfold maxLen;omega) (Nat.le_refl _) ?_;intro w1 ho1 hg1;have HO1:=ja ho1;have HG1:=ja hg1;clear ho1 hg1))
 have hmc:(madeCells (Value.int IntKind.u32 0).cells ((m+1)*1)).toList=(List.replicate (m+1) 0).map Jl:=by
  rw[Nat.mul_one]
  show(madeCells #[Value.int IntKind.u32 0] (m+1)).toList=_
  rw[toList_madeCells_one,List.map_replicate];rfl
 rw[hmc] at HO1
 clear hmc
 go_loopw [6,17] (λcv i W=>∃(k:Nat) (od:List Nat) (cr:Nat),k<=m+1/\i=.int .i64 k/\cv=.int .u64 cr/\cr<=1/\od.length=k/\Jy od/\jF od+4294967296 ^ k*cr=jF (da.take k)+jF (db.take k) /\
  W.ownsRow w.heap.size 158 1 (.slice (some ⟨w.heap.size,0,none⟩) (m+1) (m+1)) (m+1) ((od++List.replicate (m+1-od.length) 0).map Jl)/\zg W B A da.length c da/\zg W B2 A2 db.length c2 db/\Below w.heap.size w W) (λ_ i _=>m+1-(intOf i).toNat)
 case atStart=>
  exact⟨0,[],0,by omega,rfl,rfl,by omega,rfl,by simp[Jy],by simp[jF],by simpa using HO1.o,JJ.grown HA.o HG1.o (by simp),JJ.grown HB2.o HG1.o (by simp),Qk HG1.o⟩
 case round=>
  obtain⟨k,od,cr,hk,rfl,rfl,hcr,hol,hoo,hval,ho,hwa,hwb,hb⟩:=hrel
  have HO:=ja ho;have HWA:=ja hwa;have HWB:=ja hwb;have HBB:=ja hb;have HV:=ja hval;have HOO:=ja hoo;have HOL:=ja hol
  have hbz:=hb.size
  clear ho hwa hwb hb hval hoo HO1 HG1 hol
  by_cases hlt:k<m+1
  ·have hx:=jh7 oa.o k
   have hy:=jh7 ob.o k
   have hPR:=ja (jbc1 HV.o HOL.o)
   have hfz:=HO.o.frozenAt k
   have hce:=HO.o.cellAt k (by omega)
   obtain⟨u0,hu0⟩:∃u0,((od++List.replicate (m+1-od.length) 0).map Jl)[k]?=some u0:=⟨_,List.getElem?_eq_getElem (by have:=HOL.o;simp;omega)⟩
   rw[hu0] at hce
   clear hu0
   have hpa:k<da.length->∃ad:Addr,A=some ad/\wr.cell? (ad.add k)=some (.int .u32 (da.getD k 0)):=λh=>by
    obtain⟨ad,e,h1⟩:=HWA.o.at_ h
    exact⟨ad,e,by rw[h1,List.getD_eq_getElem?_getD,List.getElem?_eq_getElem h];rfl⟩
   have hpb:k<db.length->∃ad:Addr,A2=some ad/\wr.cell? (ad.add k)=some (.int .u32 (db.getD k 0)):=λh=>by
    obtain⟨ad,e,h1⟩:=HWB.o.at_ h
    exact⟨ad,e,by rw[h1,List.getD_eq_getElem?_getD,List.getElem?_eq_getElem h];rfl⟩
   have hza:da.length<=k->da.getD k 0=0:=λh=>by rw[List.getD_eq_getElem?_getD,List.getElem?_eq_none h];rfl
   have hzb:db.length<=k->db.getD k 0=0:=λh=>by rw[List.getD_eq_getElem?_getD,List.getElem?_eq_none h];rfl
   have hpa:=ja hpa;have hpb:=ja hpb;have hza:=ja hza;have hzb:=ja hzb
   generalize da.getD k 0=x at *
   generalize db.getD k 0=y at *
   have hfin:∀S,S=cr+x+y->(∃k_1 od cr_1,
     k_1<=m+1/\Value.int .i64 ((k:Int)+1)=Value.int .i64 (k_1:Nat)/\Value.int .u64 ((S:Int)/4294967296)=Value.int .u64 (cr_1:Nat)/\cr_1<=1/\od.length=k_1/\Jy od/\jF od+4294967296 ^ k_1*cr_1=jF (da.take k_1)+jF (db.take k_1) /\
     (wr.setCell ⟨w.heap.size,k,none⟩ (.int .u32 ((S:Int) % 4294967296))).ownsRow w.heap.size 158 1 (.slice (some ⟨w.heap.size,0,none⟩) (m+1) (m+1)) (m+1) ((od++List.replicate (m+1-od.length) 0).map Jl)/\zg (wr.setCell ⟨w.heap.size,k,none⟩ (.int .u32 ((S:Int) % 4294967296))) B A da.length c da/\zg (wr.setCell ⟨w.heap.size,k,none⟩ (.int .u32 ((S:Int) % 4294967296))) B2 A2 db.length c2 db/\Below w.heap.size w (wr.setCell ⟨w.heap.size,k,none⟩ (.int .u32 ((S:Int) % 4294967296)))):=by
    intro S hS
    subst hS
    have hol:=HOL.o
    have hst:=HO.o.stored k (Jl ((cr+x+y) % 4294967296))
    have e1:Jl ((cr+x+y) % 4294967296)=.int .u32 (((cr+x+y:Nat):Int) % 4294967296):=by unfold Jl;congr 1
    rw[e1] at hst
    refine⟨k+1,od++[(cr+x+y) % 4294967296],(cr+x+y)/4294967296,by omega,rfl,rfl,by omega,by simp[hol],HOO.o.snoc (by omega),hPR.o,?_,?_,?_,HBB.o.setCell (Nat.le_refl _) _⟩
    ·have h1:=hst.1
     subst hol
     rw[<-e1,jck3 _ _ _ (by omega)] at h1
     rw[e1] at h1
     simpa using h1
    ·exact JJ.keep HWA.o (λad e=>Below.heap_setCell _ _ _ _ (by have:=HA.o.lt e;show ad.block≠w.heap.size;omega))
    ·exact JJ.keep HWB.o (λad e=>Below.heap_setCell _ _ _ _ (by have:=HB2.o.lt e;show ad.block≠w.heap.size;omega))
   by_cases hka:k<da.length
   ·obtain⟨ad,rfl,hca⟩:=hpa.o hka
    by_cases hkb:k<db.length
    ·obtain⟨ad2,rfl,hcb⟩:=hpb.o hkb
     have hF:=ja (hfin (cr+x+y) rfl)
     clear hfin
     go_wp2
     have h1:=hF.o
     simp only[Int.natCast_add] at h1
     exact⟨h1,by simp[intOf];omega⟩
    ·have hF:=ja (hfin (cr+x) (by rw[hzb.o (by omega)];omega))
     clear hfin
     go_wp2
     have h1:=hF.o
     simp only[Int.natCast_add] at h1
     exact⟨h1,by simp[intOf];omega⟩
   ·by_cases hkb:k<db.length
    ·obtain⟨ad2,rfl,hcb⟩:=hpb.o hkb
     have hF:=ja (hfin (cr+y) (by rw[hza.o (by omega)];omega))
     clear hfin
     go_wp2
     have h1:=hF.o
     simp only[Int.natCast_add] at h1
     exact⟨h1,by simp[intOf];omega⟩
    ·have hF:=ja (hfin cr (by rw[hza.o (by omega),hzb.o (by omega)];omega))
     clear hfin
     go_wp2
     have h1:=hF.o
     rw[show((cr:Int) % 4294967296)=cr by omega] at h1
     exact⟨h1,by simp[intOf];omega⟩
  ·obtain rfl:k=m+1:=by omega
   have hol:=HOL.o
   have hcr0:jF od=a+b:=by
    rw[<-va,<-vb]
    exact jcc9 HV.o oa.o ob.o hmb.2.1 hmb.2.2 hcr
   have hrow:=HO.o
   rw[hol] at hrow
   simp only[Nat.sub_self,List.replicate_zero,List.append_nil] at hrow
   have HSH:=ja (QR wr.heap.size (some ⟨w.heap.size,0,none⟩) (m+1) (m+1) od wr (JJ.of_own hrow) HOO.o)
   rw[hcr0] at HSH
   clear hrow
   go_wp2_with fail
   refine HSH.o.mono ?_
   rintro e w5 ⟨n5,rfl,hw5,hn5,hw5'⟩
   subst w5
   go_wp2
   go_ret
   exact⟨_,n5,_,rfl,hw5,by omega,HBB.o⟩
def Qa(x y b:Nat):Nat:=if x<y+b then 1 else 0
def zU(x y b:Nat):Nat:=(x+8589934592-y-b) % 4294967296
theorem jbg4{N:Nat}(h:N<4294967296):N/2147483648=(N.testBit 31).toNat:=by
 rw[Nat.testBit_eq_decide_div_mod_eq]
 have:(2:Nat) ^ 31=2147483648:=by decide
 rw[this]
 rcases(by omega:N/2147483648=0\/N/2147483648=1)with h1|h1<;>rw[h1]<;>rfl
theorem jbs6 (x y b:Nat) (hx:x<4294967296) (hy:y<4294967296) (hb:b<=1) :
  (((4294967295 ^^^ x) &&&y) ||| ((4294967295 ^^^ (x ^^^ y)) &&&zU x y b))/2147483648=Qa x y b:=by
 have h32:(4294967296:Nat)=2 ^ 32:=by decide
 have hd:zU x y b<4294967296:=by unfold zU;omega
 have hm:(4294967295:Nat)<2 ^ 32:=by decide
 have e1:4294967295 ^^^ x<2 ^ 32:=Nat.xor_lt_two_pow hm (h32▸hx)
 have e2:x ^^^ y<2 ^ 32:=Nat.xor_lt_two_pow (h32▸hx) (h32▸hy)
 have e3:4294967295 ^^^ (x ^^^ y)<2 ^ 32:=Nat.xor_lt_two_pow hm e2
 have e4:((4294967295 ^^^ x) &&&y) ||| ((4294967295 ^^^ (x ^^^ y)) &&&zU x y b)<2 ^ 32:=Nat.or_lt_two_pow (Nat.and_lt_two_pow _ (h32▸hy)) (Nat.and_lt_two_pow _ (h32▸hd))
 rw[jbg4 (by rw[h32];exact e4)]
 have b1:(4294967295:Nat).testBit 31=true:=by decide
 simp only[Nat.testBit_or,Nat.testBit_and,Nat.testBit_xor,b1]
 have hX:=jbg4 hx
 have hY:=jbg4 hy
 have hD:=jbg4 hd
 unfold Qa
 have hdd:zU x y b=(x+8589934592-y-b) % 4294967296:=rfl
 generalize zU x y b=d at *
 generalize x.testBit 31=X at *
 generalize y.testBit 31=Y at *
 generalize d.testBit 31=D at *
 cases X<;>cases Y<;>cases D<;>simp only[Bool.toNat_true,Bool.toNat_false,Bool.true_bne,Bool.not_true,Bool.not_false,Bool.and_true,Bool.and_false,Bool.or_false,Bool.or_true,Bool.false_and,Bool.true_and,bne_self_eq_false,Bool.bne_false,Bool.bne_true] at hX hY hD ⊢<;>split<;>omega
theorem jbd4 (x y b:Nat) (hx:x<4294967296) (hy:y<4294967296) (hb:b<=1) :
  bits BinOp.or IntKind.u32 (bits BinOp.and IntKind.u32 (bits BinOp.xor IntKind.u32 IntKind.u32.max (x:Int)) (y:Int)) (bits BinOp.and IntKind.u32 (bits BinOp.xor IntKind.u32 IntKind.u32.max (bits BinOp.xor IntKind.u32 (x:Int) (y:Int))) (((x:Int)-y-b) % 4294967296))/2147483648=(Qa x y b:Int):=by
 have h32:(4294967296:Nat)=2 ^ 32:=by decide
 have hd:zU x y b<4294967296:=by unfold zU;omega
 have hD:((x:Int)-y-b) % 4294967296=(zU x y b:Int):=by unfold zU;omega
 have hm:(4294967295:Nat)<2 ^ 32:=by decide
 have e1:4294967295 ^^^ x<2 ^ 32:=Nat.xor_lt_two_pow hm (h32▸hx)
 have e2:x ^^^ y<2 ^ 32:=Nat.xor_lt_two_pow (h32▸hx) (h32▸hy)
 have e3:4294967295 ^^^ (x ^^^ y)<2 ^ 32:=Nat.xor_lt_two_pow hm e2
 have e5:(4294967295 ^^^ x) &&&y<2 ^ 32:=Nat.and_lt_two_pow _ (h32▸hy)
 have e6:(4294967295 ^^^ (x ^^^ y)) &&&zU x y b<2 ^ 32:=Nat.and_lt_two_pow _ (h32▸hd)
 have hmx:IntKind.u32.max=((4294967295:Nat):Int):=by decide
 have hn:=jbs6 x y b hx hy hb
 rw[<-h32] at e1 e2 e3 e5 e6
 rw[hD,hmx,Go.u32_xor_nat _ _ (by decide) hx,Go.u32_and_nat _ _ e1 hy,Go.u32_xor_nat _ _ hx hy,Go.u32_xor_nat _ _ (by decide) e2,Go.u32_and_nat _ _ e3 hd,Go.u32_or_nat _ _ e5 e6,<-hn]
 rfl
theorem jbs5 (x y b:Nat) (w:World) (hx:x<4294967296) (hy:y<4294967296) (hb:b<=1) :
  Calls Tryz.prog 166 #[.int .u32 x,.int .u32 y,.int .u32 b] w λe w'=>e=.returned (.tuple #[.int .u32 (zU x y b),.int .u32 (Qa x y b)])/\w'=w:=by
 have HB:=ja (jbd4 x y b hx hy hb)
 have HD:=ja (show((x:Int)-y-b) % 4294967296=(zU x y b:Int) by unfold zU;omega)
 go_enter Tryz.func166,Tryz.ntmps166
 go_wp2
 go_ret2
 exact⟨by rw[<-HB.o,<-HD.o];rfl,rfl⟩
