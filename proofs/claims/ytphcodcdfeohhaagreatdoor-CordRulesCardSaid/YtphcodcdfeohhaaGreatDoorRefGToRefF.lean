import Derived.Test.YtphcodcdfeohhaaGreatDoorRefAToRefE
set_option linter.all false
namespace Go.Proofs.YtphcodcdfeohhaaGreatDoor
set_option maxRecDepth 100000
set_option maxHeartbeats 16000000
open Go.RowKit
theorem zc8{w:World}{base b size n:Nat}{e t:TypeId}{v:Value}{cs:Array Value}{xs:List Value}(h:w.ownsRow base e size v n xs)(hb:jh w b t cs)(hne:e≠t):v.ownBlock≠some b:=by
 rcases h.2 with⟨rfl,_⟩|⟨g,cap,cur,rfl,_,hh,_⟩
 ·simp[Value.ownBlock]
 ·intro he
  have hg:g=b:=by simpa [Value.ownBlock] using he
  subst hg
  unfold jh at hb
  rw[hh] at hb
  injection hb with hb
  injection hb with _ ht
  exact hne ht
structure SelI(w V:World)(X:Nat)(Ao:Option Addr)(cap:Nat)(kv:List (Int×Int))(D GG:Int)(v:Value)(ts kv':List (Int×Int)):Prop where
 o:OutI w V (.slice Ao kv.length cap) kv'
 x:jh V X 24 #[.int .i64 D,v]
 row:V.ownsRow (w.heap.size+1) 59 2 v ts.length (jr ts)
 apart:∀g,v.ownBlock=some g->(Value.slice Ao kv.length cap).ownBlock≠some g
 len:kv'.length=kv.length
 keys:kv'.map (·.1)=kv.map (·.1)
 cb:∀p∈kv',-9000000000000000000<=p.2/\p.2<=9000000000000000000
 terms:ts++zp (kv'.filter nz) GG=zp (kv.filter nz) GG
 tl:ts.length+(kv'.filter nz).length<=kv.length
 ux:w.heap.size<X
 tb:∀t∈ts,-9000000000000000000<=t.1/\t.1<=9000000000000000000
theorem SelI.under{w V V':World}{X cap:Nat}{Ao:Option Addr}{kv ts kv':List (Int×Int)}{D GG:Int}{v:Value}(h:SelI w V X Ao cap kv D GG v ts kv')(hb:Below V.heap.size V V'):SelI w V' X Ao cap kv D GG v ts kv':=
 ⟨h.o.under hb,h.x.below hb h.x.lt,jG h.row hb,h.apart,h.len,h.keys,h.cb,h.terms,h.tl,h.ux,h.tb⟩
theorem SelI.drewN{w V:World}{X cap:Nat}{Ao:Option Addr}{kv ts kv':List (Int×Int)}{D GG:Int}{v:Value}(h:SelI w V X Ao cap kv D GG v ts kv')(q:Nat):SelI w (V.drewN q) X Ao cap kv D GG v ts kv':=h.under (jp (Below.refl _ _) q)
theorem jj6{kv:List (Int×Int)}{m:Nat}(h:m<kv.length)(x:Int×Int):kv.set m x=kv.take m++x::kv.drop (m+1):=by
 rw[List.set_eq_take_append_cons_drop,if_pos h]
theorem jn9{kv:List (Int×Int)}{m:Nat}(h:m<kv.length):kv=kv.take m++kv[m]::kv.drop (m+1):=by
 rw[<-List.drop_eq_getElem_cons h,List.take_append_drop]
theorem jaf6{w w':World}{base s n:Nat}{e:TypeId}{v:Value}{xs:List Value}(h:w.ownsRow base e s v n xs){row:Option Nat}(hg:w.grownBy w' row)(hne:∀g,v.ownBlock=some g->row≠some g):w'.ownsRow base e s v n xs:=by
 refine h.kept hg ?_
 cases hv:v.ownBlock with
 | none=>exact .inl rfl
 | some g=>exact .inr (λe=>hne g hv e.symm)
theorem jag3(c G:Int):-(c.natAbs:Int)<=c.tdiv G/\c.tdiv G<=c.natAbs:=by
 have h:(c.tdiv G).natAbs<=c.natAbs:=by
  rw[Int.natAbs_tdiv]
  exact Nat.div_le_self _ _
 omega
theorem SelI.step {w V w1 w3:World} {X g cap g3 cap3 m:Nat} {kv ts kv':List (Int×Int)} {D GG r c:Int} {v:Value} (h:SelI w V X (some ⟨g,0,none⟩) cap kv D GG v ts kv') (hn:(kv.map (·.1)).Nodup)
  (hm:m<kv'.length) (hrc:kv'[m]=(r,c)) (hc:c≠0) (hmin:∀p∈kv',p.2≠0->r<=p.1) (hb:Below V.heap.size V w1)
  (hrow:w3.ownsRow (w.heap.size+1) 59 2 (.slice (some ⟨g3,0,none⟩) (ts.length+1) cap3) (ts.length+1) (jr ts++[.int .i64 (c.tdiv GG),.int .i64 r])) (hg:w1.grownBy w3 v.ownBlock) (hat:v.ownBlock=some g3\/V.heap.size<=g3) :
  SelI w ((w3.setCell ⟨X,1,none⟩ (.slice (some ⟨g3,0,none⟩) (ts.length+1) cap3)).setCell ⟨g,m*2,none⟩ (.int .i64 0)) X (some ⟨g,0,none⟩) cap kv D GG (.slice (some ⟨g3,0,none⟩) (ts.length+1) cap3) (ts++[(c.tdiv GG,r)]) (kv'.set m (r,0)) /\
   (w3.setCell ⟨X,1,none⟩ (.slice (some ⟨g3,0,none⟩) (ts.length+1) cap3)).cell? ⟨g,m*2,none⟩=some (.int .i64 c)/\(w3.setCell ⟨X,1,none⟩ (.slice (some ⟨g3,0,none⟩) (ts.length+1) cap3)).frozen? ⟨g,m*2,none⟩=false/\w3.cell? ⟨X,1,none⟩=some v/\w3.frozen? ⟨X,1,none⟩=false:=by
 have h1:=h.under hb
 have hgV:w.heap.size+1<=g/\g<V.heap.size:=h.o.row.lt g rfl
 have hgw1:g<w1.heap.size:=(h1.o.row.lt g rfl).2
 have hXV:X<V.heap.size:=h.x.lt
 have hwV:w.heap.size<=V.heap.size:=h.o.below.size
 have hXw1:X<w1.heap.size:=h1.x.lt
 have hw1:w.heap.size<=w1.heap.size:=h1.o.below.size
 have hvX:v.ownBlock≠some X:=zc8 h1.row h1.x (by decide)
 have hvg:v.ownBlock≠some g:=λe=>h1.apart g e rfl
 have hgX:g≠X:=λe=>zc8 h1.o.row h1.x (by decide) (by rw[<-e];rfl)
 have hg3g:g3≠g:=by
  rcases hat with e|e
  ·exact λe2=>hvg (by rw[e,e2])
  ·omega
 have hg3X:g3≠X:=by
  rcases hat with e|e
  ·exact λe2=>hvX (by rw[e,e2])
  ·omega
 have hUX:=h.ux
 have hz3:=hg.size
 have hb3:Below (w.heap.size+1) V w3:=(hb.mono (by omega)).grown hg (by omega) (λj e=>(h1.row.lt j e).1)
 have ho3:OutI w w3 (.slice (some ⟨g,0,none⟩) kv.length cap) kv':=
  ⟨jaf6 h1.o.row hg (λj e e2=>h1.apart j e2 e),h1.o.res.grown hg (λe=>by have:=(h1.row.lt _ e).1;omega),h1.o.below.grown hg hw1 (λj e=>by have:=(h1.row.lt j e).1;omega)⟩
 have hx3:jh w3 X 24 #[.int .i64 D,v]:=h1.x.grown hg (λe=>hvX e)
 have ho4:=ho3.set (P:=X) (by intro e;exact hgX (Option.some.inj e)) hUX 1 (.slice (some ⟨g3,0,none⟩) (ts.length+1) cap3)
 have hx4:=hx3.set_ 1 (.slice (some ⟨g3,0,none⟩) (ts.length+1) cap3)
 have hr4:=ownsRow_setCell_other hrow (a:=⟨X,1,none⟩) (by intro e;exact hg3X (Option.some.inj e)) (.slice (some ⟨g3,0,none⟩) (ts.length+1) cap3)
 have hk:kv'.map (·.1)=kv.map (·.1):=h.keys
 have hset:(kv'.set m (r,0)).length=kv'.length:=by simp
 have ho5:OutI w ((w3.setCell ⟨X,1,none⟩ (.slice (some ⟨g3,0,none⟩) (ts.length+1) cap3)).setCell ⟨g,m*2,none⟩ (.int .i64 0)) (.slice (some ⟨g,0,none⟩) kv.length cap) (kv'.set m (r,0)):=by
  have h5:OutI w (w3.setCell ⟨X,1,none⟩ (.slice (some ⟨g3,0,none⟩) (ts.length+1) cap3)) (.slice (some ⟨g,0,none⟩) kv'.length cap) kv':=by rw[h.len];exact ho4
  have h6:=h5.put hm (x:=0) (kv':=kv'.set m (r,0)) (by rw[hrc])
  rw[h.len] at h6
  exact h6
 have hsplit:=jn9 hm
 rw[hrc] at hsplit
 have hnk:((kv'.take m++(r,c)::kv'.drop (m+1)).map (·.1)).Nodup:=by rw[<-hsplit,hk];exact hn
 have hstep:=zd6 GG hnk hc (λp hp hp2=>hmin p (by
  rw[hsplit]
  rcases List.mem_append.1 hp with h|h<;>simp[h]) hp2)
 have hrow4:=ho4.row
 rw[h.len] at hrow4
 have hmo:m<(zZ kv').length:=by rw[zE];exact hm
 have hot:(zZ kv')[m]=(c,r):=by
  have h9:(zZ kv')[m]=(kv'[m].2,kv'[m].1):=by simp[zZ]
  rw[h9,hrc]
 obtain⟨c0,_,f0,_⟩:=zl hrow4 hmo
 rw[hot] at c0
 obtain⟨_,x1,_,xf1⟩:=hx3.two
 refine⟨⟨ho5,hx4.far (by show X≠g;omega) _,?_,?_,by rw[hset];exact h.len,?_,?_,?_,?_,hUX,?_⟩,c0,f0,x1,xf1⟩
 ·rw[List.length_append,List.length_singleton,Zz]
  exact ownsRow_setCell_other hr4 (a:=⟨g,m*2,none⟩) (by intro e;exact hg3g (Option.some.inj e)) _
 ·intro j e e2
  have h5:g3=j:=Option.some.inj e
  have h6:g=j:=Option.some.inj e2
  omega
 ·rw[List.map_set,<-hk]
  have h5:m<(kv'.map (·.1)).length:=by simpa using hm
  have h6:(kv'.map (·.1))[m]=r:=by simp[hrc]
  show(kv'.map (·.1)).set m r=_
  rw[<-h6,List.set_getElem_self]
 ·intro p hp
  rcases List.mem_or_eq_of_mem_set hp with h5|h5
  ·exact h.cb p h5
  ·rw[h5];exact⟨by show(-9000000000000000000:Int)<=0;decide,by show(0:Int)<=9000000000000000000;decide⟩
 ·rw[jj6 hm,<-h.terms]
  conv=>rhs;rw[hsplit]
  rw[hstep,List.append_assoc]
  rfl
 ·have h5:=h.tl
  rw[jj6 hm,Qo,List.length_append,List.length_append,List.length_singleton]
  rw[hsplit,Qn hc,List.length_append,List.length_cons] at h5
  omega
 ·intro t ht
  rcases List.mem_append.1 ht with h5|h5
  ·exact h.tb t h5
  ·rw[List.mem_singleton.1 h5]
   have h6:=h.cb (r,c) (by rw[<-hrc];exact List.getElem_mem hm)
   have h7:=jag3 c GG
   dsimp only at h6 ⊢
   omega
theorem jcc3{kv:List (Int×Int)}{den:Int}(h0:den≠0)(hd:-9000000000000000000<=den/\den<=9000000000000000000):jU kv den≠0/\(-9000000000000000000<=jU kv den/\jU kv den<=9000000000000000000)/\1<=den.tdiv (jU kv den)/\den.tdiv (jU kv den)<=9000000000000000000:=by
 rw[jg3]
 have h1:=qT (den::kv.map (·.2)) den (by simp)
 have h2:=ZK (l:=den::kv.map (·.2)) (x:=den) (by simp) h0
 generalize jM (den::kv.map (·.2))=g at *
 have h3:=Nat.le_of_dvd (by omega) h1
 by_cases hn:den<0
 ·rw[if_pos hn]
  have e:den.tdiv (-(g:Int))=(-den).tdiv (g:Int):=by rw[Int.tdiv_neg,Int.neg_tdiv]
  rw[e,Int.tdiv_eq_ediv_of_nonneg (by omega)]
  refine⟨by omega,by omega,Int.le_ediv_of_mul_le (by omega) (by omega),?_⟩
  have:=Int.ediv_le_self (g:Int) (show 0<=-den by omega)
  omega
 ·rw[if_neg hn,Int.tdiv_eq_ediv_of_nonneg (by omega)]
  refine⟨by omega,by omega,Int.le_ediv_of_mul_le (by omega) (by omega),?_⟩
  have:=Int.ediv_le_self (g:Int) (show 0<=den by omega)
  omega
def JK(kv:List (Int×Int))(j:Nat)(b:Int):Prop:=
 (b=-1/\∀i (hi:i<kv.length),i<j->kv[i].2=0)\/∃(m:Nat) (hm:m<kv.length),b=(m:Int)/\m<j/\kv[m].2≠0/\∀i (hi:i<kv.length),i<j->kv[i].2≠0->kv[m].1<=kv[i].1
theorem JK.skip{kv:List (Int×Int)}{j:Nat}{b:Int}(h:JK kv j b)(hj:j<kv.length)(h0:kv[j].2=0):JK kv (j+1) b:=by
 rcases h with⟨h1,h2⟩|⟨m,hm,h1,h2,h3,h4⟩
 ·refine .inl ⟨h1,λi hi hlt=>?_⟩
  rcases Nat.lt_or_ge i j with h|h
  ·exact h2 i hi h
  ·obtain rfl:i=j:=by omega
   exact h0
 ·refine .inr ⟨m,hm,h1,by omega,h3,λi hi hlt hn=>?_⟩
  rcases Nat.lt_or_ge i j with h|h
  ·exact h4 i hi h hn
  ·obtain rfl:i=j:=by omega
   exact absurd h0 hn
theorem JK.first{kv:List (Int×Int)}{j:Nat}(h:∀i (hi:i<kv.length),i<j->kv[i].2=0)(hj:j<kv.length)(h0:kv[j].2≠0):JK kv (j+1) (j:Int):=
 .inr ⟨j,hj,rfl,by omega,h0,λi hi hlt hn=>by
  rcases Nat.lt_or_ge i j with h5|h5
  ·exact absurd (h i hi h5) hn
  ·obtain rfl:i=j:=by omega
   exact Int.le_refl _⟩
theorem JK.less{kv:List (Int×Int)}{j m:Nat}(hm:m<kv.length)(h:∀i (hi:i<kv.length),i<j->kv[i].2≠0->kv[m].1<=kv[i].1)(hj:j<kv.length)(h0:kv[j].2≠0)(hl:kv[j].1<kv[m].1):JK kv (j+1) (j:Int):=
 .inr ⟨j,hj,rfl,by omega,h0,λi hi hlt hn=>by
  rcases Nat.lt_or_ge i j with h5|h5
  ·have:=h i hi h5 hn;omega
  ·obtain rfl:i=j:=by omega
   exact Int.le_refl _⟩
theorem JK.more{kv:List (Int×Int)}{j m:Nat}(hm:m<kv.length)(hmj:m<j)(h3:kv[m].2≠0)(h:∀i (hi:i<kv.length),i<j->kv[i].2≠0->kv[m].1<=kv[i].1)(hj:j<kv.length)(hl:¬kv[j].1<kv[m].1):JK kv (j+1) (m:Int):=
 .inr ⟨m,hm,rfl,by omega,h3,λi hi hlt hn=>by
  rcases Nat.lt_or_ge i j with h5|h5
  ·exact h i hi h5 hn
  ·obtain rfl:i=j:=by omega
   omega⟩
theorem jaf8 (den M:Int) (A:Option Addr) (n c B:Nat) (l:List (Int×Int)) (w:World) (hx:jJ w B A n c l) (hB:B<=w.heap.size) (hd0:den≠0) (hden:-9000000000000000000<=den/\den<=9000000000000000000)
  (hl8:l.length<=1000) (hro:∀t∈l,0<=t.2/\t.2<=100000000000) (hM0:0<=M) (hco:∀t∈l,-M<=t.1*((jo t.2.toNat).1:Int)/\t.1*((jo t.2.toNat).1:Int)<=M) (hMl:(l.length:Int)*M<=9000000000000000000) :
  Calls Tryz.prog 89 #[.int .i64 den,.slice A n c] w (jV w (zm8 den l)):=by
 have hlx:=hx.len
 subst hlx
 have hnx:=Rq.nmax hx
 obtain⟨i1,hi1,hy0,hy1,hy2⟩:=info_parts Tryz.infoTerm
 have HT:=ja (λW (hb:Below w.heap.size w W)=>Rq.below hx (hb.mono hB))
 obtain⟨w0,hw0⟩:∃w0,w0=(w.alloc (.cells #[.int .i64 0,.slice none 0 0] 24)).alloc (.cells #[] 59):=⟨_,rfl⟩
 have hz00:w0.heap.size=w.heap.size+2:=by rw[hw0];simp
 have HI0:Hid (OutI w w0 (.slice (some ⟨w.heap.size+1,0,none⟩) 0 0) []):=ja (by
  rw[hw0]
  refine⟨?_,(jh.new w _ _).alloc _,((Below.refl _ _).alloc (Nat.le_refl _) _).alloc (by simp) _⟩
  have h:=World.ownsRow_lit (base:=w.heap.size+1) (e:=59) (size:=2) (w.alloc (.cells #[.int .i64 0,.slice none 0 0] 24)) #[] 0 (by simp) (by unfold maxLen;omega) rfl
  rw[World.size_alloc] at h
  exact h)
 have HRO:=ja hro
 have HCO:=ja hco
 have HPB:=ja (show ∀k:Nat,k<=l.length->zB (ju [] (l.take k) 1) ((k:Int)*M)from λk hk=>by
  have h:=qM (N:=M) (m:=1) hM0 (l.take k) [] 0 zB.nil (λt ht=>by
   have:=hco t (List.mem_of_mem_take ht)
   rw[Int.mul_one];exact this)
  rw[List.length_take,Nat.min_eq_left hk,Int.zero_add] at h
  exact h)
 have HPN:=ja (show ∀k:Nat,((ju [] (l.take k) 1).map (·.1)).Nodup from λk=>jp8 _ [] 1 (by simp))
 have HPL:=ja (show ∀k:Nat,(ju [] (l.take k) 1).length<=1000 from λk=>by
  have h:=QZ (l.take k) [] 1
  simp only[List.length_nil,List.length_take] at h
  omega)
 clear hx hro hco
 go_enter Tryz.func89,Tryz.ntmps89
 go_wp2
 rw[<-hw0]
 clear hw0
 go_loopw [6,7] (λo i W=>∃k:Nat,k<=l.length/\i=.int .i64 k/\OutI w W o (ju [] (l.take k) 1)/\w.heap.size+2<=W.heap.size) (λ_ i _=>l.length-(intOf i).toNat)
 case atStart=>exact⟨0,by omega,rfl,HI0.o,by omega⟩
 case round=>
  obtain⟨k,hk,rfl,hI,hWz⟩:=hrel
  have HI:=ja hI
  clear hI HI0
  by_cases hkl:(k:Int)<(l.length:Int)
  ·have hk1:k<l.length:=by omega
   have HTq:=ja (HT.o _ HI.o.below)
   obtain⟨ad,rfl,had,ha0,ha1⟩:=jJ.at_ HTq.o hk1
   have hr1:=HRO.o l[k] (List.getElem_mem hk1)
   have hc1:=HCO.o l[k] (List.getElem_mem hk1)
   have HST:=ja (show ju [] (l.take (k+1)) 1=addRoot (ju [] (l.take k) 1) (l[k].1*1) l[k].2 by rw[jw l k hk1,jd2])
   have HPB1:=ja (HPB.o k hk)
   have HPB2:=ja (HPB.o (k+1) hk1)
   have HPN1:=ja (HPN.o k)
   have hpl1:=HPL.o k
   generalize hkv:ju [] (l.take k) 1=kv at *
   obtain⟨t,ht⟩:∃t,t=l[k]:=⟨_,rfl⟩
   rw[<-ht] at ha0 ha1 hr1 hc1 HST
   clear ht hkv
   obtain⟨co,ro⟩:=t
   dsimp only at ha0 ha1 hr1 hc1
   have HST:Hid (ju [] (l.take (k+1)) 1=addRoot kv co ro):=ja (by have:=HST.o;rwa [Int.mul_one] at this)
   obtain⟨Ao,cap,rfl⟩:=jx HI.o.row
   have HIa:=ja (HI.o.alloc (.cells #[.int .i64 co,.int .i64 ro] 59))
   have HP0:=ja (jh.new wr 59 #[.int .i64 co,.int .i64 ro])
   have hMk:((k:Int)+1)*M<=9000000000000000000:=by
    have h1:((k:Int)+1)*M<=(l.length:Int)*M:=Int.mul_le_mul_of_nonneg_right (by omega) hM0
    omega
   by_cases hz:ro=0
   ·have HS2:Hid (ju [] (l.take (k+1)) 1=kv):=ja (by rw[HST.o];unfold addRoot;rw[if_neg (by omega)])
    have hzb:(ro==0)=true:=by simpa using hz
    subst hz
    go_wp2
    exact⟨⟨k+1,by omega,by go_num,by rw[HS2.o];exact HIa.o,by simp;omega⟩,by simp[intOf];omega⟩
   ·have hzb:(ro==0)=false:=by simpa using hz
    go_wp2
    obtain⟨P,hP⟩:∃P,P=wr.heap.size:=⟨_,rfl⟩
    have hoP:(Value.slice Ao kv.length cap).ownBlock≠some P:=λe=>by have:=(HI.o.row.lt P e).2;omega
    have hwP:w.heap.size<P:=by omega
    have hza:(wr.alloc (.cells #[.int .i64 co,.int .i64 ro] 59)).heap.size=P+1:=by rw[World.size_alloc,hP]
    rw[<-hP] at HP0 ⊢
    clear hP ha0 ha1 HTq HI
    generalize wr.alloc (.cells #[.int .i64 co,.int .i64 ro] 59)=wa at *
    obtain⟨rn,rfl⟩:=Int.eq_ofNat_of_zero_le hr1.1
    rw[Int.toNat_natCast] at hc1
    have hrn:1<=rn/\rn<=100000000000:=by omega
    have HSP:=ja (JR rn hrn.1)
    go_loopg [9] (rn+400001) (λgg i V=>∃d sq rest:Nat,i=.int .i64 d/\2<=d/\d<=400001/\1<=rest/\1<=sq/\sq*sq*rest=rn/\qE d sq rest=jo rn/\rest+(400001-d)<=gg/\jh V P 59 #[.int .i64 (co*sq),.int .i64 rest]/\OutI w V (.slice Ao kv.length cap) kv/\V.heap.size=P+1)
    case atStart=>exact⟨2,1,rn,rfl,by omega,by omega,hrn.1,by omega,by simp,rfl,by omega,by simpa using HP0.o,HIa.o,hza⟩
    case round=>
     obtain⟨d,sq,rest,rfl,hd,hdm,hr,hs,hval,hT,hgg,hblk,hout,hVz⟩:=hrel
     have HV:=ja hval;have HTT:=ja hT;have HPk:=ja hblk;have HO:=ja hout
     clear hval hT hblk hout HIa HP0
     obtain⟨p0,p1,pf0,pf1⟩:=HPk.o.two
     have hsB:=jcf4 HV.o hr hrn.2
     have hrB:rest<=100000000000:=by
      have h1:1*rest<=sq*sq*rest:=Nat.mul_le_mul_right rest (Nat.mul_pos hs hs)
      have:=HV.o;omega
     have hdd:(d:Int)*(d:Int)<=160000800001:=by
      have h1:d*d<=400001*400001:=Nat.mul_le_mul hdm hdm
      have h2:((d*d:Nat):Int)=(d:Int)*(d:Int):=Int.natCast_mul d d
      omega
     have hdp:0<(d:Int)*(d:Int):=Int.mul_pos (by omega) (by omega)
     by_cases hle:d*d<=rest
     ·have hle':(d:Int)*(d:Int)<=(rest:Int):=by exact_mod_cast hle
      have hd3:d<=400000:=by
       rcases Nat.lt_or_ge 400000 d with h|h
       ·have h5:400001*400001<=d*d:=Nat.mul_le_mul h h
        omega
       ·exact h
      by_cases hz2:rest % (d*d)=0
      ·have hz':((rest:Int) % ((d:Int)*(d:Int))==0)=true:=by
        rw[beq_iff_eq];exact_mod_cast hz2
       have HD:=ja (zn8 (sq:=sq) hd hr hz2)
       have h4:rest/(d*d)<rest:=Nat.div_lt_self (by omega) (by
        have:2*2<=d*d:=Nat.mul_le_mul hd hd
        omega)
       have h5:1<=rest/(d*d):=(Nat.le_div_iff_mul_le (Nat.mul_pos (by omega) (by omega))).2 (by omega)
       have h6:rest/(d*d)*(d*d)=rest:=Nat.div_mul_cancel (Nat.dvd_of_mod_eq_zero hz2)
       have hsd:(sq*d)*(sq*d)*(rest/(d*d))=rn:=by
        have h7:=HV.o
        generalize rest/(d*d)=x at h6
        rw[<-h7,<-h6];grind
       have hsq2:=jcf4 hsd h5 hrn.2
       have hle2:sq*d<=(jo rn).1:=by
        have h8:=HTT.o
        rw[HD.o] at h8
        rw[<-h8]
        exact za6 _ _ _ _ (by omega)
       have hcb:=jcb6 (a:=co) (b:=((sq*d:Nat):Int)) (c:=((jo rn).1:Int)) (by omega) (by omega) hc1
       have hM9:M<=9000000000000000000:=by
        have h1:1*M<=((k:Int)+1)*M:=Int.mul_le_mul_of_nonneg_right (by omega) hM0
        omega
       have hce:co*((sq*d:Nat):Int)=co*(sq:Int)*(d:Int):=by rw[Int.natCast_mul,Int.mul_assoc]
       rw[hce] at hcb
       have hcw:IntKind.i64.wrap (co*(sq:Int)*(d:Int))=co*(sq:Int)*(d:Int):=by rw[IntKind.wrap_i64];omega
       have hdw:IntKind.i64.wrap ((d:Int)*(d:Int))=(d:Int)*(d:Int):=by rw[IntKind.wrap_i64];omega
       have HQ:(rest:Int)/((d:Int)*(d:Int))=((rest/(d*d):Nat):Int):=by simp
       have HQ2:(rest:Int).tdiv ((d:Int)*(d:Int))=((rest/(d*d):Nat):Int):=by rw[Int.tdiv_eq_ediv_of_nonneg (by omega)];exact HQ
       have hqw:IntKind.i64.wrap ((rest/(d*d):Nat):Int)=((rest/(d*d):Nat):Int):=by rw[IntKind.wrap_i64];omega
       have hnz:¬(d:Int)*(d:Int)=0:=by omega
       have HQD:=ja (show IntKind.i64.wrap ((rest:Int)/((d:Int)*(d:Int)))=((rest/(d*d):Nat):Int) by rw[HQ];exact hqw)
       have HH5:=ja h5;have HSD:=ja hsd;have H4:=ja h4
       clear hce hcb hle2 hM9 h4 h5 h6 hsd
       go_wp2
       clear HQ hz' hz2 hle hle' hd3 hdd hdp hzb hkl hMk
       refine jk (λ_=>True) 11 (λw'=>w'.cell? ⟨P,1,none⟩=some (.int .i64 rest)) 13 (λw'=>w'.cell? ⟨P,0,none⟩=some (.int .i64 (co*(sq:Int)))) (by kernel_rfl) ⟨trivial,λ_=>p1,λ_=>p0⟩ (λjb=>?_)
       revert jb
       refine jtq 0 ?_ ?_ ?_
       rotate_left 1
       focus(intro;go_simp;try with_reducible rfl)
       (try simp only[Act.put,lA,lB,lC])
       refine jtk 1 ?_ ?_ ?_
       rotate_left 1
       focus(intro w' hSw;obtain⟨hC,hF,hG⟩:=hSw;have hF:=hF (by decide +kernel);clear hG;clear hC;go_simp;try with_reducible rfl)
       (try simp only[Act.put,lA,lB,lC])
       refine jtq 2 ?_ ?_ ?_
       rotate_left 1
       focus(intro;go_simp;try with_reducible rfl)
       (try simp only[Act.put,lA,lB,lC])
       refine jtq 3 ?_ ?_ ?_
       rotate_left 1
       focus(intro;go_simp;try with_reducible rfl)
       (try simp only[Act.put,lA,lB,lC])
       refine jtq 4 ?_ ?_ ?_
       rotate_left 1
       focus(intro;go_simp;try with_reducible rfl)
       (try simp only[Act.put,lA,lB,lC])
       refine jtq 5 ?_ ?_ ?_
       rotate_left 1
       focus(intro;go_simp;try with_reducible rfl)
       (try simp only[Act.put,lA,lB,lC])
       refine jtq 6 ?_ ?_ ?_
       rotate_left 1
       focus(intro;go_simp;try with_reducible rfl)
       (try simp only[Act.put,lA,lB,lC])
       refine jtk 7 ?_ ?_ ?_
       rotate_left 1
       focus(intro w' hSw;obtain⟨hC,hF,hG⟩:=hSw;have hG:=hG (by decide +kernel);clear hF;clear hC;go_simp;try with_reducible rfl)
       (try simp only[Act.put,lA,lB,lC])
       refine jtq 8 ?_ ?_ ?_
       rotate_left 1
       focus(intro;go_simp;try with_reducible rfl)
       (try simp only[Act.put,lA,lB,lC])
       refine jtq 9 ?_ ?_ ?_
       rotate_left 1
       focus(intro;go_simp;try with_reducible rfl)
       (try simp only[Act.put,lA,lB,lC])
       refine jtq 10 ?_ ?_ ?_
       rotate_left 1
       focus(intro;go_simp;try with_reducible rfl)
       (try simp only[Act.put,lA,lB,lC])
       intro jb
       refine je 11 rfl (by decide +kernel) (λK hK=>?_)
       go_simp
       refine hK.out _ _ ⟨trivial,λh=>absurd h (by decide +kernel),λ_=>(World.cell?_setCell_other _ _ _ _ (by simp)).trans p0⟩ (λjb=>?_)
       clear hK K
       (try simp only[Act.put,lA,lB,lC])
       revert jb
       refine jtq 12 ?_ ?_ ?_
       rotate_left 1
       focus(intro;go_simp;try with_reducible rfl)
       (try simp only[Act.put,lA,lB,lC])
       intro jb
       refine je 13 rfl (by decide +kernel) (λK hK=>?_)
       go_simp
       refine hK.out _ _ ⟨trivial,λh=>absurd h (by decide +kernel),λh=>absurd h (by decide +kernel)⟩ (λjb=>?_)
       clear hK K
       (try simp only[Act.put,lA,lB,lC])
       refine jl (by decide +kernel) ?_
       clear jb
       rw[HQD.o]
       go_wp2
       go_roundg (rest/(d*d)+(400001-d))
       case measure=>have:=H4.o;omega
       case rel=>exact⟨d,sq*d,rest/(d*d),rfl,hd,hdm,HH5.o,Nat.mul_pos hs (by omega),HSD.o,by rw[<-HD.o];exact HTT.o,Nat.le_refl _,by rw[Int.natCast_mul,<-Int.mul_assoc];exact((HPk.o.set_ 1 _).set_ 0 _).drew,(((HO.o.set hoP hwP 1 _).set hoP hwP 0 _).drewN 1),by show((wr.setCell _ _).setCell _ _).heap.size=_;simpa using hVz⟩
      ·have hz':((rest:Int) % ((d:Int)*(d:Int))==0)=false:=by
        rw[beq_eq_false_iff_ne];intro h;exact hz2 (by exact_mod_cast h)
       have HN:=ja (zd4 (sq:=sq) hd hr hz2)
       go_wp2
       go_roundg (rest+(400001-(d+1)))
       case measure=>omega
       case rel=>exact⟨d+1,sq,rest,by go_num,by omega,by omega,hr,hs,HV.o,by rw[<-HN.o];exact HTT.o,Nat.le_refl _,HPk.o,HO.o,hVz⟩
     ·have hle':¬(d:Int)*(d:Int)<=(rest:Int):=by intro h;exact hle (by exact_mod_cast h)
      have HS:=ja (Qt (sq:=sq) (show rest<d*d by omega))
      go_wp2
      have hsn:jo rn=(sq,rest):=by rw[<-HTT.o,HS.o]
      have HST2:Hid (ju [] (l.take (k+1)) 1=addS kv (rest:Int) (co*(sq:Int))):=ja (by
       rw[HST.o];unfold addRoot
       rw[if_pos (by omega),Int.toNat_natCast,hsn])
      rw[hsn] at hc1
      dsimp only at hc1
      have HSB:=ja HPB1.o
      have hM9:M<=9000000000000000000:=by
       have h1:1*M<=((k:Int)+1)*M:=Int.mul_le_mul_of_nonneg_right (by omega) hM0
       omega
      have hkM:(k:Int)*M+M<=9000000000000000000:=by rw[Int.add_mul,Int.one_mul] at hMk;exact hMk
      clear HV HTT HS hsn hsB hrB hdd hdp hle hle' hgg HSP HST HPB1 HPB2 hd hdm hs
      generalize co*(sq:Int)=cc at *
      generalize hrr0:(rest:Int)=rr at *
      go_loopw [10,11] (λf j V=>∃j':Nat,j'<=kv.length/\j=.int .i64 j'/\f=.bool (JW (kv.take j') rr)/\OutI w V (.slice Ao kv.length cap) (Zq kv rr cc j')/\jh V P 59 #[.int .i64 cc,.int .i64 rr]/\V.heap.size=P+1) (λ_ j _=>kv.length-(intOf j).toNat)
      case atStart=>exact⟨0,by omega,rfl,rfl,by rw[jaa9];exact HO.o,HPk.o,hVz⟩
      case round=>
       obtain⟨j,hj,rfl,rfl,hout2,hblk2,hVz2⟩:=hrel
       have HOJ:=ja hout2;have HPJ:=ja hblk2
       clear hout2 hblk2 HO HPk p0 p1 pf0 pf1
       obtain⟨p0,p1,pf0,pf1⟩:=HPJ.o.two
       by_cases hjl:(j:Int)<(kv.length:Int)
       ·have hj1:j<kv.length:=by omega
        have hrow:=HOJ.o.row
        rw[Zr] at hrow
        obtain⟨g,cap',he,hgb,hgl⟩:=hrow.form (by omega)
        injection he with he1 he2 he3
        subst he1
        subst he3
        have hgP:g≠P:=λe=>hoP (by rw[e];rfl)
        obtain⟨c0,c1,cf0,cf1⟩:=zl hrow (j:=j) (by rw[zE,Zr];exact hj1)
        rw[jbh8 rr cc hj1] at c0 c1
        have hxb:=HSB.o kv[j].1
        rw[zr HPN1.o kv[j] (List.getElem_mem hj1)] at hxb
        have HYES:=ja (λh=>jat8 (r:=rr) cc hj1 h)
        have HNO:=ja (λh=>jbj6 (r:=rr) cc hj1 h)
        have HAT:=ja (jag4 rr cc hj1)
        have HHS:=ja (zy3 (kv:=kv) rr hj1)
        clear hrow
        obtain⟨e,he⟩:∃e,e=kv[j]:=⟨_,rfl⟩
        rw[<-he] at c0 c1 hxb HYES HNO HHS HAT
        clear he
        obtain⟨kr,kx⟩:=e
        dsimp only at c0 c1 hxb
        have HYES:Hid (kr=rr->(Zq kv rr cc j).set j (kr,kx+cc)=Zq kv rr cc (j+1)):=ja (λh=>HYES.o h)
        have HNO:Hid (¬kr=rr->Zq kv rr cc (j+1)=Zq kv rr cc j):=ja (λh=>HNO.o h)
        by_cases hkr:kr=rr
        ·have hkb:(kr==rr)=true:=by simpa using hkr
         have HU:=ja (HYES.o hkr)
         have HHS2:Hid (JW (kv.take (j+1)) rr=true):=ja (by rw[HHS.o,decide_eq_true (show(kr,kx).1=rr from hkr)];simp)
         have hsw:IntKind.i64.wrap (kx+cc)=kx+cc:=by rw[IntKind.wrap_i64];omega
         clear HYES HNO HHS
         subst hkr
         go_wp2
         go_quiet (fail)
         go_wp2
         have HO1:=ja (HOJ.o.drewN nq);have HP1:=ja (HPJ.o.drewN nq)
         have z0:(wr.drewN nq).cell? ⟨g,j*2,none⟩=some (.int .i64 kx):=c0
         have zf:(wr.drewN nq).frozen? ⟨g,j*2,none⟩=false:=cf0
         have z1:(wr.drewN nq).cell? ⟨P,0,none⟩=some (.int .i64 cc):=p0
         have zs:(wr.drewN nq).heap.size=P+1:=hVz2
         clear HOJ HPJ c0 c1 cf0 cf1 p0 p1 pf0 pf1
         generalize wr.drewN nq=V1 at *
         refine jk (λw'=>w'.cell? ⟨P,0,none⟩=some (.int .i64 cc)) 10 (λw'=>w'.cell? ⟨g,j*2,none⟩=some (.int .i64 kx)) 10 (λ_=>True) (by kernel_rfl) ⟨z1,λ_=>z0,λ_=>trivial⟩ (λjb=>?_)
         revert jb
         refine jtq 0 ?_ ?_ ?_
         rotate_left 1
         focus(intro;go_simp;try with_reducible rfl)
         (try simp only[Act.put,lA,lB,lC])
         refine jtq 1 ?_ ?_ ?_
         rotate_left 1
         focus(intro;go_simp;try with_reducible rfl)
         (try simp only[Act.put,lA,lB,lC])
         refine jtq 2 ?_ ?_ ?_
         rotate_left 1
         focus(intro;go_simp;try with_reducible rfl)
         (try simp only[Act.put,lA,lB,lC])
         refine jtq 3 ?_ ?_ ?_
         rotate_left 1
         focus(intro;go_simp;try with_reducible rfl)
         (try simp only[Act.put,lA,lB,lC])
         refine jtk 4 ?_ ?_ ?_
         rotate_left 1
         focus(intro w' hSw;obtain⟨hC,hF,hG⟩:=hSw;have hF:=hF (by decide +kernel);clear hG;clear hC;go_simp;try with_reducible rfl)
         (try simp only[Act.put,lA,lB,lC])
         refine jtq 5 ?_ ?_ ?_
         rotate_left 1
         focus(intro;go_simp;try with_reducible rfl)
         (try simp only[Act.put,lA,lB,lC])
         refine jtk 6 ?_ ?_ ?_
         rotate_left 1
         focus(intro w' hSw;obtain⟨hC,hF,hG⟩:=hSw;clear hF;clear hG;go_simp;try with_reducible rfl)
         (try simp only[Act.put,lA,lB,lC])
         refine jtq 7 ?_ ?_ ?_
         rotate_left 1
         focus(intro;go_simp;try with_reducible rfl)
         (try simp only[Act.put,lA,lB,lC])
         refine jtq 8 ?_ ?_ ?_
         rotate_left 1
         focus(intro;go_simp;try with_reducible rfl)
         (try simp only[Act.put,lA,lB,lC])
         refine jtq 9 ?_ ?_ ?_
         rotate_left 1
         focus(intro;go_simp;try with_reducible rfl)
         (try simp only[Act.put,lA,lB,lC])
         intro jb
         refine je 10 rfl (by decide +kernel) (λK hK=>?_)
         go_simp
         refine hK.out _ _ ⟨(World.cell?_setCell_other _ _ _ _ (by first|(simp;done)|(simp;omega))).trans z1,λh=>absurd h (by decide +kernel),λ_=>trivial⟩ (λjb=>?_)
         clear hK K
         (try simp only[Act.put,lA,lB,lC])
         refine jl (by decide +kernel) ?_
         clear jb
         have hup:j<(Zq kv kr cc j).length:=by rw[Zr];exact hj1
         have HO1b:OutI w V1 (.slice (some ⟨g,0,none⟩) (Zq kv kr cc j).length cap) (Zq kv kr cc j):=by rw[Zr];exact HO1.o
         have HO2:=ja (HO1b.put hup (x:=kx+cc) (kv':=Zq kv kr cc (j+1)) (by rw[HAT.o];exact HU.o))
         rw[Zr] at HO2
         have HO3:=ja (HO2.o.drewN 1)
         have HP3:=ja ((HP1.o.far (p:=⟨g,j*2,none⟩) (by show P≠g;omega) (.int .i64 (kx+cc))).drew)
         have hz3:((V1.setCell ⟨g,j*2,none⟩ (.int .i64 (kx+cc))).drew).heap.size=P+1:=by show(V1.setCell _ _).heap.size=_;simpa using zs
         clear HO1 HO2 HO1b HP1 z0 z1 zf zs HU HAT
         go_wp2
         exact⟨⟨j+1,by omega,by go_num,by rw[HHS2.o],HO3.o,HP3.o,hz3⟩,by simp[intOf];omega⟩
        ·have hkb:(kr==rr)=false:=by simpa using hkr
         have HU:=ja (HNO.o hkr)
         have HHS2:Hid (JW (kv.take (j+1)) rr=JW (kv.take j) rr):=ja (by rw[HHS.o,decide_eq_false (show ¬(kr,kx).1=rr from hkr)];simp)
         clear HYES HNO HHS
         go_wp2
         go_quiet (fail)
         go_wp2
         exact⟨⟨j+1,by omega,by go_num,by rw[HHS2.o],by rw[HU.o];exact HOJ.o.drewN _,HPJ.o.drewN _,hVz2⟩,by simp[intOf];omega⟩
       ·obtain rfl:j=kv.length:=by omega
        rw[List.take_length] at *
        have HO4:=ja (show OutI w wr (.slice Ao kv.length cap) (jp1 kv rr cc) by have:=HOJ.o;rwa [jat7] at this)
        have hAS:=zh0 kv rr cc HPN1.o
        cases hf:JW kv rr
        ·have HO5:=ja (show OutI w wr (.slice Ao kv.length cap) kv by have:=HO4.o;rwa [jk1 kv rr cc hf] at this)
         have HS5:Hid (ju [] (l.take (k+1)) 1=kv++[(rr,cc)]):=ja (by rw[HST2.o,hAS,hf];rfl)
         have hcn:∀j u,[Value.int .i64 cc,Value.int .i64 rr][j]?=some u->(wr.alloc (.cells #[.int .i64 cc,.int .i64 rr] 59)).cell? ((⟨P+1,0,none⟩:Addr).add j)=some u:=by
          have h:=zx wr (.int .i64 cc) (.int .i64 rr) 59
          rw[hVz2] at h
          exact h
         have HCN:=ja hcn
         clear HOJ HO4 hAS hcn
         go_wp2_with (first
          | (at_builtin;refine wpList_append_own _ rfl _ _ 22 rfl (w.heap.size+1) 59 i1 (.agg #[.int .i64 0,.int .i64 0]) 2 16 Tryz.underlying22 hi1 hy0 hy1 hy2 rfl (by decide) (.slice Ao kv.length cap) kv.length _ rfl (World.ownsRow.alloc HO5.o.row _) ⟨P+1,0,none⟩ 1 1 [.int .i64 cc,.int .i64 rr] rfl rfl HCN.o (by simp[Value.oneCell']) (by unfold maxLen;omega) (by omega) (by simp;omega) ?_;intro v' w3 ho3 hg3 _;have HO6:=ja (HO5.o.snoc ho3 hg3);have hz6:=hg3.size;clear ho3 hg3))
         exact⟨⟨k+1,by omega,by go_num,by rw[HS5.o];exact HO6.o,by simp at hz6;omega⟩,by simp[intOf];omega⟩
        ·have HS5:Hid (ju [] (l.take (k+1)) 1=jp1 kv rr cc):=ja (by rw[HST2.o,hAS,hf];rfl)
         clear HOJ hAS
         go_wp2
         exact⟨⟨k+1,by omega,by go_num,by rw[HS5.o];exact HO4.o,by omega⟩,by simp[intOf];omega⟩
  ·obtain rfl:k=l.length:=by omega
   rw[List.take_length] at HI
   have hPB:=HPB.o l.length (Nat.le_refl _)
   have hPN:=HPN.o l.length
   have hPL:=HPL.o l.length
   rw[List.take_length] at hPB hPN hPL
   have HRS:=ja (show zm8 den l=jY (ju [] l 1) den from rfl)
   clear HPB HPN HPL HRO HCO HT
   generalize ju [] l 1=kv at *
   obtain⟨Ao,cap,rfl⟩:=jx HI.o.row
   have HCB:=ja (show ∀p∈kv,-9000000000000000000<=p.2/\p.2<=9000000000000000000 from λp hp=>by
    have h:=hPB p.1
    rw[zr hPN p hp] at h
    omega)
   have HPN:=ja hPN
   clear hPB hPN
   have HAB:=ja (λW=>qW den W hden)
   have hgp:0<jM (den::kv.map (·.2)):=ZK List.mem_cons_self hd0
   go_wp2_with (first
    | (go_at_call 130;refine(HAB.o _).mono ?_;rintro e w1 ⟨rfl,hw1⟩;subst w1))
   go_loopw [12,13] (λg i V=>∃j:Nat,j<=kv.length/\i=.int .i64 j/\g=.int .i64 (jM (den::(kv.take j).map (·.2)):Int)/\jM (den::(kv.take j).map (·.2))<=9000000000000000000/\OutI w V (.slice Ao kv.length cap) kv/\w.heap.size+2<=V.heap.size) (λ_ i _=>kv.length-(intOf i).toNat)
   case atStart=>
    have hg0:jM [den]=den.natAbs:=by simp[jM]
    refine⟨0,by omega,rfl,?_,?_,HI.o,hWz⟩
    ·rw[List.take_zero,List.map_nil,hg0]
    ·rw[List.take_zero,List.map_nil,hg0];omega
   case round=>
    obtain⟨j,hj,rfl,rfl,hgb,hout,hVz⟩:=hrel
    have HO:=ja hout
    clear hout HI HAB
    by_cases hjl:(j:Int)<(kv.length:Int)
    ·have hj1:j<kv.length:=by omega
     obtain⟨g,cap',he,hgb1,hgl⟩:=HO.o.row.form (by omega)
     injection he with he1 he2 he3
     subst he1
     subst he3
     obtain⟨c0,c1,cf0,cf1⟩:=zl HO.o.row (j:=j) (by rw[zE];exact hj1)
     have hot:(zZ kv)[j]'(by rw[zE];exact hj1)=(kv[j].2,kv[j].1):=by simp[zZ]
     rw[hot] at c0 c1
     have hcb:=HCB.o kv[j] (List.getElem_mem hj1)
     have hgs:jM (den::(kv.take (j+1)).map (·.2))=Nat.gcd (jM (den::(kv.take j).map (·.2))) (kv[j].2).natAbs:=by
      rw[jw kv j hj1,List.map_append,List.map_singleton,<-List.cons_append,jh6]
     have hgp2:0<jM (den::(kv.take j).map (·.2)):=ZK List.mem_cons_self hd0
     have HGS:=ja hgs
     clear hgs hot
     generalize jM (den::(kv.take j).map (·.2))=G at *
     generalize kv[j]=p at *
     obtain⟨pr,pc⟩:=p
     dsimp only at c0 c1 hcb
     have HGS:Hid (jM (den::(kv.take (j+1)).map (·.2))=Nat.gcd G pc.natAbs):=ja HGS.o
     have HDV:=ja (λW=>jd8 (G:Int) pc W (by omega) hcb)
     rw[Int.natAbs_natCast] at HDV
     go_wp2_with (first
      | (go_at_call 84;refine(HDV.o _).mono ?_;rintro e w6 ⟨rfl,m6,rfl⟩))
     refine⟨⟨j+1,by omega,by go_num,by rw[HGS.o],by rw[HGS.o];exact Nat.le_trans (Nat.gcd_le_left _ hgp2) hgb,HO.o.drewN _,hVz⟩,by simp[intOf];omega⟩
    ·obtain rfl:j=kv.length:=by omega
     rw[List.take_length] at *
     have HOG:=ja (jg3 kv den)
     have hVO:=HO.o.row
     generalize jM (den::kv.map (·.2))=G at *
     obtain⟨hG0,hGb,hD1,hD2⟩:=jcc3 (kv:=kv) hd0 hden
     have HRS2:=ja (show jY kv den=if 4<(zp (kv.filter nz) (jU kv den)).length then(0,[],8)else if(decide (100000<den.tdiv (jU kv den)) || (zp (kv.filter nz) (jU kv den)).any jW)=true then(0,[],10)else(den.tdiv (jU kv den),zp (kv.filter nz) (jU kv den),0)from rfl)
     have HRR:=ja (HRS.o.trans HRS2.o)
     have hog:=HOG.o
     clear HRS HRS2 HOG hVO
     obtain⟨GG,hGG⟩:∃GG,GG=jU kv den:=⟨_,rfl⟩
     rw[<-hGG] at hG0 hGb hD1 hD2 HRR hog
     clear hGG
     have hwD:IntKind.i64.wrap (den.tdiv GG)=den.tdiv GG:=by rw[IntKind.wrap_i64];omega
     have hnG:IntKind.i64.wrap (-(G:Int))=-(G:Int):=by rw[IntKind.wrap_i64];omega
     have hXU:w.heap.size<wr.heap.size:=by omega
     have hnk0:(kv.filter nz).length<=kv.length:=List.length_filter_le _ _
     have HS0:Hid (SelI w (wr.alloc (.cells #[.int .i64 (den.tdiv GG),.slice none 0 0] 24)) wr.heap.size Ao cap kv (den.tdiv GG) GG (.slice none 0 0) [] kv):=
      ja ⟨HO.o.alloc _,jh.new _ _ _,World.ownsRow_nil _ _ _ _,λg e=>by simp[Value.ownBlock] at e,rfl,rfl,HCB.o,List.nil_append _,by simpa using hnk0,hXU,λt ht=>by cases ht⟩
     by_cases hneg:den<0
     ·rw[if_pos hneg] at hog
      go_upto_region 28 with fail
      rw[<-hog]
      clear hnG hog hneg hgb
      go_wp2
      obtain⟨X,hX⟩:∃X,X=wr.heap.size:=⟨_,rfl⟩
      rw[<-hX] at HS0 ⊢
      generalize wr.alloc (.cells #[.int .i64 (den.tdiv GG),.slice none 0 0] 24)=V0 at *
      clear hX hXU hVz hwD HO
      generalize den.tdiv GG=D at *
      go_loopg [] (kv.length+1) (λgg V=>∃(v:Value) (ts kv':List (Int×Int)),(kv'.filter nz).length<=gg/\SelI w V X Ao cap kv D GG v ts kv')
      case atStart=>exact⟨_,[],kv,by omega,HS0.o⟩
      case round=>
       obtain⟨v,ts,kv',hgg,hs⟩:=hrel
       have HS:=ja hs
       have hlen:=hs.len
       clear hs HS0
       obtain⟨Av,cv,rfl⟩:=jx HS.o.row
       obtain⟨V,hV⟩:∃V,V=wr:=⟨_,rfl⟩
       subst hV
       go_wp2
       go_loopw [15,16] (λb i V'=>∃j:Nat,j<=kv.length/\i=.int .i64 j/\(∃bb,b=.int .i64 bb/\JK kv' j bb)/\∃q,V'=V.drewN q) (λ_ i _=>kv.length-(intOf i).toNat)
       case atStart=>exact⟨0,by omega,rfl,⟨-1,rfl,.inl ⟨rfl,λi _ h=>absurd h (by omega)⟩⟩,0,rfl⟩
       case round=>
        obtain⟨j,hj,rfl,⟨bb,rfl,hbest⟩,q,rfl⟩:=hrel
        have HSq:=ja (HS.o.drewN q)
        have HDD:=ja (λp=>dd V q p)
        have HWq:=ja (⟨q,rfl⟩:∃q',V.drewN q=V.drewN q')
        generalize V.drewN q=W at *
        by_cases hjl:(j:Int)<(kv.length:Int)
        ·have hj1:j<kv'.length:=by omega
         have hrow:=HSq.o.o.row
         rw[hlen] at hrow
         obtain⟨g,cap',he,hgb1,hgl⟩:=hrow.form (by omega)
         injection he with he1 he2 he3
         subst he1
         subst he3
         have hat:∀i (hi:i<kv'.length),W.cell? ⟨g,i*2,none⟩=some (.int .i64 kv'[i].2)/\W.cell? ⟨g,i*2+1,none⟩=some (.int .i64 kv'[i].1):=λi hi=>by
          obtain⟨c0,c1,_,_⟩:=zl hrow (j:=i) (by rw[zE];exact hi)
          have hot:(zZ kv')[i]'(by rw[zE];exact hi)=(kv'[i].2,kv'[i].1):=by simp[zZ]
          rw[hot] at c0 c1
          exact⟨c0,c1⟩
         obtain⟨c0,c1⟩:=hat j hj1
         have HAT:=ja hat
         have HBS:=ja hbest
         clear hrow hat
         by_cases h0:kv'[j].2=0
         ·have HN:=ja (HBS.o.skip hj1 h0)
          rw[h0] at c0
          clear hbest
          go_wp2
          go_quiet (fail)
          go_wp2
          obtain⟨q2,hq2⟩:=HDD.o nq
          exact⟨⟨j+1,by omega,by go_num,⟨bb,rfl,HN.o⟩,q2,hq2⟩,by simp[intOf];omega⟩
         ·rcases hbest with⟨rfl,hall⟩|⟨m,hm,rfl,hmj,hm3,hm4⟩
          ·have HN:=ja (JK.first hall hj1 h0)
           have h0b:(kv'[j].2 !=0)=true:=by simpa using h0
           clear hall
           generalize kv'[j]=p at *
           go_wp2
           go_quiet (fail)
           go_wp2
           obtain⟨q2,hq2⟩:=HDD.o nq
           exact⟨⟨j+1,by omega,by go_num,⟨_,rfl,HN.o⟩,q2,hq2⟩,by simp[intOf];omega⟩
          ·obtain⟨m0,m1⟩:=HAT.o m hm
           have hml:(m:Int)<(kv.length:Int):=by omega
           have hml2:m<kv.length:=by omega
           have hmz:¬(m:Int)<0:=by omega
           have h0b:(kv'[j].2 !=0)=true:=by simpa using h0
           by_cases hlt:kv'[j].1<kv'[m].1
           ·have HN:=ja (JK.less hm hm4 hj1 h0 hlt)
            clear hm4
            generalize kv'[j]=p at *
            generalize kv'[m]=pm at *
            go_wp2
            go_quiet (fail)
            go_wp2
            obtain⟨q2,hq2⟩:=HDD.o nq
            exact⟨⟨j+1,by omega,by go_num,⟨_,rfl,HN.o⟩,q2,hq2⟩,by simp[intOf];omega⟩
           ·have HN:=ja (JK.more hm hmj hm3 hm4 hj1 hlt)
            clear hm4
            generalize kv'[j]=p at *
            generalize kv'[m]=pm at *
            go_wp2
            go_quiet (fail)
            go_wp2
            obtain⟨q2,hq2⟩:=HDD.o nq
            exact⟨⟨j+1,by omega,by go_num,⟨_,rfl,HN.o⟩,q2,hq2⟩,by simp[intOf];omega⟩
        ·obtain rfl:j=kv.length:=by omega
         clear HWq HDD HS
         rcases hbest with⟨rfl,hall⟩|⟨m,hm,rfl,hmj,hm3,hm4⟩
         ·have hT:zp (kv.filter nz) GG=ts:=by
           have h:=HSq.o.terms
           rw[Qu GG (λp hp=>by
            obtain⟨i,hi,rfl⟩:=List.mem_iff_getElem.1 hp
            exact hall i hi (by omega)),List.append_nil] at h
           exact h.symm
          have HR:=ja HRR.o
          rw[hT] at HR
          clear hT hall HRR HCB HPN
          obtain⟨x0,x1,_,_⟩:=HSq.o.x.two
          obtain⟨u0,u1,uf0,uf1⟩:=HSq.o.o.res.two
          have htl:=HSq.o.tl
          have HRES:=ja HSq.o.o.res
          have HBL:=ja HSq.o.o.below
          have HROW:=ja HSq.o.row
          have HTB:=ja HSq.o.tb
          have hux:=HSq.o.ux
          have HX:=ja HSq.o.x
          clear HSq
          have hm1:(-1:Int)<0:=by omega
          by_cases h4:4<(ts.length:Int)
          ·have HV:=ja (HR.o.trans (if_pos (by omega)))
           go_wp2
           refine jq (p:=4) (u:=5) (ty:=24) rfl rfl ((HRES.o.set_ 0 _).set_ 1 _) Tryz.underlying24 rfl Tryz.sizeNumber rfl ?_
           unfold jV
           exact⟨none,0,0,by rw[HV.o];rfl,by rw[HV.o];exact World.ownsRow_nil _ _ _ _,Below.setCell (Below.setCell HBL.o (p:=⟨w.heap.size,0,none⟩) (Nat.le_refl _) _) (p:=⟨w.heap.size,1,none⟩) (Nat.le_refl _) _⟩
          ·have HR2:=ja (HR.o.trans (if_neg (by omega)))
           clear HR
           go_wp2
           go_loopw [17,18] (λov i V'=>∃j:Nat,j<=ts.length/\i=.int .i64 j/\ov=.bool (decide (100000<D) || (ts.take j).any jW)/\V'=W) (λ_ i _=>ts.length-(intOf i).toNat)
           case atStart=>exact⟨0,by omega,rfl,by simp,rfl⟩
           case round=>
            obtain⟨j,hj,rfl,rfl,rfl⟩:=hrel
            by_cases hjl2:(j:Int)<(ts.length:Int)
            ·have hj1:j<ts.length:=by omega
             obtain⟨g2,cap2,he2,_,hgl2⟩:=HROW.o.form (by omega)
             injection he2 with he21 he22 he23
             subst he21
             subst he23
             obtain⟨t0,t1,_,_⟩:=zl HROW.o (j:=j) hj1
             have hany:(ts.take (j+1)).any jW=((ts.take j).any jW || jW ts[j]):=by rw[jw ts j hj1,List.any_append];simp
             have htb:=HTB.o ts[j] (List.getElem_mem hj1)
             have HANY:=ja hany
             clear hany
             generalize ts[j]=t at *
             obtain⟨co,ro⟩:=t
             dsimp only at t0 t1 htb
             have HAB:=ja (λW'=>qW co W' htb)
             cases hov:(decide (100000<D) || (ts.take j).any jW)
             ·by_cases hca:100000<(co.natAbs:Int)
              ·have HN:Hid ((decide (100000<D) || (ts.take (j+1)).any jW)=true):=ja (by
                rw[HANY.o,<-Bool.or_assoc,hov,Bool.false_or]
                have:zz co (-100000) 100000=false:=by
                 rcases Int.le_total 0 co with h|h
                 ·simp[zz];omega
                 ·simp[zz];omega
                unfold jW;rw[this];simp)
               go_wp2_with (first
                | (go_at_call 130;refine(HAB.o _).mono ?_;rintro e w1 ⟨rfl,hw1⟩;subst w1))
               exact⟨⟨j+1,by omega,by go_num,by rw[HN.o],by trivial⟩,by simp[intOf];omega⟩
              ·have hin:zz co (-100000) 100000=true:=by simp[zz];omega
               have HN:Hid ((decide (100000<D) || (ts.take (j+1)).any jW)=decide (1000<ro)):=ja (by
                rw[HANY.o,<-Bool.or_assoc,hov,Bool.false_or]
                unfold jW;rw[hin];simp)
               go_wp2_with (first
                | (go_at_call 130;refine(HAB.o _).mono ?_;rintro e w1 ⟨rfl,hw1⟩;subst w1))
               exact⟨⟨j+1,by omega,by go_num,by rw[HN.o,decide_eq_false (show ¬100000<(co.natAbs:Int) by omega),Bool.false_or],by trivial⟩,by simp[intOf];omega⟩
             ·have HN:Hid ((decide (100000<D) || (ts.take (j+1)).any jW)=true):=ja (by rw[HANY.o,<-Bool.or_assoc,hov,Bool.true_or])
              go_wp2
              exact⟨⟨j+1,by omega,by go_num,by rw[HN.o],by trivial⟩,by simp[intOf];omega⟩
            ·obtain rfl:j=ts.length:=by omega
             rw[List.take_length] at *
             cases hov:(decide (100000<D) || ts.any jW)
             ·have HV:=ja (HR2.o.trans (if_neg (by rw[hov];simp)))
              go_wp2
              refine jq (p:=4) (u:=5) (ty:=24) rfl rfl ((HRES.o.set_ 0 _).set_ 1 _) Tryz.underlying24 rfl Tryz.sizeNumber rfl ?_
              unfold jV
              exact⟨Av,ts.length,cv,by rw[HV.o];rfl,by rw[HV.o];exact jO (ownsRow_setCell_below (ownsRow_setCell_below HROW.o (by show w.heap.size<_;omega) _) (by show w.heap.size<_;omega) _) (by omega),Below.setCell (Below.setCell HBL.o (p:=⟨w.heap.size,0,none⟩) (Nat.le_refl _) _) (p:=⟨w.heap.size,1,none⟩) (Nat.le_refl _) _⟩
             ·have HV:=ja (HR2.o.trans (if_pos hov))
              go_wp2
              refine jq (p:=4) (u:=5) (ty:=24) rfl rfl ((HRES.o.set_ 0 _).set_ 1 _) Tryz.underlying24 rfl Tryz.sizeNumber rfl ?_
              unfold jV
              exact⟨none,0,0,by rw[HV.o];rfl,by rw[HV.o];exact World.ownsRow_nil _ _ _ _,Below.setCell (Below.setCell HBL.o (p:=⟨w.heap.size,0,none⟩) (Nat.le_refl _) _) (p:=⟨w.heap.size,1,none⟩) (Nat.le_refl _) _⟩
         ·obtain⟨r,c,hrc⟩:∃r c,kv'[m]=(r,c):=⟨_,_,rfl⟩
          have hc0:c≠0:=by rw[hrc] at hm3;exact hm3
          have hmin:∀p∈kv',p.2≠0->r<=p.1:=λp hp h=>by
           obtain⟨i,hi,rfl⟩:=List.mem_iff_getElem.1 hp
           have h5:=hm4 i hi (by omega) h
           rw[hrc] at h5;exact h5
          have hrow:=HSq.o.o.row
          rw[hlen] at hrow
          obtain⟨g,cap',he,hgb1,hgl⟩:=hrow.form (by omega)
          injection he with he1 he2 he3
          subst he1
          subst he3
          obtain⟨c0,c1,_,_⟩:=zl hrow (j:=m) (by rw[zE];exact hm)
          have hot:(zZ kv')[m]'(by rw[zE];exact hm)=(c,r):=by
           have h9:(zZ kv')[m]'(by rw[zE];exact hm)=(kv'[m].2,kv'[m].1):=by simp[zZ]
           rw[h9,hrc]
          rw[hot] at c0 c1
          obtain⟨_,x1,_,_⟩:=HSq.o.x.two
          have hml:(m:Int)<(kv.length:Int):=by omega
          have hml2:m<kv.length:=by omega
          have hmz:¬(m:Int)<0:=by omega
          have hcb:=HSq.o.cb (r,c) (by rw[<-hrc];exact List.getElem_mem hm)
          have htd:=jag3 c GG
          dsimp only at hcb
          have hcw:IntKind.i64.wrap (c.tdiv GG)=c.tdiv GG:=by rw[IntKind.wrap_i64];omega
          have htl:=HSq.o.tl
          have hfl:(kv'.filter nz).length=((kv'.set m (r,0)).filter nz).length+1:=by
           have hsplit:=jn9 hm
           rw[hrc] at hsplit
           rw[jj6 hm,Qo,List.length_append]
           conv=>lhs;rw[hsplit]
           rw[Qn hc0,List.length_append,List.length_cons]
           omega
          have HROW:=ja (World.ownsRow.drew (HSq.o.row.alloc (.cells #[.int .i64 (c.tdiv GG),.int .i64 r] 59)))
          have HBE:=ja (Below.drew ((Below.refl W.heap.size W).alloc (Nat.le_refl _) (.cells #[.int .i64 (c.tdiv GG),.int .i64 r] 59)))
          have HWU:=ja HSq.o.o.below.size
          have HMN:=ja hmin
          clear hmin hrow hot htd hm4 hm3
          go_wp2
          refine jk (λ_=>True) 15 (λw'=>w'.cell? ⟨g,m*2,none⟩=some (.int .i64 c)/\w'.cell? ⟨g,m*2+1,none⟩=some (.int .i64 r)) 16 (λw'=>w'.cell? ⟨X,1,none⟩=some (.slice Av ts.length cv)) (by kernel_rfl) ⟨trivial,λ_=>⟨c0,c1⟩,λ_=>x1⟩ (λjb=>?_)
          revert jb
          refine jtq 0 ?_ ?_ ?_
          rotate_left 1
          focus(intro;go_simp;try with_reducible rfl)
          (try simp only[Act.put,lA,lB,lC])
          refine jtk 1 ?_ ?_ ?_
          rotate_left 1
          focus(intro w' hSw;obtain⟨hC,hF,hG⟩:=hSw;have hG:=hG (by decide +kernel);clear hF;clear hC;go_simp;try with_reducible rfl)
          (try simp only[Act.put,lA,lB,lC])
          refine jtq 2 ?_ ?_ ?_
          rotate_left 1
          focus(intro;go_simp;try with_reducible rfl)
          (try simp only[Act.put,lA,lB,lC])
          refine jtq 3 ?_ ?_ ?_
          rotate_left 1
          focus(intro;go_simp;try with_reducible rfl)
          (try simp only[Act.put,lA,lB,lC])
          refine jtq 4 ?_ ?_ ?_
          rotate_left 1
          focus(intro;go_simp;try with_reducible rfl)
          (try simp only[Act.put,lA,lB,lC])
          refine jtq 5 ?_ ?_ ?_
          rotate_left 1
          focus(intro;go_simp;try with_reducible rfl)
          (try simp only[Act.put,lA,lB,lC])
          refine jtk 6 ?_ ?_ ?_
          rotate_left 1
          focus(intro w' hSw;obtain⟨hC,hF,hG⟩:=hSw;have hF:=hF (by decide +kernel);clear hG;clear hC;go_simp;try with_reducible rfl)
          (try simp only[Act.put,lA,lB,lC])
          refine jtq 7 ?_ ?_ ?_
          rotate_left 1
          focus(intro;go_simp;try with_reducible rfl)
          (try simp only[Act.put,lA,lB,lC])
          refine jtq 8 ?_ ?_ ?_
          rotate_left 1
          focus(intro;go_simp;try with_reducible rfl)
          (try simp only[Act.put,lA,lB,lC])
          refine jtq 9 ?_ ?_ ?_
          rotate_left 1
          focus(intro;go_simp;try with_reducible rfl)
          (try simp only[Act.put,lA,lB,lC])
          refine jtq 10 ?_ ?_ ?_
          rotate_left 1
          focus(intro;go_simp;try with_reducible rfl)
          (try simp only[Act.put,lA,lB,lC])
          refine jtq 11 ?_ ?_ ?_
          rotate_left 1
          focus(intro;go_simp;try with_reducible rfl)
          (try simp only[Act.put,lA,lB,lC])
          refine jtq 12 ?_ ?_ ?_
          rotate_left 1
          focus(intro;go_simp;try with_reducible rfl)
          (try simp only[Act.put,lA,lB,lC])
          refine jtk 13 ?_ ?_ ?_
          rotate_left 1
          focus(intro w' hSw;obtain⟨hC,hF,hG⟩:=hSw;have hF:=hF (by decide +kernel);clear hG;clear hC;go_simp;try with_reducible rfl)
          (try simp only[Act.put,lA,lB,lC])
          refine jtq 14 ?_ ?_ ?_
          rotate_left 1
          focus(intro;go_simp;try with_reducible rfl)
          (try simp only[Act.put,lA,lB,lC])
          intro jb
          refine je 15 rfl (by decide +kernel) (λK hK=>?_)
          go_simp
          refine hK.out _ _ ⟨trivial,λh=>absurd h (by decide +kernel),λ_=>(World.cell?_alloc_lt _ _ _ (by show X<W.heap.size;exact HSq.o.x.lt)).trans x1⟩ (λjb=>?_)
          clear hK K
          (try simp only[Act.put,lA,lB,lC])
          refine je 16 rfl (by decide +kernel) (λK hK=>?_)
          refine step_append_lies _ rfl _ _ 22 rfl (w.heap.size+1) 59 i1 (.agg #[.int .i64 0,.int .i64 0]) 2 16 Tryz.underlying22 hi1 hy0 hy1 hy2 rfl (by decide) (.slice Av ts.length cv) ts.length _ rfl HROW.o ⟨W.heap.size,0,none⟩ 1 1 [.int .i64 (c.tdiv GG),.int .i64 r] rfl rfl (zx W _ _ _) (by simp[Value.oneCell']) (by decide) (by unfold maxLen;omega) (by omega) (by have:=HWU.o;show _<=(W.alloc _).heap.size;rw[World.size_alloc];omega) (W.heap.size+1) (by show(W.alloc _).heap.size=_;rw[World.size_alloc]) ?_
          intro g3 cap3 w3 ho3 hg3 hat3 hlt3
          obtain⟨hstep,e0,ef0,e1,ef1⟩:=HSq.o.step HPN.o hm hrc hc0 HMN.o HBE.o ho3 hg3 (by rcases hat3 with h|h;exact .inl h;exact .inr (by omega))
          have HSTEP:=ja hstep
          refine hK.out _ _ ⟨trivial,λh=>absurd h (by decide +kernel),λh=>absurd h (by decide +kernel)⟩ (λjb=>?_)
          clear hK K ho3 hg3 hat3 hlt3 hstep
          (try simp only[Act.put,lA,lB,lC])
          revert jb
          refine jtq 17 ?_ ?_ ?_
          rotate_left 1
          focus(intro;go_simp;try with_reducible rfl)
          (try simp only[Act.put,lA,lB,lC])
          intro jb
          refine je 18 rfl (by decide +kernel) (λK hK=>?_)
          go_simp
          refine hK.out _ _ ⟨trivial,λh=>absurd h (by decide +kernel),λh=>absurd h (by decide +kernel)⟩ (λjb=>?_)
          clear hK K
          (try simp only[Act.put,lA,lB,lC])
          refine jl (by decide +kernel) ?_
          clear jb c0 c1 x1 HROW HBE e1 ef1
          go_wp2
          go_roundg (((kv'.set m (r,0)).filter nz).length)
          case measure=>omega
          case rel=>exact⟨_,_,_,Nat.le_refl _,HSTEP.o⟩
     ·rw[if_neg hneg] at hog
      go_upto_region 28 with fail
      rw[<-hog]
      clear hnG hog hneg hgb
      go_wp2
      obtain⟨X,hX⟩:∃X,X=wr.heap.size:=⟨_,rfl⟩
      rw[<-hX] at HS0 ⊢
      generalize wr.alloc (.cells #[.int .i64 (den.tdiv GG),.slice none 0 0] 24)=V0 at *
      clear hX hXU hVz hwD HO
      generalize den.tdiv GG=D at *
      go_loopg [] (kv.length+1) (λgg V=>∃(v:Value) (ts kv':List (Int×Int)),(kv'.filter nz).length<=gg/\SelI w V X Ao cap kv D GG v ts kv')
      case atStart=>exact⟨_,[],kv,by omega,HS0.o⟩
      case round=>
       obtain⟨v,ts,kv',hgg,hs⟩:=hrel
       have HS:=ja hs
       have hlen:=hs.len
       clear hs HS0
       obtain⟨Av,cv,rfl⟩:=jx HS.o.row
       obtain⟨V,hV⟩:∃V,V=wr:=⟨_,rfl⟩
       subst hV
       go_wp2
       go_loopw [15,16] (λb i V'=>∃j:Nat,j<=kv.length/\i=.int .i64 j/\(∃bb,b=.int .i64 bb/\JK kv' j bb)/\∃q,V'=V.drewN q) (λ_ i _=>kv.length-(intOf i).toNat)
       case atStart=>exact⟨0,by omega,rfl,⟨-1,rfl,.inl ⟨rfl,λi _ h=>absurd h (by omega)⟩⟩,0,rfl⟩
       case round=>
        obtain⟨j,hj,rfl,⟨bb,rfl,hbest⟩,q,rfl⟩:=hrel
        have HSq:=ja (HS.o.drewN q)
        have HDD:=ja (λp=>dd V q p)
        have HWq:=ja (⟨q,rfl⟩:∃q',V.drewN q=V.drewN q')
        generalize V.drewN q=W at *
        by_cases hjl:(j:Int)<(kv.length:Int)
        ·have hj1:j<kv'.length:=by omega
         have hrow:=HSq.o.o.row
         rw[hlen] at hrow
         obtain⟨g,cap',he,hgb1,hgl⟩:=hrow.form (by omega)
         injection he with he1 he2 he3
         subst he1
         subst he3
         have hat:∀i (hi:i<kv'.length),W.cell? ⟨g,i*2,none⟩=some (.int .i64 kv'[i].2)/\W.cell? ⟨g,i*2+1,none⟩=some (.int .i64 kv'[i].1):=λi hi=>by
          obtain⟨c0,c1,_,_⟩:=zl hrow (j:=i) (by rw[zE];exact hi)
          have hot:(zZ kv')[i]'(by rw[zE];exact hi)=(kv'[i].2,kv'[i].1):=by simp[zZ]
          rw[hot] at c0 c1
          exact⟨c0,c1⟩
         obtain⟨c0,c1⟩:=hat j hj1
         have HAT:=ja hat
         have HBS:=ja hbest
         clear hrow hat
         by_cases h0:kv'[j].2=0
         ·have HN:=ja (HBS.o.skip hj1 h0)
          rw[h0] at c0
          clear hbest
          go_wp2
          go_quiet (fail)
          go_wp2
          obtain⟨q2,hq2⟩:=HDD.o nq
          exact⟨⟨j+1,by omega,by go_num,⟨bb,rfl,HN.o⟩,q2,hq2⟩,by simp[intOf];omega⟩
         ·rcases hbest with⟨rfl,hall⟩|⟨m,hm,rfl,hmj,hm3,hm4⟩
          ·have HN:=ja (JK.first hall hj1 h0)
           have h0b:(kv'[j].2 !=0)=true:=by simpa using h0
           clear hall
           generalize kv'[j]=p at *
           go_wp2
           go_quiet (fail)
           go_wp2
           obtain⟨q2,hq2⟩:=HDD.o nq
           exact⟨⟨j+1,by omega,by go_num,⟨_,rfl,HN.o⟩,q2,hq2⟩,by simp[intOf];omega⟩
          ·obtain⟨m0,m1⟩:=HAT.o m hm
           have hml:(m:Int)<(kv.length:Int):=by omega
           have hml2:m<kv.length:=by omega
           have hmz:¬(m:Int)<0:=by omega
           have h0b:(kv'[j].2 !=0)=true:=by simpa using h0
           by_cases hlt:kv'[j].1<kv'[m].1
           ·have HN:=ja (JK.less hm hm4 hj1 h0 hlt)
            clear hm4
            generalize kv'[j]=p at *
            generalize kv'[m]=pm at *
            go_wp2
            go_quiet (fail)
            go_wp2
            obtain⟨q2,hq2⟩:=HDD.o nq
            exact⟨⟨j+1,by omega,by go_num,⟨_,rfl,HN.o⟩,q2,hq2⟩,by simp[intOf];omega⟩
           ·have HN:=ja (JK.more hm hmj hm3 hm4 hj1 hlt)
            clear hm4
            generalize kv'[j]=p at *
            generalize kv'[m]=pm at *
            go_wp2
            go_quiet (fail)
            go_wp2
            obtain⟨q2,hq2⟩:=HDD.o nq
            exact⟨⟨j+1,by omega,by go_num,⟨_,rfl,HN.o⟩,q2,hq2⟩,by simp[intOf];omega⟩
        ·obtain rfl:j=kv.length:=by omega
         clear HWq HDD HS
         rcases hbest with⟨rfl,hall⟩|⟨m,hm,rfl,hmj,hm3,hm4⟩
         ·have hT:zp (kv.filter nz) GG=ts:=by
           have h:=HSq.o.terms
           rw[Qu GG (λp hp=>by
            obtain⟨i,hi,rfl⟩:=List.mem_iff_getElem.1 hp
            exact hall i hi (by omega)),List.append_nil] at h
           exact h.symm
          have HR:=ja HRR.o
          rw[hT] at HR
          clear hT hall HRR HCB HPN
          obtain⟨x0,x1,_,_⟩:=HSq.o.x.two
          obtain⟨u0,u1,uf0,uf1⟩:=HSq.o.o.res.two
          have htl:=HSq.o.tl
          have HRES:=ja HSq.o.o.res
          have HBL:=ja HSq.o.o.below
          have HROW:=ja HSq.o.row
          have HTB:=ja HSq.o.tb
          have hux:=HSq.o.ux
          have HX:=ja HSq.o.x
          clear HSq
          have hm1:(-1:Int)<0:=by omega
          by_cases h4:4<(ts.length:Int)
          ·have HV:=ja (HR.o.trans (if_pos (by omega)))
           go_wp2
           refine jq (p:=4) (u:=5) (ty:=24) rfl rfl ((HRES.o.set_ 0 _).set_ 1 _) Tryz.underlying24 rfl Tryz.sizeNumber rfl ?_
           unfold jV
           exact⟨none,0,0,by rw[HV.o];rfl,by rw[HV.o];exact World.ownsRow_nil _ _ _ _,Below.setCell (Below.setCell HBL.o (p:=⟨w.heap.size,0,none⟩) (Nat.le_refl _) _) (p:=⟨w.heap.size,1,none⟩) (Nat.le_refl _) _⟩
          ·have HR2:=ja (HR.o.trans (if_neg (by omega)))
           clear HR
           go_wp2
           go_loopw [17,18] (λov i V'=>∃j:Nat,j<=ts.length/\i=.int .i64 j/\ov=.bool (decide (100000<D) || (ts.take j).any jW)/\V'=W) (λ_ i _=>ts.length-(intOf i).toNat)
           case atStart=>exact⟨0,by omega,rfl,by simp,rfl⟩
           case round=>
            obtain⟨j,hj,rfl,rfl,rfl⟩:=hrel
            by_cases hjl2:(j:Int)<(ts.length:Int)
            ·have hj1:j<ts.length:=by omega
             obtain⟨g2,cap2,he2,_,hgl2⟩:=HROW.o.form (by omega)
             injection he2 with he21 he22 he23
             subst he21
             subst he23
             obtain⟨t0,t1,_,_⟩:=zl HROW.o (j:=j) hj1
             have hany:(ts.take (j+1)).any jW=((ts.take j).any jW || jW ts[j]):=by rw[jw ts j hj1,List.any_append];simp
             have htb:=HTB.o ts[j] (List.getElem_mem hj1)
             have HANY:=ja hany
             clear hany
             generalize ts[j]=t at *
             obtain⟨co,ro⟩:=t
             dsimp only at t0 t1 htb
             have HAB:=ja (λW'=>qW co W' htb)
             cases hov:(decide (100000<D) || (ts.take j).any jW)
             ·by_cases hca:100000<(co.natAbs:Int)
              ·have HN:Hid ((decide (100000<D) || (ts.take (j+1)).any jW)=true):=ja (by
                rw[HANY.o,<-Bool.or_assoc,hov,Bool.false_or]
                have:zz co (-100000) 100000=false:=by
                 rcases Int.le_total 0 co with h|h
                 ·simp[zz];omega
                 ·simp[zz];omega
                unfold jW;rw[this];simp)
               go_wp2_with (first
                | (go_at_call 130;refine(HAB.o _).mono ?_;rintro e w1 ⟨rfl,hw1⟩;subst w1))
               exact⟨⟨j+1,by omega,by go_num,by rw[HN.o],by trivial⟩,by simp[intOf];omega⟩
              ·have hin:zz co (-100000) 100000=true:=by simp[zz];omega
               have HN:Hid ((decide (100000<D) || (ts.take (j+1)).any jW)=decide (1000<ro)):=ja (by
                rw[HANY.o,<-Bool.or_assoc,hov,Bool.false_or]
                unfold jW;rw[hin];simp)
               go_wp2_with (first
                | (go_at_call 130;refine(HAB.o _).mono ?_;rintro e w1 ⟨rfl,hw1⟩;subst w1))
               exact⟨⟨j+1,by omega,by go_num,by rw[HN.o,decide_eq_false (show ¬100000<(co.natAbs:Int) by omega),Bool.false_or],by trivial⟩,by simp[intOf];omega⟩
             ·have HN:Hid ((decide (100000<D) || (ts.take (j+1)).any jW)=true):=ja (by rw[HANY.o,<-Bool.or_assoc,hov,Bool.true_or])
              go_wp2
              exact⟨⟨j+1,by omega,by go_num,by rw[HN.o],by trivial⟩,by simp[intOf];omega⟩
            ·obtain rfl:j=ts.length:=by omega
             rw[List.take_length] at *
             cases hov:(decide (100000<D) || ts.any jW)
             ·have HV:=ja (HR2.o.trans (if_neg (by rw[hov];simp)))
              go_wp2
              refine jq (p:=4) (u:=5) (ty:=24) rfl rfl ((HRES.o.set_ 0 _).set_ 1 _) Tryz.underlying24 rfl Tryz.sizeNumber rfl ?_
              unfold jV
              exact⟨Av,ts.length,cv,by rw[HV.o];rfl,by rw[HV.o];exact jO (ownsRow_setCell_below (ownsRow_setCell_below HROW.o (by show w.heap.size<_;omega) _) (by show w.heap.size<_;omega) _) (by omega),Below.setCell (Below.setCell HBL.o (p:=⟨w.heap.size,0,none⟩) (Nat.le_refl _) _) (p:=⟨w.heap.size,1,none⟩) (Nat.le_refl _) _⟩
             ·have HV:=ja (HR2.o.trans (if_pos hov))
              go_wp2
              refine jq (p:=4) (u:=5) (ty:=24) rfl rfl ((HRES.o.set_ 0 _).set_ 1 _) Tryz.underlying24 rfl Tryz.sizeNumber rfl ?_
              unfold jV
              exact⟨none,0,0,by rw[HV.o];rfl,by rw[HV.o];exact World.ownsRow_nil _ _ _ _,Below.setCell (Below.setCell HBL.o (p:=⟨w.heap.size,0,none⟩) (Nat.le_refl _) _) (p:=⟨w.heap.size,1,none⟩) (Nat.le_refl _) _⟩
         ·obtain⟨r,c,hrc⟩:∃r c,kv'[m]=(r,c):=⟨_,_,rfl⟩
          have hc0:c≠0:=by rw[hrc] at hm3;exact hm3
          have hmin:∀p∈kv',p.2≠0->r<=p.1:=λp hp h=>by
           obtain⟨i,hi,rfl⟩:=List.mem_iff_getElem.1 hp
           have h5:=hm4 i hi (by omega) h
           rw[hrc] at h5;exact h5
          have hrow:=HSq.o.o.row
          rw[hlen] at hrow
          obtain⟨g,cap',he,hgb1,hgl⟩:=hrow.form (by omega)
          injection he with he1 he2 he3
          subst he1
          subst he3
          obtain⟨c0,c1,_,_⟩:=zl hrow (j:=m) (by rw[zE];exact hm)
          have hot:(zZ kv')[m]'(by rw[zE];exact hm)=(c,r):=by
           have h9:(zZ kv')[m]'(by rw[zE];exact hm)=(kv'[m].2,kv'[m].1):=by simp[zZ]
           rw[h9,hrc]
          rw[hot] at c0 c1
          obtain⟨_,x1,_,_⟩:=HSq.o.x.two
          have hml:(m:Int)<(kv.length:Int):=by omega
          have hml2:m<kv.length:=by omega
          have hmz:¬(m:Int)<0:=by omega
          have hcb:=HSq.o.cb (r,c) (by rw[<-hrc];exact List.getElem_mem hm)
          have htd:=jag3 c GG
          dsimp only at hcb
          have hcw:IntKind.i64.wrap (c.tdiv GG)=c.tdiv GG:=by rw[IntKind.wrap_i64];omega
          have htl:=HSq.o.tl
          have hfl:(kv'.filter nz).length=((kv'.set m (r,0)).filter nz).length+1:=by
           have hsplit:=jn9 hm
           rw[hrc] at hsplit
           rw[jj6 hm,Qo,List.length_append]
           conv=>lhs;rw[hsplit]
           rw[Qn hc0,List.length_append,List.length_cons]
           omega
          have HROW:=ja (World.ownsRow.drew (HSq.o.row.alloc (.cells #[.int .i64 (c.tdiv GG),.int .i64 r] 59)))
          have HBE:=ja (Below.drew ((Below.refl W.heap.size W).alloc (Nat.le_refl _) (.cells #[.int .i64 (c.tdiv GG),.int .i64 r] 59)))
          have HWU:=ja HSq.o.o.below.size
          have HMN:=ja hmin
          clear hmin hrow hot htd hm4 hm3
          go_wp2
          refine jk (λ_=>True) 15 (λw'=>w'.cell? ⟨g,m*2,none⟩=some (.int .i64 c)/\w'.cell? ⟨g,m*2+1,none⟩=some (.int .i64 r)) 16 (λw'=>w'.cell? ⟨X,1,none⟩=some (.slice Av ts.length cv)) (by kernel_rfl) ⟨trivial,λ_=>⟨c0,c1⟩,λ_=>x1⟩ (λjb=>?_)
          revert jb
          refine jtq 0 ?_ ?_ ?_
          rotate_left 1
          focus(intro;go_simp;try with_reducible rfl)
          (try simp only[Act.put,lA,lB,lC])
          refine jtk 1 ?_ ?_ ?_
          rotate_left 1
          focus(intro w' hSw;obtain⟨hC,hF,hG⟩:=hSw;have hG:=hG (by decide +kernel);clear hF;clear hC;go_simp;try with_reducible rfl)
          (try simp only[Act.put,lA,lB,lC])
          refine jtq 2 ?_ ?_ ?_
          rotate_left 1
          focus(intro;go_simp;try with_reducible rfl)
          (try simp only[Act.put,lA,lB,lC])
          refine jtq 3 ?_ ?_ ?_
          rotate_left 1
          focus(intro;go_simp;try with_reducible rfl)
          (try simp only[Act.put,lA,lB,lC])
          refine jtq 4 ?_ ?_ ?_
          rotate_left 1
          focus(intro;go_simp;try with_reducible rfl)
          (try simp only[Act.put,lA,lB,lC])
          refine jtq 5 ?_ ?_ ?_
          rotate_left 1
          focus(intro;go_simp;try with_reducible rfl)
          (try simp only[Act.put,lA,lB,lC])
          refine jtk 6 ?_ ?_ ?_
          rotate_left 1
          focus(intro w' hSw;obtain⟨hC,hF,hG⟩:=hSw;have hF:=hF (by decide +kernel);clear hG;clear hC;go_simp;try with_reducible rfl)
          (try simp only[Act.put,lA,lB,lC])
          refine jtq 7 ?_ ?_ ?_
          rotate_left 1
          focus(intro;go_simp;try with_reducible rfl)
          (try simp only[Act.put,lA,lB,lC])
          refine jtq 8 ?_ ?_ ?_
          rotate_left 1
          focus(intro;go_simp;try with_reducible rfl)
          (try simp only[Act.put,lA,lB,lC])
          refine jtq 9 ?_ ?_ ?_
          rotate_left 1
          focus(intro;go_simp;try with_reducible rfl)
          (try simp only[Act.put,lA,lB,lC])
          refine jtq 10 ?_ ?_ ?_
          rotate_left 1
          focus(intro;go_simp;try with_reducible rfl)
          (try simp only[Act.put,lA,lB,lC])
          refine jtq 11 ?_ ?_ ?_
          rotate_left 1
          focus(intro;go_simp;try with_reducible rfl)
          (try simp only[Act.put,lA,lB,lC])
          refine jtq 12 ?_ ?_ ?_
          rotate_left 1
          focus(intro;go_simp;try with_reducible rfl)
          (try simp only[Act.put,lA,lB,lC])
          refine jtk 13 ?_ ?_ ?_
          rotate_left 1
          focus(intro w' hSw;obtain⟨hC,hF,hG⟩:=hSw;have hF:=hF (by decide +kernel);clear hG;clear hC;go_simp;try with_reducible rfl)
          (try simp only[Act.put,lA,lB,lC])
          refine jtq 14 ?_ ?_ ?_
          rotate_left 1
          focus(intro;go_simp;try with_reducible rfl)
          (try simp only[Act.put,lA,lB,lC])
          intro jb
          refine je 15 rfl (by decide +kernel) (λK hK=>?_)
          go_simp
          refine hK.out _ _ ⟨trivial,λh=>absurd h (by decide +kernel),λ_=>(World.cell?_alloc_lt _ _ _ (by show X<W.heap.size;exact HSq.o.x.lt)).trans x1⟩ (λjb=>?_)
          clear hK K
          (try simp only[Act.put,lA,lB,lC])
          refine je 16 rfl (by decide +kernel) (λK hK=>?_)
          refine step_append_lies _ rfl _ _ 22 rfl (w.heap.size+1) 59 i1 (.agg #[.int .i64 0,.int .i64 0]) 2 16 Tryz.underlying22 hi1 hy0 hy1 hy2 rfl (by decide) (.slice Av ts.length cv) ts.length _ rfl HROW.o ⟨W.heap.size,0,none⟩ 1 1 [.int .i64 (c.tdiv GG),.int .i64 r] rfl rfl (zx W _ _ _) (by simp[Value.oneCell']) (by decide) (by unfold maxLen;omega) (by omega) (by have:=HWU.o;show _<=(W.alloc _).heap.size;rw[World.size_alloc];omega) (W.heap.size+1) (by show(W.alloc _).heap.size=_;rw[World.size_alloc]) ?_
          intro g3 cap3 w3 ho3 hg3 hat3 hlt3
          obtain⟨hstep,e0,ef0,e1,ef1⟩:=HSq.o.step HPN.o hm hrc hc0 HMN.o HBE.o ho3 hg3 (by rcases hat3 with h|h;exact .inl h;exact .inr (by omega))
          have HSTEP:=ja hstep
          refine hK.out _ _ ⟨trivial,λh=>absurd h (by decide +kernel),λh=>absurd h (by decide +kernel)⟩ (λjb=>?_)
          clear hK K ho3 hg3 hat3 hlt3 hstep
          (try simp only[Act.put,lA,lB,lC])
          revert jb
          refine jtq 17 ?_ ?_ ?_
          rotate_left 1
          focus(intro;go_simp;try with_reducible rfl)
          (try simp only[Act.put,lA,lB,lC])
          intro jb
          refine je 18 rfl (by decide +kernel) (λK hK=>?_)
          go_simp
          refine hK.out _ _ ⟨trivial,λh=>absurd h (by decide +kernel),λh=>absurd h (by decide +kernel)⟩ (λjb=>?_)
          clear hK K
          (try simp only[Act.put,lA,lB,lC])
          refine jl (by decide +kernel) ?_
          clear jb c0 c1 x1 HROW HBE e1 ef1
          go_wp2
          go_roundg (((kv'.set m (r,0)).filter nz).length)
          case measure=>omega
          case rel=>exact⟨_,_,_,Nat.le_refl _,HSTEP.o⟩
