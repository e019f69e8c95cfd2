import Derived.RangeFuncNested
import Derived.RangeFuncBound
import Derived.RangeFuncCalls
import Derived.RangeFuncLeaves
import Derived.Shelf.Abstract
import Derived.Shelf.RegionOpen
import Derived.OwnWalkIn
import Derived.TacticsInMore
import Derived.LoopNIn
import Derived.LoopIn
import Derived.Test.YtphcodcdfeohhaaGreatDoorMathToSurdB
set_option linter.all false
namespace Go.Proofs.YtphcodcdfeohhaaGreatDoor
open Go.RowKit
structure KeepB(R:Nat->Prop)(A B:World):Prop where
 size:A.heap.size<=B.heap.size
 same:∀b,R b->B.heap[b]?=A.heap[b]?
theorem KeepB.refl(R:Nat->Prop)(A:World):KeepB R A A:=⟨Nat.le_refl _,λ_ _=>rfl⟩
theorem KeepB.trans{R:Nat->Prop}{A B C:World}(h:KeepB R A B)(k:KeepB R B C):KeepB R A C:=⟨Nat.le_trans h.size k.size,λb hb=>(k.same b hb).trans (h.same b hb)⟩
theorem KeepB.mono{R R':Nat->Prop}{A B:World}(h:KeepB R A B)(hr:∀b,R' b->R b):KeepB R' A B:=⟨h.size,λb hb=>h.same b (hr b hb)⟩
theorem KeepB.of_grown{R:Nat->Prop}{A B:World}{row:Option Nat}(h:A.grownBy B row)(hlt:∀b,R b->b<A.heap.size)(hr:∀b,row=some b->¬R b):KeepB R A B:=
 ⟨h.size,λb hb=>h.block b (hlt b hb) (λe=>hr b e.symm hb)⟩
theorem KeepB.of_below{R:Nat->Prop}{A B:World}{n:Nat}(h:Below n A B)(hlt:∀b,R b->b<n):KeepB R A B:=
 ⟨h.size,λb hb=>h.block b (hlt b hb)⟩
theorem KeepB.drewN{R:Nat->Prop}{A B:World}(h:KeepB R A B)(q:Nat):KeepB R A (B.drewN q):=⟨h.size,h.same⟩
theorem KeepB.setCell{R:Nat->Prop}{A B:World}(h:KeepB R A B){p:Addr}(hp:¬R p.block)(u:Value):KeepB R A (B.setCell p u):=
 ⟨by simpa using h.size,λb hb=>(Below.heap_setCell B p u b (λe=>hp (e▸hb))).trans (h.same b hb)⟩
theorem KeepB.alloc{R:Nat->Prop}{A B:World}(h:KeepB R A B)(hlt:∀b,R b->b<B.heap.size)(o:Obj):KeepB R A (B.alloc o):=
 ⟨Nat.le_trans h.size (by simp),λb hb=>(Below.heap_alloc B o b (hlt b hb)).trans (h.same b hb)⟩
def jk6{α:Type}(P:Program)(gf:Nat)(lb:Array Value)(encs:α->Array Value)(S Sp:List α->Prop)(R:Nat->Prop)(k:Nat)(w0:World):Prop:=
 ∀(l:Nat) (J Jx:List α->World->Prop) (W:World),Below w0.heap.size w0 W ->
  (∀s A B row,J s A->A.grownBy B row->(∀b,row=some b->W.heap.size<=b/\b<W.heap.size+k)->J s B) ->
  (∀s A B row,Jx s A->A.grownBy B row->(∀b,row=some b->W.heap.size<=b/\b<W.heap.size+k)->Jx s B) ->
  (∀pre x A,Sp (pre++[x])->J pre A->W.heap.size+k<=A.heap.size->YieldAt Fence.wide 0 P l (encs x) A λe A'=>
   (e=.returned (.bool true)/\J (pre++[x]) A'/\KeepB (λb=>R b\/(W.heap.size<=b/\b<W.heap.size+k)) A A')\/(e=.returned (.bool false)/\Jx (pre++[x]) A'/\KeepB (λb=>R b\/(W.heap.size<=b/\b<W.heap.size+k)) A A')) ->
  J [] W ->
  CallsIn Fence.wide 0 P gf (#[.func (.yield l) #[] #[]]++lb) W λe W'=>(∃v,e=.returned v)/\((∃ys,S ys/\J ys W')\/(∃pre,Sp pre/\Jx pre W'))
def jcd4 {α:Type} (R:Nat->Prop) (B k:Nat) (I:List α->World->Prop) (Ix:Code->List α->World->Prop) (xs:List α) (W:World):Exit->Act->World->Prop
 | .normal,_,W'=>KeepB (λb=>R b\/(B<=b/\b<B+2+k)) W W'/\I xs W'
 | .ret,_,W'=>KeepB (λb=>R b\/(B<=b/\b<B+2+k)) W W'/\Ix .ret xs W'
 | .exit id,_,W'=>KeepB (λb=>R b\/(B<=b/\b<B+2+k)) W W'/\Ix (.exit id) xs W'
 | .goto t,_,W'=>KeepB (λb=>R b\/(B<=b/\b<B+2+k)) W W'/\Ix (.goto t) xs W'
 | .panic _,_,_=>False
 | .outgrown,_,_=>False
theorem jZ{w:World}(r:Nat)(o:Obj):w.grownBy (w.putObj r o) (some r):=⟨rfl,rfl,rfl,by simp,λb _ hne=>World.putObj_heap_other (λe=>hne (by rw[e]))⟩
theorem QV {α : Type} {P : Program} {g : Operand} {ps : Array Tmp} {assign body : Code} {Q : Exit → Act → World → Prop} {a : Act} {w : World} {gf : Nat} {lb : Array Value} {encs : α → Array Value}
    {S Sp:List α->Prop} {R:Nat->Prop} {k:Nat} {w0:World} (hg:a.eval g=.func (.func gf) #[] lb) (eg:∀args w,(callFunc gf args).run P w=.ok (.enter gf args) w)
    (hseq:jk6 P gf lb encs S Sp R k w0) (hb0:Below w0.heap.size w0 w) (hR:∀b,R b->b<w.heap.size) (hps:∀x,(encs x).size=ps.size)
    (I:List α->World->Prop) (Ix:Code->List α->World->Prop)
    (hI:∀s A B row,I s A->A.grownBy B row->(∀b,row=some b->w.heap.size<=b/\b<w.heap.size+2+k)->I s B)
    (hIx:∀c s A B row,Ix c s A->A.grownBy B row->(∀b,row=some b->w.heap.size<=b/\b<w.heap.size+2+k)->Ix c s B) (h0:I [] w)
    (hround:∀(pre:List α) (x:α) (W:World),Sp (pre++[x])->I pre W->w.heap.size+2+k<=W.heap.size ->
      assign.wpIn (Fence.wide.inRound (w.heap.size+1)) 0 P (Exit.then (λa₁ W₁=>KeepB (λb=>R b\/(w.heap.size<=b/\b<w.heap.size+2+k)) W W₁ /\
          ∀W₂,W₁.grownBy W₂ (some (w.heap.size+1))->W₂.heap.size=W₁.heap.size->body.wpIn (Fence.wide.inRound (w.heap.size+1)) 0 P (jcd4 R w.heap.size k I Ix (pre++[x]) W₂) a₁ W₂) (λ_ _ _=>False))
        { tmps:=(ps.zip (encs x)).foldl (λt (p,v)=>t.setIfInBounds p v) a.tmps,defers:=[] } W)
    (hdone:∀(xs:List α) (W:World),S xs->I xs W->W.heap[w.heap.size]?=some (.deferred (some []))->Q .normal { a with defers:={ target:=.collected w.heap.size,args:=#[] }::a.defers } W)
    (hstop:∀(c:Code) (pre:List α) (W:World),Sp pre->Ix c pre W->W.heap[w.heap.size]?=some (.deferred (some []))->c.wpIn Fence.wide 0 P Q { a with defers:={ target:=.collected w.heap.size,args:=#[] }::a.defers } W) :
    (Code.rangeFunc g ps assign body).wpIn Fence.wide 0 P Q a w:=by
  refine wpIn_rangeFunc ?_
  intro fn hfn
  obtain⟨rec,hrec⟩:∃rec:LoopState->Option Code->Loop,rec=λst pe=>{ state:=st,pending:=pe,fn,tmps:=a.tmps,params:=ps,assign,body,defers:=w.heap.size }:=⟨_,rfl⟩
  obtain⟨W1,hW1⟩:∃W1,(w.alloc (.deferred (some []))).alloc (.loop (rec .ready none))=W1:=⟨_,rfl⟩
  have hL1:W1.heap[w.heap.size+1]?=some (.loop (rec .ready none)):=by
    rw[<-hW1];have:=World.alloc_heap_new (w.alloc (.deferred (some []))) (.loop (rec .ready none));rwa [World.size_alloc] at this
  have hK1:W1.heap[w.heap.size]?=some (.deferred (some [])):=by
    rw[<-hW1];exact(Below.heap_alloc _ _ _ (by simp)).trans (World.alloc_heap_new w _)
  have hz1:W1.heap.size=w.heap.size+2:=by rw[<-hW1];simp
  have hI1:I [] W1:=by
    rw[<-hW1]
    exact hI _ _ _ none (hI _ _ _ none h0 (World.grownBy_alloc _ _ _) (by simp)) (World.grownBy_alloc _ _ _) (by simp)
  have hb1:Below w0.heap.size w0 W1:=by
    rw[<-hW1];exact hb0.trans ((((Below.refl _ w).alloc (Nat.le_refl _) _).alloc (by simp) _).mono hb0.size)
  refine⟨w.heap.size+1,[{ target:=.collected w.heap.size,args:=#[] }],W1,{ target:=.fn (.func gf) lb,args:=#[.func (.yield (w.heap.size+1)) #[] #[]] },W1,gf,
    #[.func (.yield (w.heap.size+1)) #[] #[]]++lb,W1,?_,?_,?_,?_,λh=>by simp[Fence.wide] at h,?_⟩
  · rw[<-hW1,hrec];exact run_enterLoop_outer _ _ _ _ _
  · simp only[resolve,hg]
    simp[go_sem]
  · intro f' hf';trivial
  · simp[invoke,go_sem,eg]
  · refine CallsIn.mono (hseq (w.heap.size + 1)
      (λpre W=>I pre W/\W.heap[w.heap.size+1]?=some (.loop (rec .ready none))/\W.heap[w.heap.size]?=some (.deferred (some [])))
      (λpre W=>∃c,Ix c pre W/\W.heap[w.heap.size+1]?=some (.loop (rec .done (some c)))/\W.heap[w.heap.size]?=some (.deferred (some [])))
      W1 hb1 ?_ ?_ ?_ ⟨hI1,hL1,hK1⟩) ?_
    · rintro s A B row ⟨h1,h2,h3⟩ hg' hr
      rw[hz1] at hr
      have l2:=lt_of_block h2
      refine⟨hI s A B row h1 hg' (λb e=>by have:=hr b e;omega),(hg'.block _ l2 (λe=>?_)).trans h2,(hg'.block _ (by omega) (λe=>?_)).trans h3⟩
      · have:=hr _ e.symm;omega
      · have:=hr _ e.symm;omega
    · rintro s A B row ⟨c,h1,h2,h3⟩ hg' hr
      rw[hz1] at hr
      have l2:=lt_of_block h2
      refine⟨c,hIx c s A B row h1 hg' (λb e=>by have:=hr b e;omega),(hg'.block _ l2 (λe=>?_)).trans h2,(hg'.block _ (by omega) (λe=>?_)).trans h3⟩
      · have:=hr _ e.symm;omega
      · have:=hr _ e.symm;omega
    · rintro pre x W hsp ⟨hi,hl,hk⟩ hsz
      rw[hz1] at hsz
      have hlt:w.heap.size+1<W.heap.size:=lt_of_block hl
      have hy:=run_yield (P:=P) (args:=encs x) hl (by rw[hrec];exact hps x)
      rw[hrec] at hy
      refine⟨fn,_,assign,body,hy,roundIn_of_wpIn hfn (wpIn_mono (hround pre x W hsp hi hsz) ?_)⟩
      intro e a1 W₁ he
      cases e with
      | normal=>
        obtain⟨hkb,hbody⟩:=he
        have hl1:W₁.heap[w.heap.size+1]?=some (.loop (rec .ready none)):=(hkb.same _ (.inr (by omega))).trans hl
        have hk1:W₁.heap[w.heap.size]?=some (.deferred (some [])):=(hkb.same _ (.inr (by omega))).trans hk
        have hlt1:=lt_of_block hl1
        refine⟨_,run_beginRound hl1 (by rw[hrec]),?_⟩
        have hl2:(W₁.putObj (w.heap.size+1) (.loop { rec .ready none with state:=.busy })).heap[w.heap.size+1]?=some (.loop { rec .ready none with state:=.busy }):=World.putObj_heap_same hlt1
        have hk2:(W₁.putObj (w.heap.size+1) (.loop { rec .ready none with state:=.busy })).heap[w.heap.size]?=some (.deferred (some [])):=(World.putObj_heap_other (by omega)).trans hk1
        refine wpIn_mono (hbody _ (jZ _ _) (by simp)) ?_
        have fin:∀(jump:Option Code) (W3:World),KeepB (λb=>b=w.heap.size\/b=w.heap.size+1) (W₁.putObj (w.heap.size+1) (.loop { rec .ready none with state:=.busy })) W3 ->
            (Instr.endRound (w.heap.size+1) jump).run P W3=.ok (.bool jump.isNone) (W3.putObj (w.heap.size+1) (.loop (rec (if jump.isNone then .ready else .done) jump))) /\
            (W3.putObj (w.heap.size+1) (.loop (rec (if jump.isNone then .ready else .done) jump))).heap[w.heap.size+1]?=some (.loop (rec (if jump.isNone then .ready else .done) jump)) /\
            (W3.putObj (w.heap.size+1) (.loop (rec (if jump.isNone then .ready else .done) jump))).heap[w.heap.size]?=some (.deferred (some [])):=λjump W3 hk3=>by
          have hl3:=(hk3.same _ (.inr rfl)).trans hl2
          have hd3:=(hk3.same _ (.inl rfl)).trans hk2
          have hre:=run_endRound (P:=P) jump hl3
          rw[hrec] at hre ⊢
          exact⟨hre,World.putObj_heap_same (lt_of_block hl3),(World.putObj_heap_other (by omega)).trans hd3⟩
        have keep:∀(W3:World) (o:Obj),KeepB (λb=>R b\/(w.heap.size<=b/\b<w.heap.size+2+k)) (W₁.putObj (w.heap.size+1) (.loop { rec .ready none with state:=.busy })) W3 ->
            KeepB (λb=>R b\/(W1.heap.size<=b/\b<W1.heap.size+k)) W (W3.putObj (w.heap.size+1) o):=λW3 o hk3=>by
          rw[hz1]
          have t1:KeepB (λb=>R b\/(w.heap.size+2<=b/\b<w.heap.size+2+k)) W W₁:=hkb.mono (by rintro b (h|h);exact .inl h;right;omega)
          have t2:KeepB (λb=>R b\/(w.heap.size+2<=b/\b<w.heap.size+2+k)) W₁ (W₁.putObj (w.heap.size+1) (.loop { rec .ready none with state:=.busy })):=
            ⟨by simp, fun b hb => World.putObj_heap_other (by rintro rfl; rcases hb with hb | hb; · have := hR _ hb; omega
                                                              · omega)⟩
          have t3:=hk3.mono (R':=λb=>R b\/(w.heap.size+2<=b/\b<w.heap.size+2+k)) (by rintro b (h|h);exact .inl h;right;omega)
          have t4:KeepB (λb=>R b\/(w.heap.size+2<=b/\b<w.heap.size+2+k)) W3 (W3.putObj (w.heap.size+1) o):=
            ⟨by simp, fun b hb => World.putObj_heap_other (by rintro rfl; rcases hb with hb | hb; · have := hR _ hb; omega
                                                              · omega)⟩
          exact((t1.trans t2).trans t3).trans t4
        rintro e a3 W3 hp
        cases e with
        | normal=>
          obtain⟨hk3,hi3⟩:=hp
          obtain⟨hr,hl4,hk4⟩:=fin none W3 (hk3.mono (by rintro b (rfl|rfl)<;>right<;>omega))
          exact⟨_,_,hr,.inl ⟨rfl,⟨hI _ _ _ _ hi3 (jZ _ _) (λb e=>by cases e;omega),hl4,hk4⟩,keep _ _ hk3⟩⟩
        | ret=>
          obtain⟨hk3,hi3⟩:=hp
          obtain⟨hr,hl4,hk4⟩:=fin (some .ret) W3 (hk3.mono (by rintro b (rfl|rfl)<;>right<;>omega))
          exact⟨_,_,hr,.inr ⟨rfl,⟨.ret,hIx _ _ _ _ _ hi3 (jZ _ _) (λb e=>by cases e;omega),hl4,hk4⟩,keep _ _ hk3⟩⟩
        | exit id=>
          obtain⟨hk3,hi3⟩:=hp
          obtain⟨hr,hl4,hk4⟩:=fin (some (.exit id)) W3 (hk3.mono (by rintro b (rfl|rfl)<;>right<;>omega))
          exact⟨_,_,hr,.inr ⟨rfl,⟨.exit id,hIx _ _ _ _ _ hi3 (jZ _ _) (λb e=>by cases e;omega),hl4,hk4⟩,keep _ _ hk3⟩⟩
        | goto t=>
          obtain⟨hk3,hi3⟩:=hp
          obtain⟨hr,hl4,hk4⟩:=fin (some (.goto t)) W3 (hk3.mono (by rintro b (rfl|rfl)<;>right<;>omega))
          exact⟨_,_,hr,.inr ⟨rfl,⟨.goto t,hIx _ _ _ _ _ hi3 (jZ _ _) (λb e=>by cases e;omega),hl4,hk4⟩,keep _ _ hk3⟩⟩
        | panic ch=>exact hp.elim
        | outgrown=>exact hp.elim
      | ret=>exact he.elim
      | exit id=>exact he.elim
      | goto t=>exact he.elim
      | panic ch=>exact he.elim
      | outgrown=>exact he.elim
    · rintro e W2 ⟨⟨v,rfl⟩,(⟨xs,hS,hi,hl,hk⟩|⟨pre,hSp,c,hi,hl,hk⟩)⟩
      · refine⟨none,_,by have:=run_endLoop (P:=P) hl (by rw[hrec];simp);rw[hrec] at this;exact this,?_⟩
        exact hdone xs _ hS (hI _ _ _ _ hi (jZ _ _) (λb e=>by cases e;omega)) ((World.putObj_heap_other (by omega)).trans hk)
      · refine⟨some c,_,by have:=run_endLoop (P:=P) hl (by rw[hrec];simp);rw[hrec] at this;exact this,?_⟩
        exact hstop c pre _ hSp (hIx _ _ _ _ _ hi (jZ _ _) (λb e=>by cases e;omega)) ((World.putObj_heap_other (by omega)).trans hk)
def zW(seen:Array Nat)(e:MapEntry):Bool:=!seen.contains e.born
def zK(w:World)(r b:Nat)(kv left:List (Int×Value))(cur:Option (Int×Value)):Prop:=
 ∃(es:Array MapEntry) (clk since:Nat) (seen:Array Nat) (last:Nat),r≠b/\w.heap[b]?=some (.map es clk)/\KV es.toList kv/\(kv.map (·.1)).Nodup/\(es.toList.map (·.born)).Nodup /\
  (∀e∈es.toList,e.born<since)/\since<=last/\last<=clk/\w.heap[r]?=some (.mapIter (some b) since seen last)/\KV (es.toList.filter (zW seen)) left /\
  ∀p,cur=some p->last=clk/\∃e,e∈es.toList/\seen.back?=some e.born/\e.key=.int .i64 p.1/\e.val=p.2
section
variable {P : Program} {w : World} {r b : Nat} {kv left : List (Int × Value)} {cur : Option (Int × Value)}
theorem zK.isMap(h:zK w r b kv left cur):jt w b kv:=by
 obtain⟨es,clk,since,seen,last,hrb,hb,hkv,hnd,hbn,hbl,h1,h2,hr,hl,hc⟩:=h
 exact⟨es,clk,hb,hkv,hnd,hbn,λe he=>by have:=hbl e he;omega⟩
theorem zK.lt(h:zK w r b kv left cur):r<w.heap.size/\b<w.heap.size:=by
 obtain⟨es,clk,since,seen,last,hrb,hb,hkv,hnd,hbn,hbl,h1,h2,hr,hl,hc⟩:=h
 exact⟨lt_of_block hr,lt_of_block hb⟩
theorem zK.of_blocks{w':World}(h:zK w r b kv left cur)(hr':w'.heap[r]?=w.heap[r]?)(hb':w'.heap[b]?=w.heap[b]?):zK w' r b kv left cur:=by
 obtain⟨es,clk,since,seen,last,hrb,hb,hkv,hnd,hbn,hbl,h1,h2,hr,hl,hc⟩:=h
 exact⟨es,clk,since,seen,last,hrb,hb'.trans hb,hkv,hnd,hbn,hbl,h1,h2,hr'.trans hr,hl,hc⟩
theorem zK.nocur(h:zK w r b kv left cur):zK w r b kv left none:=by
 obtain⟨es,clk,since,seen,last,hrb,hb,hkv,hnd,hbn,hbl,h1,h2,hr,hl,hc⟩:=h
 exact⟨es,clk,since,seen,last,hrb,hb,hkv,hnd,hbn,hbl,h1,h2,hr,hl,λp hp=>by cases hp⟩
theorem jv2 {T K E:TypeId} (h:jt w b kv) (hT:P.underlying T=some (.map K E)) :
  ∃w',(Instr.range T (.map (some b))).run P w=.ok (.pointer (some ⟨w.heap.size,0,none⟩)) w'/\zK w' w.heap.size b kv kv none/\w.grownBy w' none/\w'.heap.size=w.heap.size+1:=by
 have hlt:=h.lt
 obtain⟨es,clk,hb,hkv,hnd,hbn,hbl⟩:=h
 have hget:(getObj b).run P w=.ok (.map es clk) w:=by simp[getObj,Sem.run,hb]
 refine⟨w.alloc (.mapIter (some b) clk #[] clk),?_,?_,World.grownBy_alloc _ _ _,by simp⟩
 ·simp[Instr.range,run_underlying hT,hget,run_newObj_alloc]
 ·refine⟨es,clk,clk,#[],clk,by omega,(Below.heap_alloc w _ b hlt).trans hb,hkv,hnd,hbn,hbl,Nat.le_refl _,Nat.le_refl _,World.alloc_heap_new w _,?_,λp hp=>by cases hp⟩
  have:es.toList.filter (zW #[])=es.toList:=List.filter_eq_self.2 (λe _=>by simp[zW])
  rw[this];exact hkv
theorem jaj6(n:Nat)(hn:0<n):∃j w2,j<n/\(choose (.mapNext n)).run P w=.ok j w2/\w2.heap=w.heap/\w.grownBy w2 none:=by
 by_cases h1:n<=1
 ·refine⟨0,w,hn,by simp[choose,Sem.run,Question.forced,h1],rfl,World.grownBy.refl _ _⟩
 ·refine⟨w.tape w.drawn (.mapNext n) % n,{ w with drawn:=w.drawn+1 },Nat.mod_lt _ hn,by simp[choose,Sem.run,Question.forced,Question.cut,h1],rfl,⟨rfl,rfl,rfl,Nat.le_refl _,λ_ _ _=>rfl⟩⟩
theorem jf0 {es:List MapEntry} (hbn:(es.map (·.born)).Nodup) (seen:Array Nat) {j:Nat} {e:MapEntry} (he:(es.filter (zW seen))[j]?=some e) :
  es.filter (zW (seen.push e.born))=(es.filter (zW seen)).eraseIdx j:=by
 have hnd:((es.filter (zW seen)).map (·.born)).Nodup:=List.Nodup.sublist (List.Sublist.map _ (List.filter_sublist)) hbn
 have h1:es.filter (zW (seen.push e.born))=(es.filter (zW seen)).filter (λx=>decide (x.born≠e.born)):=by
  rw[List.filter_filter]
  apply List.filter_congr
  intro x _
  simp only[zW,Array.contains_push]
  by_cases hx:x.born=e.born
  ·simp[hx]
  ·simp[hx,Bool.and_comm]
 rw[h1]
 generalize es.filter (zW seen)=l at *
 clear h1
 induction l generalizing j with
 | nil=>simp at he
 | cons x l ih=>
  simp only[List.map_cons,List.nodup_cons] at hnd
  cases j with
  | zero=>
   simp only[List.getElem?_cons_zero,Option.some.injEq] at he
   subst he
   simp only[List.eraseIdx_cons_zero,List.filter_cons,ne_eq,not_true_eq_false,decide_false,Bool.false_eq_true,if_false]
   apply List.filter_eq_self.2
   intro y hy
   simp only[decide_eq_true_eq]
   intro hyx
   exact hnd.1 (List.mem_map.2 ⟨y,hy,hyx⟩)
  | succ j=>
   simp only[List.getElem?_cons_succ] at he
   have hne:x.born≠e.born:=λh=>hnd.1 (List.mem_map.2 ⟨e,List.mem_of_getElem? he,h.symm⟩)
   simp only[List.eraseIdx_cons_succ,List.filter_cons,hne,ne_eq,not_false_eq_true,decide_true,if_true]
   rw[ih he hnd.2]
theorem JZ {α β:Type} (f:α->β):∀(l:List α) (j:Nat),(l.eraseIdx j).map f=(l.map f).eraseIdx j
 | [],_=>rfl
 | _::_,0=>rfl
 | a::l,j+1=>by simp[JZ f l j]
theorem jb7 {α:Type} (f:α->Bool):∀(l:List α) (j:Nat) (a:α),l[j]?=some a->f a=false->(l.eraseIdx j).filter f=l.filter f
 | [],_,_,h,_=>by cases h
 | x::l,0,a,h,hf=>by
  simp only[List.getElem?_cons_zero,Option.some.injEq] at h
  subst h
  simp[List.filter_cons,hf]
 | x::l,j+1,a,h,hf=>by
  simp only[List.getElem?_cons_succ] at h
  simp only[List.eraseIdx_cons_succ,List.filter_cons,jb7 f l j a h hf]
theorem KV.eraseIdx{es:List MapEntry}{kv:List (Int×Value)}(h:KV es kv)(j:Nat):KV (es.eraseIdx j) (kv.eraseIdx j):=by
 unfold KV at h ⊢
 rw[JZ,JZ,h]
theorem jm0(h:zK w r b kv [] cur)(T:TypeId):(Instr.next (.pointer (some ⟨r,0,none⟩)) false T).run P w=.ok (.tuple #[.bool false]) w:=by
 obtain⟨es,clk,since,seen,last,hrb,hb,hkv,hnd,hbn,hbl,h1,h2,hr,hl,hc⟩:=h
 have hgr:(getObj r).run P w=.ok (.mapIter (some b) since seen last) w:=by simp[getObj,Sem.run,hr]
 have hgb:(getObj b).run P w=.ok (.map es clk) w:=by simp[getObj,Sem.run,hb]
 have hguard:(!seen.isEmpty&&!es.isEmpty&&es.all (·.born≥last))=false:=by
  cases hes:es.toList with
  | nil=>simp[show es=#[] from by apply Array.ext';simpa using hes]
  | cons e l=>
   have he:e∈es.toList:=by rw[hes];simp
   have:=hbl e he
   have:es.all (·.born≥last)=false:=by
    rw[<-Array.all_toList,hes]
    simp only[List.all_cons,Bool.and_eq_false_iff]
    left;simp;omega
   simp[this]
 have hleft:es.filter (λe=>!seen.contains e.born)=#[]:=by
  apply Array.ext'
  rw[Array.toList_filter]
  have:=hl.len
  simp only[List.length_nil] at this
  exact List.eq_nil_of_length_eq_zero this
 simp only[Instr.next,Sem.run_bind,hgr,hgb,Result.andThen_ok,hguard,Bool.false_eq_true,if_false,hleft]
 simp[choose,Sem.run,Question.forced]
theorem jm1 (h:zK w r b kv left cur) (hl0:left≠[]) (T:TypeId) :
  ∃j p w',left[j]?=some p/\(Instr.next (.pointer (some ⟨r,0,none⟩)) false T).run P w=.ok (.tuple #[.bool true,.int .i64 p.1,p.2]) w'/\zK w' r b kv (left.eraseIdx j) (some p) /\
   w.grownBy w' (some r)/\w'.heap.size=w.heap.size:=by
 obtain⟨es,clk,since,seen,last,hrb,hb,hkv,hnd,hbn,hbl,h1,h2,hr,hl,hc⟩:=h
 have hgr:(getObj r).run P w=.ok (.mapIter (some b) since seen last) w:=by simp[getObj,Sem.run,hr]
 have hgb:(getObj b).run P w=.ok (.map es clk) w:=by simp[getObj,Sem.run,hb]
 have hguard:(!seen.isEmpty&&!es.isEmpty&&es.all (·.born≥last))=false:=by
  cases hes:es.toList with
  | nil=>simp[show es=#[] from by apply Array.ext';simpa using hes]
  | cons e l=>
   have he:e∈es.toList:=by rw[hes];simp
   have:=hbl e he
   have:es.all (·.born≥last)=false:=by
    rw[<-Array.all_toList,hes]
    simp only[List.all_cons,Bool.and_eq_false_iff]
    left;simp;omega
   simp[this]
 obtain⟨lf,hlf⟩:∃lf,es.filter (λe=>!seen.contains e.born)=lf:=⟨_,rfl⟩
 have hlfl:lf.toList=es.toList.filter (zW seen):=by rw[<-hlf,Array.toList_filter];rfl
 have hlen:lf.toList.length=left.length:=by rw[hlfl];exact hl.len
 have hpos:0<left.length:=List.length_pos_iff.2 hl0
 have hold:lf.filter (λe=>decide (e.born<since))=lf:=by
  apply Array.ext'
  rw[Array.toList_filter]
  apply List.filter_eq_self.2
  intro e he
  rw[hlfl] at he
  have:=hbl e (List.mem_filter.1 he).1
  simpa using this
 have hnew:lf.filter (λe=>decide (e.born≥since))=#[]:=by
  apply Array.ext'
  rw[Array.toList_filter]
  apply List.filter_eq_nil_iff.2
  intro e he
  rw[hlfl] at he
  have:=hbl e (List.mem_filter.1 he).1
  simp;omega
 have hne:lf.isEmpty=false:=by
  cases hh:lf.isEmpty with
  | false=>rfl
  | true=>
   have:lf=#[]:=by simpa using hh
   subst this
   simp at hlen;omega
 have hcand:((if lf.isEmpty then #[none] else #[])++(lf++#[]).map some:Array (Option MapEntry))=lf.map some:=by
  rw[hne];simp
 have hsz:(lf.map some).size=left.length:=by rw[Array.size_map,<-hlen];simp
 obtain⟨j,w2,hj,hch,hh2,hg2⟩:=jaj6 (P:=P) (w:=w) left.length hpos
 have hje:∃e,(lf.map some)[j]?=some (some e)/\lf.toList[j]?=some e:=by
  have hjl:j<lf.toList.length:=by omega
  refine⟨lf.toList[j],?_,List.getElem?_eq_getElem hjl⟩
  rw[Array.getElem?_map]
  have:lf[j]?=some lf.toList[j]:=by rw[<-Array.getElem?_toList];exact List.getElem?_eq_getElem hjl
  rw[this];rfl
 obtain⟨e,he1,he2⟩:=hje
 rw[hlfl] at he2
 have hp:∃p,left[j]?=some p/\e.key=.int .i64 p.1/\e.val=p.2:=by
  have hjl:j<left.length:=hj
  obtain⟨e',he',hk,hv⟩:=hl.get (i:=j) (r:=left[j].1) (v:=left[j].2) (by rw[List.getElem?_eq_getElem hjl])
  rw[he2] at he'
  cases he'
  exact⟨left[j],List.getElem?_eq_getElem hjl,hk,hv⟩
 obtain⟨p,hp1,hpk,hpv⟩:=hp
 have hr2:w2.heap[r]?=some (.mapIter (some b) since seen last):=by rw[hh2];exact hr
 have hset:(setObj r (.mapIter (some b) since (seen.push e.born) clk)).run P w2=.ok () (w2.putObj r (.mapIter (some b) since (seen.push e.born) clk)):=by
  simp[setObj,Sem.run,hr2,World.putObj]
 refine⟨j,p,w2.putObj r (.mapIter (some b) since (seen.push e.born) clk),hp1,?_,?_,?_,by simp[hh2]⟩
 ·simp only[Instr.next,Sem.run_bind,hgr,hgb,Result.andThen_ok,hguard,Bool.false_eq_true,if_false,hlf,hold,hnew,hcand,hsz,hch,he1,hset,Sem.run_pure,hpk,hpv]
 ·refine⟨es,clk,since,seen.push e.born,clk,hrb,?_,hkv,hnd,hbn,hbl,by omega,Nat.le_refl _,World.putObj_heap_same (lt_of_block hr2),?_,?_⟩
  ·rw[World.putObj_heap_other (Ne.symm hrb),hh2];exact hb
  ·rw[jf0 hbn seen he2]
   exact hl.eraseIdx j
  ·intro q hq
   cases hq
   exact⟨rfl,e,(List.mem_filter.1 (List.mem_of_getElem? he2)).1,by simp,hpk,hpv⟩
 ·exact⟨hg2.os,hg2.tape,hg2.output,by simpa using hg2.size,λk hk hne=>(World.putObj_heap_other (λe=>hne (by rw[e]))).trans (by rw[hh2])⟩
theorem jv1{p:Int×Value}(h:zK w r b kv left (some p)):(Instr.entry (.pointer (some ⟨r,0,none⟩))).run P w=.ok (.tuple #[.int .i64 p.1,p.2]) w:=by
 obtain⟨es,clk,since,seen,last,hrb,hb,hkv,hnd,hbn,hbl,h1,h2,hr,hl,hc⟩:=h
 obtain⟨hlc,e,he,hbk,hek,hev⟩:=hc p rfl
 have hgr:(getObj r).run P w=.ok (.mapIter (some b) since seen last) w:=by simp[getObj,Sem.run,hr]
 have hgb:(getObj b).run P w=.ok (.map es clk) w:=by simp[getObj,Sem.run,hb]
 have hf:es.find? (λx=>x.born==e.born)=some e:=by
  have:es.toList.find? (λx=>x.born==e.born)=some e:=by
   clear hc hl hgr hgb hr hb hkv
   generalize es.toList=l at *
   induction l with
   | nil=>cases he
   | cons x l ih=>
    simp only[List.map_cons,List.nodup_cons] at hbn
    by_cases hx:x.born=e.born
    ·rcases List.mem_cons.1 he with rfl|he'
     ·simp
     ·exact absurd (List.mem_map.2 ⟨e,he',hx.symm⟩) hbn.1
    ·have hx':(x.born==e.born)=false:=by simpa using hx
     rw[List.find?_cons,hx']
     rcases List.mem_cons.1 he with rfl|he'
     ·exact absurd rfl hx
     ·exact ih hbn.2 (λy hy=>hbl y (List.mem_cons_of_mem _ hy)) he'
  rw[<-Array.find?_toList];exact this
 simp only[Instr.entry,Sem.run_bind,hgr,hgb,Result.andThen_ok,hbk,hlc,bne_self_eq_false,Bool.false_eq_true,if_false,hf,Sem.run_pure,hek,hev]
def zj0:List (Int×Value)->Int->List (Int×Value)
 | [],_=>[]
 | (a,x)::t,r=>if r=a then t else(a,x)::zj0 t r
theorem jbm3:∀(kv:List (Int×Value)) (k:Int) (i j:Nat) (v:Value),JC kv k i=some (j,v)->zj0 kv k=kv.eraseIdx (j-i):=by
 intro kv
 induction kv with
 | nil=>intro k i j v h;cases h
 | cons p t ih=>
  intro k i j v h
  obtain⟨a,x⟩:=p
  unfold JC at h
  unfold zj0
  split at h
  ·rename_i hka
   simp only[Option.some.injEq,Prod.mk.injEq] at h
   obtain⟨rfl,rfl⟩:=h
   rw[if_pos hka];simp
  ·rename_i hka
   have h1:=(ja3 t k (i+1) j v h).1
   rw[if_neg hka,ih k (i+1) j v h,show j-i=(j-(i+1))+1 by omega,List.eraseIdx_cons_succ]
theorem zn5 {T K E:TypeId} {q:IntKind} {p:Int×Value} (h:zK w r b kv left (some p)) (hT:P.underlying T=some (.map K E)) (hK:P.underlying K=some (.int q)) (t2 ty:TypeId) :
  ∃w',(Builtin.delete_ #[T,t2] ty #[.map (some b),.int .i64 p.1]).run P w=.ok (.tuple #[]) w'/\zK w' r b (zj0 kv p.1) left none/\w.grownBy w' (some b)/\w'.heap.size=w.heap.size:=by
 obtain⟨es,clk,since,seen,last,hrb,hb,hkv,hnd,hbn,hbl,h1,h2,hr,hl,hc⟩:=h
 obtain⟨hlc,e,he,hbk,hek,hev⟩:=hc p rfl
 have hgb:(getObj b).run P w=.ok (.map es clk) w:=by simp[getObj,Sem.run,hb]
 have hck:∀e,(Instr.checkKey e 10000 K (.int .i64 p.1)).run P w=.ok () w:=λe=>qi hK e 9999 p.1
 have hfind:(Instr.findKey K (.int .i64 p.1) es.toList).run P w=.ok (JC kv p.1 0) w:=by
  simp[Instr.findKey,run_underlying hK,jn0 q es.toList kv p.1 0 hkv]
 have hset:∀es' c,(setObj b (.map es' c)).run P w=.ok () (w.putObj b (.map es' c)):=by
  intro es' c;simp[setObj,Sem.run,hb,World.putObj]
 obtain⟨i0,hi0⟩:=List.mem_iff_getElem?.1 he
 have hkvi:kv[i0]?=some p:=by
  have h3:(es.toList.map (λe=>(e.key,e.val)))[i0]?=(kv.map (λp=>(Value.int .i64 p.1,p.2)))[i0]?:=by rw[show es.toList.map (λe=>(e.key,e.val))=_ from hkv]
  rw[List.getElem?_map,List.getElem?_map,hi0] at h3
  cases hk:kv[i0]? with
  | none=>rw[hk] at h3;cases h3
  | some y=>
   rw[hk] at h3
   simp only[Option.map_some,Option.some.injEq,Prod.mk.injEq,hek,hev] at h3
   obtain⟨h4,h5⟩:=h3
   injection h4 with _ h4
   exact congrArg some (Prod.ext h4.symm h5.symm)
 cases hi:JC kv p.1 0 with
 | none=>
  have:=(zk1 kv p.1 0).1 hi
  exact absurd (List.mem_map.2 ⟨p,List.mem_of_getElem? hkvi,rfl⟩) this
 | some y=>
  obtain⟨i,x⟩:=y
  obtain⟨_,h4,h5⟩:=ja3 kv p.1 0 i x hi
  rw[Nat.sub_zero] at h4 h5
  have hii:i=i0:=by
   have h6:(kv.map (·.1))[i]?=(kv.map (·.1))[i0]?:=by rw[List.getElem?_map,List.getElem?_map,h5,hkvi];rfl
   exact(List.getElem?_inj (by simpa using h4) hnd).1 h6
  subst hii
  have hdel:=jbm3 kv p.1 0 i x hi
  rw[Nat.sub_zero] at hdel
  have hseen:zW seen e=false:=by
   simp only[zW,Bool.not_eq_false']
   rw[Array.contains_iff_mem]
   exact Array.mem_of_back? hbk
  refine⟨w.putObj b (.map (es.eraseIdxIfInBounds i) clk),?_,?_,jZ _ _,by simp⟩
  ·simp only[Builtin.delete_,List.getElem?_toArray,List.getElem?_cons_zero,List.getElem?_cons_succ,Sem.run_bind,run_underlying hT,Result.andThen_ok,hgb,hck,hfind,hi,hset,Sem.run_pure]
  ·have htl:(es.eraseIdxIfInBounds i).toList=es.toList.eraseIdx i:=by simp[Array.eraseIdxIfInBounds];split<;>simp_all
   refine⟨es.eraseIdxIfInBounds i,clk,since,seen,last,hrb,World.putObj_heap_same (lt_of_block hb),?_,?_,?_,?_,h1,h2,?_,?_,λq hq=>by cases hq⟩
   ·rw[htl,hdel];exact hkv.eraseIdx i
   ·rw[hdel,JZ];exact List.Nodup.sublist (List.eraseIdx_sublist _ _) hnd
   ·rw[htl,JZ];exact List.Nodup.sublist (List.eraseIdx_sublist _ _) hbn
   ·intro e' he';rw[htl] at he';exact hbl e' (List.mem_of_mem_eraseIdx he')
   ·rw[World.putObj_heap_other hrb];exact hr
   ·rw[htl]
    rw[jb7 (zW seen) es.toList i e hi0 hseen];exact hl
theorem zK.cur_mem{p:Int×Value}(h:zK w r b kv left (some p)):p∈kv:=by
 obtain⟨es,clk,since,seen,last,hrb,hb,hkv,hnd,hbn,hbl,h1,h2,hr,hl,hc⟩:=h
 obtain⟨hlc,e,he,hbk,hek,hev⟩:=hc p rfl
 have hm:(e.key,e.val)∈es.toList.map (λe=>(e.key,e.val)):=List.mem_map.2 ⟨e,he,rfl⟩
 rw[show es.toList.map (λe=>(e.key,e.val))=_ from hkv] at hm
 obtain⟨y,hy,hye⟩:=List.mem_map.1 hm
 simp only[Prod.mk.injEq,hek,hev] at hye
 obtain⟨h3,h4⟩:=hye
 injection h3 with _ h3
 have:y=p:=Prod.ext h3 h4
 exact this▸hy
end
def zk5(w:World)(r:Nat):Nat:=
 match w.heap[r]? with
 | some (.mapIter (some b) _ seen _)=>(match w.heap[b]? with|some (.map es _)=>(es.toList.filter (zW seen)).length|_=>0)
 | _=>0
theorem zK.leftN_eq{w:World}{r b:Nat}{kv left:List (Int×Value)}{cur:Option (Int×Value)}(h:zK w r b kv left cur):zk5 w r=left.length:=by
 obtain⟨es,clk,since,seen,last,hrb,hb,hkv,hnd,hbn,hbl,h1,h2,hr,hl,hc⟩:=h
 unfold zk5
 rw[hr]
 simp only[hb]
 exact hl.len
section
variable {P : Program} {w w' : World} {ops : Array Oper} {rest : List Oper} {o : Oper} {a : Act} {Q : Exit → Act → World → Prop} {F : Fence} {nF : Nat} {v : Value}
theorem Zc(hg:o.guard=none)(hr:(execOp a.eval o).run P w=.ok (.value v) w')(hn:wpList P ops Q rest (a.put o.dst v) w'):wpList P ops Q (o::rest) a w:=by
 refine wpList_plain hg λK' hK'=>?_
 unfold Oper.wp
 rw[hr]
 exact hK' _ _ hn
theorem ZU(hg:o.guard=none)(ha:o.about P w a.eval=none)(hop:∀c,o.op≠.defer c)(hr:(execOp a.eval o).run P w=.ok (.value v) w')(hn:wpListIn F nF P ops Q rest (a.put o.dst v) w'):wpListIn F nF P ops Q (o::rest) a w:=by
 refine wpListIn_plain hg λK' hK'=>?_
 unfold Oper.wpIn
 refine⟨λf hf=>(by rw[ha] at hf;cases hf),?_⟩
 rw[Oper.semAt_plain F _ _ hop,hr]
 exact hK' _ _ hn
theorem zj9(x:Operand)(t:TypeId)(hop:o.op=Op.range t x){y:Value}{W:World}(h:(Instr.range t (a.eval x)).run P w=.ok y W):(execOp a.eval o).run P w=.ok (.value y) W:=by
 simp[execOp,hop,h,Result.andThen]
theorem jh3(x:Operand)(s:Bool)(hop:o.op=Op.next x s){y:Value}{W:World}(h:(Instr.next (a.eval x) s o.type).run P w=.ok y W):(execOp a.eval o).run P w=.ok (.value y) W:=by
 simp[execOp,hop,h,Result.andThen]
theorem zj8(x:Operand)(hop:o.op=Op.entry x){y:Value}{W:World}(h:(Instr.entry (a.eval x)).run P w=.ok y W):(execOp a.eval o).run P w=.ok (.value y) W:=by
 simp[execOp,hop,h,Result.andThen]
theorem qG (hg:o.guard=none) (x:Operand) (t:TypeId) (hop:o.op=Op.range t x) {K E:TypeId} (hT:P.underlying t=some (.map K E)) (b:Nat) (kv:List (Int×Value)) (hx:a.eval x=.map (some b)) (h:jt w b kv)
  (hn:∀w',zK w' w.heap.size b kv kv none->w.grownBy w' none->w'.heap.size=w.heap.size+1->wpList P ops Q rest (a.put o.dst (.pointer (some ⟨w.heap.size,0,none⟩))) w'):wpList P ops Q (o::rest) a w:=by
 obtain⟨w',hr,h1,h2,h3⟩:=jv2 h hT
 exact Zc hg (zj9 x t hop (by rw[hx];exact hr)) (hn w' h1 h2 h3)
theorem Qx (hg:o.guard=none) (x:Operand) (t:TypeId) (hop:o.op=Op.range t x) {K E:TypeId} (hT:P.underlying t=some (.map K E)) (b:Nat) (kv:List (Int×Value)) (hx:a.eval x=.map (some b)) (h:jt w b kv)
  (hn:∀w',zK w' w.heap.size b kv kv none->w.grownBy w' none->w'.heap.size=w.heap.size+1->wpListIn F nF P ops Q rest (a.put o.dst (.pointer (some ⟨w.heap.size,0,none⟩))) w'):wpListIn F nF P ops Q (o::rest) a w:=by
 obtain⟨w',hr,h1,h2,h3⟩:=jv2 h hT
 exact ZU hg (by simp[Oper.about,hop]) (by rw[hop];intro c hc;cases hc) (zj9 x t hop (by rw[hx];exact hr)) (hn w' h1 h2 h3)
theorem qm (hg:o.guard=none) (x:Operand) (hop:o.op=Op.next x false) (r b:Nat) {kv:List (Int×Value)} {cur:Option (Int×Value)} (hx:a.eval x=.pointer (some ⟨r,0,none⟩)) (h:zK w r b kv [] cur)
  (hn:wpList P ops Q rest (a.put o.dst (.tuple #[.bool false])) w):wpList P ops Q (o::rest) a w:=
 Zc hg (jh3 x false hop (by rw[hx];exact jm0 h _)) hn
theorem Qh (hg:o.guard=none) (x:Operand) (hop:o.op=Op.next x false) (r b:Nat) {kv:List (Int×Value)} {cur:Option (Int×Value)} (hx:a.eval x=.pointer (some ⟨r,0,none⟩)) (h:zK w r b kv [] cur)
  (hn:wpListIn F nF P ops Q rest (a.put o.dst (.tuple #[.bool false])) w):wpListIn F nF P ops Q (o::rest) a w:=
 ZU hg (by simp[Oper.about,hop]) (by rw[hop];intro c hc;cases hc) (jh3 x false hop (by rw[hx];exact jm0 h _)) hn
theorem qn (hg:o.guard=none) (x:Operand) (hop:o.op=Op.next x false) (r b:Nat) {kv left:List (Int×Value)} {cur:Option (Int×Value)} (hx:a.eval x=.pointer (some ⟨r,0,none⟩)) (h:zK w r b kv left cur) (hl:left≠[])
  (hn:∀j p w',left[j]?=some p->zK w' r b kv (left.eraseIdx j) (some p)->w.grownBy w' (some r)->w'.heap.size=w.heap.size->wpList P ops Q rest (a.put o.dst (.tuple #[.bool true,.int .i64 p.1,p.2])) w'):wpList P ops Q (o::rest) a w:=by
 obtain⟨j,p,w',h1,h2,h3,h4,h5⟩:=jm1 h hl o.type
 exact Zc hg (jh3 x false hop (by rw[hx];exact h2)) (hn j p w' h1 h3 h4 h5)
theorem Qi (hg:o.guard=none) (x:Operand) (hop:o.op=Op.next x false) (r b:Nat) {kv left:List (Int×Value)} {cur:Option (Int×Value)} (hx:a.eval x=.pointer (some ⟨r,0,none⟩)) (h:zK w r b kv left cur) (hl:left≠[])
  (hn:∀j p w',left[j]?=some p->zK w' r b kv (left.eraseIdx j) (some p)->w.grownBy w' (some r)->w'.heap.size=w.heap.size->wpListIn F nF P ops Q rest (a.put o.dst (.tuple #[.bool true,.int .i64 p.1,p.2])) w'):wpListIn F nF P ops Q (o::rest) a w:=by
 obtain⟨j,p,w',h1,h2,h3,h4,h5⟩:=jm1 h hl o.type
 exact ZU hg (by simp[Oper.about,hop]) (by rw[hop];intro c hc;cases hc) (jh3 x false hop (by rw[hx];exact h2)) (hn j p w' h1 h3 h4 h5)
theorem qF (hg:o.guard=none) (x:Operand) (hop:o.op=Op.entry x) (r b:Nat) {kv left:List (Int×Value)} {p:Int×Value} (hx:a.eval x=.pointer (some ⟨r,0,none⟩)) (h:zK w r b kv left (some p))
  (hn:wpList P ops Q rest (a.put o.dst (.tuple #[.int .i64 p.1,p.2])) w):wpList P ops Q (o::rest) a w:=
 Zc hg (zj8 x hop (by rw[hx];exact jv1 h)) hn
theorem Qw (hg:o.guard=none) (x:Operand) (hop:o.op=Op.entry x) (r b:Nat) {kv left:List (Int×Value)} {p:Int×Value} (hx:a.eval x=.pointer (some ⟨r,0,none⟩)) (h:zK w r b kv left (some p))
  (hn:wpListIn F nF P ops Q rest (a.put o.dst (.tuple #[.int .i64 p.1,p.2])) w):wpListIn F nF P ops Q (o::rest) a w:=
 ZU hg (by simp[Oper.about,hop]) (by rw[hop];intro c hc;cases hc) (zj8 x hop (by rw[hx];exact jv1 h)) hn
theorem jv7 (hg:o.guard=none) (m x:Operand) (t t2:TypeId) (hop:o.op=.call { callee:=.builtin .delete,args:=#[m,x],argTypes:=#[t,t2] }) {K E:TypeId} {q:IntKind} (hT:P.underlying t=some (.map K E)) (hK:P.underlying K=some (.int q))
  (r b:Nat) {kv left:List (Int×Value)} {p:Int×Value} (hm:a.eval m=.map (some b)) (hx:a.eval x=.int .i64 p.1) (h:zK w r b kv left (some p))
  (hn:∀w',zK w' r b (zj0 kv p.1) left none->w.grownBy w' (some b)->w'.heap.size=w.heap.size->wpList P ops Q rest (a.put o.dst (.tuple #[])) w'):wpList P ops Q (o::rest) a w:=by
 obtain⟨w',h1,h2,h3,h4⟩:=zn5 h hT hK t2 o.type
 refine Zc hg ?_ (hn w' h2 h3 h4)
 simp only[execOp,hop,resolve,invoke,builtin,Sem.run_bind,Sem.run_pure,Result.andThen_ok,List.map_toArray,List.map_cons,List.map_nil,hm,hx,h1]
end
