import Derived.Test.YtphcodcdfeohhaaGreatDoorVarNToCordB
set_option linter.all false
namespace Go.Proofs.YtphcodcdfeohhaaGreatDoor
set_option maxRecDepth 100000
set_option maxHeartbeats 4000000
open Go.RowKit
open Go.RowKit Go.Sort
theorem Qr{K:TypeId}(hK:Tryz.prog.underlying K=some .bool)(e:Bool)(n:Nat)(b:Bool)(w:World):(Instr.checkKey e (n+1) K (.bool b)).run Tryz.prog w=.ok () w:=by
 simp[Instr.checkKey,run_underlying hK]
theorem jb9 {T K E:TypeId} {w:World} {m clk:Nat} {es:Array MapEntry} {b:Bool} {v:Value} (hT:Tryz.prog.underlying T=some (.map K E)) (hK:Tryz.prog.underlying K=some .bool) (hm:w.heap[m]?=some (.map es clk))
  (hf:Instr.findNow .bool (.bool b) es.toList 0=some none) :
  (Instr.mapUpdate T (.map (some m)) (.bool b) v).run Tryz.prog w=.ok () (w.putObj m (.map (es.push { key:=.bool b,val:=v,born:=clk }) (clk+1))):=by
 have hget:(getObj m).run Tryz.prog w=.ok (.map es clk) w:=by simp[getObj,Sem.run,hm]
 have hck:(Instr.checkKey false 10000 K (.bool b)).run Tryz.prog w=.ok () w:=Qr hK false 9999 b w
 have hfind:(Instr.findKey K (.bool b) es.toList).run Tryz.prog w=.ok none w:=by simp[Instr.findKey,run_underlying hK,hf]
 have hset:∀es' c,(setObj m (.map es' c)).run Tryz.prog w=.ok () (w.putObj m (.map es' c)):=by
  intro es' c;simp[setObj,Sem.run,hm,World.putObj]
 simp only[Instr.mapUpdate]
 simp[run_underlying hT,hget,hck,hfind,hset]
theorem jc1 {T K E:TypeId} {w:World} {m clk:Nat} {es:Array MapEntry} {b:Bool} {i:Nat} {v:Value} (hT:Tryz.prog.underlying T=some (.map K E)) (hK:Tryz.prog.underlying K=some .bool) (hm:w.heap[m]?=some (.map es clk))
  (hf:Instr.findNow .bool (.bool b) es.toList 0=some (some (i,v))) :
  (Instr.lookup T (.map (some m)) (.bool b) false).run Tryz.prog w=.ok v w:=by
 have hget:(getObj m).run Tryz.prog w=.ok (.map es clk) w:=by simp[getObj,Sem.run,hm]
 have hck:∀e,(Instr.checkKey e 10000 K (.bool b)).run Tryz.prog w=.ok () w:=λe=>Qr hK e 9999 b w
 have hfind:(Instr.findKey K (.bool b) es.toList).run Tryz.prog w=.ok (some (i,v)) w:=by simp[Instr.findKey,run_underlying hK,hf]
 simp only[Instr.lookup]
 simp[run_underlying hT,hget,hck,hfind]
def ZM(w:World)(s t:ByteArray):World:=((w.alloc (.map #[] 0)).putObj w.heap.size (.map #[{ key:=.bool false,val:=.string s,born:=0 }] 1)).putObj w.heap.size (.map #[{ key:=.bool false,val:=.string s,born:=0 },{ key:=.bool true,val:=.string t,born:=1 }] 2)
theorem jcr0(w:World)(s:ByteArray):(Instr.mapUpdate 170 (.map (some w.heap.size)) (.bool false) (.string s)).run Tryz.prog (w.alloc (.map #[] 0))=.ok () ((w.alloc (.map #[] 0)).putObj w.heap.size (.map #[{ key:=.bool false,val:=.string s,born:=0 }] 1)):=
 jb9 Tryz.underlying170 Tryz.underlying4 (World.alloc_heap_new w _) rfl
theorem jcr1(w:World)(s t:ByteArray):(Instr.mapUpdate 170 (.map (some w.heap.size)) (.bool true) (.string t)).run Tryz.prog ((w.alloc (.map #[] 0)).putObj w.heap.size (.map #[{ key:=.bool false,val:=.string s,born:=0 }] 1))=.ok () (ZM w s t):=
 jb9 Tryz.underlying170 Tryz.underlying4 (World.putObj_heap_same (by simp)) rfl
theorem jca6(w:World)(s t:ByteArray)(b:Bool):(Instr.lookup 170 (.map (some w.heap.size)) (.bool b) false).run Tryz.prog (ZM w s t)=.ok (.string (if b then t else s)) (ZM w s t):=by
 cases b
 ·exact jc1 Tryz.underlying170 Tryz.underlying4 (World.putObj_heap_same (by simp)) rfl
 ·exact jc1 Tryz.underlying170 Tryz.underlying4 (World.putObj_heap_same (by simp)) rfl
theorem jad7(w:World)(s t:ByteArray):Below w.heap.size w (ZM w s t):=by
 refine⟨rfl,rfl,rfl,by simp[ZM],λk hk=>?_⟩
 unfold ZM
 rw[World.putObj_heap_other (by omega),World.putObj_heap_other (by omega)]
 exact Below.heap_alloc w _ k hk
theorem jan5(w:World)(s t:ByteArray):(ZM w s t).heap.size=w.heap.size+1:=by simp[ZM]
def qh:List UInt8->List Int->List UInt8
 | _,[]=>[]
 | lead,m::ms=>lead++Lib.itoa m++qh [42] ms
def jca5(minus:Bool):List UInt8:=if minus then [45,49,47] else [43,49,47]
def qH(wh:Int)(l:List (Bool×List Int)):List UInt8:=Lib.itoa wh++l.flatMap λp=>qh (jca5 p.1) p.2
theorem zc9:∀(ms:List Int) (lead:List UInt8) (m:Int),qh lead (ms++[m])=qh lead ms++((if ms=[] then lead else [42])++Lib.itoa m)
 | [],lead,m=>by simp[qh]
 | x::ms,lead,m=>by
  have h:=zc9 ms [42] m
  simp only[List.cons_append,qh,h,List.append_assoc]
  by_cases h0:ms=[]<;>simp[h0]
theorem jat4 (wh : Int) (A : Option Addr) (n c B : Nat) (l : List PieceV) (w : World) (hp : jD w B A n c l) (hB : B ≤ w.heap.size) (hwh : 0 ≤ wh ∧ wh ≤ 1000) (hl8 : l.length ≤ 100) (hms : ∀ p ∈ l, p.ms.length ≤ 100 ∧ ∀ m ∈ p.ms, 0 ≤ m ∧ m ≤ 1000) (htab : Lib.TabIs Tryz.prog w "internal/strconv.uint64pow10" .u64 Lib.pow10Tab) :
  Calls Tryz.prog 72 #[.agg #[.int .i64 wh,.slice A n c]] w λe w'=>e=.returned (.string ⟨(qH wh (l.map PieceV.flat)).toArray⟩)/\Below w.heap.size w w':=by
 have hl:=hp.len
 subst hl
 have hit:∀m:Int,0<=m/\m<=1000->(Lib.itoa m).length<=4:=λm hm=>by
  obtain⟨u,rfl⟩:=Int.eq_ofNat_of_zero_le hm.1
  rw[Lib.itoa_nonneg]
  exact jbg8 3 u (by omega)
 obtain⟨gv,hgv⟩:=Option.isSome_iff_exists.1 Tryz.pow10g
 have HT:=ja (λW (hb:Below w.heap.size w W)=>JV hgv htab hb)
 have HIT:=ja hit
 obtain⟨w0,hw0⟩:∃w0,w0=(w.alloc (.cells #[.int .i64 wh,.slice A l.length c] 43)).alloc (.cells #[.pointer none,.slice none 0 0] 168):=⟨_,rfl⟩
 have hz0:w0.heap.size=w.heap.size+2:=by rw[hw0];simp
 have h01:Below w.heap.size w w0:=by rw[hw0];exact((Below.refl _ _).alloc (Nat.le_refl _) _).alloc (by simp) _
 have HX0:Hid (jh w0 w.heap.size 43 #[.int .i64 wh,.slice A l.length c]):=ja (by rw[hw0];exact(jh.new w _ _).alloc _)
 have HU0:Hid (Lib.IsBuilder 168 5 (w.heap.size+1) (w.heap.size+1) [] w0):=ja (by
  rw[hw0]
  have h:=zs6 (w.alloc (.cells #[.int .i64 wh,.slice A l.length c] 43))
  rwa [World.size_alloc] at h)
 have HP0:=ja (hp.below (h01.mono hB))
 have HI0:=ja (jam6 wh w0 (by omega) (HT.o w0 h01))
 have HB0:=ja h01
 have hwl:=hit wh hwh
 have HMS:=ja hms
 clear hp hit h01 htab hms
 go_enter Tryz.func72,Tryz.ntmps72
 go_wp2_with fail
 rw[<-hw0]
 clear hw0
 refine HI0.o.mono ?_
 rintro e w1 ⟨rfl,hb1⟩
 have hz1:=hb1.size
 have HX1:=ja (HX0.o.below hb1 (by omega))
 have HU1:=ja (qA HU0.o hb1)
 have HP1:=ja (HP0.o.below (hb1.mono (by omega)))
 have HB1:=ja (HB0.o.trans (hb1.mono (by omega)))
 have HW1:=ja (jc4 _ _ _ ⟨(Lib.itoa wh).toArray⟩ w1 HU1.o (by simp[ByteArray.size];omega) (by omega))
 rw[jm5] at HW1
 clear HX0 HU0 HP0 HB0 HI0 hb1
 go_wp2_with fail
 refine HW1.o.mono ?_
 rintro e w2 ⟨rfl,hu2,hb2⟩
 have hz2:=hb2.size
 have HX2:=ja (HX1.o.below hb2 (by omega))
 have HU2:Hid (Lib.IsBuilder 168 5 (w.heap.size+1) (w.heap.size+1) (Lib.byteCells (Lib.itoa wh)) w2):=ja (by simpa using hu2)
 have HP2:=ja (HP1.o.below (hb2.mono (by omega)))
 have HB2:=ja (HB1.o.trans (hb2.mono (by omega)))
 obtain⟨x0,x1,_,_⟩:=HX2.o.two
 clear HX1 HU1 HP1 HB1 HW1 hu2 hb2
 go_wp2
 go_loopw [16] (λi W=>∃k:Nat,k<=l.length/\i=.int .i64 k/\(qH wh ((l.take k).map PieceV.flat)).length<=4+1000*k/\Lib.IsBuilder 168 5 (w.heap.size+1) (w.heap.size+1) (Lib.byteCells (qH wh ((l.take k).map PieceV.flat))) W /\
  jD W B A l.length c l/\Below w.heap.size w W/\w.heap.size+2<=W.heap.size) (λi _=>l.length-(intOf i).toNat)
 case atStart=>exact⟨0,by omega,rfl,by simp[qH];omega,by simpa [qH] using HU2.o,HP2.o,HB2.o,by omega⟩
 case round=>
  obtain⟨k,hk,rfl,htl,hu,hpp,hb,hzw⟩:=hrel
  have HU:=ja hu;have HP:=ja hpp;have HB:=ja hb
  clear hu hpp hb HX2 HU2 HP2 HB2
  by_cases hlt:k<l.length
  ·obtain⟨ad,had,hc0,hc1⟩:=HP.o.at_ hlt
   subst had
   have hpm:=HMS.o l[k] (List.getElem_mem hlt)
   have hpi:=HP.o.2 l[k] (List.getElem_mem hlt)
   have htx:=ja (show qH wh ((l.take (k+1)).map PieceV.flat)=qH wh ((l.take k).map PieceV.flat)++qh (jca5 l[k].minus) l[k].ms by
    rw[jw l k hlt,List.map_append]
    unfold qH
    rw[List.flatMap_append,List.append_assoc]
    simp only[List.map_cons,List.map_nil,List.flatMap_cons,List.flatMap_nil,List.append_nil,PieceV.flat])
   generalize l[k]=p at *
   obtain⟨mi,A2,n2,c2,ms⟩:=p
   dsimp only at hc0 hc1 hpm htx
   have hml:ms.length=n2:=qP.len hpi
   subst hml
   generalize qH wh ((l.take k).map PieceV.flat)=tx at *
   obtain⟨wa,hwa⟩:∃wa,wa=wr.alloc (.cells #[.bool mi,.slice A2 ms.length c2] 94):=⟨_,rfl⟩
   have hza:wa.heap.size=wr.heap.size+1:=by rw[hwa];simp
   have hab:Below wr.heap.size wr wa:=by rw[hwa];exact(Below.refl _ _).alloc (Nat.le_refl _) _
   have HQ:Hid (jh wa wr.heap.size 94 #[.bool mi,.slice A2 ms.length c2]):=ja (by rw[hwa];exact jh.new _ _ _)
   have HL1:=jcr0 wa ⟨#[43,49,47]⟩
   have HL2:=jcr1 wa ⟨#[43,49,47]⟩ ⟨#[45,49,47]⟩
   obtain⟨ld,hld⟩:∃ld,ld=jca5 mi:=⟨_,rfl⟩
   have hll:ld.length=3:=by rw[hld];cases mi<;>rfl
   have HL3:(Instr.lookup 170 (.map (some wa.heap.size)) (.bool mi) false).run Tryz.prog (ZM wa ⟨#[43,49,47]⟩ ⟨#[45,49,47]⟩)=.ok (.string ⟨ld.toArray⟩) (ZM wa ⟨#[43,49,47]⟩ ⟨#[45,49,47]⟩):=by
    rw[hld]
    cases mi
    ·exact jca6 wa ⟨#[43,49,47]⟩ ⟨#[45,49,47]⟩ false
    ·exact jca6 wa ⟨#[43,49,47]⟩ ⟨#[45,49,47]⟩ true
   rw[<-hld] at htx
   clear hld
   have hbl:=jad7 wa ⟨#[43,49,47]⟩ ⟨#[45,49,47]⟩
   have hzl:=jan5 wa ⟨#[43,49,47]⟩ ⟨#[45,49,47]⟩
   have hbr:Below wr.heap.size wr (ZM wa ⟨#[43,49,47]⟩ ⟨#[45,49,47]⟩):=hab.trans (hbl.mono (by omega))
   have HQL:=ja (HQ.o.below hbl (by omega))
   have HUL:=ja (qA HU.o hbr)
   have HPL:=ja (HP.o.below (hbr.mono (by omega)))
   have HBL:=ja (HB.o.trans (hbr.mono (by omega)))
   have HIL:Hid (qP (ZM wa ⟨#[43,49,47]⟩ ⟨#[45,49,47]⟩) B A2 ms.length c2 ms):=ja (Rd.below hpi (hbr.mono (by omega)))
   have HZL:=ja (show w.heap.size+2<=(ZM wa ⟨#[43,49,47]⟩ ⟨#[45,49,47]⟩).heap.size by omega)
   obtain⟨ql0,ql1,_,_⟩:=HQL.o.two
   rw[hza] at HL1 HL2 HL3
   rw[hwa] at HL1 HL2 HL3 ql0 ql1
   rw[hwa] at HUL HPL HBL HIL HZL
   clear hza hab hwa hbl hzl hbr HQ HQL
   go_wp2_with (first
    | (refine zi _ rfl _ rfl ?_))
   generalize ZM (wr.alloc (.cells #[.bool mi,.slice A2 ms.length c2] 94)) ⟨#[43,49,47]⟩ ⟨#[45,49,47]⟩=wl at *
   clear HL1 HL2 HL3 ql0 ql1 HU HP HB hpi
   go_loopw [6,28] (λv i W=>∃j:Nat,j<=ms.length/\i=.int .i64 j/\v=.string ⟨(if j=0 then ld else [42]).toArray⟩/\(qh ld (ms.take j)).length<=7*j/\Lib.IsBuilder 168 5 (w.heap.size+1) (w.heap.size+1) (Lib.byteCells (tx++qh ld (ms.take j))) W /\
    jD W B (some ad) l.length c l/\qP W B A2 ms.length c2 ms/\Below w.heap.size w W/\w.heap.size+2<=W.heap.size) (λ_ i _=>ms.length-(intOf i).toNat)
   case atStart=>exact⟨0,by omega,rfl,rfl,by simp[qh],by simpa [qh] using HUL.o,HPL.o,HIL.o,HBL.o,HZL.o⟩
   case round=>
    obtain⟨j,hj,rfl,rfl,hpl,hu,hpp,hii,hb,hzw2⟩:=hrel
    have HU:=ja hu;have HP:=ja hpp;have HI:=ja hii;have HB:=ja hb
    clear hu hpp hii hb HUL HPL HIL HBL HZL
    by_cases hlt2:j<ms.length
    ·obtain⟨ad2,had2,hd0⟩:=HI.o.at_ hlt2
     subst had2
     have hmm:=hpm.2 ms[j] (List.getElem_mem hlt2)
     have hmi:=HIT.o ms[j] hmm
     have hps:=ja (show qh ld (ms.take (j+1))=qh ld (ms.take j)++((if j=0 then ld else [42])++Lib.itoa ms[j]) by
      rw[jw ms j hlt2,zc9]
      have:(ms.take j=[])=(j=0):=by
       apply propext
       constructor
       ·intro h;have:=congrArg List.length h;simp at this;rcases this with h|h;exact h;subst h;simp at hlt2
       ·rintro rfl;rfl
      simp only[this])
     have hld2:(if j=0 then ld else [42]).length<=3/\(j≠0->(if j=0 then ld else [42]).length=1):=by
      split
      ·exact⟨by omega,λh=>absurd (by assumption) h⟩
      ·exact⟨by simp,λ_=>rfl⟩
     have HI2:=ja (jam6 ms[j] wr (by omega) (HT.o wr HB.o))
     generalize ms[j]=m at *
     generalize (if j=0 then ld else [42])=lj at *
     have hsa:=zn9 lj (Lib.itoa m)
     go_wp2_with (first
      | (go_at_call 125;refine HI2.o.mono ?_;rintro e w5 ⟨rfl,hb5⟩
         have HU5:=ja (qA HU.o hb5)
         have HP5:=ja (HP.o.below (hb5.mono (by omega)));have HI5:=ja (Rd.below HI.o (hb5.mono (by omega)));have HB5:=ja (HB.o.trans (hb5.mono (by omega)))
         have hz5:=hb5.size
         have HW5:=ja (jc4 _ _ _ ⟨(lj++Lib.itoa m).toArray⟩ w5 HU5.o (by rw[zs0];simp[ByteArray.size];omega) (by omega))
         rw[jm5,<-jy1] at HW5
         clear hb5)
      | (go_at_call 124;refine HW5.o.mono ?_;rintro e w6 ⟨rfl,hu6,hb6⟩
         have HU6:=ja hu6
         have HP6:=ja (HP5.o.below (hb6.mono (by omega)));have HI6:=ja (Rd.below HI5.o (hb6.mono (by omega)));have HB6:=ja (HB5.o.trans (hb6.mono (by omega)))
         have hz6:=hb6.size
         clear hu6 hb6))
     refine⟨⟨j+1,by omega,by go_num,by simp,?_,?_,HP6.o,HI6.o,HB6.o,by omega⟩,by simp[intOf];omega⟩
     ·rw[hps.o];simp only[List.length_append];omega
     ·rw[hps.o,<-List.append_assoc];exact HU6.o
    ·obtain rfl:j=ms.length:=by omega
     rw[List.take_length] at hpl HU
     go_wp2
     refine⟨⟨k+1,by omega,by go_num,?_,?_,HP.o,HB.o,hzw2⟩,by simp[intOf];omega⟩
     ·rw[htx.o,List.length_append];omega
     ·rw[htx.o];exact HU.o
  ·obtain rfl:k=l.length:=by omega
   rw[List.take_length] at HU
   have HS:=ja (Tryz.Builder_String_any (w.heap.size+1) (w.heap.size+1) (qH wh (l.map PieceV.flat)) wr HU.o (by omega))
   go_wp2_with (first
    | (go_at_call 126;refine HS.o.mono ?_;rintro e w5 ⟨rfl,hb5⟩;have HB5:=ja hb5;clear hb5))
   go_ret
   exact⟨rfl,HB.o.trans (HB5.o.mono (by omega))⟩
theorem qx{wh:Int}{l:List (Bool×List Int)}(h:ZO wh l=true):(0<=wh/\wh<=1000)/\l.length<=8/\∀p∈l,1<=p.2.length/\p.2.length<=6/\∀m∈p.2,2<=m/\m<=1000:=by
 unfold ZO at h
 simp only[Bool.and_eq_true,decide_eq_true_eq,List.all_eq_true] at h
 obtain⟨⟨h1,h2⟩,h3⟩:=h
 refine⟨by simpa [zz] using h1,h2,λp hp=>?_⟩
 have h4:=h3 p hp
 unfold jj3 at h4
 simp only[Bool.and_eq_true,List.all_eq_true] at h4
 have h5:1<=(p.2.length:Int)/\(p.2.length:Int)<=6:=by simpa [zz] using h4.1
 exact⟨by omega,by omega,λm hm=>by simpa [qC,zz] using h4.2 m hm⟩
theorem jaz5 (wh : Int) (A : Option Addr) (n c B : Nat) (l : List PieceV) (w : World) (hp : jD w B A n c l) (hB : B ≤ w.heap.size) (htab : Lib.TabIs Tryz.prog w "internal/strconv.uint64pow10" .u64 Lib.pow10Tab) :
  Calls Tryz.prog 32 #[.agg #[.int .i64 wh,.slice A n c]] w λe w'=>e=.returned (.tuple #[.string ⟨(if ZO wh (l.map PieceV.flat)then qH wh (l.map PieceV.flat)else []).toArray⟩,.int .i64 (QK (ZO wh (l.map PieceV.flat)))])/\Below w.heap.size w w':=by
 obtain⟨gv,hgv⟩:=Option.isSome_iff_exists.1 Tryz.pow10g
 have hpa:=hp.alloc hB (.cells #[.int .i64 wh,.slice A n c] 43)
 have HX0:=ja (jh.new w 43 #[.int .i64 wh,.slice A n c])
 have HBa:=ja ((Below.refl w.heap.size w).alloc (Nat.le_refl _) (.cells #[.int .i64 wh,.slice A n c] 43))
 have HCK:=ja (Zi wh A n c B l (w.alloc (.cells #[.int .i64 wh,.slice A n c] 43)) hpa (by simp;omega))
 have HPA:=ja hpa
 have hT:=ja (λW (hb:Below w.heap.size w W)=>JV hgv htab hb)
 clear hp htab hpa
 cases hok:ZO wh (l.map PieceV.flat)
 ·rw[hok] at HCK
  clear HPA hT hok
  go_enter Tryz.func32,Tryz.ntmps32
  go_wp2_with fail
  refine HCK.o.mono ?_
  rintro e w1 ⟨rfl,hb1⟩
  have HB1:=ja (HBa.o.trans (hb1.mono (by simp)))
  simp only[QK]
  clear HCK hb1
  go_wp2
  go_ret2
  exact⟨rfl,HB1.o⟩
 ·rw[hok] at HCK
  obtain⟨g1,g2,g3⟩:=qx hok
  rw[List.length_map] at g2
  have hms:∀p∈l,p.ms.length<=100/\∀m∈p.ms,0<=m/\m<=1000:=λp hp=>by
   obtain⟨a1,a2,a3⟩:=g3 p.flat (List.mem_map_of_mem hp)
   have e:p.flat.2=p.ms:=rfl
   rw[e] at a1 a2 a3
   exact⟨by omega,λm hm=>by have:=a3 m hm;omega⟩
  have HTX:=ja (λW hP hW hT=>jat4 wh A n c B l W hP hW g1 (by omega) hms hT)
  clear hok g1 g2 g3 hms
  generalize qH wh (l.map PieceV.flat)=tx at *
  go_enter Tryz.func32,Tryz.ntmps32
  go_wp2_with fail
  refine HCK.o.mono ?_
  rintro e w1 ⟨rfl,hb1⟩
  (try simp only[World.size_alloc] at hb1)
  have hz1:=hb1.size
  (try simp only[World.size_alloc] at hz1)
  have HB1:=ja (HBa.o.trans (hb1.mono (by omega)))
  have HX1:=ja (HX0.o.below hb1 (by omega))
  have HT1:=ja (HTX.o w1 (HPA.o.below (hb1.mono (by omega))) (by omega) (hT.o w1 HB1.o))
  obtain⟨q1,q2,_,_⟩:=HX1.o.two
  simp only[QK]
  clear HCK hb1 HTX hT HPA
  go_wp2_with (first
   | (go_at_call 72;refine HT1.o.mono ?_;rintro e w2 ⟨rfl,hb2⟩;have HB2:=ja hb2;clear hb2))
  go_ret2
  exact⟨rfl,HB1.o.trans (HB2.o.mono (by omega))⟩
def zJ:Int->List Int->Int
 | n,[]=>n
 | n,m::ms=>if 100000<n*m then 0 else zJ (n*m) ms
theorem jn6(n m:Int)(ms:List Int):zJ n (m::ms)=if 100000<n*m then 0 else zJ (n*m) ms:=rfl
theorem qz (A:Option Addr) (n c B:Nat) (ms:List Int) (w:World) (hI:qP w B A n c ms) (hm:∀m∈ms,0<=m/\m<=1000) :
  Calls Tryz.prog 76 #[.slice A n c] w λe w'=>e=.returned (.int .i64 (zJ 1 ms))/\w'=w:=by
 have hl:=hI.len
 subst hl
 have hcm:=Rd.nmax hI
 go_enter Tryz.func76,Tryz.ntmps76
 go_wp2
 go_loopw [3,8] (λa i W=>∃(k:Nat) (x:Int),k<=ms.length/\i=.int .i64 k/\a=.int .i64 x/\(0<=x/\x<=100000)/\zJ 1 ms=zJ x (ms.drop k)/\W=w) (λ_ i _=>ms.length-(intOf i).toNat)
 case atStart=>exact⟨0,1,by omega,rfl,rfl,by omega,rfl,rfl⟩
 case round=>
  obtain⟨k,x,hk,rfl,rfl,hx,hpr,rfl⟩:=hrel
  by_cases hlt:k<ms.length
  ·obtain⟨ad,had,hc0⟩:=hI.at_ hlt
   subst had
   have hmk:=hm ms[k] (List.getElem_mem hlt)
   rw[List.drop_eq_getElem_cons hlt] at hpr
   generalize ms[k]=m at *
   have hb:=jE (a:=x) (b:=m) (A:=100000) (B:=1000) (by omega) (by omega)
   have hb0:0<=x*m:=Int.mul_nonneg hx.1 hmk.1
   have HPR:=ja hpr
   clear hpr
   by_cases hgt:100000<x*m
   ·have hv:=HPR.o
    rw[jn6,if_pos hgt] at hv
    have HV:=ja hv
    clear hv HPR
    go_wp2
    go_ret
    exact⟨by rw[HV.o];rfl,rfl⟩
   ·have hv:=HPR.o
    rw[jn6,if_neg hgt] at hv
    have HV:=ja hv
    have hle:x*m<=100000:=by omega
    clear hv HPR
    go_wp2
    exact⟨⟨k+1,x*m,by omega,by go_num,rfl,⟨hb0,hle⟩,HV.o,trivial⟩,by simp[intOf];omega⟩
  ·obtain rfl:k=ms.length:=by omega
   rw[List.drop_length] at hpr
   have HV:Hid (zJ 1 ms=x):=ja hpr
   clear hpr
   go_wp2
   go_ret
   exact⟨by rw[HV.o];rfl,rfl⟩
theorem ZJ(num den:Int)(w:World):Calls Tryz.prog 55 #[.int .i64 num,.int .i64 den] w (QY w (den,[(num,1)])):=by
 have HO1:=ja (λx:Array Value=>(show((w.alloc (.cells x 24)).alloc (.cells #[.int .i64 num,.int .i64 1] 59)).ownsRow (w.heap.size+1) 59 2 (.slice (some ⟨w.heap.size+1,0,none⟩) 1 1) 1 (jr [(num,1)]) by
  have h:=World.ownsRow_lit (base:=w.heap.size+1) (e:=59) (size:=2) (w.alloc (.cells x 24)) #[.int .i64 num,.int .i64 1] 1 (by simp) (by unfold maxLen;omega) rfl
  rw[World.size_alloc] at h
  exact h))
 go_enter Tryz.func55,Tryz.ntmps55
 go_wp2
 refine Ji (p:=4) (ty:=24) rfl rfl ((jh.new w _ _).alloc _) (d:=_) rfl Tryz.underlying24 Tryz.sizeNumber rfl ?_
 exact⟨_,_,_,rfl,jO (HO1.o _) (by omega),((Below.refl w.heap.size w).alloc (Nat.le_refl _) _).alloc (by simp) _⟩
theorem jk3(n:Int)(w:World):Calls Tryz.prog 50 #[.int .i64 n] w (QY w (jI n)):=by
 have HR0:=ja (jh.new w 24 #[.int .i64 0,.slice none 0 0])
 have HB0:=ja ((Below.refl w.heap.size w).alloc (Nat.le_refl _) (.cells #[.int .i64 0,.slice none 0 0] 24))
 obtain⟨q1,q2,q3,q4⟩:=HR0.o.two
 by_cases h0:n=0
 ·subst h0
  have HW:Hid (jI 0=(1,[])):=ja rfl
  go_enter Tryz.func50,Tryz.ntmps50
  go_wp2
  refine Ji (p:=2) (ty:=24) rfl rfl (jh.new w _ _) (d:=_) rfl Tryz.underlying24 Tryz.sizeNumber rfl ?_
  rw[HW.o]
  exact⟨none,0,0,rfl,⟨rfl,.inl ⟨rfl,rfl⟩⟩,(Below.refl w.heap.size w).alloc (Nat.le_refl _) _⟩
 ·have HW:=ja (show jI n=(1,[(n,1)])from if_neg h0)
  have hne:(n==0)=false:=beq_eq_false_iff_ne.2 h0
  have HF:=ja (ZJ n 1 (w.alloc (.cells #[.int .i64 0,.slice none 0 0] 24)))
  go_enter Tryz.func50,Tryz.ntmps50
  go_wp2_with (first
   | (go_at_call 55;refine HF.o.mono ?_;rintro e w1 ⟨A,n1,c1,rfl,ho,hb⟩
      (try simp only[World.size_alloc] at hb ho)
      have HR1:=ja (HR0.o.below hb (by omega))
      have HB1:=ja (HB0.o.trans (hb.mono (by omega)))
      obtain⟨u1,u2,u3,u4⟩:=HR1.o.two
      have HO:=ja ho
      clear hb ho))
  refine Ji (p:=2) (ty:=24) rfl rfl ((HR1.o.set_ 0 _).set_ 1 _) (d:=_) rfl Tryz.underlying24 Tryz.sizeNumber rfl ?_
  rw[HW.o]
  exact⟨A,n1,c1,rfl,jO (ownsRow_setCell_below (ownsRow_setCell_below HO.o (by show w.heap.size<_;omega) _) (by show w.heap.size<_;omega) _) (by omega),(HB1.o.setCell (by show _<=w.heap.size;omega) _).setCell (by show _<=w.heap.size;omega) _⟩
theorem jbf3 (p:PieceV) (B:Nat) (w:World) (hp:p.At w B) (hB:B<=w.heap.size) (hm:∀m∈p.ms,0<=m/\m<=1000) :
  Calls Tryz.prog 75 #[.agg #[.bool p.minus,.slice p.A p.n p.c]] w λe w'=>e=.returned (.bool (zJ 1 p.ms==0))/\Below w.heap.size w w':=by
 obtain⟨mi,A,n,c,ms⟩:=p
 have HP:=ja (qz A n c B ms (w.alloc (.cells #[.bool mi,.slice A n c] 94)) (Rd.alloc hp hB _) hm)
 have HB0:=ja ((Below.refl w.heap.size w).alloc (Nat.le_refl _) (.cells #[.bool mi,.slice A n c] 94))
 clear hp hm
 dsimp only
 generalize zJ 1 ms=r at *
 go_enter Tryz.func75,Tryz.ntmps75
 go_wp2_with (first
  | (go_at_call 76;refine HP.o.mono ?_;rintro e w1 ⟨rfl,hw⟩;subst w1))
 all_goals go_ret
 all_goals exact⟨by simp[*],HB0.o⟩
theorem jz6 (xd:Int) (A:Option Addr) (n c B:Nat) (xt:List (Int×Int)) (w:World) (hx:ji w B A n c xt) (hB:B<=w.heap.size) :
  Calls Tryz.prog 53 #[.agg #[.int .i64 xd,.slice A n c]] w λe w'=>e=.returned (.tuple #[.int .i64 (jn xd xt).1,.int .i64 (jn xd xt).2.1,.bool (jn xd xt).2.2])/\Below w.heap.size w w':=by
 have hl:=hx.len
 have hcm:=hx.nmax
 have HXa:=ja (jh.new w 24 #[.int .i64 xd,.slice A n c])
 have HTa:Hid (ji (w.alloc (.cells #[.int .i64 xd,.slice A n c] 24)) B A n c xt):=ja (Rd.alloc hx hB _)
 have HBa:=ja ((Below.refl w.heap.size w).alloc (Nat.le_refl _) (.cells #[.int .i64 xd,.slice A n c] 24))
 clear hx
 rcases xt with _|⟨⟨co,ro⟩,_|⟨u,ts⟩⟩
 ·have HP:Hid (jn xd []=(0,1,true)):=ja rfl
  obtain rfl:n=0:=by simpa using hl.symm
  obtain⟨q1,q2,_,_⟩:=HXa.o.two
  clear hl HTa HXa
  go_enter Tryz.func53,Tryz.ntmps53
  go_wp2
  go_ret3
  rw[HP.o]
  exact⟨rfl,HBa.o⟩
 ·obtain⟨ad,had,hc0,hc1⟩:=HTa.o.at_ (i:=0) (by simp)
  obtain rfl:n=1:=by simpa using hl.symm
  subst had
  obtain⟨q1,q2,_,_⟩:=HXa.o.two
  simp only[Nat.zero_mul,List.getElem_cons_zero,zv6] at hc0 hc1
  by_cases hr:ro=1
  ·subst hr
   have HP:Hid (jn xd [(co,1)]=(co,xd,true)):=ja (by unfold jn;simp)
   have HBd:=ja (λq=>jp HBa.o q)
   clear hl HTa HXa
   go_enter Tryz.func53,Tryz.ntmps53
   go_wp2
   generalize w.alloc (.cells #[.int .i64 xd,.slice (some ad) 1 c] 24)=wa at *
   go_region_held3 (λw'=>w'.cell? ⟨w.heap.size,0,none⟩=some (.int .i64 xd)/\w'.cell? ⟨w.heap.size,1,none⟩=some (.slice (some ad) 1 c)/\w'.cell? ad=some (.int .i64 co)) (exact⟨q1,q2,hc0⟩) (fail)
   all_goals
    go_wp2
    go_ret3
    rw[HP.o]
    exact⟨rfl,HBd.o 1⟩
  ·have HP:Hid (jn xd [(co,ro)]=(0,0,false)):=ja (by unfold jn;exact if_neg hr)
   have hrn:(ro !=1)=true:=by simpa using hr
   clear hl HTa HXa
   go_enter Tryz.func53,Tryz.ntmps53
   go_wp2
   go_ret3
   rw[HP.o]
   exact⟨rfl,HBa.o⟩
 ·have HP:Hid (jn xd ((co,ro)::u::ts)=(0,0,false)):=ja rfl
  have hl2:(1:Int)<(n:Int):=by simp at hl;omega
  have hl0:((n:Int)==0)=false:=beq_eq_false_iff_ne.2 (by omega)
  obtain⟨q1,q2,_,_⟩:=HXa.o.two
  clear HTa hl HXa
  go_enter Tryz.func53,Tryz.ntmps53
  go_wp2
  go_ret3
  rw[HP.o]
  exact⟨rfl,HBa.o⟩
theorem jar6 (d:Int) (A:Option Addr) (n c B:Nat) (ts:List (Int×Int)) (w:World) (hq:jJ w B A n c ts) (hB:B<=w.heap.size) (hn:n<=1000) :
  Calls Tryz.prog 10 #[.agg #[.int .i64 d,.slice A n c]] w (QY w (d,ts)):=by
 obtain rfl:=hq.len
 obtain⟨i1,hi1,hy0,hy1,hy2⟩:=info_parts Tryz.infoTerm
 obtain⟨w0,hw0⟩:∃w0,w0=(w.alloc (.cells #[.int .i64 d,.slice A ts.length c] 24)).alloc (.cells #[.int .i64 0,.slice none 0 0] 24):=⟨_,rfl⟩
 have hz0:w0.heap.size=w.heap.size+2:=by rw[hw0];simp
 have HX0:Hid (jh w0 w.heap.size 24 #[.int .i64 d,.slice A ts.length c]):=ja (by rw[hw0];exact(jh.new w _ _).alloc _)
 have HR0:Hid (jh w0 (w.heap.size+1) 24 #[.int .i64 0,.slice none 0 0]):=ja (by
  rw[hw0]
  have h:=jh.new (w.alloc (.cells #[.int .i64 d,.slice A ts.length c] 24)) 24 #[.int .i64 0,.slice none 0 0]
  rwa [World.size_alloc] at h)
 have HB0:Hid (Below w.heap.size w w0):=ja (by rw[hw0];exact((Below.refl _ _).alloc (Nat.le_refl _) _).alloc (by simp) _)
 have HL0:Hid ((w0.alloc (.cells #[] 59)).ownsRow (w.heap.size+2) 59 2 (.slice (some ⟨w.heap.size+2,0,none⟩) 0 0) 0 []):=ja (by
  have h:=World.ownsRow_lit (base:=w.heap.size+2) (e:=59) (size:=2) w0 #[] 0 (by omega) (by unfold maxLen;omega) rfl
  rwa [hz0] at h)
 have HX1:=ja (HX0.o.alloc (.cells #[] 59));have HR1:=ja (HR0.o.alloc (.cells #[] 59));have HB1:=ja (HB0.o.alloc (by omega) (.cells #[] 59))
 have HQ1:=ja (Rq.alloc (Rq.below hq (HB0.o.mono hB)) (show B<=w0.heap.size by omega) (.cells #[] 59))
 clear hq
 go_enter Tryz.func10,Tryz.ntmps10
 go_upto_region 1 with fail
 rw[<-hw0]
 clear hw0
 obtain⟨x0,x1,xf0,xf1⟩:=HX1.o.two
 go_wp2_with (first
  | (at_builtin;refine Zt rfl _ _ 22 rfl (w.heap.size+2) 59 i1 (.agg #[.int .i64 0,.int .i64 0]) 2 16 Tryz.underlying22 hi1 hy0 hy1 hy2 rfl (by decide) (.slice (some ⟨w.heap.size+2,0,none⟩) 0 0) 0 [] rfl HL0.o A ts.length c B (jr ts) rfl HQ1.o (jay3 ts) (by unfold maxLen;omega) (by omega) (by simp;omega) ?_
     intro A3 c3 w3 ho3 hg3
     have hne:∀j,(Value.slice (some ⟨w.heap.size+2,0,none⟩) 0 0).ownBlock=some j->w.heap.size+2<=j:=λj e=>(HL0.o.lt j e).1
     have HO3:Hid (w3.ownsRow (w.heap.size+2) 59 2 (.slice A3 ts.length c3) ts.length (jr ts)):=ja (by simpa using ho3)
     have HX3:=ja (HX1.o.grown hg3 (λe=>by have:=hne _ e;omega));have HR3:=ja (HR1.o.grown hg3 (λe=>by have:=hne _ e;omega));have HB3:=ja (HB1.o.grown hg3 (by simp;omega) (λj e=>by have:=hne j e;omega))
     obtain⟨x0,x1,xf0,xf1⟩:=HX3.o.two
     obtain⟨r0,r1,rf0,rf1⟩:=HR3.o.two
     rw[Nat.zero_add]
     clear ho3 hg3 hne))
 refine Ji (p:=2) (ty:=24) rfl rfl (((HR3.o.far (p:=⟨w.heap.size,1,none⟩) (by simp) _).set_ 0 _).set_ 1 _) (d:=_) rfl Tryz.underlying24 Tryz.sizeNumber rfl ?_
 exact⟨A3,ts.length,c3,rfl,jO (ownsRow_setCell_below (ownsRow_setCell_below (ownsRow_setCell_below HO3.o (by show w.heap.size<_;omega) _) (by show w.heap.size+1<_;omega) _) (by show w.heap.size+1<_;omega) _) (by omega),
  Below.setCell (Below.setCell (Below.setCell HB3.o (p:=⟨w.heap.size,1,none⟩) (Nat.le_refl _) _) (p:=⟨w.heap.size+1,0,none⟩) (by show w.heap.size<=w.heap.size+1;omega) _) (p:=⟨w.heap.size+1,1,none⟩) (by show w.heap.size<=w.heap.size+1;omega) _⟩
def zc(w:World)(B:Nat)(A:Option Addr)(n c:Nat)(l:List PieceV):Prop:=Rq w B 2 A n c (jB (l.map PieceV.enc))/\∀p∈l,jP w B p.A p.n p.c p.ms
section
variable {w w' : World} {B B' n c : Nat} {A : Option Addr} {l : List PieceV}
theorem zc.of(h:jD w B A n c l):zc w B A n c l:=⟨Rq.of h.1,λp hp=>Rq.of (h.2 p hp)⟩
theorem zc.len(h:zc w B A n c l):l.length=n:=by
 have h1:=h.1.1
 rw[Jj,List.length_map] at h1
 omega
theorem zc.below(h:zc w B A n c l)(hb:Below B w w'):zc w' B A n c l:=⟨h.1.below hb,λp hp=>Rq.below (h.2 p hp) hb⟩
theorem zc.more(h:zc w B A n c l)(hB:B<=B'):zc w B' A n c l:=⟨h.1.more hB,λp hp=>Rq.more (h.2 p hp) hB⟩
theorem zc.alloc(h:zc w B A n c l)(hB:B<=w.heap.size)(o:Obj):zc (w.alloc o) B A n c l:=⟨h.1.alloc hB o,λp hp=>Rq.alloc (h.2 p hp) hB o⟩
theorem zc.at_(h:zc w B A n c l){i:Nat}(hi:i<l.length):∃ad:Addr,A=some ad/\ad.block<B/\w.cell? (ad.add (i*2))=some (.bool l[i].minus)/\w.cell? ⟨(ad.add (i*2)).block,(ad.add (i*2)).off+1,none⟩=some (.slice l[i].A l[i].n l[i].c):=by
 obtain⟨ad,e,hb,h1,h2⟩:=jbc8 h.1 (i:=i) (by simpa using hi)
 simp only[List.getElem_map] at h1 h2
 exact⟨ad,e,hb,h1,h2⟩
end
theorem jbc6(n a b:Int)(w:World):Calls Tryz.prog 56 #[.int .i64 n,.int .i64 a,.int .i64 b] w λe w'=>e=.returned (.bool (zz n a b))/\w'=w:=by
 unfold zz
 by_cases h1:a<=n
 all_goals
  go_enter Tryz.func56,Tryz.ntmps56
  go_wp2
  go_ret
  exact⟨by first|(simp[h1];done)|(simp[h1];omega),rfl⟩
theorem jt7(n:Int)(w:World):Calls Tryz.prog 44 #[.int .i64 n] w (QY w (jI n)):=by
 unfold jI
 by_cases h0:n=0
 ·rw[if_pos h0]
  have hb0:(n==0)=true:=by simpa using h0
  go_enter Tryz.func44,Tryz.ntmps44
  go_wp2
  refine Ji (p:=2) (ty:=24) rfl rfl (jh.new w _ _) (d:=_) rfl Tryz.underlying24 Tryz.sizeNumber rfl ?_
  exact⟨none,0,0,rfl,⟨rfl,.inl ⟨rfl,rfl⟩⟩,(Below.refl w.heap.size w).alloc (Nat.le_refl _) _⟩
 ·rw[if_neg h0]
  have hb0:(n==0)=false:=by simpa using h0
  have HO1:=ja (λx:Array Value=>(show((w.alloc (.cells x 24)).alloc (.cells #[.int .i64 n,.int .i64 1] 59)).ownsRow (w.heap.size+1) 59 2 (.slice (some ⟨w.heap.size+1,0,none⟩) 1 1) 1 (jr [(n,1)]) by
   have h:=World.ownsRow_lit (base:=w.heap.size+1) (e:=59) (size:=2) (w.alloc (.cells x 24)) #[.int .i64 n,.int .i64 1] 1 (by simp) (by unfold maxLen;omega) rfl
   rw[World.size_alloc] at h
   exact h))
  have HN:=ja (jh.new w 24 #[.int .i64 0,.slice none 0 0])
  have HN2:=ja (HN.o.alloc (.cells #[.int .i64 n,.int .i64 1] 59))
  obtain⟨n0,n1,nf0,nf1⟩:=HN2.o.two
  go_enter Tryz.func44,Tryz.ntmps44
  go_wp2
  refine Ji (p:=2) (ty:=24) rfl rfl ((jh.new w _ _).alloc _) (d:=_) rfl Tryz.underlying24 Tryz.sizeNumber rfl ?_
  exact⟨_,_,_,rfl,jO (HO1.o _) (by omega),((Below.refl w.heap.size w).alloc (Nat.le_refl _) _).alloc (by simp) _⟩
open Go.ChangeShapes Go.WideShapes Go.ChangeAt Go.RowKit Go.Joins Go.Deep
instance:Inhabited PieceV:=⟨⟨false,none,0,0,[]⟩⟩
section
variable {H : Type} {enc : TypeId × Value → H} {W : World} {spare : Nat → Bool} {held : Bool} {fuel : Nat}
end
