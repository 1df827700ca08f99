import Derived.Test.YtgdcofbnbiclmaaGreatDoorQCheck
import Derived.Test.YtgdcofbnbiclmaaGreatDoorQIns
import Derived.Test.YtgdcofbnbiclmaaGreatDoorQBin
import Derived.Test.YtgdcofbnbiclmaaGreatDoorQCommand
import Derived.Test.YtgdcofbnbiclmaaGreatDoorQCmp
import Derived.Test.YtgdcofbnbiclmaaGreatDoorQOwn
import Derived.Test.YtgdcofbnbiclmaaGreatDoorQBase
import Derived.BigQuiet
import Derived.Lib.Overlaps
import Derived.Deep.RegionLaw
import Derived.Deep.DrawnRows
import Derived.Deep.RegionHeld3
import Derived.Test.YtgdcofbnbiclmaaGreatDoorQHeldX
namespace Go.Proofs.YtgdcofbnbiclmaaGreatDoor
set_option linter.all false
set_option maxHeartbeats 32000000
open Go.RowKit
section
variable {w w':World} {B g size size':Nat} {e e' t:TypeId} {s s':Value} {rows rows':List (List Value)} {cs:Array Value}
theorem own_typed (h:Own w B e size s rows) {k:Nat} (hk:s.ownBlock=some k):∃ cur,w.heap[k]?=some (.cells cur e (0,0)):=by
 rcases h.form with ⟨rfl,_⟩|⟨b,cap,rfl,_,_,_,cur,h3,_⟩
 ·simp [Value.ownBlock] at hk
 ·simp [Value.ownBlock] at hk;subst hk;exact ⟨cur,h3⟩
theorem blk_other (h:Blk w g t cs) (ho:Own w B e size s rows) (hg:w.grownBy w' s.ownBlock) (hne:t≠e:=by decide):Blk w' g t cs:=by
 refine (hg.block g h.lt ?_).trans h
 intro hb
 obtain ⟨cur',hc⟩:=own_typed ho hb.symm
 unfold Blk at h
 rw [h] at hc
 injection hc with hc
 injection hc with _ hc
 exact hne hc
theorem below_grown (ho:Own w B e size s rows) (hg:w.grownBy w' s.ownBlock) (hB:B≤w.heap.size):Below B w w':=
 (Below.refl B w).grown hg hB fun k hk=>(ho.1.lt k hk).1
end
structure Mov (B:Nat) (w w':World):Prop where
 bel:Below B w w'
 frm:∀ k t cs,Blk w k t cs→t≠82→t≠160→t≠9→t≠163→Blk w' k t cs
section
variable {w w' w'':World} {B g sz:Nat} {e t:TypeId} {s:Value} {rows:List (List Value)} {cs:Array Value}
theorem Mov.alloc (h:Mov B w w') (hB:B≤w'.heap.size) (o:Obj):Mov B w (w'.alloc o):=⟨h.bel.alloc hB o,fun b t cs hb h1 h2 h3 h4=>(h.frm b t cs hb h1 h2 h3 h4).alloc o⟩
theorem Mov.size (h:Mov B w w'):w.heap.size≤w'.heap.size:=h.bel.size
theorem blk_ne {b:Nat} {t':TypeId} {cs':Array Value} (h:Blk w b t cs) (k:Blk w g t' cs') (hne:t≠t'):b≠g:=by
 rintro rfl
 unfold Blk at h k
 rw [h] at k
 injection k with k
 injection k with _ k
 exact hne k
def Typ (w:World) (k:Nat) (t:TypeId):Prop:=∃ cs,Blk w k t cs
theorem Typ.bl {k:Nat} (h:Typ w k t) (hb:Below w.heap.size w w'):Typ w' k t:=by
 obtain ⟨cs,h⟩:=h
 exact ⟨cs,h.below' hb⟩
def Tp (w:World) (A:Option Addr) (t:TypeId):Prop:=∀ a,A=some a→Typ w a.block t
theorem Tp.bl {A:Option Addr} (h:Tp w A t) (hb:Below w.heap.size w w'):Tp w' A t:=fun a ha=>(h a ha).bl hb
theorem Tp.none_:Tp w none t:=fun _ h=>by cases h
theorem own_tp {A:Option Addr} {n c:Nat} (h:Own w B e sz (.slice A n c) rows):Tp w A e:=by
 rintro a rfl
 rcases h.form with ⟨hv,_⟩|⟨b,cap,hv,_⟩
 ·cases hv
 ·injection hv with e1 _ _
  injection e1 with e1
  subst e1
  obtain ⟨cur,hc⟩:=own_typed h (k:=b) rfl
  exact ⟨cur,hc⟩
theorem Tp.ne {A:Option Addr} {b:Nat} {t':TypeId} (h:Tp w A t) (hb:Blk w b t' cs) (hne:t≠t':=by decide):∀ a,A=some a→a.block≠b:=fun a ha=>by
 obtain ⟨cs',h⟩:=h a ha
 exact blk_ne h hb hne
end
structure Re where
 code:Int
 text:ByteArray
 n:Int
 list:List ByteArray
def toldR (n:Int):Re:=⟨0,emp,n,[]⟩
def failR (e:Int):Re:=⟨e,emp,0,[]⟩
def textR (s:ByteArray):Re:=⟨0,s,0,[]⟩
def flagI (b:Bool):Int:=if b then 1 else 0
def kindC (k:Int):Int:=
 if k=2 then 1 else if k=3 then 2 else if k=4∨k=5∨k=6 then 3 else if k=7∨k=8∨k=9∨k=10 then 4 else if k=11∨k=12∨k=13 then 5 else if k=14∨k=15∨k=16 then 6 else 0
def makesC (k:Int):Bool:=k == 1 || k == 3 || k == 4 || k == 7 || k == 8 || k == 11 || k == 14
def allOf (v:Va):List ByteArray:=v.items ++ v.pairs.map (·.field) ++ v.scores.map (·.member)
attribute [local go_sem ↓] Go.wp_at_zero Go.wp_at_succ
def pairHas (f:ByteArray) (l:List Pr):Bool:=foundAt l (pairAt f l) fun y=>cmpB y.field f == 0
def pairText (l:List Pr) (k:Nat):ByteArray:=match l[k]? with|some y=>y.text|none=>emp
def doHash (v:Va) (c:Cmd):Va×Re:=
 if c.kind=4 then
  (if pairHas c.field v.pairs=true then ({ v with pairs:=v.pairs.set (pairAt c.field v.pairs) ⟨c.field,c.text⟩ },toldR 0)
   else if v.pairs.length=20 then (v,failR 6) else ({ v with pairs:=insRows v.pairs (pairAt c.field v.pairs) ⟨c.field,c.text⟩ },toldR 1))
 else if c.kind=5 then (if pairHas c.field v.pairs=true then (v,textR (pairText v.pairs (pairAt c.field v.pairs))) else (v,failR 5))
 else if pairHas c.field v.pairs=true then ({ v with pairs:=delRows v.pairs (pairAt c.field v.pairs) },toldR 1) else (v,toldR 0)
theorem grown_setRow_cell (w:World) (b i:Nat) (u:Value):w.grownBy (w.setCell ⟨b,i,none⟩ u) (some b):=
 ⟨rfl,rfl,rfl,by simp,fun k _ hk=>Below.heap_setCell w ⟨b,i,none⟩ u k (fun e=>hk (by simp [e]))⟩
attribute [local go_sem ↓] Go.wp_at_zero Go.wp_at_succ
def textHas (f:ByteArray) (l:List ByteArray):Bool:=foundAt l (textAt f l) fun y=>cmpB y f == 0
def doSet (v:Va) (c:Cmd):Va×Re:=
 if c.kind=11 then
  (if textHas c.text v.items=true then (v,toldR 0)
   else if v.items.length=20 then (v,failR 6) else ({ v with items:=insRows v.items (textAt c.text v.items) c.text },toldR 1))
 else if c.kind=12 then (if textHas c.text v.items=true then ({ v with items:=delRows v.items (textAt c.text v.items) },toldR 1) else (v,toldR 0))
 else (v,toldR (flagI (textHas c.text v.items)))
attribute [local go_sem ↓] Go.wp_at_zero Go.wp_at_succ
def memberAt (m:ByteArray) (l:List Sc):Option Nat:=l.findIdx? fun x=>x.member.toList == m.toList
def putScore (l:List Sc) (s:Sc):List Sc:=insRows l (scoreAt s l) s
def doRank (v:Va) (c:Cmd):Va×Re:=
 match memberAt c.text v.scores with
 | none=>if c.kind=16 then (v,failR 5) else if c.kind=14 then (if v.scores.length=20 then (v,failR 6) else ({ v with scores:=putScore v.scores ⟨c.text,c.n⟩ },toldR 1)) else (v,toldR 0)
 | some k=>if c.kind=16 then (v,toldR k) else if c.kind=14 then ({ v with scores:=putScore (delRows v.scores k) ⟨c.text,c.n⟩ },toldR 0) else ({ v with scores:=delRows v.scores k },toldR 1)
attribute [local go_sem ↓] Go.wp_at_zero Go.wp_at_succ
def doList (v:Va) (c:Cmd):Va×Re:=
 if c.kind=7 then (if v.items.length=20 then (v,failR 6) else ({ v with items:=v.items ++ [c.text] },toldR (v.items.length+1)))
 else if c.kind=8 then (if v.items.length=20 then (v,failR 6) else ({ v with items:=insRows v.items 0 c.text },toldR (v.items.length+1)))
 else if c.kind=9 then ({ v with items:=v.items.take (v.items.length - 1) },textR ((v.items[v.items.length - 1]?).getD emp))
 else ({ v with items:=v.items.drop 1 },textR ((v.items[0]?).getD emp))
attribute [local go_sem ↓] Go.wp_at_zero Go.wp_at_succ
def doAdd (v:Va) (c:Cmd):Va×Re:=if countOk (v.count+c.n)=true then ({ v with count:=v.count+c.n },toldR (v.count+c.n)) else (v,failR 7)
def doVal (v:Va) (c:Cmd):Va×Re:=
 if c.kind=1 then (⟨1,c.text,0,[],[],[]⟩,toldR 0)
 else if c.kind=2 then (v,textR v.text)
 else if c.kind=3 then doAdd v c
 else if c.kind=17 then (v,toldR (v.size:Int))
 else if c.kind=18 then (v,⟨0,emp,0,allOf v⟩)
 else if v.kind=3 then doHash v c else if v.kind=4 then doList v c else if v.kind=5 then doSet v c else doRank v c
def fits (ck vk:Int):Prop:=ck=1∨(ck=2∧vk=1)∨(ck=3∧vk=2)∨((ck=4∨ck=5∨ck=6)∧vk=3)∨((ck=7∨ck=8∨ck=9∨ck=10)∧vk=4)∨((ck=11∨ck=12∨ck=13)∧vk=5)∨((ck=14∨ck=15∨ck=16)∧vk=6)∨ck=17∨ck=18
def zeroVa:Va:=⟨0,emp,0,[],[],[]⟩
def zeroRe:Re:=⟨0,emp,0,[]⟩
def noneVal (v:Va):Bool:=v.kind == 0 && v.text.toList.isEmpty && v.count == 0 && v.size == 0
def ccOf (c:Cmd):Int:=checkCommand c.kind c.key c.field c.text c.n
def wrongKind (v:Va) (c:Cmd):Bool:=(kindC c.kind != 0 && kindC c.kind != v.kind) || (decide (17≤c.kind) && decide (v.kind<3))
def behind (v:Va) (r:Va×Re):Va×Re:=if r.2.code≠0 then (v,r.2) else if 3≤r.1.kind∧r.1.size=0 then (zeroVa,r.2) else r
def doneKind (v:Va) (c:Cmd):Va:=if noneVal v=true then { v with kind:=kindC c.kind } else v
def doneVal (v:Va) (c:Cmd):Va×Re×Int:=
 if checkValue v≠0∧noneVal v=false then (zeroVa,zeroRe,checkValue v)
 else if ccOf c≠0 then (zeroVa,zeroRe,ccOf c)
 else if 18<c.kind then (zeroVa,zeroRe,3)
 else if noneVal v=true∧makesC c.kind=false then (v,failR 5,0)
 else if noneVal v=false∧wrongKind v c=true then (v,failR 4,0)
 else ((behind v (doVal (doneKind v c) c)).1,(behind v (doVal (doneKind v c) c)).2,0)
structure Good (v:Va):Prop where
 k1:1≤v.kind
 k6:v.kind≤6
 form:formBad v=false
 size:sizeBad v=false
 text:textBad v=false
 pairs:pairsBad v=false
 members:membersBad v=false
 count:countBad v=false
 order:orderOk v=true
theorem good_of {v:Va} (h:checkValue v=0):Good v:=by
 unfold checkValue at h
 split at h
 ·cases h
 rename_i h0
 (repeat' split at h) <;> first|cases h|skip
 rename_i h1 h2 h3 h4 h5 h6 h7
 exact ⟨by omega,by omega,by simpa using h1,by simpa using h2,by simpa using h3,by simpa using h4,by simpa using h5,by simpa using h6,h7⟩
theorem good_to {v:Va} (h:Good v):checkValue v=0:=by
 obtain ⟨h1,h2,h3,h4,h5,h6,h7,h8,h9⟩:=h
 unfold checkValue
 rw [if_neg (by omega)]
 simp [h3,h4,h5,h6,h7,h8,h9]
theorem Good.forms {v:Va} (h:Good v):(v.kind=1∨v.text.toList.isEmpty=true)∧(v.kind=2∨v.count=0)∧(v.kind=3∨v.pairs.length=0)∧(v.kind=4∨v.kind=5∨v.items.length=0)∧(v.kind=6∨v.scores.length=0):=by
 have:=h.form
 unfold formBad at this
 simp only [Bool.not_eq_false',Bool.and_eq_true,Bool.or_eq_true,beq_iff_eq] at this
 obtain ⟨⟨⟨⟨a,b⟩,c⟩,d⟩,e⟩:=this
 exact ⟨a,b,c,by omega,e⟩
theorem Good.sizes {v:Va} (h:Good v):v.pairs.length≤20∧v.items.length≤20∧v.scores.length≤20∧(3≤v.kind→1≤v.size):=by
 obtain ⟨f1,f2,f3,f4,f5⟩:=h.forms
 have:=h.size
 unfold sizeBad at this
 simp only [Bool.and_eq_false_iff,Bool.or_eq_false_iff,decide_eq_false_iff_not] at this
 unfold Va.size at this ⊢
 have h1:=h.k1;have h6:=h.k6
 omega
theorem Good.rises {v:Va} (h:Good v):risesBy (fun a b:Pr=>cmpB a.field b.field) v.pairs=true∧risesBy cmpS v.scores=true∧(v.kind=5→risesBy cmpB v.items=true):=by
 have:=h.order
 unfold orderOk risesOk at this
 simp only [Bool.and_eq_true,Bool.or_eq_true,bne_iff_ne] at this
 obtain ⟨⟨⟨a,b⟩,c⟩,_⟩:=this
 exact ⟨a,b,fun h5=>by rcases c with c|c;exact absurd h5 c;exact c⟩
def small (v:Va) (n:Nat):Prop:=v.pairs.length≤n∧v.items.length≤n∧v.scores.length≤n
def Rp (a b:Pr):Prop:=cmpB a.field b.field<0
def Ri (a b:ByteArray):Prop:=cmpB a b<0
def Rs (a b:Sc):Prop:=cmpS a b<0
def Rm (a b:Sc):Prop:=a.member≠b.member
structure Ok (v:Va):Prop where
 k1:1≤v.kind
 k6:v.kind≤6
 ft:v.kind=1∨v.text=emp
 fc:v.kind=2∨v.count=0
 fp:v.kind=3∨v.pairs=[]
 fi:v.kind=4∨v.kind=5∨v.items=[]
 fs:v.kind=6∨v.scores=[]
 np:v.pairs.length≤20
 ni:v.items.length≤20
 ns:v.scores.length≤20
 tt:v.text.size≤20
 ti:∀ s∈v.items,s.size≤20
 tp:∀ x∈v.pairs,(1≤x.field.size∧x.field.size≤12)∧x.text.size≤20
 tm:∀ x∈v.scores,x.member.size≤20
 cc : -1099511627776≤v.count∧v.count≤1099511627776
 cs:∀ x∈v.scores,-1099511627776≤x.n∧x.n≤1099511627776
 rp:v.pairs.Pairwise Rp
 ri:v.kind=5→v.items.Pairwise Ri
 rs:v.scores.Pairwise Rs
 un:v.scores.Pairwise Rm
theorem empty_iff {s:ByteArray}:s.toList.isEmpty=true ↔ s=emp:=by
 rw [List.isEmpty_iff,Lib.toList_data]
 refine ⟨fun h=>bytes_ext (by rw [h];rfl),fun h=>by rw [h];rfl⟩
theorem nil_iff {α:Type} {l:List α}:l.length=0 ↔ l=[]:=List.length_eq_zero_iff
theorem eqb_iff {a b:ByteArray}:(a.toList == b.toList)=true ↔ a=b:=by
 rw [beq_cmpB,beq_iff_eq,cmpB_eq]
theorem rank_neg {l:List Sc} {m:ByteArray}:rankOf l m<0 ↔ ∀ x∈l,x.member≠m:=by
 have h:=idx_any (l:=l) (p:=fun x:Sc=>x.member.toList == m.toList)
 unfold rankOf
 constructor
 ·intro hlt x hx he
  have:(l.any fun x=>x.member.toList == m.toList)=true:=List.any_eq_true.2 ⟨x,hx,by rw [eqb_iff];exact he⟩
  rw [←h] at this;omega
 ·intro hall
  rcases Int.lt_or_le (idxFn (l.findIdx? fun x:Sc=>x.member.toList == m.toList)) 0 with h1|h1
  ·exact h1
  ·have h2:(l.any fun x=>x.member.toList == m.toList)=true:=by rw [←h];exact h1
   obtain ⟨x,hx,hp⟩:=List.any_eq_true.1 h2
   rw [eqb_iff] at hp
   exact absurd hp (hall x hx)
theorem once_iff {l:List Sc}:once l l.length=true ↔ l.Pairwise Rm:=by
 unfold once
 rw [List.all_eq_true,List.pairwise_iff_getElem]
 constructor
 ·intro h i j hi hj hij
  have:=h j (List.mem_range.2 hj)
  rw [List.getElem?_eq_getElem hj] at this
  have h2:=rank_neg.1 (of_decide_eq_true this)
  exact h2 _ (by rw [List.mem_take_iff_getElem];exact ⟨i,by omega,rfl⟩)
 ·intro h j hj
  have hj:=List.mem_range.1 hj
  rw [List.getElem?_eq_getElem hj]
  refine decide_eq_true (rank_neg.2 fun x hx=>?_)
  rw [List.mem_take_iff_getElem] at hx
  obtain ⟨i,hi,rfl⟩:=hx
  exact h i j (by omega) hj (by omega)
theorem fieldOk_iff {s:ByteArray}:fieldOk s=true ↔ 1≤s.size∧s.size≤12:=by simp [fieldOk]
theorem textOk_iff {s:ByteArray}:textOk s=true ↔ s.size≤20:=by simp [textOk]
theorem countOk_iff {n:Int}:countOk n=true ↔ -1099511627776≤n∧n≤1099511627776:=by simp [countOk]
theorem good_ok {v:Va} (h:Good v):Ok v:=by
 obtain ⟨a,b,c,d,e⟩:=h.forms
 obtain ⟨s1,s2,s3,s4⟩:=h.sizes
 obtain ⟨r1,r2,r3⟩:=h.rises
 have ht:=h.text;have hp:=h.pairs;have hm:=h.members;have hc:=h.count;have ho:=h.order
 unfold textBad at ht
 unfold pairsBad at hp
 unfold membersBad at hm
 unfold countBad at hc
 unfold orderOk at ho
 simp only [Bool.or_eq_false_iff,Bool.not_eq_false',List.any_eq_false,Bool.not_eq_true',Bool.not_eq_false,Bool.or_eq_true,not_or] at ht hp hm hc
 rw [Bool.and_eq_true] at ho
 refine ⟨h.k1,h.k6,?_,b,by rwa [nil_iff] at c,by rwa [nil_iff] at d,by rwa [nil_iff] at e,s1,s2,s3,textOk_iff.1 ht.1,fun s hs=>textOk_iff.1 (ht.2 s hs),fun x hx=>⟨fieldOk_iff.1 (hp x hx).1,textOk_iff.1 (hp x hx).2⟩,fun x hx=>textOk_iff.1 (hm x hx),countOk_iff.1 hc.1,fun x hx=>countOk_iff.1 (hc.2 x hx),?_,?_,?_,once_iff.1 ho.2⟩
 ·rw [empty_iff] at a;exact a
 ·exact (rises_pair (cmp:=fun a b:Pr=>cmpB a.field b.field) (fun _ _ _=>cmpB_trans)).1 r1
 ·exact fun h5=>(rises_pair (cmp:=cmpB) (fun _ _ _=>cmpB_trans)).1 (r3 h5)
 ·exact (rises_pair (cmp:=cmpS) (fun _ _ _=>cmpS_trans)).1 r2
theorem whole_value {w2:World} {b:Nat} {x0 x1 x2 x3 x4 x5:Value} (u0 u1 u2 u3 u4 u5:Value) (R:Blk w2 b 82 #[x0,x1,x2,x3,x4,x5]) :
  Blk ((((((w2.setCell ⟨b,0,none⟩ (u0)).setCell ⟨b,1,none⟩ (u1)).setCell ⟨b,2,none⟩ (u2)).setCell ⟨b,3,none⟩ (u3)).setCell ⟨b,4,none⟩ (u4)).setCell ⟨b,5,none⟩ (u5)) b 82 #[u0,u1,u2,u3,u4,u5]∧w2.grownBy ((((((w2.setCell ⟨b,0,none⟩ (u0)).setCell ⟨b,1,none⟩ (u1)).setCell ⟨b,2,none⟩ (u2)).setCell ⟨b,3,none⟩ (u3)).setCell ⟨b,4,none⟩ (u4)).setCell ⟨b,5,none⟩ (u5)) (some b)∧((((((w2.setCell ⟨b,0,none⟩ (u0)).setCell ⟨b,1,none⟩ (u1)).setCell ⟨b,2,none⟩ (u2)).setCell ⟨b,3,none⟩ (u3)).setCell ⟨b,4,none⟩ (u4)).setCell ⟨b,5,none⟩ (u5)).heap.size=w2.heap.size:=by
 have R0:=R.set' (i:=0) (u:=u0) rfl
 have R1:=R0.set' (i:=1) (u:=u1) rfl
 have R2:=R1.set' (i:=2) (u:=u2) rfl
 have R3:=R2.set' (i:=3) (u:=u3) rfl
 have R4:=R3.set' (i:=4) (u:=u4) rfl
 have R5:=R4.set' (i:=5) (u:=u5) rfl
 exact ⟨R5,(grown_trans (grown_trans (grown_trans (grown_trans (grown_trans (grown_setRow_cell w2 b 0 u0) (grown_setRow_cell _ b 1 u1)) (grown_setRow_cell _ b 2 u2)) (grown_setRow_cell _ b 3 u3)) (grown_setRow_cell _ b 4 u4)) (grown_setRow_cell _ b 5 u5)),by simp⟩
theorem grown_blk {w w':World} {g k:Nat} {t:TypeId} {cs:Array Value} (h:Blk w k t cs) (hg:w.grownBy w' (some g)) (hne:k≠g):Blk w' k t cs:=(hg.block k h.lt (by simpa using hne)).trans h
theorem grown_tp {w w':World} {g:Nat} {A:Option Addr} {t t':TypeId} {cs:Array Value} (h:Tp w A t) (R:Blk w g t' cs) (hg:w.grownBy w' (some g)) (hne:t≠t':=by decide):Tp w' A t:=fun a ha=>by
 obtain ⟨cs',h'⟩:=h a ha
 exact ⟨cs',grown_blk h' hg (blk_ne h' R hne)⟩
theorem below_grow {B:Nat} {a w w':World} {g:Nat} (h:Below B a w) (hg:w.grownBy w' (some g)) (hB:B≤w.heap.size) (hb:B≤g):Below B a w':=h.grown hg hB (fun k hk=>by injection hk with hk;omega)
structure En where
 key:ByteArray
 val:Va
 till:Int
structure Fr (w w':World):Prop where
 size:w.heap.size≤w'.heap.size
 p:∀ k cs,Blk w k 160 cs→Blk w' k 160 cs
 i:∀ k cs,Blk w k 9 cs→Blk w' k 9 cs
 s:∀ k cs,Blk w k 163 cs→Blk w' k 163 cs
def Tps (w:World) (A1 A2 A3:Option Addr):Prop:=Tp w A1 160∧Tp w A2 9∧Tp w A3 163
section
variable {w w' w'':World} {g n c:Nat} {t:TypeId} {A A1 A2 A3:Option Addr} {n1 c1 n2 c2 n3 c3:Nat} {cs:Array Value} {v:Va} {x:En} {r:List Value} {l l':List En} {rows rows':List (List Value)}
theorem Fr.refl (w:World):Fr w w:=⟨Nat.le_refl _,fun _ _ h=>h,fun _ _ h=>h,fun _ _ h=>h⟩
theorem Fr.trans (h:Fr w w') (k:Fr w' w''):Fr w w'':=⟨Nat.le_trans h.size k.size,fun b cs hb=>k.p b cs (h.p b cs hb),fun b cs hb=>k.i b cs (h.i b cs hb),fun b cs hb=>k.s b cs (h.s b cs hb)⟩
theorem Fr.of (h:Below w.heap.size w w'):Fr w w':=⟨h.size,fun _ _ hb=>hb.below' h,fun _ _ hb=>hb.below' h,fun _ _ hb=>hb.below' h⟩
theorem Fr.grown (R:Blk w g t cs) (hg:w.grownBy w' (some g)) (h1:t≠160:=by decide) (h2:t≠9:=by decide) (h3:t≠163:=by decide):Fr w w':=
 ⟨hg.size,fun _ _ hb=>grown_blk hb hg (blk_ne hb R (Ne.symm h1)),fun _ _ hb=>grown_blk hb hg (blk_ne hb R (Ne.symm h2)),fun _ _ hb=>grown_blk hb hg (blk_ne hb R (Ne.symm h3))⟩
theorem Fr.own {size B:Nat} {e:TypeId} {s:Value} {rows:List (List Value)} (h:Own w B e size s rows) (hg:w.grownBy w' s.ownBlock) (h1:e≠160:=by decide) (h2:e≠9:=by decide) (h3:e≠163:=by decide):Fr w w':=
 ⟨hg.size,fun _ _ hb=>blk_other hb h hg (Ne.symm h1),fun _ _ hb=>blk_other hb h hg (Ne.symm h2),fun _ _ hb=>blk_other hb h hg (Ne.symm h3)⟩
theorem VSl.fr (h:VSl w v A1 n1 c1 A2 n2 c2 A3 n3 c3) (T:Tps w A1 A2 A3) (f:Fr w w'):VSl w' v A1 n1 c1 A2 n2 c2 A3 n3 c3:=by
 refine ⟨h.p.kept f.size fun a ha _=>?_,h.i.kept f.size fun a ha _=>?_,h.s.kept f.size fun a ha _=>?_⟩
 ·obtain ⟨cs,hc⟩:=T.1 a ha;exact (f.p _ _ hc).trans hc.symm
 ·obtain ⟨cs,hc⟩:=T.2.1 a ha;exact (f.i _ _ hc).trans hc.symm
 ·obtain ⟨cs,hc⟩:=T.2.2 a ha;exact (f.s _ _ hc).trans hc.symm
theorem Tps.fr (T:Tps w A1 A2 A3) (f:Fr w w'):Tps w' A1 A2 A3:=by
 refine ⟨fun a ha=>?_,fun a ha=>?_,fun a ha=>?_⟩
 ·obtain ⟨cs,hc⟩:=T.1 a ha;exact ⟨cs,f.p _ _ hc⟩
 ·obtain ⟨cs,hc⟩:=T.2.1 a ha;exact ⟨cs,f.i _ _ hc⟩
 ·obtain ⟨cs,hc⟩:=T.2.2 a ha;exact ⟨cs,f.s _ _ hc⟩
def En.cells (x:En) (s1 s2 s3:Value):List Value:=[.string x.key,.int .i64 x.val.kind,.string x.val.text,.int .i64 x.val.count,s1,s2,s3,.int .i64 x.till]
def EnAt (w:World) (x:En) (r:List Value):Prop:=
 ∃ A1 n1 c1 A2 n2 c2 A3 n3 c3,r=x.cells (.slice A1 n1 c1) (.slice A2 n2 c2) (.slice A3 n3 c3)∧VSl w x.val A1 n1 c1 A2 n2 c2 A3 n3 c3∧Tps w A1 A2 A3
theorem EnAt.fr (h:EnAt w x r) (f:Fr w w'):EnAt w' x r:=by
 obtain ⟨A1,n1,c1,A2,n2,c2,A3,n3,c3,h1,h2,h3⟩:=h
 exact ⟨A1,n1,c1,A2,n2,c2,A3,n3,c3,h1,h2.fr h3 f,h3.fr f⟩
def Ens (w:World):List En→List (List Value)→Prop
 | [],[]=>True
 | x :: l,r :: rows=>EnAt w x r∧Ens w l rows
 | _,_=>False
theorem Ens.fr:∀ {l:List En} {rows:List (List Value)},Ens w l rows→Fr w w'→Ens w' l rows
 | [],[],_,_=>trivial
 | _ :: _,_ :: _,h,f=>⟨h.1.fr f,Ens.fr h.2 f⟩
 | [],_ :: _,h,_=>h.elim
 | _ :: _,[],h,_=>h.elim
theorem Ens.len:∀ {l:List En} {rows:List (List Value)},Ens w l rows→l.length=rows.length
 | [],[],_=>rfl
 | _ :: _,_ :: _,h=>by simp [Ens.len h.2]
 | [],_ :: _,h=>h.elim
 | _ :: _,[],h=>h.elim
theorem Ens.at_:∀ {l:List En} {rows:List (List Value)},Ens w l rows→∀ {k:Nat} (hk:k<l.length),∃ r,rows[k]?=some r∧EnAt w l[k] r
 | [],_,_,k,hk=>by simp at hk
 | _ :: _,r :: _,h,0,_=>⟨r,rfl,h.1⟩
 | _ :: _,_ :: _,h,k+1,hk=>Ens.at_ h.2 (k:=k) (by simpa using hk)
 | _ :: _,[],h,_,_=>h.elim
theorem Ens.app:∀ {l:List En} {rows:List (List Value)},Ens w l rows→∀ {l':List En} {rows':List (List Value)},Ens w l' rows'→Ens w (l ++ l') (rows ++ rows')
 | [],[],_,_,_,k=>k
 | _ :: _,_ :: _,h,_,_,k=>⟨h.1,Ens.app h.2 k⟩
 | [],_ :: _,h,_,_,_=>h.elim
 | _ :: _,[],h,_,_,_=>h.elim
theorem Ens.one_ (h:EnAt w x r):Ens w [x] [r]:=⟨h,trivial⟩
structure EC (w:World) (b o:Nat) (x:En) (s1 s2 s3:Value):Prop where
 c0:w.cell? ⟨b,o,none⟩=some (.string x.key)
 c1:w.cell? ⟨b,o+1,none⟩=some (.int .i64 x.val.kind)
 c2:w.cell? ⟨b,o+2,none⟩=some (.string x.val.text)
 c3:w.cell? ⟨b,o+3,none⟩=some (.int .i64 x.val.count)
 c4:w.cell? ⟨b,o+4,none⟩=some s1
 c5:w.cell? ⟨b,o+5,none⟩=some s2
 c6:w.cell? ⟨b,o+6,none⟩=some s3
 c7:w.cell? ⟨b,o+7,none⟩=some (.int .i64 x.till)
theorem ent_at (h:Seg w 8 A rows) (he:Ens w l rows) {k:Nat} (hk:k<l.length) :
  ∃ b off A1 n1 c1 A2 n2 c2 A3 n3 c3,A=some ⟨b,off,none⟩∧b<w.heap.size∧EC w b (off+k*8) l[k] (.slice A1 n1 c1) (.slice A2 n2 c2) (.slice A3 n3 c3)∧VSl w l[k].val A1 n1 c1 A2 n2 c2 A3 n3 c3∧Tps w A1 A2 A3:=by
 obtain ⟨r,hr,A1,n1,c1,A2,n2,c2,A3,n3,c3,h1,h2,h3⟩:=he.at_ hk
 obtain ⟨b,off,e1,hb,hc⟩:=h (by have:=List.length_pos_of_mem (List.mem_of_getElem? hr);exact this)
 have hc':∀ j u,r[j]?=some u→w.cell? ⟨b,off+k*8+j,none⟩=some u:=by
  intro j u hu
  rw [Nat.add_assoc]
  exact hc k r hr j u hu
 subst h1
 exact ⟨b,off,A1,n1,c1,A2,n2,c2,A3,n3,c3,e1,hb,⟨hc' 0 _ rfl,hc' 1 _ rfl,hc' 2 _ rfl,hc' 3 _ rfl,hc' 4 _ rfl,hc' 5 _ rfl,hc' 6 _ rfl,hc' 7 _ rfl⟩,h2,h3⟩
def StSl (w:World) (A:Option Addr) (n c:Nat) (l:List En):Prop:=∃ rows,Sl w 8 A n c rows∧Ens w l rows
theorem StSl.len (h:StSl w A n c l):l.length=n:=by obtain ⟨rows,h1,h2⟩:=h;rw [h2.len];exact h1.len
theorem StSl.bl (h:StSl w A n c l) (hb:Below w.heap.size w w'):StSl w' A n c l:=by obtain ⟨rows,h1,h2⟩:=h;exact ⟨rows,h1.below hb,h2.fr (Fr.of hb)⟩
theorem StSl.nil (w:World):StSl w none 0 0 []:=⟨[],Sl.nil_ w 8,trivial⟩
theorem StSl.at_ (h:StSl w A n c l) {k:Nat} (hk:k<l.length) :
  ∃ b off A1 n1 c1 A2 n2 c2 A3 n3 c3,A=some ⟨b,off,none⟩∧b<w.heap.size∧EC w b (off+k*8) l[k] (.slice A1 n1 c1) (.slice A2 n2 c2) (.slice A3 n3 c3)∧VSl w l[k].val A1 n1 c1 A2 n2 c2 A3 n3 c3∧Tps w A1 A2 A3:=by
 obtain ⟨rows,h1,h2⟩:=h;exact ent_at h1.seg h2 hk
def StOwn (w:World) (B:Nat) (A:Option Addr) (n c:Nat) (l:List En):Prop:=∃ rows,Own w B 84 8 (.slice A n c) rows∧Ens w l rows
theorem StOwn.sl {B:Nat} (h:StOwn w B A n c l):StSl w A n c l:=by obtain ⟨rows,h1,h2⟩:=h;exact ⟨rows,h1.sl',h2⟩
end
def gone (now:Int) (x:En):Bool:=x.till != 0 && decide (x.till≤now)
def keyAt (key:ByteArray) (l:List En):Nat:=lowB (fun x=>decide (cmpB x.key key<0)) l
def keyHas (key:ByteArray) (l:List En):Bool:=foundAt l (keyAt key l) fun y=>cmpB y.key key == 0
def Rk (a b:En):Prop:=cmpB a.key b.key<0
attribute [local go_sem ↓] Go.wp_at_zero Go.wp_at_succ
theorem all_one {l:List Value} (h:(l.all fun u=>u.oneCell')=true):∀ u∈l,u.oneCell'=true:=List.all_eq_true.1 h
theorem ent_info:(Tryz.prog.info? 84).map (fun i=>(i.zero,i.size,i.bytes))=some (some (.agg #[.string ByteArray.empty,.int .i64 0,.string ByteArray.empty,.int .i64 0,.slice none 0 0,.slice none 0 0,.slice none 0 0,.int .i64 0]),8,128):=by kernel_rfl
theorem cli_info:(Tryz.prog.info? 142).map (fun i=>(i.zero,i.size,i.bytes))=some (some (.agg #[.int .i64 0,.int .i64 0,.int .i64 0,.int .i64 0,.string ByteArray.empty,.int .i64 0,.slice none 0 0]),7,80):=by kernel_rfl
theorem eight {r:List Value} (h:r.length=8):∃ y0 y1 y2 y3 y4 y5 y6 y7,r=[y0,y1,y2,y3,y4,y5,y6,y7]:=by
 match r,h with
 | [y0,y1,y2,y3,y4,y5,y6,y7],_=>exact ⟨_,_,_,_,_,_,_,_,rfl⟩
structure EMov (B:Nat) (w w':World):Prop where
 bel:Below B w w'
 frm:∀ k t cs,Blk w k t cs→t≠84→Blk w' k t cs
section
variable {w w' w'':World} {B g:Nat} {t:TypeId} {cs:Array Value}
theorem EMov.refl (B:Nat) (w:World):EMov B w w:=⟨Below.refl _ _,fun _ _ _ h _=>h⟩
theorem EMov.size (h:EMov B w w'):w.heap.size≤w'.heap.size:=h.bel.size
end
theorem ent_info_z:(Tryz.prog.info? 84).map (fun i=>(i.zero,i.size,i.bytes))=some (some (.agg #[.string ByteArray.empty,.int .i64 0,.string ByteArray.empty,.int .i64 0,.slice none 0 0,.slice none 0 0,.slice none 0 0,.int .i64 0]),8,128):=ent_info
def keyBad (x:En):Bool:=decide (x.key.size<1) || decide (12<x.key.size)
def orderBad (l:List En):Nat→En→Bool
 | 0,_=>false
 | j+1,x=>match l[j]? with|none=>false|some y=>decide (0≤cmpB y.key x.key)
def tillBad (now:Int) (x:En):Bool:=x.till != 0 && (decide (x.till≤now) || decide (1073741824<x.till))
def entBad (now:Int) (l:List En) (k:Nat):Bool:=match l[k]? with|none=>false|some x=>keyBad x || checkValue x.val != 0 || orderBad l k x || tillBad now x
def checkStore (now:Int) (l:List En):Int:=if now<0∨1073741824<now∨12<l.length then 13 else if (List.range l.length).any (entBad now l)=true then 13 else 0
theorem store_bad {now:Int} {l:List En} {k:Nat} (hk:k<l.length) (h:entBad now l k=true):checkStore now l=13:=by
 unfold checkStore
 split
 ·rfl
 ·rw [if_pos (List.any_eq_true.2 ⟨k,List.mem_range.2 hk,h⟩)]
theorem store_good {now:Int} {l:List En} (h0:¬ (now<0∨1073741824<now∨12<l.length)) (h:∀ k<l.length,entBad now l k=false):checkStore now l=0:=by
 unfold checkStore
 rw [if_neg h0,if_neg]
 intro hc
 obtain ⟨k,hk,hb⟩:=List.any_eq_true.1 hc
 rw [h k (List.mem_range.1 hk)] at hb
 cases hb
set_option maxRecDepth 100000 in
theorem CheckS_any (now:Int) (A:Option Addr) (n c:Nat) (l:List En) (w:World) (h:StSl w A n c l) (hn:n≤1048576) (hsm:∀ x∈l,small x.val 1048576) :
  Calls Tryz.prog 75 #[.agg #[.int .i64 now,.slice A n c]] w fun e w'=>e = .returned (.int .i64 (checkStore now l))∧Below w.heap.size w w':=by
 have hln:=h.len
 have T0:=Blk.new w 46 #[.int .i64 now,.slice A n c]
 have hb0:Below w.heap.size w (w.alloc (.cells #[.int .i64 now,.slice A n c] 46)):=below_by
 by_cases h0:now<0∨1073741824<now∨12<l.length
 ·have hc:checkStore now l=13:=by unfold checkStore;rw [if_pos h0]
  rw [hc,hln] at *
  clear hc
  by_cases h1:now<0
  ·go_enter Tryz.func75,Tryz.ntmps75
   go_wp2_with fail
   go_ret
   exact ⟨rfl,below_by⟩
  ·by_cases h2:1073741824<now
   ·go_enter Tryz.func75,Tryz.ntmps75
    go_wp2_with fail
    go_ret
    exact ⟨rfl,below_by⟩
   ·have h3:(12:Int)<(n:Int):=by omega
    go_enter Tryz.func75,Tryz.ntmps75
    go_wp2_with fail
    go_ret
    exact ⟨rfl,below_by⟩
 ·have h1:¬ now<0:=by omega
  have h2:¬ 1073741824<now:=by omega
  have h3:¬ (12:Int)<(n:Int):=by omega
  have HSM:=hide hsm
  have H0:=hide h0
  have HLN:=hide hln
  clear hsm h0
  obtain ⟨CS,hCS⟩:∃ CS,CS=checkStore now l:=⟨_,rfl⟩
  rw [←hCS]
  have HCS:=hide hCS
  clear hCS
  go_enter Tryz.func75,Tryz.ntmps75
  go_wp2_with fail
  go_loopw [22] (fun s22 wr=>∃ k:Nat,k≤n∧s22 = .int .i64 k∧Blk wr w.heap.size 46 #[.int .i64 now,.slice A n c]∧Hid (∀ j<k,entBad now l j=false)∧Below w.heap.size w wr) (fun s22 _=>n - (intOf s22).toNat)
  case atStart=>exact ⟨0,by omega,rfl,T0,fun j hj=>by omega,hb0⟩
  case round=>
   obtain ⟨k,hk,rfl,T,HQ,q⟩:=hrel
   clear T0 hb0
   have hqs:=q.size
   have htl:=T.lt
   by_cases hlt:k<n
   ·have hkl:k<l.length:=by omega
    obtain ⟨b,off,A1,n1,c1,A2,n2,c2,A3,n3,c3,rfl,hb,⟨i0,i1,i2,i3,i4,i5,i6,i7⟩,N,-⟩:=(h.bl q).at_ hkl
    have hsx:=HSM.out _ (List.getElem_mem hkl)
    have hbad:entBad now l k=(keyBad l[k] || checkValue l[k].val != 0 || orderBad l k l[k] || tillBad now l[k]):=by unfold entBad;rw [List.getElem?_eq_getElem hkl]
    have hob:∀ j,k=j+1→∃ yk:ByteArray,wr.cell? ⟨b,off+j*8,none⟩=some (.string yk)∧orderBad l k l[k]=decide (0≤cmpB yk l[k].key):=by
     intro j hj
     subst hj
     have hjl:j<l.length:=by omega
     obtain ⟨b',off',_,_,_,_,_,_,_,_,_,e1,_,⟨u0,_,_,_,_,_,_,_⟩,_,_⟩:=(h.bl q).at_ hjl
     injection e1 with e1
     injection e1 with e1 e2
     subst e1;subst e2
     refine ⟨_,u0,?_⟩
     simp only [orderBad,List.getElem?_eq_getElem hjl]
    have hnb:∀ k' ,k'<k+1→entBad now l k=false→entBad now l k'=false:=fun k' hk' hf=>by
     rcases Nat.lt_or_ge k' k with h'|h'
     ·exact HQ.out k' h'
     ·obtain rfl:k'=k:=by omega
      exact hf
    have hsb:=fun hf=>store_bad (now:=now) (l:=l) (k:=k) hkl hf
    generalize l[k]=x at N i0 i1 i2 i3 i7 hsx hbad hob
    obtain ⟨xk,⟨kind,text,count,ps,is_,ss⟩,xt⟩:=x
    simp only at i0 i1 i2 i3 i7 hob
    have l1:n1≤1048576:=by have:=N.n1_;have:=hsx.1;simp only at *;omega
    have l2:n2≤1048576:=by have:=N.n2_;have:=hsx.2.1;simp only at *;omega
    have l3:n3≤1048576:=by have:=N.n3_;have:=hsx.2.2;simp only at *;omega
    have hck:=fun wz (hz:Below wr.heap.size wr wz)=>Check_val ⟨kind,text,count,ps,is_,ss⟩ A1 A2 A3 n1 c1 n2 c2 n3 c3 wz (N.bl hz) l1 l2 l3
    simp only at hck hbad
    generalize checkValue ⟨kind,text,count,ps,is_,ss⟩=cv at hck hbad
    have hkb:keyBad ⟨xk,⟨kind,text,count,ps,is_,ss⟩,xt⟩=(decide (xk.size<1) || decide (12<xk.size)):=rfl
    have htb:tillBad now ⟨xk,⟨kind,text,count,ps,is_,ss⟩,xt⟩=(xt != 0 && (decide (xt≤now) || decide (1073741824<xt))):=rfl
    rw [hkb,htb] at hbad
    obtain ⟨ob,hob1⟩:∃ ob,ob=orderBad l k ⟨xk,⟨kind,text,count,ps,is_,ss⟩,xt⟩:=⟨_,rfl⟩
    rw [←hob1] at hbad hob
    have HCK:=hide hck;have HBAD:=hide hbad;have HNB:=hide hnb;have HSB:=hide hsb;have HOB1:=hide hob1;have HOB:=hide hob
    clear hck hbad hnb hsb hob1 hob hkb htb hsx
    have hz1:(0:Int)≤(k:Int):=by omega
    have hz2:(k:Int)<(n:Int):=by omega
    have hw0:IntKind.i64.wrap (k:Int)=(k:Int):=IntWalk.i64_in _ (by omega)
    have bX:Below wr.heap.size wr (wr.alloc (.cells #[.string xk,.int .i64 kind,.string text,.int .i64 count,.slice A1 n1 c1,.slice A2 n2 c2,.slice A3 n3 c3,.int .i64 xt] 84)):=below_by
    have X:=Blk.new wr 84 #[.string xk,.int .i64 kind,.string text,.int .i64 count,.slice A1 n1 c1,.slice A2 n2 c2,.slice A3 n3 c3,.int .i64 xt]
    have T1:=T.alloc (.cells #[.string xk,.int .i64 kind,.string text,.int .i64 count,.slice A1 n1 c1,.slice A2 n2 c2,.slice A3 n3 c3,.int .i64 xt] 84)
    (try clear cT fT);have cT:=T.cell;have fT:=T.frozen
    go_upto_region 6 with fail
    have j0:=bX.cell (p:=⟨b,off+k*8,none⟩) hb
    obtain ⟨W,hW⟩:∃ W,W=(wr.alloc (.cells #[.string xk,.int .i64 kind,.string text,.int .i64 count,.slice A1 n1 c1,.slice A2 n2 c2,.slice A3 n3 c3,.int .i64 xt] 84)):=⟨_,rfl⟩
    rw [←hW] at bX X T1 ⊢
    clear hW cT fT i0 i1 i2 i3 i4 i5 i6 i7 j0
    have hxl:=X.lt
    have htl1:=T1.lt
    have hbW:b<W.heap.size:=by have:=bX.size;omega
    go_cut [58] (fun s wx=>s = .bool (decide (xk.size<1) || decide (12<xk.size) || cv != 0 || ob)∧Below W.heap.size W wx)
    case first=>
     (try clear cX fX);have cX:=X.cell;have fX:=X.frozen;(try clear cT1 fT1);have cT1:=T1.cell;have fT1:=T1.frozen
     by_cases hk1:xk.size<1
     ·have hk1':(xk.size:Int)<1:=by omega
      have hd1:decide ((xk.size:Int)<1)=true:=by simp;omega
      go_quiet (fail)
      go_wp2_with fail
      go_meet
      exact ⟨by simp [hk1],below_by⟩
     ·have hk1':¬ (xk.size:Int)<1:=by omega
      have hd1:decide ((xk.size:Int)<1)=false:=by simp;omega
      by_cases hk2:12<xk.size
      ·have hk2':(12:Int)<(xk.size:Int):=by omega
       have hd2:decide ((12:Int)<(xk.size:Int))=true:=by simp;omega
       go_quiet (fail)
       go_wp2_with fail
       go_meet
       exact ⟨by simp [hk2],below_by⟩
      ·have hk2':¬ (12:Int)<(xk.size:Int):=by omega
       have hd2:decide ((12:Int)<(xk.size:Int))=false:=by simp;omega
       by_cases hcv:cv=0
       ·have hcv':(cv != 0)=false:=by simp [hcv]
        cases k with
        | zero=>
         have hob0:ob=false:=by rw [HOB1.out];rfl
         subst hob0
         refine wp_region_x (l:=[]) (S:=fun w'=>w'.cell? ⟨wr.heap.size,0,none⟩=some (.string xk)∧w'.cell? ⟨wr.heap.size,1,none⟩=some (.int .i64 kind)∧w'.cell? ⟨wr.heap.size,2,none⟩=some (.string text)∧w'.cell? ⟨wr.heap.size,3,none⟩=some (.int .i64 count)∧w'.cell? ⟨wr.heap.size,4,none⟩=some (.slice A1 n1 c1)∧w'.cell? ⟨wr.heap.size,5,none⟩=some (.slice A2 n2 c2)∧w'.cell? ⟨wr.heap.size,6,none⟩=some (.slice A3 n3 c3)) (by kernel_rfl) ⟨X.cell 0,X.cell 1,X.cell 2,X.cell 3,X.cell 4,X.cell 5,X.cell 6⟩ (fun hS=>?_)
         refine wpAnyX_tq 0 ?_
         refine wpAnyX_tq 1 ?_
         refine wpAnyX_tq 2 ?_
         refine wpAnyX_tq 3 ?_
         (try simp only [hd1])
         refine wpAnyX_tq 4 ?_
         refine wpAnyX_tq 5 ?_
         refine wpAnyX_tq 6 ?_
         refine wpAnyX_tq 7 ?_
         refine wpAnyX_tq 8 ?_
         (try simp only [hd2])
         refine wpAnyX_tq 9 ?_
         refine wpAnyX_tq 10 ?_
         refine wpAnyX_tq 11 ?_
         refine wpAnyX_tq 12 ?_
         refine wpAnyX_onew (i:=13) (by kernel_rfl) rfl (by rfl) (fun K hK=>?_);(try simp only [List.getElem_toArray,List.getElem_cons_zero,List.getElem_cons_succ])
         go_wp2_with fail
         ((with_reducible refine (HCK.out _ ?_).mono ?_);(focus exact bstep bX below_by);rintro e w2 ⟨rfl,hb2⟩)
         go_wp2_with fail
         refine hK.out _ _ (Or.inr ⟨(X.drew.below' hb2).cell 0,(X.drew.below' hb2).cell 1,(X.drew.below' hb2).cell 2,(X.drew.below' hb2).cell 3,(X.drew.below' hb2).cell 4,(X.drew.below' hb2).cell 5,(X.drew.below' hb2).cell 6⟩) (fun hS=>?_)
         replace hS:=hS.resolve_left (by decide)
         clear hK K
         refine wpAnyX_tq 14 ?_
         (try simp only [hcv'])
         refine wpAnyX_tq 15 ?_
         refine wpAnyX_tq 16 ?_
         refine wpAnyX_tq 17 ?_
         refine wpAnyX_tq 18 ?_
         refine wpAnyX_tq 19 ?_
         refine wpAnyX_take (i:=20) (v:=undef) rfl (by kernel_rfl) (by kernel_rfl) (by kernel_rfl) (by kernel_rfl) (fun _ _ _ h=>h) (Or.inr ⟨by rfl,rfl⟩) (by assumption) ?xr20z;(try simp only [Act.put,List.setIfInBounds_toArray,List.set_cons_zero,List.set_cons_succ,List.getElem_toArray,List.getElem_cons_zero,List.getElem_cons_succ])
         refine wpAnyX_take (i:=21) (v:=undef) rfl (by kernel_rfl) (by kernel_rfl) (by kernel_rfl) (by kernel_rfl) (fun _ _ _ h=>h) (Or.inr ⟨by rfl,rfl⟩) (by assumption) ?xr21z;(try simp only [Act.put,List.setIfInBounds_toArray,List.set_cons_zero,List.set_cons_succ,List.getElem_toArray,List.getElem_cons_zero,List.getElem_cons_succ])
         refine wpAnyX_take (i:=22) (v:=undef) rfl (by kernel_rfl) (by kernel_rfl) (by kernel_rfl) (by kernel_rfl) (fun _ _ _ h=>h) (Or.inr ⟨by rfl,rfl⟩) (by assumption) ?xr22z;(try simp only [Act.put,List.setIfInBounds_toArray,List.set_cons_zero,List.set_cons_succ,List.getElem_toArray,List.getElem_cons_zero,List.getElem_cons_succ])
         refine wpAnyX_take (i:=23) (v:=undef) rfl (by kernel_rfl) (by kernel_rfl) (by kernel_rfl) (by kernel_rfl) (fun _ _ _ h=>h) (Or.inr ⟨by rfl,rfl⟩) (by assumption) ?xr23z;(try simp only [Act.put,List.setIfInBounds_toArray,List.set_cons_zero,List.set_cons_succ,List.getElem_toArray,List.getElem_cons_zero,List.getElem_cons_succ])
         refine wpAnyX_take (i:=24) (v:=undef) rfl (by kernel_rfl) (by kernel_rfl) (by kernel_rfl) (by kernel_rfl) (fun _ _ _ h=>h) (Or.inr ⟨by rfl,rfl⟩) (by assumption) ?xr24z;(try simp only [Act.put,List.setIfInBounds_toArray,List.set_cons_zero,List.set_cons_succ,List.getElem_toArray,List.getElem_cons_zero,List.getElem_cons_succ])
         refine wpAnyX_take (i:=25) (v:=undef) rfl (by kernel_rfl) (by kernel_rfl) (by kernel_rfl) (by kernel_rfl) (fun _ _ _ h=>h) (Or.inr ⟨by rfl,rfl⟩) (by assumption) ?xr25z;(try simp only [Act.put,List.setIfInBounds_toArray,List.set_cons_zero,List.set_cons_succ,List.getElem_toArray,List.getElem_cons_zero,List.getElem_cons_succ])
         refine wpAnyX_take (i:=26) (v:=undef) rfl (by kernel_rfl) (by kernel_rfl) (by kernel_rfl) (by kernel_rfl) (fun _ _ _ h=>h) (Or.inr ⟨by rfl,rfl⟩) (by assumption) ?xr26z;(try simp only [Act.put,List.setIfInBounds_toArray,List.set_cons_zero,List.set_cons_succ,List.getElem_toArray,List.getElem_cons_zero,List.getElem_cons_succ])
         refine wpAnyX_take (i:=27) (v:=undef) rfl (by kernel_rfl) (by kernel_rfl) (by kernel_rfl) (by kernel_rfl) (fun _ _ _ h=>h) (Or.inr ⟨by rfl,rfl⟩) (by assumption) ?xr27z;(try simp only [Act.put,List.setIfInBounds_toArray,List.set_cons_zero,List.set_cons_succ,List.getElem_toArray,List.getElem_cons_zero,List.getElem_cons_succ])
         refine wpAnyX_take (i:=28) (v:=undef) rfl (by kernel_rfl) (by kernel_rfl) (by kernel_rfl) (by kernel_rfl) (fun _ _ _ h=>h) (Or.inr ⟨by rfl,rfl⟩) (by assumption) ?xr28z;(try simp only [Act.put,List.setIfInBounds_toArray,List.set_cons_zero,List.set_cons_succ,List.getElem_toArray,List.getElem_cons_zero,List.getElem_cons_succ])
         refine wpAnyX_take (i:=29) (v:=undef) rfl (by kernel_rfl) (by kernel_rfl) (by kernel_rfl) (by kernel_rfl) (fun _ _ _ h=>h) (Or.inr ⟨by rfl,rfl⟩) (by assumption) ?xr29z;(try simp only [Act.put,List.setIfInBounds_toArray,List.set_cons_zero,List.set_cons_succ,List.getElem_toArray,List.getElem_cons_zero,List.getElem_cons_succ])
         refine wpAnyX_tq 30 ?_
         refine wpAnyX_tq 31 ?_
         refine wpAnyX_done (by kernel_rfl) ?_ _
         go_wp2_with fail
         go_meet
         exact ⟨by simp [hk1,hk2,hcv],below_by⟩
        | succ j=>
         obtain ⟨yk,u0,hob⟩:=HOB.out j rfl
         have u1:=(bX.cell (p:=⟨b,off+j*8,none⟩) hb).trans u0
         have hw1:IntKind.i64.wrap ((j:Int)+1 - 1)=(j:Int):=by rw [IntWalk.i64_in _ (by omega)];omega
         have hw2:IntKind.i64.wrap (j:Int)=(j:Int):=IntWalk.i64_in _ (by omega)
         have hz3:(0:Int)≤(j:Int):=by omega
         have hz4:(j:Int)<(n:Int):=by omega
         have hz5:(0:Int)<(j:Int)+1:=by omega
         have hz6:decide ((0:Int)<(j:Int)+1)=true:=decide_eq_true hz5
         have HBL:=hide (cmpB_less yk xk)
         clear u0
         by_cases hc:cmpB yk xk<0
         ·have hbl:Op.bytesLess yk.toList xk.toList=true:=by rw [HBL.out];simp [hc]
          have hob0:ob=false:=by rw [hob];simp;omega
          subst hob0
          clear hob
          refine wp_region_x (l:=[]) (S:=fun w'=>w'.cell? ⟨wr.heap.size,0,none⟩=some (.string xk)∧w'.cell? ⟨wr.heap.size,1,none⟩=some (.int .i64 kind)∧w'.cell? ⟨wr.heap.size,2,none⟩=some (.string text)∧w'.cell? ⟨wr.heap.size,3,none⟩=some (.int .i64 count)∧w'.cell? ⟨wr.heap.size,4,none⟩=some (.slice A1 n1 c1)∧w'.cell? ⟨wr.heap.size,5,none⟩=some (.slice A2 n2 c2)∧w'.cell? ⟨wr.heap.size,6,none⟩=some (.slice A3 n3 c3)∧w'.cell? ⟨w.heap.size,1,none⟩=some (.slice (some ⟨b,off,none⟩) n c)∧w'.cell? ⟨b,off+j*8,none⟩=some (.string yk)) (by kernel_rfl) ⟨X.cell 0,X.cell 1,X.cell 2,X.cell 3,X.cell 4,X.cell 5,X.cell 6,T1.cell 1,u1⟩ (fun hS=>?_)
          refine wpAnyX_tq 0 ?_
          refine wpAnyX_tq 1 ?_
          refine wpAnyX_tq 2 ?_
          refine wpAnyX_tq 3 ?_
          (try simp only [hd1])
          refine wpAnyX_tq 4 ?_
          refine wpAnyX_tq 5 ?_
          refine wpAnyX_tq 6 ?_
          refine wpAnyX_tq 7 ?_
          refine wpAnyX_tq 8 ?_
          (try simp only [hd2])
          refine wpAnyX_tq 9 ?_
          refine wpAnyX_tq 10 ?_
          refine wpAnyX_tq 11 ?_
          refine wpAnyX_tq 12 ?_
          refine wpAnyX_onew (i:=13) (by kernel_rfl) rfl (by rfl) (fun K hK=>?_);(try simp only [List.getElem_toArray,List.getElem_cons_zero,List.getElem_cons_succ])
          go_wp2_with fail
          ((with_reducible refine (HCK.out _ ?_).mono ?_);(focus exact bstep bX below_by);rintro e w2 ⟨rfl,hb2⟩)
          go_wp2_with fail
          refine hK.out _ _ (Or.inr ⟨(X.drew.below' hb2).cell 0,(X.drew.below' hb2).cell 1,(X.drew.below' hb2).cell 2,(X.drew.below' hb2).cell 3,(X.drew.below' hb2).cell 4,(X.drew.below' hb2).cell 5,(X.drew.below' hb2).cell 6,(T1.drew.below' hb2).cell 1,((bcell hb2).1 b (off+j*8) hbW).trans u1⟩) (fun hS=>?_)
          replace hS:=hS.resolve_left (by decide)
          clear hK K
          refine wpAnyX_tq 14 ?_
          (try simp only [hcv'])
          refine wpAnyX_tq 15 ?_
          refine wpAnyX_tq 16 ?_
          refine wpAnyX_tq 17 ?_
          refine wpAnyX_tq 18 ?_
          (try simp only [hz6])
          refine wpAnyX_tq 19 ?_
          refine wpAnyX_tq 20 ?_
          refine wpAnyX_tq 21 ?_
          refine wpAnyX_tq 22 ?_
          refine wpAnyX_tq 23 ?_
          refine wpAnyX_tq 24 ?_
          refine wpAnyX_tq 25 ?_
          refine wpAnyX_tq 26 ?_
          refine wpAnyX_tq 27 ?_
          refine wpAnyX_tq 28 ?_
          refine wpAnyX_tq 29 ?_
          (try simp only [hbl])
          refine wpAnyX_tq 30 ?_
          refine wpAnyX_tq 31 ?_
          refine wpAnyX_done (by kernel_rfl) ?_ _
          go_wp2_with fail
          go_meet
          exact ⟨by simp [hk1,hk2,hcv],below_by⟩
         ·have hbl:Op.bytesLess yk.toList xk.toList=false:=by rw [HBL.out];simp;omega
          have hob0:ob=true:=by rw [hob];simp;omega
          subst hob0
          clear hob
          refine wp_region_x (l:=[]) (S:=fun w'=>w'.cell? ⟨wr.heap.size,0,none⟩=some (.string xk)∧w'.cell? ⟨wr.heap.size,1,none⟩=some (.int .i64 kind)∧w'.cell? ⟨wr.heap.size,2,none⟩=some (.string text)∧w'.cell? ⟨wr.heap.size,3,none⟩=some (.int .i64 count)∧w'.cell? ⟨wr.heap.size,4,none⟩=some (.slice A1 n1 c1)∧w'.cell? ⟨wr.heap.size,5,none⟩=some (.slice A2 n2 c2)∧w'.cell? ⟨wr.heap.size,6,none⟩=some (.slice A3 n3 c3)∧w'.cell? ⟨w.heap.size,1,none⟩=some (.slice (some ⟨b,off,none⟩) n c)∧w'.cell? ⟨b,off+j*8,none⟩=some (.string yk)) (by kernel_rfl) ⟨X.cell 0,X.cell 1,X.cell 2,X.cell 3,X.cell 4,X.cell 5,X.cell 6,T1.cell 1,u1⟩ (fun hS=>?_)
          refine wpAnyX_tq 0 ?_
          refine wpAnyX_tq 1 ?_
          refine wpAnyX_tq 2 ?_
          refine wpAnyX_tq 3 ?_
          (try simp only [hd1])
          refine wpAnyX_tq 4 ?_
          refine wpAnyX_tq 5 ?_
          refine wpAnyX_tq 6 ?_
          refine wpAnyX_tq 7 ?_
          refine wpAnyX_tq 8 ?_
          (try simp only [hd2])
          refine wpAnyX_tq 9 ?_
          refine wpAnyX_tq 10 ?_
          refine wpAnyX_tq 11 ?_
          refine wpAnyX_tq 12 ?_
          refine wpAnyX_onew (i:=13) (by kernel_rfl) rfl (by rfl) (fun K hK=>?_);(try simp only [List.getElem_toArray,List.getElem_cons_zero,List.getElem_cons_succ])
          go_wp2_with fail
          ((with_reducible refine (HCK.out _ ?_).mono ?_);(focus exact bstep bX below_by);rintro e w2 ⟨rfl,hb2⟩)
          go_wp2_with fail
          refine hK.out _ _ (Or.inr ⟨(X.drew.below' hb2).cell 0,(X.drew.below' hb2).cell 1,(X.drew.below' hb2).cell 2,(X.drew.below' hb2).cell 3,(X.drew.below' hb2).cell 4,(X.drew.below' hb2).cell 5,(X.drew.below' hb2).cell 6,(T1.drew.below' hb2).cell 1,((bcell hb2).1 b (off+j*8) hbW).trans u1⟩) (fun hS=>?_)
          replace hS:=hS.resolve_left (by decide)
          clear hK K
          refine wpAnyX_tq 14 ?_
          (try simp only [hcv'])
          refine wpAnyX_tq 15 ?_
          refine wpAnyX_tq 16 ?_
          refine wpAnyX_tq 17 ?_
          refine wpAnyX_tq 18 ?_
          (try simp only [hz6])
          refine wpAnyX_tq 19 ?_
          refine wpAnyX_tq 20 ?_
          refine wpAnyX_tq 21 ?_
          refine wpAnyX_tq 22 ?_
          refine wpAnyX_tq 23 ?_
          refine wpAnyX_tq 24 ?_
          refine wpAnyX_tq 25 ?_
          refine wpAnyX_tq 26 ?_
          refine wpAnyX_tq 27 ?_
          refine wpAnyX_tq 28 ?_
          refine wpAnyX_tq 29 ?_
          (try simp only [hbl])
          refine wpAnyX_tq 30 ?_
          refine wpAnyX_tq 31 ?_
          refine wpAnyX_done (by kernel_rfl) ?_ _
          go_wp2_with fail
          go_meet
          exact ⟨by simp,below_by⟩
       ·have hcv':(cv != 0)=true:=by simp [hcv]
        refine wp_region_x (l:=[]) (S:=fun w'=>w'.cell? ⟨wr.heap.size,0,none⟩=some (.string xk)∧w'.cell? ⟨wr.heap.size,1,none⟩=some (.int .i64 kind)∧w'.cell? ⟨wr.heap.size,2,none⟩=some (.string text)∧w'.cell? ⟨wr.heap.size,3,none⟩=some (.int .i64 count)∧w'.cell? ⟨wr.heap.size,4,none⟩=some (.slice A1 n1 c1)∧w'.cell? ⟨wr.heap.size,5,none⟩=some (.slice A2 n2 c2)∧w'.cell? ⟨wr.heap.size,6,none⟩=some (.slice A3 n3 c3)) (by kernel_rfl) ⟨X.cell 0,X.cell 1,X.cell 2,X.cell 3,X.cell 4,X.cell 5,X.cell 6⟩ (fun hS=>?_)
        refine wpAnyX_tq 0 ?_
        refine wpAnyX_tq 1 ?_
        refine wpAnyX_tq 2 ?_
        refine wpAnyX_tq 3 ?_
        (try simp only [hd1])
        refine wpAnyX_tq 4 ?_
        refine wpAnyX_tq 5 ?_
        refine wpAnyX_tq 6 ?_
        refine wpAnyX_tq 7 ?_
        refine wpAnyX_tq 8 ?_
        (try simp only [hd2])
        refine wpAnyX_tq 9 ?_
        refine wpAnyX_tq 10 ?_
        refine wpAnyX_tq 11 ?_
        refine wpAnyX_tq 12 ?_
        refine wpAnyX_onew (i:=13) (by kernel_rfl) rfl (by rfl) (fun K hK=>?_);(try simp only [List.getElem_toArray,List.getElem_cons_zero,List.getElem_cons_succ])
        go_wp2_with fail
        ((with_reducible refine (HCK.out _ ?_).mono ?_);(focus exact bstep bX below_by);rintro e w2 ⟨rfl,hb2⟩)
        go_wp2_with fail
        refine hK.out _ _ (Or.inr ⟨(X.drew.below' hb2).cell 0,(X.drew.below' hb2).cell 1,(X.drew.below' hb2).cell 2,(X.drew.below' hb2).cell 3,(X.drew.below' hb2).cell 4,(X.drew.below' hb2).cell 5,(X.drew.below' hb2).cell 6⟩) (fun hS=>?_)
        replace hS:=hS.resolve_left (by decide)
        clear hK K
        refine wpAnyX_tq 14 ?_
        (try simp only [hcv'])
        refine wpAnyX_tq 15 ?_
        refine wpAnyX_tq 16 ?_
        refine wpAnyX_take (i:=17) (v:=undef) rfl (by kernel_rfl) (by kernel_rfl) (by kernel_rfl) (by kernel_rfl) (fun _ _ _ h=>h) (Or.inr ⟨by rfl,rfl⟩) (by assumption) ?xr17w;(try simp only [Act.put,List.setIfInBounds_toArray,List.set_cons_zero,List.set_cons_succ,List.getElem_toArray,List.getElem_cons_zero,List.getElem_cons_succ])
        refine wpAnyX_take (i:=18) (v:=undef) rfl (by kernel_rfl) (by kernel_rfl) (by kernel_rfl) (by kernel_rfl) (fun _ _ _ h=>h) (Or.inr ⟨by rfl,rfl⟩) (by assumption) ?xr18w;(try simp only [Act.put,List.setIfInBounds_toArray,List.set_cons_zero,List.set_cons_succ,List.getElem_toArray,List.getElem_cons_zero,List.getElem_cons_succ])
        refine wpAnyX_take (i:=19) (v:=undef) rfl (by kernel_rfl) (by kernel_rfl) (by kernel_rfl) (by kernel_rfl) (fun _ _ _ h=>h) (Or.inr ⟨by rfl,rfl⟩) (by assumption) ?xr19w;(try simp only [Act.put,List.setIfInBounds_toArray,List.set_cons_zero,List.set_cons_succ,List.getElem_toArray,List.getElem_cons_zero,List.getElem_cons_succ])
        refine wpAnyX_take (i:=20) (v:=undef) rfl (by kernel_rfl) (by kernel_rfl) (by kernel_rfl) (by kernel_rfl) (fun _ _ _ h=>h) (Or.inr ⟨by rfl,rfl⟩) (by assumption) ?xr20w;(try simp only [Act.put,List.setIfInBounds_toArray,List.set_cons_zero,List.set_cons_succ,List.getElem_toArray,List.getElem_cons_zero,List.getElem_cons_succ])
        refine wpAnyX_take (i:=21) (v:=undef) rfl (by kernel_rfl) (by kernel_rfl) (by kernel_rfl) (by kernel_rfl) (fun _ _ _ h=>h) (Or.inr ⟨by rfl,rfl⟩) (by assumption) ?xr21w;(try simp only [Act.put,List.setIfInBounds_toArray,List.set_cons_zero,List.set_cons_succ,List.getElem_toArray,List.getElem_cons_zero,List.getElem_cons_succ])
        refine wpAnyX_take (i:=22) (v:=undef) rfl (by kernel_rfl) (by kernel_rfl) (by kernel_rfl) (by kernel_rfl) (fun _ _ _ h=>h) (Or.inr ⟨by rfl,rfl⟩) (by assumption) ?xr22w;(try simp only [Act.put,List.setIfInBounds_toArray,List.set_cons_zero,List.set_cons_succ,List.getElem_toArray,List.getElem_cons_zero,List.getElem_cons_succ])
        refine wpAnyX_take (i:=23) (v:=undef) rfl (by kernel_rfl) (by kernel_rfl) (by kernel_rfl) (by kernel_rfl) (fun _ _ _ h=>h) (Or.inr ⟨by rfl,rfl⟩) (by assumption) ?xr23w;(try simp only [Act.put,List.setIfInBounds_toArray,List.set_cons_zero,List.set_cons_succ,List.getElem_toArray,List.getElem_cons_zero,List.getElem_cons_succ])
        refine wpAnyX_take (i:=24) (v:=undef) rfl (by kernel_rfl) (by kernel_rfl) (by kernel_rfl) (by kernel_rfl) (fun _ _ _ h=>h) (Or.inr ⟨by rfl,rfl⟩) (by assumption) ?xr24w;(try simp only [Act.put,List.setIfInBounds_toArray,List.set_cons_zero,List.set_cons_succ,List.getElem_toArray,List.getElem_cons_zero,List.getElem_cons_succ])
        refine wpAnyX_take (i:=25) (v:=undef) rfl (by kernel_rfl) (by kernel_rfl) (by kernel_rfl) (by kernel_rfl) (fun _ _ _ h=>h) (Or.inr ⟨by rfl,rfl⟩) (by assumption) ?xr25w;(try simp only [Act.put,List.setIfInBounds_toArray,List.set_cons_zero,List.set_cons_succ,List.getElem_toArray,List.getElem_cons_zero,List.getElem_cons_succ])
        refine wpAnyX_take (i:=26) (v:=undef) rfl (by kernel_rfl) (by kernel_rfl) (by kernel_rfl) (by kernel_rfl) (fun _ _ _ h=>h) (Or.inr ⟨by rfl,rfl⟩) (by assumption) ?xr26w;(try simp only [Act.put,List.setIfInBounds_toArray,List.set_cons_zero,List.set_cons_succ,List.getElem_toArray,List.getElem_cons_zero,List.getElem_cons_succ])
        refine wpAnyX_take (i:=27) (v:=undef) rfl (by kernel_rfl) (by kernel_rfl) (by kernel_rfl) (by kernel_rfl) (fun _ _ _ h=>h) (Or.inr ⟨by rfl,rfl⟩) (by assumption) ?xr27w;(try simp only [Act.put,List.setIfInBounds_toArray,List.set_cons_zero,List.set_cons_succ,List.getElem_toArray,List.getElem_cons_zero,List.getElem_cons_succ])
        refine wpAnyX_take (i:=28) (v:=undef) rfl (by kernel_rfl) (by kernel_rfl) (by kernel_rfl) (by kernel_rfl) (fun _ _ _ h=>h) (Or.inr ⟨by rfl,rfl⟩) (by assumption) ?xr28w;(try simp only [Act.put,List.setIfInBounds_toArray,List.set_cons_zero,List.set_cons_succ,List.getElem_toArray,List.getElem_cons_zero,List.getElem_cons_succ])
        refine wpAnyX_take (i:=29) (v:=undef) rfl (by kernel_rfl) (by kernel_rfl) (by kernel_rfl) (by kernel_rfl) (fun _ _ _ h=>h) (Or.inr ⟨by rfl,rfl⟩) (by assumption) ?xr29w;(try simp only [Act.put,List.setIfInBounds_toArray,List.set_cons_zero,List.set_cons_succ,List.getElem_toArray,List.getElem_cons_zero,List.getElem_cons_succ])
        refine wpAnyX_take (i:=30) (v:=undef) rfl (by kernel_rfl) (by kernel_rfl) (by kernel_rfl) (by kernel_rfl) (fun _ _ _ h=>h) (Or.inr ⟨by rfl,rfl⟩) (by assumption) ?xr30w;(try simp only [Act.put,List.setIfInBounds_toArray,List.set_cons_zero,List.set_cons_succ,List.getElem_toArray,List.getElem_cons_zero,List.getElem_cons_succ])
        refine wpAnyX_tq 31 ?_
        refine wpAnyX_done (by kernel_rfl) ?_ _
        go_wp2_with fail
        go_meet
        exact ⟨by simp [hcv],below_by⟩
    case rest=>
     obtain ⟨rfl,hbw⟩:=hcut
     have X2:=X.below' hbw;have T2:=T1.below' hbw
     have q2:Below w.heap.size w wc:=bstep q (bstep bX hbw)
     have hx2:=X2.lt
     have ht2:=T2.lt
     clear X T1 HCK hbw bX T HOB HOB1
     (try clear cX2 fX2);have cX2:=X2.cell;have fX2:=X2.frozen;(try clear cT2 fT2);have cT2:=T2.cell;have fT2:=T2.frozen
     cases hb1:(decide (xk.size<1) || decide (12<xk.size) || cv != 0 || ob) with
     | true=>
      have hD:CS=13:=by rw [HCS.out];exact HSB.out (by rw [HBAD.out,hb1];rfl)
      clear HNB HSB HBAD HCS
      subst hD
      go_wp2_with fail
      go_ret
      exact ⟨rfl,q2⟩
     | false=>
      have hbd:=HBAD.out
      rw [hb1,Bool.false_or] at hbd
      by_cases ht0:xt=0
      ·have hf:entBad now l k=false:=by rw [hbd];simp [ht0]
       have HQ2:Hid (∀ j<k+1,entBad now l j=false):=hide fun j hj=>HNB.out j hj hf
       clear hbd hf HBAD HSB HNB HQ
       subst ht0
       go_wp2_with fail
       go_roundw
       case rel=>exact ⟨k+1,by omega,by go_num,T2,HQ2,q2⟩
       case measure=>simp [intOf];omega
      ·have ht0':(xt == 0)=false:=by rw [beq_eq_false_iff_ne];exact ht0
       by_cases ht1:xt≤now
       ·have hD:CS=13:=by rw [HCS.out];exact HSB.out (by rw [hbd];simp [ht0,ht1])
        clear hbd HNB HSB HBAD HCS
        subst hD
        go_wp2_with fail
        go_ret
        exact ⟨rfl,q2⟩
       ·by_cases ht2:1073741824<xt
        ·have hD:CS=13:=by rw [HCS.out];exact HSB.out (by rw [hbd];simp [ht0,ht2])
         clear hbd HNB HSB HBAD HCS
         subst hD
         go_wp2_with fail
         go_ret
         exact ⟨rfl,q2⟩
        ·have hf:entBad now l k=false:=by rw [hbd];simp [ht0];omega
         have HQ2:Hid (∀ j<k+1,entBad now l j=false):=hide fun j hj=>HNB.out j hj hf
         clear hbd hf HBAD HSB HNB HQ
         go_wp2_with fail
         go_roundw
         case rel=>exact ⟨k+1,by omega,by go_num,T2,HQ2,q2⟩
         case measure=>simp [intOf];omega
   ·obtain rfl:k=n:=by omega
    have hD:CS=0:=by rw [HCS.out];exact store_good H0.out (fun j hj=>HQ.out j (by have:=HLN.out;omega))
    clear HCS HQ
    subst hD
    go_wp2_with fail
    go_ret
    exact ⟨rfl,q⟩
theorem wpList_push_g {P:Program} {w:World} {ops:Array Oper} {rest:List Oper} {o:Oper} {a:Act} {Q:Exit→Act→World→Prop} (hgd:o.guard=none) (s x:Operand) (t:TypeId)
  (ho:o.op = .call { callee:=.builtin .append,args:=#[s,x],argTypes:=#[t,t] })
  {base:Nat} {e:TypeId} {z:Value} {size bytes:Nat} (ht:P.underlying t=some (.slice e)) (hi:(P.info? e).map (fun i=>(i.zero,i.size,i.bytes))=some (some z,size,bytes)) (hzs:z.cells.size=size) (hsz:0<size)
  {A:Option Addr} {n c:Nat} {rows:List (List Value)} (hs:a.eval s = .slice A n c) (hown:Own w base e size (.slice A n c) rows) {H:Nat} (hH:w.heap.size=H) {row:Array Value} (hx:a.eval x = .slice (some ⟨H,0,none⟩) 1 1) (hl:row.size=size) (h1:∀ u∈row.toList,u.oneCell'=true)
  (h63:rows.length+1≤maxLen) (hbytes:(rows.length+1)*bytes≤140737488355328) (hbase:base≤w.heap.size)
  (h:∀ A' n' c' w',Own w' base e size (.slice A' n' c') (rows ++ [row.toList])→(w.alloc (.cells row e)).grownBy w' (Value.slice A n c).ownBlock→wpList P ops Q rest (a.put o.dst (.slice A' n' c')) w'):wpList P ops Q (o :: rest) a (w.alloc (.cells row e)):=by
 subst hH
 obtain ⟨i,hi1,hi2,hi3,hi4⟩:=info_parts hi
 refine wpList_append_own _ hgd s x t ho base e i z size bytes ht hi1 hi2 hi3 hi4 hzs hsz (.slice A n c) rows.length rows.flatten hs (hown.alloc _).1 ⟨w.heap.size,0,none⟩ 1 1 row.toList hx (by simp [hl]) ?_ h1 h63 hbytes (by simp;omega) ?_
 ·intro j u hu
  rw [Addr.add_lit]
  simp only [Nat.zero_add]
  rw [World.cell?_alloc_new,←Array.getElem?_toList];exact hu
 ·intro v' w' h2 h3 _
  have ho2:Own w' base e size v' (rows ++ [row.toList]):=by
   refine ⟨by simpa using h2,fun r hr=>?_⟩
   rcases List.mem_append.1 hr with hr|hr
   ·exact hown.2 r hr
   ·simp at hr;subst hr;simpa using hl
  obtain ⟨A',c',rfl,_⟩:=ho2.sl
  exact h A' _ c' w' ho2 h3
attribute [local go_sem ↓] Go.wp_at_zero Go.wp_at_succ
def Kd (w:World) (B g:Nat) (now:Int) (l:List En) (a:Int) (t:Bool):Prop:=
 ∃ A n c,Blk w g 171 #[.int .i64 now,.slice A n c,.int .i64 a,.bool t]∧StOwn w B A n c l
structure KMov (B:Nat) (w w':World):Prop where
 bel:Below B w w'
 frm:∀ k t cs,Blk w k t cs→t≠84→t≠171→Blk w' k t cs
section
variable {w w' w'':World} {B g:Nat} {t:TypeId} {cs:Array Value}
theorem KMov.refl (B:Nat) (w:World):KMov B w w:=⟨Below.refl _ _,fun _ _ _ h _ _=>h⟩
theorem KMov.size (h:KMov B w w'):w.heap.size≤w'.heap.size:=h.bel.size
end
def setS (l:List En) (k:Nat) (t:Bool) (c:Cmd) (v:Va):List En:=
 match (if t=true then l else insRows l k ⟨c.key,zeroVa,0⟩)[k]? with
 | none=>l
 | some x=>(if t=true then l else insRows l k ⟨c.key,zeroVa,0⟩).set k ⟨x.key,v,if c.kind=1 then 0 else x.till⟩
def timedS (now:Int) (l:List En) (k:Nat) (t:Bool) (c:Cmd):List En×Re:=
 if t=false then (l,failR 5) else
 match l[k]? with
 | none=>(l,failR 5)
 | some x=>if c.kind=21 then (l,toldR (max (x.till - now) 0)) else if c.n<1∨1073741824 - now<c.n then (l,failR 2) else (l.set k ⟨x.key,x.val,now+c.n⟩,toldR 0)
end Go.Proofs.YtgdcofbnbiclmaaGreatDoor

