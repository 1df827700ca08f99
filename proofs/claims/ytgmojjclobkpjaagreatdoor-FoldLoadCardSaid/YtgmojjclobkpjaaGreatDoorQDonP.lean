import Derived.Test.YtgmojjclobkpjaaGreatDoorQDo
namespace Go.Proofs.YtgmojjclobkpjaaGreatDoor
set_option linter.all false
set_option maxHeartbeats 32000000
open Go.RowKit
def zeroVa:Va:=⟨0,emp,0,[],[],[]⟩
def zeroRe:Re:=⟨0,emp,0,[]⟩
def noneVal (v:Va):Bool:=v.kind == 0 && v.text.toList.isEmpty && v.count == 0 && v.size == 0
def ccOf (c:Cmd):Int:=checkCommand c.kind c.key c.field c.text c.n
def wrongKind (v:Va) (c:Cmd):Bool:=(kindC c.kind != 0 && kindC c.kind != v.kind) || (decide (17≤c.kind) && decide (v.kind<3))
def behind (v:Va) (r:Va×Re):Va×Re:=if r.2.code≠0 then (v,r.2) else if 3≤r.1.kind∧r.1.size=0 then (zeroVa,r.2) else r
def doneKind (v:Va) (c:Cmd):Va:=if noneVal v=true then { v with kind:=kindC c.kind } else v
def doneVal (v:Va) (c:Cmd):Va×Re×Int:=
 if checkValue v≠0∧noneVal v=false then (zeroVa,zeroRe,checkValue v)
 else if ccOf c≠0 then (zeroVa,zeroRe,ccOf c)
 else if 18<c.kind then (zeroVa,zeroRe,3)
 else if noneVal v=true∧makesC c.kind=false then (v,failR 5,0)
 else if noneVal v=false∧wrongKind v c=true then (v,failR 4,0)
 else ((behind v (doVal (doneKind v c) c)).1,(behind v (doVal (doneKind v c) c)).2,0)
structure Good (v:Va):Prop where
 k1:1≤v.kind
 k6:v.kind≤6
 form:formBad v=false
 size:sizeBad v=false
 text:textBad v=false
 pairs:pairsBad v=false
 members:membersBad v=false
 count:countBad v=false
 order:orderOk v=true
theorem good_of {v:Va} (h:checkValue v=0):Good v:=by
 unfold checkValue at h
 split at h
 ·cases h
 rename_i h0
 (repeat' split at h) <;> first|cases h|skip
 rename_i h1 h2 h3 h4 h5 h6 h7
 exact ⟨by omega,by omega,by simpa using h1,by simpa using h2,by simpa using h3,by simpa using h4,by simpa using h5,by simpa using h6,h7⟩
theorem good_to {v:Va} (h:Good v):checkValue v=0:=by
 obtain ⟨h1,h2,h3,h4,h5,h6,h7,h8,h9⟩:=h
 unfold checkValue
 rw [if_neg (by omega)]
 simp [h3,h4,h5,h6,h7,h8,h9]
theorem Good.forms {v:Va} (h:Good v):(v.kind=1∨v.text.toList.isEmpty=true)∧(v.kind=2∨v.count=0)∧(v.kind=3∨v.pairs.length=0)∧(v.kind=4∨v.kind=5∨v.items.length=0)∧(v.kind=6∨v.scores.length=0):=by
 have:=h.form
 unfold formBad at this
 simp only [Bool.not_eq_false',Bool.and_eq_true,Bool.or_eq_true,beq_iff_eq] at this
 obtain ⟨⟨⟨⟨a,b⟩,c⟩,d⟩,e⟩:=this
 exact ⟨a,b,c,by omega,e⟩
theorem Good.sizes {v:Va} (h:Good v):v.pairs.length≤20∧v.items.length≤20∧v.scores.length≤20∧(3≤v.kind→1≤v.size):=by
 obtain ⟨f1,f2,f3,f4,f5⟩:=h.forms
 have:=h.size
 unfold sizeBad at this
 simp only [Bool.and_eq_false_iff,Bool.or_eq_false_iff,decide_eq_false_iff_not] at this
 unfold Va.size at this ⊢
 have h1:=h.k1;have h6:=h.k6
 omega
theorem Good.counts {v:Va} (h:Good v) : -1099511627776≤v.count∧v.count≤1099511627776:=by
 have:=h.count
 unfold countBad countOk at this
 simp only [Bool.or_eq_false_iff,Bool.not_eq_false',Bool.and_eq_true,decide_eq_true_eq] at this
 exact this.1
theorem Good.rises {v:Va} (h:Good v):risesBy (fun a b:Pr=>cmpB a.field b.field) v.pairs=true∧risesBy cmpS v.scores=true∧(v.kind=5→risesBy cmpB v.items=true):=by
 have:=h.order
 unfold orderOk risesOk at this
 simp only [Bool.and_eq_true,Bool.or_eq_true,bne_iff_ne] at this
 obtain ⟨⟨⟨a,b⟩,c⟩,_⟩:=this
 exact ⟨a,b,fun h5=>by rcases c with c|c;exact absurd h5 c;exact c⟩
theorem none_eq {v:Va} (h:noneVal v=true):v=zeroVa:=by
 unfold noneVal Va.size at h
 simp only [Bool.and_eq_true,beq_iff_eq] at h
 obtain ⟨⟨⟨a,b⟩,c⟩,d⟩:=h
 obtain ⟨k,t,n,ps,is_,ss⟩:=v
 simp only at a b c d
 have e1:ps=[]:=List.eq_nil_of_length_eq_zero (by omega)
 have e2:is_=[]:=List.eq_nil_of_length_eq_zero (by omega)
 have e3:ss=[]:=List.eq_nil_of_length_eq_zero (by omega)
 have e4:t=emp:=by
  rw [List.isEmpty_iff,Lib.toList_data] at b
  exact bytes_ext (by rw [b];rfl)
 subst a;subst c;subst e1;subst e2;subst e3;subst e4;rfl
structure Meets (v:Va) (c:Cmd):Prop where
 l1:v.pairs.length≤20
 l2:v.items.length≤20
 l3:v.scores.length≤20
 fit:fits c.kind v.kind
 r1:v.kind=3→risesBy (fun a b:Pr=>cmpB a.field b.field) v.pairs=true
 r2:v.kind=5→risesBy cmpB v.items=true
 r3:v.kind=6→risesBy cmpS v.scores=true
 pos:v.kind=4→9≤c.kind→0<v.items.length
 k1 : -1099511627776≤v.count
 k2:v.count≤1099511627776
theorem cc_kind {c:Cmd} (h:ccOf c=0):1≤c.kind∧c.kind≤22∧-1099511627776≤c.n∧c.n≤1099511627776:=by
 unfold ccOf checkCommand at h
 split at h
 ·cases h
 rename_i h0
 (repeat' split at h) <;> first|cases h|skip
 rename_i h3
 unfold countOk at h3
 simp only [Bool.not_eq_false,Bool.and_eq_true,decide_eq_true_eq] at h3
 exact ⟨by omega,by omega,h3.1,h3.2⟩
theorem fit_of {v:Va} {c:Cmd} (h1:¬ (checkValue v≠0∧noneVal v=false)) (h2:ccOf c=0) (h3:¬ 18<c.kind) (h4:¬ (noneVal v=true∧makesC c.kind=false)) (h5:¬ (noneVal v=false∧wrongKind v c=true)):Meets (doneKind v c) c:=by
 obtain ⟨c1,c2,_,_⟩:=cc_kind h2
 unfold doneKind
 by_cases hn:noneVal v=true
 ·rw [if_pos hn]
  have hv:=none_eq hn
  subst hv
  have hm:makesC c.kind=true:=by
   cases h:makesC c.kind with
   | true=>rfl
   | false=>exact absurd ⟨hn,h⟩ h4
  unfold makesC at hm
  simp only [Bool.or_eq_true,beq_iff_eq] at hm
  have hf:fits c.kind (kindC c.kind):=by
   unfold fits
   rcases hm with (((((h|h)|h)|h)|h)|h)|h <;> rw [h] <;> simp [kindC]
  refine ⟨by simp [zeroVa],by simp [zeroVa],by simp [zeroVa],hf,fun _=>rfl,fun _=>rfl,fun _=>rfl,fun h4 h9=>?_,by simp [zeroVa],by simp [zeroVa]⟩
  exfalso
  have h4':kindC c.kind=4:=h4
  rcases hm with (((((h|h)|h)|h)|h)|h)|h <;> rw [h] at h4' h9 <;> simp [kindC] at h4' h9
 ·rw [if_neg hn]
  have hnf:noneVal v=false:=by simpa using hn
  have hg:Good v:=good_of (Decidable.byContradiction fun h=>h1 ⟨h,hnf⟩)
  obtain ⟨s1,s2,s3,s4⟩:=hg.sizes
  obtain ⟨r1,r2,r3⟩:=hg.rises
  obtain ⟨f1,f2,f3,f4,f5⟩:=hg.forms
  have hw:wrongKind v c=false:=by
   cases h:wrongKind v c with
   | false=>rfl
   | true=>exact absurd ⟨hnf,h⟩ h5
  unfold wrongKind at hw
  simp only [Bool.or_eq_false_iff,Bool.and_eq_false_iff,bne_eq_false_iff_eq,decide_eq_false_iff_not] at hw
  have k1:=hg.k1;have k6:=hg.k6
  refine ⟨s1,s2,s3,?_,fun _=>r1,r3,fun _=>r2,fun h4 _=>?_,hg.counts.1,hg.counts.2⟩
  ·obtain ⟨w1,w2⟩:=hw
   have hc:c.kind=1∨c.kind=2∨c.kind=3∨c.kind=4∨c.kind=5∨c.kind=6∨c.kind=7∨c.kind=8∨c.kind=9∨c.kind=10∨c.kind=11∨c.kind=12∨c.kind=13∨c.kind=14∨c.kind=15∨c.kind=16∨c.kind=17∨c.kind=18:=by omega
   clear h1 h2 h3 h4 h5 s1 s2 s3 s4 r1 r2 r3 f1 f2 f3 f4 f5 hg
   generalize c.kind=k at *
   rcases hc with rfl|rfl|rfl|rfl|rfl|rfl|rfl|rfl|rfl|rfl|rfl|rfl|rfl|rfl|rfl|rfl|rfl|rfl <;> simp [kindC] at w1 <;> simp [fits] <;> omega
  ·have:=s4 (by omega)
   unfold Va.size at this
   omega
theorem ins_len {α:Type} (l:List α) (i:Nat) (x:α):(insRows l i x).length=l.length+1:=by
 unfold insRows
 simp only [List.length_append,List.length_take,List.length_drop,List.length_singleton]
 omega
theorem del_len {α:Type} (l:List α) (i:Nat):(delRows l i).length≤l.length:=(del_sub l i).length_le
def small (v:Va) (n:Nat):Prop:=v.pairs.length≤n∧v.items.length≤n∧v.scores.length≤n
theorem do_len {v:Va} {c:Cmd} (h:small v 20):small (doVal v c).1 21:=by
 obtain ⟨h1,h2,h3⟩:=h
 have hs:small v 21:=⟨by omega,by omega,by omega⟩
 unfold doVal
 split
 ·exact ⟨by simp,by simp,by simp⟩
 split
 ·exact hs
 split
 ·unfold doAdd;split
  ·exact hs
  ·exact hs
 split
 ·exact hs
 split
 ·exact hs
 split
 ·unfold doHash
  have e1:=ins_len v.pairs (pairAt c.field v.pairs) ⟨c.field,c.text⟩
  have e2:=del_len v.pairs (pairAt c.field v.pairs)
  (repeat' split) <;> first|exact hs|(refine ⟨?_,?_,?_⟩ <;> simp only [List.length_set] <;> omega)
 split
 ·unfold doList
  have e1:=ins_len v.items 0 c.text
  (repeat' split) <;> first|exact hs|(refine ⟨?_,?_,?_⟩ <;> simp only [List.length_append,List.length_take,List.length_drop,List.length_singleton] <;> omega)
 split
 ·unfold doSet
  have e1:=ins_len v.items (textAt c.text v.items) c.text
  have e2:=del_len v.items (textAt c.text v.items)
  (repeat' split) <;> first|exact hs|(refine ⟨?_,?_,?_⟩ <;> simp only [] <;> omega)
 ·unfold doRank putScore
  split
  ·have e1:=ins_len v.scores (scoreAt ⟨c.text,c.n⟩ v.scores) ⟨c.text,c.n⟩
   (repeat' split) <;> first|exact hs|(refine ⟨?_,?_,?_⟩ <;> simp only [] <;> omega)
  ·rename_i k _
   have e2:=del_len v.scores k
   have e1:=ins_len (delRows v.scores k) (scoreAt ⟨c.text,c.n⟩ (delRows v.scores k)) ⟨c.text,c.n⟩
   (repeat' split) <;> first|exact hs|(refine ⟨?_,?_,?_⟩ <;> simp only [] <;> omega)
def Rp (a b:Pr):Prop:=cmpB a.field b.field<0
def Ri (a b:ByteArray):Prop:=cmpB a b<0
def Rs (a b:Sc):Prop:=cmpS a b<0
def Rm (a b:Sc):Prop:=a.member≠b.member
structure Ok (v:Va):Prop where
 k1:1≤v.kind
 k6:v.kind≤6
 ft:v.kind=1∨v.text=emp
 fc:v.kind=2∨v.count=0
 fp:v.kind=3∨v.pairs=[]
 fi:v.kind=4∨v.kind=5∨v.items=[]
 fs:v.kind=6∨v.scores=[]
 np:v.pairs.length≤20
 ni:v.items.length≤20
 ns:v.scores.length≤20
 tt:v.text.size≤20
 ti:∀ s∈v.items,s.size≤20
 tp:∀ x∈v.pairs,(1≤x.field.size∧x.field.size≤12)∧x.text.size≤20
 tm:∀ x∈v.scores,x.member.size≤20
 cc : -1099511627776≤v.count∧v.count≤1099511627776
 cs:∀ x∈v.scores,-1099511627776≤x.n∧x.n≤1099511627776
 rp:v.pairs.Pairwise Rp
 ri:v.kind=5→v.items.Pairwise Ri
 rs:v.scores.Pairwise Rs
 un:v.scores.Pairwise Rm
theorem empty_iff {s:ByteArray}:s.toList.isEmpty=true ↔ s=emp:=by
 rw [List.isEmpty_iff,Lib.toList_data]
 refine ⟨fun h=>bytes_ext (by rw [h];rfl),fun h=>by rw [h];rfl⟩
theorem nil_iff {α:Type} {l:List α}:l.length=0 ↔ l=[]:=List.length_eq_zero_iff
theorem eqb_iff {a b:ByteArray}:(a.toList == b.toList)=true ↔ a=b:=by
 rw [beq_cmpB,beq_iff_eq,cmpB_eq]
theorem rank_neg {l:List Sc} {m:ByteArray}:rankOf l m<0 ↔ ∀ x∈l,x.member≠m:=by
 have h:=idx_any (l:=l) (p:=fun x:Sc=>x.member.toList == m.toList)
 unfold rankOf
 constructor
 ·intro hlt x hx he
  have:(l.any fun x=>x.member.toList == m.toList)=true:=List.any_eq_true.2 ⟨x,hx,by rw [eqb_iff];exact he⟩
  rw [←h] at this;omega
 ·intro hall
  rcases Int.lt_or_le (idxFn (l.findIdx? fun x:Sc=>x.member.toList == m.toList)) 0 with h1|h1
  ·exact h1
  ·have h2:(l.any fun x=>x.member.toList == m.toList)=true:=by rw [←h];exact h1
   obtain ⟨x,hx,hp⟩:=List.any_eq_true.1 h2
   rw [eqb_iff] at hp
   exact absurd hp (hall x hx)
theorem once_iff {l:List Sc}:once l l.length=true ↔ l.Pairwise Rm:=by
 unfold once
 rw [List.all_eq_true,List.pairwise_iff_getElem]
 constructor
 ·intro h i j hi hj hij
  have:=h j (List.mem_range.2 hj)
  rw [List.getElem?_eq_getElem hj] at this
  have h2:=rank_neg.1 (of_decide_eq_true this)
  exact h2 _ (by rw [List.mem_take_iff_getElem];exact ⟨i,by omega,rfl⟩)
 ·intro h j hj
  have hj:=List.mem_range.1 hj
  rw [List.getElem?_eq_getElem hj]
  refine decide_eq_true (rank_neg.2 fun x hx=>?_)
  rw [List.mem_take_iff_getElem] at hx
  obtain ⟨i,hi,rfl⟩:=hx
  exact h i j (by omega) hj (by omega)
theorem fieldOk_iff {s:ByteArray}:fieldOk s=true ↔ 1≤s.size∧s.size≤12:=by simp [fieldOk]
theorem textOk_iff {s:ByteArray}:textOk s=true ↔ s.size≤20:=by simp [textOk]
theorem countOk_iff {n:Int}:countOk n=true ↔ -1099511627776≤n∧n≤1099511627776:=by simp [countOk]
theorem good_ok {v:Va} (h:Good v):Ok v:=by
 obtain ⟨a,b,c,d,e⟩:=h.forms
 obtain ⟨s1,s2,s3,s4⟩:=h.sizes
 obtain ⟨r1,r2,r3⟩:=h.rises
 have ht:=h.text;have hp:=h.pairs;have hm:=h.members;have hc:=h.count;have ho:=h.order
 unfold textBad at ht
 unfold pairsBad at hp
 unfold membersBad at hm
 unfold countBad at hc
 unfold orderOk at ho
 simp only [Bool.or_eq_false_iff,Bool.not_eq_false',List.any_eq_false,Bool.not_eq_true',Bool.not_eq_false,Bool.or_eq_true,not_or] at ht hp hm hc
 rw [Bool.and_eq_true] at ho
 refine ⟨h.k1,h.k6,?_,b,by rwa [nil_iff] at c,by rwa [nil_iff] at d,by rwa [nil_iff] at e,s1,s2,s3,textOk_iff.1 ht.1,fun s hs=>textOk_iff.1 (ht.2 s hs),fun x hx=>⟨fieldOk_iff.1 (hp x hx).1,textOk_iff.1 (hp x hx).2⟩,fun x hx=>textOk_iff.1 (hm x hx),countOk_iff.1 hc.1,fun x hx=>countOk_iff.1 (hc.2 x hx),?_,?_,?_,once_iff.1 ho.2⟩
 ·rw [empty_iff] at a;exact a
 ·exact (rises_pair (cmp:=fun a b:Pr=>cmpB a.field b.field) (fun _ _ _=>cmpB_trans)).1 r1
 ·exact fun h5=>(rises_pair (cmp:=cmpB) (fun _ _ _=>cmpB_trans)).1 (r3 h5)
 ·exact (rises_pair (cmp:=cmpS) (fun _ _ _=>cmpS_trans)).1 r2
theorem ok_good {v:Va} (h:Ok v) (hs:3≤v.kind→1≤v.size):Good v:=by
 obtain ⟨k1,k6,ft,fc,fp,fi,fs,np,ni,ns,tt,ti,tp,tm,cc,cs,rp,ri,rs,un⟩:=h
 refine ⟨k1,k6,?_,?_,?_,?_,?_,?_,?_⟩
 ·unfold formBad
  rw [←empty_iff] at ft
  rw [←nil_iff] at fp fs
  simp only [Bool.not_eq_false',Bool.and_eq_true,Bool.or_eq_true,beq_iff_eq]
  refine ⟨⟨⟨⟨ft,fc⟩,fp⟩,?_⟩,fs⟩
  rcases fi with h|h|h
  ·exact .inl (.inl h)
  ·exact .inl (.inr h)
  ·exact .inr (nil_iff.2 h)
 ·unfold sizeBad
  have:v.size≤20:=by
   unfold Va.size
   rcases fp with h|h <;> rcases fs with h'|h' <;> rcases fi with h''|h''|h'' <;> first|(exfalso;omega;done)|(rw [←nil_iff] at *;omega)
  by_cases h3:3≤v.kind
  ·have:=hs h3
   simp;omega
  ·simp;omega
 ·unfold textBad
  simp only [Bool.or_eq_false_iff,Bool.not_eq_false',List.any_eq_false,Bool.not_eq_true',Bool.not_eq_false]
  exact ⟨textOk_iff.2 tt,fun s hs=>textOk_iff.2 (ti s hs)⟩
 ·unfold pairsBad
  simp only [List.any_eq_false,Bool.or_eq_true,Bool.not_eq_true',not_or,Bool.not_eq_false]
  exact fun x hx=>⟨fieldOk_iff.2 (tp x hx).1,textOk_iff.2 (tp x hx).2⟩
 ·unfold membersBad
  simp only [List.any_eq_false,Bool.not_eq_true',Bool.not_eq_false]
  exact fun x hx=>textOk_iff.2 (tm x hx)
 ·unfold countBad
  simp only [Bool.or_eq_false_iff,Bool.not_eq_false',List.any_eq_false,Bool.not_eq_true',Bool.not_eq_false]
  exact ⟨countOk_iff.2 cc,fun x hx=>countOk_iff.2 (cs x hx)⟩
 ·unfold orderOk risesOk
  rw [Bool.and_eq_true,Bool.and_eq_true,Bool.and_eq_true]
  refine ⟨⟨⟨(rises_pair (cmp:=fun a b:Pr=>cmpB a.field b.field) (fun _ _ _=>cmpB_trans)).2 rp,(rises_pair (cmp:=cmpS) (fun _ _ _=>cmpS_trans)).2 rs⟩,?_⟩,once_iff.2 un⟩
  by_cases h5:v.kind=5
  ·rw [Bool.or_eq_true];exact .inr ((rises_pair (cmp:=cmpB) (fun _ _ _=>cmpB_trans)).2 (ri h5))
  ·rw [Bool.or_eq_true];exact .inl (by simpa using h5)
section
variable {α:Type} {R:α→α→Prop} {l:List α} {x y:α} {k:Nat}
theorem mem_ins:y∈insRows l k x ↔ y=x∨y∈l:=by
 unfold insRows
 have h:y∈l ↔ y∈l.take k∨y∈l.drop k:=by rw [←List.mem_append,List.take_append_drop]
 rw [List.mem_append,List.mem_append,List.mem_singleton,h]
 constructor
 ·rintro ((h|h)|h)
  ·exact .inr (.inl h)
  ·exact .inl h
  ·exact .inr (.inr h)
 ·rintro (h|h|h)
  ·exact .inl (.inr h)
  ·exact .inl (.inl h)
  ·exact .inr h
theorem mem_del (h:y∈delRows l k):y∈l:=(del_sub l k).mem h
theorem ins_pair (h:l.Pairwise R) (h1:∀ t (ht:t<l.length),t<k→R l[t] x) (h2:∀ t (ht:t<l.length),k≤t→R x l[t]):(insRows l k x).Pairwise R:=by
 have hh:(l.take k ++ l.drop k).Pairwise R:=by rw [List.take_append_drop];exact h
 rw [List.pairwise_append] at hh
 unfold insRows
 rw [List.pairwise_append,List.pairwise_append]
 have m1:∀ a∈l.take k,R a x:=by
  intro a ha
  rw [List.mem_take_iff_getElem] at ha
  obtain ⟨i,hi,rfl⟩:=ha
  exact h1 i (by omega) (by omega)
 have m2:∀ a∈l.drop k,R x a:=by
  intro a ha
  rw [List.mem_drop_iff_getElem] at ha
  obtain ⟨i,hi,rfl⟩:=ha
  exact h2 (k+i) (by omega) (by omega)
 refine ⟨⟨hh.1,List.pairwise_singleton _ _,fun a ha b hb=>by rw [List.mem_singleton] at hb;subst hb;exact m1 a ha⟩,hh.2.1,fun a ha b hb=>?_⟩
 rcases List.mem_append.1 ha with ha|ha
 ·exact hh.2.2 a ha b hb
 ·rw [List.mem_singleton] at ha;subst ha;exact m2 b hb
theorem ins_pair_sym (hsym:∀ a b,R a b→R b a) (h:l.Pairwise R) (h1:∀ y∈l,R y x):(insRows l k x).Pairwise R:=
 ins_pair h (fun _ ht _=>h1 _ (List.getElem_mem ht)) (fun _ ht _=>hsym _ _ (h1 _ (List.getElem_mem ht)))
theorem del_pair (h:l.Pairwise R):(delRows l k).Pairwise R:=h.sublist (del_sub l k)
end
theorem ins_len' {α:Type} (l:List α) (i:Nat) (x:α):(insRows l i x).length=l.length+1:=ins_len l i x
theorem del_len' {α:Type} (l:List α) {i:Nat} (h:i<l.length):(delRows l i).length=l.length - 1:=by
 unfold delRows
 rw [List.length_append,List.length_take,List.length_drop];omega
theorem found_not {α:Type} {l:List α} {k:Nat} {p:α→Bool} (h:foundAt l k p=false) (hk:k<l.length):p l[k]=false:=by rwa [foundAt_lt hk] at h
theorem cmpB_pos {a b:ByteArray} (h:0<cmpB a b):cmpB b a<0:=by have:=cmpB_neg a b;omega
theorem cmpS_pos {a b:Sc} (h:0<cmpS a b):cmpS b a<0:=by have:=cmpS_neg a b;omega
theorem pairs_ins {l:List Pr} {f t:ByteArray} (h:l.Pairwise Rp) (hn:pairHas f l=false):(insRows l (pairAt f l) ⟨f,t⟩).Pairwise Rp:=by
 have hr:risesBy (fun a b:Pr=>cmpB a.field b.field) l=true:=(rises_pair (cmp:=fun a b:Pr=>cmpB a.field b.field) (fun _ _ _=>cmpB_trans)).2 h
 refine ins_pair h (fun i hi hk=>pair_h1 i hi hk) (fun i hi hk=>?_)
 have h0:=pair_h2 (f:=f) hr i hi hk
 have hne:cmpB l[i].field f≠0:=by
  intro e
  rcases Nat.lt_or_eq_of_le hk with hlt|heq
  ·have h2:=pair_h2 (f:=f) hr (pairAt f l) (by omega) (Nat.le_refl _)
   have h3:cmpB (l[pairAt f l]'(by omega)).field l[i].field<0:=rises_lt (cmp:=fun a b:Pr=>cmpB a.field b.field) (fun _ _ _=>cmpB_trans) hr hlt hi
   rw [cmpB_eq] at e
   rw [e] at h3;omega
  ·subst heq
   have:=found_not hn hi
   rw [e] at this;simp at this
 show cmpB f l[i].field<0
 exact cmpB_pos (by omega)
theorem items_ins {l:List ByteArray} {f:ByteArray} (h:l.Pairwise Ri) (hn:textHas f l=false):(insRows l (textAt f l) f).Pairwise Ri:=by
 have hr:risesBy cmpB l=true:=(rises_pair (cmp:=cmpB) (fun _ _ _=>cmpB_trans)).2 h
 refine ins_pair h (fun i hi hk=>text_h1 i hi hk) (fun i hi hk=>?_)
 have h0:=text_h2 (f:=f) hr i hi hk
 have hne:cmpB l[i] f≠0:=by
  intro e
  rcases Nat.lt_or_eq_of_le hk with hlt|heq
  ·have h2:=text_h2 (f:=f) hr (textAt f l) (by omega) (Nat.le_refl _)
   have h3:cmpB (l[textAt f l]'(by omega)) l[i]<0:=rises_lt (cmp:=cmpB) (fun _ _ _=>cmpB_trans) hr hlt hi
   rw [cmpB_eq] at e
   rw [e] at h3;omega
  ·subst heq
   have:=found_not hn hi
   rw [e] at this;simp at this
 exact cmpB_pos (by omega)
theorem scores_ins {l:List Sc} {s:Sc} (h:l.Pairwise Rs) (hn:∀ x∈l,x.member≠s.member):(putScore l s).Pairwise Rs:=by
 have hr:risesBy cmpS l=true:=(rises_pair (cmp:=cmpS) (fun _ _ _=>cmpS_trans)).2 h
 refine ins_pair h (fun i hi hk=>score_h1 i hi hk) (fun i hi hk=>?_)
 have h0:=score_h2 (x:=s) hr i hi hk
 have hne:cmpS l[i] s≠0:=by
  intro e
  rw [cmpS_eq] at e
  exact hn l[i] (List.getElem_mem hi) (by rw [e])
 exact cmpS_pos (by omega)
theorem rm_sym:∀ a b:Sc,Rm a b→Rm b a:=fun _ _ h=>Ne.symm h
theorem memberAt_none {m:ByteArray} {l:List Sc} (h:memberAt m l=none):∀ x∈l,x.member≠m:=by
 intro x hx he
 unfold memberAt at h
 rw [List.findIdx?_eq_none_iff] at h
 have:=h x hx
 rw [he] at this
 have h2:(m.toList == m.toList)=true:=by simp
 rw [h2] at this;cases this
theorem memberAt_some {m:ByteArray} {l:List Sc} {k:Nat} (h:memberAt m l=some k):∃ hk:k<l.length,l[k].member=m:=by
 refine ⟨memberAt_lt h,?_⟩
 unfold memberAt at h
 rw [List.findIdx?_eq_some_iff_getElem] at h
 obtain ⟨h1,h2,_⟩:=h
 exact eqb_iff.1 h2
theorem del_others {l:List Sc} {k:Nat} (h:l.Pairwise Rm) (hk:k<l.length):∀ x∈delRows l k,x.member≠l[k].member:=by
 intro x hx
 unfold delRows at hx
 rw [List.pairwise_iff_getElem] at h
 rcases List.mem_append.1 hx with hx|hx
 ·rw [List.mem_take_iff_getElem] at hx
  obtain ⟨i,hi,rfl⟩:=hx
  exact h i k (by omega) hk (by omega)
 ·rw [List.mem_drop_iff_getElem] at hx
  obtain ⟨i,hi,rfl⟩:=hx
  exact Ne.symm (h k (k+1+i) hk (by omega) (by omega))
structure CmdFit (c:Cmd):Prop where
 k1:1≤c.kind
 k22:c.kind≤22
 field:cmdField c.kind=true→1≤c.field.size∧c.field.size≤12
 text:c.text.size≤20
 n : -1099511627776≤c.n∧c.n≤1099511627776
theorem cc_fit {c:Cmd} (h:ccOf c=0):CmdFit c:=by
 unfold ccOf checkCommand at h
 split at h
 ·cases h
 rename_i h0
 split at h
 ·cases h
 split at h
 ·cases h
 rename_i h2
 split at h
 ·cases h
 rename_i h3
 simp only [not_or,not_and,Bool.not_eq_false] at h2 h3
 exact ⟨by omega,by omega,fun hf=>fieldOk_iff.1 (h2.2.1 hf),textOk_iff.1 h2.2.2,countOk_iff.1 h3⟩
theorem zero_ok {k:Int} (h1:1≤k) (h6:k≤6):Ok { zeroVa with kind:=k }:=by
 refine ⟨h1,h6,.inr rfl,.inr rfl,.inr rfl,.inr (.inr rfl),.inr rfl,by simp [zeroVa],by simp [zeroVa],by simp [zeroVa],Nat.zero_le _,by simp [zeroVa],by simp [zeroVa],by simp [zeroVa],⟨by simp [zeroVa],by simp [zeroVa]⟩,by simp [zeroVa],by simp [zeroVa],by simp [zeroVa],by simp [zeroVa],by simp [zeroVa]⟩
theorem do_ok {v:Va} {c:Cmd} (h:Ok v) (hc:CmdFit c) (hf:fits c.kind v.kind) (hr:(doVal v c).2.code=0):Ok (doVal v c).1:=by
 have hh:=h
 obtain ⟨k1,k6,ft,fc,fp,fi,fs,np,ni,ns,tt,ti,tp,tm,cc,cs,rp,ri,rs,un⟩:=h
 obtain ⟨c1,c22,cf,ct,cn⟩:=hc
 unfold fits at hf
 unfold doVal at hr ⊢
 by_cases e1:c.kind=1
 ·rw [if_pos e1]
  refine ⟨by simp,by simp,.inl rfl,.inr rfl,.inr rfl,.inr (.inr rfl),.inr rfl,by simp,by simp,by simp,ct,by simp,by simp,by simp,by simp,by simp,by simp,by simp,by simp,by simp⟩
 rw [if_neg e1] at hr ⊢
 by_cases e2:c.kind=2
 ·rw [if_pos e2];exact hh
 rw [if_neg e2] at hr ⊢
 by_cases e3:c.kind=3
 ·rw [if_pos e3] at hr ⊢
  unfold doAdd at hr ⊢
  by_cases ho:countOk (v.count+c.n)=true
  ·rw [if_pos ho]
   have h2:v.kind=2:=by omega
   exact ⟨k1,k6,ft,.inl h2,fp,fi,fs,np,ni,ns,tt,ti,tp,tm,countOk_iff.1 ho,cs,rp,ri,rs,un⟩
  ·rw [if_neg ho];exact hh
 rw [if_neg e3] at hr ⊢
 by_cases e17:c.kind=17
 ·rw [if_pos e17];exact hh
 rw [if_neg e17] at hr ⊢
 by_cases e18:c.kind=18
 ·rw [if_pos e18];exact hh
 rw [if_neg e18] at hr ⊢
 by_cases v3:v.kind=3
 ·rw [if_pos v3] at hr ⊢
  have hcf:cmdField c.kind=true:=by
   have:c.kind=4∨c.kind=5∨c.kind=6:=by omega
   unfold cmdField;rcases this with h|h|h <;> rw [h] <;> rfl
  unfold doHash at hr ⊢
  by_cases e4:c.kind=4
  ·rw [if_pos e4] at hr ⊢
   by_cases hp:pairHas c.field v.pairs=true
   ·rw [if_pos hp] at hr ⊢
    have hlt:=pairHas_lt hp
    have heq:=pairHas_eq hp
    refine ⟨k1,k6,ft,fc,.inl v3,fi,fs,by simpa using np,ni,ns,tt,ti,?_,tm,cc,cs,?_,ri,rs,un⟩
    ·intro x hx
     rcases List.mem_or_eq_of_mem_set hx with hx|rfl
     ·exact tp x hx
     ·exact ⟨cf hcf,ct⟩
    ·rw [List.pairwise_iff_getElem] at rp ⊢
     intro i j hi hj hij
     have hfld:∀ m (hm:m<v.pairs.length),((v.pairs.set (pairAt c.field v.pairs) ⟨c.field,c.text⟩)[m]'(by simpa using hm)).field=v.pairs[m].field:=by
      intro m hm
      rw [List.getElem_set]
      split
      ·rename_i e;subst e;exact heq.symm
      ·rfl
     have hi':i<v.pairs.length:=by simpa using hi
     have hj':j<v.pairs.length:=by simpa using hj
     unfold Rp
     rw [hfld i hi',hfld j hj']
     exact rp i j hi' hj' hij
   ·rw [if_neg hp] at hr ⊢
    by_cases h20:v.pairs.length=20
    ·rw [if_pos h20] at hr;simp [failR] at hr
    ·rw [if_neg h20] at hr ⊢
     refine ⟨k1,k6,ft,fc,.inl v3,fi,fs,by simp only [ins_len'];omega,ni,ns,tt,ti,?_,tm,cc,cs,pairs_ins rp (by simpa using hp),ri,rs,un⟩
     intro x hx
     rcases mem_ins.1 hx with rfl|hx
     ·exact ⟨cf hcf,ct⟩
     ·exact tp x hx
  ·rw [if_neg e4] at hr ⊢
   by_cases e5:c.kind=5
   ·rw [if_pos e5] at hr ⊢
    split at hr
    ·rename_i hp;rw [if_pos hp];exact hh
    ·simp [failR] at hr
   ·rw [if_neg e5] at hr ⊢
    by_cases hp:pairHas c.field v.pairs=true
    ·rw [if_pos hp] at hr ⊢
     have hl:=(del_sub v.pairs (pairAt c.field v.pairs)).length_le
     exact ⟨k1,k6,ft,fc,.inl v3,fi,fs,Nat.le_trans hl np,ni,ns,tt,ti,fun x hx=>tp x (mem_del hx),tm,cc,cs,del_pair rp,ri,rs,un⟩
    ·rw [if_neg hp];exact hh
 rw [if_neg v3] at hr ⊢
 by_cases v4:v.kind=4
 ·rw [if_pos v4] at hr ⊢
  have ri':∀ l:List ByteArray,v.kind=5→l.Pairwise Ri:=fun _ h=>by omega
  unfold doList at hr ⊢
  by_cases e7:c.kind=7
  ·rw [if_pos e7] at hr ⊢
   by_cases h20:v.items.length=20
   ·rw [if_pos h20] at hr;simp [failR] at hr
   ·rw [if_neg h20] at hr ⊢
    refine ⟨k1,k6,ft,fc,fp,.inl v4,fs,np,by simp;omega,ns,tt,?_,tp,tm,cc,cs,rp,ri' _,rs,un⟩
    intro s hs
    rcases List.mem_append.1 hs with hs|hs
    ·exact ti s hs
    ·rw [List.mem_singleton] at hs;subst hs;exact ct
  ·rw [if_neg e7] at hr ⊢
   by_cases e8:c.kind=8
   ·rw [if_pos e8] at hr ⊢
    by_cases h20:v.items.length=20
    ·rw [if_pos h20] at hr;simp [failR] at hr
    ·rw [if_neg h20] at hr ⊢
     refine ⟨k1,k6,ft,fc,fp,.inl v4,fs,np,by simp only [ins_len'];omega,ns,tt,?_,tp,tm,cc,cs,rp,ri' _,rs,un⟩
     intro s hs
     rcases mem_ins.1 hs with rfl|hs
     ·exact ct
     ·exact ti s hs
   ·rw [if_neg e8] at hr ⊢
    by_cases e9:c.kind=9
    ·rw [if_pos e9] at hr ⊢
     exact ⟨k1,k6,ft,fc,fp,.inl v4,fs,np,by simp only [List.length_take];omega,ns,tt,fun s hs=>ti s (List.mem_of_mem_take hs),tp,tm,cc,cs,rp,ri' _,rs,un⟩
    ·rw [if_neg e9] at hr ⊢
     exact ⟨k1,k6,ft,fc,fp,.inl v4,fs,np,by simp only [List.length_drop];omega,ns,tt,fun s hs=>ti s (List.mem_of_mem_drop hs),tp,tm,cc,cs,rp,ri' _,rs,un⟩
 rw [if_neg v4] at hr ⊢
 by_cases v5:v.kind=5
 ·rw [if_pos v5] at hr ⊢
  unfold doSet at hr ⊢
  by_cases e11:c.kind=11
  ·rw [if_pos e11] at hr ⊢
   by_cases hp:textHas c.text v.items=true
   ·rw [if_pos hp];exact hh
   ·rw [if_neg hp] at hr ⊢
    by_cases h20:v.items.length=20
    ·rw [if_pos h20] at hr;simp [failR] at hr
    ·rw [if_neg h20] at hr ⊢
     refine ⟨k1,k6,ft,fc,fp,.inr (.inl v5),fs,np,by simp only [ins_len'];omega,ns,tt,?_,tp,tm,cc,cs,rp,fun h5=>items_ins (ri h5) (by simpa using hp),rs,un⟩
     intro s hs
     rcases mem_ins.1 hs with rfl|hs
     ·exact ct
     ·exact ti s hs
  ·rw [if_neg e11] at hr ⊢
   by_cases e12:c.kind=12
   ·rw [if_pos e12] at hr ⊢
    by_cases hp:textHas c.text v.items=true
    ·rw [if_pos hp] at hr ⊢
     have hl:=(del_sub v.items (textAt c.text v.items)).length_le
     exact ⟨k1,k6,ft,fc,fp,.inr (.inl v5),fs,np,Nat.le_trans hl ni,ns,tt,fun x hx=>ti x (mem_del hx),tp,tm,cc,cs,rp,fun h5=>del_pair (ri h5),rs,un⟩
    ·rw [if_neg hp];exact hh
   ·rw [if_neg e12];exact hh
 rw [if_neg v5] at hr ⊢
 have v6:v.kind=6:=by omega
 unfold doRank at hr ⊢
 cases hm:memberAt c.text v.scores with
 | none=>
  rw [hm] at hr
  simp only at hr ⊢
  by_cases e16:c.kind=16
  ·rw [if_pos e16] at hr;simp [failR] at hr
  ·rw [if_neg e16] at hr ⊢
   by_cases e14:c.kind=14
   ·rw [if_pos e14] at hr ⊢
    by_cases h20:v.scores.length=20
    ·rw [if_pos h20] at hr;simp [failR] at hr
    ·rw [if_neg h20] at hr ⊢
     have hno:=memberAt_none hm
     refine ⟨k1,k6,ft,fc,fp,fi,.inl v6,np,ni,by simp only [putScore,ins_len'];omega,tt,ti,tp,?_,cc,?_,rp,ri,scores_ins rs hno,ins_pair_sym rm_sym un hno⟩
     ·intro x hx
      rcases mem_ins.1 hx with rfl|hx
      ·exact ct
      ·exact tm x hx
     ·intro x hx
      rcases mem_ins.1 hx with rfl|hx
      ·exact cn
      ·exact cs x hx
   ·rw [if_neg e14];exact hh
 | some k=>
  rw [hm] at hr
  simp only at hr ⊢
  obtain ⟨hk,hkm⟩:=memberAt_some hm
  have hl:=(del_sub v.scores k).length_le
  by_cases e16:c.kind=16
  ·rw [if_pos e16];exact hh
  ·rw [if_neg e16] at hr ⊢
   by_cases e14:c.kind=14
   ·rw [if_pos e14] at hr ⊢
    have hno:∀ x∈delRows v.scores k,x.member≠c.text:=by rw [←hkm];exact del_others un hk
    refine ⟨k1,k6,ft,fc,fp,fi,.inl v6,np,ni,?_,tt,ti,tp,?_,cc,?_,rp,ri,scores_ins (del_pair rs) hno,ins_pair_sym rm_sym (del_pair un) hno⟩
    ·simp only [putScore,ins_len',del_len' v.scores hk];omega
    ·intro x hx
     rcases mem_ins.1 hx with rfl|hx
     ·exact ct
     ·exact tm x (mem_del hx)
    ·intro x hx
     rcases mem_ins.1 hx with rfl|hx
     ·exact cn
     ·exact cs x (mem_del hx)
   ·rw [if_neg e14]
    exact ⟨k1,k6,ft,fc,fp,fi,.inl v6,np,ni,Nat.le_trans hl ns,tt,ti,tp,fun x hx=>tm x (mem_del hx),cc,fun x hx=>cs x (mem_del hx),rp,ri,del_pair rs,del_pair un⟩
def May (v:Va):Prop:=v=zeroVa∨Good v
theorem zero_may:May zeroVa:=.inl rfl
theorem zero_none:noneVal zeroVa=true:=by simp [noneVal,zeroVa,Va.size,emp,Lib.toList_data]
theorem good_some {v:Va} (h:Good v):noneVal v=false:=by
 have:=h.k1
 unfold noneVal
 have:(v.kind == 0)=false:=by rw [beq_eq_false_iff_ne];omega
 rw [this];rfl
theorem makes_kind {k:Int} (h:makesC k=true):1≤kindC k∧kindC k≤6∨(k=1∧kindC k=0):=by
 unfold makesC at h
 simp only [Bool.or_eq_true,beq_iff_eq] at h
 rcases h with (((((h|h)|h)|h)|h)|h)|h <;> rw [h] <;> simp [kindC]
theorem put_ok {v:Va} {c:Cmd} (hc:CmdFit c) (h:c.kind=1):Ok (doVal v c).1:=by
 unfold doVal
 rw [if_pos h]
 refine ⟨by simp,by simp,.inl rfl,.inr rfl,.inr rfl,.inr (.inr rfl),.inr rfl,by simp,by simp,by simp,hc.text,by simp,by simp,by simp,by simp,by simp,by simp,by simp,by simp,by simp⟩
theorem behind_may {v:Va} {r:Va×Re} (h:May v) (h2:r.2.code=0→Ok r.1):May (behind v r).1:=by
 unfold behind
 by_cases hc:r.2.code=0
 ·rw [if_neg (by simpa using hc)]
  have ho:=h2 hc
  by_cases h3:3≤r.1.kind∧r.1.size=0
  ·rw [if_pos h3];exact zero_may
  ·rw [if_neg h3];exact .inr (ok_good ho (by omega))
 ·rw [if_pos hc];exact h
theorem done_may {v:Va} (h:May v) (c:Cmd):May (doneVal v c).1:=by
 unfold doneVal
 by_cases h1:checkValue v≠0∧noneVal v=false
 ·rw [if_pos h1];exact zero_may
 rw [if_neg h1]
 by_cases h2:ccOf c≠0
 ·rw [if_pos h2];exact zero_may
 rw [if_neg h2]
 have h2':ccOf c=0:=by simpa using h2
 by_cases h3:18<c.kind
 ·rw [if_pos h3];exact zero_may
 rw [if_neg h3]
 by_cases h4:noneVal v=true∧makesC c.kind=false
 ·rw [if_pos h4];exact h
 rw [if_neg h4]
 by_cases h5:noneVal v=false∧wrongKind v c=true
 ·rw [if_pos h5];exact h
 rw [if_neg h5]
 have hfit:=fit_of h1 h2' h3 h4 h5
 have hc:=cc_fit h2'
 refine behind_may h fun hcode=>?_
 rcases h with rfl|hg
 ·have hm:makesC c.kind=true:=by
   cases hh:makesC c.kind with
   | true=>rfl
   | false=>exact absurd ⟨zero_none,hh⟩ h4
  rcases makes_kind hm with ⟨m1,m6⟩|⟨m1,_⟩
  ·have hd:doneKind zeroVa c={ zeroVa with kind:=kindC c.kind }:=by unfold doneKind;rw [if_pos zero_none]
   rw [hd] at hcode hfit ⊢
   exact do_ok (zero_ok m1 m6) hc hfit.fit hcode
  ·exact put_ok hc m1
 ·have hd:doneKind v c=v:=by unfold doneKind;rw [good_some hg];rfl
  rw [hd] at hcode hfit ⊢
  exact do_ok (good_ok hg) hc hfit.fit hcode
theorem may_sizes {v:Va} (h:May v):v.pairs.length≤20∧v.items.length≤20∧v.scores.length≤20:=by
 rcases h with rfl|hg
 ·simp [zeroVa]
 ·have:=hg.sizes;exact ⟨this.1,this.2.1,this.2.2.1⟩
theorem may_not {v:Va} (h:May v):¬ (checkValue v≠0∧noneVal v=false):=by
 rintro ⟨h1,h2⟩
 rcases h with rfl|hg
 ·rw [zero_none] at h2;cases h2
 ·exact h1 (good_to hg)
end Go.Proofs.YtgmojjclobkpjaaGreatDoor

