import Derived.Test.YtgmojjclobkpjaaGreatDoorQStoC
import Derived.Test.YtgmojjclobkpjaaGreatDoorQValsP
import Derived.Test.YtgmojjclobkpjaaGreatDoorQCmd
namespace Go.Proofs.YtgmojjclobkpjaaGreatDoor
set_option linter.all false
set_option maxHeartbeats 32000000
open Go.RowKit
structure StOk (now:Int) (l:List En):Prop where
 now0:0≤now
 now1:now≤1073741824
 few:l.length≤12
 keys:∀ x∈l,1≤x.key.size∧x.key.size≤12
 good:∀ x∈l,Good x.val
 till:∀ x∈l,x.till=0∨(now<x.till∧x.till≤1073741824)
 rise:l.Pairwise Rk
theorem chain_pair {α:Type} {R:α→α→Prop} (tr:∀ a b c,R a b→R b c→R a c) {l:List α} (h:∀ j (hj:j+1<l.length),R l[j] l[j+1]):l.Pairwise R:=by
 rw [List.pairwise_iff_getElem]
 intro i j hi hj hij
 induction j with
 | zero=>omega
 | succ j ih=>
  rcases Nat.lt_or_eq_of_le (Nat.le_of_lt_succ hij) with hlt|rfl
  ·exact tr _ _ _ (ih (by omega) hlt) (h j hj)
  ·exact h i hj
theorem rk_trans (a b c:En) (h:Rk a b) (k:Rk b c):Rk a c:=cmpB_trans h k
theorem entBad_at {now:Int} {l:List En} {k:Nat} (hk:k<l.length):entBad now l k=(keyBad l[k] || checkValue l[k].val != 0 || orderBad l k l[k] || tillBad now l[k]):=by
 unfold entBad;rw [List.getElem?_eq_getElem hk]
theorem store_ok {now:Int} {l:List En} (h:checkStore now l=0):StOk now l:=by
 unfold checkStore at h
 split at h
 ·cases h
 next h0=>
  split at h
  ·cases h
  next h1=>
   have hall:∀ k (hk:k<l.length),keyBad l[k]=false∧checkValue l[k].val=0∧orderBad l k l[k]=false∧tillBad now l[k]=false:=by
    intro k hk
    have hf:entBad now l k=false:=by
     cases he:entBad now l k with
     | false=>rfl
     | true=>exact absurd (List.any_eq_true.2 ⟨k,List.mem_range.2 hk,he⟩) h1
    rw [entBad_at hk] at hf
    simp only [Bool.or_eq_false_iff,bne_eq_false_iff_eq] at hf
    exact ⟨hf.1.1.1,hf.1.1.2,hf.1.2,hf.2⟩
   have hm:∀ x∈l,keyBad x=false∧checkValue x.val=0∧tillBad now x=false:=by
    intro x hx
    obtain ⟨k,hk,rfl⟩:=List.mem_iff_getElem.1 hx
    obtain ⟨a,b,_,d⟩:=hall k hk
    exact ⟨a,b,d⟩
   refine ⟨by omega,by omega,by omega,fun x hx=>?_,fun x hx=>good_of (hm x hx).2.1,fun x hx=>?_,chain_pair rk_trans fun j hj=>?_⟩
   ·have:=(hm x hx).1
    simp only [keyBad,Bool.or_eq_false_iff,decide_eq_false_iff_not] at this
    omega
   ·have:=(hm x hx).2.2
    simp only [tillBad,Bool.and_eq_false_iff,bne_eq_false_iff_eq,Bool.or_eq_false_iff,decide_eq_false_iff_not] at this
    omega
   ·have:=(hall (j+1) hj).2.2.1
    simp only [orderBad,List.getElem?_eq_getElem (show j<l.length by omega),decide_eq_false_iff_not] at this
    show cmpB _ _<0
    omega
theorem ok_store {now:Int} {l:List En} (h:StOk now l):checkStore now l=0:=by
 refine store_good ?_ fun k hk=>?_
 ·have:=h.now0;have:=h.now1;have:=h.few;omega
 ·rw [entBad_at hk]
  have hx:=List.getElem_mem hk
  simp only [Bool.or_eq_false_iff,bne_eq_false_iff_eq]
  refine ⟨⟨⟨?_,good_to (h.good _ hx)⟩,?_⟩,?_⟩
  ·have:=h.keys _ hx
   simp only [keyBad,Bool.or_eq_false_iff,decide_eq_false_iff_not]
   omega
  ·cases k with
   | zero=>rfl
   | succ j=>
    have hr:cmpB l[j].key l[j+1].key<0:=List.pairwise_iff_getElem.1 h.rise j (j+1) (by omega) hk (by omega)
    simp only [orderBad,List.getElem?_eq_getElem (show j<l.length by omega),decide_eq_false_iff_not]
    omega
  ·have:=h.till _ hx
   simp only [tillBad,Bool.and_eq_false_iff,bne_eq_false_iff_eq,Bool.or_eq_false_iff,decide_eq_false_iff_not]
   omega
def alive (t:Int) (l:List En):List En:=l.filter fun x => !gone t x
theorem alive_mem {t:Int} {l:List En} {x:En}:x∈alive t l ↔ x∈l∧gone t x=false:=by
 unfold alive;rw [List.mem_filter];simp
theorem gone_iff {t:Int} {x:En}:gone t x=true ↔ x.till≠0∧x.till≤t:=by
 simp [gone]
theorem alive_ok {now t:Int} {l:List En} (h:StOk now l) (ht:now≤t) (h1:t≤1073741824):StOk t (alive t l):=by
 have hs:(alive t l).Sublist l:=List.filter_sublist
 refine ⟨by have:=h.now0;omega,h1,by have:=hs.length_le;have:=h.few;omega,fun x hx=>h.keys x (hs.mem hx),fun x hx=>h.good x (hs.mem hx),fun x hx=>?_,h.rise.sublist hs⟩
 obtain ⟨hm,hg⟩:=alive_mem.1 hx
 have hn:¬ (x.till≠0∧x.till≤t):=fun hc=>by rw [gone_iff.2 hc] at hg;cases hg
 rcases h.till x hm with h0|⟨_,h2⟩
 ·exact .inl h0
 ·omega
theorem StOk.ens {now:Int} {l:List En} (h:StOk now l):EnsOk now l:=
 ⟨h.rise,h.few,fun x hx=>by have:=h.till x hx;have:=h.now0;omega,h.good,h.now0,h.now1⟩
theorem StOk.small {now:Int} {l:List En} (h:StOk now l):∀ x∈l,small x.val 20:=fun x hx=>by
 have:=(h.good x hx).sizes
 exact ⟨this.1,this.2.1,this.2.2.1⟩
def applyS (now:Int) (l:List En) (time:Int) (c:Cmd):(Int×List En)×Re×Int:=
 if checkStore now l≠0 then ((0,[]),zeroRe,checkStore now l)
 else if time<0∨1073741824<time then ((0,[]),zeroRe,2)
 else if ccOf c≠0 then ((0,[]),zeroRe,ccOf c)
 else ((max now time,(doS (max now time) (alive (max now time) l) c).1),(doS (max now time) (alive (max now time) l) c).2,0)
section
variable {now:Int} {l:List En} {c:Cmd}
theorem keyHas_eq {f:ByteArray} (h:keyHas f l=true):(l[keyAt f l]'(keyHas_lt h)).key=f:=by
 have h2:=h
 unfold keyHas at h2
 rw [foundAt_lt (keyHas_lt h)] at h2
 rw [←cmpB_eq];simpa using h2
theorem key_after {f:ByteArray} (hr:l.Pairwise Rk) (hn:keyHas f l=false):∀ t (ht:t<l.length),keyAt f l≤t→cmpB f l[t].key<0:=by
 intro i hi hk
 have h0:=key_h2 (key:=f) hr i hi hk
 have hne:cmpB l[i].key f≠0:=by
  intro e
  rcases Nat.lt_or_eq_of_le hk with hlt|heq
  ·have h2:=key_h2 (key:=f) hr (keyAt f l) (by omega) (Nat.le_refl _)
   have h3:cmpB (l[keyAt f l]'(by omega)).key l[i].key<0:=List.pairwise_iff_getElem.1 hr _ _ (by omega) hi hlt
   rw [cmpB_eq] at e
   rw [e] at h3;omega
  ·subst heq
   have:=found_not hn hi
   rw [e] at this;simp at this
 exact cmpB_pos (by omega)
theorem keys_ins {x:En} (hr:l.Pairwise Rk) (hn:keyHas x.key l=false):(insRows l (keyAt x.key l) x).Pairwise Rk:=
 ins_pair hr (fun i hi hk=>key_h1 i hi hk) (fun i hi hk=>key_after hr hn i hi hk)
theorem set_ins {α:Type} {l:List α} {k:Nat} (hk:k≤l.length) (x y:α):(insRows l k x).set k y=insRows l k y∧(insRows l k x)[k]?=some x:=by
 have hl:(l.take k).length=k:=by rw [List.length_take];omega
 unfold insRows
 constructor
 ·rw [List.append_assoc,List.append_assoc,List.set_append_right _ _ (by omega),hl,Nat.sub_self]
  rfl
 ·rw [List.append_assoc,List.getElem?_append_right (by omega),hl,Nat.sub_self]
  rfl
theorem set_keys {k:Nat} (hr:l.Pairwise Rk) (hk:k<l.length) {x:En} (hx:x.key=l[k].key):(l.set k x).Pairwise Rk:=by
 rw [List.pairwise_iff_getElem] at hr ⊢
 intro i j hi hj hij
 rw [List.length_set] at hi hj
 have hki:∀ i (hi:i<(l.set k x).length),(l.set k x)[i].key=(l[i]'(by simpa using hi)).key:=by
  intro i hi
  rw [List.getElem_set]
  split
  next he=>subst he;exact hx
  next=>rfl
 show cmpB _ _<0
 rw [hki,hki]
 exact hr i j hi hj hij
theorem cc_key (h:ccOf c=0) (hk:c.kind≠22):1≤c.key.size∧c.key.size≤12:=by
 unfold ccOf checkCommand at h
 split at h
 ·cases h
 split at h
 ·cases h
 split at h
 ·cases h
 rename_i h2
 simp only [not_or,not_and,Bool.not_eq_false] at h2
 exact fieldOk_iff.1 (h2.1 (by unfold cmdKey;rw [Bool.not_eq_true',beq_eq_false_iff_ne];exact hk))
theorem setS_has {k:Nat} {v:Va} (hk:k<l.length):setS l k true c v=l.set k ⟨l[k].key,v,if c.kind=1 then 0 else l[k].till⟩:=by
 unfold setS
 rw [if_pos rfl,List.getElem?_eq_getElem hk]
theorem setS_new {k:Nat} {v:Va} (hk:k≤l.length):setS l k false c v=insRows l k ⟨c.key,v,0⟩:=by
 unfold setS
 rw [if_neg (by simp),(set_ins hk _ ⟨c.key,v,0⟩).2]
 simp only
 rw [(set_ins hk _ _).1]
 split <;> rfl
theorem timed_has {k:Nat} (hk:k<l.length):timedS now l k true c=if c.kind=21 then (l,toldR (max (l[k].till - now) 0)) else if c.n<1∨1073741824 - now<c.n then (l,failR 2) else (l.set k ⟨l[k].key,l[k].val,now+c.n⟩,toldR 0):=by
 unfold timedS
 rw [if_neg (by simp),List.getElem?_eq_getElem hk]
theorem old_may (h:StOk now l) (k:Nat) (t:Bool):May (oldOf l k t):=by
 unfold oldOf
 split
 ·cases hx:l[k]? with
  | none=>exact .inl rfl
  | some x=>exact .inr (h.good x (List.mem_of_getElem? hx))
 ·exact .inl rfl
theorem StOk.del (h:StOk now l) (k:Nat):StOk now (delRows l k):=by
 have hs:=del_sub l k
 exact ⟨h.now0,h.now1,by have:=hs.length_le;have:=h.few;unfold delRows;omega,fun x hx=>h.keys x (mem_del hx),fun x hx=>h.good x (mem_del hx),fun x hx=>h.till x (mem_del hx),del_pair h.rise⟩
theorem StOk.set (h:StOk now l) {k:Nat} (hk:k<l.length) {x:En} (hx:x.key=l[k].key) (hg:Good x.val) (ht:x.till=0∨(now<x.till∧x.till≤1073741824)):StOk now (l.set k x):=by
 have hm:∀ y∈l.set k x,y=x∨y∈l:=fun y hy=>(List.mem_or_eq_of_mem_set hy).symm
 refine ⟨h.now0,h.now1,by rw [List.length_set];exact h.few,fun y hy=>?_,fun y hy=>?_,fun y hy=>?_,set_keys h.rise hk hx⟩
 ·rcases hm y hy with rfl|hy
  ·rw [hx];exact h.keys _ (List.getElem_mem hk)
  ·exact h.keys y hy
 ·rcases hm y hy with rfl|hy
  ·exact hg
  ·exact h.good y hy
 ·rcases hm y hy with rfl|hy
  ·exact ht
  ·exact h.till y hy
theorem doS_ok (h:StOk now l) (hc:ccOf c=0):StOk now (doS now l c).1:=by
 have hkk:=cc_kind hc
 have hkl:=@keyHas_lt c.key l
 have hke:=@keyHas_eq l c.key
 have hkle:keyAt c.key l≤l.length:=lowB_le _ _
 unfold doS
 split
 ·exact h
 next h22=>
  have hkey:=cc_key hc h22
  split
  ·split
   ·exact h.del _
   ·exact h
  next h19=>
   split
   next ht=>
    cases hh:keyHas c.key l with
    | false=>unfold timedS;rw [if_pos rfl];exact h
    | true=>
     rw [timed_has (hkl hh)]
     split
     ·exact h
     ·split
      ·exact h
      ·exact h.set (hkl hh) rfl (h.good (l[keyAt c.key l]'(hkl hh)) (List.getElem_mem _)) (.inr ⟨by show now<now+c.n;omega,by show now+c.n≤1073741824;omega⟩)
   next ht=>
    have hm:=done_may (old_may h (keyAt c.key l) (keyHas c.key l)) c
    split
    ·exact h
    ·split
     ·exact h.del _
     ·split
      ·exact h
      next hfull=>
       split
       next hv=>
        have hg:Good (doneVal (oldOf l (keyAt c.key l) (keyHas c.key l)) c).1:=by
         rcases hm with hz|hg
         ·rw [hz] at hv;exact absurd rfl hv
         ·exact hg
        cases hh:keyHas c.key l with
        | true=>
         simp only
         rw [setS_has (hkl hh)]
         refine h.set (hkl hh) rfl (by rw [hh] at hg;exact hg) ?_
         split
         ·exact .inl rfl
         ·exact h.till (l[keyAt c.key l]'(hkl hh)) (List.getElem_mem _)
        | false=>
         simp only
         rw [setS_new hkle]
         rw [hh] at hg hfull
         refine ⟨h.now0,h.now1,by rw [ins_len];have:=h.few;simp at hfull;omega,fun y hy=>?_,fun y hy=>?_,fun y hy=>?_,keys_ins (x:=⟨c.key,_,0⟩) h.rise hh⟩
         ·rcases mem_ins.1 hy with rfl|hy
          ·exact hkey
          ·exact h.keys y hy
         ·rcases mem_ins.1 hy with rfl|hy
          ·exact hg
          ·exact h.good y hy
         ·rcases mem_ins.1 hy with rfl|hy
          ·exact .inl rfl
          ·exact h.till y hy
       next hv=>exact h
end
structure ReOk (r:Re):Prop where
 c0:0≤r.code
 c1:r.code≤13
 text:r.text.size≤20
 few:r.list.length≤20
 each:∀ s∈r.list,s.size≤20
 n0 : -1099511627776≤r.n
 n1:r.n≤1099511627776
def repOk (r:Re):Int:=checkReply r.code r.text r.n r.list
theorem rep_ok {r:Re} (h:ReOk r):repOk r=0:=by
 obtain ⟨a,b,c,d,e,f,g⟩:=h
 unfold repOk checkReply
 rw [if_neg (by omega),if_neg (by omega),if_neg,if_neg (by omega)]
 intro hc
 obtain ⟨s,hs,hb⟩:=List.any_eq_true.1 hc
 have:=e s hs
 simp at hb;omega
theorem rep_to {r:Re} (h:repOk r=0):ReOk r:=by
 unfold repOk checkReply at h
 split at h
 ·cases h
 split at h
 ·cases h
 split at h
 ·cases h
 next h3=>
  split at h
  ·cases h
  refine ⟨by omega,by omega,by omega,by omega,fun s hs=>?_,by omega,by omega⟩
  rcases Nat.lt_or_ge 20 s.size with hl|hl
  ·exact absurd (List.any_eq_true.2 ⟨s,hs,by simpa using hl⟩) h3
  ·exact hl
theorem told_re {n:Int} (h0 : -1099511627776≤n) (h1:n≤1099511627776):ReOk (toldR n):=⟨by simp [toldR],by simp [toldR],by simp [toldR,emp_size],by simp [toldR],by simp [toldR],h0,h1⟩
theorem fail_re {k:Int} (h0:0≤k) (h1:k≤13):ReOk (failR k):=⟨h0,h1,by simp [failR,emp_size],by simp [failR],by simp [failR],by simp [failR],by simp [failR]⟩
theorem text_re {s:ByteArray} (h:s.size≤20):ReOk (textR s):=⟨by simp [textR],by simp [textR],h,by simp [textR],by simp [textR],by simp [textR],by simp [textR]⟩
theorem zero_re:ReOk zeroRe:=⟨by simp [zeroRe],by simp [zeroRe],by simp [zeroRe,emp_size],by simp [zeroRe],by simp [zeroRe],by simp [zeroRe],by simp [zeroRe]⟩
theorem flagI_in (b:Bool) : -1099511627776≤flagI b∧flagI b≤1099511627776:=by cases b <;> simp [flagI]
theorem getD_size {l:List ByteArray} {k:Nat} (h:∀ s∈l,s.size≤20):((l[k]?).getD emp).size≤20:=by
 cases hl:l[k]? with
 | none=>simp [emp_size]
 | some s=>exact h s (List.mem_of_getElem? hl)
theorem do_rep {v:Va} {c:Cmd} (h:Ok v):ReOk (doVal v c).2:=by
 obtain ⟨k1,k6,ft,fc,fp,fi,fs,np,ni,ns,tt,ti,tp,tm,cc,cs,rp,ri,rs,un⟩:=h
 have t0:ReOk (toldR 0):=told_re (by omega) (by omega)
 have t1:ReOk (toldR 1):=told_re (by omega) (by omega)
 have f5:ReOk (failR 5):=fail_re (by omega) (by omega)
 have f6:ReOk (failR 6):=fail_re (by omega) (by omega)
 have f7:ReOk (failR 7):=fail_re (by omega) (by omega)
 unfold doVal
 split
 ·exact t0
 split
 ·exact text_re tt
 split
 ·unfold doAdd
  split
  next ho=>exact told_re (countOk_iff.1 ho).1 (countOk_iff.1 ho).2
  ·exact f7
 split
 ·have:v.size≤60:=by unfold Va.size;omega
  exact told_re (by omega) (by omega)
 split
 ·have hlen:(allOf v).length≤20:=by
   unfold allOf
   simp only [List.length_append,List.length_map]
   have e1:v.kind=3∨v.pairs.length=0:=fp.imp id (fun h=>by rw [h];rfl)
   have e2:v.kind=4∨v.kind=5∨v.items.length=0:=fi.imp id (fun h=>h.imp id (fun h=>by rw [h];rfl))
   have e3:v.kind=6∨v.scores.length=0:=fs.imp id (fun h=>by rw [h];rfl)
   omega
  refine ⟨by simp,by simp,by simp [emp_size],hlen,fun s hs=>?_,by simp,by simp⟩
  unfold allOf at hs
  rcases List.mem_append.1 hs with hs|hs
  ·rcases List.mem_append.1 hs with hs|hs
   ·exact ti s hs
   ·obtain ⟨x,hx,rfl⟩:=List.mem_map.1 hs
    have:=(tp x hx).1.2;omega
  ·obtain ⟨x,hx,rfl⟩:=List.mem_map.1 hs
   exact tm x hx
 split
 ·unfold doHash
  (repeat' split) <;> first|assumption|skip
  refine text_re ?_
  unfold pairText
  split
  next y hy=>exact (tp y (List.mem_of_getElem? hy)).2
  ·simp [emp_size]
 split
 ·unfold doList
  (repeat' split) <;> first|assumption|exact told_re (by omega) (by omega)|exact text_re (getD_size ti)
 split
 ·unfold doSet
  (repeat' split) <;> first|assumption|exact told_re (flagI_in _).1 (flagI_in _).2
 ·unfold doRank
  cases hm:memberAt c.text v.scores with
  | none=>(repeat' split) <;> first|assumption|contradiction
  | some k=>
   have hk:=memberAt_lt hm
   simp only
   (repeat' split) <;> first|assumption|exact told_re (by omega) (by omega)
theorem put_rep {v:Va} {c:Cmd} (h:c.kind=1):ReOk (doVal v c).2:=by
 unfold doVal
 rw [if_pos h]
 exact told_re (by omega) (by omega)
theorem behind_rep {v:Va} {r:Va×Re} (h:ReOk r.2):ReOk (behind v r).2:=by
 unfold behind
 (repeat' split) <;> exact h
theorem done_rep {v:Va} (h:May v) {c:Cmd} (hc:ccOf c=0) (hk:c.kind≤18):ReOk (doneVal v c).2.1:=by
 have h1:=may_not h
 unfold doneVal
 rw [if_neg h1,if_neg (by rw [hc];simp),if_neg (by omega)]
 by_cases h4:noneVal v=true∧makesC c.kind=false
 ·rw [if_pos h4];exact fail_re (by omega) (by omega)
 rw [if_neg h4]
 by_cases h5:noneVal v=false∧wrongKind v c=true
 ·rw [if_pos h5];exact fail_re (by omega) (by omega)
 rw [if_neg h5]
 refine behind_rep ?_
 rcases h with rfl|hg
 ·have hm:makesC c.kind=true:=by
   cases hh:makesC c.kind with
   | true=>rfl
   | false=>exact absurd ⟨zero_none,hh⟩ h4
  rcases makes_kind hm with ⟨m1,m6⟩|⟨m1,_⟩
  ·have hd:doneKind zeroVa c={ zeroVa with kind:=kindC c.kind }:=by unfold doneKind;rw [if_pos zero_none]
   rw [hd]
   exact do_rep (zero_ok m1 m6)
  ·exact put_rep m1
 ·have hd:doneKind v c=v:=by unfold doneKind;rw [good_some hg];rfl
  rw [hd]
  exact do_rep (good_ok hg)
theorem doS_rep {now:Int} {l:List En} {c:Cmd} (h:StOk now l) (hc:ccOf c=0):ReOk (doS now l c).2:=by
 have hkk:=cc_kind hc
 have h0:=h.now0
 have h1:=h.now1
 unfold doS
 split
 ·refine ⟨by simp,by simp,by simp [emp_size],by simp only [List.length_map];have:=h.few;omega,fun s hs=>?_,by simp,by simp⟩
  obtain ⟨x,hx,rfl⟩:=List.mem_map.1 hs
  have:=h.keys x hx;omega
 ·split
  ·split <;> exact told_re (by omega) (by omega)
  ·split
   ·unfold timedS
    split
    ·exact fail_re (by omega) (by omega)
    ·split
     ·exact fail_re (by omega) (by omega)
     next x hx=>
      have:=h.till x (List.mem_of_getElem? hx)
      split
      ·exact told_re (by omega) (by omega)
      ·split
       ·exact fail_re (by omega) (by omega)
       ·exact told_re (by omega) (by omega)
   ·have hd:=done_rep (old_may h (keyAt c.key l) (keyHas c.key l)) hc (by omega)
    (repeat' split) <;> first|exact hd|exact fail_re (by omega) (by omega)
attribute [local go_sem ↓] Go.wp_at_zero Go.wp_at_succ
def ApplyPost (R:(Int×List En)×Re×Int) (w:World) (e:Ending) (w':World):Prop:=
 ∃ A n c Y m d,e = .returned (.tuple #[.agg #[.int .i64 R.1.1,.slice A n c],.agg #[.int .i64 R.2.1.code,.string R.2.1.text,.int .i64 R.2.1.n,.slice Y m d],.int .i64 R.2.2])∧StOwn w' w.heap.size A n c R.1.2∧Sl w' 1 Y m d (strRows R.2.1.list)∧Tp w' Y 9∧Below w.heap.size w w'
theorem apply_done {w w2:World} {s:Int×List En} {r:Re} {k:Int} {b1 b2:Nat} {A Y:Option Addr} {n c m d:Nat} {x0 x1 y0 y1 y2 y3:Value} {a0 k0 m0:Int} {t0:ByteArray}
  (P:Blk w2 b1 38 #[x0,x1]) (R:Blk w2 b2 102 #[y0,y1,y2,y3]) (O:StOwn w2 w.heap.size A n c s.2) (L:Sl w2 1 Y m d (strRows r.list)) (Ty:Tp w2 Y 9) (q:Below w.heap.size w w2) (h1:w.heap.size≤b1) (h2:w.heap.size≤b2)
  (ha:a0=s.1) (hk:k0=r.code) (ht:t0=r.text) (hm:m0=r.n) :
  ApplyPost (s,r,k) w (.returned (.tuple #[.agg #[.int .i64 a0,.slice A n c],.agg #[.int .i64 k0,.string t0,.int .i64 m0,.slice Y m d],.int .i64 k])) ((((((w2.setCell ⟨b1,0,none⟩ (.int .i64 a0)).setCell ⟨b1,1,none⟩ (.slice A n c)).setCell ⟨b2,0,none⟩ (.int .i64 k0)).setCell ⟨b2,1,none⟩ (.string t0)).setCell ⟨b2,2,none⟩ (.int .i64 m0)).setCell ⟨b2,3,none⟩ (.slice Y m d)) ∧
  Blk ((((((w2.setCell ⟨b1,0,none⟩ (.int .i64 a0)).setCell ⟨b1,1,none⟩ (.slice A n c)).setCell ⟨b2,0,none⟩ (.int .i64 k0)).setCell ⟨b2,1,none⟩ (.string t0)).setCell ⟨b2,2,none⟩ (.int .i64 m0)).setCell ⟨b2,3,none⟩ (.slice Y m d)) b1 38 #[.int .i64 a0,.slice A n c] ∧
  Blk ((((((w2.setCell ⟨b1,0,none⟩ (.int .i64 a0)).setCell ⟨b1,1,none⟩ (.slice A n c)).setCell ⟨b2,0,none⟩ (.int .i64 k0)).setCell ⟨b2,1,none⟩ (.string t0)).setCell ⟨b2,2,none⟩ (.int .i64 m0)).setCell ⟨b2,3,none⟩ (.slice Y m d)) b2 102 #[.int .i64 k0,.string t0,.int .i64 m0,.slice Y m d]:=by
 subst ha;subst hk;subst ht;subst hm
 have P2:=(P.set' (i:=0) (u:=.int .i64 s.1) rfl).set' (i:=1) (u:=.slice A n c) rfl
 have gr:=grown_trans (grown_setRow_cell w2 b1 0 (.int .i64 s.1)) (grown_setRow_cell _ b1 1 (.slice A n c))
 have hne:b1≠b2:=blk_ne P R (by decide)
 have R2:=grown_blk R gr hne.symm
 have f2:=Fr.grown P gr
 have O2:=O.grown P gr
 have q2:=below_grow q gr q.size h1
 obtain ⟨X9,gr9,-⟩:=whole_reply (.int .i64 r.code) (.string r.text) (.int .i64 r.n) (.slice Y m d) R2
 have f9:=Fr.grown R2 gr9
 exact ⟨⟨A,n,c,Y,m,d,rfl,O2.grown R2 gr9,str_fr (str_fr L Ty f2) (tps_fr Ty f2) f9,tps_fr (tps_fr Ty f2) f9,below_grow q2 gr9 q2.size h2⟩,grown_blk P2 gr9 hne,X9⟩
set_option maxRecDepth 100000 in
theorem Apply_any (now:Int) (A:Option Addr) (n c:Nat) (l:List En) (time:Int) (cm:Cmd) (w:World) (h:StSl w A n c l) (hn:n≤1048576) (hsm:∀ x∈l,small x.val 1048576) (ht1 : -9223372036854775808≤time) (ht2:time≤9223372036854775807) :
  Calls Tryz.prog 65 #[.agg #[.int .i64 now,.slice A n c],.int .i64 time,.agg #[.int .i64 cm.kind,.string cm.key,.string cm.field,.string cm.text,.int .i64 cm.n]] w (ApplyPost (applyS now l time cm) w):=by
 obtain ⟨R,hR⟩:∃ R,R=applyS now l time cm:=⟨_,rfl⟩
 rw [←hR]
 unfold applyS at hR
 have hchk:=fun wz (hz:Below w.heap.size w wz)=>CheckS_any now A n c l wz (h.bl hz) hn hsm
 have hown:=fun wz (hz:Below w.heap.size w wz)=>ownS_any now A n c l wz (h.bl hz) hn hsm
 have hcc:=fun wz=>CheckCommand_any cm.kind cm.key cm.field cm.text cm.n wz
 have hcd:checkCommand cm.kind cm.key cm.field cm.text cm.n=ccOf cm:=rfl
 simp only [hcd] at hcc
 have hso:=@store_ok now l
 have hdo:=fun (now':Int) (l':List En) B g a t wz hz hok=>fun hcz hg hB=>doK_any cm B g now' a t l' wz hz hok hcz hg hB
 have hdok:=fun (now':Int) (l':List En) h1 h2=>doS_ok (now:=now') (l:=l') (c:=cm) h1 h2
 generalize checkStore now l=cs at *
 generalize hccz:ccOf cm=cc at *
 obtain ⟨ck,ckey,cf,ct,cn⟩:=cm
 simp only at hR hcc hdo ⊢
 have HR:=hide hR;have HCHK:=hide hchk;have HOWN:=hide hown;have HCC:=hide hcc;have HSO:=hide hso;have HDO:=hide hdo;have HDOK:=hide hdok
 clear hR hchk hown hcc hcd hso hdo hdok hccz
 have q0:Below w.heap.size w ((((w.alloc (.cells #[.int .i64 now,.slice A n c] 38)).alloc (.cells #[.int .i64 ck,.string ckey,.string cf,.string ct,.int .i64 cn] 31)).alloc (.cells #[.int .i64 0,.slice none 0 0] 38)).alloc (.cells #[.int .i64 0,.string { data:=#[] },.int .i64 0,.slice none 0 0] 102)):=below_by
 have S0:Blk ((((w.alloc (.cells #[.int .i64 now,.slice A n c] 38)).alloc (.cells #[.int .i64 ck,.string ckey,.string cf,.string ct,.int .i64 cn] 31)).alloc (.cells #[.int .i64 0,.slice none 0 0] 38)).alloc (.cells #[.int .i64 0,.string { data:=#[] },.int .i64 0,.slice none 0 0] 102)) w.heap.size 38 #[.int .i64 now,.slice A n c]:=(((Blk.new _ _ _).alloc _).alloc _).alloc _
 have C0:Blk ((((w.alloc (.cells #[.int .i64 now,.slice A n c] 38)).alloc (.cells #[.int .i64 ck,.string ckey,.string cf,.string ct,.int .i64 cn] 31)).alloc (.cells #[.int .i64 0,.slice none 0 0] 38)).alloc (.cells #[.int .i64 0,.string { data:=#[] },.int .i64 0,.slice none 0 0] 102)) (w.heap.size+1) 31 #[.int .i64 ck,.string ckey,.string cf,.string ct,.int .i64 cn]:=((Blk.new' _ _ _ (by simp)).alloc _).alloc _
 have P0:Blk ((((w.alloc (.cells #[.int .i64 now,.slice A n c] 38)).alloc (.cells #[.int .i64 ck,.string ckey,.string cf,.string ct,.int .i64 cn] 31)).alloc (.cells #[.int .i64 0,.slice none 0 0] 38)).alloc (.cells #[.int .i64 0,.string { data:=#[] },.int .i64 0,.slice none 0 0] 102)) (w.heap.size+2) 38 #[.int .i64 0,.slice none 0 0]:=(Blk.new' _ _ _ (by simp)).alloc _
 have R0:Blk ((((w.alloc (.cells #[.int .i64 now,.slice A n c] 38)).alloc (.cells #[.int .i64 ck,.string ckey,.string cf,.string ct,.int .i64 cn] 31)).alloc (.cells #[.int .i64 0,.slice none 0 0] 38)).alloc (.cells #[.int .i64 0,.string { data:=#[] },.int .i64 0,.slice none 0 0] 102)) (w.heap.size+3) 102 #[.int .i64 0,.string { data:=#[] },.int .i64 0,.slice none 0 0]:=Blk.new' _ _ _ (by simp)
 go_enter Tryz.func65,Tryz.ntmps65
 go_wp2_with fail
 refine (HCHK.out _ q0).mono ?_
 rintro e w1 ⟨rfl,hb1⟩
 replace S0:=S0.below' hb1;replace C0:=C0.below' hb1;replace P0:=P0.below' hb1;replace R0:=R0.below' hb1
 have q:=bstep q0 hb1
 clear q0 hb1 HCHK
 have hrl:=R0.lt
 have hs1:w.heap.size<w1.heap.size:=by omega
 have hs2:w.heap.size+1<w1.heap.size:=by omega
 have hs3:w.heap.size+2<w1.heap.size:=by omega
 by_cases hcs:cs=0
 ·by_cases htb:time<0∨1073741824<time
  ·have hr:=HR.out
   rw [if_neg (by simpa using hcs),if_pos htb] at hr
   subst hr
   subst hcs
   by_cases ht0:time<0
   ·have hPX:=apply_done (s:=(0,[])) (r:=zeroRe) (k:=2) (a0:=0) (A:=none) (n:=0) (c:=0) (k0:=0) (t0:={ data:=#[] }) (m0:=0) (Y:=none) (m:=0) (d:=0) P0 R0 ⟨[],Own.nil,trivial⟩ (Sl.nil_ _ _) Tp.none_ q (by omega) (by omega) rfl rfl rfl rfl
    have HPX:=hide hPX
    clear hPX
    (try clear cP0 fP0);have cP0:=P0.cell;have fP0:=P0.frozen;(try clear cR0 fR0);have cR0:=R0.cell;have fR0:=R0.frozen
    go_wp2_with fail
    obtain ⟨P,X9,Y9⟩:=HPX.out
    have cX9:=X9.cell;have cY9:=Y9.cell
    refine bodyPost_ret (v:=.tuple #[.agg #[.int .i64 0,.slice none 0 0],.agg #[.int .i64 0,.string { data:=#[] },.int .i64 0,.slice none 0 0],.int .i64 2]) ?_ rfl P
    simp [results,Tryz.results65,go_sem,cX9,cY9]
   ·have ht9:1073741824<time:=by omega
    have hPX:=apply_done (s:=(0,[])) (r:=zeroRe) (k:=2) (a0:=0) (A:=none) (n:=0) (c:=0) (k0:=0) (t0:={ data:=#[] }) (m0:=0) (Y:=none) (m:=0) (d:=0) P0 R0 ⟨[],Own.nil,trivial⟩ (Sl.nil_ _ _) Tp.none_ q (by omega) (by omega) rfl rfl rfl rfl
    have HPX:=hide hPX
    clear hPX
    (try clear cP0 fP0);have cP0:=P0.cell;have fP0:=P0.frozen;(try clear cR0 fR0);have cR0:=R0.cell;have fR0:=R0.frozen
    go_wp2_with fail
    obtain ⟨P,X9,Y9⟩:=HPX.out
    have cX9:=X9.cell;have cY9:=Y9.cell
    refine bodyPost_ret (v:=.tuple #[.agg #[.int .i64 0,.slice none 0 0],.agg #[.int .i64 0,.string { data:=#[] },.int .i64 0,.slice none 0 0],.int .i64 2]) ?_ rfl P
    simp [results,Tryz.results65,go_sem,cX9,cY9]
  ·have ht0:¬ time<0:=by omega
   have ht9:¬ 1073741824<time:=by omega
   have hr0:=HR.out
   rw [if_neg (by simpa using hcs),if_neg htb] at hr0
   have HR2:=hide hr0
   have hok:=HSO.out hcs
   clear HR
   subst hcs
   have HOK:=hide hok
   clear hr0 hok HSO htb
   (try clear cC0 fC0);have cC0:=C0.cell;have fC0:=C0.frozen
   go_wp2_with fail
   refine (HCC.out _).mono ?_
   rintro e w2 ⟨rfl,hb2⟩
   replace S0:=S0.below' hb2;replace C0:=C0.below' hb2;replace P0:=P0.below' hb2;replace R0:=R0.below' hb2
   replace q:=bstep q hb2
   clear hb2 HCC cC0 fC0
   have hrl:=R0.lt
   have hs1:w.heap.size<w2.heap.size:=by omega
   have hs2:w.heap.size+1<w2.heap.size:=by omega
   have hs3:w.heap.size+2<w2.heap.size:=by omega
   by_cases hcz:cc=0
   ·have hr:=HR2.out
    rw [if_neg (by simpa using hcz)] at hr
    subst hcz
    have hlive:∀ t,(l.filter fun x => !gone t x)=alive t l:=fun _=>rfl
    obtain ⟨tt,htt⟩:∃ tt,tt=max now time:=⟨_,rfl⟩
    rw [←htt] at hr
    have hm2:max now time=tt:=htt.symm
    have hok:=alive_ok HOK.out (t:=tt) (by have:=HOK.out.now0;omega) (by have:=HOK.out.now1;omega)
    have HDONE:=hide (HDOK.out tt (alive tt l) hok rfl)
    have HOK2:=hide hok
    have HM2:=hide hm2
    clear htt hok hm2 HDOK
    subst hr
    (try clear cS0 fS0);have cS0:=S0.cell;have fS0:=S0.frozen
    go_wp2_with fail
    refine (HOWN.out _ q).mono ?_
    rintro e w3 ⟨A1,n1,c1,rfl,O3,hb3⟩
    replace C0:=C0.below' hb3;replace P0:=P0.below' hb3;replace R0:=R0.below' hb3
    have hBw:w.heap.size≤w2.heap.size:=q.size
    replace q:=bstep q hb3
    have h3s:=hb3.size
    clear cS0 fS0 S0 HOWN hb3
    have K4:Blk ((w3.alloc (.cells #[.int .i64 now,.slice A1 n1 c1,.int .i64 0,.bool false] 183)).alloc (.cells #[.pointer (some ⟨w3.heap.size,0,none⟩)] 180)) w3.heap.size 183 #[.int .i64 now,.slice A1 n1 c1,.int .i64 0,.bool false]:=(Blk.new _ _ _).alloc _
    have U4:Blk ((w3.alloc (.cells #[.int .i64 now,.slice A1 n1 c1,.int .i64 0,.bool false] 183)).alloc (.cells #[.pointer (some ⟨w3.heap.size,0,none⟩)] 180)) (w3.heap.size+1) 180 #[.pointer (some ⟨w3.heap.size,0,none⟩)]:=Blk.new' _ _ _ (by simp)
    have bx:Below w3.heap.size w3 ((w3.alloc (.cells #[.int .i64 now,.slice A1 n1 c1,.int .i64 0,.bool false] 183)).alloc (.cells #[.pointer (some ⟨w3.heap.size,0,none⟩)] 180)):=below_by
    have C4:=C0.below' bx;have P4:=P0.below' bx;have R4:=R0.below' bx;have q4:=bstep q bx;have O4:=O3.bl bx
    go_wp2_with fail
    obtain ⟨w4,hw4⟩:∃ w4,w4=((w3.alloc (.cells #[.int .i64 now,.slice A1 n1 c1,.int .i64 0,.bool false] 183)).alloc (.cells #[.pointer (some ⟨w3.heap.size,0,none⟩)] 180)):=⟨_,rfl⟩
    rw [←hw4] at K4 U4 C4 P4 R4 q4 O4 ⊢
    clear hw4 bx C0 P0 R0 q O3
    have hgB:w2.heap.size≤w3.heap.size:=h3s
    have hul:=U4.lt
    have hB4:w2.heap.size≤w4.heap.size:=by omega
    refine wp_region_x (l:=[11]) (S:=fun w'=>w'.cell? ⟨w3.heap.size+1,0,none⟩=some (.pointer (some ⟨w3.heap.size,0,none⟩))∧w'.cell? ⟨w3.heap.size,0,none⟩=some (.int .i64 now)) (by kernel_rfl) ⟨U4.drew.cell 0,K4.drew.cell 0⟩ (fun hS=>?_)
    refine wpAnyX_tq 0 ?_
    refine wpAnyX_tq 1 ?_
    refine wpAnyX_tq 2 ?_
    refine wpAnyX_tq 3 ?_
    refine wpAnyX_tq 4 ?_
    refine wpAnyX_tq 5 ?_
    refine wpAnyX_tq 6 ?_
    refine wpAnyX_tq 7 ?_
    (try simp only [HM2.out])
    refine wpAnyX_ps 8 ?_
    refine wpAnyX_ps 9 ?_
    refine wpAnyX_ps 10 ?_
    (try clear cK4 fK4);have cK4:=K4.cell;have fK4:=K4.frozen
    refine wpAnyX_oq 11 fun K hK=>?_
    go_wp2_with fail
    refine hK.out _ _ (Or.inl (by decide)) (fun hS=>?_)
    clear hK K hS cK4 fK4
    refine wpAnyX_done (by kernel_rfl) ?_ _
    have K5:=(K4.set' (i:=0) (u:=.int .i64 tt) rfl).drew
    have gr5:=grown_setRow_cell w4 w3.heap.size 0 (.int .i64 tt)
    have hug:w3.heap.size+1≠w3.heap.size:=by omega
    have U5:=(grown_blk U4 gr5 hug).drew
    have O5:=(O4.grown K4 gr5).dr
    have C5:=(grown_blk C4 gr5 (by omega)).drew;have P5:=(grown_blk P4 gr5 (by omega)).drew;have R5:=(grown_blk R4 gr5 (by omega)).drew
    have q5:=(below_grow q4 gr5 q4.size (by omega)).drew
    obtain ⟨w5,hw5⟩:∃ w5,w5=(w4.setCell ⟨w3.heap.size,0,none⟩ (.int .i64 tt)).drew:=⟨_,rfl⟩
    have hs5:w5.heap.size=w4.heap.size:=by rw [hw5];simp
    rw [←hw5] at K5 U5 C5 P5 R5 q5 O5 ⊢
    clear hw5 gr5 K4 U4 C4 P4 R4 q4 O4
    have hB5:w2.heap.size≤w5.heap.size:=by omega
    go_wp2_with fail
    refine wp_region_x (l:=[11]) (S:=fun w'=>w'.cell? ⟨w3.heap.size+1,0,none⟩=some (.pointer (some ⟨w3.heap.size,0,none⟩))∧w'.cell? ⟨w3.heap.size,1,none⟩=some (.slice A1 n1 c1)) (by kernel_rfl) ⟨U5.drew.cell 0,K5.drew.cell 1⟩ (fun hS=>?_)
    refine wpAnyX_tq 0 ?_
    refine wpAnyX_tq 1 ?_
    refine wpAnyX_tq 2 ?_
    refine wpAnyX_tq 3 ?_
    refine wpAnyX_tq 4 ?_
    refine wpAnyX_tq 5 ?_
    refine wpAnyX_tq 6 ?_
    have hdf:=DelFunc_ent 97 (run_enter Tryz.func97 (by kernel_rfl) (by kernel_rfl)) (gone tt) w5.drew w2.heap.size (w3.heap.size+1)
     (fun x s1 s2 s3 w' hm=>gone_ x s1 s2 s3 (w3.heap.size+1) w3.heap.size tt w' (hm.frm _ _ _ U5.drew (by decide)).lt ((hm.frm _ _ _ U5.drew (by decide)).cell 0) (hm.frm _ _ _ K5.drew (by decide)).lt ((hm.frm _ _ _ K5.drew (by decide)).cell 0))
     A1 n1 c1 l (by have:=O5.sl.len;have:=HOK.out.few;omega) O5.dr hB5
    rw [hlive] at hdf
    have HDF:=hide hdf
    clear hdf
    refine wpAnyX_oq 7 fun K hK=>?_
    go_wp2_with fail
    ((with_reducible refine HDF.out.mono ?_);rintro e w6 ⟨A',n',c',rfl,O6,e6⟩)
    go_wp2_with fail
    have U6:=e6.frm _ _ _ U5.drew (by decide);have K6:=e6.frm _ _ _ K5.drew (by decide);have C6:=e6.frm _ _ _ C5.drew (by decide);have P6:=e6.frm _ _ _ P5.drew (by decide);have R6:=e6.frm _ _ _ R5.drew (by decide)
    have q6:Below w.heap.size w w6:=q5.drew.trans (e6.bel.mono hBw)
    have hs6:=e6.size
    refine hK.out _ _ (Or.inr ⟨U6.cell 0,K6.cell 1⟩) (fun hS=>?_)
    replace hS:=hS.resolve_left (by decide)
    clear hK K HDF K5 U5 C5 P5 R5 q5 O5 e6
    (try clear cK6 fK6);have cK6:=K6.cell;have fK6:=K6.frozen
    refine wpAnyX_ps 8 ?_
    refine wpAnyX_ps 9 ?_
    refine wpAnyX_ps 10 ?_
    refine wpAnyX_oq 11 fun K hK=>?_
    go_wp2_with fail
    refine hK.out _ _ (Or.inl (by decide)) (fun hS=>?_)
    clear hK K hS cK6 fK6
    refine wpAnyX_done (by kernel_rfl) ?_ _
    have K7:=K6.set' (i:=1) (u:=.slice A' n' c') rfl
    have gr7:=grown_setRow_cell w6 w3.heap.size 1 (.slice A' n' c')
    have U7:=grown_blk U6 gr7 hug
    have O7:=O6.grown K6 gr7
    have C7:=grown_blk C6 gr7 (by omega);have P7:=grown_blk P6 gr7 (by omega);have R7:=grown_blk R6 gr7 (by omega)
    have q7:=below_grow q6 gr7 q6.size (by omega)
    obtain ⟨w7,hw7⟩:∃ w7,w7=w6.setCell ⟨w3.heap.size,1,none⟩ (.slice A' n' c'):=⟨_,rfl⟩
    have hs7:w7.heap.size=w6.heap.size:=by rw [hw7];simp
    rw [←hw7] at K7 U7 C7 P7 R7 q7 O7 ⊢
    clear hw7 gr7 K6 U6 C6 P6 R6 q6 O6
    have hB7:w2.heap.size≤w7.heap.size:=by simp at hs6;omega
    have hul7:=U7.lt
    have hgl7:=K7.lt
    have hcl7:=C7.lt
    have hdoc:=HDO.out tt (alive tt l) w2.heap.size w3.heap.size 0 false w7 ⟨A',n',c',K7,O7⟩ HOK2.out.ens (by simp) hgB hB7
    have hdn:=HDONE.out
    generalize doS tt (alive tt l) ⟨ck,ckey,cf,ct,cn⟩=Dd at *
    obtain ⟨lr,⟨rc,rt,rn,rl⟩⟩:=Dd
    have HDOC:=hide hdoc
    have HDN:=hide hdn
    clear hdoc hdn HDO HDONE hlive
    (try clear cU7 fU7);have cU7:=U7.cell;have fU7:=U7.frozen;(try clear cC7 fC7);have cC7:=C7.cell;have fC7:=C7.frozen
    go_wp2_with fail
    refine HDOC.out.mono ?_
    rintro e w8 ⟨Y,m,d,rfl,L8,T8,⟨a8,t8,A8,n8,c8,K8,O8⟩,k8⟩
    have U8:=k8.frm _ _ _ U7 (by decide) (by decide);have P8:=k8.frm _ _ _ P7 (by decide) (by decide);have R8:=k8.frm _ _ _ R7 (by decide) (by decide)
    have q8:Below w.heap.size w w8:=q7.trans (k8.bel.mono hBw)
    have hs8:=k8.size
    clear cU7 fU7 cC7 fC7 HDOC K7 U7 C7 P7 R7 q7 O7 k8
    simp only at L8 O8
    have bx8:Below w8.heap.size w8 (w8.alloc (.cells #[.int .i64 rc,.string rt,.int .i64 rn,.slice Y m d] 102)):=below_by
    have Q9:Blk (w8.alloc (.cells #[.int .i64 rc,.string rt,.int .i64 rn,.slice Y m d] 102)) w8.heap.size 102 #[.int .i64 rc,.string rt,.int .i64 rn,.slice Y m d]:=Blk.new _ _ _
    have K9:=K8.below' bx8;have U9:=U8.below' bx8;have P9:=P8.below' bx8;have R9:=R8.below' bx8
    have O9:=O8.bl bx8;have L9:=L8.below bx8;have T9:=T8.bl bx8;have q9:=bstep q8 bx8
    go_wp2_with fail
    obtain ⟨w9,hw9⟩:∃ w9,w9=w8.alloc (.cells #[.int .i64 rc,.string rt,.int .i64 rn,.slice Y m d] 102):=⟨_,rfl⟩
    rw [←hw9] at Q9 K9 U9 P9 R9 O9 L9 T9 q9 ⊢
    clear hw9 bx8 K8 U8 P8 R8 O8 L8 T8 q8
    refine wp_region_x (l:=[]) (S:=fun w'=>w'.cell? ⟨w3.heap.size+1,0,none⟩=some (.pointer (some ⟨w3.heap.size,0,none⟩))∧w'.cell? ⟨w3.heap.size,0,none⟩=some (.int .i64 tt)∧w'.cell? ⟨w3.heap.size,1,none⟩=some (.slice A8 n8 c8)∧w'.cell? ⟨w8.heap.size,0,none⟩=some (.int .i64 rc)∧w'.cell? ⟨w8.heap.size,1,none⟩=some (.string rt)∧w'.cell? ⟨w8.heap.size,2,none⟩=some (.int .i64 rn)∧w'.cell? ⟨w8.heap.size,3,none⟩=some (.slice Y m d)) (by kernel_rfl)
     ⟨U9.drew.cell 0,K9.drew.cell 0,K9.drew.cell 1,Q9.drew.cell 0,Q9.drew.cell 1,Q9.drew.cell 2,Q9.drew.cell 3⟩ (fun hS=>?_)
    refine wpAnyX_tq 0 ?_
    refine wpAnyX_tq 1 ?_
    refine wpAnyX_tq 2 ?_
    refine wpAnyX_tq 3 ?_
    refine wpAnyX_tq 5 ?_
    have hown9:=ownS_any tt A8 n8 c8 lr w9.drew O9.sl.dr (by have:=O9.sl.len;have:=HDN.out.few;omega) (fun x hx=>by have:=HDN.out.small x hx;exact ⟨by have:=this.1;omega,by have:=this.2.1;omega,by have:=this.2.2;omega⟩)
    have HOWN9:=hide hown9
    clear hown9
    refine wpAnyX_oq 4 fun K hK=>?_
    go_wp2_with fail
    ((with_reducible refine HOWN9.out.mono ?_);rintro e wA ⟨A9,n9,c9,rfl,OA,hbA⟩)
    go_wp2_with fail
    have hbA9:Below w9.heap.size w9 wA:=Below.trans (Below.refl _ w9).drew hbA
    have QA:=Q9.below' hbA9;have KA:=K9.below' hbA9;have UA:=U9.below' hbA9;have PA:=P9.below' hbA9;have RA:=R9.below' hbA9
    have LA:=L9.below hbA9;have TA:=T9.bl hbA9;have qA:=bstep q9 hbA9
    have OA2:=OA.mono (B':=w.heap.size) q9.drew.size
    refine hK.out _ _ (Or.inr ⟨UA.cell 0,KA.cell 0,KA.cell 1,QA.cell 0,QA.cell 1,QA.cell 2,QA.cell 3⟩) (fun hS=>?_)
    replace hS:=hS.resolve_left (by decide)
    clear hK K HOWN9 Q9 K9 U9 P9 R9 O9 L9 T9 q9 OA hbA hbA9
    have hral:=RA.lt
    have hs8':w.heap.size+3<w8.heap.size:=by simp at hs6;omega
    have HFIN:=hide (apply_done (s:=(tt,lr)) (r:=⟨rc,rt,rn,rl⟩) (k:=0) PA RA OA2 LA TA qA (by omega) (by omega) rfl rfl rfl rfl)
    have PB:=(PA.set' (i:=0) (u:=.int .i64 tt) rfl).set' (i:=1) (u:=.slice A9 n9 c9) rfl
    have grB:=grown_trans (grown_setRow_cell wA (w.heap.size+2) 0 (.int .i64 tt)) (grown_setRow_cell _ (w.heap.size+2) 1 (.slice A9 n9 c9))
    have UB:=grown_blk UA grB (by omega);have KB:=grown_blk KA grB (by omega);have QB:=grown_blk QA grB (by omega);have RB:=grown_blk RA grB (by omega)
    clear OA2 LA TA qA
    (try clear cPA fPA);have cPA:=PA.cell;have fPA:=PA.frozen
    refine wpAnyX_oq 6 fun K hK=>?_
    go_wp2_with fail
    refine hK.out _ _ (Or.inr ⟨UB.cell 0,KB.cell 0,KB.cell 1,QB.cell 0,QB.cell 1,QB.cell 2,QB.cell 3⟩) (fun hS=>?_)
    replace hS:=hS.resolve_left (by decide)
    clear hK K cPA fPA
    obtain ⟨XC,grC,-⟩:=whole_reply (.int .i64 rc) (.string rt) (.int .i64 rn) (.slice Y m d) RB
    have UC:=grown_blk UB grC (by omega);have KC:=grown_blk KB grC (by omega);have QC:=grown_blk QB grC (by omega)
    (try clear cRB fRB);have cRB:=RB.cell;have fRB:=RB.frozen
    refine wpAnyX_oq 7 fun K hK=>?_
    go_wp2_with fail
    refine hK.out _ _ (Or.inr ⟨UC.cell 0,KC.cell 0,KC.cell 1,QC.cell 0,QC.cell 1,QC.cell 2,QC.cell 3⟩) (fun hS=>?_)
    replace hS:=hS.resolve_left (by decide)
    clear hK K cRB fRB
    refine wpAnyX_oq 8 fun K hK=>?_
    go_wp2_with fail
    refine hK.out _ _ (Or.inr ⟨UC.cell 0,KC.cell 0,KC.cell 1,QC.cell 0,QC.cell 1,QC.cell 2,QC.cell 3⟩) (fun hS=>?_)
    clear hK K hS
    refine wpAnyX_done (by kernel_rfl) ?_ _
    go_wp2_with fail
    obtain ⟨P,X9,Y9⟩:=HFIN.out
    have cX9:=X9.cell;have cY9:=Y9.cell
    refine bodyPost_ret (v:=.tuple #[.agg #[.int .i64 tt,.slice A9 n9 c9],.agg #[.int .i64 rc,.string rt,.int .i64 rn,.slice Y m d],.int .i64 0]) ?_ rfl P
    simp [results,Tryz.results65,go_sem,cX9,cY9]
   ·have hr:=HR2.out
    rw [if_pos (by simpa using hcz)] at hr
    subst hr
    have hcz':(cc == 0)=false:=by rw [beq_eq_false_iff_ne];exact hcz
    have hPX:=apply_done (s:=(0,[])) (r:=zeroRe) (k:=cc) (a0:=0) (A:=none) (n:=0) (c:=0) (k0:=0) (t0:={ data:=#[] }) (m0:=0) (Y:=none) (m:=0) (d:=0) P0 R0 ⟨[],Own.nil,trivial⟩ (Sl.nil_ _ _) Tp.none_ q (by omega) (by omega) rfl rfl rfl rfl
    have HPX:=hide hPX
    clear hPX
    (try clear cP0 fP0);have cP0:=P0.cell;have fP0:=P0.frozen;(try clear cR0 fR0);have cR0:=R0.cell;have fR0:=R0.frozen
    go_wp2_with fail
    obtain ⟨P,X9,Y9⟩:=HPX.out
    have cX9:=X9.cell;have cY9:=Y9.cell
    refine bodyPost_ret (v:=.tuple #[.agg #[.int .i64 0,.slice none 0 0],.agg #[.int .i64 0,.string { data:=#[] },.int .i64 0,.slice none 0 0],.int .i64 cc]) ?_ rfl P
    simp [results,Tryz.results65,go_sem,cX9,cY9]
 ·have hr:=HR.out
  rw [if_pos (by simpa using hcs)] at hr
  subst hr
  have hcs':(cs == 0)=false:=by rw [beq_eq_false_iff_ne];exact hcs
  have hPX:=apply_done (s:=(0,[])) (r:=zeroRe) (k:=cs) (a0:=0) (A:=none) (n:=0) (c:=0) (k0:=0) (t0:={ data:=#[] }) (m0:=0) (Y:=none) (m:=0) (d:=0) P0 R0 ⟨[],Own.nil,trivial⟩ (Sl.nil_ _ _) Tp.none_ q (by omega) (by omega) rfl rfl rfl rfl
  have HPX:=hide hPX
  clear hPX
  (try clear cP0 fP0);have cP0:=P0.cell;have fP0:=P0.frozen;(try clear cR0 fR0);have cR0:=R0.cell;have fR0:=R0.frozen
  go_wp2_with fail
  obtain ⟨P,X9,Y9⟩:=HPX.out
  have cX9:=X9.cell;have cY9:=Y9.cell
  refine bodyPost_ret (v:=.tuple #[.agg #[.int .i64 0,.slice none 0 0],.agg #[.int .i64 0,.string { data:=#[] },.int .i64 0,.slice none 0 0],.int .i64 cs]) ?_ rfl P
  simp [results,Tryz.results65,go_sem,cX9,cY9]
structure St (w:World) (A:Option Addr) (n c:Nat) (l:List En):Prop where
 sl:StSl w A n c l
 tp:Tp w A 98
section
variable {w w':World} {A:Option Addr} {n c g:Nat} {l:List En} {t:TypeId} {cs:Array Value}
theorem St.nil (w:World):St w none 0 0 []:=⟨StSl.nil w,Tp.none_⟩
theorem St.bl (h:St w A n c l) (hb:Below w.heap.size w w'):St w' A n c l:=⟨h.sl.bl hb,h.tp.bl hb⟩
theorem St.al (h:St w A n c l) (o:Obj):St (w.alloc o) A n c l:=h.bl ((Below.refl _ w).alloc (Nat.le_refl _) o)
theorem St.dr (h:St w A n c l):St w.drew A n c l:=h.bl (Below.refl _ w).drew
theorem St.of {B:Nat} (h:StOwn w B A n c l):St w A n c l:=⟨h.sl,by obtain ⟨rows,h1,_⟩:=h;exact own_tp h1⟩
theorem St.grown (h:St w A n c l) (R:Blk w g t cs) (hg:w.grownBy w' (some g)) (h0:98≠t:=by decide) (h1:t≠137:=by decide) (h2:t≠9:=by decide) (h3:t≠139:=by decide):St w' A n c l:=by
 refine ⟨?_,grown_tp h.tp R hg h0⟩
 obtain ⟨rows,k1,k2⟩:=h.sl
 exact ⟨rows,k1.far hg (h.tp.ne R h0),k2.fr (Fr.grown R hg h1 h2 h3)⟩
end
def ApplyLeft (R:(Int×List En)×Re×Int) (w:World) (e:Ending) (w':World):Prop:=
 ∃ A n c Y m d,e = .returned (.tuple #[.agg #[.int .i64 R.1.1,.slice A n c],.agg #[.int .i64 R.2.1.code,.string R.2.1.text,.int .i64 R.2.1.n,.slice Y m d],.int .i64 R.2.2])∧St w' A n c R.1.2∧Sl w' 1 Y m d (strRows R.2.1.list)∧Tp w' Y 9∧Below w.heap.size w w'
theorem Apply_may {now:Int} {l:List En} (hs:StOk now l) (time:Int) (cm:Cmd) (R:(Int×List En)×Re×Int) (hR:applyS now l time cm=R) (t0:0≤time) (t1:time≤2147483648) (A:Option Addr) (n c:Nat) (w:World) (h:St w A n c l) :
  Calls Tryz.prog 65 #[.agg #[.int .i64 now,.slice A n c],.int .i64 time,.agg #[.int .i64 cm.kind,.string cm.key,.string cm.field,.string cm.text,.int .i64 cm.n]] w (ApplyLeft R w):=by
 subst hR
 refine (Apply_any now A n c l time cm w h.sl (by have:=h.sl.len;have:=hs.few;omega) (fun x hx=>by obtain ⟨a,b,d⟩:=hs.small x hx;exact ⟨by omega,by omega,by omega⟩) (by omega) (by omega)).mono ?_
 rintro e w' ⟨A,n,c,Y,m,d,h1,h2,h3⟩
 exact ⟨A,n,c,Y,m,d,h1,St.of h2,h3⟩
theorem alive_self {now:Int} {l:List En} (hs:StOk now l):alive now l=l:=by
 unfold alive
 rw [List.filter_eq_self]
 intro x hx
 have:=hs.till x hx
 have hn:¬ gone now x=true:=by rw [gone_iff];omega
 simpa using hn
theorem cc_keys:ccOf ⟨22,{ data:=#[] },{ data:=#[] },{ data:=#[] },0⟩=0:=by
 have hb:bare 22 { data:=#[] } { data:=#[] } { data:=#[] } 0=true:=by
  have e:emp=({ data:=#[] }:ByteArray):=rfl
  unfold bare
  rw [←e,emp_list];rfl
 unfold ccOf checkCommand
 simp only
 rw [if_neg (by omega),if_neg (by rw [hb];simp),if_neg,if_neg (by rw [countOk_iff.2 ⟨by omega,by omega⟩];simp)]
 rintro (⟨h,_⟩|⟨h,_⟩|h)
 ·exact absurd h (by decide)
 ·exact absurd h (by decide)
 ·rw [textOk_iff.2 (by decide)] at h;cases h
section
variable {k:ByteArray} {v:Va} {t now:Int} {c:Cmd}
theorem nil_ok (h0:0≤now) (h1:now≤1073741824):StOk now []:=⟨h0,h1,by simp,by simp,by simp,by simp,by simp⟩
theorem do_keys {l:List En} (h:c.kind=22):doS now l c=(l,⟨0,emp,0,l.map En.key⟩):=by
 unfold doS;rw [if_pos h]
end
end Go.Proofs.YtgmojjclobkpjaaGreatDoor

