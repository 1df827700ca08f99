import Derived.Test.YtgmojjclobkpjaaStoC
import Derived.Test.YtgmojjclobkpjaaStoD
import Derived.Test.YtgmojjclobkpjaaValsP
import Derived.Test.YtgmojjclobkpjaaCmd
/- Stores that may be, and what Apply makes of them: plain facts. -/
namespace Go.Proofs.Ytgmojjclobkpjaa
set_option linter.all false
open Go.RowKit
/-- A store that may be. -/
structure StOk (now : Int) (l : List En) : Prop where
  now0 : 0 ≤ now
  now1 : now ≤ 1073741824
  few : l.length ≤ 12
  keys : ∀ x ∈ l, 1 ≤ x.key.size ∧ x.key.size ≤ 12
  good : ∀ x ∈ l, Good x.val
  till : ∀ x ∈ l, x.till = 0 ∨ (now < x.till ∧ x.till ≤ 1073741824)
  rise : l.Pairwise Rk
theorem chain_pair {α : Type} {R : α → α → Prop} (tr : ∀ a b c, R a b → R b c → R a c) {l : List α} (h : ∀ j (hj : j + 1 < l.length), R l[j] l[j + 1]) : l.Pairwise R := by
  rw [List.pairwise_iff_getElem]
  intro i j hi hj hij
  induction j with
  | zero => omega
  | succ j ih =>
    rcases Nat.lt_or_eq_of_le (Nat.le_of_lt_succ hij) with hlt | rfl
    · exact tr _ _ _ (ih (by omega) hlt) (h j hj)
    · exact h i hj
theorem rk_trans (a b c : En) (h : Rk a b) (k : Rk b c) : Rk a c := cmpB_trans h k
theorem entBad_at {now : Int} {l : List En} {k : Nat} (hk : k < l.length) : entBad now l k = (keyBad l[k] || checkValue l[k].val != 0 || orderBad l k l[k] || tillBad now l[k]) := by
  unfold entBad; rw [List.getElem?_eq_getElem hk]
theorem store_ok {now : Int} {l : List En} (h : checkStore now l = 0) : StOk now l := by
  unfold checkStore at h
  split at h
  · cases h
  next h0 =>
    split at h
    · cases h
    next h1 =>
      have hall : ∀ k (hk : k < l.length), keyBad l[k] = false ∧ checkValue l[k].val = 0 ∧ orderBad l k l[k] = false ∧ tillBad now l[k] = false := by
        intro k hk
        have hf : entBad now l k = false := by
          cases he : entBad now l k with
          | false => rfl
          | true => exact absurd (List.any_eq_true.2 ⟨k, List.mem_range.2 hk, he⟩) h1
        rw [entBad_at hk] at hf
        simp only [Bool.or_eq_false_iff, bne_eq_false_iff_eq] at hf
        exact ⟨hf.1.1.1, hf.1.1.2, hf.1.2, hf.2⟩
      have hm : ∀ x ∈ l, keyBad x = false ∧ checkValue x.val = 0 ∧ tillBad now x = false := by
        intro x hx
        obtain ⟨k, hk, rfl⟩ := List.mem_iff_getElem.1 hx
        obtain ⟨a, b, _, d⟩ := hall k hk
        exact ⟨a, b, d⟩
      refine ⟨by omega, by omega, by omega, fun x hx => ?_, fun x hx => good_of (hm x hx).2.1, fun x hx => ?_, chain_pair rk_trans fun j hj => ?_⟩
      · have := (hm x hx).1
        simp only [keyBad, Bool.or_eq_false_iff, decide_eq_false_iff_not] at this
        omega
      · have := (hm x hx).2.2
        simp only [tillBad, Bool.and_eq_false_iff, bne_eq_false_iff_eq, Bool.or_eq_false_iff, decide_eq_false_iff_not] at this
        omega
      · have := (hall (j + 1) hj).2.2.1
        simp only [orderBad, List.getElem?_eq_getElem (show j < l.length by omega), decide_eq_false_iff_not] at this
        show cmpB _ _ < 0
        omega
theorem ok_store {now : Int} {l : List En} (h : StOk now l) : checkStore now l = 0 := by
  refine store_good ?_ fun k hk => ?_
  · have := h.now0; have := h.now1; have := h.few; omega
  · rw [entBad_at hk]
    have hx := List.getElem_mem hk
    simp only [Bool.or_eq_false_iff, bne_eq_false_iff_eq]
    refine ⟨⟨⟨?_, good_to (h.good _ hx)⟩, ?_⟩, ?_⟩
    · have := h.keys _ hx
      simp only [keyBad, Bool.or_eq_false_iff, decide_eq_false_iff_not]
      omega
    · cases k with
      | zero => rfl
      | succ j =>
        have hr : cmpB l[j].key l[j + 1].key < 0 := List.pairwise_iff_getElem.1 h.rise j (j + 1) (by omega) hk (by omega)
        simp only [orderBad, List.getElem?_eq_getElem (show j < l.length by omega), decide_eq_false_iff_not]
        omega
    · have := h.till _ hx
      simp only [tillBad, Bool.and_eq_false_iff, bne_eq_false_iff_eq, Bool.or_eq_false_iff, decide_eq_false_iff_not]
      omega
/-- What is there at a time. -/
def alive (t : Int) (l : List En) : List En := l.filter fun x => !gone t x
theorem alive_mem {t : Int} {l : List En} {x : En} : x ∈ alive t l ↔ x ∈ l ∧ gone t x = false := by
  unfold alive; rw [List.mem_filter]; simp
theorem gone_iff {t : Int} {x : En} : gone t x = true ↔ x.till ≠ 0 ∧ x.till ≤ t := by
  simp [gone]
theorem alive_ok {now t : Int} {l : List En} (h : StOk now l) (ht : now ≤ t) (h1 : t ≤ 1073741824) : StOk t (alive t l) := by
  have hs : (alive t l).Sublist l := List.filter_sublist
  refine ⟨by have := h.now0; omega, h1, by have := hs.length_le; have := h.few; omega, fun x hx => h.keys x (hs.mem hx), fun x hx => h.good x (hs.mem hx), fun x hx => ?_, h.rise.sublist hs⟩
  obtain ⟨hm, hg⟩ := alive_mem.1 hx
  have hn : ¬ (x.till ≠ 0 ∧ x.till ≤ t) := fun hc => by rw [gone_iff.2 hc] at hg; cases hg
  rcases h.till x hm with h0 | ⟨_, h2⟩
  · exact .inl h0
  · omega
theorem StOk.ens {now : Int} {l : List En} (h : StOk now l) : EnsOk now l :=
  ⟨h.rise, h.few, fun x hx => by have := h.till x hx; have := h.now0; omega, h.good, h.now0, h.now1⟩
theorem StOk.small {now : Int} {l : List En} (h : StOk now l) : ∀ x ∈ l, small x.val 20 := fun x hx => by
  have := (h.good x hx).sizes
  exact ⟨this.1, this.2.1, this.2.2.1⟩
/-- What Apply makes: the store behind it (its time, its entries), the reply, what is wrong. -/
def applyS (now : Int) (l : List En) (time : Int) (c : Cmd) : (Int × List En) × Re × Int :=
  if checkStore now l ≠ 0 then ((0, []), zeroRe, checkStore now l)
  else if time < 0 ∨ 1073741824 < time then ((0, []), zeroRe, 2)
  else if ccOf c ≠ 0 then ((0, []), zeroRe, ccOf c)
  else ((max now time, (doS (max now time) (alive (max now time) l) c).1), (doS (max now time) (alive (max now time) l) c).2, 0)
section
variable {now : Int} {l : List En} {c : Cmd}
theorem keyHas_eq {f : ByteArray} (h : keyHas f l = true) : (l[keyAt f l]'(keyHas_lt h)).key = f := by
  have h2 := h
  unfold keyHas at h2
  rw [foundAt_lt (keyHas_lt h)] at h2
  rw [← cmpB_eq]; simpa using h2
/-- A key that is not there: what comes ahead of its place is smaller, what comes from there on is greater. -/
theorem key_after {f : ByteArray} (hr : l.Pairwise Rk) (hn : keyHas f l = false) : ∀ t (ht : t < l.length), keyAt f l ≤ t → cmpB f l[t].key < 0 := by
  intro i hi hk
  have h0 := key_h2 (key := f) hr i hi hk
  have hne : cmpB l[i].key f ≠ 0 := by
    intro e
    rcases Nat.lt_or_eq_of_le hk with hlt | heq
    · have h2 := key_h2 (key := f) hr (keyAt f l) (by omega) (Nat.le_refl _)
      have h3 : cmpB (l[keyAt f l]'(by omega)).key l[i].key < 0 := List.pairwise_iff_getElem.1 hr _ _ (by omega) hi hlt
      rw [cmpB_eq] at e
      rw [e] at h3; omega
    · subst heq
      have := found_not hn hi
      rw [e] at this; simp at this
  exact cmpB_pos (by omega)
theorem keys_ins {x : En} (hr : l.Pairwise Rk) (hn : keyHas x.key l = false) : (insRows l (keyAt x.key l) x).Pairwise Rk :=
  ins_pair hr (fun i hi hk => key_h1 i hi hk) (fun i hi hk => key_after hr hn i hi hk)
theorem set_ins {α : Type} {l : List α} {k : Nat} (hk : k ≤ l.length) (x y : α) : (insRows l k x).set k y = insRows l k y ∧ (insRows l k x)[k]? = some x := by
  have hl : (l.take k).length = k := by rw [List.length_take]; omega
  unfold insRows
  constructor
  · rw [List.append_assoc, List.append_assoc, List.set_append_right _ _ (by omega), hl, Nat.sub_self]
    rfl
  · rw [List.append_assoc, List.getElem?_append_right (by omega), hl, Nat.sub_self]
    rfl
theorem set_keys {k : Nat} (hr : l.Pairwise Rk) (hk : k < l.length) {x : En} (hx : x.key = l[k].key) : (l.set k x).Pairwise Rk := by
  rw [List.pairwise_iff_getElem] at hr ⊢
  intro i j hi hj hij
  rw [List.length_set] at hi hj
  have hki : ∀ i (hi : i < (l.set k x).length), (l.set k x)[i].key = (l[i]'(by simpa using hi)).key := by
    intro i hi
    rw [List.getElem_set]
    split
    next he => subst he; exact hx
    next => rfl
  show cmpB _ _ < 0
  rw [hki, hki]
  exact hr i j hi hj hij
theorem cc_key (h : ccOf c = 0) (hk : c.kind ≠ 22) : 1 ≤ c.key.size ∧ c.key.size ≤ 12 := by
  unfold ccOf checkCommand at h
  split at h
  · cases h
  split at h
  · cases h
  split at h
  · cases h
  rename_i h2
  simp only [not_or, not_and, Bool.not_eq_false] at h2
  exact fieldOk_iff.1 (h2.1 (by unfold cmdKey; rw [Bool.not_eq_true', beq_eq_false_iff_ne]; exact hk))
theorem setS_has {k : Nat} {v : Va} (hk : k < l.length) : setS l k true c v = l.set k ⟨l[k].key, v, if c.kind = 1 then 0 else l[k].till⟩ := by
  unfold setS
  rw [if_pos rfl, List.getElem?_eq_getElem hk]
theorem setS_new {k : Nat} {v : Va} (hk : k ≤ l.length) : setS l k false c v = insRows l k ⟨c.key, v, 0⟩ := by
  unfold setS
  rw [if_neg (by simp), (set_ins hk _ ⟨c.key, v, 0⟩).2]
  simp only
  rw [(set_ins hk _ _).1]
  split <;> rfl
theorem timed_has {k : Nat} (hk : k < l.length) : timedS now l k true c = if c.kind = 21 then (l, toldR (max (l[k].till - now) 0)) else if c.n < 1 ∨ 1073741824 - now < c.n then (l, failR 2) else (l.set k ⟨l[k].key, l[k].val, now + c.n⟩, toldR 0) := by
  unfold timedS
  rw [if_neg (by simp), List.getElem?_eq_getElem hk]
theorem old_may (h : StOk now l) (k : Nat) (t : Bool) : May (oldOf l k t) := by
  unfold oldOf
  split
  · cases hx : l[k]? with
    | none => exact .inl rfl
    | some x => exact .inr (h.good x (List.mem_of_getElem? hx))
  · exact .inl rfl
theorem StOk.del (h : StOk now l) (k : Nat) : StOk now (delRows l k) := by
  have hs := del_sub l k
  exact ⟨h.now0, h.now1, by have := hs.length_le; have := h.few; unfold delRows; omega, fun x hx => h.keys x (mem_del hx), fun x hx => h.good x (mem_del hx), fun x hx => h.till x (mem_del hx), del_pair h.rise⟩
theorem StOk.set (h : StOk now l) {k : Nat} (hk : k < l.length) {x : En} (hx : x.key = l[k].key) (hg : Good x.val) (ht : x.till = 0 ∨ (now < x.till ∧ x.till ≤ 1073741824)) : StOk now (l.set k x) := by
  have hm : ∀ y ∈ l.set k x, y = x ∨ y ∈ l := fun y hy => (List.mem_or_eq_of_mem_set hy).symm
  refine ⟨h.now0, h.now1, by rw [List.length_set]; exact h.few, fun y hy => ?_, fun y hy => ?_, fun y hy => ?_, set_keys h.rise hk hx⟩
  · rcases hm y hy with rfl | hy
    · rw [hx]; exact h.keys _ (List.getElem_mem hk)
    · exact h.keys y hy
  · rcases hm y hy with rfl | hy
    · exact hg
    · exact h.good y hy
  · rcases hm y hy with rfl | hy
    · exact ht
    · exact h.till y hy
/-- Whatever is done, a store may be. -/
theorem doS_ok (h : StOk now l) (hc : ccOf c = 0) : StOk now (doS now l c).1 := by
  have hkk := cc_kind hc
  have hkl := @keyHas_lt c.key l
  have hke := @keyHas_eq l c.key
  have hkle : keyAt c.key l ≤ l.length := lowB_le _ _
  unfold doS
  split
  · exact h
  next h22 =>
    have hkey := cc_key hc h22
    split
    · split
      · exact h.del _
      · exact h
    next h19 =>
      split
      next ht =>
        cases hh : keyHas c.key l with
        | false => unfold timedS; rw [if_pos rfl]; exact h
        | true =>
          rw [timed_has (hkl hh)]
          split
          · exact h
          · split
            · exact h
            · exact h.set (hkl hh) rfl (h.good (l[keyAt c.key l]'(hkl hh)) (List.getElem_mem _)) (.inr ⟨by show now < now + c.n; omega, by show now + c.n ≤ 1073741824; omega⟩)
      next ht =>
        have hm := done_may (old_may h (keyAt c.key l) (keyHas c.key l)) c
        split
        · exact h
        · split
          · exact h.del _
          · split
            · exact h
            next hfull =>
              split
              next hv =>
                have hg : Good (doneVal (oldOf l (keyAt c.key l) (keyHas c.key l)) c).1 := by
                  rcases hm with hz | hg
                  · rw [hz] at hv; exact absurd rfl hv
                  · exact hg
                cases hh : keyHas c.key l with
                | true =>
                  simp only
                  rw [setS_has (hkl hh)]
                  refine h.set (hkl hh) rfl (by rw [hh] at hg; exact hg) ?_
                  split
                  · exact .inl rfl
                  · exact h.till (l[keyAt c.key l]'(hkl hh)) (List.getElem_mem _)
                | false =>
                  simp only
                  rw [setS_new hkle]
                  rw [hh] at hg hfull
                  refine ⟨h.now0, h.now1, by rw [ins_len]; have := h.few; simp at hfull; omega, fun y hy => ?_, fun y hy => ?_, fun y hy => ?_, keys_ins (x := ⟨c.key, _, 0⟩) h.rise hh⟩
                  · rcases mem_ins.1 hy with rfl | hy
                    · exact hkey
                    · exact h.keys y hy
                  · rcases mem_ins.1 hy with rfl | hy
                    · exact hg
                    · exact h.good y hy
                  · rcases mem_ins.1 hy with rfl | hy
                    · exact .inl rfl
                    · exact h.till y hy
              next hv => exact h
end
end Go.Proofs.Ytgmojjclobkpjaa
/- What is replied keeps a reply's bounds: plain facts. -/
namespace Go.Proofs.Ytgmojjclobkpjaa
set_option linter.all false
open Go.RowKit
structure ReOk (r : Re) : Prop where
  c0 : 0 ≤ r.code
  c1 : r.code ≤ 13
  text : r.text.size ≤ 20
  few : r.list.length ≤ 20
  each : ∀ s ∈ r.list, s.size ≤ 20
  n0 : -1099511627776 ≤ r.n
  n1 : r.n ≤ 1099511627776
def repOk (r : Re) : Int := checkReply r.code r.text r.n r.list
theorem rep_ok {r : Re} (h : ReOk r) : repOk r = 0 := by
  obtain ⟨a, b, c, d, e, f, g⟩ := h
  unfold repOk checkReply
  rw [if_neg (by omega), if_neg (by omega), if_neg, if_neg (by omega)]
  intro hc
  obtain ⟨s, hs, hb⟩ := List.any_eq_true.1 hc
  have := e s hs
  simp at hb; omega
theorem rep_to {r : Re} (h : repOk r = 0) : ReOk r := by
  unfold repOk checkReply at h
  split at h
  · cases h
  split at h
  · cases h
  split at h
  · cases h
  next h3 =>
    split at h
    · cases h
    refine ⟨by omega, by omega, by omega, by omega, fun s hs => ?_, by omega, by omega⟩
    rcases Nat.lt_or_ge 20 s.size with hl | hl
    · exact absurd (List.any_eq_true.2 ⟨s, hs, by simpa using hl⟩) h3
    · exact hl
theorem told_re {n : Int} (h0 : -1099511627776 ≤ n) (h1 : n ≤ 1099511627776) : ReOk (toldR n) := ⟨by simp [toldR], by simp [toldR], by simp [toldR, emp_size], by simp [toldR], by simp [toldR], h0, h1⟩
theorem fail_re {k : Int} (h0 : 0 ≤ k) (h1 : k ≤ 13) : ReOk (failR k) := ⟨h0, h1, by simp [failR, emp_size], by simp [failR], by simp [failR], by simp [failR], by simp [failR]⟩
theorem text_re {s : ByteArray} (h : s.size ≤ 20) : ReOk (textR s) := ⟨by simp [textR], by simp [textR], h, by simp [textR], by simp [textR], by simp [textR], by simp [textR]⟩
theorem zero_re : ReOk zeroRe := ⟨by simp [zeroRe], by simp [zeroRe], by simp [zeroRe, emp_size], by simp [zeroRe], by simp [zeroRe], by simp [zeroRe], by simp [zeroRe]⟩
theorem flagI_in (b : Bool) : -1099511627776 ≤ flagI b ∧ flagI b ≤ 1099511627776 := by cases b <;> simp [flagI]
theorem getD_size {l : List ByteArray} {k : Nat} (h : ∀ s ∈ l, s.size ≤ 20) : ((l[k]?).getD emp).size ≤ 20 := by
  cases hl : l[k]? with
  | none => simp [emp_size]
  | some s => exact h s (List.mem_of_getElem? hl)
theorem do_rep {v : Va} {c : Cmd} (h : Ok v) : ReOk (doVal v c).2 := by
  obtain ⟨k1, k6, ft, fc, fp, fi, fs, np, ni, ns, tt, ti, tp, tm, cc, cs, rp, ri, rs, un⟩ := h
  have t0 : ReOk (toldR 0) := told_re (by omega) (by omega)
  have t1 : ReOk (toldR 1) := told_re (by omega) (by omega)
  have f5 : ReOk (failR 5) := fail_re (by omega) (by omega)
  have f6 : ReOk (failR 6) := fail_re (by omega) (by omega)
  have f7 : ReOk (failR 7) := fail_re (by omega) (by omega)
  unfold doVal
  split
  · exact t0
  split
  · exact text_re tt
  split
  · unfold doAdd
    split
    next ho => exact told_re (countOk_iff.1 ho).1 (countOk_iff.1 ho).2
    · exact f7
  split
  · have : v.size ≤ 60 := by unfold Va.size; omega
    exact told_re (by omega) (by omega)
  split
  · have hlen : (allOf v).length ≤ 20 := by
      unfold allOf
      simp only [List.length_append, List.length_map]
      have e1 : v.kind = 3 ∨ v.pairs.length = 0 := fp.imp id (fun h => by rw [h]; rfl)
      have e2 : v.kind = 4 ∨ v.kind = 5 ∨ v.items.length = 0 := fi.imp id (fun h => h.imp id (fun h => by rw [h]; rfl))
      have e3 : v.kind = 6 ∨ v.scores.length = 0 := fs.imp id (fun h => by rw [h]; rfl)
      omega
    refine ⟨by simp, by simp, by simp [emp_size], hlen, fun s hs => ?_, by simp, by simp⟩
    unfold allOf at hs
    rcases List.mem_append.1 hs with hs | hs
    · rcases List.mem_append.1 hs with hs | hs
      · exact ti s hs
      · obtain ⟨x, hx, rfl⟩ := List.mem_map.1 hs
        have := (tp x hx).1.2; omega
    · obtain ⟨x, hx, rfl⟩ := List.mem_map.1 hs
      exact tm x hx
  split
  · unfold doHash
    (repeat' split) <;> first | assumption | skip
    refine text_re ?_
    unfold pairText
    split
    next y hy => exact (tp y (List.mem_of_getElem? hy)).2
    · simp [emp_size]
  split
  · unfold doList
    (repeat' split) <;> first | assumption | exact told_re (by omega) (by omega) | exact text_re (getD_size ti)
  split
  · unfold doSet
    (repeat' split) <;> first | assumption | exact told_re (flagI_in _).1 (flagI_in _).2
  · unfold doRank
    cases hm : memberAt c.text v.scores with
    | none => (repeat' split) <;> first | assumption | contradiction
    | some k =>
      have hk := memberAt_lt hm
      simp only
      (repeat' split) <;> first | assumption | exact told_re (by omega) (by omega)
theorem put_rep {v : Va} {c : Cmd} (h : c.kind = 1) : ReOk (doVal v c).2 := by
  unfold doVal
  rw [if_pos h]
  exact told_re (by omega) (by omega)
theorem behind_rep {v : Va} {r : Va × Re} (h : ReOk r.2) : ReOk (behind v r).2 := by
  unfold behind
  (repeat' split) <;> exact h
theorem done_rep {v : Va} (h : May v) {c : Cmd} (hc : ccOf c = 0) (hk : c.kind ≤ 18) : ReOk (doneVal v c).2.1 := by
  have h1 := may_not h
  unfold doneVal
  rw [if_neg h1, if_neg (by rw [hc]; simp), if_neg (by omega)]
  by_cases h4 : noneVal v = true ∧ makesC c.kind = false
  · rw [if_pos h4]; exact fail_re (by omega) (by omega)
  rw [if_neg h4]
  by_cases h5 : noneVal v = false ∧ wrongKind v c = true
  · rw [if_pos h5]; exact fail_re (by omega) (by omega)
  rw [if_neg h5]
  refine behind_rep ?_
  rcases h with rfl | hg
  · have hm : makesC c.kind = true := by
      cases hh : makesC c.kind with
      | true => rfl
      | false => exact absurd ⟨zero_none, hh⟩ h4
    rcases makes_kind hm with ⟨m1, m6⟩ | ⟨m1, _⟩
    · have hd : doneKind zeroVa c = { zeroVa with kind := kindC c.kind } := by unfold doneKind; rw [if_pos zero_none]
      rw [hd]
      exact do_rep (zero_ok m1 m6)
    · exact put_rep m1
  · have hd : doneKind v c = v := by unfold doneKind; rw [good_some hg]; rfl
    rw [hd]
    exact do_rep (good_ok hg)
theorem doS_rep {now : Int} {l : List En} {c : Cmd} (h : StOk now l) (hc : ccOf c = 0) : ReOk (doS now l c).2 := by
  have hkk := cc_kind hc
  have h0 := h.now0
  have h1 := h.now1
  unfold doS
  split
  · refine ⟨by simp, by simp, by simp [emp_size], by simp only [List.length_map]; have := h.few; omega, fun s hs => ?_, by simp, by simp⟩
    obtain ⟨x, hx, rfl⟩ := List.mem_map.1 hs
    have := h.keys x hx; omega
  · split
    · split <;> exact told_re (by omega) (by omega)
    · split
      · unfold timedS
        split
        · exact fail_re (by omega) (by omega)
        · split
          · exact fail_re (by omega) (by omega)
          next x hx =>
            have := h.till x (List.mem_of_getElem? hx)
            split
            · exact told_re (by omega) (by omega)
            · split
              · exact fail_re (by omega) (by omega)
              · exact told_re (by omega) (by omega)
      · have hd := done_rep (old_may h (keyAt c.key l) (keyHas c.key l)) hc (by omega)
        (repeat' split) <;> first | exact hd | exact fail_re (by omega) (by omega)
end Go.Proofs.Ytgmojjclobkpjaa
