/- What value.Do makes of a value and a command, and what value.do may rely on. No walk. -/
import Derived.Test.YtpdadlofgfdlpaaDo
namespace Go.Proofs.Ytpdadlofgfdlpaa
set_option linter.all false
open Go.RowKit
def zeroVa : Va := ⟨0, emp, 0, [], [], []⟩
def zeroRe : Re := ⟨0, emp, 0, []⟩
def noneVal (v : Va) : Bool := v.kind == 0 && v.text.toList.isEmpty && v.count == 0 && v.size == 0
def ccOf (c : Cmd) : Int := checkCommand c.kind c.key c.field c.text c.n
def wrongKind (v : Va) (c : Cmd) : Bool := (kindC c.kind != 0 && kindC c.kind != v.kind) || (decide (17 ≤ c.kind) && decide (v.kind < 3))
def behind (v : Va) (r : Va × Re) : Va × Re := if r.2.code ≠ 0 then (v, r.2) else if 3 ≤ r.1.kind ∧ r.1.size = 0 then (zeroVa, r.2) else r
def doneKind (v : Va) (c : Cmd) : Va := if noneVal v = true then { v with kind := kindC c.kind } else v
def doneVal (v : Va) (c : Cmd) : Va × Re × Int :=
  if checkValue v ≠ 0 ∧ noneVal v = false then (zeroVa, zeroRe, checkValue v)
  else if ccOf c ≠ 0 then (zeroVa, zeroRe, ccOf c)
  else if 18 < c.kind then (zeroVa, zeroRe, 3)
  else if noneVal v = true ∧ makesC c.kind = false then (v, failR 5, 0)
  else if noneVal v = false ∧ wrongKind v c = true then (v, failR 4, 0)
  else ((behind v (doVal (doneKind v c) c)).1, (behind v (doVal (doneKind v c) c)).2, 0)
structure Good (v : Va) : Prop where
  k1 : 1 ≤ v.kind
  k6 : v.kind ≤ 6
  form : formBad v = false
  size : sizeBad v = false
  text : textBad v = false
  pairs : pairsBad v = false
  members : membersBad v = false
  count : countBad v = false
  order : orderOk v = true
theorem good_of {v : Va} (h : checkValue v = 0) : Good v := by
  unfold checkValue at h
  split at h
  · cases h
  rename_i h0
  (repeat' split at h) <;> first | cases h | skip
  rename_i h1 h2 h3 h4 h5 h6 h7
  exact ⟨by omega, by omega, by simpa using h1, by simpa using h2, by simpa using h3, by simpa using h4, by simpa using h5, by simpa using h6, h7⟩
theorem good_to {v : Va} (h : Good v) : checkValue v = 0 := by
  obtain ⟨h1, h2, h3, h4, h5, h6, h7, h8, h9⟩ := h
  unfold checkValue
  rw [if_neg (by omega)]
  simp [h3, h4, h5, h6, h7, h8, h9]
theorem Good.forms {v : Va} (h : Good v) : (v.kind = 1 ∨ v.text.toList.isEmpty = true) ∧ (v.kind = 2 ∨ v.count = 0) ∧ (v.kind = 3 ∨ v.pairs.length = 0) ∧ (v.kind = 4 ∨ v.kind = 5 ∨ v.items.length = 0) ∧ (v.kind = 6 ∨ v.scores.length = 0) := by
  have := h.form
  unfold formBad at this
  simp only [Bool.not_eq_false', Bool.and_eq_true, Bool.or_eq_true, beq_iff_eq] at this
  obtain ⟨⟨⟨⟨a, b⟩, c⟩, d⟩, e⟩ := this
  exact ⟨a, b, c, by omega, e⟩
theorem Good.sizes {v : Va} (h : Good v) : v.pairs.length ≤ 20 ∧ v.items.length ≤ 20 ∧ v.scores.length ≤ 20 ∧ (3 ≤ v.kind → 1 ≤ v.size) := by
  obtain ⟨f1, f2, f3, f4, f5⟩ := h.forms
  have := h.size
  unfold sizeBad at this
  simp only [Bool.and_eq_false_iff, Bool.or_eq_false_iff, decide_eq_false_iff_not] at this
  unfold Va.size at this ⊢
  have h1 := h.k1; have h6 := h.k6
  omega
theorem Good.counts {v : Va} (h : Good v) : -1099511627776 ≤ v.count ∧ v.count ≤ 1099511627776 := by
  have := h.count
  unfold countBad countOk at this
  simp only [Bool.or_eq_false_iff, Bool.not_eq_false', Bool.and_eq_true, decide_eq_true_eq] at this
  exact this.1
theorem Good.rises {v : Va} (h : Good v) : risesBy (fun a b : Pr => cmpB a.field b.field) v.pairs = true ∧ risesBy cmpS v.scores = true ∧ (v.kind = 5 → risesBy cmpB v.items = true) := by
  have := h.order
  unfold orderOk risesOk at this
  simp only [Bool.and_eq_true, Bool.or_eq_true, bne_iff_ne] at this
  obtain ⟨⟨⟨a, b⟩, c⟩, _⟩ := this
  exact ⟨a, b, fun h5 => by rcases c with c | c; exact absurd h5 c; exact c⟩
theorem none_eq {v : Va} (h : noneVal v = true) : v = zeroVa := by
  unfold noneVal Va.size at h
  simp only [Bool.and_eq_true, beq_iff_eq] at h
  obtain ⟨⟨⟨a, b⟩, c⟩, d⟩ := h
  obtain ⟨k, t, n, ps, is_, ss⟩ := v
  simp only at a b c d
  have e1 : ps = [] := List.eq_nil_of_length_eq_zero (by omega)
  have e2 : is_ = [] := List.eq_nil_of_length_eq_zero (by omega)
  have e3 : ss = [] := List.eq_nil_of_length_eq_zero (by omega)
  have e4 : t = emp := by
    rw [List.isEmpty_iff, Lib.toList_data] at b
    exact bytes_ext (by rw [b]; rfl)
  subst a; subst c; subst e1; subst e2; subst e3; subst e4; rfl
/-- What value.do asks of the value. -/
structure Meets (v : Va) (c : Cmd) : Prop where
  l1 : v.pairs.length ≤ 20
  l2 : v.items.length ≤ 20
  l3 : v.scores.length ≤ 20
  fit : fits c.kind v.kind
  r1 : v.kind = 3 → risesBy (fun a b : Pr => cmpB a.field b.field) v.pairs = true
  r2 : v.kind = 5 → risesBy cmpB v.items = true
  r3 : v.kind = 6 → risesBy cmpS v.scores = true
  pos : v.kind = 4 → 9 ≤ c.kind → 0 < v.items.length
  k1 : -1099511627776 ≤ v.count
  k2 : v.count ≤ 1099511627776
theorem cc_kind {c : Cmd} (h : ccOf c = 0) : 1 ≤ c.kind ∧ c.kind ≤ 22 ∧ -1099511627776 ≤ c.n ∧ c.n ≤ 1099511627776 := by
  unfold ccOf checkCommand at h
  split at h
  · cases h
  rename_i h0
  (repeat' split at h) <;> first | cases h | skip
  rename_i h3
  unfold countOk at h3
  simp only [Bool.not_eq_false, Bool.and_eq_true, decide_eq_true_eq] at h3
  exact ⟨by omega, by omega, h3.1, h3.2⟩
theorem fit_of {v : Va} {c : Cmd} (h1 : ¬ (checkValue v ≠ 0 ∧ noneVal v = false)) (h2 : ccOf c = 0) (h3 : ¬ 18 < c.kind) (h4 : ¬ (noneVal v = true ∧ makesC c.kind = false)) (h5 : ¬ (noneVal v = false ∧ wrongKind v c = true)) : Meets (doneKind v c) c := by
  obtain ⟨c1, c2, _, _⟩ := cc_kind h2
  unfold doneKind
  by_cases hn : noneVal v = true
  · rw [if_pos hn]
    have hv := none_eq hn
    subst hv
    have hm : makesC c.kind = true := by
      cases h : makesC c.kind with
      | true => rfl
      | false => exact absurd ⟨hn, h⟩ h4
    unfold makesC at hm
    simp only [Bool.or_eq_true, beq_iff_eq] at hm
    have hf : fits c.kind (kindC c.kind) := by
      unfold fits
      rcases hm with (((((h | h) | h) | h) | h) | h) | h <;> rw [h] <;> simp [kindC]
    refine ⟨by simp [zeroVa], by simp [zeroVa], by simp [zeroVa], hf, fun _ => rfl, fun _ => rfl, fun _ => rfl, fun h4 h9 => ?_, by simp [zeroVa], by simp [zeroVa]⟩
    exfalso
    have h4' : kindC c.kind = 4 := h4
    rcases hm with (((((h | h) | h) | h) | h) | h) | h <;> rw [h] at h4' h9 <;> simp [kindC] at h4' h9
  · rw [if_neg hn]
    have hnf : noneVal v = false := by simpa using hn
    have hg : Good v := good_of (Decidable.byContradiction fun h => h1 ⟨h, hnf⟩)
    obtain ⟨s1, s2, s3, s4⟩ := hg.sizes
    obtain ⟨r1, r2, r3⟩ := hg.rises
    obtain ⟨f1, f2, f3, f4, f5⟩ := hg.forms
    have hw : wrongKind v c = false := by
      cases h : wrongKind v c with
      | false => rfl
      | true => exact absurd ⟨hnf, h⟩ h5
    unfold wrongKind at hw
    simp only [Bool.or_eq_false_iff, Bool.and_eq_false_iff, bne_eq_false_iff_eq, decide_eq_false_iff_not] at hw
    have k1 := hg.k1; have k6 := hg.k6
    refine ⟨s1, s2, s3, ?_, fun _ => r1, r3, fun _ => r2, fun h4 _ => ?_, hg.counts.1, hg.counts.2⟩
    · obtain ⟨w1, w2⟩ := hw
      have hc : c.kind = 1 ∨ c.kind = 2 ∨ c.kind = 3 ∨ c.kind = 4 ∨ c.kind = 5 ∨ c.kind = 6 ∨ c.kind = 7 ∨ c.kind = 8 ∨ c.kind = 9 ∨ c.kind = 10 ∨ c.kind = 11 ∨ c.kind = 12 ∨ c.kind = 13 ∨ c.kind = 14 ∨ c.kind = 15 ∨ c.kind = 16 ∨ c.kind = 17 ∨ c.kind = 18 := by omega
      clear h1 h2 h3 h4 h5 s1 s2 s3 s4 r1 r2 r3 f1 f2 f3 f4 f5 hg
      generalize c.kind = k at *
      rcases hc with rfl | rfl | rfl | rfl | rfl | rfl | rfl | rfl | rfl | rfl | rfl | rfl | rfl | rfl | rfl | rfl | rfl | rfl <;> simp [kindC] at w1 <;> simp [fits] <;> omega
    · have := s4 (by omega)
      unfold Va.size at this
      omega
theorem ins_len {α : Type} (l : List α) (i : Nat) (x : α) : (insRows l i x).length = l.length + 1 := by
  unfold insRows
  simp only [List.length_append, List.length_take, List.length_drop, List.length_singleton]
  omega
theorem del_len {α : Type} (l : List α) (i : Nat) : (delRows l i).length ≤ l.length := (del_sub l i).length_le
def small (v : Va) (n : Nat) : Prop := v.pairs.length ≤ n ∧ v.items.length ≤ n ∧ v.scores.length ≤ n
theorem do_len {v : Va} {c : Cmd} (h : small v 20) : small (doVal v c).1 21 := by
  obtain ⟨h1, h2, h3⟩ := h
  have hs : small v 21 := ⟨by omega, by omega, by omega⟩
  unfold doVal
  split
  · exact ⟨by simp, by simp, by simp⟩
  split
  · exact hs
  split
  · unfold doAdd; split
    · exact hs
    · exact hs
  split
  · exact hs
  split
  · exact hs
  split
  · unfold doHash
    have e1 := ins_len v.pairs (pairAt c.field v.pairs) ⟨c.field, c.text⟩
    have e2 := del_len v.pairs (pairAt c.field v.pairs)
    (repeat' split) <;> first | exact hs | (refine ⟨?_, ?_, ?_⟩ <;> simp only [List.length_set] <;> omega)
  split
  · unfold doList
    have e1 := ins_len v.items 0 c.text
    (repeat' split) <;> first | exact hs | (refine ⟨?_, ?_, ?_⟩ <;> simp only [List.length_append, List.length_take, List.length_drop, List.length_singleton] <;> omega)
  split
  · unfold doSet
    have e1 := ins_len v.items (textAt c.text v.items) c.text
    have e2 := del_len v.items (textAt c.text v.items)
    (repeat' split) <;> first | exact hs | (refine ⟨?_, ?_, ?_⟩ <;> simp only [] <;> omega)
  · unfold doRank putScore
    split
    · have e1 := ins_len v.scores (scoreAt ⟨c.text, c.n⟩ v.scores) ⟨c.text, c.n⟩
      (repeat' split) <;> first | exact hs | (refine ⟨?_, ?_, ?_⟩ <;> simp only [] <;> omega)
    · rename_i k _
      have e2 := del_len v.scores k
      have e1 := ins_len (delRows v.scores k) (scoreAt ⟨c.text, c.n⟩ (delRows v.scores k)) ⟨c.text, c.n⟩
      (repeat' split) <;> first | exact hs | (refine ⟨?_, ?_, ?_⟩ <;> simp only [] <;> omega)
end Go.Proofs.Ytpdadlofgfdlpaa
