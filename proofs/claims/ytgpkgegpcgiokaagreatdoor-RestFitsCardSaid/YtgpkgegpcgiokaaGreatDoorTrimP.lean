/- A log that is trimmed is a log. -/
import Derived.Test.YtgpkgegpcgiokaaGreatDoorLogPlain
namespace Go.Proofs.YtgpkgegpcgiokaaGreatDoor
set_option linter.all false
open Go.RowKit
theorem checkItem_ok {x : Itm} (h : checkItem x = 0) : 1 ≤ x.term ∧ x.term ≤ 1048576 ∧ 0 ≤ x.time ∧ x.time ≤ 1073741824 := by
  unfold checkItem at h
  split at h
  · cases h
  · omega
theorem chain_head {t m : Int} {x : Itm} {l : List Itm} (h : chainOk t m (x :: l) = true) : checkItem x = 0 ∧ t ≤ x.term ∧ m ≤ x.time ∧ chainOk x.term x.time l = true := by
  simp only [chainOk, Bool.and_eq_true, beq_iff_eq, Bool.not_eq_true', decide_eq_false_iff_not] at h
  obtain ⟨⟨⟨h1, h2⟩, h3⟩, h4⟩ := h
  exact ⟨h1, by omega, by omega, h4⟩
theorem chain_weak {t m m' : Int} {l : List Itm} (h : chainOk t m l = true) (hm : m' ≤ m) : chainOk t m' l = true := by
  cases l with
  | nil => rfl
  | cons x l =>
    obtain ⟨h1, h2, h3, h4⟩ := chain_head h
    have a2 : decide (x.term < t) = false := by simp; omega
    have a3 : decide (x.time < m') = false := by simp; omega
    simp [chainOk, h1, a2, a3, h4]
theorem chain_drop : ∀ (l : List Itm) (k : Nat) (t m : Int), chainOk t m l = true → 0 ≤ m → t ≤ 1048576 → k ≤ l.length →
    chainOk (if k = 0 then t else match l[k - 1]? with | some x => x.term | none => t) 0 (l.drop k) = true ∧
    t ≤ (if k = 0 then t else match l[k - 1]? with | some x => x.term | none => t) ∧ (if k = 0 then t else match l[k - 1]? with | some x => x.term | none => t) ≤ 1048576 ∧
    (0 < k → 1 ≤ (if k = 0 then t else match l[k - 1]? with | some x => x.term | none => t))
  | l, 0, t, m, h, hm, ht, _ => ⟨chain_weak h hm, by simp, by simpa using ht, by omega⟩
  | [], k + 1, t, m, h, hm, ht, hk => by simp at hk
  | x :: l, k + 1, t, m, h, hm, ht, hk => by
    have hk : k ≤ l.length := by simpa using hk
    obtain ⟨h1, h2, h3, h4⟩ := chain_head h
    have hc := checkItem_ok h1
    have ih := chain_drop l k x.term x.time h4 (by omega) (by omega) hk
    cases k with
    | zero => simp at ih ⊢; exact ⟨ih.1, h2, hc.2.1, hc.1⟩
    | succ k =>
      have hk : k < l.length := hk
      simp [List.getElem?_eq_getElem hk] at ih ⊢
      exact ⟨ih.1, by omega, by omega, by omega⟩
theorem termOf_k {b bt : Int} {L : List Itm} {k : Nat} (hk : k ≤ L.length) : (termOf b bt L (b + k)).1 = (if k = 0 then bt else match L[k - 1]? with | some x => x.term | none => bt) := by
  cases k with
  | zero => simp [termOf_eq]
  | succ k =>
    rw [show b + ((k + 1 : Nat) : Int) = b + 1 + k by omega, termOf_at (by omega)]
    simp [List.getElem?_eq_getElem (show k < L.length by omega)]
theorem trim_good {b bt : Int} {L : List Itm} {k : Nat} (h : checkLog b bt L = 0) (hk : k ≤ L.length) :
    checkLog (b + k) (termOf b bt L (b + k)).1 (L.drop k) = 0 ∧ 0 ≤ (termOf b bt L (b + k)).1 ∧ (termOf b bt L (b + k)).1 ≤ 1048576 ∧ lastOf (b + k) (termOf b bt L (b + k)).1 (L.drop k) = lastOf b bt L := by
  obtain ⟨g1, g2, g3, g4, g5, g6, g7⟩ := log_good h
  obtain ⟨d1, d2, d3, d4⟩ := chain_drop L k bt 0 g7 (by omega) g3 hk
  rw [termOf_k hk]
  refine ⟨checkLog_ok (by omega) (by omega) d3 ?_ (by rw [List.length_drop]; omega) (by rw [List.length_drop]; omega) d1, by omega, d3, ?_⟩
  · cases k with
    | zero => simpa using g6
    | succ k => have := d4 (by omega); constructor <;> intro <;> omega
  · by_cases hd : L.length = k
    · subst hd
      rw [List.drop_length, lastOf_nil]
      by_cases h0 : L.length = 0
      · obtain rfl : L = [] := List.length_eq_zero_iff.1 h0
        simp [lastOf_nil]
      · rw [lastOf_pos (by omega), if_neg h0, List.getElem?_eq_getElem (by omega)]
    · rw [lastOf_pos (l := L.drop k) (by rw [List.length_drop]; omega), lastOf_pos (l := L) (by omega)]
      have e1 : ((L.drop k).length : Int) = L.length - k := by rw [List.length_drop]; omega
      rw [e1]
      congr 1
      · omega
      · simp only [List.getElem_drop, List.length_drop]
        congr 2; omega
theorem lastOf_place (b bt : Int) (L : List Itm) : (lastOf b bt L).1 = b + L.length := by
  by_cases h : L = []
  · subst h; simp [lastOf_nil]
  · have : 0 < L.length := List.length_pos_iff.2 h
    rw [lastOf_pos this]
end Go.Proofs.YtgpkgegpcgiokaaGreatDoor
