/- Counts, lists: plain facts. No walk. -/
import Derived.Test.YtcelcanfdalliaaDonQ
namespace Go.Proofs.Ytcelcanfdalliaa
set_option linter.all false
open Go.RowKit
theorem count_good {n : Int} (h1 : -1099511627776 ≤ n) (h2 : n ≤ 1099511627776) : Good ⟨2, emp, n, [], [], []⟩ := by
  refine ok_good ⟨by simp, by simp, .inr rfl, .inl rfl, .inr rfl, .inr (.inr rfl), .inr rfl, by simp, by simp, by simp, Nat.zero_le _, by simp, by simp, by simp, ⟨h1, h2⟩, by simp, by simp, by simp, by simp, by simp⟩ (fun h => by simp at h)
theorem cc_add {n : Int} (h1 : -1099511627776 ≤ n) (h2 : n ≤ 1099511627776) : ccOf ⟨3, { data := #[107] }, { data := #[] }, { data := #[] }, n⟩ = 0 :=
  cc_lit (by omega) (by omega) (by rw [if_neg (by decide)]; rfl) (by rw [if_neg (by decide)]; rfl) (by rw [if_pos (by decide)]; exact ⟨h1, h2⟩)
theorem add_first {n : Int} (h1 : -1099511627776 ≤ n) (h2 : n ≤ 1099511627776) : doneVal zeroVa ⟨3, { data := #[107] }, { data := #[] }, { data := #[] }, n⟩ = (⟨2, emp, n, [], [], []⟩, toldR n, 0) := done_add0 (cc_add h1 h2) rfl
theorem add_next {m n : Int} (h1 : -1099511627776 ≤ n) (h2 : n ≤ 1099511627776) (m1 : -1099511627776 ≤ m) (m2 : m ≤ 1099511627776) :
    doneVal ⟨2, emp, m, [], [], []⟩ ⟨3, { data := #[107] }, { data := #[] }, { data := #[] }, n⟩ = if -1099511627776 ≤ m + n ∧ m + n ≤ 1099511627776 then (⟨2, emp, m + n, [], [], []⟩, toldR (m + n), 0) else (⟨2, emp, m, [], [], []⟩, failR 7, 0) := by
  rw [done_add (count_good m1 m2) rfl (cc_add h1 h2) rfl]
  by_cases h : -1099511627776 ≤ m + n ∧ m + n ≤ 1099511627776
  · rw [if_pos h, if_pos (countOk_iff.2 h)]
  · rw [if_neg h, if_neg (fun hh => h (countOk_iff.1 hh))]
theorem doVal_items (v : Va) (c : Cmd) : (doVal v c).1.items.length ≤ v.items.length + 1 := by
  unfold doVal
  split
  · simp
  split
  · simp
  split
  · unfold doAdd; split <;> simp
  split
  · simp
  split
  · simp
  split
  · unfold doHash; (repeat' split) <;> simp
  split
  · unfold doList; (repeat' split) <;> simp [ins_len'] <;> omega
  split
  · unfold doSet
    have := del_len v.items (textAt c.text v.items)
    (repeat' split) <;> simp [ins_len'] <;> omega
  · unfold doRank; (repeat' split) <;> simp
theorem done_items (v : Va) (c : Cmd) : (doneVal v c).1.items.length ≤ v.items.length + 1 := by
  unfold doneVal
  have hz : zeroVa.items.length = 0 := rfl
  have hk : (doneKind v c).items = v.items := by unfold doneKind; split <;> rfl
  have hd := doVal_items (doneKind v c) c
  rw [hk] at hd
  (repeat' split) <;> (try simp only) <;> try omega
  unfold behind
  (repeat' split) <;> (try simp only) <;> omega
theorem stepV_items (kind : Int) (v : Va) (r : RawD) : (stepV kind v r).items.length ≤ v.items.length + 1 := by
  unfold stepV
  split
  · exact done_items _ _
  · omega
theorem fold_items (kind : Int) : ∀ (l : List RawD) (v : Va), (l.foldl (stepV kind) v).items.length ≤ v.items.length + l.length
  | [], v => by simp
  | r :: l, v => by
    have h1 := fold_items kind l (stepV kind v r)
    have h2 := stepV_items kind v r
    simp only [List.foldl_cons, List.length_cons]
    omega
theorem fullOf_items (kind : Int) (l : List RawD) : (fullOf kind l).items.length ≤ l.length + 1 := by
  unfold fullOf valueOf
  have := fold_items kind ((firstRaw :: l).take 24) zeroVa
  have h2 : ((firstRaw :: l).take 24).length ≤ l.length + 1 := by rw [List.length_take]; simp; omega
  have hz : zeroVa.items.length = 0 := rfl
  omega
section
variable {v : Va} {c : Cmd}
theorem done_push (h : Good v) (hv : v.kind = 4) (hl : v.items.length < 20) (hc : ccOf c = 0) (hk : c.kind = 7) : doneVal v c = ({ v with items := v.items ++ [c.text] }, toldR (v.items.length + 1), 0) := by
  rw [done_right h hc (by omega) (wrong_not (by rw [hk, hv]; decide) (by omega)), doVal_list (by omega) hv]
  unfold doList
  rw [if_pos hk, if_neg (by omega), behind_ok rfl (fun _ => by unfold Va.size; simp only [List.length_append, List.length_singleton]; omega)]
theorem done_front (h : Good v) (hv : v.kind = 4) (hl : v.items.length < 20) (hc : ccOf c = 0) (hk : c.kind = 8) : doneVal v c = ({ v with items := c.text :: v.items }, toldR (v.items.length + 1), 0) := by
  rw [done_right h hc (by omega) (wrong_not (by rw [hk, hv]; decide) (by omega)), doVal_list (by omega) hv]
  unfold doList
  have e : insRows v.items 0 c.text = c.text :: v.items := by simp [insRows]
  rw [if_neg (by omega), if_pos hk, if_neg (by omega), behind_ok rfl (fun _ => by unfold Va.size; simp only [ins_len']; omega), e]
theorem done_pfull (h : Good v) (hv : v.kind = 4) (hl : v.items.length = 20) (hc : ccOf c = 0) (hk : c.kind = 7 ∨ c.kind = 8) : doneVal v c = (v, failR 6, 0) := by
  rw [done_right h hc (by omega) (wrong_not (by rw [kindC_list (by omega), hv]) (by omega)), doVal_list (by omega) hv]
  unfold doList
  rcases hk with hk | hk
  · rw [if_pos hk, if_pos hl, behind_bad (by simp [failR])]
  · rw [if_neg (by omega), if_pos hk, if_pos hl, behind_bad (by simp [failR])]
/-- Taken from behind, from ahead; the last one leaves nothing. -/
theorem done_pop (h : Good v) (hv : v.kind = 4) (hc : ccOf c = 0) (hk : c.kind = 9) :
    doneVal v c = (if v.items.length = 1 then zeroVa else { v with items := v.items.take (v.items.length - 1) }, textR ((v.items[v.items.length - 1]?).getD emp), 0) := by
  have hs := good_size h (by omega)
  obtain ⟨_, _, f3, f4, f5⟩ := h.forms
  have e1 : v.pairs.length = 0 := by omega
  have e2 : v.scores.length = 0 := by omega
  unfold Va.size at hs
  rw [done_right h hc (by omega) (wrong_not (by rw [hk, hv]; decide) (by omega)), doVal_list (by omega) hv]
  unfold doList
  rw [if_neg (by omega), if_neg (by omega), if_pos hk]
  by_cases h1 : v.items.length = 1
  · rw [if_pos h1, behind_gone rfl (by simp only [hv]; omega) (by unfold Va.size; simp only [List.length_take]; omega)]
  · rw [if_neg h1, behind_ok rfl (fun _ => by unfold Va.size; simp only [List.length_take]; omega)]
theorem done_shift (h : Good v) (hv : v.kind = 4) (hc : ccOf c = 0) (hk : c.kind = 10) :
    doneVal v c = (if v.items.length = 1 then zeroVa else { v with items := v.items.drop 1 }, textR ((v.items[0]?).getD emp), 0) := by
  have hs := good_size h (by omega)
  obtain ⟨_, _, f3, f4, f5⟩ := h.forms
  have e1 : v.pairs.length = 0 := by omega
  have e2 : v.scores.length = 0 := by omega
  unfold Va.size at hs
  rw [done_right h hc (by omega) (wrong_not (by rw [hk, hv]; decide) (by omega)), doVal_list (by omega) hv]
  unfold doList
  rw [if_neg (by omega), if_neg (by omega), if_neg (by omega)]
  by_cases h1 : v.items.length = 1
  · rw [if_pos h1, behind_gone rfl (by simp only [hv]; omega) (by unfold Va.size; simp only [List.length_drop]; omega)]
  · rw [if_neg h1, behind_ok rfl (fun _ => by unfold Va.size; simp only [List.length_drop]; omega)]
theorem list_size (h : Good v) (hv : v.kind = 4) : 1 ≤ v.items.length ∧ v.items.length ≤ 20 := by
  have hs := good_size h (by omega)
  obtain ⟨_, _, f3, f4, f5⟩ := h.forms
  have := h.sizes
  unfold Va.size at hs
  omega
end
end Go.Proofs.Ytcelcanfdalliaa
