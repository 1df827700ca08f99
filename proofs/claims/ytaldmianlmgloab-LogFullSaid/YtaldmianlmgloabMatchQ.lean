/- Plain facts for the laws on Match: parts of logs, terms of logs of deeds. -/
import Derived.Test.YtaldmianlmgloabMatchL
import Derived.Test.YtaldmianlmgloabLastTold
namespace Go.Proofs.Ytaldmianlmgloab
set_option linter.all false
open Go.RowKit
theorem chain_take : ∀ (l : List Itm) (k : Nat) (t m : Int), chainOk t m l = true → chainOk t m (l.take k) = true
  | _, 0, _, _, _ => rfl
  | [], k + 1, _, _, _ => rfl
  | x :: l, k + 1, t, m, h => by
    obtain ⟨h1, h2, h3, h4⟩ := chain_head h
    have a1 : decide (x.term < t) = false := by simp; omega
    have a2 : decide (x.time < m) = false := by simp; omega
    rw [List.take_succ_cons]
    simp only [chainOk, h1, a1, a2, chain_take l k x.term x.time h4]; rfl
theorem take_good {b bt : Int} {L : List Itm} (k : Nat) (h : checkLog b bt L = 0) : checkLog b bt (L.take k) = 0 := by
  obtain ⟨g1, g2, g3, g4, g5, g6, g7⟩ := log_good h
  have : (L.take k).length ≤ L.length := by rw [List.length_take]; omega
  exact checkLog_ok g1 g2 g3 g6 (by omega) (by omega) (chain_take _ _ _ _ g7)
theorem match_same {b bt : Int} {L : List Itm} {k j : Nat} (h : checkLog b bt L = 0) (hk : k ≤ j) (hj : j ≤ L.length) :
    checkLog (b + k) (termOf b bt L (b + k)).1 ((L.take j).drop k) = 0 ∧ matchOf b bt L (b + k) (termOf b bt L (b + k)).1 ((L.take j).drop k) = ⟨some L, true, 0, 0⟩ := by
  have h1 := (trim_good h (show k ≤ L.length by omega)).1
  have h2 := take_good (j - k) h1
  have e : (L.take j).drop k = (L.drop k).take (j - k) := by rw [List.drop_take]
  rw [e]
  refine ⟨h2, ?_⟩
  rw [match_iv (k := k) h2 (by omega) (termOf_in (by omega)) rfl]
  refine tail_none ?_
  have h3 := fresh_pre ((L.drop k).take (j - k)) ((L.drop k).drop (j - k))
  rwa [List.take_append_drop] at h3
theorem items_terms : ∀ (l : List DeedD) (t m : Int), ∀ x ∈ itemsGo t m l, x.term ≤ t + l.length
  | [], _, _, x, h => by simp [itemsGo] at h
  | d :: l, t, m, x, h => by
    have o1 := picked_lo d.off 4 (by omega)
    have o2 := picked_hi d.off 4 (by omega)
    simp only [itemsGo, List.mem_cons] at h
    rcases h with rfl | h
    · show t + picked d.off 4 / 3 ≤ _
      simp; omega
    · have := items_terms l _ _ x h
      simp at this ⊢; omega
theorem log_terms (l : List DeedD) (base : Int) : ∀ x ∈ logItems l base, x.term ≤ 32 := by
  intro x hx
  have hl : ((l.take 30).length : Int) ≤ 30 := by rw [List.length_take]; omega
  unfold logItems itemsOf at hx
  have := items_terms _ _ _ x hx
  split at this <;> omega
theorem term_bound {b bt : Int} {L : List Itm} {k : Nat} (hb : bt ≤ 2) (h : ∀ x ∈ L, x.term ≤ 32) (hk : k ≤ L.length) : (termOf b bt L (b + k)).1 ≤ 32 := by
  rw [termOf_k hk]
  cases k with
  | zero => simp; omega
  | succ k =>
    have hk' : k < L.length := by omega
    simp [List.getElem?_eq_getElem hk']
    exact h _ (List.getElem_mem hk')
/-- An empty list of items fits a place. -/
theorem check_none {p of : Int} (h1 : 1 ≤ p) (h2 : p ≤ 1048576) (h3 : 1 ≤ of) (h4 : of ≤ 1048576) : checkLog p of [] = 0 :=
  checkLog_ok (by omega) (by omega) h4 (by omega) (by simp) (by simp; omega) rfl
theorem match_none {b bt : Int} {L : List Itm} {p of : Int} (h1 : 1 ≤ p) (h2 : p ≤ 1048576) (h3 : 1 ≤ of) (h4 : of ≤ 1048576) (hb : b ≤ p) (hn : (termOf b bt L p).2 ≠ 0 ∨ (termOf b bt L p).1 ≠ of) :
    matchOf b bt L p of [] = ⟨some L, false, 0, 0⟩ := match_iii (check_none h1 h2 h3 h4) hb hn
theorem fresh_nil (L : List Itm) : freshAt L [] = none := by cases L <;> rfl
theorem match_first {bt : Int} {L : List Itm} {of : Int} (h3 : 1 ≤ of) (h4 : of ≤ 1048576) : ∃ F, matchOf 0 bt L 1 of [] = ⟨some L, F, 0, 0⟩ := by
  have hok := check_none (p := 1) (of := of) (by omega) (by omega) h3 h4
  by_cases hn : (termOf 0 bt L 1).2 ≠ 0 ∨ (termOf 0 bt L 1).1 ≠ of
  · exact ⟨_, match_iii hok (by omega) hn⟩
  · have h1 : (termOf 0 bt L 1).2 = 0 := Decidable.byContradiction fun h => hn (.inl h)
    have h2 : (termOf 0 bt L 1).1 = of := Decidable.byContradiction fun h => hn (.inr h)
    exact ⟨_, (match_iv (k := 1) hok (by omega) h1 h2).trans (tail_none (fresh_nil _))⟩
end Go.Proofs.Ytaldmianlmgloab
