/- A store into a slice of the call's own. No program. -/
import Derived.Test.YtpdadlofgfdlpaaTrack
namespace Go.Proofs.Ytpdadlofgfdlpaa
set_option linter.all false
open Go.RowKit
theorem flatten_set {size : Nat} : ∀ {rows : List (List Value)} {i j : Nat} {u : Value}, (∀ r ∈ rows, r.length = size) → (hi : i < rows.length) → j < size → (rows.set i (rows[i].set j u)).flatten = rows.flatten.set (i * size + j) u
  | [], i, j, u, _, hi, _ => by simp at hi
  | r :: rows, 0, j, u, h, hi, hj => by
    have hr := h r (by simp)
    simp only [List.set_cons_zero, List.getElem_cons_zero, List.flatten_cons, Nat.zero_mul, Nat.zero_add]
    rw [List.set_append_left _ _ (by omega)]
  | r :: rows, i + 1, j, u, h, hi, hj => by
    have hr := h r (by simp)
    have hi' : i < rows.length := by simpa using hi
    simp only [List.set_cons_succ, List.getElem_cons_succ, List.flatten_cons]
    rw [flatten_set (fun r hr => h r (by simp [hr])) hi' hj, List.set_append_right _ _ (by rw [hr, Nat.add_mul]; omega), hr, show (i + 1) * size + j - size = i * size + j by rw [Nat.add_mul]; omega]
theorem Own.store {w : World} {base g n c : Nat} {e : TypeId} {size : Nat} {rows : List (List Value)} {i j : Nat} {u : Value} (h : Own w base e size (.slice (some ⟨g, 0, none⟩) n c) rows) (hi : i < rows.length) (hj : j < size) :
    Own (w.setCell ⟨g, i * size + j, none⟩ u) base e size (.slice (some ⟨g, 0, none⟩) n c) (rows.set i (rows[i].set j u)) := by
  have hf := h.form
  rcases hf with ⟨hv, _⟩ | ⟨g', cap, hv, hg, h1, h2, cur, h3, h4, h5⟩
  · cases hv
  · injection hv with a1 a2 a3
    injection a1 with a1
    injection a1 with a1
    subst a1; subst a2; subst a3
    have hrow : ∀ r ∈ rows.set i (rows[i].set j u), r.length = size := by
      intro r hr
      rcases List.mem_or_eq_of_mem_set hr with hr | rfl
      · exact h.2 r hr
      · rw [List.length_set]; exact h.2 _ (List.getElem_mem hi)
    have hlen : (rows.set i (rows[i].set j u)).flatten.length = rows.length * size := by rw [flatten_length hrow, List.length_set]
    refine ⟨⟨by rw [hlen, List.length_set], .inr ⟨g, c, cur.setIfInBounds (i * size + j) u, by rw [List.length_set], hg, ?_, by rw [List.length_set]; exact h1, h2, by simpa using h4, ?_⟩⟩, hrow⟩
    · simp [World.setCell, Array.getElem?_modify, h3]
    · rw [List.length_set, flatten_set h.2 hi hj, ← h5, Array.toList_setIfInBounds, List.take_set]
theorem Own.block {w : World} {base n c : Nat} {e : TypeId} {size : Nat} {A : Option Addr} {rows : List (List Value)} (h : Own w base e size (.slice A n c) rows) (hn : 0 < rows.length) : ∃ g, A = some ⟨g, 0, none⟩ ∧ base ≤ g ∧ g < w.heap.size ∧ n = rows.length ∧
    (∀ o, w.frozen? ⟨g, o, none⟩ = false) ∧ (∀ i r, rows[i]? = some r → ∀ j u, r[j]? = some u → w.cell? ⟨g, i * size + j, none⟩ = some u) := by
  have hsl := h.sl'
  rcases h.form with ⟨hv, hr⟩ | ⟨g', cap, hv, hg, h1, h2, cur, h3, h4, h5⟩
  · subst hr; simp at hn
  · injection hv with a1 a2 a3
    refine ⟨g', a1, hg, ?_, a2, ?_, ?_⟩
    · rcases Nat.lt_or_ge g' w.heap.size with hl | hl
      · exact hl
      · rw [Array.getElem?_eq_none hl] at h3; cases h3
    · intro o; simp [World.frozen?, h3]
    · obtain ⟨b, off, e1, _, hc⟩ := hsl.seg hn
      rw [a1] at e1
      injection e1 with e1
      injection e1 with e1 e2
      subst e1; subst e2
      intro i r hr j u hu
      have := hc i r hr j u hu
      rwa [Nat.zero_add] at this
end Go.Proofs.Ytpdadlofgfdlpaa
