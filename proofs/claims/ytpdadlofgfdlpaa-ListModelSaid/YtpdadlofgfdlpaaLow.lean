/- Where a search in what rises ends. No program. -/
import Derived.Test.YtpdadlofgfdlpaaRise
import Derived.Test.YtpdadlofgfdlpaaOrd
namespace Go.Proofs.Ytpdadlofgfdlpaa
set_option linter.all false
open Go.RowKit
section
variable {α : Type}
def lowB (q : α → Bool) (l : List α) : Nat := (l.takeWhile q).length
theorem lowB_le (q : α → Bool) (l : List α) : lowB q l ≤ l.length := by
  unfold lowB
  exact (List.takeWhile_prefix q).length_le
theorem lowB_cons (q : α → Bool) (x : α) (l : List α) : lowB q (x :: l) = if q x = true then lowB q l + 1 else 0 := by
  unfold lowB
  rw [List.takeWhile_cons]
  split <;> simp
theorem lowB_lt (q : α → Bool) : ∀ (l : List α) (t : Nat) (ht : t < l.length), t < lowB q l → q l[t] = true
  | [], t, ht, _ => by simp at ht
  | x :: l, 0, _, h => by
    rw [lowB_cons] at h
    split at h
    · assumption
    · omega
  | x :: l, t + 1, ht, h => by
    rw [lowB_cons] at h
    split at h
    · exact lowB_lt q l t (by simpa using ht) (by omega)
    · omega
theorem lowB_at (q : α → Bool) : ∀ (l : List α) (h : lowB q l < l.length), q l[lowB q l] = false
  | [], h => by simp at h
  | x :: l, h => by
    by_cases hx : q x = true
    · have e : lowB q (x :: l) = lowB q l + 1 := by rw [lowB_cons, if_pos hx]
      have h' : lowB q l < l.length := by rw [e] at h; simpa using h
      have := lowB_at q l h'
      simp only [e, List.getElem_cons_succ]
      exact this
    · have e : lowB q (x :: l) = 0 := by rw [lowB_cons, if_neg hx]
      simp only [e, List.getElem_cons_zero]
      simpa using hx
theorem rises_tail {cmp : α → α → Int} {x : α} {l : List α} (h : risesBy cmp (x :: l) = true) : risesBy cmp l = true := by
  cases l with
  | nil => rfl
  | cons y l => simp only [risesBy, Bool.and_eq_true] at h; exact h.2
theorem rises_all {cmp : α → α → Int} (tr : ∀ a b c : α, cmp a b < 0 → cmp b c < 0 → cmp a c < 0) : ∀ {l : List α} {x : α}, risesBy cmp (x :: l) = true → ∀ y ∈ l, cmp x y < 0
  | [], _, _, _, hy => by cases hy
  | z :: l, x, h, y, hy => by
    simp only [risesBy, Bool.and_eq_true, decide_eq_true_eq] at h
    rcases List.mem_cons.1 hy with rfl | hy
    · exact h.1
    · exact tr _ _ _ h.1 (rises_all tr h.2 y hy)
theorem rises_lt {cmp : α → α → Int} (tr : ∀ a b c : α, cmp a b < 0 → cmp b c < 0 → cmp a c < 0) : ∀ {l : List α}, risesBy cmp l = true → ∀ {i j : Nat} (hij : i < j) (hj : j < l.length), cmp l[i] l[j] < 0
  | [], _, i, j, _, hj => by simp at hj
  | x :: l, h, 0, 0, hij, _ => by omega
  | x :: l, h, 0, j + 1, _, hj => rises_all tr h _ (List.getElem_mem _)
  | x :: l, h, i + 1, 0, hij, _ => by omega
  | x :: l, h, i + 1, j + 1, hij, hj => rises_lt tr (rises_tail h) (Nat.lt_of_succ_lt_succ hij) (by simpa using hj)
theorem low_h1 {C : α → Int} {l : List α} : ∀ t (ht : t < l.length), t < lowB (fun y => decide (C y < 0)) l → C l[t] < 0 := fun t ht h => by simpa using lowB_lt _ l t ht h
theorem low_h2 {C : α → Int} {l : List α} (mono : ∀ {i j : Nat} (hij : i < j) (hj : j < l.length), C l[j] < 0 → C l[i] < 0) : ∀ t (ht : t < l.length), lowB (fun y => decide (C y < 0)) l ≤ t → 0 ≤ C l[t] := fun t ht h => by
  have hl : lowB (fun y => decide (C y < 0)) l < l.length := by omega
  have h0 : 0 ≤ C l[lowB (fun y => decide (C y < 0)) l] := by simpa using lowB_at _ l hl
  rcases Nat.lt_or_eq_of_le h with h1 | h1
  · rcases Int.lt_or_le (C l[t]) 0 with h2 | h2
    · have := mono h1 ht h2; omega
    · exact h2
  · simp only [← h1]; exact h0
end
theorem rises_pair {α : Type} {cmp : α → α → Int} (tr : ∀ a b c : α, cmp a b < 0 → cmp b c < 0 → cmp a c < 0) : ∀ {l : List α}, risesBy cmp l = true ↔ l.Pairwise (fun a b => cmp a b < 0)
  | [] => by simp [risesBy]
  | x :: l => by
    rw [List.pairwise_cons]
    refine ⟨fun h => ⟨rises_all tr h, (rises_pair tr).1 (rises_tail h)⟩, fun h => ?_⟩
    cases l with
    | nil => rfl
    | cons y l => simp only [risesBy, Bool.and_eq_true, decide_eq_true_eq]; exact ⟨h.1 y (by simp), (rises_pair tr).2 h.2⟩
theorem rises_sub {α : Type} {cmp : α → α → Int} (tr : ∀ a b c : α, cmp a b < 0 → cmp b c < 0 → cmp a c < 0) {l l' : List α} (h : risesBy cmp l = true) (hs : l'.Sublist l) : risesBy cmp l' = true :=
  (rises_pair tr).2 (((rises_pair tr).1 h).sublist hs)
theorem del_sub {α : Type} (l : List α) (i : Nat) : (l.take i ++ l.drop (i + 1)).Sublist l := by
  have h := List.Sublist.append (List.Sublist.refl (l.take i)) (List.drop_sublist_drop_left l (Nat.le_succ i))
  rw [List.take_append_drop] at h
  exact h
def pairAt (f : ByteArray) (l : List Pr) : Nat := lowB (fun y => decide (cmpB y.field f < 0)) l
def textAt (f : ByteArray) (l : List ByteArray) : Nat := lowB (fun y => decide (cmpB y f < 0)) l
def scoreAt (x : Sc) (l : List Sc) : Nat := lowB (fun y => decide (cmpS y x < 0)) l
theorem pair_h2 {f : ByteArray} {l : List Pr} (h : risesBy (fun a b : Pr => cmpB a.field b.field) l = true) : ∀ t (ht : t < l.length), pairAt f l ≤ t → 0 ≤ cmpB l[t].field f :=
  low_h2 fun hij hj hc => cmpB_trans (rises_lt (cmp := fun a b : Pr => cmpB a.field b.field) (fun _ _ _ => cmpB_trans) h hij hj) hc
theorem pair_h1 {f : ByteArray} {l : List Pr} : ∀ t (ht : t < l.length), t < pairAt f l → cmpB l[t].field f < 0 := low_h1
theorem text_h2 {f : ByteArray} {l : List ByteArray} (h : risesBy cmpB l = true) : ∀ t (ht : t < l.length), textAt f l ≤ t → 0 ≤ cmpB l[t] f :=
  low_h2 fun hij hj hc => cmpB_trans (rises_lt (cmp := cmpB) (fun _ _ _ => cmpB_trans) h hij hj) hc
theorem text_h1 {f : ByteArray} {l : List ByteArray} : ∀ t (ht : t < l.length), t < textAt f l → cmpB l[t] f < 0 := low_h1
theorem score_h2 {x : Sc} {l : List Sc} (h : risesBy cmpS l = true) : ∀ t (ht : t < l.length), scoreAt x l ≤ t → 0 ≤ cmpS l[t] x :=
  low_h2 fun hij hj hc => cmpS_trans (rises_lt (cmp := cmpS) (fun _ _ _ => cmpS_trans) h hij hj) hc
theorem score_h1 {x : Sc} {l : List Sc} : ∀ t (ht : t < l.length), t < scoreAt x l → cmpS l[t] x < 0 := low_h1
end Go.Proofs.Ytpdadlofgfdlpaa
