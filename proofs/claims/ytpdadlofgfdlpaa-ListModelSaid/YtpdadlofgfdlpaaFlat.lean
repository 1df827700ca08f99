/- An own slice changed in place: copy of rows, insert, delete, by the whole block. No program. -/
import Derived.Test.YtpdadlofgfdlpaaTrack
import Derived.Laws.CopyRow
namespace Go.Proofs.Ytpdadlofgfdlpaa
set_option linter.all false
open Go.RowKit
theorem run_copy_k {P : Program} (w : World) (dT sT ty elem : TypeId) (g o dLen dCap : Nat) (a : Addr) (sLen sCap : Nat) (cur : Array Value) (t : TypeId) (cs : List Value) (size k : Nat)
    (hu : P.underlying dT = some (.slice elem)) (hs : (P.info? elem).map (·.size) = some size) (hg : w.heap[g]? = some (.cells cur t (0, 0))) (hk : k = Nat.min sLen dLen) (hn : cs.length = k * size)
    (hsrc : ∀ j v, cs[j]? = some v → w.cell? (a.add j) = some v) (hfit : o + cs.length ≤ cur.size) (h1 : ∀ v ∈ cs, v.oneCell' = true) :
    (Builtin.copy_ #[dT, sT] ty #[.slice (some ⟨g, o, none⟩) dLen dCap, .slice (some a) sLen sCap]).run P w =
      .ok (goInt k) (w.setRow g (cur.toList.take o ++ cs ++ cur.toList.drop (o + cs.length)).toArray) := by
  have hst := run_storeCells_at P g o t cs 0 cur w hg (by simpa using hfit) h1
  cases hq : P.info? elem with
  | none => simp [hq] at hs
  | some i =>
    have hi : i.size = size := by simpa [hq] using hs
    subst hi
    have hf := run_firstCells_some (P := P) w i.size k a sLen sCap cs hn hsrc
    simp [Builtin.copy_, run_underlying hu, Builtin.lenOf, sizeOf, typeInfo, hq, ← hk, hf, hst]
section
variable {w : World} {base g n cap size : Nat} {e : TypeId} {rows : List (List Value)}
/-- The whole block of an own slice that has elements. -/
theorem Own.whole {A : Option Addr} (h : Own w base e size (.slice A n cap) rows) (hn : A ≠ none) : ∃ g cur, A = some ⟨g, 0, none⟩ ∧ base ≤ g ∧ n = rows.length ∧ n ≤ cap ∧ cap ≤ maxLen ∧ w.heap[g]? = some (.cells cur e (0, 0)) ∧ cur.size = cap * size ∧ cur.toList.take (n * size) = rows.flatten := by
  rcases h.form with ⟨hv, _⟩ | ⟨g, cap', hv, hg, h1, h2, cur, h3, h4, h5⟩
  · injection hv with hv; exact absurd hv hn
  · injection hv with a1 a2 a3
    subst a2; subst a3
    exact ⟨g, cur, a1, hg, rfl, h1, h2, h3, h4, h5⟩
/-- Other rows laid into the same block. -/
theorem Own.put {cur cur' : Array Value} (hg : base ≤ g) (hc : w.heap[g]? = some (.cells cur e (0, 0))) (hcap : cap ≤ maxLen) (hsz : cur'.size = cap * size) {rows' : List (List Value)} (hr : ∀ r ∈ rows', r.length = size) (hn : rows'.length ≤ cap)
    (ht : cur'.toList.take (rows'.length * size) = rows'.flatten) : Own (w.setRow g cur') base e size (.slice (some ⟨g, 0, none⟩) rows'.length cap) rows' :=
  ⟨⟨flatten_length hr, .inr ⟨g, cap, cur', rfl, hg, setRow_heap w g cur _ e _ hc, hn, hcap, hsz, ht⟩⟩, hr⟩
theorem flatten_take : ∀ {rows : List (List Value)} {k : Nat}, (∀ r ∈ rows, r.length = size) → (rows.take k).flatten = rows.flatten.take (k * size)
  | [], k, _ => by simp
  | r :: rows, 0, _ => by simp
  | r :: rows, k + 1, h => by
    have hr := h r (by simp)
    rw [List.take_succ_cons, List.flatten_cons, List.flatten_cons, flatten_take (fun r hr => h r (by simp [hr])), show (k + 1) * size = r.length + k * size by rw [hr, Nat.add_mul]; omega, List.take_length_add_append]
theorem flatten_drop : ∀ {rows : List (List Value)} {k : Nat}, (∀ r ∈ rows, r.length = size) → (rows.drop k).flatten = rows.flatten.drop (k * size)
  | [], k, _ => by simp
  | r :: rows, 0, _ => by simp
  | r :: rows, k + 1, h => by
    have hr := h r (by simp)
    rw [List.drop_succ_cons, List.flatten_cons, flatten_drop (fun r hr => h r (by simp [hr])), show (k + 1) * size = r.length + k * size by rw [hr, Nat.add_mul]; omega, List.drop_length_add_append]
/-- The first elements of an own slice are its own, too. -/
theorem Own.take {A : Option Addr} (h : Own w base e size (.slice A n cap) rows) (k : Nat) (hk : k ≤ n) : Own w base e size (.slice A k cap) (rows.take k) := by
  cases A with
  | none =>
    rcases h.form with ⟨hv, hr⟩ | ⟨g, cap', hv, _⟩
    · injection hv with _ a2 a3
      subst a2; subst a3; subst hr
      obtain rfl : k = 0 := by omega
      exact Own.nil
    · injection hv with a1; cases a1
  | some a =>
    obtain ⟨g, cur, e1, hg, e2, h1, h2, h3, h4, h5⟩ := h.whole (by simp)
    injection e1 with e1
    subst e1; subst e2
    have hl : (rows.take k).length = k := by rw [List.length_take]; omega
    refine ⟨⟨by rw [flatten_length (fun r hr => h.2 r (List.mem_of_mem_take hr)), hl], .inr ⟨g, cap, cur, by rw [hl], hg, h3, by rw [hl]; omega, h2, h4, ?_⟩⟩, fun r hr => h.2 r (List.mem_of_mem_take hr)⟩
    rw [hl, flatten_take h.2, ← h5, List.take_take, Nat.min_eq_left (Nat.mul_le_mul_right _ hk)]
end
end Go.Proofs.Ytpdadlofgfdlpaa
