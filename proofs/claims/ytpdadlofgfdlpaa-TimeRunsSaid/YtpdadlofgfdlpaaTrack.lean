import Derived.Test.YtpdadlofgfdlpaaOwn
import Derived.Laws.CopyRow
import Derived.Laws.AppendOwnNone
/- Facts carried from world to world, by one name each. No program. -/
namespace Go.Proofs.Ytpdadlofgfdlpaa
set_option linter.all false
open Go.RowKit
section
variable {w w' : World} {g size n c base : Nat} {t e : TypeId} {cs : Array Value} {A : Option Addr} {rows : List (List Value)} {v : Value}
theorem Blk.bl (h : Blk w g t cs) (hb : Below w.heap.size w w') : Blk w' g t cs := h.below' hb
theorem Blk.al (h : Blk w g t cs) (o : Obj) : Blk (w.alloc o) g t cs := h.alloc o
theorem Sl.bl (h : Sl w size A n c rows) (hb : Below w.heap.size w w') : Sl w' size A n c rows := h.below hb
theorem Sl.al (h : Sl w size A n c rows) (o : Obj) : Sl (w.alloc o) size A n c rows := h.alloc o
theorem Own.bl (h : Own w base e size v rows) (hb : Below w.heap.size w w') : Own w' base e size v rows := h.below hb
theorem Own.al (h : Own w base e size v rows) (o : Obj) : Own (w.alloc o) base e size v rows := h.alloc o
/-- The heap is at least so great. -/
def Big (w : World) (k : Nat) : Prop := k ≤ w.heap.size
theorem Big.bl {k : Nat} (h : Big w k) (hb : Below w.heap.size w w') : Big w' k := Nat.le_trans h hb.size
theorem Big.al {k : Nat} (h : Big w k) (o : Obj) : Big (w.alloc o) k := Nat.le_trans h (by simp)
/-- A step from the start on. -/
def From (a w : World) : Prop := Below a.heap.size a w
theorem From.refl (a : World) : From a a := Below.refl _ _
theorem From.out {a : World} (h : From a w) : Below a.heap.size a w := h
theorem From.bl {a : World} (h : From a w) (hb : Below w.heap.size w w') : From a w' := Below.trans h (hb.mono h.size)
theorem From.al {a : World} (h : From a w) (o : Obj) : From a (w.alloc o) := Below.alloc h h.size o
end
end Go.Proofs.Ytpdadlofgfdlpaa
/- An own slice changed in place: copy of rows, insert, delete, by the whole block. No program. -/
namespace Go.Proofs.Ytpdadlofgfdlpaa
set_option linter.all false
open Go.RowKit
theorem run_copy_k {P : Program} (w : World) (dT sT ty elem : TypeId) (g o dLen dCap : Nat) (a : Addr) (sLen sCap : Nat) (cur : Array Value) (t : TypeId) (cs : List Value) (size k : Nat)
    (hu : P.underlying dT = some (.slice elem)) (hs : (P.info? elem).map (·.size) = some size) (hg : w.heap[g]? = some (.cells cur t (0, 0))) (hk : k = Nat.min sLen dLen) (hn : cs.length = k * size)
    (hsrc : ∀ j v, cs[j]? = some v → w.cell? (a.add j) = some v) (hfit : o + cs.length ≤ cur.size) (h1 : ∀ v ∈ cs, v.oneCell' = true) :
    (Builtin.copy_ #[dT, sT] ty #[.slice (some ⟨g, o, none⟩) dLen dCap, .slice (some a) sLen sCap]).run P w =
      .ok (goInt k) (w.setRow g (cur.toList.take o ++ cs ++ cur.toList.drop (o + cs.length)).toArray) := by
  have hst := run_storeCells_at P g o t cs 0 cur w hg (by simpa using hfit) h1
  cases hq : P.info? elem with
  | none => simp [hq] at hs
  | some i =>
    have hi : i.size = size := by simpa [hq] using hs
    subst hi
    have hf := run_firstCells_some (P := P) w i.size k a sLen sCap cs hn hsrc
    simp [Builtin.copy_, run_underlying hu, Builtin.lenOf, sizeOf, typeInfo, hq, ← hk, hf, hst]
section
variable {w : World} {base g n cap size : Nat} {e : TypeId} {rows : List (List Value)}
/-- The whole block of an own slice that has elements. -/
theorem Own.whole {A : Option Addr} (h : Own w base e size (.slice A n cap) rows) (hn : A ≠ none) : ∃ g cur, A = some ⟨g, 0, none⟩ ∧ base ≤ g ∧ n = rows.length ∧ n ≤ cap ∧ cap ≤ maxLen ∧ w.heap[g]? = some (.cells cur e (0, 0)) ∧ cur.size = cap * size ∧ cur.toList.take (n * size) = rows.flatten := by
  rcases h.form with ⟨hv, _⟩ | ⟨g, cap', hv, hg, h1, h2, cur, h3, h4, h5⟩
  · injection hv with hv; exact absurd hv hn
  · injection hv with a1 a2 a3
    subst a2; subst a3
    exact ⟨g, cur, a1, hg, rfl, h1, h2, h3, h4, h5⟩
/-- Other rows laid into the same block. -/
theorem Own.put {cur cur' : Array Value} (hg : base ≤ g) (hc : w.heap[g]? = some (.cells cur e (0, 0))) (hcap : cap ≤ maxLen) (hsz : cur'.size = cap * size) {rows' : List (List Value)} (hr : ∀ r ∈ rows', r.length = size) (hn : rows'.length ≤ cap)
    (ht : cur'.toList.take (rows'.length * size) = rows'.flatten) : Own (w.setRow g cur') base e size (.slice (some ⟨g, 0, none⟩) rows'.length cap) rows' :=
  ⟨⟨flatten_length hr, .inr ⟨g, cap, cur', rfl, hg, setRow_heap w g cur _ e _ hc, hn, hcap, hsz, ht⟩⟩, hr⟩
theorem flatten_take : ∀ {rows : List (List Value)} {k : Nat}, (∀ r ∈ rows, r.length = size) → (rows.take k).flatten = rows.flatten.take (k * size)
  | [], k, _ => by simp
  | r :: rows, 0, _ => by simp
  | r :: rows, k + 1, h => by
    have hr := h r (by simp)
    rw [List.take_succ_cons, List.flatten_cons, List.flatten_cons, flatten_take (fun r hr => h r (by simp [hr])), show (k + 1) * size = r.length + k * size by rw [hr, Nat.add_mul]; omega, List.take_length_add_append]
theorem flatten_drop : ∀ {rows : List (List Value)} {k : Nat}, (∀ r ∈ rows, r.length = size) → (rows.drop k).flatten = rows.flatten.drop (k * size)
  | [], k, _ => by simp
  | r :: rows, 0, _ => by simp
  | r :: rows, k + 1, h => by
    have hr := h r (by simp)
    rw [List.drop_succ_cons, List.flatten_cons, flatten_drop (fun r hr => h r (by simp [hr])), show (k + 1) * size = r.length + k * size by rw [hr, Nat.add_mul]; omega, List.drop_length_add_append]
/-- The first elements of an own slice are its own, too. -/
theorem Own.take {A : Option Addr} (h : Own w base e size (.slice A n cap) rows) (k : Nat) (hk : k ≤ n) : Own w base e size (.slice A k cap) (rows.take k) := by
  cases A with
  | none =>
    rcases h.form with ⟨hv, hr⟩ | ⟨g, cap', hv, _⟩
    · injection hv with _ a2 a3
      subst a2; subst a3; subst hr
      obtain rfl : k = 0 := by omega
      exact Own.nil
    · injection hv with a1; cases a1
  | some a =>
    obtain ⟨g, cur, e1, hg, e2, h1, h2, h3, h4, h5⟩ := h.whole (by simp)
    injection e1 with e1
    subst e1; subst e2
    have hl : (rows.take k).length = k := by rw [List.length_take]; omega
    refine ⟨⟨by rw [flatten_length (fun r hr => h.2 r (List.mem_of_mem_take hr)), hl], .inr ⟨g, cap, cur, by rw [hl], hg, h3, by rw [hl]; omega, h2, h4, ?_⟩⟩, fun r hr => h.2 r (List.mem_of_mem_take hr)⟩
    rw [hl, flatten_take h.2, ← h5, List.take_take, Nat.min_eq_left (Nat.mul_le_mul_right _ hk)]
end
end Go.Proofs.Ytpdadlofgfdlpaa
/- A store into a slice of the call's own. No program. -/
namespace Go.Proofs.Ytpdadlofgfdlpaa
set_option linter.all false
open Go.RowKit
theorem flatten_set {size : Nat} : ∀ {rows : List (List Value)} {i j : Nat} {u : Value}, (∀ r ∈ rows, r.length = size) → (hi : i < rows.length) → j < size → (rows.set i (rows[i].set j u)).flatten = rows.flatten.set (i * size + j) u
  | [], i, j, u, _, hi, _ => by simp at hi
  | r :: rows, 0, j, u, h, hi, hj => by
    have hr := h r (by simp)
    simp only [List.set_cons_zero, List.getElem_cons_zero, List.flatten_cons, Nat.zero_mul, Nat.zero_add]
    rw [List.set_append_left _ _ (by omega)]
  | r :: rows, i + 1, j, u, h, hi, hj => by
    have hr := h r (by simp)
    have hi' : i < rows.length := by simpa using hi
    simp only [List.set_cons_succ, List.getElem_cons_succ, List.flatten_cons]
    rw [flatten_set (fun r hr => h r (by simp [hr])) hi' hj, List.set_append_right _ _ (by rw [hr, Nat.add_mul]; omega), hr, show (i + 1) * size + j - size = i * size + j by rw [Nat.add_mul]; omega]
theorem Own.store {w : World} {base g n c : Nat} {e : TypeId} {size : Nat} {rows : List (List Value)} {i j : Nat} {u : Value} (h : Own w base e size (.slice (some ⟨g, 0, none⟩) n c) rows) (hi : i < rows.length) (hj : j < size) :
    Own (w.setCell ⟨g, i * size + j, none⟩ u) base e size (.slice (some ⟨g, 0, none⟩) n c) (rows.set i (rows[i].set j u)) := by
  have hf := h.form
  rcases hf with ⟨hv, _⟩ | ⟨g', cap, hv, hg, h1, h2, cur, h3, h4, h5⟩
  · cases hv
  · injection hv with a1 a2 a3
    injection a1 with a1
    injection a1 with a1
    subst a1; subst a2; subst a3
    have hrow : ∀ r ∈ rows.set i (rows[i].set j u), r.length = size := by
      intro r hr
      rcases List.mem_or_eq_of_mem_set hr with hr | rfl
      · exact h.2 r hr
      · rw [List.length_set]; exact h.2 _ (List.getElem_mem hi)
    have hlen : (rows.set i (rows[i].set j u)).flatten.length = rows.length * size := by rw [flatten_length hrow, List.length_set]
    refine ⟨⟨by rw [hlen, List.length_set], .inr ⟨g, c, cur.setIfInBounds (i * size + j) u, by rw [List.length_set], hg, ?_, by rw [List.length_set]; exact h1, h2, by simpa using h4, ?_⟩⟩, hrow⟩
    · simp [World.setCell, Array.getElem?_modify, h3]
    · rw [List.length_set, flatten_set h.2 hi hj, ← h5, Array.toList_setIfInBounds, List.take_set]
theorem Own.block {w : World} {base n c : Nat} {e : TypeId} {size : Nat} {A : Option Addr} {rows : List (List Value)} (h : Own w base e size (.slice A n c) rows) (hn : 0 < rows.length) : ∃ g, A = some ⟨g, 0, none⟩ ∧ base ≤ g ∧ g < w.heap.size ∧ n = rows.length ∧
    (∀ o, w.frozen? ⟨g, o, none⟩ = false) ∧ (∀ i r, rows[i]? = some r → ∀ j u, r[j]? = some u → w.cell? ⟨g, i * size + j, none⟩ = some u) := by
  have hsl := h.sl'
  rcases h.form with ⟨hv, hr⟩ | ⟨g', cap, hv, hg, h1, h2, cur, h3, h4, h5⟩
  · subst hr; simp at hn
  · injection hv with a1 a2 a3
    refine ⟨g', a1, hg, ?_, a2, ?_, ?_⟩
    · rcases Nat.lt_or_ge g' w.heap.size with hl | hl
      · exact hl
      · rw [Array.getElem?_eq_none hl] at h3; cases h3
    · intro o; simp [World.frozen?, h3]
    · obtain ⟨b, off, e1, _, hc⟩ := hsl.seg hn
      rw [a1] at e1
      injection e1 with e1
      injection e1 with e1 e2
      subst e1; subst e2
      intro i r hr j u hu
      have := hc i r hr j u hu
      rwa [Nat.zero_add] at this
end Go.Proofs.Ytpdadlofgfdlpaa
/- append(s, x...) onto a slice of the call's own, x any slice that is read, nil too; a slice out of a block known whole. No program. -/
namespace Go.Proofs.Ytpdadlofgfdlpaa
set_option linter.all false
open Go.RowKit
theorem wpList_pushes {P : Program} {w : World} {ops : Array Oper} {rest : List Oper} {o : Oper} {a : Act} {Q : Exit → Act → World → Prop} (hgd : o.guard = none) (s x : Operand) (t : TypeId)
    (ho : o.op = .call { callee := .builtin .append, args := #[s, x], argTypes := #[t, t] })
    {base : Nat} {e : TypeId} {z : Value} {size bytes : Nat} (ht : P.underlying t = some (.slice e)) (hi : (P.info? e).map (fun i => (i.zero, i.size, i.bytes)) = some (some z, size, bytes)) (hzs : z.cells.size = size) (hsz : 0 < size)
    {v : Value} {rows news : List (List Value)} (hs : a.eval s = v) (hown : Own w base e size v rows) {A : Option Addr} {m c : Nat} (hx : a.eval x = .slice A m c) (hsl : Sl w size A m c news) (h1 : ∀ r ∈ news, ∀ u ∈ r, u.oneCell' = true)
    (h63 : rows.length + m ≤ maxLen) (hbytes : (rows.length + m) * bytes ≤ 140737488355328) (hbase : base ≤ w.heap.size)
    (h : ∀ A' n' c' w', Own w' base e size (.slice A' n' c') (rows ++ news) → Below base w w' → wpList P ops Q rest (a.put o.dst (.slice A' n' c')) w') : wpList P ops Q (o :: rest) a w := by
  obtain ⟨i, hi1, hi2, hi3, hi4⟩ := info_parts hi
  have hm := hsl.len
  have frow : ∀ k, v.ownBlock = some k → base ≤ k := by
    intro k hk
    rcases hown.form with ⟨rfl, _⟩ | ⟨g, cap, rfl, hg, _⟩
    · simp [Value.ownBlock] at hk
    · simp [Value.ownBlock] at hk; omega
  cases A with
  | none =>
    obtain ⟨rfl, rfl⟩ := hsl.n0 rfl
    obtain rfl := List.eq_nil_of_length_eq_zero hm
    obtain ⟨A', c', hv, _⟩ := hown.sl
    refine wpList_append_own_none hgd s x t ho base e i size ht hi1 v rows.length rows.flatten hs hown.1 hx ?_
    have := h A' rows.length c' w (by rw [List.append_nil, ← hv]; exact hown) (Below.refl _ _)
    rw [← hv] at this
    exact this
  | some ad =>
    refine wpList_append_own _ hgd s x t ho base e i z size bytes ht hi1 hi2 hi3 hi4 hzs hsz v rows.length rows.flatten hs hown.1 ad m c news.flatten hx (by rw [flatten_length hsl.row, hm]) ?_ ?_ h63 hbytes hbase ?_
    · intro j u hu
      by_cases hn : 0 < news.length
      · obtain ⟨b, off, e1, hb, hc⟩ := hsl.seg hn
        injection e1 with e1
        subst e1
        obtain ⟨r, h2, h3⟩ := flatten_inv hsz hsl.row hu
        rw [Addr.add_lit, ← hc _ r h2 _ u h3, Nat.mul_comm, Nat.div_add_mod]
      · obtain rfl := List.eq_nil_of_length_eq_zero (show news.length = 0 by omega)
        simp at hu
    · intro u hu
      obtain ⟨r, hr, hur⟩ := List.mem_flatten.1 hu
      exact h1 r hr u hur
    · intro v' w' h2 h3 _
      have ho' : Own w' base e size v' (rows ++ news) := ⟨by simpa [hm] using h2, fun r hr => (List.mem_append.1 hr).elim (hown.2 r) (hsl.row r)⟩
      obtain ⟨A', c', rfl, _⟩ := ho'.sl
      exact h A' _ c' w' ho' ((Below.refl base w).grown h3 hbase frow)
/-- A slice over a whole block. -/
theorem Sl.of_blk {w : World} {g n size : Nat} {t : TypeId} {cs : Array Value} {rows : List (List Value)} (h : Blk w g t cs) (hf : cs.toList = rows.flatten) (hr : ∀ r ∈ rows, r.length = size) (hn : rows.length = n) (hm : n ≤ maxLen) :
    Sl w size (some ⟨g, 0, none⟩) n n rows := by
  refine ⟨hn, Nat.le_refl _, hm, by simp, fun _ => ⟨g, 0, rfl, h.lt, fun i r hi j u hu => ?_⟩, hr⟩
  rw [h.cell, ← Array.getElem?_toList, hf, Nat.zero_add]
  exact flatten_at hr hi hu
end Go.Proofs.Ytpdadlofgfdlpaa
