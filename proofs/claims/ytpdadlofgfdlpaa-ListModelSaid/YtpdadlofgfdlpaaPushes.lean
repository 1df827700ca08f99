/- append(s, x...) onto a slice of the call's own, x any slice that is read, nil too; a slice out of a block known whole. No program. -/
import Derived.Test.YtpdadlofgfdlpaaTrack
import Derived.Laws.AppendOwnNone
namespace Go.Proofs.Ytpdadlofgfdlpaa
set_option linter.all false
open Go.RowKit
theorem wpList_pushes {P : Program} {w : World} {ops : Array Oper} {rest : List Oper} {o : Oper} {a : Act} {Q : Exit → Act → World → Prop} (hgd : o.guard = none) (s x : Operand) (t : TypeId)
    (ho : o.op = .call { callee := .builtin .append, args := #[s, x], argTypes := #[t, t] })
    {base : Nat} {e : TypeId} {z : Value} {size bytes : Nat} (ht : P.underlying t = some (.slice e)) (hi : (P.info? e).map (fun i => (i.zero, i.size, i.bytes)) = some (some z, size, bytes)) (hzs : z.cells.size = size) (hsz : 0 < size)
    {v : Value} {rows news : List (List Value)} (hs : a.eval s = v) (hown : Own w base e size v rows) {A : Option Addr} {m c : Nat} (hx : a.eval x = .slice A m c) (hsl : Sl w size A m c news) (h1 : ∀ r ∈ news, ∀ u ∈ r, u.oneCell' = true)
    (h63 : rows.length + m ≤ maxLen) (hbytes : (rows.length + m) * bytes ≤ 140737488355328) (hbase : base ≤ w.heap.size)
    (h : ∀ A' n' c' w', Own w' base e size (.slice A' n' c') (rows ++ news) → Below base w w' → wpList P ops Q rest (a.put o.dst (.slice A' n' c')) w') : wpList P ops Q (o :: rest) a w := by
  obtain ⟨i, hi1, hi2, hi3, hi4⟩ := info_parts hi
  have hm := hsl.len
  have frow : ∀ k, v.ownBlock = some k → base ≤ k := by
    intro k hk
    rcases hown.form with ⟨rfl, _⟩ | ⟨g, cap, rfl, hg, _⟩
    · simp [Value.ownBlock] at hk
    · simp [Value.ownBlock] at hk; omega
  cases A with
  | none =>
    obtain ⟨rfl, rfl⟩ := hsl.n0 rfl
    obtain rfl := List.eq_nil_of_length_eq_zero hm
    obtain ⟨A', c', hv, _⟩ := hown.sl
    refine wpList_append_own_none hgd s x t ho base e i size ht hi1 v rows.length rows.flatten hs hown.1 hx ?_
    have := h A' rows.length c' w (by rw [List.append_nil, ← hv]; exact hown) (Below.refl _ _)
    rw [← hv] at this
    exact this
  | some ad =>
    refine wpList_append_own _ hgd s x t ho base e i z size bytes ht hi1 hi2 hi3 hi4 hzs hsz v rows.length rows.flatten hs hown.1 ad m c news.flatten hx (by rw [flatten_length hsl.row, hm]) ?_ ?_ h63 hbytes hbase ?_
    · intro j u hu
      by_cases hn : 0 < news.length
      · obtain ⟨b, off, e1, hb, hc⟩ := hsl.seg hn
        injection e1 with e1
        subst e1
        obtain ⟨r, h2, h3⟩ := flatten_inv hsz hsl.row hu
        rw [Addr.add_lit, ← hc _ r h2 _ u h3, Nat.mul_comm, Nat.div_add_mod]
      · obtain rfl := List.eq_nil_of_length_eq_zero (show news.length = 0 by omega)
        simp at hu
    · intro u hu
      obtain ⟨r, hr, hur⟩ := List.mem_flatten.1 hu
      exact h1 r hr u hur
    · intro v' w' h2 h3 _
      have ho' : Own w' base e size v' (rows ++ news) := ⟨by simpa [hm] using h2, fun r hr => (List.mem_append.1 hr).elim (hown.2 r) (hsl.row r)⟩
      obtain ⟨A', c', rfl, _⟩ := ho'.sl
      exact h A' _ c' w' ho' ((Below.refl base w).grown h3 hbase frow)
/-- A slice over a whole block. -/
theorem Sl.of_blk {w : World} {g n size : Nat} {t : TypeId} {cs : Array Value} {rows : List (List Value)} (h : Blk w g t cs) (hf : cs.toList = rows.flatten) (hr : ∀ r ∈ rows, r.length = size) (hn : rows.length = n) (hm : n ≤ maxLen) :
    Sl w size (some ⟨g, 0, none⟩) n n rows := by
  refine ⟨hn, Nat.le_refl _, hm, by simp, fun _ => ⟨g, 0, rfl, h.lt, fun i r hi j u hu => ?_⟩, hr⟩
  rw [h.cell, ← Array.getElem?_toList, hf, Nat.zero_add]
  exact flatten_at hr hi hu
end Go.Proofs.Ytpdadlofgfdlpaa
