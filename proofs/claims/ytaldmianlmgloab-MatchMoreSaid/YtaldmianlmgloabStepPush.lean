/- append(s, x...) at a step of a region that draws its order. No program. -/
import Derived.Test.YtaldmianlmgloabPushes
import Derived.Deep.RegionLaw
namespace Go.Proofs.Ytaldmianlmgloab
set_option linter.all false
open Go.RowKit
theorem run_pushes {P : Program} {w : World} (t ty : TypeId) {base : Nat} {e : TypeId} {z : Value} {size bytes : Nat} (ht : P.underlying t = some (.slice e)) (hi : (P.info? e).map (fun i => (i.zero, i.size, i.bytes)) = some (some z, size, bytes)) (hzs : z.cells.size = size) (hsz : 0 < size)
    {v : Value} {rows news : List (List Value)} (hown : Own w base e size v rows) {A : Option Addr} {m c : Nat} (hsl : Sl w size A m c news) (h1 : ∀ r ∈ news, ∀ u ∈ r, u.oneCell' = true)
    (h63 : rows.length + m ≤ maxLen) (hbytes : (rows.length + m) * bytes ≤ 140737488355328) (hbase : base ≤ w.heap.size) :
    ∃ A' n' c' w', (Builtin.append_ #[t, t] ty #[v, .slice A m c]).run P w = .ok (.slice A' n' c') w' ∧ Own w' base e size (.slice A' n' c') (rows ++ news) ∧ Below base w w' := by
  obtain ⟨i, hi1, hi2, hi3, hi4⟩ := info_parts hi
  have hm := hsl.len
  have frow : ∀ k, v.ownBlock = some k → base ≤ k := by
    intro k hk
    rcases hown.form with ⟨rfl, _⟩ | ⟨g, cap, rfl, hg, _⟩
    · simp [Value.ownBlock] at hk
    · simp [Value.ownBlock] at hk; omega
  cases A with
  | none =>
    obtain ⟨rfl, rfl⟩ := hsl.n0 rfl
    obtain rfl := List.eq_nil_of_length_eq_zero hm
    obtain ⟨A', c', hv, _⟩ := hown.sl
    have hr := run_append_owned_none (P := P) (w := w) base t ty e i size ht hi1 v rows.length rows.flatten hown.1
    refine ⟨A', rows.length, c', w, by rw [hr, hv], by rw [List.append_nil, ← hv]; exact hown, Below.refl _ _⟩
  | some ad =>
    obtain ⟨v', w', hr, h2, h3, _⟩ := run_append_own (P := P) w base t ty e i z size bytes ht hi1 hi2 hi3 hi4 hzs hsz v rows.length rows.flatten hown.1 ad m c news.flatten (by rw [flatten_length hsl.row, hm]) (by
      intro j u hu
      by_cases hn : 0 < news.length
      · obtain ⟨b, off, e1, hb, hc⟩ := hsl.seg hn
        injection e1 with e1
        subst e1
        obtain ⟨r, h2, h3⟩ := flatten_inv hsz hsl.row hu
        rw [Addr.add_lit, ← hc _ r h2 _ u h3, Nat.mul_comm, Nat.div_add_mod]
      · obtain rfl := List.eq_nil_of_length_eq_zero (show news.length = 0 by omega)
        simp at hu) (by
      intro u hu
      obtain ⟨r, hr, hur⟩ := List.mem_flatten.1 hu
      exact h1 r hr u hur) h63 hbytes hbase
    have ho' : Own w' base e size v' (rows ++ news) := ⟨by simpa [hm] using h2, fun r hr => (List.mem_append.1 hr).elim (hown.2 r) (hsl.row r)⟩
    obtain ⟨A', c', rfl, _⟩ := ho'.sl
    exact ⟨A', _, c', w', hr, ho', (Below.refl base w).grown h3 hbase frow⟩
theorem step_pushes {P : Program} {w : World} {ops : Array Oper} {o : Oper} {a : Act} {K : Act → World → Prop} {Q : Exit → Act → World → Prop} {E : Prop} (hgd : o.guard = none) (s x : Operand) (t : TypeId)
    (ho : o.op = .call { callee := .builtin .append, args := #[s, x], argTypes := #[t, t] })
    {base : Nat} {e : TypeId} {z : Value} {size bytes : Nat} (ht : P.underlying t = some (.slice e)) (hi : (P.info? e).map (fun i => (i.zero, i.size, i.bytes)) = some (some z, size, bytes)) (hzs : z.cells.size = size) (hsz : 0 < size)
    {v : Value} {rows news : List (List Value)} (hs : a.eval s = v) (hown : Own w base e size v rows) {A : Option Addr} {m c : Nat} (hx : a.eval x = .slice A m c) (hsl : Sl w size A m c news) (h1 : ∀ r ∈ news, ∀ u ∈ r, u.oneCell' = true)
    (h63 : rows.length + m ≤ maxLen) (hbytes : (rows.length + m) * bytes ≤ 140737488355328) (hbase : base ≤ w.heap.size)
    (hK : ∀ A' n' c' w', Own w' base e size (.slice A' n' c') (rows ++ news) → Below base w w' → K (a.put o.dst (.slice A' n' c')) w') :
    if Region.wanted o (yielded ops a.tmps) = true then Oper.wp P o a w K Q else E := by
  have hw : Region.wanted o (yielded ops a.tmps) = true := by simp [Region.wanted, hgd]
  rw [if_pos hw]
  obtain ⟨A', n', c', w', hr, h2, h3⟩ := run_pushes (P := P) t o.type ht hi hzs hsz hown hsl h1 h63 hbytes hbase
  unfold Oper.wp execOp
  simp only [ho, resolve, invoke, builtin, Sem.run_bind, Sem.run_pure, Result.andThen_ok, List.map_toArray, List.map_cons, List.map_nil, hs, hx, hr]
  exact hK A' n' c' w' h2 h3
end Go.Proofs.Ytaldmianlmgloab
