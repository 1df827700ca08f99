import Derived.Test.YtgmojjclobkpjaaEntD
import Derived.Test.YtgmojjclobkpjaaDonP
/- store.own: a store in memory of its own. -/
namespace Go.Proofs.Ytgmojjclobkpjaa
set_option linter.all false
open Go.RowKit
/-- 'append(out, x)' of one element that lies in a new block of its own; just the own block is written to. -/
theorem wpList_push_g {P : Program} {w : World} {ops : Array Oper} {rest : List Oper} {o : Oper} {a : Act} {Q : Exit → Act → World → Prop} (hgd : o.guard = none) (s x : Operand) (t : TypeId)
    (ho : o.op = .call { callee := .builtin .append, args := #[s, x], argTypes := #[t, t] })
    {base : Nat} {e : TypeId} {z : Value} {size bytes : Nat} (ht : P.underlying t = some (.slice e)) (hi : (P.info? e).map (fun i => (i.zero, i.size, i.bytes)) = some (some z, size, bytes)) (hzs : z.cells.size = size) (hsz : 0 < size)
    {A : Option Addr} {n c : Nat} {rows : List (List Value)} (hs : a.eval s = .slice A n c) (hown : Own w base e size (.slice A n c) rows) {H : Nat} (hH : w.heap.size = H) {row : Array Value} (hx : a.eval x = .slice (some ⟨H, 0, none⟩) 1 1) (hl : row.size = size) (h1 : ∀ u ∈ row.toList, u.oneCell' = true)
    (h63 : rows.length + 1 ≤ maxLen) (hbytes : (rows.length + 1) * bytes ≤ 140737488355328) (hbase : base ≤ w.heap.size)
    (h : ∀ A' n' c' w', Own w' base e size (.slice A' n' c') (rows ++ [row.toList]) → (w.alloc (.cells row e)).grownBy w' (Value.slice A n c).ownBlock → wpList P ops Q rest (a.put o.dst (.slice A' n' c')) w') : wpList P ops Q (o :: rest) a (w.alloc (.cells row e)) := by
  subst hH
  obtain ⟨i, hi1, hi2, hi3, hi4⟩ := info_parts hi
  refine wpList_append_own _ hgd s x t ho base e i z size bytes ht hi1 hi2 hi3 hi4 hzs hsz (.slice A n c) rows.length rows.flatten hs (hown.alloc _).1 ⟨w.heap.size, 0, none⟩ 1 1 row.toList hx (by simp [hl]) ?_ h1 h63 hbytes (by simp; omega) ?_
  · intro j u hu
    rw [Addr.add_lit]
    simp only [Nat.zero_add]
    rw [World.cell?_alloc_new, ← Array.getElem?_toList]; exact hu
  · intro v' w' h2 h3 _
    have ho2 : Own w' base e size v' (rows ++ [row.toList]) := by
      refine ⟨by simpa using h2, fun r hr => ?_⟩
      rcases List.mem_append.1 hr with hr | hr
      · exact hown.2 r hr
      · simp at hr; subst hr; simpa using hl
    obtain ⟨A', c', rfl, _⟩ := ho2.sl
    exact h A' _ c' w' ho2 h3
end Go.Proofs.Ytgmojjclobkpjaa
/- The methods of store.keyed: find, remove, set, timed. -/
namespace Go.Proofs.Ytgmojjclobkpjaa
set_option linter.all false
open Go.RowKit
attribute [local go_sem ↓] Go.wp_at_zero Go.wp_at_succ
section
variable {w w' w'' : World} {B g : Nat} {t : TypeId} {cs : Array Value}
end
theorem Own.row6 {w : World} {B g n c i : Nat} {e : TypeId} {rows : List (List Value)} (h : Own w B e 8 (.slice (some ⟨g, 0, none⟩) n c) rows) {y0 y1 y2 y3 y4 y5 y6 y7 : Value} (hi : rows[i]? = some [y0, y1, y2, y3, y4, y5, y6, y7]) (u1 u2 u3 u4 u5 u6 : Value) :
    Own ((((((w.setCell ⟨g, i * 8 + 1, none⟩ u1).setCell ⟨g, i * 8 + 2, none⟩ u2).setCell ⟨g, i * 8 + 3, none⟩ u3).setCell ⟨g, i * 8 + 4, none⟩ u4).setCell ⟨g, i * 8 + 5, none⟩ u5).setCell ⟨g, i * 8 + 6, none⟩ u6)
      B e 8 (.slice (some ⟨g, 0, none⟩) n c) (rows.set i [y0, u1, u2, u3, u4, u5, u6, y7]) := by
  have hl : i < rows.length := by
    rcases Nat.lt_or_ge i rows.length with h' | h'
    · exact h'
    · rw [List.getElem?_eq_none h'] at hi; cases hi
  have he : rows[i] = [y0, y1, y2, y3, y4, y5, y6, y7] := by rw [List.getElem?_eq_getElem hl] at hi; injection hi
  have s1 := h.store (i := i) (j := 1) (u := u1) hl (by omega)
  have s2 := s1.store (i := i) (j := 2) (u := u2) (by simpa using hl) (by omega)
  have s3 := s2.store (i := i) (j := 3) (u := u3) (by simpa using hl) (by omega)
  have s4 := s3.store (i := i) (j := 4) (u := u4) (by simpa using hl) (by omega)
  have s5 := s4.store (i := i) (j := 5) (u := u5) (by simpa using hl) (by omega)
  have s6 := s5.store (i := i) (j := 6) (u := u6) (by simpa using hl) (by omega)
  simp only [List.getElem_set_self, List.set_set, he] at s6
  exact s6
theorem Own.row1 {w : World} {B g n c i : Nat} {e : TypeId} {rows : List (List Value)} (h : Own w B e 8 (.slice (some ⟨g, 0, none⟩) n c) rows) {y0 y1 y2 y3 y4 y5 y6 y7 : Value} (hi : rows[i]? = some [y0, y1, y2, y3, y4, y5, y6, y7]) (u : Value) :
    Own (w.setCell ⟨g, i * 8 + 7, none⟩ u) B e 8 (.slice (some ⟨g, 0, none⟩) n c) (rows.set i [y0, y1, y2, y3, y4, y5, y6, u]) := by
  have hl : i < rows.length := by
    rcases Nat.lt_or_ge i rows.length with h' | h'
    · exact h'
    · rw [List.getElem?_eq_none h'] at hi; cases hi
  have he : rows[i] = [y0, y1, y2, y3, y4, y5, y6, y7] := by rw [List.getElem?_eq_getElem hl] at hi; injection hi
  have s1 := h.store (i := i) (j := 7) (u := u) hl (by omega)
  simp only [he] at s1
  exact s1
/-- A key's value is set. -/
def setS (l : List En) (k : Nat) (t : Bool) (c : Cmd) (v : Va) : List En :=
  match (if t = true then l else insRows l k ⟨c.key, zeroVa, 0⟩)[k]? with
  | none => l
  | some x => (if t = true then l else insRows l k ⟨c.key, zeroVa, 0⟩).set k ⟨x.key, v, if c.kind = 1 then 0 else x.till⟩
def timedS (now : Int) (l : List En) (k : Nat) (t : Bool) (c : Cmd) : List En × Re :=
  if t = false then (l, failR 5) else
  match l[k]? with
  | none => (l, failR 5)
  | some x => if c.kind = 21 then (l, toldR (max (x.till - now) 0)) else if c.n < 1 ∨ 1073741824 - now < c.n then (l, failR 2) else (l.set k ⟨x.key, x.val, now + c.n⟩, toldR 0)
end Go.Proofs.Ytgmojjclobkpjaa
