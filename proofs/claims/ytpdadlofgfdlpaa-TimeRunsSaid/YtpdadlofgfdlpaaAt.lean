/- A slice of one-cell elements of the call's own, perhaps from a place of its block on: read, appended to, cut at either end. No program. -/
import Derived.Test.YtpdadlofgfdlpaaSlice
import Derived.Test.YtpdadlofgfdlpaaTrack
import Derived.ArgAppend
namespace Go.Proofs.Ytpdadlofgfdlpaa
set_option linter.all false
open Go.RowKit
/-- The slice reads as the rows; its block is of type e, new, and holds all up to the capacity. -/
structure At (w : World) (base : Nat) (e : TypeId) (A : Option Addr) (n c : Nat) (rows : List (List Value)) : Prop where
  sl : Sl w 1 A n c rows
  blk : ∀ a, A = some a → base ≤ a.block ∧ a.spot = none ∧ ∃ cur, Blk w a.block e cur ∧ a.off + c ≤ cur.size
section
variable {w w' : World} {base g off n c : Nat} {e t : TypeId} {A : Option Addr} {rows : List (List Value)}
theorem At.nil (w : World) (base : Nat) (e : TypeId) : At w base e none 0 0 [] := ⟨Sl.nil_ w 1, fun _ h => by cases h⟩
theorem At.bl (h : At w base e A n c rows) (hb : Below w.heap.size w w') : At w' base e A n c rows :=
  ⟨h.sl.below hb, fun a ha => by obtain ⟨h1, h2, cur, h3, h4⟩ := h.blk a ha; exact ⟨h1, h2, cur, h3.below' hb, h4⟩⟩
theorem At.al (h : At w base e A n c rows) (o : Obj) : At (w.alloc o) base e A n c rows :=
  ⟨h.sl.alloc o, fun a ha => by obtain ⟨h1, h2, cur, h3, h4⟩ := h.blk a ha; exact ⟨h1, h2, cur, h3.alloc o, h4⟩⟩
theorem At.lt (h : At w base e A n c rows) : ∀ a, A = some a → a.block < w.heap.size := fun a ha => by
  obtain ⟨_, _, cur, h3, _⟩ := h.blk a ha; exact h3.lt
theorem At.mono {base' : Nat} (h : At w base e A n c rows) (hb : base' ≤ base) : At w base' e A n c rows :=
  ⟨h.sl, fun a ha => by obtain ⟨h1, h2, h3⟩ := h.blk a ha; exact ⟨by omega, h2, h3⟩⟩
theorem At.own (h : Own w base e 1 (.slice A n c) rows) : At w base e A n c rows := by
  refine ⟨h.sl', fun a ha => ?_⟩
  subst ha
  rcases h.form with ⟨hv, _⟩ | ⟨g, cap, hv, hg, h1, h2, cur, h3, h4, h5⟩
  · cases hv
  · injection hv with a1 a2 a3
    injection a1 with a1
    subst a1; subst a3
    exact ⟨hg, rfl, cur, h3, by simp only; omega⟩
/-- Another block of another type, or another block, is written to. -/
theorem At.far (h : At w base e A n c rows) (hg : w.grownBy w' (some g)) (hne : ∀ a, A = some a → a.block ≠ g) : At w' base e A n c rows := by
  have hk : ∀ a, A = some a → w'.heap[a.block]? = w.heap[a.block]? := fun a ha => hg.block _ (h.lt a ha) (by simpa using hne a ha)
  refine ⟨⟨h.sl.len, h.sl.nc, h.sl.cm, h.sl.nil, fun hn => ?_, h.sl.row⟩, fun a ha => ?_⟩
  · obtain ⟨b, o, e1, hb, hc⟩ := h.sl.seg hn
    refine ⟨b, o, e1, Nat.lt_of_lt_of_le hb hg.size, fun i r hr j u hu => ?_⟩
    rw [World.cell?_of_block (a := ⟨b, o + (i * 1 + j), none⟩) (hk ⟨b, o, none⟩ e1)]
    exact hc i r hr j u hu
  · obtain ⟨h1, h2, cur, h3, h4⟩ := h.blk a ha
    exact ⟨h1, h2, cur, (hk a ha).trans h3, h4⟩
theorem At.far' (h : At w base e A n c rows) {cs : Array Value} (R : Blk w g t cs) (hg : w.grownBy w' (some g)) (hne : e ≠ t := by decide) : At w' base e A n c rows := by
  refine h.far hg fun a ha => ?_
  rintro rfl
  obtain ⟨_, _, cur, h3, _⟩ := h.blk a ha
  unfold Blk at h3 R
  rw [h3] at R
  injection R with R
  injection R with _ R
  exact hne R
theorem At.cut (h : At w base e A n c rows) (k : Nat) (hk : k ≤ n) : At w base e (cutA A c k 1) (n - k) (c - k) (rows.drop k) := by
  have hnc := h.sl.nc
  refine ⟨h.sl.drop k hk c (Nat.le_refl _) hnc, fun a ha => ?_⟩
  unfold cutA at ha
  split at ha
  · obtain ⟨h1, h2, cur, h3, h4⟩ := h.blk a ha
    exact ⟨h1, h2, cur, h3, by omega⟩
  · cases A with
    | none => cases ha
    | some a0 =>
      injection ha with ha
      obtain ⟨b, o, sp⟩ := a0
      obtain ⟨h1, h2, cur, h3, h4⟩ := h.blk _ rfl
      simp only at h1 h2 h3 h4
      subst h2
      replace ha : (⟨b, o, none⟩ : Addr).add (k * 1) = a := ha
      rw [Addr.add_lit] at ha
      subst ha
      exact ⟨h1, rfl, cur, h3, by simp only; omega⟩
theorem At.take (h : At w base e A n c rows) (j m : Nat) (hj : j ≤ n) (hjm : j ≤ m) (hm : m ≤ c) : At w base e A j m (rows.take j) :=
  ⟨h.sl.take j hj m hjm hm, fun a ha => by obtain ⟨h1, h2, cur, h3, h4⟩ := h.blk a ha; exact ⟨h1, h2, cur, h3, by omega⟩⟩
theorem At.room {g off : Nat} (h : At w base e (some ⟨g, off, none⟩) n c rows) (hn : n < c) (u : Value) : At (w.setCell ⟨g, off + n, none⟩ u) base e (some ⟨g, off, none⟩) (n + 1) c (rows ++ [[u]]) := by
  obtain ⟨h1, h2, cur, h3, h4⟩ := h.blk _ rfl
  simp only at h1 h3 h4
  have hB := h3.set' (i := off + n) (u := u) rfl
  have hl := h.sl.len
  refine ⟨⟨by simp [hl], hn, h.sl.cm, fun e => by (cases e), fun _ => ⟨g, off, rfl, by simpa using h3.lt, fun i r hr j v hv => ?_⟩, ?_⟩, fun a ha => ?_⟩
  · rw [hB.cell]
    rcases Nat.lt_or_ge i n with hi | hi
    · rw [List.getElem?_append_left (by omega)] at hr
      obtain ⟨b', o', e1, _, hc⟩ := h.sl.seg (by omega)
      injection e1 with e1
      injection e1 with e1 e2
      subst e1; subst e2
      have := hc i r hr j v hv
      rw [h3.cell] at this
      have hj : j = 0 := by
        have hrl := h.sl.row r (List.mem_of_getElem? hr)
        rcases Nat.eq_zero_or_pos j with hj | hj
        · exact hj
        · rw [List.getElem?_eq_none (by omega)] at hv; cases hv
      subst hj
      rw [Array.getElem?_setIfInBounds_ne (by omega)]
      exact this
    · have hin : i = n := by
        rcases Nat.lt_or_ge n i with h' | h'
        · rw [List.getElem?_eq_none (by simp; omega)] at hr; cases hr
        · omega
      subst hin
      rw [List.getElem?_append_right (by omega), hl, Nat.sub_self] at hr
      simp only [List.getElem?_cons_zero, Option.some.injEq] at hr
      subst hr
      have hj : j = 0 := by
        rcases Nat.eq_zero_or_pos j with hj | hj
        · exact hj
        · rw [List.getElem?_eq_none (by simp; omega)] at hv; cases hv
      subst hj
      simp only [List.getElem?_cons_zero, Option.some.injEq] at hv
      subst hv
      rw [Nat.mul_one, Nat.add_zero, Array.getElem?_setIfInBounds_self_of_lt (by omega)]
  · intro r hr
    rcases List.mem_append.1 hr with hr | hr
    · exact h.sl.row r hr
    · simp at hr; subst hr; rfl
  · injection ha with ha
    subst ha
    exact ⟨h1, rfl, _, hB, by simpa using h4⟩
/-- What is not in the block of Q stays, where just that block was written to. -/
theorem grown_keep {Q : Option Addr} (hg : w.grownBy w' (Q.map (·.block))) {k : Nat} (hk : k < w.heap.size) (hne : ∀ a, Q = some a → a.block ≠ k) : w'.heap[k]? = w.heap[k]? := by
  refine hg.block k hk fun e => ?_
  cases Q with
  | none => cases e
  | some a => injection e with e; exact hne a rfl e.symm
theorem Sl.kept {size : Nat} (h : Sl w size A n c rows) (hs : w.heap.size ≤ w'.heap.size) (hk : ∀ a, A = some a → a.block < w.heap.size → w'.heap[a.block]? = w.heap[a.block]?) : Sl w' size A n c rows := by
  refine ⟨h.len, h.nc, h.cm, h.nil, fun hn => ?_, h.row⟩
  obtain ⟨b, o, e1, hb, hc⟩ := h.seg hn
  refine ⟨b, o, e1, Nat.lt_of_lt_of_le hb hs, fun i r hr j u hu => ?_⟩
  rw [World.cell?_of_block (a := ⟨b, o + (i * size + j), none⟩) (hk ⟨b, o, none⟩ e1 hb)]
  exact hc i r hr j u hu
theorem At.type (h : At w base e A n c rows) {k : Nat} {cs : Array Value} (hB : Blk w k t cs) (hne : e ≠ t := by decide) : ∀ a, A = some a → a.block ≠ k := by
  rintro a ha rfl
  obtain ⟨_, _, cur, h3, _⟩ := h.blk a ha
  unfold Blk at h3 hB
  rw [h3] at hB
  injection hB with hB
  injection hB with _ hB
  exact hne hB
theorem blk_push {Q : Option Addr} {k : Nat} {cs : Array Value} (h : Blk w k t cs) (X : At w base e Q n c rows) (hg : w.grownBy w' (Q.map (·.block))) (hne : e ≠ t := by decide) : Blk w' k t cs :=
  (grown_keep hg h.lt (X.type h hne)).trans h
theorem below_push {B : Nat} {a : World} {Q : Option Addr} (h : Below B a w) (X : At w base e Q n c rows) (hg : w.grownBy w' (Q.map (·.block))) (hB : B ≤ base) (hw : B ≤ w.heap.size) : Below B a w' :=
  h.grown hg hw fun k hk => by
    cases Q with
    | none => cases hk
    | some b => injection hk with hk; subst hk; have := (X.blk b rfl).1; show B ≤ b.block; omega
end
/-- 'append(s, x)' of one element that lies in a new block of its own: in place, or in a new array. -/
theorem wpList_at_push {P : Program} {w : World} {ops : Array Oper} {rest : List Oper} {o : Oper} {a : Act} {Q : Exit → Act → World → Prop} (hgd : o.guard = none) (s x : Operand) (t : TypeId)
    (ho : o.op = .call { callee := .builtin .append, args := #[s, x], argTypes := #[t, t] })
    {base : Nat} {e : TypeId} {z : Value} {bytes : Nat} (ht : P.underlying t = some (.slice e)) (hi : (P.info? e).map (fun i => (i.zero, i.size, i.bytes)) = some (some z, 1, bytes)) (hzs : z.cells.size = 1)
    {A : Option Addr} {n c : Nat} {rows : List (List Value)} (hs : a.eval s = .slice A n c) (hown : At w base e A n c rows) {H : Nat} (hH : w.heap.size = H) {u : Value} (hx : a.eval x = .slice (some ⟨H, 0, none⟩) 1 1) (h1 : u.oneCell' = true)
    (h63 : n + 1 ≤ maxLen) (hbytes : (n + 1) * bytes ≤ 140737488355328) (hbase : base ≤ w.heap.size)
    (h : ∀ A' c' w', At w' base e A' (n + 1) c' (rows ++ [[u]]) → (w.alloc (.cells #[u] e)).grownBy w' (A.map (·.block)) → (A'.map (·.block) = A.map (·.block) ∨ ∀ b, A' = some b → w.heap.size < b.block) → wpList P ops Q rest (a.put o.dst (.slice A' (n + 1) c')) w') : wpList P ops Q (o :: rest) a (w.alloc (.cells #[u] e)) := by
  subst hH
  obtain ⟨i, hi1, hi2, hi3, hi4⟩ := info_parts hi
  have hl := hown.sl.len
  have hown' := hown.al (.cells #[u] e)
  have hN := Blk.new w e #[u]
  have hfl : ∀ {rows : List (List Value)}, (∀ r ∈ rows, r.length = 1) → rows.flatten.length = rows.length * 1 := fun hr => flatten_length hr
  have hnew : ∀ j v, [u][j]? = some v → (w.alloc (.cells #[u] e)).cell? ((⟨w.heap.size, 0, none⟩ : Addr).add j) = some v := by
    intro j v hv
    rw [Addr.add_lit, Nat.zero_add, hN.cell, ← Array.getElem?_toList]; exact hv
  have grow : ∀ v' w', w'.ownsRow (w.alloc (.cells #[u] e)).heap.size e 1 v' (n + 1) (rows.flatten ++ [u]) → (w.alloc (.cells #[u] e)).grownBy w' none → wpList P ops Q rest (a.put o.dst v') w' := by
    intro v' w' ho' hg
    have ho2 : Own w' (w.alloc (.cells #[u] e)).heap.size e 1 v' (rows ++ [[u]]) := by
      refine ⟨by simpa [hl] using ho', fun r hr => ?_⟩
      rcases List.mem_append.1 hr with hr | hr
      · exact hown.sl.row r hr
      · simp at hr; subst hr; rfl
    obtain ⟨A', c', rfl, hsl⟩ := ho2.sl
    have hln : (rows ++ [[u]]).length = n + 1 := by simp [hl]
    rw [hln] at ho2 ⊢
    have hat := At.own ho2
    refine h A' c' w' (hat.mono (by simp; omega)) ⟨hg.os, hg.tape, hg.output, hg.size, fun k hk _ => hg.block k hk (by simp)⟩ (.inr fun b hb => ?_)
    have := (hat.blk b hb).1
    simp at this; omega
  cases A with
  | none =>
    obtain ⟨rfl, rfl⟩ := hown.sl.n0 rfl
    obtain rfl := List.eq_nil_of_length_eq_zero hl
    exact wpList_append_grows _ hgd s x t ho e i z 1 bytes ht hi1 hi2 hi3 hi4 hzs (by omega) none 0 0 [] hs (by simp) rfl (by simp) ⟨w.heap.size, 0, none⟩ 1 1 [u] hx rfl hnew (by simpa using h1) (by omega) h63 hbytes (by simpa using grow)
  | some ad =>
    obtain ⟨g, off, sp⟩ := ad
    obtain ⟨b1, b2, cur, b3, b4⟩ := hown'.blk _ rfl
    simp only at b1 b2 b3 b4
    subst b2
    have hcap : n ≤ c := hown.sl.nc
    refine wpList_append_arg _ hgd s x t ho e i z 1 bytes ht hi1 hi2 hi3 hi4 hzs (by omega) g off n c rows.flatten hs (by rw [hfl hown.sl.row, hl]) ?_ ⟨w.heap.size, 0, none⟩ 1 1 [u] hx rfl hnew (by simpa using h1) ?_ h63 hbytes ?_ (fun _ => grow)
    · intro j v hj
      obtain ⟨r, h2, h3⟩ := flatten_inv (by omega) hown.sl.row hj
      have hpos : 0 < rows.length := by
        cases rows with
        | nil => simp at hj
        | cons => simp
      obtain ⟨b', o', e1, _, hc⟩ := hown'.sl.seg hpos
      injection e1 with e1
      injection e1 with e1 e2
      subst e1; subst e2
      have := hc _ r h2 _ v h3
      rwa [Nat.mul_comm, Nat.div_add_mod] at this
    · intro hr j hj
      simp only [List.length_singleton] at hj
      obtain rfl : j = 0 := by omega
      rw [b3.cell, b3.frozen]
      exact ⟨by simp only [Nat.mul_one, Nat.add_zero]; rw [Array.getElem?_eq_getElem (by omega)]; rfl, rfl⟩
    · intro hr
      have hk := hown'.room (by omega : n < c) u
      have e1 : (w.alloc (.cells #[u] e)).setCells g (off + n * 1) [u] = (w.alloc (.cells #[u] e)).setCell ⟨g, off + n, none⟩ u := by rw [Nat.mul_one]; rfl
      rw [e1]
      refine h _ _ _ hk ⟨rfl, rfl, rfl, by simp, fun k _ hk => Below.heap_setCell _ ⟨g, off + n, none⟩ u k (fun e => hk (by simp [e]))⟩ (.inl rfl)
end Go.Proofs.Ytpdadlofgfdlpaa
