/- A slice that the call itself owns, by its rows; append of one row, append of what is read; what a slice expression leaves. No program. -/
import Derived.Test.YtpdadlofgfdlpaaBase
namespace Go.Proofs.Ytpdadlofgfdlpaa
set_option linter.all false
open Go.RowKit

/-- The call's own slice, by its elements' cells. -/
def Own (w : World) (base : Nat) (e : TypeId) (size : Nat) (v : Value) (rows : List (List Value)) : Prop :=
  w.ownsRow base e size v rows.length rows.flatten ∧ ∀ r ∈ rows, r.length = size

theorem flatten_length {size : Nat} : ∀ {rows : List (List Value)}, (∀ r ∈ rows, r.length = size) → rows.flatten.length = rows.length * size
  | [], _ => by simp
  | r :: rows, h => by
    rw [List.flatten_cons, List.length_append, h r (by simp), flatten_length fun r hr => h r (by simp [hr]), List.length_cons, Nat.add_mul]; omega
theorem flatten_at {size : Nat} : ∀ {rows : List (List Value)}, (∀ r ∈ rows, r.length = size) → ∀ {i j : Nat} {r : List Value} {u : Value}, rows[i]? = some r → r[j]? = some u → rows.flatten[i * size + j]? = some u
  | [], _, i, _, _, _, hi, _ => by simp at hi
  | r :: rows, h, 0, j, r', u, hi, hj => by
    simp at hi; subst hi
    rw [Nat.zero_mul, Nat.zero_add, List.flatten_cons]
    have : j < r.length := by
      rcases Nat.lt_or_ge j r.length with h' | h'
      · exact h'
      · rw [List.getElem?_eq_none h'] at hj; cases hj
    rw [List.getElem?_append_left this]; exact hj
  | r :: rows, h, i + 1, j, r', u, hi, hj => by
    simp at hi
    have hr := h r (by simp)
    rw [List.flatten_cons, List.getElem?_append_right (by rw [hr, Nat.add_mul]; omega), hr, show (i + 1) * size + j - size = i * size + j by rw [Nat.add_mul]; omega]
    exact flatten_at (fun r hr => h r (by simp [hr])) hi hj
/-- A place in the flat list is a place in one row. -/
theorem flatten_inv {size : Nat} (hs : 0 < size) {rows : List (List Value)} (h : ∀ r ∈ rows, r.length = size) {k : Nat} {u : Value} (hk : rows.flatten[k]? = some u) : ∃ r, rows[k / size]? = some r ∧ r[k % size]? = some u := by
  have hlt : k < rows.length * size := by
    rw [← flatten_length h]
    rcases Nat.lt_or_ge k rows.flatten.length with h' | h'
    · exact h'
    · rw [List.getElem?_eq_none h'] at hk; cases hk
  have hi : k / size < rows.length := (Nat.div_lt_iff_lt_mul hs).2 hlt
  have hr := h rows[k / size] (List.getElem_mem hi)
  have hj : k % size < rows[k / size].length := by rw [hr]; exact Nat.mod_lt _ hs
  refine ⟨_, List.getElem?_eq_getElem hi, ?_⟩
  have := flatten_at h (List.getElem?_eq_getElem hi) (List.getElem?_eq_getElem hj)
  rw [show k / size * size + k % size = k by rw [Nat.mul_comm]; exact Nat.div_add_mod k size] at this
  rw [List.getElem?_eq_getElem hj, ← this, hk]

section
variable {w w' : World} {base : Nat} {e : TypeId} {size : Nat} {v : Value} {rows : List (List Value)}
theorem Own.nil : Own w base e size (.slice none 0 0) [] := ⟨World.ownsRow_nil _ _ _ _, by simp⟩
theorem Own.form (h : Own w base e size v rows) : (v = .slice none 0 0 ∧ rows = []) ∨ ∃ g cap, v = .slice (some ⟨g, 0, none⟩) rows.length cap ∧ base ≤ g ∧ rows.length ≤ cap ∧ cap ≤ maxLen ∧
    ∃ cur, w.heap[g]? = some (.cells cur e (0, 0)) ∧ cur.size = cap * size ∧ cur.toList.take (rows.length * size) = rows.flatten := by
  rcases h.1.2 with ⟨h1, h2⟩ | ⟨g, cap, cur, h1, h2, h3, h4, h5, h6, h7⟩
  · exact .inl ⟨h1, List.eq_nil_of_length_eq_zero h2⟩
  · exact .inr ⟨g, cap, h1, h2, h4, h5, cur, h3, h6, h7⟩
theorem Own.keep (h : Own w base e size v rows) (hk : ∀ k, base ≤ k → k < w.heap.size → w'.heap[k]? = w.heap[k]?) : Own w' base e size v rows := by
  refine ⟨⟨h.1.1, ?_⟩, h.2⟩
  rcases h.1.2 with h1 | ⟨g, cap, cur, h1, h2, h3, h4⟩
  · exact .inl h1
  · refine .inr ⟨g, cap, cur, h1, h2, ?_, h4⟩
    rw [hk g h2 ?_]
    · exact h3
    · rcases Nat.lt_or_ge g w.heap.size with hl | hl
      · exact hl
      · rw [Array.getElem?_eq_none hl] at h3; cases h3
theorem Own.below (h : Own w base e size v rows) (hb : Below w.heap.size w w') : Own w' base e size v rows := h.keep fun k _ hk => hb.block k hk
theorem Own.alloc (h : Own w base e size v rows) (o : Obj) : Own (w.alloc o) base e size v rows := h.keep fun k _ hk => Below.heap_alloc w o k hk
theorem Own.drew (h : Own w base e size v rows) : Own w.drew base e size v rows := h
theorem Own.drewN (h : Own w base e size v rows) (n : Nat) : Own (w.drewN n) base e size v rows := h
theorem Own.setCell (h : Own w base e size v rows) {p : Addr} (hp : p.block < base) (u : Value) : Own (w.setCell p u) base e size v rows :=
  h.keep fun k hk _ => Below.heap_setCell w p u k (by omega)
end

/-- A slice value that reads as these rows. -/
structure Sl (w : World) (size : Nat) (A : Option Addr) (n c : Nat) (rows : List (List Value)) : Prop where
  len : rows.length = n
  nc : n ≤ c
  cm : c ≤ maxLen
  nil : A = none → c = 0
  seg : Seg w size A rows
  row : ∀ r ∈ rows, r.length = size
section
variable {w w' : World} {size n c : Nat} {A : Option Addr} {rows : List (List Value)}
theorem Sl.nil_ (w : World) (size : Nat) : Sl w size none 0 0 [] := ⟨rfl, by simp, by simp [maxLen], fun _ => rfl, Seg.nil, by simp⟩
theorem Sl.below (h : Sl w size A n c rows) (hb : Below w.heap.size w w') : Sl w' size A n c rows := ⟨h.len, h.nc, h.cm, h.nil, h.seg.below hb, h.row⟩
theorem Sl.alloc (h : Sl w size A n c rows) (o : Obj) : Sl (w.alloc o) size A n c rows := ⟨h.len, h.nc, h.cm, h.nil, h.seg.alloc o, h.row⟩
theorem Sl.drew (h : Sl w size A n c rows) : Sl w.drew size A n c rows := ⟨h.len, h.nc, h.cm, h.nil, h.seg, h.row⟩
theorem Sl.drewN (h : Sl w size A n c rows) (k : Nat) : Sl (w.drewN k) size A n c rows := ⟨h.len, h.nc, h.cm, h.nil, h.seg, h.row⟩
theorem Sl.n0 (h : Sl w size A n c rows) : A = none → n = 0 ∧ c = 0 := fun e => by have := h.nil e; have := h.nc; omega
theorem Own.sl {base : Nat} {e : TypeId} {v : Value} (h : Own w base e size v rows) : ∃ A c, v = .slice A rows.length c ∧ Sl w size A rows.length c rows := by
  rcases h.form with ⟨rfl, rfl⟩ | ⟨g, cap, rfl, _, h1, h2, cur, h3, h4, h5⟩
  · exact ⟨_, 0, rfl, Sl.nil_ w size⟩
  · refine ⟨_, cap, rfl, rfl, h1, h2, by simp, fun hn => ⟨g, 0, rfl, ?_, fun i r hr j u hu => ?_⟩, h.2⟩
    · rcases Nat.lt_or_ge g w.heap.size with hl | hl
      · exact hl
      · rw [Array.getElem?_eq_none hl] at h3; cases h3
    · have hf := flatten_at h.2 hr hu
      rw [← h5, List.getElem?_take] at hf
      split at hf
      · simp only [World.cell?, h3, Nat.zero_add]
        simpa using hf
      · cases hf
theorem Own.sl' {base : Nat} {e : TypeId} (h : Own w base e size (.slice A n c) rows) : Sl w size A n c rows := by
  obtain ⟨A', c', hv, hs⟩ := h.sl
  injection hv with h1 h2 h3
  subst h1; subst h2; subst h3
  exact hs
/-- An empty slice that is not nil, fresh. -/
theorem Own.empty (w : World) (base : Nat) (e : TypeId) (hb : base ≤ w.heap.size) : Own (w.alloc (.cells #[] e)) base e size (.slice (some ⟨w.heap.size, 0, .none⟩) 0 0) [] :=
  ⟨⟨by simp, .inr ⟨w.heap.size, 0, #[], rfl, hb, heap_alloc_new w _, Nat.le_refl _, by simp [maxLen], by simp, by simp⟩⟩, by simp⟩
theorem Own.mono {base base' : Nat} {e : TypeId} {v : Value} (h : Own w base e size v rows) (hb : base' ≤ base) : Own w base' e size v rows := by
  refine ⟨⟨h.1.1, ?_⟩, h.2⟩
  rcases h.1.2 with h1 | ⟨g, cap, cur, h1, h2, h3, h4⟩
  · exact .inl h1
  · exact .inr ⟨g, cap, cur, h1, by omega, h3, h4⟩
end

/-- 'append(out, x)' of one element that lies in a new block of its own. -/
theorem wpList_push {P : Program} {w : World} {ops : Array Oper} {rest : List Oper} {o : Oper} {a : Act} {Q : Exit → Act → World → Prop} (hgd : o.guard = none) (s x : Operand) (t : TypeId)
    (ho : o.op = .call { callee := .builtin .append, args := #[s, x], argTypes := #[t, t] })
    {base : Nat} {e : TypeId} {z : Value} {size bytes : Nat} (ht : P.underlying t = some (.slice e)) (hi : (P.info? e).map (fun i => (i.zero, i.size, i.bytes)) = some (some z, size, bytes)) (hzs : z.cells.size = size) (hsz : 0 < size)
    {v : Value} {rows : List (List Value)} (hs : a.eval s = v) (hown : Own w base e size v rows) {H : Nat} (hH : w.heap.size = H) {row : Array Value} (hx : a.eval x = .slice (some ⟨H, 0, none⟩) 1 1) (hl : row.size = size) (h1 : ∀ u ∈ row.toList, u.oneCell' = true)
    (h63 : rows.length + 1 ≤ maxLen) (hbytes : (rows.length + 1) * bytes ≤ 140737488355328) (hbase : base ≤ w.heap.size)
    (h : ∀ v' w', Own w' base e size v' (rows ++ [row.toList]) → Below base w w' → w.heap.size < w'.heap.size → wpList P ops Q rest (a.put o.dst v') w') : wpList P ops Q (o :: rest) a (w.alloc (.cells row e)) := by
  subst hH
  obtain ⟨i, hi1, hi2, hi3, hi4⟩ := info_parts hi
  refine wpList_append_own _ hgd s x t ho base e i z size bytes ht hi1 hi2 hi3 hi4 hzs hsz v rows.length rows.flatten hs (hown.alloc _).1 ⟨w.heap.size, 0, none⟩ 1 1 row.toList hx (by simp [hl]) ?_ h1 h63 hbytes (by simp; omega) ?_
  · intro j u hu
    rw [Addr.add_lit]
    simp only [Nat.zero_add]
    rw [World.cell?_alloc_new, ← Array.getElem?_toList]; exact hu
  · intro v' w' h2 h3 _
    refine h v' w' ⟨by simpa using h2, ?_⟩ ?_ ?_
    · intro r hr
      rcases List.mem_append.1 hr with hr | hr
      · exact hown.2 r hr
      · simp at hr; subst hr; simpa using hl
    · refine ((Below.refl base w).alloc hbase _).grown h3 (by simp; omega) fun k hk => ?_
      rcases hown.form with ⟨rfl, _⟩ | ⟨g, cap, rfl, hg, _⟩
      · simp [Value.ownBlock] at hk
      · simp [Value.ownBlock] at hk; omega
    · have := h3.size; simp at this; omega

/-- 'append(s, x...)' where s has no room for x: a new array that holds both. -/
theorem wpList_grow {P : Program} {w : World} {ops : Array Oper} {rest : List Oper} {o : Oper} {a : Act} {Q : Exit → Act → World → Prop} (hgd : o.guard = none) (s x : Operand) (t : TypeId)
    (ho : o.op = .call { callee := .builtin .append, args := #[s, x], argTypes := #[t, t] })
    {e : TypeId} {z : Value} {size bytes : Nat} (ht : P.underlying t = some (.slice e)) (hi : (P.info? e).map (fun i => (i.zero, i.size, i.bytes)) = some (some z, size, bytes)) (hzs : z.cells.size = size) (hsz : 0 < size)
    {A : Option Addr} {n cap : Nat} {rows : List (List Value)} (hs : a.eval s = .slice A n cap) (hn : rows.length = n) (hr : ∀ r ∈ rows, r.length = size) (hA : Seg w size A rows) (hA0 : A = none → n = 0 ∧ cap = 0)
    {B : Option Addr} {m c : Nat} {news : List (List Value)} (hx : a.eval x = .slice B m c) (hm : news.length = m) (hnr : ∀ r ∈ news, r.length = size) (hB : Seg w size B news) (h1 : ∀ r ∈ news, ∀ u ∈ r, u.oneCell' = true)
    (h0 : 0 < m) (hfull : cap < n + m) (h63 : n + m ≤ maxLen) (hbytes : (n + m) * bytes ≤ 140737488355328)
    (h : ∀ v' w', Own w' w.heap.size e size v' (rows ++ news) → Below w.heap.size w w' → wpList P ops Q rest (a.put o.dst v') w') : wpList P ops Q (o :: rest) a w := by
  obtain ⟨i, hi1, hi2, hi3, hi4⟩ := info_parts hi
  obtain ⟨b, off, rfl, hb, hbc⟩ := hB (by omega)
  have cellsOf : ∀ {b off : Nat} {rs : List (List Value)}, (∀ r ∈ rs, r.length = size) → (∀ i r, rs[i]? = some r → ∀ j u, r[j]? = some u → w.cell? ⟨b, off + (i * size + j), none⟩ = some u) →
      ∀ j u, rs.flatten[j]? = some u → w.cell? ((⟨b, off, none⟩ : Addr).add j) = some u := by
    intro b off rs hr hc j u hu
    obtain ⟨r, h2, h3⟩ := flatten_inv hsz hr hu
    rw [Addr.add_lit, ← hc _ r h2 _ u h3, Nat.mul_comm, Nat.div_add_mod]
  refine wpList_append_grows w hgd s x t ho e i z size bytes ht hi1 hi2 hi3 hi4 hzs hsz A n cap rows.flatten hs hA0 (by rw [flatten_length hr, hn]) ?_ ⟨b, off, none⟩ m c news.flatten hx (by rw [flatten_length hnr, hm]) (cellsOf hnr hbc) ?_ hfull h63 hbytes ?_
  · intro ad had j u hu
    have hpos : 0 < rows.length := by
      cases rows with
      | nil => simp at hu
      | cons => simp
    obtain ⟨b', off', hA', _, hc'⟩ := hA hpos
    rw [hA'] at had
    injection had with had
    subst had
    exact cellsOf hr hc' j u hu
  · intro u hu
    obtain ⟨r, hr, hur⟩ := List.mem_flatten.1 hu
    exact h1 r hr u hur
  · intro v' w' h2 h3
    refine h v' w' ⟨by simpa [hn, hm] using h2, ?_⟩ ?_
    · intro r hr'
      rcases List.mem_append.1 hr' with hr' | hr'
      · exact hr r hr'
      · exact hnr r hr'
    · exact (Below.refl _ w).grown h3 (Nat.le_refl _) (fun k hk => by cases hk)
end Go.Proofs.Ytpdadlofgfdlpaa
