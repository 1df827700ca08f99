/- Plain facts for MatchMore and TrimMatch: what fits behind the last item; a store into a slice of the call's own. -/
import Derived.Test.YtaldmianlmgloabMatchQ
namespace Go.Proofs.Ytaldmianlmgloab
set_option linter.all false
open Go.RowKit
theorem flatten_set {size : Nat} : ∀ {rows : List (List Value)} {i j : Nat} {u : Value}, (∀ r ∈ rows, r.length = size) → (hi : i < rows.length) → j < size → (rows.set i (rows[i].set j u)).flatten = rows.flatten.set (i * size + j) u
  | [], i, j, u, _, hi, _ => by simp at hi
  | r :: rows, 0, j, u, h, hi, hj => by
    have hr := h r (by simp)
    simp only [List.set_cons_zero, List.getElem_cons_zero, List.flatten_cons, Nat.zero_mul, Nat.zero_add]
    rw [List.set_append_left _ _ (by omega)]
  | r :: rows, i + 1, j, u, h, hi, hj => by
    have hr := h r (by simp)
    have hi' : i < rows.length := by simpa using hi
    simp only [List.set_cons_succ, List.getElem_cons_succ, List.flatten_cons]
    rw [flatten_set (fun r hr => h r (by simp [hr])) hi' hj, List.set_append_right _ _ (by rw [hr, Nat.add_mul]; omega), hr, show (i + 1) * size + j - size = i * size + j by rw [Nat.add_mul]; omega]
theorem Own.store {w : World} {base g n c : Nat} {e : TypeId} {size : Nat} {rows : List (List Value)} {i j : Nat} {u : Value} (h : Own w base e size (.slice (some ⟨g, 0, none⟩) n c) rows) (hi : i < rows.length) (hj : j < size) :
    Own (w.setCell ⟨g, i * size + j, none⟩ u) base e size (.slice (some ⟨g, 0, none⟩) n c) (rows.set i (rows[i].set j u)) := by
  have hf := h.form
  rcases hf with ⟨hv, _⟩ | ⟨g', cap, hv, hg, h1, h2, cur, h3, h4, h5⟩
  · cases hv
  · injection hv with a1 a2 a3
    injection a1 with a1
    injection a1 with a1
    subst a1; subst a2; subst a3
    have hrow : ∀ r ∈ rows.set i (rows[i].set j u), r.length = size := by
      intro r hr
      rcases List.mem_or_eq_of_mem_set hr with hr | rfl
      · exact h.2 r hr
      · rw [List.length_set]; exact h.2 _ (List.getElem_mem hi)
    have hlen : (rows.set i (rows[i].set j u)).flatten.length = rows.length * size := by rw [flatten_length hrow, List.length_set]
    refine ⟨⟨by rw [hlen, List.length_set], .inr ⟨g, c, cur.setIfInBounds (i * size + j) u, by rw [List.length_set], hg, ?_, by rw [List.length_set]; exact h1, h2, by simpa using h4, ?_⟩⟩, hrow⟩
    · simp [World.setCell, Array.getElem?_modify, h3]
    · rw [List.length_set, flatten_set h.2 hi hj, ← h5, Array.toList_setIfInBounds, List.take_set]
theorem Own.block {w : World} {base n c : Nat} {e : TypeId} {size : Nat} {A : Option Addr} {rows : List (List Value)} (h : Own w base e size (.slice A n c) rows) (hn : 0 < rows.length) : ∃ g, A = some ⟨g, 0, none⟩ ∧ base ≤ g ∧ g < w.heap.size ∧ n = rows.length ∧
    (∀ o, w.frozen? ⟨g, o, none⟩ = false) ∧ (∀ i r, rows[i]? = some r → ∀ j u, r[j]? = some u → w.cell? ⟨g, i * size + j, none⟩ = some u) := by
  have hsl := h.sl'
  rcases h.form with ⟨hv, hr⟩ | ⟨g', cap, hv, hg, h1, h2, cur, h3, h4, h5⟩
  · subst hr; simp at hn
  · injection hv with a1 a2 a3
    refine ⟨g', a1, hg, ?_, a2, ?_, ?_⟩
    · rcases Nat.lt_or_ge g' w.heap.size with hl | hl
      · exact hl
      · rw [Array.getElem?_eq_none hl] at h3; cases h3
    · intro o; simp [World.frozen?, h3]
    · obtain ⟨b, off, e1, _, hc⟩ := hsl.seg hn
      rw [a1] at e1
      injection e1 with e1
      injection e1 with e1 e2
      subst e1; subst e2
      intro i r hr j u hu
      have := hc i r hr j u hu
      rwa [Nat.zero_add] at this
def later (d : Int) (x : Itm) : Itm := { x with time := x.time + d }
theorem items_times : ∀ (l : List DeedD) (t m : Int), ∀ x ∈ itemsGo t m l, m ≤ x.time ∧ x.time ≤ m + 2 * l.length
  | [], _, _, x, h => by simp [itemsGo] at h
  | d :: l, t, m, x, h => by
    have o1 := picked_lo d.wait 3 (by omega)
    have o2 := picked_hi d.wait 3 (by omega)
    simp only [itemsGo, List.mem_cons] at h
    rcases h with rfl | h
    · show m ≤ m + picked d.wait 3 ∧ m + picked d.wait 3 ≤ _
      simp; omega
    · have := items_times l _ _ x h
      simp at this ⊢; omega
theorem log_times (l : List DeedD) (base : Int) : ∀ x ∈ logItems l base, 0 ≤ x.time ∧ x.time ≤ 60 := by
  intro x hx
  have hl : ((l.take 30).length : Int) ≤ 30 := by rw [List.length_take]; omega
  unfold logItems itemsOf at hx
  have := items_times _ _ _ x hx
  omega
theorem chain_later : ∀ (l : List Itm) (t m d : Int), chainOk t m l = true → 0 ≤ d → (∀ x ∈ l, x.time + d ≤ 1073741824) → chainOk t (m + d) (l.map (later d)) = true
  | [], _, _, _, _, _, _ => rfl
  | x :: l, t, m, d, h, hd, hb => by
    obtain ⟨a1, a2, a3, a4⟩ := chain_head h
    have hx := hb x (by simp)
    have ok := checkItem_ok a1
    have c1 : checkItem (later d x) = 0 := by
      unfold checkItem at a1 ⊢
      rw [if_neg (by omega)] at a1
      rw [if_neg (by simp only [later]; omega)]
      exact a1
    have b2 : decide ((later d x).term < t) = false := by show decide (x.term < t) = false; simp; omega
    have b3 : decide ((later d x).time < m + d) = false := by show decide (x.time + d < m + d) = false; simp; omega
    have ih := chain_later l x.term x.time d a4 hd (fun y hy => hb y (by simp [hy]))
    simp only [List.map_cons, chainOk, c1, b2, b3]
    simpa [later] using ih
theorem chain_append : ∀ (l r : List Itm) (t m : Int), chainOk t m l = true → (∀ t' m', (l = [] → t' = t ∧ m' = m) → (∀ h : 0 < l.length, t' = (l[l.length - 1]'(by omega)).term ∧ m' = (l[l.length - 1]'(by omega)).time) → chainOk t' m' r = true) → chainOk t m (l ++ r) = true
  | [], r, t, m, _, h => h t m (fun _ => ⟨rfl, rfl⟩) (fun h => by simp at h)
  | x :: l, r, t, m, hc, h => by
    obtain ⟨a1, a2, a3, a4⟩ := chain_head hc
    have b2 : decide (x.term < t) = false := by simp; omega
    have b3 : decide (x.time < m) = false := by simp; omega
    have ih := chain_append l r x.term x.time a4 (fun t' m' e1 e2 => by
      refine h t' m' (by simp) (fun _ => ?_)
      cases l with
      | nil => simpa using e1 rfl
      | cons y l => simpa using e2 (by simp))
    simp only [List.cons_append, chainOk, a1, b2, b3, ih]; rfl
/-- The time of the last item, 0 if there is none. -/
def lastTime (L : List Itm) : Int := match L.getLast? with | some x => x.time | none => 0
theorem lastTime_pos {L : List Itm} (h : 0 < L.length) : lastTime L = (L[L.length - 1]'(by omega)).time := by
  unfold lastTime
  rw [List.getLast?_eq_getElem?, List.getElem?_eq_getElem (by omega)]
/-- What comes behind the last item of a log of deeds, in MatchMore and TrimMatch. -/
def moreOf (b bt : Int) (L : List Itm) (more : List DeedD) : List Itm := (itemsOf more (max (lastOf b bt L).2 1)).map (later (lastTime L))
theorem more_facts {b bt : Int} {L : List Itm} (more : List DeedD) (hg : checkLog b bt L = 0) (hbt : bt ≤ 2) (hb : b < 12) (hl : L.length ≤ 30) (ht : ∀ x ∈ L, x.term ≤ 32) (hm : ∀ x ∈ L, 0 ≤ x.time ∧ x.time ≤ 60) :
    0 ≤ (lastOf b bt L).2 ∧ (lastOf b bt L).2 ≤ 32 ∧ 0 ≤ lastTime L ∧ lastTime L ≤ 60 ∧ (moreOf b bt L more).length ≤ 30 ∧
    checkLog (b + L.length) (lastOf b bt L).2 (moreOf b bt L more) = 0 ∧ checkLog b bt (L ++ moreOf b bt L more) = 0 := by
  obtain ⟨g1, g2, g3, g4, g5, g6, g7⟩ := log_good hg
  have hterm : (termOf b bt L (b + L.length)).1 = (lastOf b bt L).2 := by rw [termOf_last]
  have tg := trim_good hg (Nat.le_refl L.length)
  have tb := term_bound (b := b) hbt ht (Nat.le_refl L.length)
  rw [hterm] at tg tb
  have hlt : 0 ≤ lastTime L ∧ lastTime L ≤ 60 := by
    by_cases h0 : 0 < L.length
    · rw [lastTime_pos h0]; exact hm _ (List.getElem_mem _)
    · obtain rfl := List.eq_nil_of_length_eq_zero (show L.length = 0 by omega)
      simp [lastTime]
  generalize hT : (lastOf b bt L).2 = T at *
  have hml : (itemsOf more (max T 1)).length ≤ 30 := by rw [itemsOf_length]; omega
  have hml30 : ((more.take 30).length : Int) ≤ 30 := by rw [List.length_take]; omega
  have c0 : ∀ t', t' ≤ max T 1 → chainOk t' 0 (itemsOf more (max T 1)) = true := fun t' h => chain_items _ _ _ _ _ h (by omega) (by omega) (by omega) (by omega) (by omega)
  have hti : ∀ x ∈ itemsOf more (max T 1), x.time + lastTime L ≤ 1073741824 := by
    intro x hx
    have := items_times _ _ _ x hx
    omega
  have c1 : ∀ t', t' ≤ max T 1 → chainOk t' (lastTime L) (moreOf b bt L more) = true := by
    intro t' h
    have := chain_later _ t' 0 (lastTime L) (c0 t' h) hlt.1 hti
    unfold moreOf
    rw [hT]
    simpa using this
  have hlen : (moreOf b bt L more).length ≤ 30 := by unfold moreOf; rw [List.length_map, hT]; exact hml
  obtain ⟨q1, q2, q3, q4, q5, q6, q7⟩ := log_good tg.1
  refine ⟨tg.2.1, tb, hlt.1, hlt.2, hlen, ?_, ?_⟩
  · exact checkLog_ok q1 q2 q3 q6 (by omega) (by omega) (chain_weak (c1 T (by omega)) hlt.1)
  · refine checkLog_ok g1 g2 g3 g6 (by simp; omega) (by simp; omega) (chain_append _ _ _ _ g7 ?_)
    intro t' m' e1 e2
    by_cases h0 : 0 < L.length
    · obtain ⟨e3, e4⟩ := e2 h0
      rw [e4, ← lastTime_pos h0]
      refine c1 t' ?_
      have : T = (L[L.length - 1]'(by omega)).term := by rw [← hT, lastOf_pos h0]
      omega
    · obtain rfl := List.eq_nil_of_length_eq_zero (show L.length = 0 by omega)
      obtain ⟨e3, e4⟩ := e1 rfl
      subst e3; subst e4
      have hT2 : T = t' := by rw [← hT]; simp [lastOf_nil]
      have hz : lastTime [] = 0 := rfl
      have := c1 t' (by omega)
      rwa [hz] at this
theorem more_match {b bt : Int} {L ms : List Itm} {T : Int} (hT : T = (lastOf b bt L).2) (h1 : checkLog (b + L.length) T ms = 0) (h2 : checkLog b bt (L ++ ms) = 0) :
    matchOf b bt L (b + L.length) T ms = ⟨some (L ++ ms), true, if ms = [] then 0 else b + L.length + 1, 0⟩ := by
  have ht := termOf_last b bt L
  rw [match_iv (k := L.length) h1 (by omega) (by rw [ht]) (by rw [ht, hT])]
  by_cases hm : ms = []
  · subst hm
    rw [if_pos rfl, List.append_nil]
    exact tail_none (fresh_nil _)
  · rw [if_neg hm]
    have hf : freshAt (L.drop L.length) ms = some 0 := by
      rw [List.drop_length]
      cases ms with
      | nil => exact absurd rfl hm
      | cons x ms => rfl
    have := tail_ok (base := b) (bt := bt) (pl := b + L.length) hf (by simpa using h2)
    simpa using this
/-- The items of which the first j are later already. -/
def bumped (d : Int) (ms : List Itm) (j : Nat) : List Itm := (ms.map (later d)).take j ++ ms.drop j
theorem bumped_zero (d : Int) (ms : List Itm) : bumped d ms 0 = ms := by simp [bumped]
theorem bumped_all (d : Int) (ms : List Itm) : bumped d ms ms.length = ms.map (later d) := by
  unfold bumped
  rw [List.drop_length, List.append_nil, List.take_of_length_le (by simp)]
theorem bumped_length (d : Int) (ms : List Itm) (j : Nat) : (bumped d ms j).length = ms.length := by simp [bumped]; omega
theorem bumped_at (d : Int) (ms : List Itm) {j : Nat} (hj : j < ms.length) : (bumped d ms j)[j]? = some ms[j] := by
  unfold bumped
  rw [List.getElem?_append_right (by simp; omega), List.length_take, List.length_map, Nat.min_eq_left (by omega), Nat.sub_self, List.getElem?_drop]
  simp [hj]
theorem bumped_step (d : Int) (ms : List Itm) {j : Nat} (hj : j < ms.length) : (bumped d ms j).set j (later d ms[j]) = bumped d ms (j + 1) := by
  unfold bumped
  rw [List.set_append_right _ _ (by simp; omega), List.length_take, List.length_map, Nat.min_eq_left (by omega), Nat.sub_self, List.drop_eq_getElem_cons hj, List.set_cons_zero,
    List.take_succ_eq_append_getElem (show j < (ms.map (later d)).length by simpa using hj)]
  simp
theorem own_bump {w : World} {base g n c : Nat} {e : TypeId} {d : Int} {ms : List Itm} {j : Nat} (h : Own w base e 10 (.slice (some ⟨g, 0, none⟩) n c) (itemRows (bumped d ms j))) (hj : j < ms.length) :
    Own (w.setCell ⟨g, j * 10 + 1, none⟩ (.int .i64 (ms[j].time + d))) base e 10 (.slice (some ⟨g, 0, none⟩) n c) (itemRows (bumped d ms (j + 1))) := by
  have hi : j < (itemRows (bumped d ms j)).length := by rw [itemRows_length, bumped_length]; exact hj
  have h2 := h.store (i := j) (j := 1) (u := .int .i64 (ms[j].time + d)) hi (by omega)
  have e1 : (itemRows (bumped d ms j))[j] = ms[j].cells := by
    have := bumped_at d ms hj
    simp only [itemRows, List.getElem_map]
    rw [List.getElem?_eq_getElem (by rw [bumped_length]; exact hj)] at this
    injection this with this
    rw [this]
  have e2 : (itemRows (bumped d ms j)).set j ((itemRows (bumped d ms j))[j].set 1 (.int .i64 (ms[j].time + d))) = itemRows (bumped d ms (j + 1)) := by
    rw [e1, ← bumped_step d ms hj]
    simp only [itemRows, List.map_set]
    rfl
  rw [e2] at h2
  exact h2
theorem own_at {w : World} {base n c : Nat} {e : TypeId} {A : Option Addr} {d : Int} {ms : List Itm} {j : Nat} (h : Own w base e 10 (.slice A n c) (itemRows (bumped d ms j))) (hj : j < ms.length) :
    ∃ g, A = some ⟨g, 0, none⟩ ∧ base ≤ g ∧ g < w.heap.size ∧ n = ms.length ∧ (∀ o, w.frozen? ⟨g, o, none⟩ = false) ∧ w.cell? ⟨g, j * 10 + 1, none⟩ = some (.int .i64 ms[j].time) := by
  obtain ⟨g, h1, h2, h3, h4, h5, h6⟩ := h.block (by rw [itemRows_length, bumped_length]; omega)
  refine ⟨g, h1, h2, h3, by rw [h4, itemRows_length, bumped_length], h5, ?_⟩
  refine h6 j ms[j].cells ?_ 1 _ rfl
  simp only [itemRows, List.getElem?_map, bumped_at d ms hj]
  rfl
end Go.Proofs.Ytaldmianlmgloab
