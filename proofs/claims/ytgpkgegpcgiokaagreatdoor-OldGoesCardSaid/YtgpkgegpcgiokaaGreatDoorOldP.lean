/- Who has called the longest ago goes: plain facts. -/
import Derived.Test.YtgpkgegpcgiokaaGreatDoorMachL
namespace Go.Proofs.YtgpkgegpcgiokaaGreatDoor
set_option linter.all false
open Go.RowKit
theorem mem_del_i {α β : Type} {key : α → β} {y : α} : ∀ {l : List α} {k : Nat} (_ : l.Pairwise (fun a b => key a ≠ key b)) (hk : k < l.length), y ∈ delRows l k ↔ y ∈ l ∧ key y ≠ key l[k] := by
  intro l
  induction l with
  | nil => intro k _ hk; simp at hk
  | cons x l ih =>
    intro k h hk
    rw [List.pairwise_cons] at h
    cases k with
    | zero =>
      simp only [delRows, List.take_zero, List.nil_append, List.drop_succ_cons, List.drop_zero, List.mem_cons, List.getElem_cons_zero]
      exact ⟨fun hy => ⟨.inr hy, fun e => h.1 y hy e.symm⟩, fun hy => hy.1.resolve_left (fun e => hy.2 (by rw [e]))⟩
    | succ k =>
      have hk' : k < l.length := by simpa using hk
      have := ih h.2 hk'
      simp only [delRows, List.take_succ_cons, List.cons_append, List.drop_succ_cons, List.mem_cons, List.getElem_cons_succ] at this ⊢
      rw [this]
      constructor
      · rintro (rfl | hy)
        · exact ⟨.inl rfl, h.1 _ (List.getElem_mem hk')⟩
        · exact ⟨.inr hy.1, hy.2⟩
      · rintro ⟨rfl | hy, hne⟩
        · exact .inl rfl
        · exact .inr ⟨hy, hne⟩
section
variable {m : Mach} {l : List Cl} {k : Nat}
theorem oldest_min : ∀ {k : Nat} (hk : k ≤ l.length) (h0 : 0 < l.length) {j : Nat} (hj : j < k), (l[oldest l k]'(oldest_lt hk h0)).time ≤ (l[j]'(by omega)).time ∧ (j < oldest l k → (l[oldest l k]'(oldest_lt hk h0)).time < (l[j]'(by omega)).time)
  | 0, _, _, j, hj => by omega
  | k + 1, hk, h0, j, hj => by
    have hkl : k < l.length := by omega
    have hol := oldest_lt (l := l) (k := k) (by omega) h0
    have e : oldest l (k + 1) = if l[k].time < (l[oldest l k]).time then k else oldest l k := by
      show (if _ < _ then k else oldest l k) = _
      rw [List.getElem?_eq_getElem hkl, List.getElem?_eq_getElem hol]
      rfl
    have ih := fun (h : j < k) => oldest_min (k := k) (by omega) h0 h
    by_cases hc : l[k].time < (l[oldest l k]).time
    · rw [if_pos hc] at e
      have e2 : (l[oldest l (k + 1)]'(oldest_lt hk h0)).time = l[k].time := by simp only [e]
      rw [e2, e]
      rcases Nat.lt_or_ge j k with hjk | hjk
      · have := (ih hjk).1
        exact ⟨by omega, fun _ => by omega⟩
      · obtain rfl : j = k := by omega
        exact ⟨Int.le_refl _, fun h => by omega⟩
    · rw [if_neg hc] at e
      have e2 : (l[oldest l (k + 1)]'(oldest_lt hk h0)).time = (l[oldest l k]).time := by simp only [e]
      rw [e2, e]
      rcases Nat.lt_or_ge j k with hjk | hjk
      · exact ih hjk
      · obtain rfl : j = k := by omega
        have := oldest_le (l := l) (k := j)
        exact ⟨by omega, fun h => by omega⟩
def zeroDeed : DeedD := ⟨0, 0, 0, ⟨0, 0, 0, 0, { data := #[] }⟩⟩
def oldM (l : List DeedD) : Mach := machOf (zeroDeed :: zeroDeed :: zeroDeed :: zeroDeed :: l)
theorem left_len (h : m.clis.length ≤ 4) : (leftM m).length = if m.clis.length = 4 then 3 else m.clis.length := by
  unfold leftM
  by_cases h4 : m.clis.length = 4
  · have ho := oldest_lt (l := m.clis) (k := m.clis.length) (Nat.le_refl _) (by omega)
    rw [if_pos h4, if_pos h4, del_len' _ ho]; omega
  · rw [if_neg h4, if_neg h4]
theorem open_len (h : MInv k m) (hk : k ≤ 1000) : (openM m).1.clis.length = (if m.clis.length = 4 then 3 else m.clis.length) + 1 := by
  rw [open_eq h hk]
  show (leftM m ++ [_]).length = _
  rw [List.length_append, left_len h.ok.few, List.length_singleton]
theorem doM_four {c : CallM} (h : MInv k m) (hk : k ≤ 1000) (h4 : m.clis.length = 4) : (doM m c).1.clis.length = 4 := by
  unfold doM
  split
  · rw [open_len h hk, h4]; rfl
  · split
    · exact h4
    · split
      · exact h4
      · split
        · exact h4
        · split
          · exact h4
          · show (m.clis.set _ _).length = 4
            rw [List.length_set]; exact h4
theorem later_inv {t : Int} (h : MInv k m) (hk : k ≤ 1000) (h0 : m.now ≤ t) (h1 : t ≤ 8 * (k + 1)) : MInv (k + 1) (laterM m t) :=
  ⟨later_ok h.ok h0 (by omega), by show t ≤ _; omega, by have := h.next; show m.next ≤ _; omega, fun x hx => by have := h.seq x hx; omega⟩
theorem step_four {d : DeedD} (h : MInv k m) (hk : k ≤ 900) (h4 : m.clis.length = 4) : (stepM m d).clis.length = 4 := by
  have p0 := picked_lo d.wait 8 (by omega)
  have p1 := picked_hi d.wait 8 (by omega)
  have := h.now
  exact doM_four (later_inv h (by omega) (by omega) (by omega)) (by omega) h4
theorem fold_four : ∀ (l : List DeedD) {m : Mach} {k : Nat}, MInv k m → k + l.length ≤ 900 → m.clis.length = 4 → (l.foldl stepM m).clis.length = 4
  | [], _, _, _, _, h4 => h4
  | d :: l, m, k, h, hk, h4 => by
    simp only [List.length_cons] at hk
    exact fold_four l (step_inv h (by omega) d) (by omega) (step_four h (by omega) h4)
theorem zero_step (h : MInv k m) (hk : k ≤ 900) (h3 : m.clis.length < 4) : (stepM m zeroDeed).clis.length = m.clis.length + 1 := by
  have e0 : picked zeroDeed.wait 8 = 0 := rfl
  have hc : callD m zeroDeed = zeroCall_ := by unfold callD; rw [if_pos (by rfl)]
  unfold stepM
  rw [e0, hc, Int.add_zero, later_self h.ok]
  have e : doM m zeroCall_ = openM m := by unfold doM zeroCall_; rw [if_pos rfl]
  rw [e, open_len h (by omega), if_neg (by omega)]
theorem oldM_four (l : List DeedD) : (oldM l).clis.length = 4 := by
  have i0 := new_inv
  have i1 := step_inv i0 (by omega) zeroDeed
  have i2 := step_inv i1 (by omega) zeroDeed
  have i3 := step_inv i2 (by omega) zeroDeed
  have i4 := step_inv i3 (by omega) zeroDeed
  have n1 := zero_step i0 (by omega) (by show 0 < 4; omega)
  have n2 := zero_step i1 (by omega) (by rw [n1]; show 0 + 1 < 4; omega)
  have n3 := zero_step i2 (by omega) (by rw [n2, n1]; show 0 + 1 + 1 < 4; omega)
  have n4 := zero_step i3 (by omega) (by rw [n3, n2, n1]; show 0 + 1 + 1 + 1 < 4; omega)
  rw [n3, n2, n1] at n4
  have e : oldM l = (l.take 36).foldl stepM (stepM (stepM (stepM (stepM newM zeroDeed) zeroDeed) zeroDeed) zeroDeed) := rfl
  rw [e]
  exact fold_four _ i4 (by rw [List.length_take]; omega) n4
/-- Just the oldest one is not there any more. -/
theorem old_there (h : MInv k m) (hk : k ≤ 1000) (h4 : m.clis.length = 4) {i : Nat} (hi : i < m.clis.length) : (∃ j, ∃ hj : j < (openM m).1.clis.length, (openM m).1.clis[j].id = m.clis[i].id) ↔ i ≠ oldest m.clis m.clis.length := by
  have ho := oldest_lt (l := m.clis) (k := m.clis.length) (Nat.le_refl _) (by omega)
  have hr := h.ok.rise
  have hne : m.clis.Pairwise (fun a b => a.id ≠ b.id) := hr.imp fun h => by omega
  have hcl : (openM m).1.clis = delRows m.clis (oldest m.clis m.clis.length) ++ [⟨m.next, 0, m.now, zeroRe⟩] := by
    rw [open_eq h hk]
    show leftM m ++ _ = _
    unfold leftM
    rw [if_pos h4]
  have hx := (h.ok.cli _ (List.getElem_mem hi)).idn
  constructor
  · rintro ⟨j, hj, he⟩ rfl
    have hm : (openM m).1.clis[j] ∈ (openM m).1.clis := List.getElem_mem hj
    generalize (openM m).1.clis[j] = y at *
    rw [hcl] at hm
    rcases List.mem_append.1 hm with hm | hm
    · exact ((mem_del_i (key := Cl.id) hne ho).1 hm).2 he
    · rw [List.mem_singleton] at hm
      subst hm
      simp only at he
      omega
  · intro hio
    have hm : m.clis[i] ∈ (openM m).1.clis := by
      rw [hcl]
      refine List.mem_append_left _ ((mem_del_i (key := Cl.id) hne ho).2 ⟨List.getElem_mem hi, fun e => hio ?_⟩)
      have hp := List.pairwise_iff_getElem.1 hr
      rcases Nat.lt_trichotomy i (oldest m.clis m.clis.length) with h' | h' | h'
      · have := hp i _ hi ho h'; omega
      · exact h'
      · have := hp _ i ho hi h'; omega
    obtain ⟨j, hj, e⟩ := List.mem_iff_getElem.1 hm
    exact ⟨j, hj, by rw [e]⟩
end
end Go.Proofs.YtgpkgegpcgiokaaGreatDoor
