/- A set and a map side by side: plain facts. No walk. -/
import Derived.Test.YtcelcanfdalliaaDonQ
namespace Go.Proofs.Ytcelcanfdalliaa
set_option linter.all false
open Go.RowKit
instance memD (t : ByteArray) (l : List ByteArray) : Decidable (t ∈ l) := decidable_of_iff (l.any (fun s => decide (s = t)) = true) (by simp)
theorem textHas_iff {t : ByteArray} {l : List ByteArray} (h : risesBy cmpB l = true) : textHas t l = true ↔ t ∈ l := by
  constructor
  · intro hp
    have hlt := textHas_lt hp
    unfold textHas at hp
    rw [foundAt_lt hlt] at hp
    have := cmpB_eq.1 (by simpa using hp)
    exact this ▸ List.getElem_mem hlt
  · intro hm
    obtain ⟨j, hj, rfl⟩ := List.mem_iff_getElem.1 hm
    have h1 : ¬ j < textAt l[j] l := fun hlt => by
      have := text_h1 (f := l[j]) (l := l) j hj hlt
      rw [cmpB_self] at this; omega
    have h2 : textAt l[j] l = j := by
      rcases Nat.lt_or_eq_of_le (Nat.le_of_not_lt h1) with hlt | he
      · have h3 := text_h2 (f := l[j]) h (textAt l[j] l) (by omega) (Nat.le_refl _)
        have h4 : cmpB (l[textAt l[j] l]'(by omega)) l[j] < 0 := rises_lt (cmp := cmpB) (fun _ _ _ => cmpB_trans) h hlt hj
        omega
      · exact he
    unfold textHas
    rw [h2, foundAt_lt hj]
    simp [cmpB_self]
theorem textHas_at {t : ByteArray} {l : List ByteArray} (h : textHas t l = true) : l[textAt t l]'(textHas_lt h) = t := by
  have hlt := textHas_lt h
  have hp := h
  unfold textHas at hp
  rw [foundAt_lt hlt] at hp
  exact cmpB_eq.1 (by simpa using hp)
theorem rises_apart {l : List ByteArray} (h : risesBy cmpB l = true) : l.Pairwise (· ≠ ·) :=
  ((rises_pair (cmp := cmpB) (fun _ _ _ => cmpB_trans)).1 h).imp (fun hab e => by rw [e, cmpB_self] at hab; omega)
theorem mem_del_ne {α : Type} {y : α} : ∀ {l : List α} {k : Nat} (_ : l.Pairwise (· ≠ ·)) (hk : k < l.length), y ∈ delRows l k ↔ y ∈ l ∧ y ≠ l[k] := by
  intro l
  induction l with
  | nil => intro k _ hk; simp at hk
  | cons x l ih =>
    intro k h hk
    rw [List.pairwise_cons] at h
    cases k with
    | zero =>
      simp only [delRows, List.take_zero, List.nil_append, List.drop_succ_cons, List.drop_zero, List.mem_cons, List.getElem_cons_zero]
      exact ⟨fun hy => ⟨.inr hy, fun e => h.1 y hy e.symm⟩, fun hy => hy.1.resolve_left hy.2⟩
    | succ k =>
      have hk' : k < l.length := by simpa using hk
      have := ih h.2 hk'
      simp only [delRows, List.take_succ_cons, List.cons_append, List.drop_succ_cons, List.mem_cons, List.getElem_cons_succ] at this ⊢
      rw [this]
      constructor
      · rintro (rfl | hy)
        · exact ⟨.inl rfl, h.1 _ (List.getElem_mem hk')⟩
        · exact ⟨.inr hy.1, hy.2⟩
      · rintro ⟨rfl | hy, hne⟩
        · exact .inl rfl
        · exact .inr ⟨hy, hne⟩
theorem few_many {α : Type} [DecidableEq α] : ∀ {l c : List α}, l.Pairwise (· ≠ ·) → (∀ x ∈ l, x ∈ c) → l.length ≤ c.length := by
  intro l
  induction l with
  | nil => intros; simp
  | cons x l ih =>
    intro c h hc
    rw [List.pairwise_cons] at h
    have hx := hc x (by simp)
    have h1 := ih (c := c.erase x) h.2 (fun y hy => (List.mem_erase_of_ne (fun e => h.1 y hy e.symm)).2 (hc y (by simp [hy])))
    have h2 := List.length_erase_of_mem hx
    have h3 := List.length_pos_of_mem hx
    simp only [List.length_cons]
    omega
def fewT : List ByteArray := emp :: (List.range 9).map (fun j : Nat => strOfNums [97 + Int.ofNat j])
theorem few_some (n : Int) : some_ n ∈ fewT := by
  obtain ⟨j, hj⟩ := Int.eq_ofNat_of_zero_le (picked_lo n 9 (by omega))
  have := picked_hi n 9 (by omega)
  refine List.mem_cons_of_mem _ (List.mem_map.2 ⟨j, List.mem_range.2 (by omega), ?_⟩)
  unfold some_
  rw [hj]
  rfl
theorem few_emp : emp ∈ fewT := List.mem_cons_self ..
/-- What the map beside a set binds. -/
def setF (l : List ByteArray) (t : ByteArray) : Option Value := if t ∈ l then some (.bool true) else none
theorem setF_nil : setF [] = fun _ => none := by funext t; simp [setF]
theorem setF_get (l : List ByteArray) (t : ByteArray) : (setF l t).getD (.bool false) = .bool (decide (t ∈ l)) := by
  unfold setF; by_cases h : t ∈ l <;> simp [h]
theorem setF_some (l : List ByteArray) (t : ByteArray) : (setF l t).isSome = decide (t ∈ l) := by
  unfold setF; by_cases h : t ∈ l <;> simp [h]
structure SetV (v : Va) : Prop where
  may : v = zeroVa ∨ (Good v ∧ v.kind = 5)
  few : ∀ s ∈ v.items, s ∈ fewT
theorem SetV.may' {v : Va} (h : SetV v) : May v := by
  rcases h.may with h | ⟨h, _⟩
  · exact .inl h
  · exact .inr h
theorem set_zero : SetV zeroVa := ⟨.inl rfl, by simp [zeroVa]⟩
theorem SetV.rises {v : Va} (h : SetV v) : risesBy cmpB v.items = true := by
  rcases h.may with rfl | ⟨h, h5⟩
  · rfl
  · exact h.rises.2.2 h5
theorem SetV.room {v : Va} (h : SetV v) : v.items.length ≤ 10 := few_many (c := fewT) (rises_apart h.rises) h.few
theorem SetV.kind {v : Va} (h : SetV v) : v.kind = if v.items.length = 0 then 0 else 5 := by
  rcases h.may with rfl | ⟨h, h5⟩
  · rfl
  · rw [if_neg (by have := (set_forms h h5).2.1; omega), h5]
theorem few_short : ∀ t ∈ fewT, t.size ≤ 20 := by decide +kernel
theorem SetV.short {v : Va} (h : SetV v) : ∀ s ∈ v.items, s.size ≤ 20 := fun s hs => few_short s (h.few s hs)
theorem set_next {l : List ByteArray} (h : risesBy cmpB l = true) (j : Nat) (hj : j + 1 < l.length) : Op.bytesLess (l[j]'(by omega)).toList l[j + 1].toList = true := by
  have := rises_lt (cmp := cmpB) (fun _ _ _ => cmpB_trans) h (Nat.lt_succ_self j) hj
  rw [cmpB_less]; exact decide_eq_true this
/-- One command of a set. -/
theorem set_step {v : Va} {c : Cmd} (h : SetV v) (hc : ccOf c = 0) (hk : c.kind = 11 ∨ c.kind = 12 ∨ c.kind = 13) (ht : c.text ∈ fewT) :
    (doneVal v c).2.2 = 0 ∧ SetV (doneVal v c).1 ∧
    (c.kind = 11 → (doneVal v c).2.1.code = 0 ∧ (doneVal v c).2.1.n = (if c.text ∈ v.items then 0 else 1) ∧
      (fun s => if s = c.text then some (Value.bool true) else setF v.items s) = setF (doneVal v c).1.items ∧ (doneVal v c).1.items.length = if (setF v.items c.text).isSome = true then v.items.length else v.items.length + 1) ∧
    (c.kind ≠ 11 → v.items.length = 0 → (doneVal v c).2.1.code = 5 ∧ (doneVal v c).1.items = []) ∧
    (c.kind ≠ 11 → v.items.length ≠ 0 → (doneVal v c).2.1.code = 0 ∧ (doneVal v c).2.1.n = (if c.text ∈ v.items then 1 else 0)) ∧
    (c.kind = 12 → v.items.length ≠ 0 → (fun s => if s = c.text then none else setF v.items s) = setF (doneVal v c).1.items ∧ (doneVal v c).1.items.length = if (setF v.items c.text).isSome = true then v.items.length - 1 else v.items.length) ∧
    (c.kind = 13 → (doneVal v c).1.items = v.items) := by
  have hroom := h.room
  have hrise := h.rises
  have hsz := h.may
  have hfew := h.few
  have hmay := done_may h.may' c
  have hti := textHas_iff (t := c.text) hrise
  rw [setF_some]
  rcases h.may with rfl | ⟨hg, h5⟩
  · rcases hk with hk | hk
    · rw [done_sadd0 hc hk] at hmay ⊢
      refine ⟨by first | rfl | trivial, ⟨.inr ⟨hmay.resolve_left (by intro e; injection e with e; cases e), rfl⟩, by intro s hs; simp only [List.mem_singleton] at hs; rw [hs]; exact ht⟩, fun _ => ⟨by first | rfl | trivial, by simp [toldR, zeroVa], ?_, by simp [zeroVa]⟩, fun e => absurd hk e, fun e => absurd hk e, fun e => by omega, fun e => by omega⟩
      funext s
      simp [setF, zeroVa]
    · have hm : makesC c.kind = false := by rcases hk with hk | hk <;> rw [hk] <;> rfl
      rw [done_none hc (by omega) hm]
      exact ⟨by first | rfl | trivial, set_zero, fun e => by omega, fun _ _ => ⟨rfl, rfl⟩, fun _ e => absurd rfl e, fun _ e => absurd rfl e, fun _ => by first | rfl | trivial⟩
  · have hne := (set_forms hg h5).2.1
    rcases hk with hk | hk | hk
    · rw [done_sadd hg h5 hc hk] at hmay ⊢
      by_cases hp : textHas c.text v.items = true
      · have hin := hti.1 hp
        simp only [if_pos hp] at hmay ⊢
        refine ⟨by first | rfl | trivial, h, fun _ => ⟨by first | rfl | trivial, by rw [if_pos hin]; rfl, ?_, by simp [hin]⟩, fun e => absurd hk e, fun e => absurd hk e, fun e => by omega, fun _ => by first | rfl | trivial⟩
        funext s
        by_cases hs : s = c.text
        · rw [if_pos hs, hs]; simp [setF, hin]
        · rw [if_neg hs]
      · have hin : ¬ c.text ∈ v.items := fun e => hp (hti.2 e)
        simp only [if_neg hp, if_neg (show ¬ v.items.length = 20 by omega)] at hmay ⊢
        refine ⟨by first | rfl | trivial, ⟨.inr ⟨hmay.resolve_left (fun e => by injection e with e; omega), h5⟩, ?_⟩, fun _ => ⟨by first | rfl | trivial, by rw [if_neg hin]; rfl, ?_, by simp [hin, ins_len']⟩, fun e => absurd hk e, fun e => absurd hk e, fun e => by omega, fun e => by omega⟩
        · intro s hs
          rcases mem_ins.1 hs with rfl | hs
          · exact ht
          · exact hfew s hs
        · funext s
          unfold setF
          by_cases hs : s = c.text
          · rw [if_pos hs, if_pos (mem_ins.2 (.inl hs))]
          · rw [if_neg hs]
            by_cases hm : s ∈ v.items
            · rw [if_pos hm, if_pos (mem_ins.2 (.inr hm))]
            · rw [if_neg hm, if_neg (fun e => (mem_ins.1 e).elim hs hm)]
    · rw [done_srem hg h5 hc hk] at hmay ⊢
      by_cases hp : textHas c.text v.items = true
      · have hin := hti.1 hp
        have hdl : (delRows v.items (textAt c.text v.items)).length = v.items.length - 1 := del_len' v.items (textHas_lt hp)
        have hmem : ∀ s, s ∈ delRows v.items (textAt c.text v.items) ↔ s ∈ v.items ∧ s ≠ c.text := fun s => by
          rw [mem_del_ne (rises_apart hrise) (textHas_lt hp), textHas_at hp]
        have hfun : (fun s => if s = c.text then none else setF v.items s) = setF (delRows v.items (textAt c.text v.items)) := by
          funext s
          unfold setF
          by_cases hs : s = c.text
          · rw [if_pos hs, if_neg (fun e => ((hmem s).1 e).2 hs)]
          · rw [if_neg hs]
            by_cases hm : s ∈ v.items
            · rw [if_pos hm, if_pos ((hmem s).2 ⟨hm, hs⟩)]
            · rw [if_neg hm, if_neg (fun e => hm ((hmem s).1 e).1)]
        simp only [if_pos hp] at hmay ⊢
        by_cases h1 : v.items.length = 1
        · simp only [if_pos h1] at hmay ⊢
          have hnil : delRows v.items (textAt c.text v.items) = [] := List.eq_nil_of_length_eq_zero (by omega)
          rw [hnil] at hfun
          exact ⟨by first | rfl | trivial, set_zero, fun e => by omega, fun _ e => by omega, fun _ _ => ⟨by first | rfl | trivial, by rw [if_pos hin]; rfl⟩, fun _ _ => ⟨hfun, by simp [hin, zeroVa, h1]⟩, fun e => by omega⟩
        · simp only [if_neg h1] at hmay ⊢
          refine ⟨by first | rfl | trivial, ⟨.inr ⟨hmay.resolve_left (fun e => by injection e with e; omega), h5⟩, ?_⟩, fun e => by omega, fun _ e => by omega, fun _ _ => ⟨by first | rfl | trivial, by rw [if_pos hin]; rfl⟩, fun _ _ => ⟨hfun, by simp [hin, hdl]⟩, fun e => by omega⟩
          exact fun s hs => hfew s ((hmem s).1 hs).1
      · have hin : ¬ c.text ∈ v.items := fun e => hp (hti.2 e)
        simp only [if_neg hp] at hmay ⊢
        refine ⟨by first | rfl | trivial, h, fun e => by omega, fun _ e => by omega, fun _ _ => ⟨by first | rfl | trivial, by rw [if_neg hin]; rfl⟩, fun _ _ => ⟨?_, by simp [hin]⟩, fun e => by omega⟩
        funext s
        by_cases hs : s = c.text
        · rw [if_pos hs, hs]; simp [setF, hin]
        · rw [if_neg hs]
    · rw [done_shas hg h5 hc hk]
      refine ⟨by first | rfl | trivial, h, fun e => by omega, fun _ e => by omega, fun _ _ => ⟨by first | rfl | trivial, ?_⟩, fun e => by omega, fun _ => by first | rfl | trivial⟩
      by_cases hin : c.text ∈ v.items
      · rw [if_pos hin]; simp [toldR, hti.2 hin, flagI]
      · rw [if_neg hin]
        have : textHas c.text v.items = false := by cases hb : textHas c.text v.items with | false => rfl | true => exact absurd (hti.1 hb) hin
        simp [toldR, this, flagI]
end Go.Proofs.Ytcelcanfdalliaa
