/- A value that is filled: plain facts. No walk. -/
import Derived.Test.YtcelcanfdalliaaDonQ
namespace Go.Proofs.Ytcelcanfdalliaa
set_option linter.all false
open Go.RowKit
def tx (i : Nat) : ByteArray := strOfNums [97 + ((i % 26 : Nat) : Int), 97 + ((i / 26 : Nat) : Int)]
theorem tx_size (i : Nat) : (tx i).size = 2 := by simp [tx, strOfNums_size]
theorem tx_apart : ∀ i < 40, ∀ j < i, tx j ≠ tx i := by decide +kernel
def fullC (p : Int) (i : Nat) : Cmd :=
  { kind := makeK (2 + p), key := some_ 0, field := if p = 0 then tx i else emp, text := tx i, n := if p = 3 then -6 else 0 }
theorem fullC_cc {p : Int} (h0 : 0 ≤ p) (h1 : p < 4) (i : Nat) : ccOf (fullC p i) = 0 := by
  have hs := tx_size i
  have hy := some_size 0
  have hp : p = 0 ∨ p = 1 ∨ p = 2 ∨ p = 3 := by omega
  unfold ccOf checkCommand fullC
  rcases hp with rfl | rfl | rfl | rfl <;> simp [makeK, bare, cmdKey, cmdField, cmdText, cmdN, emp_list, fieldOk, textOk, countOk, hs, hy]
structure FullV (p : Int) (i : Nat) (v : Va) : Prop where
  may : (i = 0 ∧ v = zeroVa) ∨ (1 ≤ i ∧ Good v ∧ v.kind = 3 + p)
  size : v.size = min i 20
  hp : ∀ x ∈ v.pairs, ∃ j, j < i ∧ x.field = tx j
  hi : ∀ s ∈ v.items, ∃ j, j < i ∧ s = tx j
  hm : ∀ x ∈ v.scores, ∃ j, j < i ∧ x.member = tx j
theorem full_zero (p : Int) : FullV p 0 zeroVa := ⟨.inl ⟨rfl, rfl⟩, rfl, by simp [zeroVa], by simp [zeroVa], by simp [zeroVa]⟩
theorem FullV.may' {p : Int} {i : Nat} {v : Va} (h : FullV p i v) : May v := by
  rcases h.may with ⟨_, h⟩ | ⟨_, h, _⟩
  · exact .inl h
  · exact .inr h
theorem pairHas_no {f : ByteArray} {l : List Pr} (h : ∀ x ∈ l, x.field ≠ f) : pairHas f l = false := by
  cases hp : pairHas f l with
  | false => rfl
  | true => exact absurd (pairHas_eq hp) (h _ (List.getElem_mem (pairHas_lt hp)))
theorem textHas_no {f : ByteArray} {l : List ByteArray} (h : ∀ x ∈ l, x ≠ f) : textHas f l = false := by
  cases hp : textHas f l with
  | false => rfl
  | true =>
    have hlt := textHas_lt hp
    have h2 := hp
    unfold textHas at h2
    rw [foundAt_lt hlt] at h2
    exact absurd (cmpB_eq.1 (by simpa using h2)) (h _ (List.getElem_mem hlt))
theorem memberAt_no {m : ByteArray} {l : List Sc} (h : ∀ x ∈ l, x.member ≠ m) : memberAt m l = none := by
  unfold memberAt
  rw [List.findIdx?_eq_none_iff]
  intro x hx
  cases he : (x.member.toList == m.toList) with
  | false => rfl
  | true => exact absurd (eqb_iff.1 he) (h x hx)
/-- One element more, or no room. -/
theorem full_step {p : Int} (h0 : 0 ≤ p) (h1 : p < 4) {i : Nat} (hi : i < 40) {v : Va} (h : FullV p i v) :
    (doneVal v (fullC p i)).2.2 = 0 ∧ (i < 20 → (doneVal v (fullC p i)).2.1.code = 0) ∧ (20 ≤ i → (doneVal v (fullC p i)).2.1.code = 6) ∧ FullV p (i + 1) (doneVal v (fullC p i)).1 := by
  have hc := fullC_cc h0 h1 i
  have hne : ∀ j, j < i → tx j ≠ tx i := tx_apart i hi
  have hmay := h.may'
  have hmk : makesC (fullC p i).kind = true ∧ (if (fullC p i).kind = 1 then 1 else kindC (fullC p i).kind) = 3 + p := by
    have hp : p = 0 ∨ p = 1 ∨ p = 2 ∨ p = 3 := by omega
    rcases hp with rfl | rfl | rfl | rfl <;> exact ⟨rfl, rfl⟩
  obtain ⟨s1, s2, s3⟩ := make_step (v := v) (c := fullC p i) (by
    rw [hmk.2]
    rcases h.may with ⟨_, h⟩ | ⟨_, h, h'⟩
    · exact .inl h
    · exact .inr ⟨h, h'⟩) hc hmk.1
  rw [hmk.2] at s3
  have up : ∀ {j : Nat}, j < i → j < i + 1 := fun h => by omega
  have key : ((doneVal v (fullC p i)).2.1.code = (if i < 20 then 0 else 6)) ∧ (doneVal v (fullC p i)).1.size = min (i + 1) 20 ∧
      (∀ x ∈ (doneVal v (fullC p i)).1.pairs, ∃ j, j < i + 1 ∧ x.field = tx j) ∧ (∀ s ∈ (doneVal v (fullC p i)).1.items, ∃ j, j < i + 1 ∧ s = tx j) ∧ (∀ x ∈ (doneVal v (fullC p i)).1.scores, ∃ j, j < i + 1 ∧ x.member = tx j) := by
    have hp : p = 0 ∨ p = 1 ∨ p = 2 ∨ p = 3 := by omega
    have self : ∃ j, j < i + 1 ∧ tx i = tx j := ⟨i, by omega, rfl⟩
    have kp : ∀ x ∈ v.pairs, ∃ j, j < i + 1 ∧ x.field = tx j := fun x hx => by obtain ⟨j, a, b⟩ := h.hp x hx; exact ⟨j, up a, b⟩
    have ki : ∀ x ∈ v.items, ∃ j, j < i + 1 ∧ x = tx j := fun x hx => by obtain ⟨j, a, b⟩ := h.hi x hx; exact ⟨j, up a, b⟩
    have km : ∀ x ∈ v.scores, ∃ j, j < i + 1 ∧ x.member = tx j := fun x hx => by obtain ⟨j, a, b⟩ := h.hm x hx; exact ⟨j, up a, b⟩
    have hsz := h.size
    rcases h.may with ⟨rfl, rfl⟩ | ⟨hi1, hg, hgk⟩
    · rcases hp with rfl | rfl | rfl | rfl
      · rw [done_hset0 hc rfl]
        exact ⟨rfl, rfl, by intro x hx; simp only [List.mem_singleton] at hx; subst hx; exact self, by simp, by simp⟩
      · rw [done_list0 hc (.inl rfl)]
        exact ⟨rfl, rfl, by simp, by intro x hx; simp only [List.mem_singleton] at hx; subst hx; exact self, by simp⟩
      · rw [done_sadd0 hc rfl]
        exact ⟨rfl, rfl, by simp, by intro x hx; simp only [List.mem_singleton] at hx; subst hx; exact self, by simp⟩
      · rw [done_zadd0 hc rfl]
        exact ⟨rfl, rfl, by simp, by simp, by intro x hx; simp only [List.mem_singleton] at hx; subst hx; exact self⟩
    · rcases hp with rfl | rfl | rfl | rfl
      · have hf := hash_forms hg hgk
        have hno : pairHas (tx i) v.pairs = false := pairHas_no fun x hx he => by obtain ⟨j, a, b⟩ := h.hp x hx; exact hne j a (b.symm.trans he)
        have e := done_hset hg hgk hc rfl
        have hfld : (fullC 0 i).field = tx i := rfl
        rw [hfld, hno] at e
        simp only [Bool.false_eq_true, if_false] at e
        by_cases h20 : v.pairs.length = 20
        · rw [if_pos h20] at e
          rw [e]
          exact ⟨by rw [if_neg (by omega)]; rfl, by show v.size = _; omega, kp, ki, km⟩
        · rw [if_neg h20] at e
          rw [e]
          refine ⟨by rw [if_pos (by omega)]; rfl, ?_, ?_, ki, km⟩
          · have : v.size = v.pairs.length + v.items.length + v.scores.length := rfl
            unfold Va.size; simp only [ins_len']; omega
          · intro x hx
            rcases mem_ins.1 hx with rfl | hx
            · exact self
            · exact kp x hx
      · have hl := list_size hg hgk
        have hsl : v.size = v.items.length := by
          obtain ⟨_, _, f3, f4, f5⟩ := hg.forms
          unfold Va.size; omega
        by_cases h20 : v.items.length = 20
        · rw [done_pfull hg hgk h20 hc (.inl rfl)]
          exact ⟨by rw [if_neg (by omega)]; rfl, by show v.size = _; omega, kp, ki, km⟩
        · rw [done_push hg hgk (by omega) hc rfl]
          refine ⟨by rw [if_pos (by omega)]; rfl, ?_, kp, ?_, km⟩
          · have : v.size = v.pairs.length + v.items.length + v.scores.length := rfl
            unfold Va.size; simp only [List.length_append, List.length_singleton]; omega
          · intro x hx
            rcases List.mem_append.1 hx with hx | hx
            · exact ki x hx
            · simp only [List.mem_singleton] at hx; subst hx; exact self
      · have hf := set_forms hg hgk
        have hno : textHas (tx i) v.items = false := textHas_no fun x hx he => by obtain ⟨j, a, b⟩ := h.hi x hx; exact hne j a (b.symm.trans he)
        have e := done_sadd hg hgk hc rfl
        have hfld : (fullC 2 i).text = tx i := rfl
        rw [hfld, hno] at e
        simp only [Bool.false_eq_true, if_false] at e
        by_cases h20 : v.items.length = 20
        · rw [if_pos h20] at e
          rw [e]
          exact ⟨by rw [if_neg (by omega)]; rfl, by show v.size = _; omega, kp, ki, km⟩
        · rw [if_neg h20] at e
          rw [e]
          refine ⟨by rw [if_pos (by omega)]; rfl, ?_, kp, ?_, km⟩
          · have : v.size = v.pairs.length + v.items.length + v.scores.length := rfl
            unfold Va.size; simp only [ins_len']; omega
          · intro x hx
            rcases mem_ins.1 hx with rfl | hx
            · exact self
            · exact ki x hx
      · have hf := rank_forms hg hgk
        have hno : memberAt (tx i) v.scores = none := memberAt_no fun x hx he => by obtain ⟨j, a, b⟩ := h.hm x hx; exact hne j a (b.symm.trans he)
        have e := done_zadd hg hgk hc rfl
        have hfld : (fullC 3 i).text = tx i := rfl
        rw [hfld, hno] at e
        simp only at e
        by_cases h20 : v.scores.length = 20
        · rw [if_pos h20] at e
          rw [e]
          exact ⟨by rw [if_neg (by omega)]; rfl, by show v.size = _; omega, kp, ki, km⟩
        · rw [if_neg h20] at e
          rw [e]
          refine ⟨by rw [if_pos (by omega)]; rfl, ?_, kp, ki, ?_⟩
          · have : v.size = v.pairs.length + v.items.length + v.scores.length := rfl
            unfold Va.size; simp only [put_len]; omega
          · intro x hx
            rcases mem_put hx with rfl | hx
            · exact self
            · exact km x hx
  obtain ⟨k1, k2, k3, k4, k5⟩ := key
  exact ⟨s1, fun h => by rw [k1, if_pos h], fun h => by rw [k1, if_neg (by omega)], .inr ⟨by omega, s2, s3⟩, k2, k3, k4, k5⟩
theorem full_maker {p : Int} (h0 : 0 ≤ p) (h1 : p < 4) : makerC (2 + p) ⟨0, 0, 0, 0, emp⟩ = ⟨makeK (2 + p), some_ 0, if p = 0 then some_ 0 else emp, some_ 0, if p = 3 then -6 else 0⟩ := by
  have hp : p = 0 ∨ p = 1 ∨ p = 2 ∨ p = 3 := by omega
  rcases hp with rfl | rfl | rfl | rfl <;> rfl
end Go.Proofs.Ytcelcanfdalliaa
