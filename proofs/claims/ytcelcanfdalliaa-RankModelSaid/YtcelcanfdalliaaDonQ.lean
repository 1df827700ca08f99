/- Commands one by one, told of values that may be: plain facts. No walk. -/
import Derived.Test.YtcelcanfdalliaaValsP
namespace Go.Proofs.Ytcelcanfdalliaa
set_option linter.all false
open Go.RowKit
theorem emp_of_size {s : ByteArray} (h : s.size = 0) : s = emp := bytes_ext (by
  have : s.data.toList.length = 0 := by rw [Array.length_toList]; exact h
  rw [List.eq_nil_of_length_eq_zero this]; rfl)
/-- A command with the key "k" that has what its kind has. -/
theorem cc_lit {k : Int} {f t : ByteArray} {n : Int} (h1 : 1 ≤ k) (h2 : k ≤ 21) (hf : if cmdField k = true then 1 ≤ f.size ∧ f.size ≤ 12 else f = emp) (ht : if cmdText k = true then t.size ≤ 20 else t = emp)
    (hn : if cmdN k = true then -1099511627776 ≤ n ∧ n ≤ 1099511627776 else n = 0) : ccOf ⟨k, { data := #[107] }, f, t, n⟩ = 0 := by
  have hkey : cmdKey k = true := by unfold cmdKey; rw [Bool.not_eq_true', beq_eq_false_iff_ne]; omega
  have hb : bare k { data := #[107] } f t n = true := by
    unfold bare
    rw [hkey]
    simp only [Bool.true_or, Bool.true_and, Bool.and_eq_true, Bool.or_eq_true]
    refine ⟨⟨?_, ?_⟩, ?_⟩
    · by_cases h : cmdField k = true
      · exact .inl h
      · rw [if_neg h] at hf; subst hf; exact .inr (by rw [emp_list]; rfl)
    · by_cases h : cmdText k = true
      · exact .inl h
      · rw [if_neg h] at ht; subst ht; exact .inr (by rw [emp_list]; rfl)
    · by_cases h : cmdN k = true
      · exact .inl h
      · rw [if_neg h] at hn; subst hn; exact .inr rfl
  have htt : textOk t = true := by
    rw [textOk_iff]
    split at ht
    · exact ht
    · rw [ht]; exact Nat.zero_le _
  have hff : cmdField k = true → fieldOk f = true := fun h => by rw [if_pos h] at hf; exact fieldOk_iff.2 hf
  have hnn : countOk n = true := by
    rw [countOk_iff]
    split at hn
    · exact hn
    · omega
  unfold ccOf checkCommand
  simp only
  rw [if_neg (by omega), if_neg (by rw [hb]; simp), if_neg, if_neg (by rw [hnn]; simp)]
  rintro (⟨_, h⟩ | ⟨h, h'⟩ | h)
  · exact absurd h (by decide)
  · rw [hff h] at h'; cases h'
  · rw [htt] at h; cases h
section
variable {v : Va} {c : Cmd}
theorem done_put (h : May v) (hc : ccOf c = 0) (hk : c.kind = 1) : doneVal v c = (⟨1, c.text, 0, [], [], []⟩, toldR 0, 0) := by
  rcases h with rfl | h
  · rw [done_zero hc (by omega), if_neg (by rw [hk]; decide), doVal_put hk, behind_ok rfl (by simp)]
  · rw [done_some h hc (by omega), if_neg (by rw [wrong_put hk]; simp), doVal_put hk, behind_ok rfl (by simp)]
theorem done_get (h : Good v) (hv : v.kind = 1) (hc : ccOf c = 0) (hk : c.kind = 2) : doneVal v c = (v, textR v.text, 0) := by
  rw [done_some h hc (by omega), if_neg (by rw [wrong_not (by rw [hk, hv]; decide) (by omega)]; simp), doVal_get hk, behind_same h]
theorem done_add (h : Good v) (hv : v.kind = 2) (hc : ccOf c = 0) (hk : c.kind = 3) :
    doneVal v c = if countOk (v.count + c.n) = true then ({ v with count := v.count + c.n }, toldR (v.count + c.n), 0) else (v, failR 7, 0) := by
  rw [done_some h hc (by omega), if_neg (by rw [wrong_not (by rw [hk, hv]; decide) (by omega)]; simp), doVal_add hk]
  unfold doAdd
  by_cases ho : countOk (v.count + c.n) = true
  · rw [if_pos ho, if_pos ho, behind_ok rfl (by simp only [hv]; omega)]
  · rw [if_neg ho, if_neg ho, behind_bad (by simp [failR])]
theorem done_add0 (hc : ccOf c = 0) (hk : c.kind = 3) : doneVal zeroVa c = (⟨2, emp, c.n, [], [], []⟩, toldR c.n, 0) := by
  have hn := (cc_fit hc).n
  rw [done_zero hc (by omega), if_neg (by rw [hk]; decide), doVal_add hk]
  unfold doAdd
  have e : ({ zeroVa with kind := kindC c.kind } : Va).count + c.n = c.n := by simp [zeroVa]
  have ho : countOk c.n = true := countOk_iff.2 hn
  rw [e, if_pos ho, hk, behind_ok rfl (by simp [kindC])]
  rfl
theorem done_len (h : Good v) (hv : 3 ≤ v.kind) (hc : ccOf c = 0) (hk : c.kind = 17) : doneVal v c = (v, toldR v.size, 0) := by
  rw [done_some h hc (by omega), if_neg (by rw [wrong_look (.inl hk) hv]; simp), doVal_len hk, behind_same h]
theorem done_all (h : Good v) (hv : 3 ≤ v.kind) (hc : ccOf c = 0) (hk : c.kind = 18) : doneVal v c = (v, ⟨0, emp, 0, allOf v⟩, 0) := by
  rw [done_some h hc (by omega), if_neg (by rw [wrong_look (.inr hk) hv]; simp), doVal_all hk, behind_same h]
theorem done_wrong (h : Good v) (hc : ccOf c = 0) (hk : c.kind ≤ 18) (hw : wrongKind v c = true) : doneVal v c = (v, failR 4, 0) := by rw [done_some h hc hk, if_pos hw]
theorem done_right (h : Good v) (hc : ccOf c = 0) (hk : c.kind ≤ 18) (hw : wrongKind v c = false) : doneVal v c = ((behind v (doVal v c)).1, (behind v (doVal v c)).2, 0) := by rw [done_some h hc hk, if_neg (by simp [hw])]
theorem done_none (hc : ccOf c = 0) (hk : c.kind ≤ 18) (hm : makesC c.kind = false) : doneVal zeroVa c = (zeroVa, failR 5, 0) := by rw [done_zero hc hk, if_pos hm]
theorem done_made (hc : ccOf c = 0) (hm : makesC c.kind = true) : (doneVal zeroVa c).2.2 = 0 ∧ Good (doneVal zeroVa c).1 ∧ (doneVal zeroVa c).2.1.code = 0 := by
  obtain ⟨a, b, _⟩ := make_step (.inl rfl) hc hm
  have hk : c.kind ≤ 18 := by
    unfold makesC at hm
    simp only [Bool.or_eq_true, beq_iff_eq] at hm
    omega
  refine ⟨a, b, ?_⟩
  rw [done_zero hc hk, if_neg (by simp [hm])]
  have q := make_first hm (cc_fit hc).n
  show (behind zeroVa _).2.code = 0
  unfold behind
  rw [if_neg (by simpa using q)]
  split <;> exact q
def Coded (r : Re) : Prop := r.code = 0 ∨ ∃ k, r = failR k ∧ (k = 5 ∨ k = 6 ∨ k = 7)
theorem Coded.ok {r : Re} (h : r.code = 0) : Coded r := .inl h
theorem Coded.no {k : Int} (h : k = 5 ∨ k = 6 ∨ k = 7) : Coded (failR k) := .inr ⟨k, rfl, h⟩
/-- What a command tells: it is done, or why not. -/
theorem doVal_code (v : Va) (c : Cmd) : Coded (doVal v c).2 := by
  unfold doVal
  split
  · exact .ok rfl
  split
  · exact .ok rfl
  split
  · unfold doAdd; split <;> first | exact .ok rfl | exact .no (by omega)
  split
  · exact .ok rfl
  split
  · exact .ok rfl
  split
  · unfold doHash; (repeat' split) <;> first | exact .ok rfl | exact .no (by omega)
  split
  · unfold doList; (repeat' split) <;> first | exact .ok rfl | exact .no (by omega)
  split
  · unfold doSet; (repeat' split) <;> first | exact .ok rfl | exact .no (by omega)
  · unfold doRank; (repeat' split) <;> first | exact .ok rfl | exact .no (by omega)
theorem behind_re (v : Va) (r : Va × Re) : (behind v r).2 = r.2 := by unfold behind; (repeat' split) <;> rfl
theorem behind_kept {v : Va} {r : Va × Re} (h : r.2.code ≠ 0) : (behind v r).1 = v := by rw [behind_bad h]
/-- A value that may be, and what is done with it: refused for its kind; done; or refused and kept. -/
theorem done_ways (h : Good v) (hc : ccOf c = 0) (hk : c.kind ≤ 18) :
    (wrongKind v c = true ∧ doneVal v c = (v, failR 4, 0)) ∨ (wrongKind v c = false ∧ (doneVal v c).2.2 = 0 ∧ ((doneVal v c).2.1.code = 0 ∨ ∃ k, doneVal v c = (v, failR k, 0) ∧ (k = 5 ∨ k = 6 ∨ k = 7))) := by
  cases hw : wrongKind v c with
  | true => exact .inl ⟨rfl, done_wrong h hc hk hw⟩
  | false =>
    refine .inr ⟨rfl, ?_⟩
    rw [done_right h hc hk hw]
    refine ⟨rfl, ?_⟩
    rcases doVal_code v c with h0 | ⟨k, h1, h2⟩
    · exact .inl (by show (behind v _).2.code = 0; rw [behind_re]; exact h0)
    · refine .inr ⟨k, ?_, h2⟩
      have hne : (doVal v c).2.code ≠ 0 := by rw [h1]; simp only [failR]; omega
      rw [behind_bad hne, h1]
end
theorem allOf_length (v : Va) : (allOf v).length = v.size := by unfold allOf Va.size; simp; omega
/-- Kinds from three on. -/
theorem kindV_two {p : Int} (h0 : 0 ≤ p) (h1 : p < 4) : kindV (2 + p) = 3 + p := by unfold kindV; rw [picked_self (by omega) (by omega)]; omega
end Go.Proofs.Ytcelcanfdalliaa
