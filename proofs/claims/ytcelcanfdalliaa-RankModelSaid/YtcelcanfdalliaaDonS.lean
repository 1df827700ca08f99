/- Hashes, sets, ranks: plain facts. No walk. -/
import Derived.Test.YtcelcanfdalliaaDonR
namespace Go.Proofs.Ytcelcanfdalliaa
set_option linter.all false
open Go.RowKit
section
variable {v : Va} {c : Cmd}
theorem zero_with (k : Int) : ({ zeroVa with kind := k } : Va) = ⟨k, emp, 0, [], [], []⟩ := rfl
theorem hash_forms (h : Good v) (hv : v.kind = 3) : v.size = v.pairs.length ∧ 1 ≤ v.pairs.length ∧ v.pairs.length ≤ 20 := by
  have hs := good_size h (by omega)
  obtain ⟨_, _, f3, f4, f5⟩ := h.forms
  have := h.sizes
  unfold Va.size at hs ⊢
  omega
theorem set_forms (h : Good v) (hv : v.kind = 5) : v.size = v.items.length ∧ 1 ≤ v.items.length ∧ v.items.length ≤ 20 := by
  have hs := good_size h (by omega)
  obtain ⟨_, _, f3, f4, f5⟩ := h.forms
  have := h.sizes
  unfold Va.size at hs ⊢
  omega
theorem rank_forms (h : Good v) (hv : v.kind = 6) : v.size = v.scores.length ∧ 1 ≤ v.scores.length ∧ v.scores.length ≤ 20 := by
  have hs := good_size h (by omega)
  obtain ⟨_, _, f3, f4, f5⟩ := h.forms
  have := h.sizes
  unfold Va.size at hs ⊢
  omega
theorem done_hset (h : Good v) (hv : v.kind = 3) (hc : ccOf c = 0) (hk : c.kind = 4) : doneVal v c =
    if pairHas c.field v.pairs = true then ({ v with pairs := v.pairs.set (pairAt c.field v.pairs) ⟨c.field, c.text⟩ }, toldR 0, 0)
    else if v.pairs.length = 20 then (v, failR 6, 0) else ({ v with pairs := insRows v.pairs (pairAt c.field v.pairs) ⟨c.field, c.text⟩ }, toldR 1, 0) := by
  have hf := hash_forms h hv
  unfold Va.size at hf
  rw [done_right h hc (by omega) (wrong_not (by rw [hk, hv]; decide) (by omega)), doVal_hash (by omega) hv]
  unfold doHash
  rw [if_pos hk]
  by_cases hp : pairHas c.field v.pairs = true
  · rw [if_pos hp, if_pos hp, behind_ok rfl (fun _ => by unfold Va.size; simp only [List.length_set]; omega)]
  · rw [if_neg hp, if_neg hp]
    by_cases h20 : v.pairs.length = 20
    · rw [if_pos h20, if_pos h20, behind_bad (by simp [failR])]
    · rw [if_neg h20, if_neg h20, behind_ok rfl (fun _ => by unfold Va.size; simp only [ins_len']; omega)]
theorem done_hget (h : Good v) (hv : v.kind = 3) (hc : ccOf c = 0) (hk : c.kind = 5) : doneVal v c =
    if pairHas c.field v.pairs = true then (v, textR (pairText v.pairs (pairAt c.field v.pairs)), 0) else (v, failR 5, 0) := by
  rw [done_right h hc (by omega) (wrong_not (by rw [hk, hv]; decide) (by omega)), doVal_hash (by omega) hv]
  unfold doHash
  rw [if_neg (by omega), if_pos hk]
  by_cases hp : pairHas c.field v.pairs = true
  · rw [if_pos hp, if_pos hp, behind_same h]
  · rw [if_neg hp, if_neg hp, behind_same h]
theorem done_hdel (h : Good v) (hv : v.kind = 3) (hc : ccOf c = 0) (hk : c.kind = 6) : doneVal v c =
    if pairHas c.field v.pairs = true then (if v.pairs.length = 1 then zeroVa else { v with pairs := delRows v.pairs (pairAt c.field v.pairs) }, toldR 1, 0) else (v, toldR 0, 0) := by
  have hf := hash_forms h hv
  unfold Va.size at hf
  rw [done_right h hc (by omega) (wrong_not (by rw [hk, hv]; decide) (by omega)), doVal_hash (by omega) hv]
  unfold doHash
  rw [if_neg (by omega), if_neg (by omega)]
  by_cases hp : pairHas c.field v.pairs = true
  · rw [if_pos hp, if_pos hp]
    have hl := del_len' v.pairs (pairHas_lt hp)
    by_cases h1 : v.pairs.length = 1
    · rw [if_pos h1, behind_gone rfl (by simp only [hv]; omega) (by unfold Va.size; simp only [hl]; omega)]
    · rw [if_neg h1, behind_ok rfl (fun _ => by unfold Va.size; simp only [hl]; omega)]
  · rw [if_neg hp, if_neg hp, behind_same h]
theorem done_hset0 (hc : ccOf c = 0) (hk : c.kind = 4) : doneVal zeroVa c = (⟨3, emp, 0, [⟨c.field, c.text⟩], [], []⟩, toldR 1, 0) := by
  rw [done_zero hc (by omega), if_neg (by rw [hk]; decide), doVal_hash (by omega) (kindC_hash (by omega)), zero_with, kindC_hash (by omega)]
  unfold doHash
  rw [if_pos hk, if_neg (by simp [pairHas, foundAt]), if_neg (by simp), behind_ok rfl (fun _ => by unfold Va.size; simp only [ins_len']; omega)]
  simp [insRows]
theorem done_sadd (h : Good v) (hv : v.kind = 5) (hc : ccOf c = 0) (hk : c.kind = 11) : doneVal v c =
    if textHas c.text v.items = true then (v, toldR 0, 0)
    else if v.items.length = 20 then (v, failR 6, 0) else ({ v with items := insRows v.items (textAt c.text v.items) c.text }, toldR 1, 0) := by
  rw [done_right h hc (by omega) (wrong_not (by rw [hk, hv]; decide) (by omega)), doVal_set (by omega) hv]
  unfold doSet
  rw [if_pos hk]
  by_cases hp : textHas c.text v.items = true
  · rw [if_pos hp, if_pos hp, behind_same h]
  · rw [if_neg hp, if_neg hp]
    by_cases h20 : v.items.length = 20
    · rw [if_pos h20, if_pos h20, behind_bad (by simp [failR])]
    · rw [if_neg h20, if_neg h20, behind_ok rfl (fun _ => by unfold Va.size; simp only [ins_len']; omega)]
theorem done_srem (h : Good v) (hv : v.kind = 5) (hc : ccOf c = 0) (hk : c.kind = 12) : doneVal v c =
    if textHas c.text v.items = true then (if v.items.length = 1 then zeroVa else { v with items := delRows v.items (textAt c.text v.items) }, toldR 1, 0) else (v, toldR 0, 0) := by
  have hf := set_forms h hv
  unfold Va.size at hf
  rw [done_right h hc (by omega) (wrong_not (by rw [hk, hv]; decide) (by omega)), doVal_set (by omega) hv]
  unfold doSet
  rw [if_neg (by omega), if_pos hk]
  by_cases hp : textHas c.text v.items = true
  · rw [if_pos hp, if_pos hp]
    have hl := del_len' v.items (textHas_lt hp)
    by_cases h1 : v.items.length = 1
    · rw [if_pos h1, behind_gone rfl (by simp only [hv]; omega) (by unfold Va.size; simp only [hl]; omega)]
    · rw [if_neg h1, behind_ok rfl (fun _ => by unfold Va.size; simp only [hl]; omega)]
  · rw [if_neg hp, if_neg hp, behind_same h]
theorem done_shas (h : Good v) (hv : v.kind = 5) (hc : ccOf c = 0) (hk : c.kind = 13) : doneVal v c = (v, toldR (flagI (textHas c.text v.items)), 0) := by
  rw [done_right h hc (by omega) (wrong_not (by rw [hk, hv]; decide) (by omega)), doVal_set (by omega) hv]
  unfold doSet
  rw [if_neg (by omega), if_neg (by omega), behind_same h]
theorem done_sadd0 (hc : ccOf c = 0) (hk : c.kind = 11) : doneVal zeroVa c = (⟨5, emp, 0, [], [c.text], []⟩, toldR 1, 0) := by
  rw [done_zero hc (by omega), if_neg (by rw [hk]; decide), doVal_set (by omega) (kindC_set (by omega)), zero_with, kindC_set (by omega)]
  unfold doSet
  rw [if_pos hk, if_neg (by simp [textHas, foundAt]), if_neg (by simp), behind_ok rfl (fun _ => by unfold Va.size; simp only [ins_len']; omega)]
  simp [insRows]
theorem done_list0 (hc : ccOf c = 0) (hk : c.kind = 7 ∨ c.kind = 8) : doneVal zeroVa c = (⟨4, emp, 0, [], [c.text], []⟩, toldR 1, 0) := by
  have hm : makesC c.kind = true := by rcases hk with h | h <;> rw [h] <;> decide
  rw [done_zero hc (by omega), if_neg (by simp [hm]), doVal_list (by omega) (kindC_list (by omega)), zero_with, kindC_list (by omega)]
  unfold doList
  rcases hk with hk | hk
  · rw [if_pos hk, if_neg (by simp), behind_ok rfl (fun _ => by unfold Va.size; simp only [List.length_append, List.length_singleton]; omega)]
    simp
  · rw [if_neg (by omega), if_pos hk, if_neg (by simp), behind_ok rfl (fun _ => by unfold Va.size; simp only [ins_len']; omega)]
    simp [insRows]
theorem done_zadd0 (hc : ccOf c = 0) (hk : c.kind = 14) : doneVal zeroVa c = (⟨6, emp, 0, [], [], [⟨c.text, c.n⟩]⟩, toldR 1, 0) := by
  rw [done_zero hc (by omega), if_neg (by rw [hk]; decide), doVal_rank (by omega) (kindC_rank (by omega)), zero_with, kindC_rank (by omega)]
  unfold doRank
  have hn : memberAt c.text ([] : List Sc) = none := rfl
  simp only [hn]
  rw [if_neg (by omega), if_pos hk, if_neg (by simp), behind_ok rfl (fun _ => by unfold Va.size; simp only [putScore, ins_len']; omega)]
  simp [putScore, insRows]
theorem done_zadd (h : Good v) (hv : v.kind = 6) (hc : ccOf c = 0) (hk : c.kind = 14) : doneVal v c =
    match memberAt c.text v.scores with
    | none => if v.scores.length = 20 then (v, failR 6, 0) else ({ v with scores := putScore v.scores ⟨c.text, c.n⟩ }, toldR 1, 0)
    | some k => ({ v with scores := putScore (delRows v.scores k) ⟨c.text, c.n⟩ }, toldR 0, 0) := by
  rw [done_right h hc (by omega) (wrong_not (by rw [hk, hv]; decide) (by omega)), doVal_rank (by omega) hv]
  unfold doRank
  cases hm : memberAt c.text v.scores with
  | none =>
    simp only
    rw [if_neg (by omega), if_pos hk]
    by_cases h20 : v.scores.length = 20
    · rw [if_pos h20, if_pos h20, behind_bad (by simp [failR])]
    · rw [if_neg h20, if_neg h20, behind_ok rfl (fun _ => by unfold Va.size; simp only [putScore, ins_len']; omega)]
  | some k =>
    simp only
    rw [if_neg (by omega), if_pos hk, behind_ok rfl (fun _ => by unfold Va.size; simp only [putScore, ins_len']; omega)]
theorem done_zrem (h : Good v) (hv : v.kind = 6) (hc : ccOf c = 0) (hk : c.kind = 15) {k : Nat} (hm : memberAt c.text v.scores = some k) : doneVal v c =
    (if v.scores.length = 1 then zeroVa else { v with scores := delRows v.scores k }, toldR 1, 0) := by
  have hf := rank_forms h hv
  unfold Va.size at hf
  rw [done_right h hc (by omega) (wrong_not (by rw [hk, hv]; decide) (by omega)), doVal_rank (by omega) hv]
  unfold doRank
  simp only [hm]
  have hl := del_len' v.scores (memberAt_lt hm)
  rw [if_neg (by omega), if_neg (by omega)]
  by_cases h1 : v.scores.length = 1
  · rw [if_pos h1, behind_gone rfl (by simp only [hv]; omega) (by unfold Va.size; simp only [hl]; omega)]
  · rw [if_neg h1, behind_ok rfl (fun _ => by unfold Va.size; simp only [hl]; omega)]
theorem done_zrank (h : Good v) (hv : v.kind = 6) (hc : ccOf c = 0) (hk : c.kind = 16) : doneVal v c =
    match memberAt c.text v.scores with | none => (v, failR 5, 0) | some k => (v, toldR k, 0) := by
  rw [done_right h hc (by omega) (wrong_not (by rw [hk, hv]; decide) (by omega)), doVal_rank (by omega) hv]
  unfold doRank
  cases hm : memberAt c.text v.scores with
  | none => simp only; rw [if_pos hk, behind_same h]
  | some k => simp only; rw [if_pos hk, behind_same h]
end
theorem pairAt_self (f t : ByteArray) : pairAt f [⟨f, t⟩] = 0 := by unfold pairAt; rw [lowB_cons, cmpB_self]; simp
theorem textAt_self (t : ByteArray) : textAt t [t] = 0 := by unfold textAt; rw [lowB_cons, cmpB_self]; simp
theorem pairHas_self (f t : ByteArray) : pairHas f [⟨f, t⟩] = true := by unfold pairHas; rw [pairAt_self]; simp [foundAt, cmpB_self]
theorem textHas_self (t : ByteArray) : textHas t [t] = true := by unfold textHas; rw [textAt_self]; simp [foundAt, cmpB_self]
theorem memberAt_self (t : ByteArray) (n : Int) : memberAt t [⟨t, n⟩] = some 0 := by unfold memberAt; simp [List.findIdx?_cons]
theorem one_hash {f t : ByteArray} (hf : 1 ≤ f.size ∧ f.size ≤ 12) (ht : t.size ≤ 20) : Good ⟨3, emp, 0, [⟨f, t⟩], [], []⟩ :=
  ok_good ⟨by simp, by simp, .inr rfl, .inr rfl, .inl rfl, .inr (.inr rfl), .inr rfl, by simp, by simp, by simp, Nat.zero_le _, by simp, by intro x hx; simp only [List.mem_singleton] at hx; subst hx; exact ⟨hf, ht⟩, by simp, by simp, by simp, by simp, by simp, by simp, by simp⟩ (fun _ => by simp [Va.size])
theorem one_items {t : ByteArray} {k : Int} (hk : k = 4 ∨ k = 5) (ht : t.size ≤ 20) : Good ⟨k, emp, 0, [], [t], []⟩ :=
  ok_good ⟨by simp; omega, by simp; omega, .inr rfl, .inr rfl, .inr rfl, by simp; omega, .inr rfl, by simp, by simp, by simp, Nat.zero_le _, by intro x hx; simp only [List.mem_singleton] at hx; subst hx; exact ht, by simp, by simp, by simp, by simp, by simp, by simp, by simp, by simp⟩ (fun _ => by simp [Va.size])
theorem one_rank {t : ByteArray} {n : Int} (ht : t.size ≤ 20) (hn : -1099511627776 ≤ n ∧ n ≤ 1099511627776) : Good ⟨6, emp, 0, [], [], [⟨t, n⟩]⟩ :=
  ok_good ⟨by simp, by simp, .inr rfl, .inr rfl, .inr rfl, .inr (.inr rfl), .inl rfl, by simp, by simp, by simp, Nat.zero_le _, by simp, by simp, by intro x hx; simp only [List.mem_singleton] at hx; subst hx; exact ht, by simp, by intro x hx; simp only [List.mem_singleton] at hx; subst hx; exact hn, by simp, by simp, by simp, by simp⟩ (fun _ => by simp [Va.size])
end Go.Proofs.Ytcelcanfdalliaa
