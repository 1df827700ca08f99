/- With a key's value is done what is done with a value: the plain law of rostrumkeep.AsValue. -/
import Derived.Test.YtpdadlofgfdlpaaKeysApart
namespace Go.Proofs.Ytpdadlofgfdlpaa
set_option linter.all false
open Go.RowKit
section
variable {l : List En} {now : Int} {c : Cmd}
theorem entV_old (hr : l.Pairwise Rk) : ∃ t, entV l c.key = (oldOf l (keyAt c.key l) (keyHas c.key l), t, keyHas c.key l) := by
  cases hh : keyHas c.key l with
  | true =>
    have ho : oldOf l (keyAt c.key l) true = (l[keyAt c.key l]'(keyHas_lt hh)).val := by
      unfold oldOf
      rw [if_pos rfl, List.getElem?_eq_getElem (keyHas_lt hh)]
    rw [ho]
    exact ⟨_, entV_mem hr (List.getElem_mem (keyHas_lt hh)) (keyHas_eq hh)⟩
  | false =>
    exact ⟨0, entV_none fun x hx e => by rw [(has_iff hr).2 ⟨x, hx, e⟩] at hh; cases hh⟩
theorem self_in_set {k : Nat} (hk : k < l.length) (z : En) : z ∈ l.set k z := List.mem_iff_getElem.2 ⟨k, by rw [List.length_set]; exact hk, List.getElem_set_self _⟩
/-- A refused command keeps the value. -/
theorem done_kept {v : Va} (hv : May v) (hc : ccOf c = 0) (hk : c.kind ≤ 18) (h : (doneVal v c).2.1.code ≠ 0) : (doneVal v c).1 = v := by
  rcases hv with rfl | hg
  · cases hm : makesC c.kind with
    | true => exact absurd (done_made hc hm).2.2 h
    | false => rw [done_none hc hk hm]
  · rcases done_ways hg hc hk with ⟨_, h'⟩ | ⟨_, _, h' | ⟨k, h', _⟩⟩
    · rw [h']
    · exact absurd h' h
    · rw [h']
theorem as_plan (ok : StOk now l) (hc : ccOf c = 0) (hk : c.kind ≤ 18) :
    (keyHas c.key l = false ∧ l.length = 12 → (doS now l c).2.code = 6 ∨ (doS now l c).2.code = (doneVal (oldOf l (keyAt c.key l) (keyHas c.key l)) c).2.1.code) ∧
    (¬ (keyHas c.key l = false ∧ l.length = 12) → (doS now l c).2 = (doneVal (oldOf l (keyAt c.key l) (keyHas c.key l)) c).2.1 ∧ ∃ t, entV (doS now l c).1 c.key = ((doneVal (oldOf l (keyAt c.key l) (keyHas c.key l)) c).1, t, decide ((doneVal (oldOf l (keyAt c.key l) (keyHas c.key l)) c).1.kind ≠ 0))) := by
  have hmay := old_may ok (keyAt c.key l) (keyHas c.key l)
  have hdm := done_may hmay c
  have hke := @done_kept c _ hmay hc hk
  obtain ⟨t0, he⟩ := entV_old (c := c) ok.rise
  have hok := doS_ok ok hc
  have hz : ∀ v, May v → v.kind = 0 → v = zeroVa := fun v h h0 => by
    rcases h with h | h
    · exact h
    · have := h.k1; omega
  have hoz : keyHas c.key l = false → oldOf l (keyAt c.key l) (keyHas c.key l) = zeroVa := fun h => by rw [h]; rfl
  have hon : keyHas c.key l = true → (oldOf l (keyAt c.key l) (keyHas c.key l)).kind ≠ 0 := fun h => by
    have hg := ok.good _ (List.getElem_mem (keyHas_lt h))
    have ho : oldOf l (keyAt c.key l) (keyHas c.key l) = (l[keyAt c.key l]'(keyHas_lt h)).val := by
      rw [h]; unfold oldOf
      rw [if_pos rfl, List.getElem?_eq_getElem (keyHas_lt h)]
    rw [ho]
    have := hg.k1; omega
  have hds : doS now l c = if (doneVal (oldOf l (keyAt c.key l) (keyHas c.key l)) c).2.1.code ≠ 0 then (l, (doneVal (oldOf l (keyAt c.key l) (keyHas c.key l)) c).2.1)
      else if (doneVal (oldOf l (keyAt c.key l) (keyHas c.key l)) c).1.kind = 0 ∧ keyHas c.key l = true then (delRows l (keyAt c.key l), (doneVal (oldOf l (keyAt c.key l) (keyHas c.key l)) c).2.1)
      else if keyHas c.key l = false ∧ l.length = 12 then (l, failR 6)
      else if (doneVal (oldOf l (keyAt c.key l) (keyHas c.key l)) c).1.kind ≠ 0 then (setS l (keyAt c.key l) (keyHas c.key l) c (doneVal (oldOf l (keyAt c.key l) (keyHas c.key l)) c).1, (doneVal (oldOf l (keyAt c.key l) (keyHas c.key l)) c).2.1)
      else (l, (doneVal (oldOf l (keyAt c.key l) (keyHas c.key l)) c).2.1) := by
    unfold doS
    rw [if_neg (by omega), if_neg (by omega), if_neg (by omega)]
  generalize doneVal (oldOf l (keyAt c.key l) (keyHas c.key l)) c = D at *
  generalize oldOf l (keyAt c.key l) (keyHas c.key l) = v0 at *
  have hr := ok.rise
  by_cases hcode : D.2.1.code ≠ 0
  · rw [if_pos hcode] at hds
    rw [hds]
    refine ⟨fun _ => .inr rfl, fun _ => ⟨rfl, t0, ?_⟩⟩
    rw [he, hke hcode]
    cases hh : keyHas c.key l with
    | true => rw [decide_eq_true (hon hh)]
    | false => rw [hoz hh]; rfl
  · rw [if_neg hcode] at hds
    by_cases h1 : D.1.kind = 0 ∧ keyHas c.key l = true
    · rw [if_pos h1] at hds
      rw [hds]
      refine ⟨fun h => by (rw [h1.2] at h; exact absurd h.1 (by simp)), fun _ => ⟨rfl, 0, ?_⟩⟩
      have hn := del_has hr h1.2
      show entV (delRows l (keyAt c.key l)) c.key = _
      rw [entV_none (fun x hx e => by rw [(has_iff (del_pair hr)).2 ⟨x, hx, e⟩] at hn; cases hn), hz _ hdm h1.1]
      rfl
    · rw [if_neg h1] at hds
      by_cases h2 : keyHas c.key l = false ∧ l.length = 12
      · rw [if_pos h2] at hds
        rw [hds]
        exact ⟨fun _ => .inl rfl, fun h => absurd h2 h⟩
      · rw [if_neg h2] at hds
        refine ⟨fun h => absurd h h2, fun _ => ?_⟩
        by_cases h3 : D.1.kind ≠ 0
        · rw [if_pos h3] at hds
          rw [hds] at hok ⊢
          refine ⟨rfl, ?_⟩
          cases hh : keyHas c.key l with
          | true =>
            rw [hh, setS_has (keyHas_lt hh)] at hok
            simp only
            rw [setS_has (keyHas_lt hh)]
            exact ⟨_, by rw [entV_mem hok.rise (self_in_set (keyHas_lt hh) _) (keyHas_eq hh), decide_eq_true h3]⟩
          | false =>
            have hle : keyAt c.key l ≤ l.length := lowB_le _ _
            rw [hh, setS_new hle] at hok
            simp only
            rw [setS_new hle]
            exact ⟨_, by rw [entV_mem hok.rise (mem_ins.2 (.inl rfl)) rfl, decide_eq_true h3]⟩
        · rw [if_neg h3] at hds
          rw [hds]
          have h0 : D.1.kind = 0 := Classical.not_not.1 h3
          have hh : keyHas c.key l = false := by
            cases hh : keyHas c.key l with
            | false => rfl
            | true => exact absurd ⟨h0, hh⟩ h1
          refine ⟨rfl, t0, ?_⟩
          rw [he, hoz hh, hh, hz _ hdm h0]
          rfl
end
end Go.Proofs.Ytpdadlofgfdlpaa
