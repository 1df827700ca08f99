/- What commands of a kind make of values: plain facts. No walk. -/
import Derived.Test.YtpdadlofgfdlpaaMay
import Derived.Test.YtpdadlofgfdlpaaCall
import Derived.Test.YtpdadlofgfdlpaaRaws
namespace Go.Proofs.Ytpdadlofgfdlpaa
set_option linter.all false
open Go.RowKit
theorem done_some {v : Va} {c : Cmd} (h : Good v) (hc : ccOf c = 0) (h18 : c.kind ≤ 18) :
    doneVal v c = if wrongKind v c = true then (v, failR 4, 0) else ((behind v (doVal v c)).1, (behind v (doVal v c)).2, 0) := by
  unfold doneVal
  rw [if_neg (may_not (.inr h)), if_neg (by simpa using hc), if_neg (by omega), if_neg (by rw [good_some h]; simp)]
  have hd : doneKind v c = v := by unfold doneKind; rw [good_some h]; rfl
  rw [hd, good_some h]
  by_cases hw : wrongKind v c = true
  · rw [if_pos ⟨rfl, hw⟩, if_pos hw]
  · rw [if_neg (fun hh => hw hh.2), if_neg hw]
theorem done_zero {c : Cmd} (hc : ccOf c = 0) (h18 : c.kind ≤ 18) :
    doneVal zeroVa c = if makesC c.kind = false then (zeroVa, failR 5, 0) else ((behind zeroVa (doVal { zeroVa with kind := kindC c.kind } c)).1, (behind zeroVa (doVal { zeroVa with kind := kindC c.kind } c)).2, 0) := by
  unfold doneVal
  rw [if_neg (may_not (.inl rfl)), if_neg (by simpa using hc), if_neg (by omega)]
  have hd : doneKind zeroVa c = { zeroVa with kind := kindC c.kind } := by unfold doneKind; rw [if_pos zero_none]
  rw [hd, zero_none]
  by_cases hm : makesC c.kind = false
  · rw [if_pos ⟨rfl, hm⟩, if_pos hm]
  · rw [if_neg (fun hh => hm hh.2), if_neg (by simp), if_neg hm]
theorem done_e {v : Va} {c : Cmd} (h : May v) (hc : ccOf c = 0) (h18 : c.kind ≤ 18) : (doneVal v c).2.2 = 0 := by
  rcases h with rfl | h
  · rw [done_zero hc h18]; split <;> rfl
  · rw [done_some h hc h18]; split <;> rfl
theorem done_over {v : Va} {c : Cmd} (h : May v) (hc : ccOf c = 0) (h18 : 18 < c.kind) : doneVal v c = (zeroVa, zeroRe, 3) := by
  unfold doneVal
  rw [if_neg (may_not h), if_neg (by simpa using hc), if_pos h18]
theorem done_cc {v : Va} {c : Cmd} (h : May v) (hc : ccOf c ≠ 0) : doneVal v c = (zeroVa, zeroRe, ccOf c) := by
  unfold doneVal
  rw [if_neg (may_not h), if_pos hc]
theorem behind_ok {v : Va} {r : Va × Re} (h : r.2.code = 0) (hs : 3 ≤ r.1.kind → r.1.size ≠ 0) : behind v r = r := by
  unfold behind
  rw [if_neg (by simpa using h), if_neg (fun hh => hs hh.1 hh.2)]
theorem behind_gone {v : Va} {r : Va × Re} (h : r.2.code = 0) (h3 : 3 ≤ r.1.kind) (hs : r.1.size = 0) : behind v r = (zeroVa, r.2) := by
  unfold behind
  rw [if_neg (by simpa using h), if_pos ⟨h3, hs⟩]
theorem behind_bad {v : Va} {r : Va × Re} (h : r.2.code ≠ 0) : behind v r = (v, r.2) := by unfold behind; rw [if_pos h]
theorem good_size {v : Va} (h : Good v) (h3 : 3 ≤ v.kind) : v.size ≠ 0 := by have := h.sizes.2.2.2 h3; omega
theorem behind_same {v : Va} {r : Re} (h : Good v) : behind v (v, r) = (v, r) := by
  by_cases hc : r.code = 0
  · exact behind_ok hc (fun h3 => good_size h h3)
  · exact behind_bad hc
/-- The kind that a maker makes. -/
def kindV (kind : Int) : Int := 1 + picked kind 6
theorem kindV_in (kind : Int) : 1 ≤ kindV kind ∧ kindV kind ≤ 6 := by
  have := picked_lo kind 6 (by omega); have := picked_hi kind 6 (by omega); unfold kindV; omega
theorem maker_cc (kind : Int) (r : RawD) : ccOf (makerC kind r) = 0 := cmd_ok _ _ _ _ _
theorem cmdOf_n {kind key field n : Int} {text : ByteArray} : -1073741824 < (cmdOf kind key field n text).n ∧ (cmdOf kind key field n text).n < 1073741824 := by
  have q1 := picked_lo n 60 (by omega)
  have q2 := picked_hi n 60 (by omega)
  have q3 := picked_lo n 12 (by omega)
  have q4 := picked_hi n 12 (by omega)
  have t1 := tmod_lt n 1073741824 (by omega)
  have hn : (cmdOf kind key field n text).n = if 1 + picked kind 22 = 3 then n.tmod 1073741824 else if 1 + picked kind 22 = 20 then picked n 60 else if 1 + picked kind 22 = 14 then picked n 12 - 6 else 0 := rfl
  rw [hn]
  (repeat' split) <;> omega
section
variable {v : Va} {c : Cmd}
theorem doVal_put (h : c.kind = 1) : doVal v c = (⟨1, c.text, 0, [], [], []⟩, toldR 0) := by unfold doVal; rw [if_pos h]
theorem doVal_get (h : c.kind = 2) : doVal v c = (v, textR v.text) := by unfold doVal; rw [if_neg (by omega), if_pos h]
theorem doVal_add (h : c.kind = 3) : doVal v c = doAdd v c := by unfold doVal; rw [if_neg (by omega), if_neg (by omega), if_pos h]
theorem doVal_len (h : c.kind = 17) : doVal v c = (v, toldR (v.size : Int)) := by unfold doVal; rw [if_neg (by omega), if_neg (by omega), if_neg (by omega), if_pos h]
theorem doVal_all (h : c.kind = 18) : doVal v c = (v, ⟨0, emp, 0, allOf v⟩) := by unfold doVal; rw [if_neg (by omega), if_neg (by omega), if_neg (by omega), if_neg (by omega), if_pos h]
theorem doVal_hash (h : 4 ≤ c.kind ∧ c.kind ≤ 6) (hv : v.kind = 3) : doVal v c = doHash v c := by
  unfold doVal; rw [if_neg (by omega), if_neg (by omega), if_neg (by omega), if_neg (by omega), if_neg (by omega), if_pos hv]
theorem doVal_list (h : 7 ≤ c.kind ∧ c.kind ≤ 10) (hv : v.kind = 4) : doVal v c = doList v c := by
  unfold doVal; rw [if_neg (by omega), if_neg (by omega), if_neg (by omega), if_neg (by omega), if_neg (by omega), if_neg (by omega), if_pos hv]
theorem doVal_set (h : 11 ≤ c.kind ∧ c.kind ≤ 13) (hv : v.kind = 5) : doVal v c = doSet v c := by
  unfold doVal; rw [if_neg (by omega), if_neg (by omega), if_neg (by omega), if_neg (by omega), if_neg (by omega), if_neg (by omega), if_neg (by omega), if_pos hv]
theorem doVal_rank (h : 14 ≤ c.kind ∧ c.kind ≤ 16) (hv : v.kind = 6) : doVal v c = doRank v c := by
  unfold doVal; rw [if_neg (by omega), if_neg (by omega), if_neg (by omega), if_neg (by omega), if_neg (by omega), if_neg (by omega), if_neg (by omega), if_neg (by omega)]
end
theorem kindC_hash {k : Int} (h : 4 ≤ k ∧ k ≤ 6) : kindC k = 3 := by unfold kindC; rw [if_neg (by omega), if_neg (by omega), if_pos (by omega)]
theorem kindC_list {k : Int} (h : 7 ≤ k ∧ k ≤ 10) : kindC k = 4 := by unfold kindC; rw [if_neg (by omega), if_neg (by omega), if_neg (by omega), if_pos (by omega)]
theorem kindC_set {k : Int} (h : 11 ≤ k ∧ k ≤ 13) : kindC k = 5 := by unfold kindC; rw [if_neg (by omega), if_neg (by omega), if_neg (by omega), if_neg (by omega), if_pos (by omega)]
theorem kindC_rank {k : Int} (h : 14 ≤ k ∧ k ≤ 16) : kindC k = 6 := by unfold kindC; rw [if_neg (by omega), if_neg (by omega), if_neg (by omega), if_neg (by omega), if_neg (by omega), if_pos (by omega)]
theorem kindC_add : kindC 3 = 2 := rfl
theorem wrong_not {v : Va} {c : Cmd} (h : kindC c.kind = v.kind) (h2 : c.kind < 17) : wrongKind v c = false := by
  unfold wrongKind
  rw [h]
  simp; omega
theorem wrong_put {v : Va} {c : Cmd} (h : c.kind = 1) : wrongKind v c = false := by unfold wrongKind; rw [h]; simp [kindC]
theorem wrong_look {v : Va} {c : Cmd} (h : c.kind = 17 ∨ c.kind = 18) (h3 : 3 ≤ v.kind) : wrongKind v c = false := by
  unfold wrongKind
  rcases h with h | h <;> rw [h] <;> simp [kindC] <;> omega
/-- What a command that makes values leaves, told by codes, kinds and sizes. -/
theorem make_leaves {v : Va} {c : Cmd} (hm : makesC c.kind = true) (hk : c.kind = 1 ∨ v.kind = kindC c.kind) (hv : v.size = 0 ∨ Good v) (hcode : (doVal v c).2.code = 0) :
    (doVal v c).1.kind = (if c.kind = 1 then 1 else kindC c.kind) ∧ (3 ≤ (doVal v c).1.kind → (doVal v c).1.size ≠ 0) := by
  have hck : c.kind = 1 ∨ c.kind = 3 ∨ c.kind = 4 ∨ c.kind = 7 ∨ c.kind = 8 ∨ c.kind = 11 ∨ c.kind = 14 := by
    unfold makesC at hm
    simp only [Bool.or_eq_true, beq_iff_eq] at hm
    omega
  have hsz : v.size = 0 ∨ (3 ≤ v.kind → v.size ≠ 0) := by rcases hv with h | h; exact .inl h; exact .inr (good_size h)
  clear hv
  unfold Va.size at hsz
  by_cases e1 : c.kind = 1
  · rw [doVal_put e1, if_pos e1]; exact ⟨rfl, fun h => by simp at h⟩
  rw [if_neg e1]
  replace hk : v.kind = kindC c.kind := by rcases hk with h | h; exact absurd h e1; exact h
  by_cases e3 : c.kind = 3
  · rw [doVal_add e3] at hcode ⊢
    rw [e3, kindC_add] at hk ⊢
    unfold doAdd at hcode ⊢
    by_cases ho : countOk (v.count + c.n) = true
    · rw [if_pos ho]; exact ⟨hk, fun h => by simp only [hk] at h; omega⟩
    · rw [if_neg ho] at hcode; simp [failR] at hcode
  by_cases e4 : c.kind = 4
  · rw [kindC_hash (by omega)] at hk ⊢
    rw [doVal_hash (by omega) hk] at hcode ⊢
    unfold doHash at hcode ⊢
    rw [if_pos e4] at hcode ⊢
    by_cases hp : pairHas c.field v.pairs = true
    · rw [if_pos hp]
      have := pairHas_lt hp
      refine ⟨hk, fun _ => ?_⟩
      unfold Va.size; simp only [List.length_set]; omega
    · rw [if_neg hp] at hcode ⊢
      by_cases h20 : v.pairs.length = 20
      · rw [if_pos h20] at hcode; simp [failR] at hcode
      · rw [if_neg h20]
        refine ⟨hk, fun _ => ?_⟩
        unfold Va.size; simp only [ins_len']; omega
  by_cases e7 : c.kind = 7
  · rw [kindC_list (by omega)] at hk ⊢
    rw [doVal_list (by omega) hk] at hcode ⊢
    unfold doList at hcode ⊢
    rw [if_pos e7] at hcode ⊢
    by_cases h20 : v.items.length = 20
    · rw [if_pos h20] at hcode; simp [failR] at hcode
    · rw [if_neg h20]
      refine ⟨hk, fun _ => ?_⟩
      unfold Va.size; simp only [List.length_append, List.length_singleton]; omega
  by_cases e8 : c.kind = 8
  · rw [kindC_list (by omega)] at hk ⊢
    rw [doVal_list (by omega) hk] at hcode ⊢
    unfold doList at hcode ⊢
    rw [if_neg e7, if_pos e8] at hcode ⊢
    by_cases h20 : v.items.length = 20
    · rw [if_pos h20] at hcode; simp [failR] at hcode
    · rw [if_neg h20]
      refine ⟨hk, fun _ => ?_⟩
      unfold Va.size; simp only [ins_len']; omega
  by_cases e11 : c.kind = 11
  · rw [kindC_set (by omega)] at hk ⊢
    rw [doVal_set (by omega) hk] at hcode ⊢
    unfold doSet at hcode ⊢
    rw [if_pos e11] at hcode ⊢
    by_cases hp : textHas c.text v.items = true
    · rw [if_pos hp]
      have := textHas_lt hp
      refine ⟨hk, fun _ => ?_⟩
      show v.pairs.length + v.items.length + v.scores.length ≠ 0
      omega
    · rw [if_neg hp] at hcode ⊢
      by_cases h20 : v.items.length = 20
      · rw [if_pos h20] at hcode; simp [failR] at hcode
      · rw [if_neg h20]
        refine ⟨hk, fun _ => ?_⟩
        unfold Va.size; simp only [ins_len']; omega
  have e14 : c.kind = 14 := by omega
  rw [kindC_rank (by omega)] at hk ⊢
  rw [doVal_rank (by omega) hk] at hcode ⊢
  unfold doRank at hcode ⊢
  cases hm2 : memberAt c.text v.scores with
  | none =>
    rw [hm2] at hcode
    simp only at hcode ⊢
    rw [if_neg (by omega), if_pos e14] at hcode ⊢
    by_cases h20 : v.scores.length = 20
    · rw [if_pos h20] at hcode; simp [failR] at hcode
    · rw [if_neg h20]
      refine ⟨hk, fun _ => ?_⟩
      unfold Va.size; simp only [putScore, ins_len']; omega
  | some k =>
    rw [hm2] at hcode
    simp only at hcode ⊢
    rw [if_neg (by omega), if_pos e14]
    refine ⟨hk, fun _ => ?_⟩
    unfold Va.size; simp only [putScore, ins_len']; omega
/-- A command that makes values of a kind, at none: it is done, if its number is small. -/
theorem make_first {c : Cmd} (hm : makesC c.kind = true) (hn : -1099511627776 ≤ c.n ∧ c.n ≤ 1099511627776) : (doVal { zeroVa with kind := kindC c.kind } c).2.code = 0 := by
  have hck : c.kind = 1 ∨ c.kind = 3 ∨ c.kind = 4 ∨ c.kind = 7 ∨ c.kind = 8 ∨ c.kind = 11 ∨ c.kind = 14 := by
    unfold makesC at hm
    simp only [Bool.or_eq_true, beq_iff_eq] at hm
    omega
  rcases hck with e | e | e | e | e | e | e
  · rw [doVal_put e]; rfl
  · rw [doVal_add e]
    have ho : countOk (({ zeroVa with kind := kindC c.kind } : Va).count + c.n) = true := by rw [countOk_iff]; simp [zeroVa]; omega
    unfold doAdd; rw [if_pos ho]; rfl
  · rw [doVal_hash (by omega) (kindC_hash (by omega))]
    unfold doHash; rw [if_pos e]; simp [zeroVa, pairHas, foundAt, toldR]
  · rw [doVal_list (by omega) (kindC_list (by omega))]
    unfold doList; rw [if_pos e]; simp [zeroVa, toldR]
  · rw [doVal_list (by omega) (kindC_list (by omega))]
    unfold doList; rw [if_neg (by omega), if_pos e]; simp [zeroVa, toldR]
  · rw [doVal_set (by omega) (kindC_set (by omega))]
    unfold doSet; rw [if_pos e]; simp [zeroVa, textHas, foundAt, toldR]
  · rw [doVal_rank (by omega) (kindC_rank (by omega))]
    unfold doRank; simp [zeroVa, memberAt, toldR]; rw [if_neg (by omega), if_pos e]
/-- A command that makes values of a kind, at a value of that kind or none: a value of that kind stands behind it. -/
theorem make_step {v : Va} {c : Cmd} (h : v = zeroVa ∨ (Good v ∧ v.kind = (if c.kind = 1 then 1 else kindC c.kind))) (hc : ccOf c = 0) (hm : makesC c.kind = true) :
    (doneVal v c).2.2 = 0 ∧ Good (doneVal v c).1 ∧ (doneVal v c).1.kind = (if c.kind = 1 then 1 else kindC c.kind) := by
  have hfit := cc_fit hc
  have hck : c.kind = 1 ∨ c.kind = 3 ∨ c.kind = 4 ∨ c.kind = 7 ∨ c.kind = 8 ∨ c.kind = 11 ∨ c.kind = 14 := by
    unfold makesC at hm
    simp only [Bool.or_eq_true, beq_iff_eq] at hm
    omega
  have h18 : c.kind ≤ 18 := by omega
  have hmay : May v := by rcases h with h | h; exact .inl h; exact .inr h.1
  have hmk := makes_kind hm
  have hmay2 := done_may hmay c
  refine ⟨done_e hmay hc h18, ?_⟩
  have goodOf : ∀ u : Va, May u → u.kind = (if c.kind = 1 then 1 else kindC c.kind) → Good u := by
    rintro u (rfl | hu) hk
    · exfalso
      have : zeroVa.kind = 0 := rfl
      rw [this] at hk
      split at hk <;> omega
    · exact hu
  rcases h with rfl | ⟨hg, hk⟩
  · rw [done_zero hc h18, if_neg (by simp [hm])] at hmay2 ⊢
    have q1 := make_first hm hfit.n
    obtain ⟨q2, q3⟩ := make_leaves (v := { zeroVa with kind := kindC c.kind }) hm (.inr rfl) (.inl (by simp [zeroVa, Va.size])) q1
    rw [behind_ok q1 q3] at hmay2 ⊢
    exact ⟨goodOf _ hmay2 q2, q2⟩
  · have hw : wrongKind v c = false := by
      by_cases e : c.kind = 1
      · exact wrong_put e
      · rw [if_neg e] at hk; exact wrong_not hk.symm (by omega)
    rw [done_some hg hc h18, if_neg (by simp [hw])] at hmay2 ⊢
    by_cases hcode : (doVal v c).2.code = 0
    · obtain ⟨q2, q3⟩ := make_leaves hm (by by_cases e : c.kind = 1; exact .inl e; exact .inr (by rw [if_neg e] at hk; exact hk)) (.inr hg) hcode
      rw [behind_ok hcode q3] at hmay2 ⊢
      exact ⟨goodOf _ hmay2 q2, q2⟩
    · rw [behind_bad hcode]; exact ⟨hg, hk⟩
theorem maker_makes (kind : Int) (r : RawD) : makesC (makerC kind r).kind = true ∧ (if (makerC kind r).kind = 1 then 1 else kindC (makerC kind r).kind) = kindV kind := by
  have p1 := picked_lo kind 6 (by omega); have p2 := picked_hi kind 6 (by omega)
  rw [makerC_kind]
  unfold kindV
  generalize picked kind 6 = p at *
  have hp : p = 0 ∨ p = 1 ∨ p = 2 ∨ p = 3 ∨ p = 4 ∨ p = 5 := by omega
  rcases hp with rfl | rfl | rfl | rfl | rfl | rfl <;> decide
def stepV (kind : Int) (v : Va) (r : RawD) : Va := if (doneVal v (makerC kind r)).2.2 = 0 then (doneVal v (makerC kind r)).1 else v
def valueOf (kind : Int) (l : List RawD) : Va := (l.take 24).foldl (stepV kind) zeroVa
theorem stepV_good {kind : Int} {v : Va} {r : RawD} (h : v = zeroVa ∨ (Good v ∧ v.kind = kindV kind)) : Good (stepV kind v r) ∧ (stepV kind v r).kind = kindV kind := by
  obtain ⟨m1, m2⟩ := maker_makes kind r
  obtain ⟨a, b⟩ := make_step (c := makerC kind r) (by rw [m2]; exact h) (maker_cc kind r) m1
  unfold stepV
  rw [if_pos a, ← m2]
  exact b
theorem fold_good {kind : Int} : ∀ (l : List RawD) (v : Va), (v = zeroVa ∨ (Good v ∧ v.kind = kindV kind)) → (l.foldl (stepV kind) v = zeroVa ∨ (Good (l.foldl (stepV kind) v) ∧ (l.foldl (stepV kind) v).kind = kindV kind))
  | [], _, h => h
  | r :: l, v, h => fold_good l _ (.inr (stepV_good h))
theorem valueOf_good (kind : Int) (l : List RawD) : valueOf kind l = zeroVa ∨ (Good (valueOf kind l) ∧ (valueOf kind l).kind = kindV kind) := fold_good _ _ (.inl rfl)
theorem valueOf_may (kind : Int) (l : List RawD) : May (valueOf kind l) := by
  rcases valueOf_good kind l with h | h
  · exact .inl h
  · exact .inr h.1
def firstRaw : RawD := ⟨0, 0, 0, 1, { data := #[120] }⟩
theorem firstRaw_ok : firstRaw.ok := by
  unfold firstRaw RawD.ok I64 maxLen
  simp [ByteArray.size]
def fullOf (kind : Int) (l : List RawD) : Va := valueOf kind (firstRaw :: l)
theorem fullOf_good (kind : Int) (l : List RawD) : Good (fullOf kind l) ∧ (fullOf kind l).kind = kindV kind := by
  have h0 := stepV_good (kind := kind) (r := firstRaw) (.inl rfl)
  have h1 := fold_good (kind := kind) (l.take 23) _ (.inr h0)
  unfold fullOf valueOf
  rw [List.take_succ_cons, List.foldl_cons]
  rcases h1 with h | h
  · exfalso
    have hg : ∀ (l : List RawD) (v : Va), Good v ∧ v.kind = kindV kind → Good (l.foldl (stepV kind) v) := by
      intro l
      induction l with
      | nil => exact fun v h => h.1
      | cons r l ih => exact fun v h => ih _ (stepV_good (.inr h))
    have := (hg (l.take 23) _ h0).k1
    rw [h] at this
    exact absurd this (by decide)
  · exact h
theorem val_step {kind : Int} {l : List RawD} {v : Va} {k : Nat} (hk : k < l.length) (h24 : k < 24) (h : Hid (valueOf kind l = ((l.take 24).drop k).foldl (stepV kind) v)) :
    Hid (valueOf kind l = ((l.take 24).drop (k + 1)).foldl (stepV kind) (stepV kind v l[k])) := by
  have hk' : k < (l.take 24).length := by rw [List.length_take]; omega
  have := h.out
  rw [List.drop_eq_getElem_cons hk', List.getElem_take, List.foldl_cons] at this
  exact this
theorem val_end {kind : Int} {l : List RawD} {v : Va} {k : Nat} (hk : ¬ (k < l.length ∧ k < 24)) (h : Hid (valueOf kind l = ((l.take 24).drop k).foldl (stepV kind) v)) : valueOf kind l = v := by
  have := h.out
  rw [List.drop_eq_nil_of_le (by rw [List.length_take]; omega)] at this
  exact this
end Go.Proofs.Ytpdadlofgfdlpaa
