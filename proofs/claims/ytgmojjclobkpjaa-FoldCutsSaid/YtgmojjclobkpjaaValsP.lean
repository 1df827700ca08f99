import Derived.Test.YtgmojjclobkpjaaDonP
import Derived.Test.YtgmojjclobkpjaaCall
import Derived.Test.YtgmojjclobkpjaaEnt
import Derived.Test.YtgmojjclobkpjaaOwn
import Derived.Test.YtgmojjclobkpjaaHeldX
import Derived.Deep.RegionHeld3
/- What commands of a kind make of values: plain facts. No walk. -/
namespace Go.Proofs.Ytgmojjclobkpjaa
set_option linter.all false
open Go.RowKit
theorem done_some {v : Va} {c : Cmd} (h : Good v) (hc : ccOf c = 0) (h18 : c.kind ≤ 18) :
    doneVal v c = if wrongKind v c = true then (v, failR 4, 0) else ((behind v (doVal v c)).1, (behind v (doVal v c)).2, 0) := by
  unfold doneVal
  rw [if_neg (may_not (.inr h)), if_neg (by simpa using hc), if_neg (by omega), if_neg (by rw [good_some h]; simp)]
  have hd : doneKind v c = v := by unfold doneKind; rw [good_some h]; rfl
  rw [hd, good_some h]
  by_cases hw : wrongKind v c = true
  · rw [if_pos ⟨rfl, hw⟩, if_pos hw]
  · rw [if_neg (fun hh => hw hh.2), if_neg hw]
theorem done_zero {c : Cmd} (hc : ccOf c = 0) (h18 : c.kind ≤ 18) :
    doneVal zeroVa c = if makesC c.kind = false then (zeroVa, failR 5, 0) else ((behind zeroVa (doVal { zeroVa with kind := kindC c.kind } c)).1, (behind zeroVa (doVal { zeroVa with kind := kindC c.kind } c)).2, 0) := by
  unfold doneVal
  rw [if_neg (may_not (.inl rfl)), if_neg (by simpa using hc), if_neg (by omega)]
  have hd : doneKind zeroVa c = { zeroVa with kind := kindC c.kind } := by unfold doneKind; rw [if_pos zero_none]
  rw [hd, zero_none]
  by_cases hm : makesC c.kind = false
  · rw [if_pos ⟨rfl, hm⟩, if_pos hm]
  · rw [if_neg (fun hh => hm hh.2), if_neg (by simp), if_neg hm]
theorem done_e {v : Va} {c : Cmd} (h : May v) (hc : ccOf c = 0) (h18 : c.kind ≤ 18) : (doneVal v c).2.2 = 0 := by
  rcases h with rfl | h
  · rw [done_zero hc h18]; split <;> rfl
  · rw [done_some h hc h18]; split <;> rfl
theorem done_over {v : Va} {c : Cmd} (h : May v) (hc : ccOf c = 0) (h18 : 18 < c.kind) : doneVal v c = (zeroVa, zeroRe, 3) := by
  unfold doneVal
  rw [if_neg (may_not h), if_neg (by simpa using hc), if_pos h18]
theorem done_cc {v : Va} {c : Cmd} (h : May v) (hc : ccOf c ≠ 0) : doneVal v c = (zeroVa, zeroRe, ccOf c) := by
  unfold doneVal
  rw [if_neg (may_not h), if_pos hc]
theorem behind_ok {v : Va} {r : Va × Re} (h : r.2.code = 0) (hs : 3 ≤ r.1.kind → r.1.size ≠ 0) : behind v r = r := by
  unfold behind
  rw [if_neg (by simpa using h), if_neg (fun hh => hs hh.1 hh.2)]
theorem behind_gone {v : Va} {r : Va × Re} (h : r.2.code = 0) (h3 : 3 ≤ r.1.kind) (hs : r.1.size = 0) : behind v r = (zeroVa, r.2) := by
  unfold behind
  rw [if_neg (by simpa using h), if_pos ⟨h3, hs⟩]
theorem behind_bad {v : Va} {r : Va × Re} (h : r.2.code ≠ 0) : behind v r = (v, r.2) := by unfold behind; rw [if_pos h]
theorem good_size {v : Va} (h : Good v) (h3 : 3 ≤ v.kind) : v.size ≠ 0 := by have := h.sizes.2.2.2 h3; omega
theorem behind_same {v : Va} {r : Re} (h : Good v) : behind v (v, r) = (v, r) := by
  by_cases hc : r.code = 0
  · exact behind_ok hc (fun h3 => good_size h h3)
  · exact behind_bad hc
/-- The kind that a maker makes. -/
def kindV (kind : Int) : Int := 1 + picked kind 6
theorem kindV_in (kind : Int) : 1 ≤ kindV kind ∧ kindV kind ≤ 6 := by
  have := picked_lo kind 6 (by omega); have := picked_hi kind 6 (by omega); unfold kindV; omega
theorem maker_cc (kind : Int) (r : RawD) : ccOf (makerC kind r) = 0 := cmd_ok _ _ _ _ _
theorem cmdOf_n {kind key field n : Int} {text : ByteArray} : -1073741824 < (cmdOf kind key field n text).n ∧ (cmdOf kind key field n text).n < 1073741824 := by
  have q1 := picked_lo n 60 (by omega)
  have q2 := picked_hi n 60 (by omega)
  have q3 := picked_lo n 12 (by omega)
  have q4 := picked_hi n 12 (by omega)
  have t1 := tmod_lt n 1073741824 (by omega)
  have hn : (cmdOf kind key field n text).n = if 1 + picked kind 22 = 3 then n.tmod 1073741824 else if 1 + picked kind 22 = 20 then picked n 60 else if 1 + picked kind 22 = 14 then picked n 12 - 6 else 0 := rfl
  rw [hn]
  (repeat' split) <;> omega
section
variable {v : Va} {c : Cmd}
theorem doVal_put (h : c.kind = 1) : doVal v c = (⟨1, c.text, 0, [], [], []⟩, toldR 0) := by unfold doVal; rw [if_pos h]
theorem doVal_get (h : c.kind = 2) : doVal v c = (v, textR v.text) := by unfold doVal; rw [if_neg (by omega), if_pos h]
theorem doVal_add (h : c.kind = 3) : doVal v c = doAdd v c := by unfold doVal; rw [if_neg (by omega), if_neg (by omega), if_pos h]
theorem doVal_len (h : c.kind = 17) : doVal v c = (v, toldR (v.size : Int)) := by unfold doVal; rw [if_neg (by omega), if_neg (by omega), if_neg (by omega), if_pos h]
theorem doVal_all (h : c.kind = 18) : doVal v c = (v, ⟨0, emp, 0, allOf v⟩) := by unfold doVal; rw [if_neg (by omega), if_neg (by omega), if_neg (by omega), if_neg (by omega), if_pos h]
theorem doVal_hash (h : 4 ≤ c.kind ∧ c.kind ≤ 6) (hv : v.kind = 3) : doVal v c = doHash v c := by
  unfold doVal; rw [if_neg (by omega), if_neg (by omega), if_neg (by omega), if_neg (by omega), if_neg (by omega), if_pos hv]
theorem doVal_list (h : 7 ≤ c.kind ∧ c.kind ≤ 10) (hv : v.kind = 4) : doVal v c = doList v c := by
  unfold doVal; rw [if_neg (by omega), if_neg (by omega), if_neg (by omega), if_neg (by omega), if_neg (by omega), if_neg (by omega), if_pos hv]
theorem doVal_set (h : 11 ≤ c.kind ∧ c.kind ≤ 13) (hv : v.kind = 5) : doVal v c = doSet v c := by
  unfold doVal; rw [if_neg (by omega), if_neg (by omega), if_neg (by omega), if_neg (by omega), if_neg (by omega), if_neg (by omega), if_neg (by omega), if_pos hv]
theorem doVal_rank (h : 14 ≤ c.kind ∧ c.kind ≤ 16) (hv : v.kind = 6) : doVal v c = doRank v c := by
  unfold doVal; rw [if_neg (by omega), if_neg (by omega), if_neg (by omega), if_neg (by omega), if_neg (by omega), if_neg (by omega), if_neg (by omega), if_neg (by omega)]
end
theorem kindC_hash {k : Int} (h : 4 ≤ k ∧ k ≤ 6) : kindC k = 3 := by unfold kindC; rw [if_neg (by omega), if_neg (by omega), if_pos (by omega)]
theorem kindC_list {k : Int} (h : 7 ≤ k ∧ k ≤ 10) : kindC k = 4 := by unfold kindC; rw [if_neg (by omega), if_neg (by omega), if_neg (by omega), if_pos (by omega)]
theorem kindC_set {k : Int} (h : 11 ≤ k ∧ k ≤ 13) : kindC k = 5 := by unfold kindC; rw [if_neg (by omega), if_neg (by omega), if_neg (by omega), if_neg (by omega), if_pos (by omega)]
theorem kindC_rank {k : Int} (h : 14 ≤ k ∧ k ≤ 16) : kindC k = 6 := by unfold kindC; rw [if_neg (by omega), if_neg (by omega), if_neg (by omega), if_neg (by omega), if_neg (by omega), if_pos (by omega)]
theorem kindC_add : kindC 3 = 2 := rfl
theorem wrong_not {v : Va} {c : Cmd} (h : kindC c.kind = v.kind) (h2 : c.kind < 17) : wrongKind v c = false := by
  unfold wrongKind
  rw [h]
  simp; omega
theorem wrong_put {v : Va} {c : Cmd} (h : c.kind = 1) : wrongKind v c = false := by unfold wrongKind; rw [h]; simp [kindC]
theorem wrong_look {v : Va} {c : Cmd} (h : c.kind = 17 ∨ c.kind = 18) (h3 : 3 ≤ v.kind) : wrongKind v c = false := by
  unfold wrongKind
  rcases h with h | h <;> rw [h] <;> simp [kindC] <;> omega
/-- What a command that makes values leaves, told by codes, kinds and sizes. -/
theorem make_leaves {v : Va} {c : Cmd} (hm : makesC c.kind = true) (hk : c.kind = 1 ∨ v.kind = kindC c.kind) (hv : v.size = 0 ∨ Good v) (hcode : (doVal v c).2.code = 0) :
    (doVal v c).1.kind = (if c.kind = 1 then 1 else kindC c.kind) ∧ (3 ≤ (doVal v c).1.kind → (doVal v c).1.size ≠ 0) := by
  have hck : c.kind = 1 ∨ c.kind = 3 ∨ c.kind = 4 ∨ c.kind = 7 ∨ c.kind = 8 ∨ c.kind = 11 ∨ c.kind = 14 := by
    unfold makesC at hm
    simp only [Bool.or_eq_true, beq_iff_eq] at hm
    omega
  have hsz : v.size = 0 ∨ (3 ≤ v.kind → v.size ≠ 0) := by rcases hv with h | h; exact .inl h; exact .inr (good_size h)
  clear hv
  unfold Va.size at hsz
  by_cases e1 : c.kind = 1
  · rw [doVal_put e1, if_pos e1]; exact ⟨rfl, fun h => by simp at h⟩
  rw [if_neg e1]
  replace hk : v.kind = kindC c.kind := by rcases hk with h | h; exact absurd h e1; exact h
  by_cases e3 : c.kind = 3
  · rw [doVal_add e3] at hcode ⊢
    rw [e3, kindC_add] at hk ⊢
    unfold doAdd at hcode ⊢
    by_cases ho : countOk (v.count + c.n) = true
    · rw [if_pos ho]; exact ⟨hk, fun h => by simp only [hk] at h; omega⟩
    · rw [if_neg ho] at hcode; simp [failR] at hcode
  by_cases e4 : c.kind = 4
  · rw [kindC_hash (by omega)] at hk ⊢
    rw [doVal_hash (by omega) hk] at hcode ⊢
    unfold doHash at hcode ⊢
    rw [if_pos e4] at hcode ⊢
    by_cases hp : pairHas c.field v.pairs = true
    · rw [if_pos hp]
      have := pairHas_lt hp
      refine ⟨hk, fun _ => ?_⟩
      unfold Va.size; simp only [List.length_set]; omega
    · rw [if_neg hp] at hcode ⊢
      by_cases h20 : v.pairs.length = 20
      · rw [if_pos h20] at hcode; simp [failR] at hcode
      · rw [if_neg h20]
        refine ⟨hk, fun _ => ?_⟩
        unfold Va.size; simp only [ins_len']; omega
  by_cases e7 : c.kind = 7
  · rw [kindC_list (by omega)] at hk ⊢
    rw [doVal_list (by omega) hk] at hcode ⊢
    unfold doList at hcode ⊢
    rw [if_pos e7] at hcode ⊢
    by_cases h20 : v.items.length = 20
    · rw [if_pos h20] at hcode; simp [failR] at hcode
    · rw [if_neg h20]
      refine ⟨hk, fun _ => ?_⟩
      unfold Va.size; simp only [List.length_append, List.length_singleton]; omega
  by_cases e8 : c.kind = 8
  · rw [kindC_list (by omega)] at hk ⊢
    rw [doVal_list (by omega) hk] at hcode ⊢
    unfold doList at hcode ⊢
    rw [if_neg e7, if_pos e8] at hcode ⊢
    by_cases h20 : v.items.length = 20
    · rw [if_pos h20] at hcode; simp [failR] at hcode
    · rw [if_neg h20]
      refine ⟨hk, fun _ => ?_⟩
      unfold Va.size; simp only [ins_len']; omega
  by_cases e11 : c.kind = 11
  · rw [kindC_set (by omega)] at hk ⊢
    rw [doVal_set (by omega) hk] at hcode ⊢
    unfold doSet at hcode ⊢
    rw [if_pos e11] at hcode ⊢
    by_cases hp : textHas c.text v.items = true
    · rw [if_pos hp]
      have := textHas_lt hp
      refine ⟨hk, fun _ => ?_⟩
      show v.pairs.length + v.items.length + v.scores.length ≠ 0
      omega
    · rw [if_neg hp] at hcode ⊢
      by_cases h20 : v.items.length = 20
      · rw [if_pos h20] at hcode; simp [failR] at hcode
      · rw [if_neg h20]
        refine ⟨hk, fun _ => ?_⟩
        unfold Va.size; simp only [ins_len']; omega
  have e14 : c.kind = 14 := by omega
  rw [kindC_rank (by omega)] at hk ⊢
  rw [doVal_rank (by omega) hk] at hcode ⊢
  unfold doRank at hcode ⊢
  cases hm2 : memberAt c.text v.scores with
  | none =>
    rw [hm2] at hcode
    simp only at hcode ⊢
    rw [if_neg (by omega), if_pos e14] at hcode ⊢
    by_cases h20 : v.scores.length = 20
    · rw [if_pos h20] at hcode; simp [failR] at hcode
    · rw [if_neg h20]
      refine ⟨hk, fun _ => ?_⟩
      unfold Va.size; simp only [putScore, ins_len']; omega
  | some k =>
    rw [hm2] at hcode
    simp only at hcode ⊢
    rw [if_neg (by omega), if_pos e14]
    refine ⟨hk, fun _ => ?_⟩
    unfold Va.size; simp only [putScore, ins_len']; omega
/-- A command that makes values of a kind, at none: it is done, if its number is small. -/
theorem make_first {c : Cmd} (hm : makesC c.kind = true) (hn : -1099511627776 ≤ c.n ∧ c.n ≤ 1099511627776) : (doVal { zeroVa with kind := kindC c.kind } c).2.code = 0 := by
  have hck : c.kind = 1 ∨ c.kind = 3 ∨ c.kind = 4 ∨ c.kind = 7 ∨ c.kind = 8 ∨ c.kind = 11 ∨ c.kind = 14 := by
    unfold makesC at hm
    simp only [Bool.or_eq_true, beq_iff_eq] at hm
    omega
  rcases hck with e | e | e | e | e | e | e
  · rw [doVal_put e]; rfl
  · rw [doVal_add e]
    have ho : countOk (({ zeroVa with kind := kindC c.kind } : Va).count + c.n) = true := by rw [countOk_iff]; simp [zeroVa]; omega
    unfold doAdd; rw [if_pos ho]; rfl
  · rw [doVal_hash (by omega) (kindC_hash (by omega))]
    unfold doHash; rw [if_pos e]; simp [zeroVa, pairHas, foundAt, toldR]
  · rw [doVal_list (by omega) (kindC_list (by omega))]
    unfold doList; rw [if_pos e]; simp [zeroVa, toldR]
  · rw [doVal_list (by omega) (kindC_list (by omega))]
    unfold doList; rw [if_neg (by omega), if_pos e]; simp [zeroVa, toldR]
  · rw [doVal_set (by omega) (kindC_set (by omega))]
    unfold doSet; rw [if_pos e]; simp [zeroVa, textHas, foundAt, toldR]
  · rw [doVal_rank (by omega) (kindC_rank (by omega))]
    unfold doRank; simp [zeroVa, memberAt, toldR]; rw [if_neg (by omega), if_pos e]
/-- A command that makes values of a kind, at a value of that kind or none: a value of that kind stands behind it. -/
theorem make_step {v : Va} {c : Cmd} (h : v = zeroVa ∨ (Good v ∧ v.kind = (if c.kind = 1 then 1 else kindC c.kind))) (hc : ccOf c = 0) (hm : makesC c.kind = true) :
    (doneVal v c).2.2 = 0 ∧ Good (doneVal v c).1 ∧ (doneVal v c).1.kind = (if c.kind = 1 then 1 else kindC c.kind) := by
  have hfit := cc_fit hc
  have hck : c.kind = 1 ∨ c.kind = 3 ∨ c.kind = 4 ∨ c.kind = 7 ∨ c.kind = 8 ∨ c.kind = 11 ∨ c.kind = 14 := by
    unfold makesC at hm
    simp only [Bool.or_eq_true, beq_iff_eq] at hm
    omega
  have h18 : c.kind ≤ 18 := by omega
  have hmay : May v := by rcases h with h | h; exact .inl h; exact .inr h.1
  have hmk := makes_kind hm
  have hmay2 := done_may hmay c
  refine ⟨done_e hmay hc h18, ?_⟩
  have goodOf : ∀ u : Va, May u → u.kind = (if c.kind = 1 then 1 else kindC c.kind) → Good u := by
    rintro u (rfl | hu) hk
    · exfalso
      have : zeroVa.kind = 0 := rfl
      rw [this] at hk
      split at hk <;> omega
    · exact hu
  rcases h with rfl | ⟨hg, hk⟩
  · rw [done_zero hc h18, if_neg (by simp [hm])] at hmay2 ⊢
    have q1 := make_first hm hfit.n
    obtain ⟨q2, q3⟩ := make_leaves (v := { zeroVa with kind := kindC c.kind }) hm (.inr rfl) (.inl (by simp [zeroVa, Va.size])) q1
    rw [behind_ok q1 q3] at hmay2 ⊢
    exact ⟨goodOf _ hmay2 q2, q2⟩
  · have hw : wrongKind v c = false := by
      by_cases e : c.kind = 1
      · exact wrong_put e
      · rw [if_neg e] at hk; exact wrong_not hk.symm (by omega)
    rw [done_some hg hc h18, if_neg (by simp [hw])] at hmay2 ⊢
    by_cases hcode : (doVal v c).2.code = 0
    · obtain ⟨q2, q3⟩ := make_leaves hm (by by_cases e : c.kind = 1; exact .inl e; exact .inr (by rw [if_neg e] at hk; exact hk)) (.inr hg) hcode
      rw [behind_ok hcode q3] at hmay2 ⊢
      exact ⟨goodOf _ hmay2 q2, q2⟩
    · rw [behind_bad hcode]; exact ⟨hg, hk⟩
theorem maker_makes (kind : Int) (r : RawD) : makesC (makerC kind r).kind = true ∧ (if (makerC kind r).kind = 1 then 1 else kindC (makerC kind r).kind) = kindV kind := by
  have p1 := picked_lo kind 6 (by omega); have p2 := picked_hi kind 6 (by omega)
  rw [makerC_kind]
  unfold kindV
  generalize picked kind 6 = p at *
  have hp : p = 0 ∨ p = 1 ∨ p = 2 ∨ p = 3 ∨ p = 4 ∨ p = 5 := by omega
  rcases hp with rfl | rfl | rfl | rfl | rfl | rfl <;> decide
def stepV (kind : Int) (v : Va) (r : RawD) : Va := if (doneVal v (makerC kind r)).2.2 = 0 then (doneVal v (makerC kind r)).1 else v
def valueOf (kind : Int) (l : List RawD) : Va := (l.take 24).foldl (stepV kind) zeroVa
theorem stepV_good {kind : Int} {v : Va} {r : RawD} (h : v = zeroVa ∨ (Good v ∧ v.kind = kindV kind)) : Good (stepV kind v r) ∧ (stepV kind v r).kind = kindV kind := by
  obtain ⟨m1, m2⟩ := maker_makes kind r
  obtain ⟨a, b⟩ := make_step (c := makerC kind r) (by rw [m2]; exact h) (maker_cc kind r) m1
  unfold stepV
  rw [if_pos a, ← m2]
  exact b
theorem fold_good {kind : Int} : ∀ (l : List RawD) (v : Va), (v = zeroVa ∨ (Good v ∧ v.kind = kindV kind)) → (l.foldl (stepV kind) v = zeroVa ∨ (Good (l.foldl (stepV kind) v) ∧ (l.foldl (stepV kind) v).kind = kindV kind))
  | [], _, h => h
  | r :: l, v, h => fold_good l _ (.inr (stepV_good h))
theorem valueOf_good (kind : Int) (l : List RawD) : valueOf kind l = zeroVa ∨ (Good (valueOf kind l) ∧ (valueOf kind l).kind = kindV kind) := fold_good _ _ (.inl rfl)
theorem valueOf_may (kind : Int) (l : List RawD) : May (valueOf kind l) := by
  rcases valueOf_good kind l with h | h
  · exact .inl h
  · exact .inr h.1
def firstRaw : RawD := ⟨0, 0, 0, 1, { data := #[120] }⟩
theorem firstRaw_ok : firstRaw.ok := by
  unfold firstRaw RawD.ok I64 maxLen
  simp [ByteArray.size]
def fullOf (kind : Int) (l : List RawD) : Va := valueOf kind (firstRaw :: l)
theorem fullOf_good (kind : Int) (l : List RawD) : Good (fullOf kind l) ∧ (fullOf kind l).kind = kindV kind := by
  have h0 := stepV_good (kind := kind) (r := firstRaw) (.inl rfl)
  have h1 := fold_good (kind := kind) (l.take 23) _ (.inr h0)
  unfold fullOf valueOf
  rw [List.take_succ_cons, List.foldl_cons]
  rcases h1 with h | h
  · exfalso
    have hg : ∀ (l : List RawD) (v : Va), Good v ∧ v.kind = kindV kind → Good (l.foldl (stepV kind) v) := by
      intro l
      induction l with
      | nil => exact fun v h => h.1
      | cons r l ih => exact fun v h => ih _ (stepV_good (.inr h))
    have := (hg (l.take 23) _ h0).k1
    rw [h] at this
    exact absurd this (by decide)
  · exact h
theorem val_step {kind : Int} {l : List RawD} {v : Va} {k : Nat} (hk : k < l.length) (h24 : k < 24) (h : Hid (valueOf kind l = ((l.take 24).drop k).foldl (stepV kind) v)) :
    Hid (valueOf kind l = ((l.take 24).drop (k + 1)).foldl (stepV kind) (stepV kind v l[k])) := by
  have hk' : k < (l.take 24).length := by rw [List.length_take]; omega
  have := h.out
  rw [List.drop_eq_getElem_cons hk', List.getElem_take, List.foldl_cons] at this
  exact this
theorem val_end {kind : Int} {l : List RawD} {v : Va} {k : Nat} (hk : ¬ (k < l.length ∧ k < 24)) (h : Hid (valueOf kind l = ((l.take 24).drop k).foldl (stepV kind) v)) : valueOf kind l = v := by
  have := h.out
  rw [List.drop_eq_nil_of_le (by rw [List.length_take]; omega)] at this
  exact this
end Go.Proofs.Ytgmojjclobkpjaa
/- rostrumkeep.Value, full. -/
namespace Go.Proofs.Ytgmojjclobkpjaa
set_option linter.all false
open Go.RowKit
def ValPost (v : Va) (w : World) (e : Ending) (w' : World) : Prop :=
  ∃ A1 n1 c1 A2 n2 c2 A3 n3 c3, e = .returned (.agg #[.int .i64 v.kind, .string v.text, .int .i64 v.count, .slice A1 n1 c1, .slice A2 n2 c2, .slice A3 n3 c3]) ∧ VSl w' v A1 n1 c1 A2 n2 c2 A3 n3 c3 ∧ (Tp w' A1 118 ∧ Tp w' A2 9 ∧ Tp w' A3 120) ∧ Below w.heap.size w w'
/-- A literal slice is the call's own. -/
theorem Own.of_blk {w : World} {base g size : Nat} {e : TypeId} {cs : Array Value} {rows : List (List Value)} (h : Blk w g e cs) (hb : base ≤ g) (hf : cs.toList = rows.flatten) (hr : ∀ r ∈ rows, r.length = size) (hm : rows.length ≤ maxLen) :
    Own w base e size (.slice (some ⟨g, 0, none⟩) rows.length rows.length) rows := by
  have hl := flatten_length hr
  refine ⟨⟨hl, .inr ⟨g, rows.length, cs, rfl, hb, h, Nat.le_refl _, hm, ?_, ?_⟩⟩, hr⟩
  · rw [← hl, ← hf]; simp
  · rw [hf, List.take_of_length_le (by rw [hl]; exact Nat.le_refl _)]
end Go.Proofs.Ytgmojjclobkpjaa
/- Commands one by one, told of values that may be: plain facts. No walk. -/
namespace Go.Proofs.Ytgmojjclobkpjaa
set_option linter.all false
open Go.RowKit
theorem emp_of_size {s : ByteArray} (h : s.size = 0) : s = emp := bytes_ext (by
  have : s.data.toList.length = 0 := by rw [Array.length_toList]; exact h
  rw [List.eq_nil_of_length_eq_zero this]; rfl)
/-- A command with the key "k" that has what its kind has. -/
theorem cc_lit {k : Int} {f t : ByteArray} {n : Int} (h1 : 1 ≤ k) (h2 : k ≤ 21) (hf : if cmdField k = true then 1 ≤ f.size ∧ f.size ≤ 12 else f = emp) (ht : if cmdText k = true then t.size ≤ 20 else t = emp)
    (hn : if cmdN k = true then -1099511627776 ≤ n ∧ n ≤ 1099511627776 else n = 0) : ccOf ⟨k, { data := #[107] }, f, t, n⟩ = 0 := by
  have hkey : cmdKey k = true := by unfold cmdKey; rw [Bool.not_eq_true', beq_eq_false_iff_ne]; omega
  have hb : bare k { data := #[107] } f t n = true := by
    unfold bare
    rw [hkey]
    simp only [Bool.true_or, Bool.true_and, Bool.and_eq_true, Bool.or_eq_true]
    refine ⟨⟨?_, ?_⟩, ?_⟩
    · by_cases h : cmdField k = true
      · exact .inl h
      · rw [if_neg h] at hf; subst hf; exact .inr (by rw [emp_list]; rfl)
    · by_cases h : cmdText k = true
      · exact .inl h
      · rw [if_neg h] at ht; subst ht; exact .inr (by rw [emp_list]; rfl)
    · by_cases h : cmdN k = true
      · exact .inl h
      · rw [if_neg h] at hn; subst hn; exact .inr rfl
  have htt : textOk t = true := by
    rw [textOk_iff]
    split at ht
    · exact ht
    · rw [ht]; exact Nat.zero_le _
  have hff : cmdField k = true → fieldOk f = true := fun h => by rw [if_pos h] at hf; exact fieldOk_iff.2 hf
  have hnn : countOk n = true := by
    rw [countOk_iff]
    split at hn
    · exact hn
    · omega
  unfold ccOf checkCommand
  simp only
  rw [if_neg (by omega), if_neg (by rw [hb]; simp), if_neg, if_neg (by rw [hnn]; simp)]
  rintro (⟨_, h⟩ | ⟨h, h'⟩ | h)
  · exact absurd h (by decide)
  · rw [hff h] at h'; cases h'
  · rw [htt] at h; cases h
section
variable {v : Va} {c : Cmd}
theorem done_put (h : May v) (hc : ccOf c = 0) (hk : c.kind = 1) : doneVal v c = (⟨1, c.text, 0, [], [], []⟩, toldR 0, 0) := by
  rcases h with rfl | h
  · rw [done_zero hc (by omega), if_neg (by rw [hk]; decide), doVal_put hk, behind_ok rfl (by simp)]
  · rw [done_some h hc (by omega), if_neg (by rw [wrong_put hk]; simp), doVal_put hk, behind_ok rfl (by simp)]
theorem done_get (h : Good v) (hv : v.kind = 1) (hc : ccOf c = 0) (hk : c.kind = 2) : doneVal v c = (v, textR v.text, 0) := by
  rw [done_some h hc (by omega), if_neg (by rw [wrong_not (by rw [hk, hv]; decide) (by omega)]; simp), doVal_get hk, behind_same h]
theorem done_add (h : Good v) (hv : v.kind = 2) (hc : ccOf c = 0) (hk : c.kind = 3) :
    doneVal v c = if countOk (v.count + c.n) = true then ({ v with count := v.count + c.n }, toldR (v.count + c.n), 0) else (v, failR 7, 0) := by
  rw [done_some h hc (by omega), if_neg (by rw [wrong_not (by rw [hk, hv]; decide) (by omega)]; simp), doVal_add hk]
  unfold doAdd
  by_cases ho : countOk (v.count + c.n) = true
  · rw [if_pos ho, if_pos ho, behind_ok rfl (by simp only [hv]; omega)]
  · rw [if_neg ho, if_neg ho, behind_bad (by simp [failR])]
theorem done_add0 (hc : ccOf c = 0) (hk : c.kind = 3) : doneVal zeroVa c = (⟨2, emp, c.n, [], [], []⟩, toldR c.n, 0) := by
  have hn := (cc_fit hc).n
  rw [done_zero hc (by omega), if_neg (by rw [hk]; decide), doVal_add hk]
  unfold doAdd
  have e : ({ zeroVa with kind := kindC c.kind } : Va).count + c.n = c.n := by simp [zeroVa]
  have ho : countOk c.n = true := countOk_iff.2 hn
  rw [e, if_pos ho, hk, behind_ok rfl (by simp [kindC])]
  rfl
theorem done_len (h : Good v) (hv : 3 ≤ v.kind) (hc : ccOf c = 0) (hk : c.kind = 17) : doneVal v c = (v, toldR v.size, 0) := by
  rw [done_some h hc (by omega), if_neg (by rw [wrong_look (.inl hk) hv]; simp), doVal_len hk, behind_same h]
theorem done_all (h : Good v) (hv : 3 ≤ v.kind) (hc : ccOf c = 0) (hk : c.kind = 18) : doneVal v c = (v, ⟨0, emp, 0, allOf v⟩, 0) := by
  rw [done_some h hc (by omega), if_neg (by rw [wrong_look (.inr hk) hv]; simp), doVal_all hk, behind_same h]
theorem done_wrong (h : Good v) (hc : ccOf c = 0) (hk : c.kind ≤ 18) (hw : wrongKind v c = true) : doneVal v c = (v, failR 4, 0) := by rw [done_some h hc hk, if_pos hw]
theorem done_right (h : Good v) (hc : ccOf c = 0) (hk : c.kind ≤ 18) (hw : wrongKind v c = false) : doneVal v c = ((behind v (doVal v c)).1, (behind v (doVal v c)).2, 0) := by rw [done_some h hc hk, if_neg (by simp [hw])]
theorem done_none (hc : ccOf c = 0) (hk : c.kind ≤ 18) (hm : makesC c.kind = false) : doneVal zeroVa c = (zeroVa, failR 5, 0) := by rw [done_zero hc hk, if_pos hm]
theorem done_made (hc : ccOf c = 0) (hm : makesC c.kind = true) : (doneVal zeroVa c).2.2 = 0 ∧ Good (doneVal zeroVa c).1 ∧ (doneVal zeroVa c).2.1.code = 0 := by
  obtain ⟨a, b, _⟩ := make_step (.inl rfl) hc hm
  have hk : c.kind ≤ 18 := by
    unfold makesC at hm
    simp only [Bool.or_eq_true, beq_iff_eq] at hm
    omega
  refine ⟨a, b, ?_⟩
  rw [done_zero hc hk, if_neg (by simp [hm])]
  have q := make_first hm (cc_fit hc).n
  show (behind zeroVa _).2.code = 0
  unfold behind
  rw [if_neg (by simpa using q)]
  split <;> exact q
def Coded (r : Re) : Prop := r.code = 0 ∨ ∃ k, r = failR k ∧ (k = 5 ∨ k = 6 ∨ k = 7)
theorem Coded.ok {r : Re} (h : r.code = 0) : Coded r := .inl h
theorem Coded.no {k : Int} (h : k = 5 ∨ k = 6 ∨ k = 7) : Coded (failR k) := .inr ⟨k, rfl, h⟩
/-- What a command tells: it is done, or why not. -/
theorem doVal_code (v : Va) (c : Cmd) : Coded (doVal v c).2 := by
  unfold doVal
  split
  · exact .ok rfl
  split
  · exact .ok rfl
  split
  · unfold doAdd; split <;> first | exact .ok rfl | exact .no (by omega)
  split
  · exact .ok rfl
  split
  · exact .ok rfl
  split
  · unfold doHash; (repeat' split) <;> first | exact .ok rfl | exact .no (by omega)
  split
  · unfold doList; (repeat' split) <;> first | exact .ok rfl | exact .no (by omega)
  split
  · unfold doSet; (repeat' split) <;> first | exact .ok rfl | exact .no (by omega)
  · unfold doRank; (repeat' split) <;> first | exact .ok rfl | exact .no (by omega)
theorem behind_re (v : Va) (r : Va × Re) : (behind v r).2 = r.2 := by unfold behind; (repeat' split) <;> rfl
theorem behind_kept {v : Va} {r : Va × Re} (h : r.2.code ≠ 0) : (behind v r).1 = v := by rw [behind_bad h]
/-- A value that may be, and what is done with it: refused for its kind; done; or refused and kept. -/
theorem done_ways (h : Good v) (hc : ccOf c = 0) (hk : c.kind ≤ 18) :
    (wrongKind v c = true ∧ doneVal v c = (v, failR 4, 0)) ∨ (wrongKind v c = false ∧ (doneVal v c).2.2 = 0 ∧ ((doneVal v c).2.1.code = 0 ∨ ∃ k, doneVal v c = (v, failR k, 0) ∧ (k = 5 ∨ k = 6 ∨ k = 7))) := by
  cases hw : wrongKind v c with
  | true => exact .inl ⟨rfl, done_wrong h hc hk hw⟩
  | false =>
    refine .inr ⟨rfl, ?_⟩
    rw [done_right h hc hk hw]
    refine ⟨rfl, ?_⟩
    rcases doVal_code v c with h0 | ⟨k, h1, h2⟩
    · exact .inl (by show (behind v _).2.code = 0; rw [behind_re]; exact h0)
    · refine .inr ⟨k, ?_, h2⟩
      have hne : (doVal v c).2.code ≠ 0 := by rw [h1]; simp only [failR]; omega
      rw [behind_bad hne, h1]
end
theorem allOf_length (v : Va) : (allOf v).length = v.size := by unfold allOf Va.size; simp; omega
/-- Kinds from three on. -/
theorem kindV_two {p : Int} (h0 : 0 ≤ p) (h1 : p < 4) : kindV (2 + p) = 3 + p := by unfold kindV; rw [picked_self (by omega) (by omega)]; omega
theorem count_good {n : Int} (h1 : -1099511627776 ≤ n) (h2 : n ≤ 1099511627776) : Good ⟨2, emp, n, [], [], []⟩ := by
  refine ok_good ⟨by simp, by simp, .inr rfl, .inl rfl, .inr rfl, .inr (.inr rfl), .inr rfl, by simp, by simp, by simp, Nat.zero_le _, by simp, by simp, by simp, ⟨h1, h2⟩, by simp, by simp, by simp, by simp, by simp⟩ (fun h => by simp at h)
theorem cc_add {n : Int} (h1 : -1099511627776 ≤ n) (h2 : n ≤ 1099511627776) : ccOf ⟨3, { data := #[107] }, { data := #[] }, { data := #[] }, n⟩ = 0 :=
  cc_lit (by omega) (by omega) (by rw [if_neg (by decide)]; rfl) (by rw [if_neg (by decide)]; rfl) (by rw [if_pos (by decide)]; exact ⟨h1, h2⟩)
theorem add_first {n : Int} (h1 : -1099511627776 ≤ n) (h2 : n ≤ 1099511627776) : doneVal zeroVa ⟨3, { data := #[107] }, { data := #[] }, { data := #[] }, n⟩ = (⟨2, emp, n, [], [], []⟩, toldR n, 0) := done_add0 (cc_add h1 h2) rfl
theorem add_next {m n : Int} (h1 : -1099511627776 ≤ n) (h2 : n ≤ 1099511627776) (m1 : -1099511627776 ≤ m) (m2 : m ≤ 1099511627776) :
    doneVal ⟨2, emp, m, [], [], []⟩ ⟨3, { data := #[107] }, { data := #[] }, { data := #[] }, n⟩ = if -1099511627776 ≤ m + n ∧ m + n ≤ 1099511627776 then (⟨2, emp, m + n, [], [], []⟩, toldR (m + n), 0) else (⟨2, emp, m, [], [], []⟩, failR 7, 0) := by
  rw [done_add (count_good m1 m2) rfl (cc_add h1 h2) rfl]
  by_cases h : -1099511627776 ≤ m + n ∧ m + n ≤ 1099511627776
  · rw [if_pos h, if_pos (countOk_iff.2 h)]
  · rw [if_neg h, if_neg (fun hh => h (countOk_iff.1 hh))]
theorem doVal_items (v : Va) (c : Cmd) : (doVal v c).1.items.length ≤ v.items.length + 1 := by
  unfold doVal
  split
  · simp
  split
  · simp
  split
  · unfold doAdd; split <;> simp
  split
  · simp
  split
  · simp
  split
  · unfold doHash; (repeat' split) <;> simp
  split
  · unfold doList; (repeat' split) <;> simp [ins_len'] <;> omega
  split
  · unfold doSet
    have := del_len v.items (textAt c.text v.items)
    (repeat' split) <;> simp [ins_len'] <;> omega
  · unfold doRank; (repeat' split) <;> simp
theorem done_items (v : Va) (c : Cmd) : (doneVal v c).1.items.length ≤ v.items.length + 1 := by
  unfold doneVal
  have hz : zeroVa.items.length = 0 := rfl
  have hk : (doneKind v c).items = v.items := by unfold doneKind; split <;> rfl
  have hd := doVal_items (doneKind v c) c
  rw [hk] at hd
  (repeat' split) <;> (try simp only) <;> try omega
  unfold behind
  (repeat' split) <;> (try simp only) <;> omega
theorem stepV_items (kind : Int) (v : Va) (r : RawD) : (stepV kind v r).items.length ≤ v.items.length + 1 := by
  unfold stepV
  split
  · exact done_items _ _
  · omega
theorem fold_items (kind : Int) : ∀ (l : List RawD) (v : Va), (l.foldl (stepV kind) v).items.length ≤ v.items.length + l.length
  | [], v => by simp
  | r :: l, v => by
    have h1 := fold_items kind l (stepV kind v r)
    have h2 := stepV_items kind v r
    simp only [List.foldl_cons, List.length_cons]
    omega
theorem fullOf_items (kind : Int) (l : List RawD) : (fullOf kind l).items.length ≤ l.length + 1 := by
  unfold fullOf valueOf
  have := fold_items kind ((firstRaw :: l).take 24) zeroVa
  have h2 : ((firstRaw :: l).take 24).length ≤ l.length + 1 := by rw [List.length_take]; simp; omega
  have hz : zeroVa.items.length = 0 := rfl
  omega
section
variable {v : Va} {c : Cmd}
theorem done_push (h : Good v) (hv : v.kind = 4) (hl : v.items.length < 20) (hc : ccOf c = 0) (hk : c.kind = 7) : doneVal v c = ({ v with items := v.items ++ [c.text] }, toldR (v.items.length + 1), 0) := by
  rw [done_right h hc (by omega) (wrong_not (by rw [hk, hv]; decide) (by omega)), doVal_list (by omega) hv]
  unfold doList
  rw [if_pos hk, if_neg (by omega), behind_ok rfl (fun _ => by unfold Va.size; simp only [List.length_append, List.length_singleton]; omega)]
theorem done_front (h : Good v) (hv : v.kind = 4) (hl : v.items.length < 20) (hc : ccOf c = 0) (hk : c.kind = 8) : doneVal v c = ({ v with items := c.text :: v.items }, toldR (v.items.length + 1), 0) := by
  rw [done_right h hc (by omega) (wrong_not (by rw [hk, hv]; decide) (by omega)), doVal_list (by omega) hv]
  unfold doList
  have e : insRows v.items 0 c.text = c.text :: v.items := by simp [insRows]
  rw [if_neg (by omega), if_pos hk, if_neg (by omega), behind_ok rfl (fun _ => by unfold Va.size; simp only [ins_len']; omega), e]
theorem done_pfull (h : Good v) (hv : v.kind = 4) (hl : v.items.length = 20) (hc : ccOf c = 0) (hk : c.kind = 7 ∨ c.kind = 8) : doneVal v c = (v, failR 6, 0) := by
  rw [done_right h hc (by omega) (wrong_not (by rw [kindC_list (by omega), hv]) (by omega)), doVal_list (by omega) hv]
  unfold doList
  rcases hk with hk | hk
  · rw [if_pos hk, if_pos hl, behind_bad (by simp [failR])]
  · rw [if_neg (by omega), if_pos hk, if_pos hl, behind_bad (by simp [failR])]
/-- Taken from behind, from ahead; the last one leaves nothing. -/
theorem done_pop (h : Good v) (hv : v.kind = 4) (hc : ccOf c = 0) (hk : c.kind = 9) :
    doneVal v c = (if v.items.length = 1 then zeroVa else { v with items := v.items.take (v.items.length - 1) }, textR ((v.items[v.items.length - 1]?).getD emp), 0) := by
  have hs := good_size h (by omega)
  obtain ⟨_, _, f3, f4, f5⟩ := h.forms
  have e1 : v.pairs.length = 0 := by omega
  have e2 : v.scores.length = 0 := by omega
  unfold Va.size at hs
  rw [done_right h hc (by omega) (wrong_not (by rw [hk, hv]; decide) (by omega)), doVal_list (by omega) hv]
  unfold doList
  rw [if_neg (by omega), if_neg (by omega), if_pos hk]
  by_cases h1 : v.items.length = 1
  · rw [if_pos h1, behind_gone rfl (by simp only [hv]; omega) (by unfold Va.size; simp only [List.length_take]; omega)]
  · rw [if_neg h1, behind_ok rfl (fun _ => by unfold Va.size; simp only [List.length_take]; omega)]
theorem done_shift (h : Good v) (hv : v.kind = 4) (hc : ccOf c = 0) (hk : c.kind = 10) :
    doneVal v c = (if v.items.length = 1 then zeroVa else { v with items := v.items.drop 1 }, textR ((v.items[0]?).getD emp), 0) := by
  have hs := good_size h (by omega)
  obtain ⟨_, _, f3, f4, f5⟩ := h.forms
  have e1 : v.pairs.length = 0 := by omega
  have e2 : v.scores.length = 0 := by omega
  unfold Va.size at hs
  rw [done_right h hc (by omega) (wrong_not (by rw [hk, hv]; decide) (by omega)), doVal_list (by omega) hv]
  unfold doList
  rw [if_neg (by omega), if_neg (by omega), if_neg (by omega)]
  by_cases h1 : v.items.length = 1
  · rw [if_pos h1, behind_gone rfl (by simp only [hv]; omega) (by unfold Va.size; simp only [List.length_drop]; omega)]
  · rw [if_neg h1, behind_ok rfl (fun _ => by unfold Va.size; simp only [List.length_drop]; omega)]
theorem list_size (h : Good v) (hv : v.kind = 4) : 1 ≤ v.items.length ∧ v.items.length ≤ 20 := by
  have hs := good_size h (by omega)
  obtain ⟨_, _, f3, f4, f5⟩ := h.forms
  have := h.sizes
  unfold Va.size at hs
  omega
end
section
variable {v : Va} {c : Cmd}
theorem zero_with (k : Int) : ({ zeroVa with kind := k } : Va) = ⟨k, emp, 0, [], [], []⟩ := rfl
theorem hash_forms (h : Good v) (hv : v.kind = 3) : v.size = v.pairs.length ∧ 1 ≤ v.pairs.length ∧ v.pairs.length ≤ 20 := by
  have hs := good_size h (by omega)
  obtain ⟨_, _, f3, f4, f5⟩ := h.forms
  have := h.sizes
  unfold Va.size at hs ⊢
  omega
theorem set_forms (h : Good v) (hv : v.kind = 5) : v.size = v.items.length ∧ 1 ≤ v.items.length ∧ v.items.length ≤ 20 := by
  have hs := good_size h (by omega)
  obtain ⟨_, _, f3, f4, f5⟩ := h.forms
  have := h.sizes
  unfold Va.size at hs ⊢
  omega
theorem rank_forms (h : Good v) (hv : v.kind = 6) : v.size = v.scores.length ∧ 1 ≤ v.scores.length ∧ v.scores.length ≤ 20 := by
  have hs := good_size h (by omega)
  obtain ⟨_, _, f3, f4, f5⟩ := h.forms
  have := h.sizes
  unfold Va.size at hs ⊢
  omega
theorem done_hset (h : Good v) (hv : v.kind = 3) (hc : ccOf c = 0) (hk : c.kind = 4) : doneVal v c =
    if pairHas c.field v.pairs = true then ({ v with pairs := v.pairs.set (pairAt c.field v.pairs) ⟨c.field, c.text⟩ }, toldR 0, 0)
    else if v.pairs.length = 20 then (v, failR 6, 0) else ({ v with pairs := insRows v.pairs (pairAt c.field v.pairs) ⟨c.field, c.text⟩ }, toldR 1, 0) := by
  have hf := hash_forms h hv
  unfold Va.size at hf
  rw [done_right h hc (by omega) (wrong_not (by rw [hk, hv]; decide) (by omega)), doVal_hash (by omega) hv]
  unfold doHash
  rw [if_pos hk]
  by_cases hp : pairHas c.field v.pairs = true
  · rw [if_pos hp, if_pos hp, behind_ok rfl (fun _ => by unfold Va.size; simp only [List.length_set]; omega)]
  · rw [if_neg hp, if_neg hp]
    by_cases h20 : v.pairs.length = 20
    · rw [if_pos h20, if_pos h20, behind_bad (by simp [failR])]
    · rw [if_neg h20, if_neg h20, behind_ok rfl (fun _ => by unfold Va.size; simp only [ins_len']; omega)]
theorem done_hget (h : Good v) (hv : v.kind = 3) (hc : ccOf c = 0) (hk : c.kind = 5) : doneVal v c =
    if pairHas c.field v.pairs = true then (v, textR (pairText v.pairs (pairAt c.field v.pairs)), 0) else (v, failR 5, 0) := by
  rw [done_right h hc (by omega) (wrong_not (by rw [hk, hv]; decide) (by omega)), doVal_hash (by omega) hv]
  unfold doHash
  rw [if_neg (by omega), if_pos hk]
  by_cases hp : pairHas c.field v.pairs = true
  · rw [if_pos hp, if_pos hp, behind_same h]
  · rw [if_neg hp, if_neg hp, behind_same h]
theorem done_hdel (h : Good v) (hv : v.kind = 3) (hc : ccOf c = 0) (hk : c.kind = 6) : doneVal v c =
    if pairHas c.field v.pairs = true then (if v.pairs.length = 1 then zeroVa else { v with pairs := delRows v.pairs (pairAt c.field v.pairs) }, toldR 1, 0) else (v, toldR 0, 0) := by
  have hf := hash_forms h hv
  unfold Va.size at hf
  rw [done_right h hc (by omega) (wrong_not (by rw [hk, hv]; decide) (by omega)), doVal_hash (by omega) hv]
  unfold doHash
  rw [if_neg (by omega), if_neg (by omega)]
  by_cases hp : pairHas c.field v.pairs = true
  · rw [if_pos hp, if_pos hp]
    have hl := del_len' v.pairs (pairHas_lt hp)
    by_cases h1 : v.pairs.length = 1
    · rw [if_pos h1, behind_gone rfl (by simp only [hv]; omega) (by unfold Va.size; simp only [hl]; omega)]
    · rw [if_neg h1, behind_ok rfl (fun _ => by unfold Va.size; simp only [hl]; omega)]
  · rw [if_neg hp, if_neg hp, behind_same h]
theorem done_hset0 (hc : ccOf c = 0) (hk : c.kind = 4) : doneVal zeroVa c = (⟨3, emp, 0, [⟨c.field, c.text⟩], [], []⟩, toldR 1, 0) := by
  rw [done_zero hc (by omega), if_neg (by rw [hk]; decide), doVal_hash (by omega) (kindC_hash (by omega)), zero_with, kindC_hash (by omega)]
  unfold doHash
  rw [if_pos hk, if_neg (by simp [pairHas, foundAt]), if_neg (by simp), behind_ok rfl (fun _ => by unfold Va.size; simp only [ins_len']; omega)]
  simp [insRows]
theorem done_sadd (h : Good v) (hv : v.kind = 5) (hc : ccOf c = 0) (hk : c.kind = 11) : doneVal v c =
    if textHas c.text v.items = true then (v, toldR 0, 0)
    else if v.items.length = 20 then (v, failR 6, 0) else ({ v with items := insRows v.items (textAt c.text v.items) c.text }, toldR 1, 0) := by
  rw [done_right h hc (by omega) (wrong_not (by rw [hk, hv]; decide) (by omega)), doVal_set (by omega) hv]
  unfold doSet
  rw [if_pos hk]
  by_cases hp : textHas c.text v.items = true
  · rw [if_pos hp, if_pos hp, behind_same h]
  · rw [if_neg hp, if_neg hp]
    by_cases h20 : v.items.length = 20
    · rw [if_pos h20, if_pos h20, behind_bad (by simp [failR])]
    · rw [if_neg h20, if_neg h20, behind_ok rfl (fun _ => by unfold Va.size; simp only [ins_len']; omega)]
theorem done_srem (h : Good v) (hv : v.kind = 5) (hc : ccOf c = 0) (hk : c.kind = 12) : doneVal v c =
    if textHas c.text v.items = true then (if v.items.length = 1 then zeroVa else { v with items := delRows v.items (textAt c.text v.items) }, toldR 1, 0) else (v, toldR 0, 0) := by
  have hf := set_forms h hv
  unfold Va.size at hf
  rw [done_right h hc (by omega) (wrong_not (by rw [hk, hv]; decide) (by omega)), doVal_set (by omega) hv]
  unfold doSet
  rw [if_neg (by omega), if_pos hk]
  by_cases hp : textHas c.text v.items = true
  · rw [if_pos hp, if_pos hp]
    have hl := del_len' v.items (textHas_lt hp)
    by_cases h1 : v.items.length = 1
    · rw [if_pos h1, behind_gone rfl (by simp only [hv]; omega) (by unfold Va.size; simp only [hl]; omega)]
    · rw [if_neg h1, behind_ok rfl (fun _ => by unfold Va.size; simp only [hl]; omega)]
  · rw [if_neg hp, if_neg hp, behind_same h]
theorem done_shas (h : Good v) (hv : v.kind = 5) (hc : ccOf c = 0) (hk : c.kind = 13) : doneVal v c = (v, toldR (flagI (textHas c.text v.items)), 0) := by
  rw [done_right h hc (by omega) (wrong_not (by rw [hk, hv]; decide) (by omega)), doVal_set (by omega) hv]
  unfold doSet
  rw [if_neg (by omega), if_neg (by omega), behind_same h]
theorem done_sadd0 (hc : ccOf c = 0) (hk : c.kind = 11) : doneVal zeroVa c = (⟨5, emp, 0, [], [c.text], []⟩, toldR 1, 0) := by
  rw [done_zero hc (by omega), if_neg (by rw [hk]; decide), doVal_set (by omega) (kindC_set (by omega)), zero_with, kindC_set (by omega)]
  unfold doSet
  rw [if_pos hk, if_neg (by simp [textHas, foundAt]), if_neg (by simp), behind_ok rfl (fun _ => by unfold Va.size; simp only [ins_len']; omega)]
  simp [insRows]
theorem done_list0 (hc : ccOf c = 0) (hk : c.kind = 7 ∨ c.kind = 8) : doneVal zeroVa c = (⟨4, emp, 0, [], [c.text], []⟩, toldR 1, 0) := by
  have hm : makesC c.kind = true := by rcases hk with h | h <;> rw [h] <;> decide
  rw [done_zero hc (by omega), if_neg (by simp [hm]), doVal_list (by omega) (kindC_list (by omega)), zero_with, kindC_list (by omega)]
  unfold doList
  rcases hk with hk | hk
  · rw [if_pos hk, if_neg (by simp), behind_ok rfl (fun _ => by unfold Va.size; simp only [List.length_append, List.length_singleton]; omega)]
    simp
  · rw [if_neg (by omega), if_pos hk, if_neg (by simp), behind_ok rfl (fun _ => by unfold Va.size; simp only [ins_len']; omega)]
    simp [insRows]
theorem done_zadd0 (hc : ccOf c = 0) (hk : c.kind = 14) : doneVal zeroVa c = (⟨6, emp, 0, [], [], [⟨c.text, c.n⟩]⟩, toldR 1, 0) := by
  rw [done_zero hc (by omega), if_neg (by rw [hk]; decide), doVal_rank (by omega) (kindC_rank (by omega)), zero_with, kindC_rank (by omega)]
  unfold doRank
  have hn : memberAt c.text ([] : List Sc) = none := rfl
  simp only [hn]
  rw [if_neg (by omega), if_pos hk, if_neg (by simp), behind_ok rfl (fun _ => by unfold Va.size; simp only [putScore, ins_len']; omega)]
  simp [putScore, insRows]
theorem done_zadd (h : Good v) (hv : v.kind = 6) (hc : ccOf c = 0) (hk : c.kind = 14) : doneVal v c =
    match memberAt c.text v.scores with
    | none => if v.scores.length = 20 then (v, failR 6, 0) else ({ v with scores := putScore v.scores ⟨c.text, c.n⟩ }, toldR 1, 0)
    | some k => ({ v with scores := putScore (delRows v.scores k) ⟨c.text, c.n⟩ }, toldR 0, 0) := by
  rw [done_right h hc (by omega) (wrong_not (by rw [hk, hv]; decide) (by omega)), doVal_rank (by omega) hv]
  unfold doRank
  cases hm : memberAt c.text v.scores with
  | none =>
    simp only
    rw [if_neg (by omega), if_pos hk]
    by_cases h20 : v.scores.length = 20
    · rw [if_pos h20, if_pos h20, behind_bad (by simp [failR])]
    · rw [if_neg h20, if_neg h20, behind_ok rfl (fun _ => by unfold Va.size; simp only [putScore, ins_len']; omega)]
  | some k =>
    simp only
    rw [if_neg (by omega), if_pos hk, behind_ok rfl (fun _ => by unfold Va.size; simp only [putScore, ins_len']; omega)]
theorem done_zrem (h : Good v) (hv : v.kind = 6) (hc : ccOf c = 0) (hk : c.kind = 15) {k : Nat} (hm : memberAt c.text v.scores = some k) : doneVal v c =
    (if v.scores.length = 1 then zeroVa else { v with scores := delRows v.scores k }, toldR 1, 0) := by
  have hf := rank_forms h hv
  unfold Va.size at hf
  rw [done_right h hc (by omega) (wrong_not (by rw [hk, hv]; decide) (by omega)), doVal_rank (by omega) hv]
  unfold doRank
  simp only [hm]
  have hl := del_len' v.scores (memberAt_lt hm)
  rw [if_neg (by omega), if_neg (by omega)]
  by_cases h1 : v.scores.length = 1
  · rw [if_pos h1, behind_gone rfl (by simp only [hv]; omega) (by unfold Va.size; simp only [hl]; omega)]
  · rw [if_neg h1, behind_ok rfl (fun _ => by unfold Va.size; simp only [hl]; omega)]
theorem done_zrank (h : Good v) (hv : v.kind = 6) (hc : ccOf c = 0) (hk : c.kind = 16) : doneVal v c =
    match memberAt c.text v.scores with | none => (v, failR 5, 0) | some k => (v, toldR k, 0) := by
  rw [done_right h hc (by omega) (wrong_not (by rw [hk, hv]; decide) (by omega)), doVal_rank (by omega) hv]
  unfold doRank
  cases hm : memberAt c.text v.scores with
  | none => simp only; rw [if_pos hk, behind_same h]
  | some k => simp only; rw [if_pos hk, behind_same h]
end
theorem pairAt_self (f t : ByteArray) : pairAt f [⟨f, t⟩] = 0 := by unfold pairAt; rw [lowB_cons, cmpB_self]; simp
theorem textAt_self (t : ByteArray) : textAt t [t] = 0 := by unfold textAt; rw [lowB_cons, cmpB_self]; simp
theorem pairHas_self (f t : ByteArray) : pairHas f [⟨f, t⟩] = true := by unfold pairHas; rw [pairAt_self]; simp [foundAt, cmpB_self]
theorem textHas_self (t : ByteArray) : textHas t [t] = true := by unfold textHas; rw [textAt_self]; simp [foundAt, cmpB_self]
theorem memberAt_self (t : ByteArray) (n : Int) : memberAt t [⟨t, n⟩] = some 0 := by unfold memberAt; simp [List.findIdx?_cons]
theorem one_hash {f t : ByteArray} (hf : 1 ≤ f.size ∧ f.size ≤ 12) (ht : t.size ≤ 20) : Good ⟨3, emp, 0, [⟨f, t⟩], [], []⟩ :=
  ok_good ⟨by simp, by simp, .inr rfl, .inr rfl, .inl rfl, .inr (.inr rfl), .inr rfl, by simp, by simp, by simp, Nat.zero_le _, by simp, by intro x hx; simp only [List.mem_singleton] at hx; subst hx; exact ⟨hf, ht⟩, by simp, by simp, by simp, by simp, by simp, by simp, by simp⟩ (fun _ => by simp [Va.size])
theorem one_items {t : ByteArray} {k : Int} (hk : k = 4 ∨ k = 5) (ht : t.size ≤ 20) : Good ⟨k, emp, 0, [], [t], []⟩ :=
  ok_good ⟨by simp; omega, by simp; omega, .inr rfl, .inr rfl, .inr rfl, by simp; omega, .inr rfl, by simp, by simp, by simp, Nat.zero_le _, by intro x hx; simp only [List.mem_singleton] at hx; subst hx; exact ht, by simp, by simp, by simp, by simp, by simp, by simp, by simp, by simp⟩ (fun _ => by simp [Va.size])
theorem one_rank {t : ByteArray} {n : Int} (ht : t.size ≤ 20) (hn : -1099511627776 ≤ n ∧ n ≤ 1099511627776) : Good ⟨6, emp, 0, [], [], [⟨t, n⟩]⟩ :=
  ok_good ⟨by simp, by simp, .inr rfl, .inr rfl, .inr rfl, .inr (.inr rfl), .inl rfl, by simp, by simp, by simp, Nat.zero_le _, by simp, by simp, by intro x hx; simp only [List.mem_singleton] at hx; subst hx; exact ht, by simp, by intro x hx; simp only [List.mem_singleton] at hx; subst hx; exact hn, by simp, by simp, by simp, by simp⟩ (fun _ => by simp [Va.size])
theorem mem_put {l : List Sc} {s x : Sc} (h : x ∈ putScore l s) : x = s ∨ x ∈ l := mem_ins.1 h
theorem doVal_scores (v : Va) (c : Cmd) : ∀ x ∈ (doVal v c).1.scores, x ∈ v.scores ∨ x.member = c.text := by
  have keep : ∀ x ∈ v.scores, x ∈ v.scores ∨ x.member = c.text := fun x h => .inl h
  unfold doVal
  split
  · intro x hx; simp at hx
  split
  · exact keep
  split
  · unfold doAdd; split <;> exact keep
  split
  · exact keep
  split
  · exact keep
  split
  · unfold doHash; (repeat' split) <;> exact keep
  split
  · unfold doList; (repeat' split) <;> exact keep
  split
  · unfold doSet; (repeat' split) <;> exact keep
  · unfold doRank
    split
    · split
      · exact keep
      split
      · split
        · exact keep
        · intro x hx
          rcases mem_put hx with rfl | hx
          · exact .inr rfl
          · exact .inl hx
      · exact keep
    · split
      · exact keep
      split
      · intro x hx
        rcases mem_put hx with rfl | hx
        · exact .inr rfl
        · exact .inl (mem_del hx)
      · exact fun x hx => .inl (mem_del hx)
theorem done_scores (v : Va) (c : Cmd) : ∀ x ∈ (doneVal v c).1.scores, x ∈ v.scores ∨ x.member = c.text := by
  have keep : ∀ x ∈ v.scores, x ∈ v.scores ∨ x.member = c.text := fun x h => .inl h
  have hz : ∀ x ∈ zeroVa.scores, x ∈ v.scores ∨ x.member = c.text := fun x h => by simp [zeroVa] at h
  have hk : (doneKind v c).scores = v.scores := by unfold doneKind; split <;> rfl
  have hd := doVal_scores (doneKind v c) c
  rw [hk] at hd
  unfold doneVal
  split
  · exact hz
  split
  · exact hz
  split
  · exact hz
  split
  · exact keep
  split
  · exact keep
  unfold behind
  split
  · exact keep
  split
  · exact hz
  · exact hd
theorem maker_text (kind : Int) (r : RawD) : (makerC kind r).text.size ≤ 6 := by
  have h1 := some_size r.n
  have h2 := cut_size r.text 6
  unfold makerC cmdOf
  simp only
  (repeat' split) <;> first | omega | exact Nat.zero_le _
theorem fold_members (kind : Int) : ∀ (l : List RawD) (v : Va), (∀ x ∈ v.scores, x.member.size ≤ 6) → ∀ x ∈ (l.foldl (stepV kind) v).scores, x.member.size ≤ 6
  | [], v, h => h
  | r :: l, v, h => fold_members kind l _ (by
    unfold stepV
    split
    · intro x hx
      rcases done_scores _ _ x hx with hx | hx
      · exact h x hx
      · rw [hx]; exact maker_text kind r
    · exact h)
theorem fullOf_members (kind : Int) (l : List RawD) : ∀ x ∈ (fullOf kind l).scores, x.member.size ≤ 6 := fold_members kind _ _ (by simp [zeroVa])
theorem kindV_five : kindV 5 = 6 := by decide
/-- The place of a member, each of which stands once. -/
theorem memberAt_of {l : List Sc} (h : l.Pairwise Rm) {i : Nat} (hi : i < l.length) : memberAt l[i].member l = some i := by
  unfold memberAt
  rw [List.findIdx?_eq_some_iff_getElem]
  refine ⟨hi, by simp, fun j hj => ?_⟩
  rw [List.pairwise_iff_getElem] at h
  have := h j i (by omega) hi hj
  intro e
  exact this (eqb_iff.1 e)
theorem memberAt_long {l : List Sc} {m : ByteArray} (h : ∀ x ∈ l, x.member.size ≤ 6) (hm : 6 < m.size) : memberAt m l = none := by
  unfold memberAt
  rw [List.findIdx?_eq_none_iff]
  intro x hx
  have := h x hx
  cases he : (x.member.toList == m.toList) with
  | false => rfl
  | true => rw [eqb_iff] at he; rw [he] at this; omega
/-- Two neighbours, as the law asks of them. -/
theorem rs_next {l : List Sc} (h : l.Pairwise Rs) {j : Nat} (hj : j + 1 < l.length) : l[j].n < l[j + 1].n ∨ (l[j].n = l[j + 1].n ∧ Op.bytesLess l[j].member.toList l[j + 1].member.toList = true) := by
  rw [List.pairwise_iff_getElem] at h
  have := h j (j + 1) (by omega) hj (by omega)
  unfold Rs at this
  rw [cmpS_lt] at this
  rcases this with h | ⟨h1, h2⟩
  · exact .inl h
  · exact .inr ⟨h1, by rw [cmpB_less]; exact decide_eq_true h2⟩
theorem put_len (l : List Sc) (s : Sc) : (putScore l s).length = l.length + 1 := ins_len l _ s
theorem mem_put_self (l : List Sc) (s : Sc) : s ∈ putScore l s := mem_ins.2 (.inl rfl)
/-- A member is given another number. -/
theorem rank_moves {V : Va} (h : Good V) (hv : V.kind = 6) {j : Nat} (hj : j < V.scores.length) {k : Int} (k1 : -1099511627776 ≤ k) (k2 : k ≤ 1099511627776) :
    ∃ (U X : Va) (q : Nat) (hq : q < U.scores.length), Good U ∧ U.kind = 6 ∧ U.scores.length = V.scores.length ∧ X.scores.length + 1 = V.scores.length ∧
      doneVal V ⟨14, { data := #[107] }, { data := #[] }, V.scores[j].member, k⟩ = (U, toldR 0, 0) ∧ doneVal U ⟨15, { data := #[107] }, { data := #[] }, V.scores[j].member, 0⟩ = (X, toldR 1, 0) ∧
      (∀ (i : Nat) (hi : i < U.scores.length), (i = q → U.scores[i].member = V.scores[j].member ∧ U.scores[i].n = k) ∧ (i ≠ q → U.scores[i].member ≠ V.scores[j].member)) := by
  have hok := good_ok h
  have hm20 : V.scores[j].member.size ≤ 20 := hok.tm _ (List.getElem_mem hj)
  have hc1 : ccOf ⟨14, { data := #[107] }, { data := #[] }, V.scores[j].member, k⟩ = 0 := cc_lit (by omega) (by omega) (by rw [if_neg (by decide)]; rfl) (by rw [if_pos (by decide)]; exact hm20) (by rw [if_pos (by decide)]; exact ⟨k1, k2⟩)
  have hc2 : ccOf ⟨15, { data := #[107] }, { data := #[] }, V.scores[j].member, 0⟩ = 0 := cc_lit (by omega) (by omega) (by rw [if_neg (by decide)]; rfl) (by rw [if_pos (by decide)]; exact hm20) (by rw [if_neg (by decide)])
  have hmem := memberAt_of hok.un hj
  have hoth := del_others hok.un hj
  have hlen : (putScore (delRows V.scores j) ⟨V.scores[j].member, k⟩).length = V.scores.length := by rw [put_len, del_len' _ hj]; omega
  have e1 := done_zadd h hv hc1 rfl
  simp only [hmem] at e1
  have hU := done_may (.inr h) ⟨14, { data := #[107] }, { data := #[] }, V.scores[j].member, k⟩
  rw [e1] at hU
  have hG : Good { V with scores := putScore (delRows V.scores j) ⟨V.scores[j].member, k⟩ } := by
    rcases hU with hU | hU
    · exfalso; have := congrArg Va.kind hU; simp only [hv] at this; exact absurd this (by decide)
    · exact hU
  have hokU := good_ok hG
  obtain ⟨q, hq, heq⟩ := List.getElem_of_mem (mem_put_self (delRows V.scores j) ⟨V.scores[j].member, k⟩)
  have hmq : memberAt V.scores[j].member (putScore (delRows V.scores j) ⟨V.scores[j].member, k⟩) = some q := by
    have := memberAt_of hokU.un hq
    simp only [heq] at this
    exact this
  have e2 := done_zrem hG hv hc2 rfl hmq
  refine ⟨_, _, q, hq, hG, hv, hlen, ?_, e1, e2, fun i hi => ⟨fun e => ?_, fun hne he => ?_⟩⟩
  · have hf := rank_forms h hv
    split
    · rename_i h1
      simp only [hlen] at h1
      have : zeroVa.scores.length = 0 := rfl
      omega
    · show (delRows (putScore (delRows V.scores j) ⟨V.scores[j].member, k⟩) q).length + 1 = V.scores.length
      rw [del_len' _ hq, hlen]; omega
  · subst e
    simp only [heq]
    exact ⟨trivial, trivial⟩
  · have hun := hokU.un
    rw [List.pairwise_iff_getElem] at hun
    have heq' : (putScore (delRows V.scores j) ⟨V.scores[j].member, k⟩)[q].member = V.scores[j].member := by rw [heq]
    rcases Nat.lt_or_gt_of_ne hne with hlt | hgt
    · exact hun i q hi hq hlt (he.trans heq'.symm)
    · exact hun q i hq hi hgt (heq'.trans he.symm)
/-- What a kind has not. -/
theorem bad_form {v : Va} (h1 : 1 ≤ v.kind) (h6 : v.kind ≤ 6) (h : formBad v = true) : checkValue v = 8 := by
  unfold checkValue
  rw [if_neg (by omega), if_pos h]
theorem text_bad {V : Va} (h : Good V) (hv : 3 ≤ V.kind) {t : ByteArray} (ht : t.toList.isEmpty = false) : checkValue { V with text := t } = 8 := by
  refine bad_form h.k1 h.k6 ?_
  unfold formBad
  have : (V.kind == 1) = false := by rw [beq_eq_false_iff_ne]; omega
  simp [this, ht]
theorem count_bad {V : Va} (h : Good V) (hv : 3 ≤ V.kind) : checkValue { V with count := 1 } = 8 := by
  refine bad_form h.k1 h.k6 ?_
  unfold formBad
  have : (V.kind == 2) = false := by rw [beq_eq_false_iff_ne]; omega
  simp [this]
theorem kind_bad {V : Va} : checkValue { V with kind := 7 } = 3 := by
  unfold checkValue
  rw [if_pos (by simp)]
theorem order_bad : checkValue ⟨5, { data := #[] }, 0, [], [{ data := #[98] }, { data := #[97] }], []⟩ = 10 := by
  have hf : formBad ⟨5, { data := #[] }, 0, [], [{ data := #[98] }, { data := #[97] }], []⟩ = false := by simp [formBad, Lib.toList_data]
  have hs : sizeBad ⟨5, { data := #[] }, 0, [], [{ data := #[98] }, { data := #[97] }], []⟩ = false := by simp [sizeBad, Va.size]
  have ht : textBad ⟨5, { data := #[] }, 0, [], [{ data := #[98] }, { data := #[97] }], []⟩ = false := by decide
  have hc : countBad ⟨5, { data := #[] }, 0, [], [{ data := #[98] }, { data := #[97] }], []⟩ = false := by decide
  have ho : orderOk ⟨5, { data := #[] }, 0, [], [{ data := #[98] }, { data := #[97] }], []⟩ = false := by
    have : risesBy cmpB [({ data := #[98] } : ByteArray), { data := #[97] }] = false := by decide
    simp [orderOk, risesOk, this]
  unfold checkValue
  rw [if_neg (by simp), hf, hs, ht, hc, ho]
  simp [pairsBad, membersBad]
theorem bad_done {v : Va} {c : Cmd} (h : checkValue v ≠ 0) (hk : v.kind ≠ 0) : doneVal v c = (zeroVa, zeroRe, checkValue v) := by
  have hn : noneVal v = false := by
    unfold noneVal
    have : (v.kind == 0) = false := by rw [beq_eq_false_iff_ne]; exact hk
    rw [this]; rfl
  unfold doneVal
  rw [if_pos ⟨h, hn⟩]
end Go.Proofs.Ytgmojjclobkpjaa
