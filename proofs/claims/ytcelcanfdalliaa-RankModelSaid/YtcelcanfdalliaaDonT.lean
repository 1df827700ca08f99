/- Ranks that commands of raw numbers make: plain facts. No walk. -/
import Derived.Test.YtcelcanfdalliaaDonS
namespace Go.Proofs.Ytcelcanfdalliaa
set_option linter.all false
open Go.RowKit
theorem mem_put {l : List Sc} {s x : Sc} (h : x ∈ putScore l s) : x = s ∨ x ∈ l := mem_ins.1 h
theorem doVal_scores (v : Va) (c : Cmd) : ∀ x ∈ (doVal v c).1.scores, x ∈ v.scores ∨ x.member = c.text := by
  have keep : ∀ x ∈ v.scores, x ∈ v.scores ∨ x.member = c.text := fun x h => .inl h
  unfold doVal
  split
  · intro x hx; simp at hx
  split
  · exact keep
  split
  · unfold doAdd; split <;> exact keep
  split
  · exact keep
  split
  · exact keep
  split
  · unfold doHash; (repeat' split) <;> exact keep
  split
  · unfold doList; (repeat' split) <;> exact keep
  split
  · unfold doSet; (repeat' split) <;> exact keep
  · unfold doRank
    split
    · split
      · exact keep
      split
      · split
        · exact keep
        · intro x hx
          rcases mem_put hx with rfl | hx
          · exact .inr rfl
          · exact .inl hx
      · exact keep
    · split
      · exact keep
      split
      · intro x hx
        rcases mem_put hx with rfl | hx
        · exact .inr rfl
        · exact .inl (mem_del hx)
      · exact fun x hx => .inl (mem_del hx)
theorem done_scores (v : Va) (c : Cmd) : ∀ x ∈ (doneVal v c).1.scores, x ∈ v.scores ∨ x.member = c.text := by
  have keep : ∀ x ∈ v.scores, x ∈ v.scores ∨ x.member = c.text := fun x h => .inl h
  have hz : ∀ x ∈ zeroVa.scores, x ∈ v.scores ∨ x.member = c.text := fun x h => by simp [zeroVa] at h
  have hk : (doneKind v c).scores = v.scores := by unfold doneKind; split <;> rfl
  have hd := doVal_scores (doneKind v c) c
  rw [hk] at hd
  unfold doneVal
  split
  · exact hz
  split
  · exact hz
  split
  · exact hz
  split
  · exact keep
  split
  · exact keep
  unfold behind
  split
  · exact keep
  split
  · exact hz
  · exact hd
theorem maker_text (kind : Int) (r : RawD) : (makerC kind r).text.size ≤ 6 := by
  have h1 := some_size r.n
  have h2 := cut_size r.text 6
  unfold makerC cmdOf
  simp only
  (repeat' split) <;> first | omega | exact Nat.zero_le _
theorem fold_members (kind : Int) : ∀ (l : List RawD) (v : Va), (∀ x ∈ v.scores, x.member.size ≤ 6) → ∀ x ∈ (l.foldl (stepV kind) v).scores, x.member.size ≤ 6
  | [], v, h => h
  | r :: l, v, h => fold_members kind l _ (by
    unfold stepV
    split
    · intro x hx
      rcases done_scores _ _ x hx with hx | hx
      · exact h x hx
      · rw [hx]; exact maker_text kind r
    · exact h)
theorem fullOf_members (kind : Int) (l : List RawD) : ∀ x ∈ (fullOf kind l).scores, x.member.size ≤ 6 := fold_members kind _ _ (by simp [zeroVa])
theorem kindV_five : kindV 5 = 6 := by decide
/-- The place of a member, each of which stands once. -/
theorem memberAt_of {l : List Sc} (h : l.Pairwise Rm) {i : Nat} (hi : i < l.length) : memberAt l[i].member l = some i := by
  unfold memberAt
  rw [List.findIdx?_eq_some_iff_getElem]
  refine ⟨hi, by simp, fun j hj => ?_⟩
  rw [List.pairwise_iff_getElem] at h
  have := h j i (by omega) hi hj
  intro e
  exact this (eqb_iff.1 e)
theorem memberAt_long {l : List Sc} {m : ByteArray} (h : ∀ x ∈ l, x.member.size ≤ 6) (hm : 6 < m.size) : memberAt m l = none := by
  unfold memberAt
  rw [List.findIdx?_eq_none_iff]
  intro x hx
  have := h x hx
  cases he : (x.member.toList == m.toList) with
  | false => rfl
  | true => rw [eqb_iff] at he; rw [he] at this; omega
/-- Two neighbours, as the law asks of them. -/
theorem rs_next {l : List Sc} (h : l.Pairwise Rs) {j : Nat} (hj : j + 1 < l.length) : l[j].n < l[j + 1].n ∨ (l[j].n = l[j + 1].n ∧ Op.bytesLess l[j].member.toList l[j + 1].member.toList = true) := by
  rw [List.pairwise_iff_getElem] at h
  have := h j (j + 1) (by omega) hj (by omega)
  unfold Rs at this
  rw [cmpS_lt] at this
  rcases this with h | ⟨h1, h2⟩
  · exact .inl h
  · exact .inr ⟨h1, by rw [cmpB_less]; exact decide_eq_true h2⟩
end Go.Proofs.Ytcelcanfdalliaa
