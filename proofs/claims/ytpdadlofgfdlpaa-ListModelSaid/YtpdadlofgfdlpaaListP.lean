/- A list beside a slice: plain facts. No walk. -/
import Derived.Test.YtpdadlofgfdlpaaDonQ
namespace Go.Proofs.Ytpdadlofgfdlpaa
set_option linter.all false
open Go.RowKit
structure ListV (v : Va) : Prop where
  form : v = zeroVa ∨ (Good v ∧ v.kind = 4)
theorem list_zero : ListV zeroVa := ⟨.inl rfl⟩
theorem ListV.may' {v : Va} (h : ListV v) : May v := by
  rcases h.form with h | h
  · exact .inl h
  · exact .inr h.1
theorem ListV.room {v : Va} (h : ListV v) : v.items.length ≤ 20 := (may_sizes h.may').2.1
/-- What a command makes of a list's elements, and what it tells. -/
def listD (k : Int) (t : ByteArray) (l : List ByteArray) : List ByteArray × Re :=
  if k ≤ 8 ∧ l.length = 20 then (l, failR 6) else if k = 7 then (l ++ [t], toldR ((l.length : Int) + 1)) else if k = 8 then (t :: l, toldR ((l.length : Int) + 1))
  else if l.length = 0 then (l, failR 5) else if k = 9 then (l.take (l.length - 1), textR ((l[l.length - 1]?).getD emp)) else (l.drop 1, textR ((l[0]?).getD emp))
theorem list_step {v : Va} {c : Cmd} (h : ListV v) (hc : ccOf c = 0) (hk : 7 ≤ c.kind ∧ c.kind ≤ 10) :
    (doneVal v c).2.2 = 0 ∧ ListV (doneVal v c).1 ∧ ((doneVal v c).1.items, (doneVal v c).2.1) = listD c.kind c.text v.items := by
  have hmay := done_may h.may' c
  have good : ∀ {w : Va}, (doneVal v c).1 = w → w = zeroVa ∨ w.kind = 4 → ListV w := by
    intro w hw hor
    rw [hw] at hmay
    rcases hmay with hz | hg
    · exact ⟨.inl hz⟩
    · rcases hor with hz | h4
      · exact ⟨.inl hz⟩
      · exact ⟨.inr ⟨hg, h4⟩⟩
  have main : ∀ w r, doneVal v c = (w, r, 0) → (w = zeroVa ∨ w.kind = 4) → (w.items, r) = listD c.kind c.text v.items →
      (doneVal v c).2.2 = 0 ∧ ListV (doneVal v c).1 ∧ ((doneVal v c).1.items, (doneVal v c).2.1) = listD c.kind c.text v.items := by
    intro w r he hor hi
    have hg := good (w := w) (by rw [he]) hor
    rw [he]
    exact ⟨rfl, hg, hi⟩
  have hcs : c.kind = 7 ∨ c.kind = 8 ∨ c.kind = 9 ∨ c.kind = 10 := by omega
  rcases h.form with rfl | ⟨hg, h4⟩
  · by_cases hp : c.kind = 7 ∨ c.kind = 8
    · refine main _ _ (done_list0 hc hp) (.inr rfl) ?_
      unfold listD
      rcases hp with hp | hp
      · rw [if_neg (by simp [zeroVa]), if_pos hp]; rfl
      · rw [if_neg (by simp [zeroVa]), if_neg (by omega), if_pos hp]; rfl
    · have hmk : makesC c.kind = false := by
        have : c.kind = 9 ∨ c.kind = 10 := by omega
        rcases this with h | h <;> rw [h] <;> decide
      refine main zeroVa (failR 5) ?_ (.inl rfl) ?_
      · rw [done_zero hc (by omega), if_pos hmk]
      · unfold listD
        rw [if_neg (by omega), if_neg (by omega), if_neg (by omega), if_pos (show zeroVa.items.length = 0 from rfl)]
  · have hsz := list_size hg h4
    rcases hcs with hk | hk | hk | hk
    · by_cases h20 : v.items.length = 20
      · refine main _ _ (done_pfull hg h4 h20 hc (.inl hk)) (.inr h4) ?_
        unfold listD; rw [if_pos (by omega)]
      · refine main _ _ (done_push hg h4 (by omega) hc hk) (.inr h4) ?_
        unfold listD; rw [if_neg (by omega), if_pos hk]
    · by_cases h20 : v.items.length = 20
      · refine main _ _ (done_pfull hg h4 h20 hc (.inr hk)) (.inr h4) ?_
        unfold listD; rw [if_pos (by omega)]
      · refine main _ _ (done_front hg h4 (by omega) hc hk) (.inr h4) ?_
        unfold listD; rw [if_neg (by omega), if_neg (by omega), if_pos hk]
    · have hd := done_pop hg h4 hc hk
      by_cases h1 : v.items.length = 1
      · rw [if_pos h1] at hd
        refine main _ _ hd (.inl rfl) ?_
        unfold listD; rw [if_neg (by omega), if_neg (by omega), if_neg (by omega), if_neg (by omega), if_pos hk, h1]; rfl
      · rw [if_neg h1] at hd
        refine main _ _ hd (.inr h4) ?_
        unfold listD; rw [if_neg (by omega), if_neg (by omega), if_neg (by omega), if_neg (by omega), if_pos hk]
    · have hd := done_shift hg h4 hc hk
      by_cases h1 : v.items.length = 1
      · rw [if_pos h1] at hd
        refine main _ _ hd (.inl rfl) ?_
        unfold listD; rw [if_neg (by omega), if_neg (by omega), if_neg (by omega), if_neg (by omega), if_neg (by omega)]
        have : v.items.drop 1 = [] := List.drop_eq_nil_of_le (by omega)
        rw [this]; rfl
      · rw [if_neg h1] at hd
        refine main _ _ hd (.inr h4) ?_
        unfold listD; rw [if_neg (by omega), if_neg (by omega), if_neg (by omega), if_neg (by omega), if_neg (by omega)]
end Go.Proofs.Ytpdadlofgfdlpaa
