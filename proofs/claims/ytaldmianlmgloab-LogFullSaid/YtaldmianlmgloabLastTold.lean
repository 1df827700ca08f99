/- rostrumkeep.LastTold returns true for every input and leaves its arguments as they were; no condition. -/
import Derived.Test.YtaldmianlmgloabLogPlain
import Derived.Test.YtaldmianlmgloabLaw
namespace Go.Proofs.Ytaldmianlmgloab
set_option linter.all false
open Go.ChangeShapes Go.WideShapes Go.ChangeAt Go.RowKit
theorem lastOf_fst (b bt : Int) (L : List Itm) : (lastOf b bt L).1 = b + L.length := by
  by_cases h : L = []
  · subst h; simp [lastOf_nil]
  · rw [lastOf_pos (List.length_pos_iff.2 h)]
theorem termOf_last (b bt : Int) (L : List Itm) : termOf b bt L (b + L.length) = ((lastOf b bt L).2, 0) := by
  by_cases h : L = []
  · subst h
    rw [lastOf_nil, show b + (([] : List Itm).length : Int) = b by simp, termOf_eq]
  · have hp := List.length_pos_iff.2 h
    rw [lastOf_pos hp, show b + (L.length : Int) = b + 1 + ((L.length - 1 : Nat) : Int) by omega, termOf_at (by omega)]
theorem termE_in {b bt : Int} {L : List Itm} {p : Int} (h0 : 0 ≤ p) (h1 : p ≤ 1048576) : termE b bt L p = termOf b bt L p := by
  unfold termE; rw [if_neg (by omega)]
theorem termE_past {b bt : Int} {L : List Itm} (h0 : 0 ≤ b) (h1 : b + L.length + 1 ≤ 1048576) : termE b bt L (b + L.length + 1) = (0, 5) := by
  rw [termE_in (by omega) h1, termOf_gt (by omega) (by omega)]
end Go.Proofs.Ytaldmianlmgloab
