/- rostrumkeep.MatchBad returns true for every input and leaves its arguments as they were; no condition. -/
import Derived.Test.YtaldmianlmgloabMatch
import Derived.Test.YtaldmianlmgloabPushes
namespace Go.Proofs.Ytaldmianlmgloab
set_option linter.all false
open Go.ChangeShapes Go.WideShapes Go.ChangeAt Go.RowKit
def nopAt (t m : Int) : Itm := { term := t, time := m, nop := true, client := 0, seq := 0, cmd := zeroCmd }
theorem falls_bad (b bt t m t' m' : Int) (h : t' < t ∨ m' < m) : checkLog b bt [nopAt t m, nopAt t' m'] = 13 := by
  have hc : chainOk bt 0 [nopAt t m, nopAt t' m'] = false := by
    rcases h with h | h <;> simp [chainOk, nopAt, h]
  unfold checkLog
  rw [hc]
  split <;> rfl
end Go.Proofs.Ytaldmianlmgloab
