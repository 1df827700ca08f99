/- slices.BinarySearchFunc at pairs and scores, slices.BinarySearch at strings. -/
import Derived.Test.YtgmojjclobkpjaaCmp
import Derived.Test.YtgmojjclobkpjaaBase
namespace Go.Proofs.Ytgmojjclobkpjaa
set_option linter.all false
open Go.RowKit
def foundAt {α : Type} (l : List α) (k : Nat) (p : α → Bool) : Bool := match l[k]? with | some y => p y | none => false
theorem foundAt_lt {α : Type} {l : List α} {k : Nat} {p : α → Bool} (h : k < l.length) : foundAt l k p = p l[k] := by unfold foundAt; rw [List.getElem?_eq_getElem h]
theorem foundAt_ge {α : Type} {l : List α} {k : Nat} {p : α → Bool} (h : l.length ≤ k) : foundAt l k p = false := by unfold foundAt; rw [List.getElem?_eq_none h]
theorem beq_cmpB (y x : ByteArray) : (y.toList == x.toList) = (cmpB y x == 0) := by
  rw [Bool.eq_iff_iff, beq_iff_eq, beq_iff_eq, cmpB_eq, Lib.toList_data, Lib.toList_data]
  exact ⟨bytes_ext, fun h => by rw [h]⟩
end Go.Proofs.Ytgmojjclobkpjaa
