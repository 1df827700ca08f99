/- ledger.Match, as a plain function; what it gives. -/
import Derived.Test.YtaldmianlmgloabLogPlain
namespace Go.Proofs.Ytaldmianlmgloab
set_option linter.all false
open Go.RowKit
/-- From which one on something is new, by the terms. -/
def freshAt : List Itm → List Itm → Option Nat
  | _, [] => none
  | [], _ :: _ => some 0
  | x :: L, y :: ms => if x.term = y.term then (freshAt L ms).map (· + 1) else some 0
structure MRes where
  log : Option (List Itm)
  fits : Bool
  fresh : Int
  err : Int
def tailOf (base bt : Int) (L : List Itm) (at_ : Nat) (place : Int) (ms : List Itm) : MRes :=
  match freshAt (L.drop at_) ms with
  | none => ⟨some L, true, 0, 0⟩
  | some i => if checkLog base bt (L.take (at_ + i) ++ ms.drop i) = 0 then ⟨some (L.take (at_ + i) ++ ms.drop i), true, place + i + 1, 0⟩ else ⟨none, false, 0, 6⟩
def matchOf (base bt : Int) (L : List Itm) (place of : Int) (ms : List Itm) : MRes :=
  if checkLog place of ms ≠ 0 then ⟨none, false, 0, 10⟩
  else if place < base then
    (if place + (min (base - place).toNat ms.length : Nat) < base then ⟨some L, true, 0, 0⟩
     else tailOf base bt L 0 (place + (min (base - place).toNat ms.length : Nat)) (ms.drop (min (base - place).toNat ms.length)))
  else if (termOf base bt L place).2 ≠ 0 ∨ (termOf base bt L place).1 ≠ of then ⟨some L, false, 0, 0⟩
  else tailOf base bt L (place - base).toNat place ms
theorem fresh_none_step {L ms : List Itm} {k : Nat} (hk : k < ms.length) {o : Option Nat} (h : Hid (o = (freshAt (L.drop k) (ms.drop k)).map (· + k))) (hL : k < L.length) (he : L[k].term = ms[k].term) :
    Hid (o = (freshAt (L.drop (k + 1)) (ms.drop (k + 1))).map (· + (k + 1))) := by
  have := h.out
  rw [List.drop_eq_getElem_cons hL, List.drop_eq_getElem_cons hk, freshAt, if_pos he] at this
  show o = _
  rw [this, Option.map_map]
  congr 1
  funext x
  simp; omega
theorem fresh_stop {L ms : List Itm} {k : Nat} (hk : k < ms.length) {o : Option Nat} (h : Hid (o = (freshAt (L.drop k) (ms.drop k)).map (· + k))) (hn : ∀ hL : k < L.length, L[k].term ≠ ms[k].term) : o = some k := by
  have := h.out
  by_cases hL : k < L.length
  · rw [List.drop_eq_getElem_cons hL, List.drop_eq_getElem_cons hk, freshAt, if_neg (hn hL)] at this
    simpa using this
  · rw [List.drop_eq_nil_of_le (by omega : L.length ≤ k), List.drop_eq_getElem_cons hk, freshAt] at this
    simpa using this
theorem fresh_end {L ms : List Itm} {o : Option Nat} (h : Hid (o = (freshAt (L.drop ms.length) (ms.drop ms.length)).map (· + ms.length))) : o = none := by
  have := h.out
  rw [List.drop_eq_nil_of_le (Nat.le_refl _)] at this
  cases hh : L.drop ms.length <;> rw [hh] at this <;> simpa [freshAt] using this
theorem fresh_start (L ms : List Itm) : Hid (freshAt L ms = (freshAt (L.drop 0) (ms.drop 0)).map (· + 0)) := by
  show _ = _
  simp
end Go.Proofs.Ytaldmianlmgloab
