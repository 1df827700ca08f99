/- store.keyed.do. -/
import Derived.Test.YtgmojjclobkpjaaStoK
import Derived.Test.YtgmojjclobkpjaaValsP
namespace Go.Proofs.Ytgmojjclobkpjaa
set_option linter.all false
open Go.RowKit
attribute [local go_sem ↓] Go.wp_at_zero Go.wp_at_succ
theorem str_fr {w w' : World} {A : Option Addr} {n c : Nat} {rows : List (List Value)} (h : Sl w 1 A n c rows) (T : Tp w A 9) (f : Fr w w') : Sl w' 1 A n c rows :=
  h.kept f.size fun a ha _ => by obtain ⟨cs, hc⟩ := T a ha; exact (f.i _ _ hc).trans hc.symm
theorem tps_fr {w w' : World} {A : Option Addr} (T : Tp w A 9) (f : Fr w w') : Tp w' A 9 := fun a ha => by
  obtain ⟨cs, hc⟩ := T a ha; exact ⟨cs, f.i _ _ hc⟩
def keyRows (l : List En) (j : Nat) : List (List Value) := strRows ((l.take j).map En.key)
theorem keyRows_next {l : List En} {j : Nat} (h : j < l.length) : keyRows l (j + 1) = keyRows l j ++ [[.string l[j].key]] := by
  unfold keyRows strRows
  rw [List.take_succ_eq_append_getElem h, List.map_append, List.map_append]
  rfl
theorem keyRows_len {l : List En} {j : Nat} (h : j ≤ l.length) : (keyRows l j).length = j := by
  unfold keyRows strRows
  rw [List.length_map, List.length_map, List.length_take, Nat.min_eq_left h]
theorem keyRows_full {l : List En} {j : Nat} (h : l.length ≤ j) : keyRows l j = strRows (l.map En.key) := by
  unfold keyRows
  rw [List.take_of_length_le h]
/-- The old value of a key: none, if it is not there. -/
def oldOf (l : List En) (k : Nat) (t : Bool) : Va := if t = true then (match l[k]? with | some x => x.val | none => zeroVa) else zeroVa
/-- What a command makes of the entries, and what it tells. -/
def doS (now : Int) (l : List En) (c : Cmd) : List En × Re :=
  if c.kind = 22 then (l, ⟨0, emp, 0, l.map En.key⟩)
  else if c.kind = 19 then (if keyHas c.key l = true then (delRows l (keyAt c.key l), toldR 1) else (l, toldR 0))
  else if c.kind = 20 ∨ c.kind = 21 then timedS now l (keyAt c.key l) (keyHas c.key l) c
  else if (doneVal (oldOf l (keyAt c.key l) (keyHas c.key l)) c).2.1.code ≠ 0 then (l, (doneVal (oldOf l (keyAt c.key l) (keyHas c.key l)) c).2.1)
  else if (doneVal (oldOf l (keyAt c.key l) (keyHas c.key l)) c).1.kind = 0 ∧ keyHas c.key l = true then (delRows l (keyAt c.key l), (doneVal (oldOf l (keyAt c.key l) (keyHas c.key l)) c).2.1)
  else if keyHas c.key l = false ∧ l.length = 12 then (l, failR 6)
  else if (doneVal (oldOf l (keyAt c.key l) (keyHas c.key l)) c).1.kind ≠ 0 then (setS l (keyAt c.key l) (keyHas c.key l) c (doneVal (oldOf l (keyAt c.key l) (keyHas c.key l)) c).1, (doneVal (oldOf l (keyAt c.key l) (keyHas c.key l)) c).2.1)
  else (l, (doneVal (oldOf l (keyAt c.key l) (keyHas c.key l)) c).2.1)
theorem keyHas_lt {f : ByteArray} {l : List En} (h : keyHas f l = true) : keyAt f l < l.length := by
  rcases Nat.lt_or_ge (keyAt f l) l.length with h' | h'
  · exact h'
  · unfold keyHas at h; rw [foundAt_ge h'] at h; cases h
/-- What stands for entries that may be, and a time that may be. -/
structure EnsOk (now : Int) (l : List En) : Prop where
  rise : l.Pairwise Rk
  few : l.length ≤ 12
  till : ∀ x ∈ l, 0 ≤ x.till ∧ x.till ≤ 1073741824
  good : ∀ x ∈ l, Good x.val
  now0 : 0 ≤ now
  now1 : now ≤ 1073741824
end Go.Proofs.Ytgmojjclobkpjaa
