/- value.set: what a command makes of a set. -/
import Derived.Test.YtgmojjclobkpjaaHash
namespace Go.Proofs.Ytgmojjclobkpjaa
set_option linter.all false
open Go.RowKit
attribute [local go_sem ↓] Go.wp_at_zero Go.wp_at_succ
def textHas (f : ByteArray) (l : List ByteArray) : Bool := foundAt l (textAt f l) fun y => cmpB y f == 0
def doSet (v : Va) (c : Cmd) : Va × Re :=
  if c.kind = 11 then
    (if textHas c.text v.items = true then (v, toldR 0)
     else if v.items.length = 20 then (v, failR 6) else ({ v with items := insRows v.items (textAt c.text v.items) c.text }, toldR 1))
  else if c.kind = 12 then (if textHas c.text v.items = true then ({ v with items := delRows v.items (textAt c.text v.items) }, toldR 1) else (v, toldR 0))
  else (v, toldR (flagI (textHas c.text v.items)))
theorem textHas_lt {f : ByteArray} {l : List ByteArray} (h : textHas f l = true) : textAt f l < l.length := by
  rcases Nat.lt_or_ge (textAt f l) l.length with h' | h'
  · exact h'
  · unfold textHas at h; rw [foundAt_ge h'] at h; cases h
end Go.Proofs.Ytgmojjclobkpjaa
