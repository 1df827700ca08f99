/- value.ranks: what a command makes of a rank. -/
import Derived.Test.YtgmojjclobkpjaaHash
namespace Go.Proofs.Ytgmojjclobkpjaa
set_option linter.all false
open Go.RowKit
attribute [local go_sem ↓] Go.wp_at_zero Go.wp_at_succ
def memberAt (m : ByteArray) (l : List Sc) : Option Nat := l.findIdx? fun x => x.member.toList == m.toList
def putScore (l : List Sc) (s : Sc) : List Sc := insRows l (scoreAt s l) s
def doRank (v : Va) (c : Cmd) : Va × Re :=
  match memberAt c.text v.scores with
  | none => if c.kind = 16 then (v, failR 5) else if c.kind = 14 then (if v.scores.length = 20 then (v, failR 6) else ({ v with scores := putScore v.scores ⟨c.text, c.n⟩ }, toldR 1)) else (v, toldR 0)
  | some k => if c.kind = 16 then (v, toldR k) else if c.kind = 14 then ({ v with scores := putScore (delRows v.scores k) ⟨c.text, c.n⟩ }, toldR 0) else ({ v with scores := delRows v.scores k }, toldR 1)
theorem memberAt_lt {m : ByteArray} {l : List Sc} {k : Nat} (h : memberAt m l = some k) : k < l.length := by
  unfold memberAt at h
  rw [List.findIdx?_eq_some_iff_getElem] at h
  exact h.1
end Go.Proofs.Ytgmojjclobkpjaa
