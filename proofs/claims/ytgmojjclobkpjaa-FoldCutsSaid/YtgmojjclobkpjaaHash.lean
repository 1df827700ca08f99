/- value.hash: what a command makes of a hash. -/
import Derived.Test.YtgmojjclobkpjaaHold
import Derived.Test.YtgmojjclobkpjaaCmp
import Derived.Test.YtgmojjclobkpjaaOwn
namespace Go.Proofs.Ytgmojjclobkpjaa
set_option linter.all false
open Go.RowKit
attribute [local go_sem ↓] Go.wp_at_zero Go.wp_at_succ
def pairHas (f : ByteArray) (l : List Pr) : Bool := foundAt l (pairAt f l) fun y => cmpB y.field f == 0
def pairText (l : List Pr) (k : Nat) : ByteArray := match l[k]? with | some y => y.text | none => emp
def doHash (v : Va) (c : Cmd) : Va × Re :=
  if c.kind = 4 then
    (if pairHas c.field v.pairs = true then ({ v with pairs := v.pairs.set (pairAt c.field v.pairs) ⟨c.field, c.text⟩ }, toldR 0)
     else if v.pairs.length = 20 then (v, failR 6) else ({ v with pairs := insRows v.pairs (pairAt c.field v.pairs) ⟨c.field, c.text⟩ }, toldR 1))
  else if c.kind = 5 then (if pairHas c.field v.pairs = true then (v, textR (pairText v.pairs (pairAt c.field v.pairs))) else (v, failR 5))
  else if pairHas c.field v.pairs = true then ({ v with pairs := delRows v.pairs (pairAt c.field v.pairs) }, toldR 1) else (v, toldR 0)
theorem pairHas_lt {f : ByteArray} {l : List Pr} (h : pairHas f l = true) : pairAt f l < l.length := by
  rcases Nat.lt_or_ge (pairAt f l) l.length with h' | h'
  · exact h'
  · unfold pairHas at h; rw [foundAt_ge h'] at h; cases h
theorem pairHas_eq {f : ByteArray} {l : List Pr} (h : pairHas f l = true) : (l[pairAt f l]'(pairHas_lt h)).field = f := by
  have h2 := h
  unfold pairHas at h2
  rw [foundAt_lt (pairHas_lt h)] at h2
  rw [← cmpB_eq]; simpa using h2
theorem grown_setRow_cell (w : World) (b i : Nat) (u : Value) : w.grownBy (w.setCell ⟨b, i, none⟩ u) (some b) :=
  ⟨rfl, rfl, rfl, by simp, fun k _ hk => Below.heap_setCell w ⟨b, i, none⟩ u k (fun e => hk (by simp [e]))⟩
theorem pairHas_get {f : ByteArray} {l : List Pr} (h : pairHas f l = true) : ∃ y, l[pairAt f l]? = some y ∧ y.field = f := ⟨_, List.getElem?_eq_getElem (pairHas_lt h), pairHas_eq h⟩
end Go.Proofs.Ytgmojjclobkpjaa
