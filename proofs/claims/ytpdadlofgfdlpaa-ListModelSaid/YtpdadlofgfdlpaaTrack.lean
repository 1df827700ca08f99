/- Facts carried from world to world, by one name each. No program. -/
import Derived.Test.YtpdadlofgfdlpaaOwn
namespace Go.Proofs.Ytpdadlofgfdlpaa
set_option linter.all false
open Go.RowKit
section
variable {w w' : World} {g size n c base : Nat} {t e : TypeId} {cs : Array Value} {A : Option Addr} {rows : List (List Value)} {v : Value}
theorem Blk.bl (h : Blk w g t cs) (hb : Below w.heap.size w w') : Blk w' g t cs := h.below' hb
theorem Blk.al (h : Blk w g t cs) (o : Obj) : Blk (w.alloc o) g t cs := h.alloc o
theorem Sl.bl (h : Sl w size A n c rows) (hb : Below w.heap.size w w') : Sl w' size A n c rows := h.below hb
theorem Sl.al (h : Sl w size A n c rows) (o : Obj) : Sl (w.alloc o) size A n c rows := h.alloc o
theorem Own.bl (h : Own w base e size v rows) (hb : Below w.heap.size w w') : Own w' base e size v rows := h.below hb
theorem Own.al (h : Own w base e size v rows) (o : Obj) : Own (w.alloc o) base e size v rows := h.alloc o
/-- The heap is at least so great. -/
def Big (w : World) (k : Nat) : Prop := k ≤ w.heap.size
theorem Big.bl {k : Nat} (h : Big w k) (hb : Below w.heap.size w w') : Big w' k := Nat.le_trans h hb.size
theorem Big.al {k : Nat} (h : Big w k) (o : Obj) : Big (w.alloc o) k := Nat.le_trans h (by simp)
/-- A step from the start on. -/
def From (a w : World) : Prop := Below a.heap.size a w
theorem From.refl (a : World) : From a a := Below.refl _ _
theorem From.out {a : World} (h : From a w) : Below a.heap.size a w := h
theorem From.bl {a : World} (h : From a w) (hb : Below w.heap.size w w') : From a w' := Below.trans h (hb.mono h.size)
theorem From.al {a : World} (h : From a w) (o : Obj) : From a (w.alloc o) := Below.alloc h h.size o
end
end Go.Proofs.Ytpdadlofgfdlpaa
