/- rostrumkeep.Value, full. -/
import Derived.Test.YtpdadlofgfdlpaaValsP
import Derived.Test.YtpdadlofgfdlpaaKeep
import Derived.Test.YtpdadlofgfdlpaaTrack
import Derived.Test.YtpdadlofgfdlpaaAllocs
import Derived.Deep.RegionHeld3
namespace Go.Proofs.Ytpdadlofgfdlpaa
set_option linter.all false
open Go.RowKit
/-- Do, at a value that may be. -/
theorem Do_may (v : Va) (c : Cmd) (hv : May v) (A1 A2 A3 : Option Addr) (n1 c1 n2 c2 n3 c3 : Nat) (w : World) (h : VSl w v A1 n1 c1 A2 n2 c2 A3 n3 c3) :
    Calls Try.prog 21 #[.agg #[.int .i64 v.kind, .string v.text, .int .i64 v.count, .slice A1 n1 c1, .slice A2 n2 c2, .slice A3 n3 c3], .agg #[.int .i64 c.kind, .string c.key, .string c.field, .string c.text, .int .i64 c.n]] w (DonePost (doneVal v c) w) := by
  have s := may_sizes hv
  have e1 := h.n1_; have e2 := h.n2_; have e3 := h.n3_
  exact Do_any v c A1 A2 A3 n1 c1 n2 c2 n3 c3 w h (by omega) (by omega) (by omega)
def ValPost (v : Va) (w : World) (e : Ending) (w' : World) : Prop :=
  ∃ A1 n1 c1 A2 n2 c2 A3 n3 c3, e = .returned (.agg #[.int .i64 v.kind, .string v.text, .int .i64 v.count, .slice A1 n1 c1, .slice A2 n2 c2, .slice A3 n3 c3]) ∧ VSl w' v A1 n1 c1 A2 n2 c2 A3 n3 c3 ∧ (Tp w' A1 114 ∧ Tp w' A2 9 ∧ Tp w' A3 116) ∧ Below w.heap.size w w'
/-- .. and the items' block is new. -/
theorem Do_mayN (v : Va) (c : Cmd) (hv : May v) (A1 A2 A3 : Option Addr) (n1 c1 n2 c2 n3 c3 : Nat) (w : World) (h : VSl w v A1 n1 c1 A2 n2 c2 A3 n3 c3) :
    Calls Try.prog 21 #[.agg #[.int .i64 v.kind, .string v.text, .int .i64 v.count, .slice A1 n1 c1, .slice A2 n2 c2, .slice A3 n3 c3], .agg #[.int .i64 c.kind, .string c.key, .string c.field, .string c.text, .int .i64 c.n]] w (DonePostN (doneVal v c) w) := by
  have s := may_sizes hv
  have e1 := h.n1_; have e2 := h.n2_; have e3 := h.n3_
  exact Do_new v c A1 A2 A3 n1 c1 n2 c2 n3 c3 w h (by omega) (by omega) (by omega)
/-- A literal slice is the call's own. -/
theorem Own.of_blk {w : World} {base g size : Nat} {e : TypeId} {cs : Array Value} {rows : List (List Value)} (h : Blk w g e cs) (hb : base ≤ g) (hf : cs.toList = rows.flatten) (hr : ∀ r ∈ rows, r.length = size) (hm : rows.length ≤ maxLen) :
    Own w base e size (.slice (some ⟨g, 0, none⟩) rows.length rows.length) rows := by
  have hl := flatten_length hr
  refine ⟨⟨hl, .inr ⟨g, rows.length, cs, rfl, hb, h, Nat.le_refl _, hm, ?_, ?_⟩⟩, hr⟩
  · rw [← hl, ← hf]; simp
  · rw [hf, List.take_of_length_le (by rw [hl]; exact Nat.le_refl _)]
end Go.Proofs.Ytpdadlofgfdlpaa
