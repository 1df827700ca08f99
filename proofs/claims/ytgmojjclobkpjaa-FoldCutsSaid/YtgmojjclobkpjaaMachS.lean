/- client.New; rostrumkeep.Machine, opened: machines of deeds. -/
import Derived.Test.YtgmojjclobkpjaaCliE
import Derived.Test.YtgmojjclobkpjaaMachC
namespace Go.Proofs.Ytgmojjclobkpjaa
set_option linter.all false
open Go.RowKit
def MachPost (m : Mach) (w : World) (e : Ending) (w' : World) : Prop :=
  ∃ A n c B k d, e = .returned (.agg #[.int .i64 m.now, .slice A n c, .int .i64 m.next, .slice B k d]) ∧ St w' A n c m.ents ∧ Ci w' B k d m.clis ∧ Below w.heap.size w w'
theorem New_any (w : World) : Calls Try.prog 17 #[] w fun e w' => e = .returned (.agg #[.int .i64 0, .slice none 0 0, .int .i64 1, .slice none 0 0]) ∧ Below w.heap.size w w' := by
  have Z := Blk.new w 41 #[.int .i64 0, .slice none 0 0, .int .i64 1, .slice none 0 0]
  have q : Below w.heap.size w (w.alloc (.cells #[.int .i64 0, .slice none 0 0, .int .i64 1, .slice none 0 0] 41)) := below_by
  have cZ := hide Z.cell
  clear Z
  go_enter Try.func17, Try.ntmps17
  go_wp2_with fail
  have cZ := cZ.out
  refine bodyPost_ret (v := .agg #[.int .i64 0, .slice none 0 0, .int .i64 1, .slice none 0 0]) ?_ rfl ⟨rfl, q⟩
  simp [results, Try.results17, go_sem, cZ]
end Go.Proofs.Ytgmojjclobkpjaa
