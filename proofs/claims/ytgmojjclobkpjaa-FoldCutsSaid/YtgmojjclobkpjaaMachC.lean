/- rostrumkeep.call. -/
import Derived.Test.YtgmojjclobkpjaaCli
import Derived.Test.YtgmojjclobkpjaaCliO
import Derived.Test.YtgmojjclobkpjaaHeldX
namespace Go.Proofs.Ytgmojjclobkpjaa
set_option linter.all false
open Go.RowKit
def callV (c : CallM) : Value := .agg #[.int .i64 c.client, .int .i64 c.seq, .int .i64 c.cmd.kind, .string c.cmd.key, .string c.cmd.field, .string c.cmd.text, .int .i64 c.cmd.n]
set_option maxHeartbeats 4000000 in
theorem whole_call {w2 : World} {b : Nat} {x0 x1 x2 x3 x4 x5 x6 : Value} (u0 u1 u2 u3 u4 u5 u6 : Value) (R : Blk w2 b 33 #[x0, x1, x2, x3, x4, x5, x6]) :
    Blk (((((((w2.setCell ⟨b, 0, none⟩ (u0)).setCell ⟨b, 1, none⟩ (u1)).setCell ⟨b, 2, none⟩ (u2)).setCell ⟨b, 3, none⟩ (u3)).setCell ⟨b, 4, none⟩ (u4)).setCell ⟨b, 5, none⟩ (u5)).setCell ⟨b, 6, none⟩ (u6)) b 33 #[u0, u1, u2, u3, u4, u5, u6] ∧ w2.grownBy (((((((w2.setCell ⟨b, 0, none⟩ (u0)).setCell ⟨b, 1, none⟩ (u1)).setCell ⟨b, 2, none⟩ (u2)).setCell ⟨b, 3, none⟩ (u3)).setCell ⟨b, 4, none⟩ (u4)).setCell ⟨b, 5, none⟩ (u5)).setCell ⟨b, 6, none⟩ (u6)) (some b) ∧ (((((((w2.setCell ⟨b, 0, none⟩ (u0)).setCell ⟨b, 1, none⟩ (u1)).setCell ⟨b, 2, none⟩ (u2)).setCell ⟨b, 3, none⟩ (u3)).setCell ⟨b, 4, none⟩ (u4)).setCell ⟨b, 5, none⟩ (u5)).setCell ⟨b, 6, none⟩ (u6)).heap.size = w2.heap.size := by
  have R0 := R.set' (i := 0) (u := u0) rfl
  have R1 := R0.set' (i := 1) (u := u1) rfl
  have R2 := R1.set' (i := 2) (u := u2) rfl
  have R3 := R2.set' (i := 3) (u := u3) rfl
  have R4 := R3.set' (i := 4) (u := u4) rfl
  have R5 := R4.set' (i := 5) (u := u5) rfl
  have R6 := R5.set' (i := 6) (u := u6) rfl
  exact ⟨R6, grown_trans (grown_trans (grown_trans (grown_trans (grown_trans (grown_trans (grown_setRow_cell w2 b 0 u0) (grown_setRow_cell _ b 1 u1)) (grown_setRow_cell _ b 2 u2)) (grown_setRow_cell _ b 3 u3)) (grown_setRow_cell _ b 4 u4)) (grown_setRow_cell _ b 5 u5)) (grown_setRow_cell _ b 6 u6), by simp⟩
def cmdW (c : Cmd) : Value := .agg #[.int .i64 c.kind, .string c.key, .string c.field, .string c.text, .int .i64 c.n]
theorem CommandM_any (r : RawD) (hr : r.ok) (w : World) : Calls Try.prog 16 #[.agg #[.int .i64 r.kind, .int .i64 r.key, .int .i64 r.field, .int .i64 r.n, .string r.text]] w fun e w' => e = .returned (cmdW (cmdR r)) ∧ Below w.heap.size w w' := by
  obtain ⟨⟨k1, k2⟩, ⟨y1, y2⟩, ⟨f1, f2⟩, ⟨n1, n2⟩, hx⟩ := hr
  exact Command_any r.kind r.key r.field r.n r.text w k1 k2 y1 y2 f1 f2 n1 n2 hx (picked r.kind 22) rfl (picked_lo _ _ (by omega)) (picked_hi _ _ (by omega))
theorem seq_next {n off : Int} {l : List Cl} {k : Nat} (hk : k < l.length) : (l.take (k + 1)).foldl (seqStep n off) 1 = seqStep n off ((l.take k).foldl (seqStep n off) 1) l[k] := by
  rw [List.take_succ_eq_append_getElem hk, List.foldl_append]; rfl
end Go.Proofs.Ytgmojjclobkpjaa
