/- rostrumkeep.record. -/
import Derived.Test.YtgmojjclobkpjaaTapN
namespace Go.Proofs.Ytgmojjclobkpjaa
set_option linter.all false
open Go.RowKit
set_option maxHeartbeats 4000000 in
set_option maxRecDepth 100000 in
theorem CheckKind_bad (v1 v2 v3 v4 v5 v6 v7 v8 v9 v10 v11 v12 v13 v14 v15 v16 v17 v18 v19 : Value) (w : World) :
    Calls Try.prog 10 #[.agg #[.int .i64 4, v1, v2, v3, v4, v5, v6, v7, v8, v9, v10, v11, v12, v13, v14, v15, v16, v17, v18, v19]] w fun e w' => e = .returned (.int .i64 3) ∧ Below w.heap.size w w' := by
  have T0 := Blk.new w 45 #[.int .i64 4, v1, v2, v3, v4, v5, v6, v7, v8, v9, v10, v11, v12, v13, v14, v15, v16, v17, v18, v19]
  have q0 : Below w.heap.size w (w.alloc (.cells #[.int .i64 4, v1, v2, v3, v4, v5, v6, v7, v8, v9, v10, v11, v12, v13, v14, v15, v16, v17, v18, v19] 45)) := below_by
  go_enter Try.func10, Try.ntmps10
  (try clear cT0 fT0); have cT0 := T0.cell; have fT0 := T0.frozen
  go_wp2_with fail
  go_ret
  exact ⟨rfl, q0⟩
theorem i64_nil : I64 0 := ⟨by decide, by decide⟩
structure NoteD where
  kind : Int
  a : Int
  b : Int
  deeds : List DeedD
def NoteD.ok (x : NoteD) : Prop := I64 x.kind ∧ I64 x.a ∧ I64 x.b ∧ ∀ d ∈ x.deeds, d.ok
def firstD (x : NoteD) : DeedD := match x.deeds with
  | [] => ⟨x.a, 0, 0, ⟨0, 0, 0, 0, { data := #[] }⟩⟩
  | d :: _ => d
def recOf (x : NoteD) : RK :=
  if picked x.kind 3 = 0 then .mark (1 + picked x.a 99) (picked x.b 4 - 1)
  else if picked x.kind 3 = 1 then .line (1 + picked x.a 99) (itemOf (firstD x) x.b x.a)
  else .load (1 + picked x.a 40) (1 + picked x.b 5) (machOf (x.deeds.take 8))
theorem recOf_ok (x : NoteD) : (recOf x).Ok := by
  have a0 := picked_lo x.a 99 (by omega); have a1 := picked_hi x.a 99 (by omega)
  have b0 := picked_lo x.b 4 (by omega); have b1 := picked_hi x.b 4 (by omega)
  have c0 := picked_lo x.a 40 (by omega); have c1 := picked_hi x.a 40 (by omega)
  have d0 := picked_lo x.b 5 (by omega); have d1 := picked_hi x.b 5 (by omega)
  unfold recOf
  split
  · exact ⟨number_iff.2 ⟨by omega, by omega⟩, by omega, by omega⟩
  · split
    · exact ⟨number_iff.2 ⟨by omega, by omega⟩, check_itemOf _ _ _⟩
    · exact ⟨number_iff.2 ⟨by omega, by omega⟩, number_iff.2 ⟨by omega, by omega⟩, (machOf_inv _).ok⟩
def RecPost (r : RK) (w : World) (e : Ending) (w' : World) : Prop := ∃ row, e = .returned (.agg row.toArray) ∧ RecAt w' r row ∧ Below w.heap.size w w'
end Go.Proofs.Ytgmojjclobkpjaa
