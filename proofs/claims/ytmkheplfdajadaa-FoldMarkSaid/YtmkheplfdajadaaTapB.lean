/- Records that may not be are refused by tape.Append and by tape.Fold. -/
import Derived.Test.YtmkheplfdajadaaTapR
import Derived.Test.YtmkheplfdajadaaDecM
namespace Go.Proofs.Ytmkheplfdajadaa
set_option linter.all false
open Go.RowKit
/-- A whole value is loaded out of a block of its type. -/
theorem wpList_load_blk {P : Program} {ops : Array Oper} {rest : List Oper} {op : Oper} {a : Act} {w : World} {Q : Exit → Act → World → Prop} (hgd : op.guard = none) (ty : TypeId) (x : Operand) (ho : op.op = .load ty x)
    {b : Nat} {cs : Array Value} (hx : a.eval x = .pointer (some ⟨b, 0, none⟩)) (hB : Blk w b ty cs) {d : TypeDesc} (hu : P.underlying ty = some d) (hd : (match d with | .struct _ | .array _ _ => true | _ => false) = true) (hi : (P.info? ty).map (·.size) = some cs.size)
    (h : wpList P ops Q rest (a.put op.dst (.agg cs)) w) : wpList P ops Q (op :: rest) a w := by
  have hrun := run_loadVar_row (P := P) w b ty ty cs (0, 0) d hB hu hd hi
  refine wpList_plain hgd fun _ hK => ?_
  unfold Oper.wp execOp
  simp only [ho, hx, Instr.loadAt, Instr.sureAddr, Sem.run_bind, Sem.run_pure, Result.andThen_ok, hrun]
  exact hK _ _ h
theorem Check_rec {r : RK} (hr : r.Ok) {row : List Value} (w : World) (h : RecAt w r row) : Calls Try.prog 43 #[.agg row.toArray] w fun e w' => e = .returned (.int .i64 0) ∧ Below w.heap.size w w' := by
  cases r with
  | mark t f => rw [show row = markCells t f from h]; exact CheckMark_ok t f hr.1 hr.2.1 hr.2.2 w
  | line i x => rw [show row = lineCells i x from h]; exact CheckLine_ok i x hr.1 hr.2 w
  | load i t m =>
    obtain ⟨A, n, c, B, k, d, rfl, hE, hC⟩ := h
    have hok := hr.2.2
    have h0 : csM i t m = 0 := by unfold csM; rw [hr.1, hr.2.1, if_pos (by rfl), ok_mach hok]
    rw [← h0]
    exact CheckLoad_any i t m A B n c k d w hE.sl hC.sl (by have := hE.sl.len; have := hok.sto.few; omega) (by have := hC.sl.len; have := hok.few; omega) (fun x hx => by obtain ⟨a, b, d⟩ := hok.sto.small x hx; exact ⟨by omega, by omega, by omega⟩) (fun x hx => by have := rep_to (hok.cli x hx).rep; exact ⟨by have := this.text; omega, by have := this.few; omega⟩)
theorem disk_size : (Try.prog.info? 62).map (·.size) = some 11 := by kernel_rfl
set_option maxHeartbeats 8000000 in
set_option maxRecDepth 100000 in
theorem TapeNew_any (w : World) : Calls Try.prog 17 #[] w fun e w' => e = .returned (.agg #[.int .i64 0, .int .i64 (-1), .int .i64 0, .int .i64 0, .int .i64 0, .slice none 0 0, .int .i64 1, .slice none 0 0, .int .i64 0, .int .i64 0, .slice none 0 0]) ∧ Below w.heap.size w w' := by
  have R0 := Blk.new w 62 #[.int .i64 0, .int .i64 0, .int .i64 0, .int .i64 0, .int .i64 0, .slice none 0 0, .int .i64 0, .slice none 0 0, .int .i64 0, .int .i64 0, .slice none 0 0]
  have q0 : Below w.heap.size w (w.alloc (.cells #[.int .i64 0, .int .i64 0, .int .i64 0, .int .i64 0, .int .i64 0, .slice none 0 0, .int .i64 0, .slice none 0 0, .int .i64 0, .int .i64 0, .slice none 0 0] 62)) := below_by
  go_enter Try.func17, Try.ntmps17
  go_wp2_with fail
  refine (New_any _).mono ?_
  rintro e w1 ⟨rfl, b1⟩
  replace R0 := R0.below' b1
  have q1 := bstep q0 b1
  go_wp2_with (refine wpList_store_blk rfl 62 _ _ rfl (cells := #[.int .i64 0, .int .i64 (-1), .int .i64 0, .int .i64 0, .int .i64 0, .slice none 0 0, .int .i64 1, .slice none 0 0, .int .i64 0, .int .i64 0, .slice none 0 0]) rfl rfl R0 rfl disk_size (all_one rfl) ?_; intro w9 Z9 gr9 sz9)
  have q9 := below_grow q1 gr9 q1.size (Nat.le_refl _)
  clear gr9 sz9 R0
  go_wp2_with fail
  have hlv : (loadVar 62 ⟨w.heap.size, 0, none⟩).run Try.prog w9 = .ok (.agg #[.int .i64 0, .int .i64 (-1), .int .i64 0, .int .i64 0, .int .i64 0, .slice none 0 0, .int .i64 1, .slice none 0 0, .int .i64 0, .int .i64 0, .slice none 0 0]) w9 := run_loadVar_row w9 _ _ _ _ (0, 0) _ Z9 Try.underlying62 rfl disk_size
  refine bodyPost_ret (v := .agg #[.int .i64 0, .int .i64 (-1), .int .i64 0, .int .i64 0, .int .i64 0, .slice none 0 0, .int .i64 1, .slice none 0 0, .int .i64 0, .int .i64 0, .slice none 0 0]) ?_ rfl ⟨rfl, q9⟩
  simp only [results, Try.results17]
  simp [asAddr, Act.put, hlv]
end Go.Proofs.Ytmkheplfdajadaa
