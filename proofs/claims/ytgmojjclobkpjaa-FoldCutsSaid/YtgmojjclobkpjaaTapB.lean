/- Records that may not be are refused by tape.Append and by tape.Fold. -/
import Derived.Test.YtgmojjclobkpjaaTapR
import Derived.Test.YtgmojjclobkpjaaDecM
namespace Go.Proofs.Ytgmojjclobkpjaa
set_option linter.all false
open Go.RowKit
/-- A whole value is loaded out of a block of its type. -/
theorem wpList_load_blk {P : Program} {ops : Array Oper} {rest : List Oper} {op : Oper} {a : Act} {w : World} {Q : Exit → Act → World → Prop} (hgd : op.guard = none) (ty : TypeId) (x : Operand) (ho : op.op = .load ty x)
    {b : Nat} {cs : Array Value} (hx : a.eval x = .pointer (some ⟨b, 0, none⟩)) (hB : Blk w b ty cs) {d : TypeDesc} (hu : P.underlying ty = some d) (hd : (match d with | .struct _ | .array _ _ => true | _ => false) = true) (hi : (P.info? ty).map (·.size) = some cs.size)
    (h : wpList P ops Q rest (a.put op.dst (.agg cs)) w) : wpList P ops Q (op :: rest) a w := by
  have hrun := run_loadVar_row (P := P) w b ty ty cs (0, 0) d hB hu hd hi
  refine wpList_plain hgd fun _ hK => ?_
  unfold Oper.wp execOp
  simp only [ho, hx, Instr.loadAt, Instr.sureAddr, Sem.run_bind, Sem.run_pure, Result.andThen_ok, hrun]
  exact hK _ _ h
theorem Check_rec {r : RK} (hr : r.Ok) {row : List Value} (w : World) (h : RecAt w r row) : Calls Try.prog 10 #[.agg row.toArray] w fun e w' => e = .returned (.int .i64 0) ∧ Below w.heap.size w w' := by
  cases r with
  | mark t f => rw [show row = markCells t f from h]; exact CheckMark_ok t f hr.1 hr.2.1 hr.2.2 w
  | line i x => rw [show row = lineCells i x from h]; exact CheckLine_ok i x hr.1 hr.2 w
  | load i t m =>
    obtain ⟨A, n, c, B, k, d, rfl, hE, hC⟩ := h
    have hok := hr.2.2
    have h0 : csM i t m = 0 := by unfold csM; rw [hr.1, hr.2.1, if_pos (by rfl), ok_mach hok]
    rw [← h0]
    exact CheckLoad_any i t m A B n c k d w hE.sl hC.sl (by have := hE.sl.len; have := hok.sto.few; omega) (by have := hC.sl.len; have := hok.few; omega) (fun x hx => by obtain ⟨a, b, d⟩ := hok.sto.small x hx; exact ⟨by omega, by omega, by omega⟩) (fun x hx => by have := rep_to (hok.cli x hx).rep; exact ⟨by have := this.text; omega, by have := this.few; omega⟩)
theorem disk_size : (Try.prog.info? 50).map (·.size) = some 11 := by kernel_rfl
set_option maxHeartbeats 8000000 in
set_option maxRecDepth 100000 in
theorem TapeNew_any (w : World) : Calls Try.prog 9 #[] w fun e w' => e = .returned (.agg #[.int .i64 0, .int .i64 (-1), .int .i64 0, .int .i64 0, .int .i64 0, .slice none 0 0, .int .i64 1, .slice none 0 0, .int .i64 0, .int .i64 0, .slice none 0 0]) ∧ Below w.heap.size w w' := by
  have R0 := Blk.new w 50 #[.int .i64 0, .int .i64 0, .int .i64 0, .int .i64 0, .int .i64 0, .slice none 0 0, .int .i64 0, .slice none 0 0, .int .i64 0, .int .i64 0, .slice none 0 0]
  have q0 : Below w.heap.size w (w.alloc (.cells #[.int .i64 0, .int .i64 0, .int .i64 0, .int .i64 0, .int .i64 0, .slice none 0 0, .int .i64 0, .slice none 0 0, .int .i64 0, .int .i64 0, .slice none 0 0] 50)) := below_by
  go_enter Try.func9, Try.ntmps9
  go_wp2_with fail
  refine (New_any _).mono ?_
  rintro e w1 ⟨rfl, b1⟩
  replace R0 := R0.below' b1
  have q1 := bstep q0 b1
  go_wp2_with (refine wpList_store_blk rfl 50 _ _ rfl (cells := #[.int .i64 0, .int .i64 (-1), .int .i64 0, .int .i64 0, .int .i64 0, .slice none 0 0, .int .i64 1, .slice none 0 0, .int .i64 0, .int .i64 0, .slice none 0 0]) rfl rfl R0 rfl disk_size (all_one rfl) ?_; intro w9 Z9 gr9 sz9)
  have q9 := below_grow q1 gr9 q1.size (Nat.le_refl _)
  clear gr9 sz9 R0
  go_wp2_with fail
  have hlv : (loadVar 50 ⟨w.heap.size, 0, none⟩).run Try.prog w9 = .ok (.agg #[.int .i64 0, .int .i64 (-1), .int .i64 0, .int .i64 0, .int .i64 0, .slice none 0 0, .int .i64 1, .slice none 0 0, .int .i64 0, .int .i64 0, .slice none 0 0]) w9 := run_loadVar_row w9 _ _ _ _ (0, 0) _ Z9 Try.underlying50 rfl disk_size
  refine bodyPost_ret (v := .agg #[.int .i64 0, .int .i64 (-1), .int .i64 0, .int .i64 0, .int .i64 0, .slice none 0 0, .int .i64 1, .slice none 0 0, .int .i64 0, .int .i64 0, .slice none 0 0]) ?_ rfl ⟨rfl, q9⟩
  simp only [results, Try.results9]
  simp [asAddr, Act.put, hlv]
set_option maxHeartbeats 8000000 in
set_option maxRecDepth 100000 in
/-- A record that is refused is not folded. -/
theorem Fold_ref (c0 c1 c2 c3 c4 c5 c6 c7 c8 c9 c10 c11 c12 c13 c14 c15 c16 c17 c18 c19 : Value) (k : Int) (hk : k ≠ 0) (h1 : ∀ u ∈ [c0, c1, c2, c3, c4, c5, c6, c7, c8, c9, c10, c11, c12, c13, c14, c15, c16, c17, c18, c19], u.oneCell' = true) (hC : ∀ w, Calls Try.prog 10 #[.agg #[c0, c1, c2, c3, c4, c5, c6, c7, c8, c9, c10, c11, c12, c13, c14, c15, c16, c17, c18, c19]] w fun e w' => e = .returned (.int .i64 k) ∧ Below w.heap.size w w') (g : Nat) (w : World) (hB : Blk w g 45 #[c0, c1, c2, c3, c4, c5, c6, c7, c8, c9, c10, c11, c12, c13, c14, c15, c16, c17, c18, c19]) :
    Calls Try.prog 6 #[.slice (some ⟨g, 0, none⟩) 1 1] w fun e w' => e = .returned (.tuple #[.agg #[.int .i64 0, .int .i64 0, .int .i64 0, .int .i64 0, .int .i64 0, .slice none 0 0, .int .i64 0, .slice none 0 0, .int .i64 0, .int .i64 0, .slice none 0 0], .int .i64 k]) ∧ Below w.heap.size w w' := by
  have HC := hide hC
  have H1 := hide h1
  clear hC h1
  have hkb : (k == 0) = false := by simpa using hk
  have Z0 := Blk.new w 50 #[.int .i64 0, .int .i64 0, .int .i64 0, .int .i64 0, .int .i64 0, .slice none 0 0, .int .i64 0, .slice none 0 0, .int .i64 0, .int .i64 0, .slice none 0 0]
  have q0 : Below w.heap.size w (w.alloc (.cells #[.int .i64 0, .int .i64 0, .int .i64 0, .int .i64 0, .int .i64 0, .slice none 0 0, .int .i64 0, .slice none 0 0, .int .i64 0, .int .i64 0, .slice none 0 0] 50)) := below_by
  go_enter Try.func6, Try.ntmps6
  go_wp2_with fail
  refine (TapeNew_any _).mono ?_
  rintro e w1 ⟨rfl, b1⟩
  have q1 := bstep q0 b1
  replace Z0 := Z0.below' b1
  have B0 := hB.below' q1
  clear b1 q0 hB
  replace Z0 := Z0.alloc (.cells #[.int .i64 0, .int .i64 (-1), .int .i64 0, .int .i64 0, .int .i64 0, .slice none 0 0, .int .i64 1, .slice none 0 0, .int .i64 0, .int .i64 0, .slice none 0 0] 50)
  replace B0 := B0.alloc (.cells #[.int .i64 0, .int .i64 (-1), .int .i64 0, .int .i64 0, .int .i64 0, .slice none 0 0, .int .i64 1, .slice none 0 0, .int .i64 0, .int .i64 0, .slice none 0 0] 50)
  have q2 : Below w.heap.size w (w1.alloc (.cells #[.int .i64 0, .int .i64 (-1), .int .i64 0, .int .i64 0, .int .i64 0, .slice none 0 0, .int .i64 1, .slice none 0 0, .int .i64 0, .int .i64 0, .slice none 0 0] 50)) := below_by
  go_wp2_with fail
  obtain ⟨w2, hw2⟩ : ∃ w2, w2 = w1.alloc (.cells #[.int .i64 0, .int .i64 (-1), .int .i64 0, .int .i64 0, .int .i64 0, .slice none 0 0, .int .i64 1, .slice none 0 0, .int .i64 0, .int .i64 0, .slice none 0 0] 50) := ⟨_, rfl⟩
  rw [← hw2] at Z0 B0 q2 ⊢
  clear hw2 q1
  have hw20 : w.heap.size ≤ w2.heap.size := q2.size
  have q3 : Below w.heap.size w (w2.alloc (.cells #[.int .i64 0, .int .i64 0, .int .i64 0, .int .i64 0, .int .i64 0, .int .i64 0, .bool false, .int .i64 0, .int .i64 0, .int .i64 0, .string { data := #[] }, .string { data := #[] }, .string { data := #[] }, .int .i64 0, .int .i64 0, .int .i64 0, .int .i64 0, .slice none 0 0, .int .i64 0, .slice none 0 0] 45)) := below_by
  have Z3 := Z0.alloc (.cells #[.int .i64 0, .int .i64 0, .int .i64 0, .int .i64 0, .int .i64 0, .int .i64 0, .bool false, .int .i64 0, .int .i64 0, .int .i64 0, .string { data := #[] }, .string { data := #[] }, .string { data := #[] }, .int .i64 0, .int .i64 0, .int .i64 0, .int .i64 0, .slice none 0 0, .int .i64 0, .slice none 0 0] 45)
  have hzl := Z0.lt
  refine wp_loop_rounds 1 ?_
  rw [rounds_succ]
  go_wp2_with (first | (refine wpList_load_blk rfl 45 _ rfl rfl B0 Try.underlying45 rfl rec_size ?_) | (refine wpList_store_blk rfl 45 _ _ rfl (cells := #[c0, c1, c2, c3, c4, c5, c6, c7, c8, c9, c10, c11, c12, c13, c14, c15, c16, c17, c18, c19]) rfl rfl (Blk.new w2 _ _) rfl rec_size H1.out ?_; intro w4 Z4 gr4 sz4) | (refine wpList_load_blk rfl 45 _ rfl rfl Z4 Try.underlying45 rfl rec_size ?_))
  refine (HC.out _).mono ?_
  rintro e w5 ⟨rfl, b5⟩
  have Z5 := (grown_blk Z3 gr4 (by omega)).below' b5
  have q5 := bstep (below_grow q3 gr4 q3.size hw20) b5
  clear HC H1 gr4 sz4 b5 B0 Z0 Z3 Z4 q2 q3
  (try clear cZ5 fZ5); have cZ5 := Z5.cell; have fZ5 := Z5.frozen
  have hz5 := Z5.lt
  go_wp2_with (refine wpList_store_blk rfl 50 _ _ rfl (cells := #[.int .i64 0, .int .i64 0, .int .i64 0, .int .i64 0, .int .i64 0, .slice none 0 0, .int .i64 0, .slice none 0 0, .int .i64 0, .int .i64 0, .slice none 0 0]) rfl rfl Z5 rfl disk_size (all_one rfl) ?_; intro w6 Z6 gr6 sz6)
  have q6 := below_grow q5 gr6 q5.size (Nat.le_refl _)
  clear gr6 sz6 Z5 cZ5 fZ5 q5
  go_wp2_with fail
  have hlv : (loadVar 50 ⟨w.heap.size, 0, none⟩).run Try.prog w6 = .ok (.agg #[.int .i64 0, .int .i64 0, .int .i64 0, .int .i64 0, .int .i64 0, .slice none 0 0, .int .i64 0, .slice none 0 0, .int .i64 0, .int .i64 0, .slice none 0 0]) w6 := run_loadVar_row w6 _ _ _ _ (0, 0) _ Z6 Try.underlying50 rfl disk_size
  refine bodyPost_ret (v := .tuple #[.agg #[.int .i64 0, .int .i64 0, .int .i64 0, .int .i64 0, .int .i64 0, .slice none 0 0, .int .i64 0, .slice none 0 0, .int .i64 0, .int .i64 0, .slice none 0 0], .int .i64 k]) ?_ rfl ⟨rfl, q6⟩
  simp only [results, Try.results6]
  simp [asAddr, Act.put, hlv]
end Go.Proofs.Ytgmojjclobkpjaa
