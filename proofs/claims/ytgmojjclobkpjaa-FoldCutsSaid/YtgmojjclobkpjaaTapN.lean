/- Records as memory holds them; rostrumkeep.record; tape.Check of records that may be. -/
import Derived.Test.YtgmojjclobkpjaaTapP
import Derived.Test.YtgmojjclobkpjaaRest
namespace Go.Proofs.Ytgmojjclobkpjaa
set_option linter.all false
open Go.RowKit
def markCells (t f : Int) : List Value := [.int .i64 1, .int .i64 t, .int .i64 f, .int .i64 0, .int .i64 0, .int .i64 0, .bool false, .int .i64 0, .int .i64 0, .int .i64 0, .string { data := #[] }, .string { data := #[] }, .string { data := #[] }, .int .i64 0, .int .i64 0, .int .i64 0, .int .i64 0, .slice none 0 0, .int .i64 0, .slice none 0 0]
def lineCells (i : Int) (x : Itm) : List Value := [.int .i64 2, .int .i64 0, .int .i64 0, .int .i64 i, .int .i64 x.term, .int .i64 x.time, .bool x.nop, .int .i64 x.client, .int .i64 x.seq, .int .i64 x.cmd.kind, .string x.cmd.key, .string x.cmd.field, .string x.cmd.text, .int .i64 x.cmd.n, .int .i64 0, .int .i64 0, .int .i64 0, .slice none 0 0, .int .i64 0, .slice none 0 0]
def loadCells (i t : Int) (m : Mach) (E C : Value) : List Value := [.int .i64 3, .int .i64 0, .int .i64 0, .int .i64 0, .int .i64 0, .int .i64 0, .bool false, .int .i64 0, .int .i64 0, .int .i64 0, .string { data := #[] }, .string { data := #[] }, .string { data := #[] }, .int .i64 0, .int .i64 i, .int .i64 t, .int .i64 m.now, E, .int .i64 m.next, C]
/-- A row of cells is a record. -/
def RecAt (w : World) : RK → List Value → Prop
  | .mark t f, row => row = markCells t f
  | .line i x, row => row = lineCells i x
  | .load i t m, row => ∃ A n c B k d, row = loadCells i t m (.slice A n c) (.slice B k d) ∧ St w A n c m.ents ∧ Ci w B k d m.clis
theorem RecAt.bl {w w' : World} {r : RK} {row : List Value} (h : RecAt w r row) (hb : Below w.heap.size w w') : RecAt w' r row := by
  cases r with
  | mark t f => exact h
  | line i x => exact h
  | load i t m =>
    obtain ⟨A, n, c, B, k, d, h1, h2, h3⟩ := h
    exact ⟨A, n, c, B, k, d, h1, h2.bl hb, h3.bl hb⟩
theorem RecAt.grown {w w' : World} {g : Nat} {t : TypeId} {cs : Array Value} {r : RK} {row : List Value} (h : RecAt w r row) (R : Blk w g t cs) (hg : w.grownBy w' (some g)) (h0 : 91 ≠ t := by decide) (h4 : 97 ≠ t := by decide) (h1 : t ≠ 118 := by decide) (h2 : t ≠ 9 := by decide) (h3 : t ≠ 120 := by decide) : RecAt w' r row := by
  cases r with
  | mark t f => exact h
  | line i x => exact h
  | load i t m =>
    obtain ⟨A, n, c, B, k, d, e1, e2, e3⟩ := h
    exact ⟨A, n, c, B, k, d, e1, e2.grown R hg h0 h1 h2 h3, e3.grown R hg h4 h1 h2 h3⟩
theorem RecAt.len {w : World} {r : RK} {row : List Value} (h : RecAt w r row) : row.length = 20 := by
  cases r with
  | mark t f => rw [show row = markCells t f from h]; rfl
  | line i x => rw [show row = lineCells i x from h]; rfl
  | load i t m => obtain ⟨A, n, c, B, k, d, rfl, _⟩ := h; rfl
theorem RecAt.one {w : World} {r : RK} {row : List Value} (h : RecAt w r row) : ∀ u ∈ row, u.oneCell' = true := by
  have key : ∀ u ∈ row, u.oneCell' = true := by
    cases r with
    | mark t f => rw [show row = markCells t f from h]; exact all_one rfl
    | line i x => rw [show row = lineCells i x from h]; exact all_one rfl
    | load i t m => obtain ⟨A, n, c, B, k, d, rfl, _⟩ := h; exact all_one rfl
  exact key
theorem one_step {w w1 : World} {b : Nat} {t : TypeId} {cs cs' : Array Value} (i : Nat) (u : Value) (h : Blk w1 b t cs ∧ w.grownBy w1 (some b) ∧ w1.heap.size = w.heap.size) (he : cs.setIfInBounds i u = cs') :
    Blk (w1.setCell ⟨b, i, none⟩ u) b t cs' ∧ w.grownBy (w1.setCell ⟨b, i, none⟩ u) (some b) ∧ (w1.setCell ⟨b, i, none⟩ u).heap.size = w.heap.size :=
  ⟨h.1.set' he, grown_trans h.2.1 (grown_setRow_cell w1 b i u), by rw [← h.2.2]; simp⟩
theorem whole_rec {w2 : World} {b : Nat} {x0 x1 x2 x3 x4 x5 x6 x7 x8 x9 x10 x11 x12 x13 x14 x15 x16 x17 x18 x19 : Value} (u0 u1 u2 u3 u4 u5 u6 u7 u8 u9 u10 u11 u12 u13 u14 u15 u16 u17 u18 u19 : Value) (R : Blk w2 b 45 #[x0, x1, x2, x3, x4, x5, x6, x7, x8, x9, x10, x11, x12, x13, x14, x15, x16, x17, x18, x19]) :
    Blk ((((((((((((((((((((w2.setCell ⟨b, 0, none⟩ u0).setCell ⟨b, 1, none⟩ u1).setCell ⟨b, 2, none⟩ u2).setCell ⟨b, 3, none⟩ u3).setCell ⟨b, 4, none⟩ u4).setCell ⟨b, 5, none⟩ u5).setCell ⟨b, 6, none⟩ u6).setCell ⟨b, 7, none⟩ u7).setCell ⟨b, 8, none⟩ u8).setCell ⟨b, 9, none⟩ u9).setCell ⟨b, 10, none⟩ u10).setCell ⟨b, 11, none⟩ u11).setCell ⟨b, 12, none⟩ u12).setCell ⟨b, 13, none⟩ u13).setCell ⟨b, 14, none⟩ u14).setCell ⟨b, 15, none⟩ u15).setCell ⟨b, 16, none⟩ u16).setCell ⟨b, 17, none⟩ u17).setCell ⟨b, 18, none⟩ u18).setCell ⟨b, 19, none⟩ u19) b 45 #[u0, u1, u2, u3, u4, u5, u6, u7, u8, u9, u10, u11, u12, u13, u14, u15, u16, u17, u18, u19] ∧ w2.grownBy ((((((((((((((((((((w2.setCell ⟨b, 0, none⟩ u0).setCell ⟨b, 1, none⟩ u1).setCell ⟨b, 2, none⟩ u2).setCell ⟨b, 3, none⟩ u3).setCell ⟨b, 4, none⟩ u4).setCell ⟨b, 5, none⟩ u5).setCell ⟨b, 6, none⟩ u6).setCell ⟨b, 7, none⟩ u7).setCell ⟨b, 8, none⟩ u8).setCell ⟨b, 9, none⟩ u9).setCell ⟨b, 10, none⟩ u10).setCell ⟨b, 11, none⟩ u11).setCell ⟨b, 12, none⟩ u12).setCell ⟨b, 13, none⟩ u13).setCell ⟨b, 14, none⟩ u14).setCell ⟨b, 15, none⟩ u15).setCell ⟨b, 16, none⟩ u16).setCell ⟨b, 17, none⟩ u17).setCell ⟨b, 18, none⟩ u18).setCell ⟨b, 19, none⟩ u19) (some b) ∧ ((((((((((((((((((((w2.setCell ⟨b, 0, none⟩ u0).setCell ⟨b, 1, none⟩ u1).setCell ⟨b, 2, none⟩ u2).setCell ⟨b, 3, none⟩ u3).setCell ⟨b, 4, none⟩ u4).setCell ⟨b, 5, none⟩ u5).setCell ⟨b, 6, none⟩ u6).setCell ⟨b, 7, none⟩ u7).setCell ⟨b, 8, none⟩ u8).setCell ⟨b, 9, none⟩ u9).setCell ⟨b, 10, none⟩ u10).setCell ⟨b, 11, none⟩ u11).setCell ⟨b, 12, none⟩ u12).setCell ⟨b, 13, none⟩ u13).setCell ⟨b, 14, none⟩ u14).setCell ⟨b, 15, none⟩ u15).setCell ⟨b, 16, none⟩ u16).setCell ⟨b, 17, none⟩ u17).setCell ⟨b, 18, none⟩ u18).setCell ⟨b, 19, none⟩ u19).heap.size = w2.heap.size := by
  have R0 := one_step (w := w2) (cs' := #[u0, x1, x2, x3, x4, x5, x6, x7, x8, x9, x10, x11, x12, x13, x14, x15, x16, x17, x18, x19]) 0 u0 ⟨R, grown_refl _ _, rfl⟩ rfl
  have R1 := one_step (w := w2) (cs' := #[u0, u1, x2, x3, x4, x5, x6, x7, x8, x9, x10, x11, x12, x13, x14, x15, x16, x17, x18, x19]) 1 u1 R0 rfl
  have R2 := one_step (w := w2) (cs' := #[u0, u1, u2, x3, x4, x5, x6, x7, x8, x9, x10, x11, x12, x13, x14, x15, x16, x17, x18, x19]) 2 u2 R1 rfl
  have R3 := one_step (w := w2) (cs' := #[u0, u1, u2, u3, x4, x5, x6, x7, x8, x9, x10, x11, x12, x13, x14, x15, x16, x17, x18, x19]) 3 u3 R2 rfl
  have R4 := one_step (w := w2) (cs' := #[u0, u1, u2, u3, u4, x5, x6, x7, x8, x9, x10, x11, x12, x13, x14, x15, x16, x17, x18, x19]) 4 u4 R3 rfl
  have R5 := one_step (w := w2) (cs' := #[u0, u1, u2, u3, u4, u5, x6, x7, x8, x9, x10, x11, x12, x13, x14, x15, x16, x17, x18, x19]) 5 u5 R4 rfl
  have R6 := one_step (w := w2) (cs' := #[u0, u1, u2, u3, u4, u5, u6, x7, x8, x9, x10, x11, x12, x13, x14, x15, x16, x17, x18, x19]) 6 u6 R5 rfl
  have R7 := one_step (w := w2) (cs' := #[u0, u1, u2, u3, u4, u5, u6, u7, x8, x9, x10, x11, x12, x13, x14, x15, x16, x17, x18, x19]) 7 u7 R6 rfl
  have R8 := one_step (w := w2) (cs' := #[u0, u1, u2, u3, u4, u5, u6, u7, u8, x9, x10, x11, x12, x13, x14, x15, x16, x17, x18, x19]) 8 u8 R7 rfl
  have R9 := one_step (w := w2) (cs' := #[u0, u1, u2, u3, u4, u5, u6, u7, u8, u9, x10, x11, x12, x13, x14, x15, x16, x17, x18, x19]) 9 u9 R8 rfl
  have R10 := one_step (w := w2) (cs' := #[u0, u1, u2, u3, u4, u5, u6, u7, u8, u9, u10, x11, x12, x13, x14, x15, x16, x17, x18, x19]) 10 u10 R9 rfl
  have R11 := one_step (w := w2) (cs' := #[u0, u1, u2, u3, u4, u5, u6, u7, u8, u9, u10, u11, x12, x13, x14, x15, x16, x17, x18, x19]) 11 u11 R10 rfl
  have R12 := one_step (w := w2) (cs' := #[u0, u1, u2, u3, u4, u5, u6, u7, u8, u9, u10, u11, u12, x13, x14, x15, x16, x17, x18, x19]) 12 u12 R11 rfl
  have R13 := one_step (w := w2) (cs' := #[u0, u1, u2, u3, u4, u5, u6, u7, u8, u9, u10, u11, u12, u13, x14, x15, x16, x17, x18, x19]) 13 u13 R12 rfl
  have R14 := one_step (w := w2) (cs' := #[u0, u1, u2, u3, u4, u5, u6, u7, u8, u9, u10, u11, u12, u13, u14, x15, x16, x17, x18, x19]) 14 u14 R13 rfl
  have R15 := one_step (w := w2) (cs' := #[u0, u1, u2, u3, u4, u5, u6, u7, u8, u9, u10, u11, u12, u13, u14, u15, x16, x17, x18, x19]) 15 u15 R14 rfl
  have R16 := one_step (w := w2) (cs' := #[u0, u1, u2, u3, u4, u5, u6, u7, u8, u9, u10, u11, u12, u13, u14, u15, u16, x17, x18, x19]) 16 u16 R15 rfl
  have R17 := one_step (w := w2) (cs' := #[u0, u1, u2, u3, u4, u5, u6, u7, u8, u9, u10, u11, u12, u13, u14, u15, u16, u17, x18, x19]) 17 u17 R16 rfl
  have R18 := one_step (w := w2) (cs' := #[u0, u1, u2, u3, u4, u5, u6, u7, u8, u9, u10, u11, u12, u13, u14, u15, u16, u17, u18, x19]) 18 u18 R17 rfl
  have R19 := one_step (w := w2) (cs' := #[u0, u1, u2, u3, u4, u5, u6, u7, u8, u9, u10, u11, u12, u13, u14, u15, u16, u17, u18, u19]) 19 u19 R18 rfl
  exact R19
/-- A whole value is stored into a block of its type. -/
theorem wpList_store_blk {P : Program} {ops : Array Oper} {rest : List Oper} {op : Oper} {a : Act} {w : World} {Q : Exit → Act → World → Prop} (hgd : op.guard = none) (ty : TypeId) (x y : Operand) (ho : op.op = .store ty x y)
    {b : Nat} {cs cells : Array Value} (hx : a.eval x = .pointer (some ⟨b, 0, none⟩)) (hy : a.eval y = .agg cells) (hB : Blk w b ty cs) (hsz : cs.size = cells.size) (hi : (P.info? ty).map (·.size) = some cells.size) (h1 : ∀ u ∈ cells.toList, u.oneCell' = true)
    (h : ∀ w', Blk w' b ty cells → w.grownBy w' (some b) → w'.heap.size = w.heap.size → wpList P ops Q rest (a.put op.dst undef) w') : wpList P ops Q (op :: rest) a w := by
  have hrun := run_storeVar_row (P := P) w b ty ty cs cells hB hi hsz (Array.all_eq_true_iff_forall_mem.2 fun v hv => h1 v (by simpa using hv))
  refine wpList_plain hgd fun _ hK => ?_
  unfold Oper.wp execOp
  simp only [ho, hx, hy, Instr.storeAt, Instr.sureAddr, Sem.run_bind, Sem.run_pure, Result.andThen_ok, hrun]
  refine hK _ _ (h _ ?_ (grown_setRow w b cells) ?_)
  · exact setRow_heap w b cs cells ty (0, 0) hB
  · exact size_setRow w b cells
set_option maxHeartbeats 4000000 in
set_option maxRecDepth 100000 in
theorem noSnap_none (w : World) : Calls Try.prog 18 #[.agg #[.int .i64 0, .int .i64 0, .int .i64 0, .slice none 0 0, .int .i64 0, .slice none 0 0]] w fun e w' => e = .returned (.bool true) ∧ Below w.heap.size w w' := by
  have T0 := (Blk.new w 43 #[.int .i64 0, .int .i64 0, .int .i64 0, .slice none 0 0, .int .i64 0, .slice none 0 0]).alloc (.cells #[.int .i64 0, .slice none 0 0, .int .i64 0, .slice none 0 0] 41)
  have M0 : Blk ((w.alloc (.cells #[.int .i64 0, .int .i64 0, .int .i64 0, .slice none 0 0, .int .i64 0, .slice none 0 0] 43)).alloc (.cells #[.int .i64 0, .slice none 0 0, .int .i64 0, .slice none 0 0] 41)) (w.heap.size + 1) 41 #[.int .i64 0, .slice none 0 0, .int .i64 0, .slice none 0 0] := Blk.new' _ _ _ (by simp)
  have q0 : Below w.heap.size w ((w.alloc (.cells #[.int .i64 0, .int .i64 0, .int .i64 0, .slice none 0 0, .int .i64 0, .slice none 0 0] 43)).alloc (.cells #[.int .i64 0, .slice none 0 0, .int .i64 0, .slice none 0 0] 41)) := below_by
  go_enter Try.func18, Try.ntmps18
  go_wp2_with fail
  go_ret
  exact ⟨rfl, q0⟩
set_option maxHeartbeats 8000000 in
set_option maxRecDepth 100000 in
theorem CheckMark_ok (t f : Int) (ht : numberOk t = true) (h0 : -1 ≤ f) (h1 : f < 3) (w : World) :
    Calls Try.prog 10 #[.agg #[.int .i64 1, .int .i64 t, .int .i64 f, .int .i64 0, .int .i64 0, .int .i64 0, .bool false, .int .i64 0, .int .i64 0, .int .i64 0, .string { data := #[] }, .string { data := #[] }, .string { data := #[] }, .int .i64 0, .int .i64 0, .int .i64 0, .int .i64 0, .slice none 0 0, .int .i64 0, .slice none 0 0]] w fun e w' => e = .returned (.int .i64 0) ∧ Below w.heap.size w w' := by
  have T0 := (Blk.new w 45 #[.int .i64 1, .int .i64 t, .int .i64 f, .int .i64 0, .int .i64 0, .int .i64 0, .bool false, .int .i64 0, .int .i64 0, .int .i64 0, .string { data := #[] }, .string { data := #[] }, .string { data := #[] }, .int .i64 0, .int .i64 0, .int .i64 0, .int .i64 0, .slice none 0 0, .int .i64 0, .slice none 0 0]).alloc (.cells #[.int .i64 0, .int .i64 0, .bool false, .int .i64 0, .int .i64 0, .int .i64 0, .string { data := #[] }, .string { data := #[] }, .string { data := #[] }, .int .i64 0] 35)
  have I0 := Blk.new (w.alloc (.cells #[.int .i64 1, .int .i64 t, .int .i64 f, .int .i64 0, .int .i64 0, .int .i64 0, .bool false, .int .i64 0, .int .i64 0, .int .i64 0, .string { data := #[] }, .string { data := #[] }, .string { data := #[] }, .int .i64 0, .int .i64 0, .int .i64 0, .int .i64 0, .slice none 0 0, .int .i64 0, .slice none 0 0] 45)) 35 #[.int .i64 0, .int .i64 0, .bool false, .int .i64 0, .int .i64 0, .int .i64 0, .string { data := #[] }, .string { data := #[] }, .string { data := #[] }, .int .i64 0]
  have q0 : Below w.heap.size w ((w.alloc (.cells #[.int .i64 1, .int .i64 t, .int .i64 f, .int .i64 0, .int .i64 0, .int .i64 0, .bool false, .int .i64 0, .int .i64 0, .int .i64 0, .string { data := #[] }, .string { data := #[] }, .string { data := #[] }, .int .i64 0, .int .i64 0, .int .i64 0, .int .i64 0, .slice none 0 0, .int .i64 0, .slice none 0 0] 45)).alloc (.cells #[.int .i64 0, .int .i64 0, .bool false, .int .i64 0, .int .i64 0, .int .i64 0, .string { data := #[] }, .string { data := #[] }, .string { data := #[] }, .int .i64 0] 35)) := below_by
  go_enter Try.func10, Try.ntmps10
  (try clear cT0 fT0); have cT0 := T0.cell; have fT0 := T0.frozen; (try clear cI0 fI0); have cI0 := I0.cell; have fI0 := I0.frozen
  go_wp2_with fail
  refine (noSnap_none _).mono ?_
  rintro e w1 ⟨rfl, hb1⟩
  replace T0 := T0.bl hb1; replace I0 := I0.bl hb1
  replace q0 := bstep q0 hb1
  clear hb1 cT0 fT0 cI0 fI0
  (try clear cT0 fT0); have cT0 := T0.cell; have fT0 := T0.frozen; (try clear cI0 fI0); have cI0 := I0.cell; have fI0 := I0.frozen
  go_wp2_with fail
  refine (tnumber_any t _).mono ?_
  rintro e w' ⟨rfl, rfl⟩
  rw [ht]
  go_wp2_with fail
  go_ret
  exact ⟨rfl, q0⟩
set_option maxHeartbeats 8000000 in
set_option maxRecDepth 100000 in
theorem CheckMark_bad (t f : Int) (ht : numberOk t = false) (w : World) :
    Calls Try.prog 10 #[.agg #[.int .i64 1, .int .i64 t, .int .i64 f, .int .i64 0, .int .i64 0, .int .i64 0, .bool false, .int .i64 0, .int .i64 0, .int .i64 0, .string { data := #[] }, .string { data := #[] }, .string { data := #[] }, .int .i64 0, .int .i64 0, .int .i64 0, .int .i64 0, .slice none 0 0, .int .i64 0, .slice none 0 0]] w fun e w' => e = .returned (.int .i64 2) ∧ Below w.heap.size w w' := by
  have T0 := (Blk.new w 45 #[.int .i64 1, .int .i64 t, .int .i64 f, .int .i64 0, .int .i64 0, .int .i64 0, .bool false, .int .i64 0, .int .i64 0, .int .i64 0, .string { data := #[] }, .string { data := #[] }, .string { data := #[] }, .int .i64 0, .int .i64 0, .int .i64 0, .int .i64 0, .slice none 0 0, .int .i64 0, .slice none 0 0]).alloc (.cells #[.int .i64 0, .int .i64 0, .bool false, .int .i64 0, .int .i64 0, .int .i64 0, .string { data := #[] }, .string { data := #[] }, .string { data := #[] }, .int .i64 0] 35)
  have I0 := Blk.new (w.alloc (.cells #[.int .i64 1, .int .i64 t, .int .i64 f, .int .i64 0, .int .i64 0, .int .i64 0, .bool false, .int .i64 0, .int .i64 0, .int .i64 0, .string { data := #[] }, .string { data := #[] }, .string { data := #[] }, .int .i64 0, .int .i64 0, .int .i64 0, .int .i64 0, .slice none 0 0, .int .i64 0, .slice none 0 0] 45)) 35 #[.int .i64 0, .int .i64 0, .bool false, .int .i64 0, .int .i64 0, .int .i64 0, .string { data := #[] }, .string { data := #[] }, .string { data := #[] }, .int .i64 0]
  have q0 : Below w.heap.size w ((w.alloc (.cells #[.int .i64 1, .int .i64 t, .int .i64 f, .int .i64 0, .int .i64 0, .int .i64 0, .bool false, .int .i64 0, .int .i64 0, .int .i64 0, .string { data := #[] }, .string { data := #[] }, .string { data := #[] }, .int .i64 0, .int .i64 0, .int .i64 0, .int .i64 0, .slice none 0 0, .int .i64 0, .slice none 0 0] 45)).alloc (.cells #[.int .i64 0, .int .i64 0, .bool false, .int .i64 0, .int .i64 0, .int .i64 0, .string { data := #[] }, .string { data := #[] }, .string { data := #[] }, .int .i64 0] 35)) := below_by
  go_enter Try.func10, Try.ntmps10
  (try clear cT0 fT0); have cT0 := T0.cell; have fT0 := T0.frozen; (try clear cI0 fI0); have cI0 := I0.cell; have fI0 := I0.frozen
  go_wp2_with fail
  refine (noSnap_none _).mono ?_
  rintro e w1 ⟨rfl, hb1⟩
  replace T0 := T0.bl hb1; replace I0 := I0.bl hb1
  replace q0 := bstep q0 hb1
  clear hb1 cT0 fT0 cI0 fI0
  (try clear cT0 fT0); have cT0 := T0.cell; have fT0 := T0.frozen; (try clear cI0 fI0); have cI0 := I0.cell; have fI0 := I0.frozen
  go_wp2_with fail
  refine (tnumber_any t _).mono ?_
  rintro e w' ⟨rfl, rfl⟩
  rw [ht]
  go_wp2_with fail
  go_ret
  exact ⟨rfl, q0⟩
set_option maxHeartbeats 8000000 in
set_option maxRecDepth 100000 in
theorem CheckLine_ok (i : Int) (x : Itm) (ht : numberOk i = true) (hx : checkItem x = 0) (w : World) :
    Calls Try.prog 10 #[.agg #[.int .i64 2, .int .i64 0, .int .i64 0, .int .i64 i, .int .i64 x.term, .int .i64 x.time, .bool x.nop, .int .i64 x.client, .int .i64 x.seq, .int .i64 x.cmd.kind, .string x.cmd.key, .string x.cmd.field, .string x.cmd.text, .int .i64 x.cmd.n, .int .i64 0, .int .i64 0, .int .i64 0, .slice none 0 0, .int .i64 0, .slice none 0 0]] w fun e w' => e = .returned (.int .i64 0) ∧ Below w.heap.size w w' := by
  have HC := hide (fun w => CheckItem_any x w)
  have T0 := (Blk.new w 45 #[.int .i64 2, .int .i64 0, .int .i64 0, .int .i64 i, .int .i64 x.term, .int .i64 x.time, .bool x.nop, .int .i64 x.client, .int .i64 x.seq, .int .i64 x.cmd.kind, .string x.cmd.key, .string x.cmd.field, .string x.cmd.text, .int .i64 x.cmd.n, .int .i64 0, .int .i64 0, .int .i64 0, .slice none 0 0, .int .i64 0, .slice none 0 0]).alloc (.cells #[.int .i64 0, .int .i64 0, .bool false, .int .i64 0, .int .i64 0, .int .i64 0, .string { data := #[] }, .string { data := #[] }, .string { data := #[] }, .int .i64 0] 35)
  have I0 := Blk.new (w.alloc (.cells #[.int .i64 2, .int .i64 0, .int .i64 0, .int .i64 i, .int .i64 x.term, .int .i64 x.time, .bool x.nop, .int .i64 x.client, .int .i64 x.seq, .int .i64 x.cmd.kind, .string x.cmd.key, .string x.cmd.field, .string x.cmd.text, .int .i64 x.cmd.n, .int .i64 0, .int .i64 0, .int .i64 0, .slice none 0 0, .int .i64 0, .slice none 0 0] 45)) 35 #[.int .i64 0, .int .i64 0, .bool false, .int .i64 0, .int .i64 0, .int .i64 0, .string { data := #[] }, .string { data := #[] }, .string { data := #[] }, .int .i64 0]
  have q0 : Below w.heap.size w ((w.alloc (.cells #[.int .i64 2, .int .i64 0, .int .i64 0, .int .i64 i, .int .i64 x.term, .int .i64 x.time, .bool x.nop, .int .i64 x.client, .int .i64 x.seq, .int .i64 x.cmd.kind, .string x.cmd.key, .string x.cmd.field, .string x.cmd.text, .int .i64 x.cmd.n, .int .i64 0, .int .i64 0, .int .i64 0, .slice none 0 0, .int .i64 0, .slice none 0 0] 45)).alloc (.cells #[.int .i64 0, .int .i64 0, .bool false, .int .i64 0, .int .i64 0, .int .i64 0, .string { data := #[] }, .string { data := #[] }, .string { data := #[] }, .int .i64 0] 35)) := below_by
  go_enter Try.func10, Try.ntmps10
  (try clear cT0 fT0); have cT0 := T0.cell; have fT0 := T0.frozen; (try clear cI0 fI0); have cI0 := I0.cell; have fI0 := I0.frozen
  go_wp2_with fail
  refine (noSnap_none _).mono ?_
  rintro e w1 ⟨rfl, hb1⟩
  replace T0 := T0.bl hb1; replace I0 := I0.bl hb1
  replace q0 := bstep q0 hb1
  clear hb1 cT0 fT0 cI0 fI0
  (try clear cT0 fT0); have cT0 := T0.cell; have fT0 := T0.frozen; (try clear cI0 fI0); have cI0 := I0.cell; have fI0 := I0.frozen
  go_wp2_with fail
  refine (tnumber_any i _).mono ?_
  rintro e w' ⟨rfl, rfl⟩
  rw [ht]
  go_wp2_with fail
  refine (HC.out _).mono ?_
  rintro e w2 ⟨rfl, hb2⟩
  rw [hx]
  have q2 := bstep q0 hb2
  go_wp2_with fail
  go_ret
  exact ⟨rfl, q2⟩
set_option maxHeartbeats 8000000 in
set_option maxRecDepth 100000 in
theorem CheckBad0 (w : World) :
    Calls Try.prog 10 #[.agg #[.int .i64 1, .int .i64 1, .int .i64 0, .int .i64 1, .int .i64 0, .int .i64 0, .bool false, .int .i64 0, .int .i64 0, .int .i64 0, .string { data := #[] }, .string { data := #[] }, .string { data := #[] }, .int .i64 0, .int .i64 0, .int .i64 0, .int .i64 0, .slice none 0 0, .int .i64 0, .slice none 0 0]] w fun e w' => e = .returned (.int .i64 8) ∧ Below w.heap.size w w' := by
  have T0 := (Blk.new w 45 #[.int .i64 1, .int .i64 1, .int .i64 0, .int .i64 1, .int .i64 0, .int .i64 0, .bool false, .int .i64 0, .int .i64 0, .int .i64 0, .string { data := #[] }, .string { data := #[] }, .string { data := #[] }, .int .i64 0, .int .i64 0, .int .i64 0, .int .i64 0, .slice none 0 0, .int .i64 0, .slice none 0 0]).alloc (.cells #[.int .i64 0, .int .i64 0, .bool false, .int .i64 0, .int .i64 0, .int .i64 0, .string { data := #[] }, .string { data := #[] }, .string { data := #[] }, .int .i64 0] 35)
  have I0 := Blk.new (w.alloc (.cells #[.int .i64 1, .int .i64 1, .int .i64 0, .int .i64 1, .int .i64 0, .int .i64 0, .bool false, .int .i64 0, .int .i64 0, .int .i64 0, .string { data := #[] }, .string { data := #[] }, .string { data := #[] }, .int .i64 0, .int .i64 0, .int .i64 0, .int .i64 0, .slice none 0 0, .int .i64 0, .slice none 0 0] 45)) 35 #[.int .i64 0, .int .i64 0, .bool false, .int .i64 0, .int .i64 0, .int .i64 0, .string { data := #[] }, .string { data := #[] }, .string { data := #[] }, .int .i64 0]
  have q0 : Below w.heap.size w ((w.alloc (.cells #[.int .i64 1, .int .i64 1, .int .i64 0, .int .i64 1, .int .i64 0, .int .i64 0, .bool false, .int .i64 0, .int .i64 0, .int .i64 0, .string { data := #[] }, .string { data := #[] }, .string { data := #[] }, .int .i64 0, .int .i64 0, .int .i64 0, .int .i64 0, .slice none 0 0, .int .i64 0, .slice none 0 0] 45)).alloc (.cells #[.int .i64 0, .int .i64 0, .bool false, .int .i64 0, .int .i64 0, .int .i64 0, .string { data := #[] }, .string { data := #[] }, .string { data := #[] }, .int .i64 0] 35)) := below_by
  go_enter Try.func10, Try.ntmps10
  (try clear cT0 fT0); have cT0 := T0.cell; have fT0 := T0.frozen; (try clear cI0 fI0); have cI0 := I0.cell; have fI0 := I0.frozen
  go_wp2_with fail
  go_ret
  exact ⟨rfl, q0⟩
set_option maxHeartbeats 8000000 in
set_option maxRecDepth 100000 in
theorem CheckBad1 (w : World) :
    Calls Try.prog 10 #[.agg #[.int .i64 2, .int .i64 0, .int .i64 (-1), .int .i64 1, .int .i64 1, .int .i64 0, .bool true, .int .i64 0, .int .i64 0, .int .i64 0, .string { data := #[] }, .string { data := #[] }, .string { data := #[] }, .int .i64 0, .int .i64 0, .int .i64 0, .int .i64 0, .slice none 0 0, .int .i64 0, .slice none 0 0]] w fun e w' => e = .returned (.int .i64 8) ∧ Below w.heap.size w w' := by
  have T0 := (Blk.new w 45 #[.int .i64 2, .int .i64 0, .int .i64 (-1), .int .i64 1, .int .i64 1, .int .i64 0, .bool true, .int .i64 0, .int .i64 0, .int .i64 0, .string { data := #[] }, .string { data := #[] }, .string { data := #[] }, .int .i64 0, .int .i64 0, .int .i64 0, .int .i64 0, .slice none 0 0, .int .i64 0, .slice none 0 0]).alloc (.cells #[.int .i64 0, .int .i64 0, .bool false, .int .i64 0, .int .i64 0, .int .i64 0, .string { data := #[] }, .string { data := #[] }, .string { data := #[] }, .int .i64 0] 35)
  have I0 := Blk.new (w.alloc (.cells #[.int .i64 2, .int .i64 0, .int .i64 (-1), .int .i64 1, .int .i64 1, .int .i64 0, .bool true, .int .i64 0, .int .i64 0, .int .i64 0, .string { data := #[] }, .string { data := #[] }, .string { data := #[] }, .int .i64 0, .int .i64 0, .int .i64 0, .int .i64 0, .slice none 0 0, .int .i64 0, .slice none 0 0] 45)) 35 #[.int .i64 0, .int .i64 0, .bool false, .int .i64 0, .int .i64 0, .int .i64 0, .string { data := #[] }, .string { data := #[] }, .string { data := #[] }, .int .i64 0]
  have q0 : Below w.heap.size w ((w.alloc (.cells #[.int .i64 2, .int .i64 0, .int .i64 (-1), .int .i64 1, .int .i64 1, .int .i64 0, .bool true, .int .i64 0, .int .i64 0, .int .i64 0, .string { data := #[] }, .string { data := #[] }, .string { data := #[] }, .int .i64 0, .int .i64 0, .int .i64 0, .int .i64 0, .slice none 0 0, .int .i64 0, .slice none 0 0] 45)).alloc (.cells #[.int .i64 0, .int .i64 0, .bool false, .int .i64 0, .int .i64 0, .int .i64 0, .string { data := #[] }, .string { data := #[] }, .string { data := #[] }, .int .i64 0] 35)) := below_by
  go_enter Try.func10, Try.ntmps10
  (try clear cT0 fT0); have cT0 := T0.cell; have fT0 := T0.frozen; (try clear cI0 fI0); have cI0 := I0.cell; have fI0 := I0.frozen
  go_wp2_with fail
  go_ret
  exact ⟨rfl, q0⟩
theorem rec_size : (Try.prog.info? 45).map (·.size) = some 20 := by kernel_rfl
theorem twenty {r : List Value} (h : r.length = 20) : ∃ v0 v1 v2 v3 v4 v5 v6 v7 v8 v9 v10 v11 v12 v13 v14 v15 v16 v17 v18 v19, r = [v0, v1, v2, v3, v4, v5, v6, v7, v8, v9, v10, v11, v12, v13, v14, v15, v16, v17, v18, v19] := by
  match r, h with
  | [v0, v1, v2, v3, v4, v5, v6, v7, v8, v9, v10, v11, v12, v13, v14, v15, v16, v17, v18, v19], _ => exact ⟨v0, v1, v2, v3, v4, v5, v6, v7, v8, v9, v10, v11, v12, v13, v14, v15, v16, v17, v18, v19, rfl⟩
end Go.Proofs.Ytgmojjclobkpjaa
