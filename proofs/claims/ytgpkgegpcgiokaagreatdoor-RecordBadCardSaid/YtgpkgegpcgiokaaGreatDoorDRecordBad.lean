/- rostrumkeep.RecordBad returns true for every input; client.nothing holds what its initialiser lays. -/
import Derived.Test.YtgpkgegpcgiokaaGreatDoorDRecordBadA
import Derived.Test.YtgpkgegpcgiokaaGreatDoorQLaidN
namespace Go.Proofs.YtgpkgegpcgiokaaGreatDoor
set_option linter.all false
open Go.ChangeShapes Go.WideShapes Go.ChangeAt Go.RowKit
section
variable {H : Type} {enc : TypeId × Value → H} {w : World} {base : Nat} {spare : Nat → Bool} {held : Bool} {v : Value} {d : DataW H} {p : List MemPlace}
theorem note_cells : Tryz.prog.cellsOf 112 = 4 := by kernel_rfl
theorem int_cells : Tryz.prog.cellsOf 3 = 1 := by kernel_rfl
theorem deeds_cells : Tryz.prog.cellsOf 22 = 1 := by kernel_rfl
set_option maxRecDepth 100000 in
/-- A note's cells: three numbers and a slice of deeds. -/
theorem note_of {fuel : Nat} {cs : List Value} {x : DataW H × List MemPlace} (h : DataW.trod enc Tryz.prog w base spare held fuel 112 cs = some x) :
    ∃ (y : NoteD) (A : Option Addr) (n c : Nat), cs = [.int .i64 y.kind, .int .i64 y.a, .int .i64 y.b, .slice A n c] ∧ y.ok ∧ Sl w 8 A n c (deedRows y.deeds) := by
  obtain ⟨xs, n, rfl, _, hcs, hxl, hf⟩ := DataW.trod_struct Tryz.underlying112 h
  rw [note_cells] at hcs
  have hx : xs.length = 4 := hxl
  match cs, hcs, xs, hx with
  | [c0, c1, c2, c3], _, [x0, x1, x2, x3], _ =>
    have h0 : DataW.trod enc Tryz.prog w base spare held n 3 (([c0, c1, c2, c3].drop 0).take (Tryz.prog.cellsOf 3)) = some x0 := hf 0 _ rfl
    rw [int_cells] at h0
    have h1 : DataW.trod enc Tryz.prog w base spare held n 3 (([c0, c1, c2, c3].drop 1).take (Tryz.prog.cellsOf 3)) = some x1 := hf 1 _ rfl
    rw [int_cells] at h1
    have h2 : DataW.trod enc Tryz.prog w base spare held n 3 (([c0, c1, c2, c3].drop 2).take (Tryz.prog.cellsOf 3)) = some x2 := hf 2 _ rfl
    rw [int_cells] at h2
    have h3 : DataW.trod enc Tryz.prog w base spare held n 22 (([c0, c1, c2, c3].drop 3).take (Tryz.prog.cellsOf 22)) = some x3 := hf 3 _ rfl
    rw [deeds_cells] at h3
    obtain ⟨k, e0, _, w0⟩ := DataW.trod_int (x := x0) (cs := [c0]) Tryz.underlying3 h0
    obtain ⟨a, e1, _, w1⟩ := DataW.trod_int (x := x1) (cs := [c1]) Tryz.underlying3 h1
    obtain ⟨b, e2, _, w2⟩ := DataW.trod_int (x := x2) (cs := [c2]) Tryz.underlying3 h2
    obtain ⟨A, m, c, rows, he, hr, hS⟩ := seg_of_slice (x := x3) (v := c3) 3 Tryz.underlying22 deed_atoms (by kernel_rfl) (by decide) h3
    obtain ⟨l, rfl, hl⟩ := rows_map fits_deed rows hr
    injection e0 with e0; injection e1 with e1; injection e2 with e2
    subst e0; subst e1; subst e2; subst he
    exact ⟨⟨k, a, b, l⟩, A, m, c, rfl, ⟨i64_bounds w0, i64_bounds w1, i64_bounds w2, hl⟩, hS⟩
set_option maxRecDepth 100000 in
theorem open_note {r : Reach} {b0 : Nat} (hv : Value.okWide Tryz.prog w r b0 112 v) (h : DataW.Trod enc Tryz.prog w base spare held 112 v d p) :
    ∃ (y : NoteD) (A : Option Addr) (n c : Nat), v = .agg #[.int .i64 y.kind, .int .i64 y.a, .int .i64 y.b, .slice A n c] ∧ y.ok ∧ Sl w 8 A n c (deedRows y.deeds) := by
  obtain ⟨⟨cs⟩, rfl, _⟩ := okWide_struct Tryz.underlying112 hv
  obtain ⟨fuel, hf⟩ := h
  obtain ⟨y, A, n, c, e, h1, h2⟩ := note_of hf
  have e : cs = [.int .i64 y.kind, .int .i64 y.a, .int .i64 y.b, .slice A n c] := e
  subst e
  exact ⟨y, A, n, c, rfl, h1, h2⟩
end
theorem twenty {r : List Value} (h : r.length = 20) : ∃ v0 v1 v2 v3 v4 v5 v6 v7 v8 v9 v10 v11 v12 v13 v14 v15 v16 v17 v18 v19, r = [v0, v1, v2, v3, v4, v5, v6, v7, v8, v9, v10, v11, v12, v13, v14, v15, v16, v17, v18, v19] := by
  match r, h with
  | [v0, v1, v2, v3, v4, v5, v6, v7, v8, v9, v10, v11, v12, v13, v14, v15, v16, v17, v18, v19], _ => exact ⟨v0, v1, v2, v3, v4, v5, v6, v7, v8, v9, v10, v11, v12, v13, v14, v15, v16, v17, v18, v19, rfl⟩
set_option maxHeartbeats 16000000 in
set_option maxRecDepth 100000 in
theorem recordBad_walk (x : NoteD) (hx : x.ok) (A : Option Addr) (n c : Nat) (k : Int) (hk : I64 k) (w : World) (hS : Sl w 8 A n c (deedRows x.deeds)) (hN : Noth w) :
    Calls Tryz.prog 22 #[.agg #[.int .i64 x.kind, .int .i64 x.a, .int .i64 x.b, .slice A n c], .int .i64 k] w fun e w' => e = .returned (.bool true) ∧ Below w.heap.size w w' := by
  have HF := hide (fun w' (h : Below w.heap.size w w') => record_any x hx A n c w' (hS.below h) (hN.bl h))
  have HR := hide (recOf_ok x)
  have p0 := picked_lo k 4 (by omega)
  have p1 := picked_hi k 4 (by omega)
  have HP := hide (fun w => picked_any k 4 w hk.1 hk.2 (by omega) (by omega))
  generalize recOf x = r at *
  generalize picked k 4 = p at *
  obtain ⟨kd, a, b, l⟩ := x
  simp only at HF ⊢
  clear hx hS hk
  have N0 := Blk.new w 112 #[.int .i64 kd, .int .i64 a, .int .i64 b, .slice A n c]
  have q0 : Below w.heap.size w (w.alloc (.cells #[.int .i64 kd, .int .i64 a, .int .i64 b, .slice A n c] 112)) := below_by
  go_enter Tryz.func22, Tryz.ntmps22
  (try clear cN0 fN0); have cN0 := N0.cell; have fN0 := N0.frozen
  go_wp2_with fail
  refine (HF.out _ q0).mono ?_
  rintro e w1 ⟨row, rfl, hrec, b1⟩
  obtain ⟨v0, v1, v2, v3, v4, v5, v6, v7, v8, v9, v10, v11, v12, v13, v14, v15, v16, v17, v18, v19, rfl⟩ := twenty hrec.len
  have hone := hrec.one
  have q1 := bstep q0 b1
  have hq1 := q1.size
  have hlt : w.heap.size < w1.heap.size := by have := b1.size; simp at this; omega
  clear b1 q0 cN0 fN0 N0 HF
  go_wp2_with (first | (refine wpList_store_blk rfl 70 _ _ rfl (cells := #[v0, v1, v2, v3, v4, v5, v6, v7, v8, v9, v10, v11, v12, v13, v14, v15, v16, v17, v18, v19]) rfl rfl (Blk.new w1 _ _) rfl rec_size hone ?_; intro w2 Z2 gr2 sz2) | (refine wpList_load_blk rfl 70 _ rfl rfl Z2 Tryz.underlying70 rfl rec_size ?_))
  have bz : Below w1.heap.size w1 (w1.alloc (.cells #[.int .i64 0, .int .i64 0, .int .i64 0, .int .i64 0, .int .i64 0, .int .i64 0, .bool false, .int .i64 0, .int .i64 0, .int .i64 0, .string { data := #[] }, .string { data := #[] }, .string { data := #[] }, .int .i64 0, .int .i64 0, .int .i64 0, .int .i64 0, .slice none 0 0, .int .i64 0, .slice none 0 0] 70)) := below_by
  have hr2 := (hrec.bl bz).grown (Blk.new w1 70 #[.int .i64 0, .int .i64 0, .int .i64 0, .int .i64 0, .int .i64 0, .int .i64 0, .bool false, .int .i64 0, .int .i64 0, .int .i64 0, .string { data := #[] }, .string { data := #[] }, .string { data := #[] }, .int .i64 0, .int .i64 0, .int .i64 0, .int .i64 0, .slice none 0 0, .int .i64 0, .slice none 0 0]) gr2
  have q2 := below_grow (bstep q1 bz) gr2 (by simp; omega) hq1
  have HK := hide (fun w' (h : Below w2.heap.size w2 w') => Check_rec HR.out w' (hr2.bl h))
  clear gr2 sz2 bz hrec hr2 q1
  refine (HK.out _ (Below.refl _ _)).mono ?_
  rintro e w3 ⟨rfl, b3⟩
  have Z3 := Z2.below' b3
  have q3 := bstep q2 b3
  clear b3 HK Z2 q2 HR
  go_wp2_with fail
  refine (HP.out _).mono ?_
  rintro e w' ⟨rfl, rfl⟩
  clear HP
  obtain ⟨g, hg⟩ : ∃ g, g = w1.heap.size := ⟨_, rfl⟩
  rw [← hg] at Z3 ⊢
  rw [← hg] at hq1
  clear hg hlt
  have hone := hide hone
  rcases (by omega : p = 0 ∨ p = 1 ∨ p = 2 ∨ p = 3) with rfl | rfl | rfl | rfl
  · go_wp2_with (first | (refine wpList_store_blk rfl 70 _ _ rfl (cells := #[.int .i64 1, .int .i64 1, .int .i64 0, .int .i64 1, .int .i64 0, .int .i64 0, .bool false, .int .i64 0, .int .i64 0, .int .i64 0, .string { data := #[] }, .string { data := #[] }, .string { data := #[] }, .int .i64 0, .int .i64 0, .int .i64 0, .int .i64 0, .slice none 0 0, .int .i64 0, .slice none 0 0]) rfl rfl Z3 rfl rec_size (all_one rfl) ?_; intro w4 Z4 gr4 sz4) | (refine wpList_load_blk rfl 70 _ rfl rfl Z4 Tryz.underlying70 rfl rec_size ?_))
    have q4 := below_grow q3 gr4 q3.size hq1
    clear gr4 sz4 Z3 q3
    have hC0 := hide (fun w => CheckBad0 w)
    have hzl := Z4.lt
    refine (Append_ref (.int .i64 1) (.int .i64 1) (.int .i64 0) (.int .i64 1) (.int .i64 0) (.int .i64 0) (.bool false) (.int .i64 0) (.int .i64 0) (.int .i64 0) (.string { data := #[] }) (.string { data := #[] }) (.string { data := #[] }) (.int .i64 0) (.int .i64 0) (.int .i64 0) (.int .i64 0) (.slice none 0 0) (.int .i64 0) (.slice none 0 0) 8 (by decide) hC0.out _).mono ?_
    rintro e wA ⟨rfl, bA⟩
    have ZA := Z4.below' bA
    have qA := bstep q4 bA
    clear Z4 q4 bA
    have hza := ZA.lt
    have hqa := qA.size
    go_wp2_with (first | (refine wpList_store_blk rfl 92 _ _ rfl (cells := #[.slice none 0 0, .int .i64 0]) rfl rfl (Blk.new wA _ _) rfl tape_size (all_one rfl) ?_; intro wt Zt grt szt; have ZB := grown_blk (ZA.alloc (.cells #[.slice none 0 0, .int .i64 0] 92)) grt (by omega)) | (refine wpList_load_blk rfl 70 _ rfl rfl ZB Tryz.underlying70 rfl rec_size ?_))
    have qB := below_grow (show Below w.heap.size w (wA.alloc (.cells #[.slice none 0 0, .int .i64 0] 92)) from below_by) grt (by simp; omega) (by omega)
    have hst : wt.heap.size = wA.heap.size + 1 := by rw [szt]; simp
    clear grt szt ZA qA Zt
    have hzb := ZB.lt
    have hqb := qB.size
    have ZC := ZB.alloc (.cells #[.int .i64 1, .int .i64 1, .int .i64 0, .int .i64 1, .int .i64 0, .int .i64 0, .bool false, .int .i64 0, .int .i64 0, .int .i64 0, .string { data := #[] }, .string { data := #[] }, .string { data := #[] }, .int .i64 0, .int .i64 0, .int .i64 0, .int .i64 0, .slice none 0 0, .int .i64 0, .slice none 0 0] 70)
    have HB : Blk (wt.alloc (.cells #[.int .i64 1, .int .i64 1, .int .i64 0, .int .i64 1, .int .i64 0, .int .i64 0, .bool false, .int .i64 0, .int .i64 0, .int .i64 0, .string { data := #[] }, .string { data := #[] }, .string { data := #[] }, .int .i64 0, .int .i64 0, .int .i64 0, .int .i64 0, .slice none 0 0, .int .i64 0, .slice none 0 0] 70)) (wA.heap.size + 1) 70 #[.int .i64 1, .int .i64 1, .int .i64 0, .int .i64 1, .int .i64 0, .int .i64 0, .bool false, .int .i64 0, .int .i64 0, .int .i64 0, .string { data := #[] }, .string { data := #[] }, .string { data := #[] }, .int .i64 0, .int .i64 0, .int .i64 0, .int .i64 0, .slice none 0 0, .int .i64 0, .slice none 0 0] := by rw [← hst]; exact Blk.new _ _ _
    refine (Fold_ref (.int .i64 1) (.int .i64 1) (.int .i64 0) (.int .i64 1) (.int .i64 0) (.int .i64 0) (.bool false) (.int .i64 0) (.int .i64 0) (.int .i64 0) (.string { data := #[] }) (.string { data := #[] }) (.string { data := #[] }) (.int .i64 0) (.int .i64 0) (.int .i64 0) (.int .i64 0) (.slice none 0 0) (.int .i64 0) (.slice none 0 0) 8 (by decide) (all_one rfl) hC0.out (wA.heap.size + 1) _ HB).mono ?_
    rintro e wB ⟨rfl, bB⟩
    replace ZC := ZC.below' bB
    have qC := bstep (show Below w.heap.size w (wt.alloc (.cells #[.int .i64 1, .int .i64 1, .int .i64 0, .int .i64 1, .int .i64 0, .int .i64 0, .bool false, .int .i64 0, .int .i64 0, .int .i64 0, .string { data := #[] }, .string { data := #[] }, .string { data := #[] }, .int .i64 0, .int .i64 0, .int .i64 0, .int .i64 0, .slice none 0 0, .int .i64 0, .slice none 0 0] 70)) from below_by) bB
    clear bB HB ZB qB
    have hzc := ZC.lt
    have hqc := qC.size
    go_wp2_with (first | (refine wpList_store_blk rfl 103 _ _ rfl (cells := #[.int .i64 0, .int .i64 0, .int .i64 0, .int .i64 0, .int .i64 0, .slice none 0 0, .int .i64 0, .slice none 0 0, .int .i64 0, .int .i64 0, .slice none 0 0]) rfl rfl (Blk.new wB _ _) rfl disk_size (all_one rfl) ?_; intro wd Zd grd szd; have ZE := grown_blk (ZC.alloc (.cells #[.int .i64 0, .int .i64 0, .int .i64 0, .int .i64 0, .int .i64 0, .slice none 0 0, .int .i64 0, .slice none 0 0, .int .i64 0, .int .i64 0, .slice none 0 0] 103)) grd (by omega)) | (refine wpList_load_blk rfl 70 _ rfl rfl ZE Tryz.underlying70 rfl rec_size ?_))
    have qD := below_grow (show Below w.heap.size w (wB.alloc (.cells #[.int .i64 0, .int .i64 0, .int .i64 0, .int .i64 0, .int .i64 0, .slice none 0 0, .int .i64 0, .slice none 0 0, .int .i64 0, .int .i64 0, .slice none 0 0] 103)) from below_by) grd (by simp; omega) (by omega)
    clear grd szd ZC qC Zd
    refine (hC0.out _).mono ?_
    rintro e wE ⟨rfl, bE⟩
    have qE := bstep qD bE
    go_wp2_with fail
    go_ret
    exact ⟨rfl, qE⟩
  · go_wp2_with (first | (refine wpList_store_blk rfl 70 _ _ rfl (cells := #[.int .i64 2, .int .i64 0, .int .i64 (-1), .int .i64 1, .int .i64 1, .int .i64 0, .bool true, .int .i64 0, .int .i64 0, .int .i64 0, .string { data := #[] }, .string { data := #[] }, .string { data := #[] }, .int .i64 0, .int .i64 0, .int .i64 0, .int .i64 0, .slice none 0 0, .int .i64 0, .slice none 0 0]) rfl rfl Z3 rfl rec_size (all_one rfl) ?_; intro w4 Z4 gr4 sz4) | (refine wpList_load_blk rfl 70 _ rfl rfl Z4 Tryz.underlying70 rfl rec_size ?_))
    have q4 := below_grow q3 gr4 q3.size hq1
    clear gr4 sz4 Z3 q3
    have hC0 := hide (fun w => CheckBad1 w)
    have hzl := Z4.lt
    refine (Append_ref (.int .i64 2) (.int .i64 0) (.int .i64 (-1)) (.int .i64 1) (.int .i64 1) (.int .i64 0) (.bool true) (.int .i64 0) (.int .i64 0) (.int .i64 0) (.string { data := #[] }) (.string { data := #[] }) (.string { data := #[] }) (.int .i64 0) (.int .i64 0) (.int .i64 0) (.int .i64 0) (.slice none 0 0) (.int .i64 0) (.slice none 0 0) 8 (by decide) hC0.out _).mono ?_
    rintro e wA ⟨rfl, bA⟩
    have ZA := Z4.below' bA
    have qA := bstep q4 bA
    clear Z4 q4 bA
    have hza := ZA.lt
    have hqa := qA.size
    go_wp2_with (first | (refine wpList_store_blk rfl 92 _ _ rfl (cells := #[.slice none 0 0, .int .i64 0]) rfl rfl (Blk.new wA _ _) rfl tape_size (all_one rfl) ?_; intro wt Zt grt szt; have ZB := grown_blk (ZA.alloc (.cells #[.slice none 0 0, .int .i64 0] 92)) grt (by omega)) | (refine wpList_load_blk rfl 70 _ rfl rfl ZB Tryz.underlying70 rfl rec_size ?_))
    have qB := below_grow (show Below w.heap.size w (wA.alloc (.cells #[.slice none 0 0, .int .i64 0] 92)) from below_by) grt (by simp; omega) (by omega)
    have hst : wt.heap.size = wA.heap.size + 1 := by rw [szt]; simp
    clear grt szt ZA qA Zt
    have hzb := ZB.lt
    have hqb := qB.size
    have ZC := ZB.alloc (.cells #[.int .i64 2, .int .i64 0, .int .i64 (-1), .int .i64 1, .int .i64 1, .int .i64 0, .bool true, .int .i64 0, .int .i64 0, .int .i64 0, .string { data := #[] }, .string { data := #[] }, .string { data := #[] }, .int .i64 0, .int .i64 0, .int .i64 0, .int .i64 0, .slice none 0 0, .int .i64 0, .slice none 0 0] 70)
    have HB : Blk (wt.alloc (.cells #[.int .i64 2, .int .i64 0, .int .i64 (-1), .int .i64 1, .int .i64 1, .int .i64 0, .bool true, .int .i64 0, .int .i64 0, .int .i64 0, .string { data := #[] }, .string { data := #[] }, .string { data := #[] }, .int .i64 0, .int .i64 0, .int .i64 0, .int .i64 0, .slice none 0 0, .int .i64 0, .slice none 0 0] 70)) (wA.heap.size + 1) 70 #[.int .i64 2, .int .i64 0, .int .i64 (-1), .int .i64 1, .int .i64 1, .int .i64 0, .bool true, .int .i64 0, .int .i64 0, .int .i64 0, .string { data := #[] }, .string { data := #[] }, .string { data := #[] }, .int .i64 0, .int .i64 0, .int .i64 0, .int .i64 0, .slice none 0 0, .int .i64 0, .slice none 0 0] := by rw [← hst]; exact Blk.new _ _ _
    refine (Fold_ref (.int .i64 2) (.int .i64 0) (.int .i64 (-1)) (.int .i64 1) (.int .i64 1) (.int .i64 0) (.bool true) (.int .i64 0) (.int .i64 0) (.int .i64 0) (.string { data := #[] }) (.string { data := #[] }) (.string { data := #[] }) (.int .i64 0) (.int .i64 0) (.int .i64 0) (.int .i64 0) (.slice none 0 0) (.int .i64 0) (.slice none 0 0) 8 (by decide) (all_one rfl) hC0.out (wA.heap.size + 1) _ HB).mono ?_
    rintro e wB ⟨rfl, bB⟩
    replace ZC := ZC.below' bB
    have qC := bstep (show Below w.heap.size w (wt.alloc (.cells #[.int .i64 2, .int .i64 0, .int .i64 (-1), .int .i64 1, .int .i64 1, .int .i64 0, .bool true, .int .i64 0, .int .i64 0, .int .i64 0, .string { data := #[] }, .string { data := #[] }, .string { data := #[] }, .int .i64 0, .int .i64 0, .int .i64 0, .int .i64 0, .slice none 0 0, .int .i64 0, .slice none 0 0] 70)) from below_by) bB
    clear bB HB ZB qB
    have hzc := ZC.lt
    have hqc := qC.size
    go_wp2_with (first | (refine wpList_store_blk rfl 103 _ _ rfl (cells := #[.int .i64 0, .int .i64 0, .int .i64 0, .int .i64 0, .int .i64 0, .slice none 0 0, .int .i64 0, .slice none 0 0, .int .i64 0, .int .i64 0, .slice none 0 0]) rfl rfl (Blk.new wB _ _) rfl disk_size (all_one rfl) ?_; intro wd Zd grd szd; have ZE := grown_blk (ZC.alloc (.cells #[.int .i64 0, .int .i64 0, .int .i64 0, .int .i64 0, .int .i64 0, .slice none 0 0, .int .i64 0, .slice none 0 0, .int .i64 0, .int .i64 0, .slice none 0 0] 103)) grd (by omega)) | (refine wpList_load_blk rfl 70 _ rfl rfl ZE Tryz.underlying70 rfl rec_size ?_))
    have qD := below_grow (show Below w.heap.size w (wB.alloc (.cells #[.int .i64 0, .int .i64 0, .int .i64 0, .int .i64 0, .int .i64 0, .slice none 0 0, .int .i64 0, .slice none 0 0, .int .i64 0, .int .i64 0, .slice none 0 0] 103)) from below_by) grd (by simp; omega) (by omega)
    clear grd szd ZC qC Zd
    refine (hC0.out _).mono ?_
    rintro e wE ⟨rfl, bE⟩
    have qE := bstep qD bE
    go_wp2_with fail
    go_ret
    exact ⟨rfl, qE⟩
  · go_wp2_with (first | (refine wpList_store_blk rfl 70 _ _ rfl (cells := #[.int .i64 1, .int .i64 0, .int .i64 1, .int .i64 0, .int .i64 0, .int .i64 0, .bool false, .int .i64 0, .int .i64 0, .int .i64 0, .string { data := #[] }, .string { data := #[] }, .string { data := #[] }, .int .i64 0, .int .i64 0, .int .i64 0, .int .i64 0, .slice none 0 0, .int .i64 0, .slice none 0 0]) rfl rfl Z3 rfl rec_size (all_one rfl) ?_; intro w4 Z4 gr4 sz4) | (refine wpList_load_blk rfl 70 _ rfl rfl Z4 Tryz.underlying70 rfl rec_size ?_))
    have q4 := below_grow q3 gr4 q3.size hq1
    clear gr4 sz4 Z3 q3
    have hC0 := hide (fun w => CheckMark_bad 0 1 (by decide) w)
    have hzl := Z4.lt
    refine (Append_ref (.int .i64 1) (.int .i64 0) (.int .i64 1) (.int .i64 0) (.int .i64 0) (.int .i64 0) (.bool false) (.int .i64 0) (.int .i64 0) (.int .i64 0) (.string { data := #[] }) (.string { data := #[] }) (.string { data := #[] }) (.int .i64 0) (.int .i64 0) (.int .i64 0) (.int .i64 0) (.slice none 0 0) (.int .i64 0) (.slice none 0 0) 2 (by decide) hC0.out _).mono ?_
    rintro e wA ⟨rfl, bA⟩
    have ZA := Z4.below' bA
    have qA := bstep q4 bA
    clear Z4 q4 bA
    have hza := ZA.lt
    have hqa := qA.size
    go_wp2_with (first | (refine wpList_store_blk rfl 92 _ _ rfl (cells := #[.slice none 0 0, .int .i64 0]) rfl rfl (Blk.new wA _ _) rfl tape_size (all_one rfl) ?_; intro wt Zt grt szt; have ZB := grown_blk (ZA.alloc (.cells #[.slice none 0 0, .int .i64 0] 92)) grt (by omega)) | (refine wpList_load_blk rfl 70 _ rfl rfl ZB Tryz.underlying70 rfl rec_size ?_))
    have qB := below_grow (show Below w.heap.size w (wA.alloc (.cells #[.slice none 0 0, .int .i64 0] 92)) from below_by) grt (by simp; omega) (by omega)
    have hst : wt.heap.size = wA.heap.size + 1 := by rw [szt]; simp
    clear grt szt ZA qA Zt
    have hzb := ZB.lt
    have hqb := qB.size
    have ZC := ZB.alloc (.cells #[.int .i64 1, .int .i64 0, .int .i64 1, .int .i64 0, .int .i64 0, .int .i64 0, .bool false, .int .i64 0, .int .i64 0, .int .i64 0, .string { data := #[] }, .string { data := #[] }, .string { data := #[] }, .int .i64 0, .int .i64 0, .int .i64 0, .int .i64 0, .slice none 0 0, .int .i64 0, .slice none 0 0] 70)
    have HB : Blk (wt.alloc (.cells #[.int .i64 1, .int .i64 0, .int .i64 1, .int .i64 0, .int .i64 0, .int .i64 0, .bool false, .int .i64 0, .int .i64 0, .int .i64 0, .string { data := #[] }, .string { data := #[] }, .string { data := #[] }, .int .i64 0, .int .i64 0, .int .i64 0, .int .i64 0, .slice none 0 0, .int .i64 0, .slice none 0 0] 70)) (wA.heap.size + 1) 70 #[.int .i64 1, .int .i64 0, .int .i64 1, .int .i64 0, .int .i64 0, .int .i64 0, .bool false, .int .i64 0, .int .i64 0, .int .i64 0, .string { data := #[] }, .string { data := #[] }, .string { data := #[] }, .int .i64 0, .int .i64 0, .int .i64 0, .int .i64 0, .slice none 0 0, .int .i64 0, .slice none 0 0] := by rw [← hst]; exact Blk.new _ _ _
    refine (Fold_ref (.int .i64 1) (.int .i64 0) (.int .i64 1) (.int .i64 0) (.int .i64 0) (.int .i64 0) (.bool false) (.int .i64 0) (.int .i64 0) (.int .i64 0) (.string { data := #[] }) (.string { data := #[] }) (.string { data := #[] }) (.int .i64 0) (.int .i64 0) (.int .i64 0) (.int .i64 0) (.slice none 0 0) (.int .i64 0) (.slice none 0 0) 2 (by decide) (all_one rfl) hC0.out (wA.heap.size + 1) _ HB).mono ?_
    rintro e wB ⟨rfl, bB⟩
    replace ZC := ZC.below' bB
    have qC := bstep (show Below w.heap.size w (wt.alloc (.cells #[.int .i64 1, .int .i64 0, .int .i64 1, .int .i64 0, .int .i64 0, .int .i64 0, .bool false, .int .i64 0, .int .i64 0, .int .i64 0, .string { data := #[] }, .string { data := #[] }, .string { data := #[] }, .int .i64 0, .int .i64 0, .int .i64 0, .int .i64 0, .slice none 0 0, .int .i64 0, .slice none 0 0] 70)) from below_by) bB
    clear bB HB ZB qB
    have hzc := ZC.lt
    have hqc := qC.size
    go_wp2_with (first | (refine wpList_store_blk rfl 103 _ _ rfl (cells := #[.int .i64 0, .int .i64 0, .int .i64 0, .int .i64 0, .int .i64 0, .slice none 0 0, .int .i64 0, .slice none 0 0, .int .i64 0, .int .i64 0, .slice none 0 0]) rfl rfl (Blk.new wB _ _) rfl disk_size (all_one rfl) ?_; intro wd Zd grd szd; have ZE := grown_blk (ZC.alloc (.cells #[.int .i64 0, .int .i64 0, .int .i64 0, .int .i64 0, .int .i64 0, .slice none 0 0, .int .i64 0, .slice none 0 0, .int .i64 0, .int .i64 0, .slice none 0 0] 103)) grd (by omega)) | (refine wpList_load_blk rfl 70 _ rfl rfl ZE Tryz.underlying70 rfl rec_size ?_))
    have qD := below_grow (show Below w.heap.size w (wB.alloc (.cells #[.int .i64 0, .int .i64 0, .int .i64 0, .int .i64 0, .int .i64 0, .slice none 0 0, .int .i64 0, .slice none 0 0, .int .i64 0, .int .i64 0, .slice none 0 0] 103)) from below_by) grd (by simp; omega) (by omega)
    clear grd szd ZC qC Zd
    refine (hC0.out _).mono ?_
    rintro e wE ⟨rfl, bE⟩
    have qE := bstep qD bE
    go_wp2_with fail
    go_ret
    exact ⟨rfl, qE⟩
  · have gr4 := grown_setRow_cell w3 g 0 (.int .i64 4)
    have Z4 := Z3.set' (i := 0) (u := .int .i64 4) (cs' := #[.int .i64 4, v1, v2, v3, v4, v5, v6, v7, v8, v9, v10, v11, v12, v13, v14, v15, v16, v17, v18, v19]) rfl
    have q4 := below_grow q3 gr4 q3.size hq1
    have hz3 := Z3.lt
    (try clear cZ3 fZ3); have cZ3 := Z3.cell; have fZ3 := Z3.frozen
    go_upto_region 15 with fail
    obtain ⟨w4, hw4⟩ : ∃ w4, w4 = w3.setCell ⟨g, 0, none⟩ (.int .i64 4) := ⟨_, rfl⟩
    rw [← hw4] at Z4 q4 ⊢
    clear hw4 gr4 Z3 q3 cZ3 fZ3 hz3
    have hC0 := hide (fun w => CheckKind_bad v1 v2 v3 v4 v5 v6 v7 v8 v9 v10 v11 v12 v13 v14 v15 v16 v17 v18 v19 w)
    have hzl := Z4.lt
    go_wp2_with (refine wpList_load_blk rfl 70 _ rfl rfl Z4 Tryz.underlying70 rfl rec_size ?_)
    refine (Append_ref (.int .i64 4) (v1) (v2) (v3) (v4) (v5) (v6) (v7) (v8) (v9) (v10) (v11) (v12) (v13) (v14) (v15) (v16) (v17) (v18) (v19) 3 (by decide) hC0.out _).mono ?_
    rintro e wA ⟨rfl, bA⟩
    have ZA := Z4.below' bA
    have qA := bstep q4 bA
    clear Z4 q4 bA
    have hza := ZA.lt
    have hqa := qA.size
    go_wp2_with (first | (refine wpList_store_blk rfl 92 _ _ rfl (cells := #[.slice none 0 0, .int .i64 0]) rfl rfl (Blk.new wA _ _) rfl tape_size (all_one rfl) ?_; intro wt Zt grt szt; have ZB := grown_blk (ZA.alloc (.cells #[.slice none 0 0, .int .i64 0] 92)) grt (by omega)) | (refine wpList_load_blk rfl 70 _ rfl rfl ZB Tryz.underlying70 rfl rec_size ?_))
    have qB := below_grow (show Below w.heap.size w (wA.alloc (.cells #[.slice none 0 0, .int .i64 0] 92)) from below_by) grt (by simp; omega) (by omega)
    have hst : wt.heap.size = wA.heap.size + 1 := by rw [szt]; simp
    clear grt szt ZA qA Zt
    have hzb := ZB.lt
    have hqb := qB.size
    have ZC := ZB.alloc (.cells #[.int .i64 4, v1, v2, v3, v4, v5, v6, v7, v8, v9, v10, v11, v12, v13, v14, v15, v16, v17, v18, v19] 70)
    have HB : Blk (wt.alloc (.cells #[.int .i64 4, v1, v2, v3, v4, v5, v6, v7, v8, v9, v10, v11, v12, v13, v14, v15, v16, v17, v18, v19] 70)) (wA.heap.size + 1) 70 #[.int .i64 4, v1, v2, v3, v4, v5, v6, v7, v8, v9, v10, v11, v12, v13, v14, v15, v16, v17, v18, v19] := by rw [← hst]; exact Blk.new _ _ _
    refine (Fold_ref (.int .i64 4) (v1) (v2) (v3) (v4) (v5) (v6) (v7) (v8) (v9) (v10) (v11) (v12) (v13) (v14) (v15) (v16) (v17) (v18) (v19) 3 (by decide) (fun u hu => by rcases List.mem_cons.1 hu with rfl | hu; exact rfl; exact hone.out u (List.mem_cons_of_mem _ hu)) hC0.out (wA.heap.size + 1) _ HB).mono ?_
    rintro e wB ⟨rfl, bB⟩
    replace ZC := ZC.below' bB
    have qC := bstep (show Below w.heap.size w (wt.alloc (.cells #[.int .i64 4, v1, v2, v3, v4, v5, v6, v7, v8, v9, v10, v11, v12, v13, v14, v15, v16, v17, v18, v19] 70)) from below_by) bB
    clear bB HB ZB qB
    have hzc := ZC.lt
    have hqc := qC.size
    go_wp2_with (first | (refine wpList_store_blk rfl 103 _ _ rfl (cells := #[.int .i64 0, .int .i64 0, .int .i64 0, .int .i64 0, .int .i64 0, .slice none 0 0, .int .i64 0, .slice none 0 0, .int .i64 0, .int .i64 0, .slice none 0 0]) rfl rfl (Blk.new wB _ _) rfl disk_size (all_one rfl) ?_; intro wd Zd grd szd; have ZE := grown_blk (ZC.alloc (.cells #[.int .i64 0, .int .i64 0, .int .i64 0, .int .i64 0, .int .i64 0, .slice none 0 0, .int .i64 0, .slice none 0 0, .int .i64 0, .int .i64 0, .slice none 0 0] 103)) grd (by omega)) | (refine wpList_load_blk rfl 70 _ rfl rfl ZE Tryz.underlying70 rfl rec_size ?_))
    have qD := below_grow (show Below w.heap.size w (wB.alloc (.cells #[.int .i64 0, .int .i64 0, .int .i64 0, .int .i64 0, .int .i64 0, .slice none 0 0, .int .i64 0, .slice none 0 0, .int .i64 0, .int .i64 0, .slice none 0 0] 103)) from below_by) grd (by simp; omega) (by omega)
    clear grd szd ZC qC Zd
    refine (hC0.out _).mono ?_
    rintro e wE ⟨rfl, bE⟩
    have qE := bstep qD bE
    go_wp2_with fail
    go_ret
    exact ⟨rfl, qE⟩
set_option maxRecDepth 100000 in
theorem recordBad_lifted (os : Os) (started : os.Started) (H : Type) (enc : TypeId × Value → H) :
  ReturnsInHanded {} Tryz.checked os 22 .any (fun w args => (Rows.recordBadSpec.pre enc Tryz.prog Tryz.f22 [] false w args ∧ laidMetH Tryz.prog laidN w) ∧ sizedMet enc Tryz.prog Tryz.f22 (OpenSpec.ofChange Rows.recordBadSpec) false w args) (Rows.recordBadSpec.post enc Tryz.prog Tryz.f22 false true false false) := by
  refine returnsInHanded_of_change_and (C := Tryz.checked) (X := fun w _ => laidMetH Tryz.prog laidN w) (fun _ _ _ hh h => h.of_heap hh) Tryz.own started (by kernel_rfl) Tryz.func22 (ChangeSpec.witness_shaped (enc := enc) (C := Tryz.checked) (os := os) (X := fun w _ => laidMetH Tryz.prog laidN w) false (World.doorLaid Tryz.prog 14 os) #[.agg #[.int .i64 0, .int .i64 0, .int .i64 0, .slice none 0 0], .int .i64 0] 8 rfl (World.shaped_of_RefB (by kernel_rfl) (by kernel_rfl)) (by kernel_rfl) (by kernel_rfl) (by kernel_rfl) (door_met os _)) ?_
  intro W base args ds gs before hval0 hW hcnd hsz0 hL _
  have hsz : (DataW.weightsEach Tryz.prog (Tryz.f22.params.toList ++ Rows.recordBadSpec.plain.varTypes Tryz.prog) (ds ++ gs)).all (· ≤ reachBytes) = true := hsz0
  clear hsz0
  have hval : ∀ (j : Nat) t v, Tryz.f22.params[j]? = some t → args[j]? = some v → Value.okWide Tryz.prog W .any base t v := hval0
  have hW' := hW
  obtain ⟨p, q, hA0, hV, rfl, hfz, hnd⟩ := hW
  have hA : DataW.TrodAll enc Tryz.prog W 0 (fun _ => true) true Tryz.f22.params.toList args.toList ds p := hA0
  rw [Tryz.params22] at hA hval hsz
  obtain ⟨rfl, rfl⟩ := trodVars_none hV
  clear hA0 hval0 hcnd hV hfz hnd
  have hN := noth_of_laid hL
  obtain ⟨v0, v1, d0, d1, p0, p1, rfl, rfl, rfl, h0, h1⟩ := trodAll_two hA
  obtain ⟨x, A, n, c, rfl, hx, hS⟩ := open_note (hval 0 112 v0 rfl rfl) h0
  obtain ⟨m1, rfl, rfl, rfl, w1⟩ := open_int Tryz.underlying3 (hval 1 3 v1 rfl rfl) h1
  refine (recordBad_walk x hx A n c m1 (i64_bounds w1) W hS hN).mono fun e W' ⟨he, hb⟩ => ?_
  subst he
  exact ⟨_, rfl, post_law Tryz.laidOut hW' rfl (by kernel_rfl) rfl Tryz.underlying4 (fun _ => rfl) (fun _ => rfl) (fun _ => rfl) hb⟩
set_option maxRecDepth 100000 in
theorem recordBad_f1 : (Rows.recordBadRow.inPlace == Tryz.pinned.checked.prog.inPlace 22) = true := by kernel_rfl
set_option maxRecDepth 100000 in
theorem recordBad_f2 : (Rows.recordBadRow.unfollowed == Tryz.pinned.checked.prog.unfollowed 22) = true := by kernel_rfl
set_option maxRecDepth 100000 in
theorem recordBad_f3 : (Rows.recordBadRow.recurses == Tryz.pinned.checked.prog.recurses 22) = true := by kernel_rfl
set_option maxRecDepth 100000 in
theorem recordBad_f4 : (Rows.recordBadRow.named == Tryz.pinned.checked.prog.varsNamed 22) = true := by kernel_rfl
set_option maxRecDepth 100000 in
theorem recordBad_facts : joinedFacts Tryz.pinned.checked.prog 22 Tryz.f22 Rows.recordBadSpec Rows.recordBadRow = true := by
  unfold joinedFacts
  rw [enterN, show (Rows.recordBadRow.lifted == Tryz.pinned.checked.prog.liftsFinal) = true from liftsN, laidN1, laidN2, heardN, show (Rows.recordBadRow.plainKeys == Tryz.pinned.checked.prog.plainKeys) = true from keysN, recordBad_f1, recordBad_f2, recordBad_f3, recordBad_f4]
  kernel_rfl
theorem recordBad_row : Rows.RecordBadSaid := OpenClaim.holds_of_wide 22 Tryz.f22 rfl rfl rfl rfl rfl rfl rfl ⟨rfl, rfl, rfl, rfl, rfl⟩ rfl rfl rfl rfl rfl (by kernel_rfl) Tryz.func22 recordBad_facts
  (of_decide_eq_true (by kernel_rfl)) (by unfold Func.isWrapper; first | (rw [if_pos (by decide +kernel)]; kernel_rfl) | (rw [if_neg (by decide +kernel)]; exact ⟨rfl, rfl⟩))
  (fun os started H enc _ => recordBad_lifted os started H enc)
set_option maxRecDepth 100000 in
theorem recordBad_goes : false = Rows.recordBadRow.goesBy Tryz.pinned.checked.prog := by kernel_rfl
set_option maxRecDepth 100000 in
theorem recordBad_looks : false = Tryz.pinned.checked.prog.looks [] := by kernel_rfl
set_option maxRecDepth 100000 in
theorem recordBad_holds : Rows.RecordBadCardSaid :=
  Claim7.holds_tied_plain_at .later [] [.data] true Rows.machineMayCard.stood.harness false
    recordBad_row (fun _ h => by cases h) (by kernel_rfl) (fun _ h => by cases h) recordBad_row_tie rfl ⟨rfl, rfl⟩ mainN rfl
    (fun f fn hf hfn => by
      obtain rfl : f = 22 := Option.some.inj ((show Tryz.prog.funcNamed "rostrum/rostrumkeep.RecordBad" = some 22 by kernel_rfl).symm.trans hf) |>.symm
      obtain rfl : fn = Tryz.f22 := (Option.some.inj (Tryz.func22.symm.trans hfn)).symm
      exact ⟨recordBad_looks, fun j t ht => by
        rw [Tryz.params22] at ht
        have hm := List.mem_of_getElem? (Array.getElem?_toList ▸ ht)
        simp only [List.mem_cons, List.not_mem_nil, or_false] at hm
        rcases hm with rfl | rfl <;> exact (show Tryz.prog.wantsStandIn _ = false by kernel_rfl)⟩)
    recordBad_goes
#print axioms recordBad_holds
end Go.Proofs.YtgpkgegpcgiokaaGreatDoor
