/- The reader's methods: call, item, end; wire.DecodeItem. -/
import Derived.Test.YtaldmianlmgloabRead2
namespace Go.Proofs.Ytaldmianlmgloab
set_option linter.all false
open Go.RowKit Go.Lib
set_option maxHeartbeats 2000000 in
theorem rcall_any (W0 : World) (g : Nat) (st : RS) (w : World) (h : Rd W0 w g st) :
    Calls Try.prog 56 #[.pointer (some ⟨g, 0, none⟩)] w (Reads W0 w g (.agg #[.int .i64 (callRd st).1.client, .int .i64 (callRd st).1.seq, .int .i64 (callRd st).1.cmd.kind, .string (callRd st).1.cmd.key, .string (callRd st).1.cmd.field, .string (callRd st).1.cmd.text, .int .i64 (callRd st).1.cmd.n]) (callRd st).2) := by
  have hlt := h.lt
  have hbig := h.big
  unfold callRd
  have H1 := fun w h => rnumber_any W0 g st w h
  generalize numR st = R1 at H1
  obtain ⟨cl, s1⟩ := R1
  have H2 := fun w h => rnumber_any W0 g s1 w h
  simp only at H1 ⊢
  generalize numR s1 = R2 at H2
  obtain ⟨sq, s2⟩ := R2
  have H3 := fun w h => rcommand_any W0 g s2 w h
  simp only at H2 ⊢
  generalize cmdRd s2 = R3 at H3
  obtain ⟨c, s3⟩ := R3
  simp only at H3 ⊢
  have K1 := hide H1; have K2 := hide H2; have K3 := hide H3
  clear H1 H2 H3
  have a0 : Below w.heap.size w (w.alloc (.cells #[.int .i64 0, .int .i64 0, .int .i64 0, .string emp, .string emp, .string emp, .int .i64 0] 27)) := (by repeat (first | (with_reducible exact Below.refl _ _) | (with_reducible assumption) | (with_reducible refine Below.drew ?_) | (with_reducible refine bdrewN ?_ _) | (with_reducible refine balloc ?_ _) | ((with_reducible refine bset ?_ ?_ _); rotate_left; (focus first | exact Nat.le_refl _ | (simp; done) | (simp; omega) | omega)) | (with_reducible refine bstep ?_ (by with_reducible assumption)) | (with_reducible refine Below.trans ?_ (by with_reducible assumption))))
  have R := Box.fresh hlt 27 #[.int .i64 0, .int .i64 0, .int .i64 0, .string emp, .string emp, .string emp, .int .i64 0]
  replace h := h.alloc (.cells #[.int .i64 0, .int .i64 0, .int .i64 0, .string emp, .string emp, .string emp, .int .i64 0] 27)
  by_cases hc0 : cl = 0
  · rw [if_pos hc0]
    subst hc0
    go_enter Try.func56, Try.ntmps56
    go_wp2_with fail
    refine (K1.out _ h).mono ?_
    rintro e w1 ⟨rfl, h1, p1⟩
    replace R := R.wr p1
    have hz1 : w.heap.size < w1.heap.size := R.blk.lt
    have C := Box.fresh h1.lt 27 #[.int .i64 0, .int .i64 0, .int .i64 0, .string emp, .string emp, .string emp, .int .i64 0]
    have cR1 := R.cell
    have fR1 := R.frozen
    have q1 : Wrote w w1 g Nil Nil := Wrote.pre a0 p1
    replace R := R.al (.cells #[.int .i64 0, .int .i64 0, .int .i64 0, .string emp, .string emp, .string emp, .int .i64 0] 27)
    have hgr : g ≠ w.heap.size := R.ng.symm
    (try clear cC fC); have cC := C.cell; have fC := C.frozen; (try clear cR fR); have cR := R.cell; have fR := R.frozen
    go_wp2_with fail
    refine bodyPost_ret (v := .agg #[.int .i64 0, .int .i64 0, .int .i64 0, .string emp, .string emp, .string emp, .int .i64 0]) ?_ rfl ⟨by simp [zeroCmd, emp], (by repeat (first | (with_reducible assumption) | (with_reducible refine Rd.alloc ?_ _) | ((with_reducible refine Rd.set ?_ ?_ ?_ _); rotate_left; (focus first | (simp; done) | (simp; omega) | omega); (focus first | (simp; done) | (simp; omega) | omega)))), (by repeat (first | (with_reducible assumption) | (with_reducible refine Wrote.alloc ?_ _) | ((with_reducible refine Wrote.set ?_ ?_ _); rotate_left; (focus first | (simp; done) | (simp; omega) | omega))))⟩
    simp [results, Try.results56, go_sem, zeroCmd, emp, *]
  · rw [if_neg hc0]
    have hcb : (cl == 0) = false := by simpa using hc0
    go_enter Try.func56, Try.ntmps56
    go_wp2_with fail
    refine (K1.out _ h).mono ?_
    rintro e w1 ⟨rfl, h1, p1⟩
    replace R := R.wr p1
    have hz1 : w.heap.size < w1.heap.size := R.blk.lt
    have C := Box.fresh h1.lt 27 #[.int .i64 cl, .int .i64 0, .int .i64 0, .string emp, .string emp, .string emp, .int .i64 0]
    have a1 : Below w1.heap.size w1 (w1.alloc (.cells #[.int .i64 cl, .int .i64 0, .int .i64 0, .string emp, .string emp, .string emp, .int .i64 0] 27)) := (by repeat (first | (with_reducible exact Below.refl _ _) | (with_reducible assumption) | (with_reducible refine Below.drew ?_) | (with_reducible refine bdrewN ?_ _) | (with_reducible refine balloc ?_ _) | ((with_reducible refine bset ?_ ?_ _); rotate_left; (focus first | exact Nat.le_refl _ | (simp; done) | (simp; omega) | omega)) | (with_reducible refine bstep ?_ (by with_reducible assumption)) | (with_reducible refine Below.trans ?_ (by with_reducible assumption))))
    replace R := R.al (.cells #[.int .i64 cl, .int .i64 0, .int .i64 0, .string emp, .string emp, .string emp, .int .i64 0] 27)
    replace h1 := h1.alloc (.cells #[.int .i64 cl, .int .i64 0, .int .i64 0, .string emp, .string emp, .string emp, .int .i64 0] 27)
    have hgw : g ≠ w1.heap.size := C.ng.symm
    have hgr : g ≠ w.heap.size := R.ng.symm
    have W0a : W0.heap.size ≤ w1.heap.size := by omega
    have hrc : w.heap.size ≠ w1.heap.size := by omega
    (try clear cC fC); have cC := C.cell; have fC := C.frozen; (try clear cR fR); have cR := R.cell; have fR := R.frozen
    go_wp2_with fail
    refine (K2.out _ h1).mono ?_
    rintro e w2 ⟨rfl, h2, p2⟩
    replace R := R.wr p2
    replace C := C.wr p2
    (try clear cC fC); have cC := C.cell; have fC := C.frozen; (try clear cR fR); have cR := R.cell; have fR := R.frozen
    go_wp2_with fail
    refine (K3.out _ (by repeat (first | (with_reducible assumption) | (with_reducible refine Rd.alloc ?_ _) | ((with_reducible refine Rd.set ?_ ?_ ?_ _); rotate_left; (focus first | (simp; done) | (simp; omega) | omega); (focus first | (simp; done) | (simp; omega) | omega))))).mono ?_
    rintro e w3 ⟨rfl, h3, p3⟩
    replace R := (R.far (p := ⟨w1.heap.size, 1, none⟩) hrc (.int .i64 sq)).wr p3
    replace C := (C.set (i := 1) (u := .int .i64 sq) (cs' := #[.int .i64 cl, .int .i64 sq, .int .i64 0, .string emp, .string emp, .string emp, .int .i64 0]) rfl).wr p3
    clear cC fC cR fR
    (try clear cC fC); have cC := C.cell; have fC := C.frozen; (try clear cR fR); have cR := R.cell; have fR := R.frozen
    have hz6 : w.heap.size < w3.heap.size := R.blk.lt
    have hz7 : w1.heap.size < w3.heap.size := C.blk.lt
    have q2 : Wrote w w2 g Nil Nil := (Wrote.pre a0 p1).trans (Wrote.pre a1 p2)
    have q2' : Wrote w (w2.setCell ⟨w1.heap.size, 1, none⟩ (.int .i64 sq)) g Nil Nil := (by repeat (first | (with_reducible assumption) | (with_reducible refine Wrote.alloc ?_ _) | ((with_reducible refine Wrote.set ?_ ?_ _); rotate_left; (focus first | (simp; done) | (simp; omega) | omega))))
    have q3 := q2'.trans p3
    clear q2 q2'
    go_wp2_with fail
    refine bodyPost_ret (v := .agg #[.int .i64 cl, .int .i64 sq, .int .i64 c.kind, .string c.key, .string c.field, .string c.text, .int .i64 c.n]) ?_ rfl ⟨rfl, (by repeat (first | (with_reducible assumption) | (with_reducible refine Rd.alloc ?_ _) | ((with_reducible refine Rd.set ?_ ?_ ?_ _); rotate_left; (focus first | (simp; done) | (simp; omega) | omega); (focus first | (simp; done) | (simp; omega) | omega)))), (by repeat (first | (with_reducible assumption) | (with_reducible refine Wrote.alloc ?_ _) | ((with_reducible refine Wrote.set ?_ ?_ _); rotate_left; (focus first | (simp; done) | (simp; omega) | omega))))⟩
    simp [results, Try.results56, go_sem, *]
/-- What the reader's item leaves: the item, and whether it is one. -/
def ItemV (x : Itm) (ok : Bool) : Value := .tuple #[.agg #[.int .i64 x.term, .int .i64 x.time, .bool x.nop, .int .i64 x.client, .int .i64 x.seq, .int .i64 x.cmd.kind, .string x.cmd.key, .string x.cmd.field, .string x.cmd.text, .int .i64 x.cmd.n], .bool ok]
set_option maxHeartbeats 2000000 in
theorem ritem_any (W0 : World) (g : Nat) (st : RS) (w : World) (h : Rd W0 w g st) :
    Calls Try.prog 35 #[.pointer (some ⟨g, 0, none⟩)] w (Reads W0 w g (ItemV (itemRd st).1.1 (itemRd st).1.2) (itemRd st).2) := by
  have hlt := h.lt
  have hbig := h.big
  unfold itemRd
  have H1 := fun w h => rnumber_any W0 g st w h
  generalize numR st = R1 at H1
  obtain ⟨t, s1⟩ := R1
  have H2 := fun w h => rnumber_any W0 g s1 w h
  simp only at H1 ⊢
  generalize numR s1 = R2 at H2
  obtain ⟨m, s2⟩ := R2
  have H3 := fun w h => rsmall_any W0 g s2 w h
  simp only at H2 ⊢
  generalize smallR s2 = R3 at H3
  obtain ⟨k, s3⟩ := R3
  have H4 := fun w h => rcall_any W0 g s3 w h
  simp only at H3 ⊢
  generalize callRd s3 = R4 at H4
  obtain ⟨c, s4⟩ := R4
  simp only at H4 ⊢
  have K1 := hide H1; have K2 := hide H2; have K3 := hide H3; have K4 := hide H4
  clear H1 H2 H3 H4
  have a0 : Below w.heap.size w (w.alloc (.cells #[.int .i64 0, .int .i64 0, .bool false, .int .i64 0, .int .i64 0, .int .i64 0, .string emp, .string emp, .string emp, .int .i64 0] 29)) := (by repeat (first | (with_reducible exact Below.refl _ _) | (with_reducible assumption) | (with_reducible refine Below.drew ?_) | (with_reducible refine bdrewN ?_ _) | (with_reducible refine balloc ?_ _) | ((with_reducible refine bset ?_ ?_ _); rotate_left; (focus first | exact Nat.le_refl _ | (simp; done) | (simp; omega) | omega)) | (with_reducible refine bstep ?_ (by with_reducible assumption)) | (with_reducible refine Below.trans ?_ (by with_reducible assumption))))
  have R := Box.fresh hlt 29 #[.int .i64 0, .int .i64 0, .bool false, .int .i64 0, .int .i64 0, .int .i64 0, .string emp, .string emp, .string emp, .int .i64 0]
  replace h := h.alloc (.cells #[.int .i64 0, .int .i64 0, .bool false, .int .i64 0, .int .i64 0, .int .i64 0, .string emp, .string emp, .string emp, .int .i64 0] 29)
  have hcase : (k = 0) ∨ (k ≠ 0 ∧ k = 1) ∨ (k ≠ 0 ∧ k ≠ 1) := by omega
  rcases hcase with hk | ⟨hk, hk1⟩ | ⟨hk, hk1⟩
  · rw [if_pos hk]
    subst hk
    go_enter Try.func35, Try.ntmps35
    go_wp2_with fail
    refine (K1.out _ h).mono ?_
    rintro e w1 ⟨rfl, h1, p1⟩
    replace R := R.wr p1
    go_wp2_with fail
    refine (K2.out _ h1).mono ?_
    rintro e w2 ⟨rfl, h2, p2⟩
    replace R := R.wr p2
    have hz1 : w.heap.size < w2.heap.size := R.blk.lt
    have C := Box.fresh h2.lt 29 #[.int .i64 t, .int .i64 m, .bool false, .int .i64 0, .int .i64 0, .int .i64 0, .string emp, .string emp, .string emp, .int .i64 0]
    have a1 : Below w2.heap.size w2 (w2.alloc (.cells #[.int .i64 t, .int .i64 m, .bool false, .int .i64 0, .int .i64 0, .int .i64 0, .string emp, .string emp, .string emp, .int .i64 0] 29)) := (by repeat (first | (with_reducible exact Below.refl _ _) | (with_reducible assumption) | (with_reducible refine Below.drew ?_) | (with_reducible refine bdrewN ?_ _) | (with_reducible refine balloc ?_ _) | ((with_reducible refine bset ?_ ?_ _); rotate_left; (focus first | exact Nat.le_refl _ | (simp; done) | (simp; omega) | omega)) | (with_reducible refine bstep ?_ (by with_reducible assumption)) | (with_reducible refine Below.trans ?_ (by with_reducible assumption))))
    replace R := R.al (.cells #[.int .i64 t, .int .i64 m, .bool false, .int .i64 0, .int .i64 0, .int .i64 0, .string emp, .string emp, .string emp, .int .i64 0] 29)
    replace h2 := h2.alloc (.cells #[.int .i64 t, .int .i64 m, .bool false, .int .i64 0, .int .i64 0, .int .i64 0, .string emp, .string emp, .string emp, .int .i64 0] 29)
    have hgw : g ≠ w2.heap.size := C.ng.symm
    have hgr : g ≠ w.heap.size := R.ng.symm
    have W0a : W0.heap.size ≤ w2.heap.size := by omega
    have hrc : w.heap.size ≠ w2.heap.size := by omega
    go_wp2_with fail
    refine (K3.out _ h2).mono ?_
    rintro e w3 ⟨rfl, h3, p3⟩
    replace R := R.wr p3
    replace C := C.wr p3
    (try clear cC fC); have cC := C.cell; have fC := C.frozen; (try clear cR fR); have cR := R.cell; have fR := R.frozen
    have hz6 : w.heap.size < w3.heap.size := R.blk.lt
    have hz7 : w2.heap.size < w3.heap.size := C.blk.lt
    have q3 : Wrote w w3 g Nil Nil := ((Wrote.pre a0 p1).trans p2).trans (Wrote.pre a1 p3)
    go_wp2_with fail
    refine (K4.out _ h3).mono ?_
    rintro e w4 ⟨rfl, h4, p4⟩
    replace R := R.wr p4
    replace C := C.wr p4
    clear cC fC cR fR
    (try clear cC fC); have cC := C.cell; have fC := C.frozen; (try clear cR fR); have cR := R.cell; have fR := R.frozen
    have hz8 : w.heap.size < w4.heap.size := R.blk.lt
    have hz9 : w2.heap.size < w4.heap.size := C.blk.lt
    replace q3 := q3.trans p4
    go_wp2_with fail
    refine bodyPost_ret (v := ItemV ⟨t, m, false, c.client, c.seq, c.cmd⟩ true) ?_ rfl ⟨rfl, (by repeat (first | (with_reducible assumption) | (with_reducible refine Rd.alloc ?_ _) | ((with_reducible refine Rd.set ?_ ?_ ?_ _); rotate_left; (focus first | (simp; done) | (simp; omega) | omega); (focus first | (simp; done) | (simp; omega) | omega)))), (by repeat (first | (with_reducible assumption) | (with_reducible refine Wrote.alloc ?_ _) | ((with_reducible refine Wrote.set ?_ ?_ _); rotate_left; (focus first | (simp; done) | (simp; omega) | omega))))⟩
    simp [results, Try.results35, go_sem, ItemV, *]
  · rw [if_neg hk, if_pos hk1]
    subst hk1
    clear hk
    go_enter Try.func35, Try.ntmps35
    go_wp2_with fail
    refine (K1.out _ h).mono ?_
    rintro e w1 ⟨rfl, h1, p1⟩
    replace R := R.wr p1
    go_wp2_with fail
    refine (K2.out _ h1).mono ?_
    rintro e w2 ⟨rfl, h2, p2⟩
    replace R := R.wr p2
    have hz1 : w.heap.size < w2.heap.size := R.blk.lt
    have C := Box.fresh h2.lt 29 #[.int .i64 t, .int .i64 m, .bool false, .int .i64 0, .int .i64 0, .int .i64 0, .string emp, .string emp, .string emp, .int .i64 0]
    have a1 : Below w2.heap.size w2 (w2.alloc (.cells #[.int .i64 t, .int .i64 m, .bool false, .int .i64 0, .int .i64 0, .int .i64 0, .string emp, .string emp, .string emp, .int .i64 0] 29)) := (by repeat (first | (with_reducible exact Below.refl _ _) | (with_reducible assumption) | (with_reducible refine Below.drew ?_) | (with_reducible refine bdrewN ?_ _) | (with_reducible refine balloc ?_ _) | ((with_reducible refine bset ?_ ?_ _); rotate_left; (focus first | exact Nat.le_refl _ | (simp; done) | (simp; omega) | omega)) | (with_reducible refine bstep ?_ (by with_reducible assumption)) | (with_reducible refine Below.trans ?_ (by with_reducible assumption))))
    replace R := R.al (.cells #[.int .i64 t, .int .i64 m, .bool false, .int .i64 0, .int .i64 0, .int .i64 0, .string emp, .string emp, .string emp, .int .i64 0] 29)
    replace h2 := h2.alloc (.cells #[.int .i64 t, .int .i64 m, .bool false, .int .i64 0, .int .i64 0, .int .i64 0, .string emp, .string emp, .string emp, .int .i64 0] 29)
    have hgw : g ≠ w2.heap.size := C.ng.symm
    have hgr : g ≠ w.heap.size := R.ng.symm
    have W0a : W0.heap.size ≤ w2.heap.size := by omega
    have hrc : w.heap.size ≠ w2.heap.size := by omega
    go_wp2_with fail
    refine (K3.out _ h2).mono ?_
    rintro e w3 ⟨rfl, h3, p3⟩
    replace R := R.wr p3
    replace C := C.wr p3
    (try clear cC fC); have cC := C.cell; have fC := C.frozen; (try clear cR fR); have cR := R.cell; have fR := R.frozen
    have hz6 : w.heap.size < w3.heap.size := R.blk.lt
    have hz7 : w2.heap.size < w3.heap.size := C.blk.lt
    have q3 : Wrote w w3 g Nil Nil := ((Wrote.pre a0 p1).trans p2).trans (Wrote.pre a1 p3)
    go_wp2_with fail
    refine bodyPost_ret (v := ItemV ⟨t, m, true, 0, 0, zeroCmd⟩ true) ?_ rfl ⟨rfl, (by repeat (first | (with_reducible assumption) | (with_reducible refine Rd.alloc ?_ _) | ((with_reducible refine Rd.set ?_ ?_ ?_ _); rotate_left; (focus first | (simp; done) | (simp; omega) | omega); (focus first | (simp; done) | (simp; omega) | omega)))), (by repeat (first | (with_reducible assumption) | (with_reducible refine Wrote.alloc ?_ _) | ((with_reducible refine Wrote.set ?_ ?_ _); rotate_left; (focus first | (simp; done) | (simp; omega) | omega))))⟩
    simp [results, Try.results35, go_sem, ItemV, zeroCmd, emp, *]
  · rw [if_neg hk, if_neg hk1]
    have hkb : (k == 0) = false := by simpa using hk
    have hkc : (k == 1) = false := by simpa using hk1
    go_enter Try.func35, Try.ntmps35
    go_wp2_with fail
    refine (K1.out _ h).mono ?_
    rintro e w1 ⟨rfl, h1, p1⟩
    replace R := R.wr p1
    go_wp2_with fail
    refine (K2.out _ h1).mono ?_
    rintro e w2 ⟨rfl, h2, p2⟩
    replace R := R.wr p2
    have hz1 : w.heap.size < w2.heap.size := R.blk.lt
    have C := Box.fresh h2.lt 29 #[.int .i64 t, .int .i64 m, .bool false, .int .i64 0, .int .i64 0, .int .i64 0, .string emp, .string emp, .string emp, .int .i64 0]
    have a1 : Below w2.heap.size w2 (w2.alloc (.cells #[.int .i64 t, .int .i64 m, .bool false, .int .i64 0, .int .i64 0, .int .i64 0, .string emp, .string emp, .string emp, .int .i64 0] 29)) := (by repeat (first | (with_reducible exact Below.refl _ _) | (with_reducible assumption) | (with_reducible refine Below.drew ?_) | (with_reducible refine bdrewN ?_ _) | (with_reducible refine balloc ?_ _) | ((with_reducible refine bset ?_ ?_ _); rotate_left; (focus first | exact Nat.le_refl _ | (simp; done) | (simp; omega) | omega)) | (with_reducible refine bstep ?_ (by with_reducible assumption)) | (with_reducible refine Below.trans ?_ (by with_reducible assumption))))
    replace R := R.al (.cells #[.int .i64 t, .int .i64 m, .bool false, .int .i64 0, .int .i64 0, .int .i64 0, .string emp, .string emp, .string emp, .int .i64 0] 29)
    replace h2 := h2.alloc (.cells #[.int .i64 t, .int .i64 m, .bool false, .int .i64 0, .int .i64 0, .int .i64 0, .string emp, .string emp, .string emp, .int .i64 0] 29)
    have hgw : g ≠ w2.heap.size := C.ng.symm
    have hgr : g ≠ w.heap.size := R.ng.symm
    have W0a : W0.heap.size ≤ w2.heap.size := by omega
    have hrc : w.heap.size ≠ w2.heap.size := by omega
    go_wp2_with fail
    refine (K3.out _ h2).mono ?_
    rintro e w3 ⟨rfl, h3, p3⟩
    replace R := R.wr p3
    replace C := C.wr p3
    (try clear cC fC); have cC := C.cell; have fC := C.frozen; (try clear cR fR); have cR := R.cell; have fR := R.frozen
    have hz6 : w.heap.size < w3.heap.size := R.blk.lt
    have hz7 : w2.heap.size < w3.heap.size := C.blk.lt
    have q3 : Wrote w w3 g Nil Nil := ((Wrote.pre a0 p1).trans p2).trans (Wrote.pre a1 p3)
    go_wp2_with fail
    refine bodyPost_ret (v := ItemV ⟨t, m, false, 0, 0, zeroCmd⟩ false) ?_ rfl ⟨rfl, (by repeat (first | (with_reducible assumption) | (with_reducible refine Rd.alloc ?_ _) | ((with_reducible refine Rd.set ?_ ?_ ?_ _); rotate_left; (focus first | (simp; done) | (simp; omega) | omega); (focus first | (simp; done) | (simp; omega) | omega)))), (by repeat (first | (with_reducible assumption) | (with_reducible refine Wrote.alloc ?_ _) | ((with_reducible refine Wrote.set ?_ ?_ _); rotate_left; (focus first | (simp; done) | (simp; omega) | omega))))⟩
    simp [results, Try.results35, go_sem, ItemV, zeroCmd, emp, *]
def endOf (ok : Bool) (st : RS) : Int := if st.2 = true then 9 else if ok = false ∨ 0 < st.1.length then 8 else 0
set_option maxHeartbeats 1000000 in
theorem rend_any (W0 : World) (g : Nat) (st : RS) (ok : Bool) (w : World) (h : Rd W0 w g st) :
    Calls Try.prog 36 #[.pointer (some ⟨g, 0, none⟩), .bool ok] w fun e w' => e = .returned (.int .i64 (endOf ok st)) ∧ w = w' := by
  obtain ⟨⟨A, m, c, hB, hS⟩, hlow, hgb, hu⟩ := h
  obtain ⟨l, sh⟩ := st
  simp only at hB hS hu
  have hm : l.length = m := by rw [← hS.len, byteRows_length]
  subst hm
  have hg := hB.lt
  have hc := hB.cell
  have hf := hB.frozen
  cases sh <;> cases ok
  all_goals
    go_enter Try.func36, Try.ntmps36
    go_wp2_with fail
    all_goals go_ret
    all_goals refine ⟨ret_int ?_, rfl⟩
    all_goals (unfold endOf; (repeat' split) <;> first | rfl | (simp_all; done) | (simp_all; omega))
end Go.Proofs.Ytaldmianlmgloab
