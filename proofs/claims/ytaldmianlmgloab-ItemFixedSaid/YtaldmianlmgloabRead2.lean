/- The reader's methods: command, call, item, end; wire.DecodeItem. -/
import Derived.Test.YtaldmianlmgloabRead
namespace Go.Proofs.Ytaldmianlmgloab
set_option linter.all false
open Go.RowKit Go.Lib
theorem Rd.set {W0 w : World} {g : Nat} {st : RS} (h : Rd W0 w g st) {p : Addr} (hp : g ≠ p.block) (hp2 : W0.heap.size ≤ p.block) (u : Value) : Rd W0 (w.setCell p u) g st := by
  obtain ⟨⟨A, n, c, h1, h2⟩, h3, h4, h5⟩ := h
  exact ⟨⟨A, n, c, h1.far hp u, h2⟩, h3.setCell hp2 u, h4, h5⟩
theorem Rd.lt {W0 w : World} {g : Nat} {st : RS} (h : Rd W0 w g st) : g < w.heap.size := by
  obtain ⟨⟨A, n, c, h1, _⟩, _⟩ := h; exact h1.lt
theorem Rd.big {W0 w : World} {g : Nat} {st : RS} (h : Rd W0 w g st) : W0.heap.size ≤ w.heap.size := h.low.size
theorem Wrote.set {w w1 : World} {g : Nat} {v v' : Value} (h : Wrote w w1 g v v') {p : Addr} (hp : w.heap.size ≤ p.block) (u : Value) : Wrote w (w1.setCell p u) g v v' :=
  ⟨h.os, h.tape, h.output, by have := h.size; simpa using this, fun b hb hg hv => (Below.heap_setCell w1 p u b (by omega)).trans (h.block b hb hg hv), h.row⟩
theorem Wrote.alloc {w w1 : World} {g : Nat} {v v' : Value} (h : Wrote w w1 g v v') (o : Obj) : Wrote w (w1.alloc o) g v v' := h.post ((Below.refl _ w1).alloc (Nat.le_refl _) o)
theorem Box.fresh {w : World} {g : Nat} (hg : g < w.heap.size) (t : TypeId) (cs : Array Value) : Box (w.alloc (.cells cs t)) w.heap.size t cs g Nil :=
  ⟨Blk.new w t cs, by omega, by simp [Nil, Value.ownBlock]⟩
theorem Box.al {w : World} {b g : Nat} {t : TypeId} {cs : Array Value} {v : Value} (h : Box w b t cs g v) (o : Obj) : Box (w.alloc o) b t cs g v := h.below ((Below.refl _ w).alloc (Nat.le_refl _) o)
theorem Box.set {w : World} {b g i : Nat} {t : TypeId} {cs : Array Value} {v u : Value} {cs' : Array Value} (h : Box w b t cs g v) (he : cs.setIfInBounds i u = cs') : Box (w.setCell ⟨b, i, none⟩ u) b t cs' g v := ⟨h.blk.set' he, h.ng, h.nv⟩
theorem Box.far {w : World} {b g : Nat} {t : TypeId} {cs : Array Value} {v : Value} (h : Box w b t cs g v) {p : Addr} (hp : b ≠ p.block) (u : Value) : Box (w.setCell p u) b t cs g v := ⟨h.blk.far hp u, h.ng, h.nv⟩
set_option maxHeartbeats 2000000 in
theorem rcommand_any (W0 : World) (g : Nat) (st : RS) (w : World) (h : Rd W0 w g st) :
    Calls Try.prog 66 #[.pointer (some ⟨g, 0, none⟩)] w (Reads W0 w g (.agg #[.int .i64 (cmdRd st).1.kind, .string (cmdRd st).1.key, .string (cmdRd st).1.field, .string (cmdRd st).1.text, .int .i64 (cmdRd st).1.n]) (cmdRd st).2) := by
  have hlt := h.lt
  have hbig := h.big
  unfold cmdRd
  simp only
  have H1 := fun w h => rsmall_any W0 g st w h
  generalize smallR st = R1 at H1
  obtain ⟨kind, s1⟩ := R1
  have H2 := fun w h => rtext_any W0 g s1 w h
  simp only at H1 ⊢
  generalize textR s1 = R2 at H2
  obtain ⟨key, s2⟩ := R2
  have H3 := fun w h => rtext_any W0 g s2 w h
  simp only at H2 ⊢
  generalize textR s2 = R3 at H3
  obtain ⟨field, s3⟩ := R3
  have H4 := fun w h => rtext_any W0 g s3 w h
  simp only at H3 ⊢
  generalize textR s3 = R4 at H4
  obtain ⟨text, s4⟩ := R4
  have H5 := fun w h => rnumber_any W0 g s4 w h
  simp only at H4 ⊢
  generalize numR s4 = R5 at H5
  obtain ⟨num, s5⟩ := R5
  simp only at H5 ⊢
  have K1 := hide H1; have K2 := hide H2; have K3 := hide H3; have K4 := hide H4; have K5 := hide H5
  clear H1 H2 H3 H4 H5
  have a0 : Below w.heap.size w (w.alloc (.cells #[.int .i64 0, .string emp, .string emp, .string emp, .int .i64 0] 25)) := (by repeat (first | (with_reducible exact Below.refl _ _) | (with_reducible assumption) | (with_reducible refine Below.drew ?_) | (with_reducible refine bdrewN ?_ _) | (with_reducible refine balloc ?_ _) | ((with_reducible refine bset ?_ ?_ _); rotate_left; (focus first | exact Nat.le_refl _ | (simp; done) | (simp; omega) | omega)) | (with_reducible refine bstep ?_ (by with_reducible assumption)) | (with_reducible refine Below.trans ?_ (by with_reducible assumption))))
  have R := Box.fresh hlt 25 #[.int .i64 0, .string emp, .string emp, .string emp, .int .i64 0]
  replace h := h.alloc (.cells #[.int .i64 0, .string emp, .string emp, .string emp, .int .i64 0] 25)
  go_enter Try.func66, Try.ntmps66
  go_wp2_with fail
  refine (K1.out _ h).mono ?_
  rintro e w1 ⟨rfl, h1, p1⟩
  replace R := R.wr p1
  have hz1 : w.heap.size < w1.heap.size := R.blk.lt
  have C := Box.fresh h1.lt 25 #[.int .i64 kind, .string emp, .string emp, .string emp, .int .i64 0]
  have a1 : Below w1.heap.size w1 (w1.alloc (.cells #[.int .i64 kind, .string emp, .string emp, .string emp, .int .i64 0] 25)) := (by repeat (first | (with_reducible exact Below.refl _ _) | (with_reducible assumption) | (with_reducible refine Below.drew ?_) | (with_reducible refine bdrewN ?_ _) | (with_reducible refine balloc ?_ _) | ((with_reducible refine bset ?_ ?_ _); rotate_left; (focus first | exact Nat.le_refl _ | (simp; done) | (simp; omega) | omega)) | (with_reducible refine bstep ?_ (by with_reducible assumption)) | (with_reducible refine Below.trans ?_ (by with_reducible assumption))))
  replace R := R.al (.cells #[.int .i64 kind, .string emp, .string emp, .string emp, .int .i64 0] 25)
  replace h1 := h1.alloc (.cells #[.int .i64 kind, .string emp, .string emp, .string emp, .int .i64 0] 25)
  go_wp2_with fail
  refine (K2.out _ h1).mono ?_
  rintro e w2 ⟨rfl, h2, p2⟩
  replace R := R.wr p2
  replace C := C.wr p2
  go_wp2_with fail
  refine (K3.out _ h2).mono ?_
  rintro e w3 ⟨rfl, h3, p3⟩
  replace R := R.wr p3
  replace C := C.wr p3
  go_wp2_with fail
  refine (K4.out _ h3).mono ?_
  rintro e w4 ⟨rfl, h4, p4⟩
  replace R := R.wr p4
  replace C := C.wr p4
  (try clear cC fC); have cC := C.cell; have fC := C.frozen; (try clear cR fR); have cR := R.cell; have fR := R.frozen
  have hgw : g ≠ w1.heap.size := C.ng.symm
  have hgr : g ≠ w.heap.size := R.ng.symm
  have hz4 : w.heap.size < w4.heap.size := R.blk.lt
  have hz5 : w1.heap.size < w4.heap.size := C.blk.lt
  have W0a : W0.heap.size ≤ w1.heap.size := by omega
  go_wp2_with fail
  refine (K5.out _ (by repeat (first | (with_reducible assumption) | (with_reducible refine Rd.alloc ?_ _) | ((with_reducible refine Rd.set ?_ ?_ ?_ _); rotate_left; (focus first | (simp; done) | (simp; omega) | omega); (focus first | (simp; done) | (simp; omega) | omega))))).mono ?_
  rintro e w5 ⟨rfl, h5, p5⟩
  have hrc : w.heap.size ≠ w1.heap.size := by omega
  replace R := (((R.far (p := ⟨w1.heap.size, 1, none⟩) hrc (.string key)).far (p := ⟨w1.heap.size, 2, none⟩) hrc (.string field)).far (p := ⟨w1.heap.size, 3, none⟩) hrc (.string text)).wr p5
  replace C := (((C.set (i := 1) (u := .string key) (cs' := #[.int .i64 kind, .string key, .string emp, .string emp, .int .i64 0]) rfl).set (i := 2) (u := .string field) (cs' := #[.int .i64 kind, .string key, .string field, .string emp, .int .i64 0]) rfl).set (i := 3) (u := .string text) (cs' := #[.int .i64 kind, .string key, .string field, .string text, .int .i64 0]) rfl).wr p5
  clear cC fC cR fR
  (try clear cC fC); have cC := C.cell; have fC := C.frozen; (try clear cR fR); have cR := R.cell; have fR := R.frozen
  have hz6 : w.heap.size < w5.heap.size := R.blk.lt
  have hz7 : w1.heap.size < w5.heap.size := C.blk.lt
  have q4 : Wrote w w4 g Nil Nil := ((((Wrote.pre a0 p1).trans (Wrote.pre a1 p2)).trans p3).trans p4)
  have q4' : Wrote w (((w4.setCell ⟨w1.heap.size, 1, none⟩ (.string key)).setCell ⟨w1.heap.size, 2, none⟩ (.string field)).setCell ⟨w1.heap.size, 3, none⟩ (.string text)) g Nil Nil := (by repeat (first | (with_reducible assumption) | (with_reducible refine Wrote.alloc ?_ _) | ((with_reducible refine Wrote.set ?_ ?_ _); rotate_left; (focus first | (simp; done) | (simp; omega) | omega))))
  have q5 := q4'.trans p5
  clear q4 q4'
  go_wp2_with fail
  refine bodyPost_ret (v := .agg #[.int .i64 kind, .string key, .string field, .string text, .int .i64 num]) ?_ rfl ⟨rfl, (by repeat (first | (with_reducible assumption) | (with_reducible refine Rd.alloc ?_ _) | ((with_reducible refine Rd.set ?_ ?_ ?_ _); rotate_left; (focus first | (simp; done) | (simp; omega) | omega); (focus first | (simp; done) | (simp; omega) | omega)))), (by repeat (first | (with_reducible assumption) | (with_reducible refine Wrote.alloc ?_ _) | ((with_reducible refine Wrote.set ?_ ?_ _); rotate_left; (focus first | (simp; done) | (simp; omega) | omega))))⟩
  simp [results, Try.results66, go_sem, *]
end Go.Proofs.Ytaldmianlmgloab
