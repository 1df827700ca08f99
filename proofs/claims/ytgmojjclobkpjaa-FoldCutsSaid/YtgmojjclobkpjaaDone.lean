/- value.Do. -/
import Derived.Test.YtgmojjclobkpjaaDonP
namespace Go.Proofs.Ytgmojjclobkpjaa
set_option linter.all false
open Go.RowKit
def DonePost (R : Va × Re × Int) (w : World) (e : Ending) (w' : World) : Prop :=
  ∃ A1 n1 c1 A2 n2 c2 A3 n3 c3 A4 n4 c4, e = .returned (.tuple #[.agg #[.int .i64 R.1.kind, .string R.1.text, .int .i64 R.1.count, .slice A1 n1 c1, .slice A2 n2 c2, .slice A3 n3 c3], .agg #[.int .i64 R.2.1.code, .string R.2.1.text, .int .i64 R.2.1.n, .slice A4 n4 c4], .int .i64 R.2.2]) ∧
    VSl w' R.1 A1 n1 c1 A2 n2 c2 A3 n3 c3 ∧ Sl w' 1 A4 n4 c4 (strRows R.2.1.list) ∧ (Tp w' A1 118 ∧ Tp w' A2 9 ∧ Tp w' A3 120 ∧ Tp w' A4 9) ∧ Below w.heap.size w w'
/-- .. and the items' block, if there is one, is new. -/
def DonePostN (R : Va × Re × Int) (w : World) (e : Ending) (w' : World) : Prop :=
  ∃ A1 n1 c1 A2 n2 c2 A3 n3 c3 A4 n4 c4, e = .returned (.tuple #[.agg #[.int .i64 R.1.kind, .string R.1.text, .int .i64 R.1.count, .slice A1 n1 c1, .slice A2 n2 c2, .slice A3 n3 c3], .agg #[.int .i64 R.2.1.code, .string R.2.1.text, .int .i64 R.2.1.n, .slice A4 n4 c4], .int .i64 R.2.2]) ∧
    VSl w' R.1 A1 n1 c1 A2 n2 c2 A3 n3 c3 ∧ Sl w' 1 A4 n4 c4 (strRows R.2.1.list) ∧ (Tp w' A1 118 ∧ Tp w' A2 9 ∧ Tp w' A3 120 ∧ Tp w' A4 9) ∧ Below w.heap.size w w' ∧ ∀ a, A2 = some a → w.heap.size ≤ a.block
theorem DonePostN.done {R : Va × Re × Int} {w w' : World} {e : Ending} (h : DonePostN R w e w') : DonePost R w e w' := by
  obtain ⟨A1, n1, c1, A2, n2, c2, A3, n3, c3, A4, n4, c4, h1, h2, h3, h4, h5, _⟩ := h
  exact ⟨A1, n1, c1, A2, n2, c2, A3, n3, c3, A4, n4, c4, h1, h2, h3, h4, h5⟩
theorem own_new {w : World} {B B' : Nat} {e : TypeId} {sz : Nat} {A : Option Addr} {n c : Nat} {rows : List (List Value)} (h : Own w B e sz (.slice A n c) rows) (hB : B' ≤ B) : ∀ a, A = some a → B' ≤ a.block := by
  rintro a rfl
  rcases h.form with ⟨hv, _⟩ | ⟨b, cap, hv, hb, _⟩
  · cases hv
  · injection hv with e1 _ _
    injection e1 with e1
    subst e1
    exact Nat.le_trans hB hb
theorem nil_new {B : Nat} : ∀ a : Addr, (none : Option Addr) = some a → B ≤ a.block := fun _ h => by cases h
theorem nil_vsl {w : World} {k n : Int} {t : ByteArray} : VSl w ⟨k, t, n, [], [], []⟩ none 0 0 none 0 0 none 0 0 := ⟨Sl.nil_ _ _, Sl.nil_ _ _, Sl.nil_ _ _⟩
theorem nil_sl {w : World} : Sl w 1 none 0 0 (strRows []) := Sl.nil_ _ _
theorem nil_tp {w : World} : Tp w none 118 ∧ Tp w none 9 ∧ Tp w none 120 ∧ Tp w none 9 := ⟨Tp.none_, Tp.none_, Tp.none_, Tp.none_⟩
theorem tp_drew {w : World} {A : Option Addr} {t : TypeId} (h : Tp w A t) : Tp w.drew A t := fun a ha => by
  obtain ⟨cs, h⟩ := h a ha
  exact ⟨cs, h.drew⟩
theorem below_set {B : Nat} {a w : World} (h : Below B a w) {b : Nat} (hb : B ≤ b) (i : Nat) (u : Value) : Below B a (w.setCell ⟨b, i, none⟩ u) := h.setCell hb u
theorem fin_done {w w2 : World} {v : Va} {r : Re} {k : Int} {b1 b2 : Nat} {A1 A2 A3 A4 : Option Addr} {n1 c1 n2 c2 n3 c3 n4 c4 : Nat} {x0 x1 x2 x3 x4 x5 y0 y1 y2 y3 : Value}
    (RV : Blk w2 b1 89 #[x0, x1, x2, x3, x4, x5]) (RR : Blk w2 b2 95 #[y0, y1, y2, y3]) (N : VSl w2 v A1 n1 c1 A2 n2 c2 A3 n3 c3) (L : Sl w2 1 A4 n4 c4 (strRows r.list))
    (T : Tp w2 A1 118 ∧ Tp w2 A2 9 ∧ Tp w2 A3 120 ∧ Tp w2 A4 9) (q : Below w.heap.size w w2) (h1 : w.heap.size ≤ b1) (h2 : w.heap.size ≤ b2) (F : ∀ a, A2 = some a → w.heap.size ≤ a.block) :
    DonePostN (v, r, k) w (.returned (.tuple #[.agg #[.int .i64 v.kind, .string v.text, .int .i64 v.count, .slice A1 n1 c1, .slice A2 n2 c2, .slice A3 n3 c3], .agg #[.int .i64 r.code, .string r.text, .int .i64 r.n, .slice A4 n4 c4], .int .i64 k])) ((((((((((w2.setCell ⟨b1, 0, none⟩ (.int .i64 v.kind)).setCell ⟨b1, 1, none⟩ (.string v.text)).setCell ⟨b1, 2, none⟩ (.int .i64 v.count)).setCell ⟨b1, 3, none⟩ (.slice A1 n1 c1)).setCell ⟨b1, 4, none⟩ (.slice A2 n2 c2)).setCell ⟨b1, 5, none⟩ (.slice A3 n3 c3)).setCell ⟨b2, 0, none⟩ (.int .i64 r.code)).setCell ⟨b2, 1, none⟩ (.string r.text)).setCell ⟨b2, 2, none⟩ (.int .i64 r.n)).setCell ⟨b2, 3, none⟩ (.slice A4 n4 c4)) ∧ Blk ((((((((((w2.setCell ⟨b1, 0, none⟩ (.int .i64 v.kind)).setCell ⟨b1, 1, none⟩ (.string v.text)).setCell ⟨b1, 2, none⟩ (.int .i64 v.count)).setCell ⟨b1, 3, none⟩ (.slice A1 n1 c1)).setCell ⟨b1, 4, none⟩ (.slice A2 n2 c2)).setCell ⟨b1, 5, none⟩ (.slice A3 n3 c3)).setCell ⟨b2, 0, none⟩ (.int .i64 r.code)).setCell ⟨b2, 1, none⟩ (.string r.text)).setCell ⟨b2, 2, none⟩ (.int .i64 r.n)).setCell ⟨b2, 3, none⟩ (.slice A4 n4 c4)) b1 89 #[.int .i64 v.kind, .string v.text, .int .i64 v.count, .slice A1 n1 c1, .slice A2 n2 c2, .slice A3 n3 c3] ∧ Blk ((((((((((w2.setCell ⟨b1, 0, none⟩ (.int .i64 v.kind)).setCell ⟨b1, 1, none⟩ (.string v.text)).setCell ⟨b1, 2, none⟩ (.int .i64 v.count)).setCell ⟨b1, 3, none⟩ (.slice A1 n1 c1)).setCell ⟨b1, 4, none⟩ (.slice A2 n2 c2)).setCell ⟨b1, 5, none⟩ (.slice A3 n3 c3)).setCell ⟨b2, 0, none⟩ (.int .i64 r.code)).setCell ⟨b2, 1, none⟩ (.string r.text)).setCell ⟨b2, 2, none⟩ (.int .i64 r.n)).setCell ⟨b2, 3, none⟩ (.slice A4 n4 c4)) b2 95 #[.int .i64 r.code, .string r.text, .int .i64 r.n, .slice A4 n4 c4] := by
  have hne : b1 ≠ b2 := blk_ne RV RR (by decide)
  have p1 := T.1.ne RV; have p2 := T.2.1.ne RV; have p3 := T.2.2.1.ne RV; have p4 := T.2.2.2.ne RV
  have r1 := T.1.ne RR; have r2 := T.2.1.ne RR; have r3 := T.2.2.1.ne RR; have r4 := T.2.2.2.ne RR
  have V1 := RV.set' (i := 0) (u := .int .i64 v.kind) rfl
  have Y1 := RR.far (p := ⟨b1, 0, none⟩) (by simpa using hne.symm) (.int .i64 v.kind)
  have N1 := N.far_ p1 p2 p3 0 (.int .i64 v.kind)
  have L1 := L.far (grown_setRow_cell _ b1 0 (.int .i64 v.kind)) p4
  have q1 := below_set q h1 0 (.int .i64 v.kind)
  have V2 := V1.set' (i := 1) (u := .string v.text) rfl
  have Y2 := Y1.far (p := ⟨b1, 1, none⟩) (by simpa using hne.symm) (.string v.text)
  have N2 := N1.far_ p1 p2 p3 1 (.string v.text)
  have L2 := L1.far (grown_setRow_cell _ b1 1 (.string v.text)) p4
  have q2 := below_set q1 h1 1 (.string v.text)
  have V3 := V2.set' (i := 2) (u := .int .i64 v.count) rfl
  have Y3 := Y2.far (p := ⟨b1, 2, none⟩) (by simpa using hne.symm) (.int .i64 v.count)
  have N3 := N2.far_ p1 p2 p3 2 (.int .i64 v.count)
  have L3 := L2.far (grown_setRow_cell _ b1 2 (.int .i64 v.count)) p4
  have q3 := below_set q2 h1 2 (.int .i64 v.count)
  have V4 := V3.set' (i := 3) (u := .slice A1 n1 c1) rfl
  have Y4 := Y3.far (p := ⟨b1, 3, none⟩) (by simpa using hne.symm) (.slice A1 n1 c1)
  have N4 := N3.far_ p1 p2 p3 3 (.slice A1 n1 c1)
  have L4 := L3.far (grown_setRow_cell _ b1 3 (.slice A1 n1 c1)) p4
  have q4 := below_set q3 h1 3 (.slice A1 n1 c1)
  have V5 := V4.set' (i := 4) (u := .slice A2 n2 c2) rfl
  have Y5 := Y4.far (p := ⟨b1, 4, none⟩) (by simpa using hne.symm) (.slice A2 n2 c2)
  have N5 := N4.far_ p1 p2 p3 4 (.slice A2 n2 c2)
  have L5 := L4.far (grown_setRow_cell _ b1 4 (.slice A2 n2 c2)) p4
  have q5 := below_set q4 h1 4 (.slice A2 n2 c2)
  have V6 := V5.set' (i := 5) (u := .slice A3 n3 c3) rfl
  have Y6 := Y5.far (p := ⟨b1, 5, none⟩) (by simpa using hne.symm) (.slice A3 n3 c3)
  have N6 := N5.far_ p1 p2 p3 5 (.slice A3 n3 c3)
  have L6 := L5.far (grown_setRow_cell _ b1 5 (.slice A3 n3 c3)) p4
  have q6 := below_set q5 h1 5 (.slice A3 n3 c3)
  have V7 := V6.far (p := ⟨b2, 0, none⟩) (by simpa using hne) (.int .i64 r.code)
  have Y7 := Y6.set' (i := 0) (u := .int .i64 r.code) rfl
  have N7 := N6.far_ r1 r2 r3 0 (.int .i64 r.code)
  have L7 := L6.far (grown_setRow_cell _ b2 0 (.int .i64 r.code)) r4
  have q7 := below_set q6 h2 0 (.int .i64 r.code)
  have V8 := V7.far (p := ⟨b2, 1, none⟩) (by simpa using hne) (.string r.text)
  have Y8 := Y7.set' (i := 1) (u := .string r.text) rfl
  have N8 := N7.far_ r1 r2 r3 1 (.string r.text)
  have L8 := L7.far (grown_setRow_cell _ b2 1 (.string r.text)) r4
  have q8 := below_set q7 h2 1 (.string r.text)
  have V9 := V8.far (p := ⟨b2, 2, none⟩) (by simpa using hne) (.int .i64 r.n)
  have Y9 := Y8.set' (i := 2) (u := .int .i64 r.n) rfl
  have N9 := N8.far_ r1 r2 r3 2 (.int .i64 r.n)
  have L9 := L8.far (grown_setRow_cell _ b2 2 (.int .i64 r.n)) r4
  have q9 := below_set q8 h2 2 (.int .i64 r.n)
  have V10 := V9.far (p := ⟨b2, 3, none⟩) (by simpa using hne) (.slice A4 n4 c4)
  have Y10 := Y9.set' (i := 3) (u := .slice A4 n4 c4) rfl
  have N10 := N9.far_ r1 r2 r3 3 (.slice A4 n4 c4)
  have L10 := L9.far (grown_setRow_cell _ b2 3 (.slice A4 n4 c4)) r4
  have q10 := below_set q9 h2 3 (.slice A4 n4 c4)
  exact ⟨⟨A1, n1, c1, A2, n2, c2, A3, n3, c3, A4, n4, c4, rfl, N10, L10, ⟨((((((((((T.1.set b1 0 _).set b1 1 _).set b1 2 _).set b1 3 _).set b1 4 _).set b1 5 _).set b2 0 _).set b2 1 _).set b2 2 _).set b2 3 _), ((((((((((T.2.1.set b1 0 _).set b1 1 _).set b1 2 _).set b1 3 _).set b1 4 _).set b1 5 _).set b2 0 _).set b2 1 _).set b2 2 _).set b2 3 _), ((((((((((T.2.2.1.set b1 0 _).set b1 1 _).set b1 2 _).set b1 3 _).set b1 4 _).set b1 5 _).set b2 0 _).set b2 1 _).set b2 2 _).set b2 3 _), ((((((((((T.2.2.2.set b1 0 _).set b1 1 _).set b1 2 _).set b1 3 _).set b1 4 _).set b1 5 _).set b2 0 _).set b2 1 _).set b2 2 _).set b2 3 _)⟩, q10, F⟩, V10, Y10⟩
end Go.Proofs.Ytgmojjclobkpjaa
