/- value.do: a command of a kind that fits. -/
import Derived.Test.YtgmojjclobkpjaaSet
import Derived.Test.YtgmojjclobkpjaaRanks
import Derived.Test.YtgmojjclobkpjaaList
import Derived.Test.YtgmojjclobkpjaaHold
import Derived.Test.YtgmojjclobkpjaaBase
namespace Go.Proofs.Ytgmojjclobkpjaa
set_option linter.all false
open Go.RowKit
attribute [local go_sem ↓] Go.wp_at_zero Go.wp_at_succ
def doAdd (v : Va) (c : Cmd) : Va × Re := if countOk (v.count + c.n) = true then ({ v with count := v.count + c.n }, toldR (v.count + c.n)) else (v, failR 7)
def doVal (v : Va) (c : Cmd) : Va × Re :=
  if c.kind = 1 then (⟨1, c.text, 0, [], [], []⟩, toldR 0)
  else if c.kind = 2 then (v, textR v.text)
  else if c.kind = 3 then doAdd v c
  else if c.kind = 17 then (v, toldR (v.size : Int))
  else if c.kind = 18 then (v, ⟨0, emp, 0, allOf v⟩)
  else if v.kind = 3 then doHash v c else if v.kind = 4 then doList v c else if v.kind = 5 then doSet v c else doRank v c
theorem re_done3 {w w2 : World} {v : Va} {B g b : Nat} {A1 A2 A3 A4 : Option Addr} {n1 c1 n2 c2 n3 c3 n4 c4 : Nat} {k0 m0 : Int} {t0 : ByteArray} {l : List ByteArray} {x0 x1 x2 x3 : Value}
    (G : Blk w2 g 89 #[.int .i64 v.kind, .string v.text, .int .i64 v.count, .slice A1 n1 c1, .slice A2 n2 c2, .slice A3 n3 c3]) (R : Blk w2 b 95 #[x0, x1, x2, x3]) (N : VSl w2 v A1 n1 c1 A2 n2 c2 A3 n3 c3) (L : Sl w2 1 A4 n4 c4 (strRows l))
    (T : Tp w2 A1 118 ∧ Tp w2 A2 9 ∧ Tp w2 A3 120 ∧ Tp w2 A4 9) (q : Mov B w w2) (hb : B ≤ b) (hbw : w.heap.size ≤ b) :
    DoPost v ⟨k0, t0, m0, l⟩ B g w (.returned (.agg #[.int .i64 k0, .string t0, .int .i64 m0, .slice A4 n4 c4])) ((((w2.setCell ⟨b, 0, none⟩ (.int .i64 k0)).setCell ⟨b, 1, none⟩ (.string t0)).setCell ⟨b, 2, none⟩ (.int .i64 m0)).setCell ⟨b, 3, none⟩ (.slice A4 n4 c4)) ∧
    Blk ((((w2.setCell ⟨b, 0, none⟩ (.int .i64 k0)).setCell ⟨b, 1, none⟩ (.string t0)).setCell ⟨b, 2, none⟩ (.int .i64 m0)).setCell ⟨b, 3, none⟩ (.slice A4 n4 c4)) b 95 #[.int .i64 k0, .string t0, .int .i64 m0, .slice A4 n4 c4] := by
  have hgb : g ≠ b := blk_ne G R (by decide)
  have h1 := T.1.ne R; have h2 := T.2.1.ne R; have h3 := T.2.2.1.ne R; have h4 := T.2.2.2.ne R
  have R1 := R.set' (i := 0) (u := .int .i64 k0) rfl
  have R2 := R1.set' (i := 1) (u := .string t0) rfl
  have R3 := R2.set' (i := 2) (u := .int .i64 m0) rfl
  have R4 := R3.set' (i := 3) (u := .slice A4 n4 c4) rfl
  have N4 := (((N.far_ h1 h2 h3 0 (.int .i64 k0)).far_ h1 h2 h3 1 (.string t0)).far_ h1 h2 h3 2 (.int .i64 m0)).far_ h1 h2 h3 3 (.slice A4 n4 c4)
  have L4 := (((L.far (grown_setRow_cell w2 b 0 (.int .i64 k0)) h4).far (grown_setRow_cell _ b 1 (.string t0)) h4).far (grown_setRow_cell _ b 2 (.int .i64 m0)) h4).far (grown_setRow_cell _ b 3 (.slice A4 n4 c4)) h4
  refine ⟨⟨A1, n1, c1, A2, n2, c2, A3, n3, c3, A4, n4, c4, rfl, ?_, N4, L4, ⟨((((T.1.set b 0 _).set b 1 _).set b 2 _).set b 3 _), ((((T.2.1.set b 0 _).set b 1 _).set b 2 _).set b 3 _), ((((T.2.2.1.set b 0 _).set b 1 _).set b 2 _).set b 3 _), ((((T.2.2.2.set b 0 _).set b 1 _).set b 2 _).set b 3 _)⟩, ?_⟩, R4⟩
  · exact (((G.far (by simpa using hgb) _).far (by simpa using hgb) _).far (by simpa using hgb) _).far (by simpa using hgb) _
  · exact (((q.setN hb hbw 0 _).setN hb hbw 1 _).setN hb hbw 2 _).setN hb hbw 3 _
/-- A command's kind and a value's that fit. -/
def fits (ck vk : Int) : Prop := ck = 1 ∨ (ck = 2 ∧ vk = 1) ∨ (ck = 3 ∧ vk = 2) ∨ ((ck = 4 ∨ ck = 5 ∨ ck = 6) ∧ vk = 3) ∨ ((ck = 7 ∨ ck = 8 ∨ ck = 9 ∨ ck = 10) ∧ vk = 4) ∨ ((ck = 11 ∨ ck = 12 ∨ ck = 13) ∧ vk = 5) ∨ ((ck = 14 ∨ ck = 15 ∨ ck = 16) ∧ vk = 6) ∨ ck = 17 ∨ ck = 18
end Go.Proofs.Ytgmojjclobkpjaa
