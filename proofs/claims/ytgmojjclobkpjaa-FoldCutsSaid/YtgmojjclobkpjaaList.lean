/- value.list: what a command makes of a list. -/
import Derived.Test.YtgmojjclobkpjaaHash
namespace Go.Proofs.Ytgmojjclobkpjaa
set_option linter.all false
open Go.RowKit
attribute [local go_sem ↓] Go.wp_at_zero Go.wp_at_succ
def doList (v : Va) (c : Cmd) : Va × Re :=
  if c.kind = 7 then (if v.items.length = 20 then (v, failR 6) else ({ v with items := v.items ++ [c.text] }, toldR (v.items.length + 1)))
  else if c.kind = 8 then (if v.items.length = 20 then (v, failR 6) else ({ v with items := insRows v.items 0 c.text }, toldR (v.items.length + 1)))
  else if c.kind = 9 then ({ v with items := v.items.take (v.items.length - 1) }, textR ((v.items[v.items.length - 1]?).getD emp))
  else ({ v with items := v.items.drop 1 }, textR ((v.items[0]?).getD emp))
theorem own_ne {w : World} {B g size : Nat} {e t : TypeId} {n c : Nat} {A : Option Addr} {rows : List (List Value)} {cs : Array Value} (h : Own w B e size (.slice A n c) rows) (hb : Blk w g t cs) (hne : t ≠ e := by decide) : ∀ a, A = some a → a.block ≠ g := by
  rintro a rfl
  rcases h.form with ⟨hv, _⟩ | ⟨b, cap, hv, _⟩
  · cases hv
  · injection hv with e1 e2 e3
    injection e1 with e1
    subst e1; subst e2; subst e3
    exact own_not h hb hne
theorem own_far_read {w : World} {B g size : Nat} {e t : TypeId} {n c : Nat} {A : Option Addr} {rows : List (List Value)} {cs : Array Value} (h : Own w B e size (.slice A n c) rows) (hb : Blk w g t cs) (i : Nat) (u : Value) (hne : t ≠ e := by decide) : Sl (w.setCell ⟨g, i, none⟩ u) size A n c rows :=
  (own_far h hb i u hne).sl'
theorem VSl.far_ {w : World} {v : Va} {A1 A2 A3 : Option Addr} {n1 c1 n2 c2 n3 c3 b : Nat} (h : VSl w v A1 n1 c1 A2 n2 c2 A3 n3 c3) (h1 : ∀ a, A1 = some a → a.block ≠ b) (h2 : ∀ a, A2 = some a → a.block ≠ b) (h3 : ∀ a, A3 = some a → a.block ≠ b) (i : Nat) (u : Value) :
    VSl (w.setCell ⟨b, i, none⟩ u) v A1 n1 c1 A2 n2 c2 A3 n3 c3 := ⟨h.p.far (grown_setRow_cell w b i u) h1, h.i.far (grown_setRow_cell w b i u) h2, h.s.far (grown_setRow_cell w b i u) h3⟩
theorem re_done2 {w w2 : World} {v : Va} {B g b : Nat} {A1 A2 A3 : Option Addr} {n1 c1 n2 c2 n3 c3 : Nat} {k0 m0 : Int} {t0 : ByteArray} {x0 x1 x2 x3 : Value}
    (G : Blk w2 g 89 #[.int .i64 v.kind, .string v.text, .int .i64 v.count, .slice A1 n1 c1, .slice A2 n2 c2, .slice A3 n3 c3]) (R : Blk w2 b 95 #[x0, x1, x2, x3]) (N : VSl w2 v A1 n1 c1 A2 n2 c2 A3 n3 c3)
    (h1 : ∀ a, A1 = some a → a.block ≠ b) (h2 : ∀ a, A2 = some a → a.block ≠ b) (h3 : ∀ a, A3 = some a → a.block ≠ b) (T : Tp w2 A1 118 ∧ Tp w2 A2 9 ∧ Tp w2 A3 120) (q : Mov B w w2) (hb : B ≤ b) (hgb : g ≠ b) (hbw : w.heap.size ≤ b) :
    DoPost v ⟨k0, t0, m0, []⟩ B g w (.returned (.agg #[.int .i64 k0, .string t0, .int .i64 m0, .slice none 0 0])) ((((w2.setCell ⟨b, 0, none⟩ (.int .i64 k0)).setCell ⟨b, 1, none⟩ (.string t0)).setCell ⟨b, 2, none⟩ (.int .i64 m0)).setCell ⟨b, 3, none⟩ (.slice none 0 0)) ∧
    Blk ((((w2.setCell ⟨b, 0, none⟩ (.int .i64 k0)).setCell ⟨b, 1, none⟩ (.string t0)).setCell ⟨b, 2, none⟩ (.int .i64 m0)).setCell ⟨b, 3, none⟩ (.slice none 0 0)) b 95 #[.int .i64 k0, .string t0, .int .i64 m0, .slice none 0 0] := by
  have R1 := R.set' (i := 0) (u := .int .i64 k0) rfl
  have R2 := R1.set' (i := 1) (u := .string t0) rfl
  have R3 := R2.set' (i := 2) (u := .int .i64 m0) rfl
  have R4 := R3.set' (i := 3) (u := .slice none 0 0) rfl
  have N4 := (((N.far_ h1 h2 h3 0 (.int .i64 k0)).far_ h1 h2 h3 1 (.string t0)).far_ h1 h2 h3 2 (.int .i64 m0)).far_ h1 h2 h3 3 (.slice none 0 0)
  refine ⟨⟨A1, n1, c1, A2, n2, c2, A3, n3, c3, none, 0, 0, rfl, ?_, N4, Sl.nil_ _ _, ⟨((((T.1.set b 0 _).set b 1 _).set b 2 _).set b 3 _), ((((T.2.1.set b 0 _).set b 1 _).set b 2 _).set b 3 _), ((((T.2.2.set b 0 _).set b 1 _).set b 2 _).set b 3 _), Tp.none_⟩, ?_⟩, R4⟩
  · exact (((G.far (by simpa using hgb) _).far (by simpa using hgb) _).far (by simpa using hgb) _).far (by simpa using hgb) _
  · exact (((q.setN hb hbw 0 _).setN hb hbw 1 _).setN hb hbw 2 _).setN hb hbw 3 _
theorem cutA_block {b c k size : Nat} : ∀ a, cutA (some ⟨b, 0, none⟩) c k size = some a → a.block = b := by
  intro a h
  unfold cutA at h
  split at h
  · injection h with h; rw [← h]
  · simp [Addr.add_lit] at h; rw [← h]
end Go.Proofs.Ytgmojjclobkpjaa
