/- A whole struct stored into a block: what it leaves. -/
import Derived.Test.YtpdadlofgfdlpaaDone
namespace Go.Proofs.Ytpdadlofgfdlpaa
set_option linter.all false
open Go.RowKit
/-- Block b is written whole. -/
theorem whole_value {w2 : World} {b : Nat} {x0 x1 x2 x3 x4 x5 : Value} (u0 u1 u2 u3 u4 u5 : Value) (R : Blk w2 b 40 #[x0, x1, x2, x3, x4, x5]) :
    Blk ((((((w2.setCell ⟨b, 0, none⟩ (u0)).setCell ⟨b, 1, none⟩ (u1)).setCell ⟨b, 2, none⟩ (u2)).setCell ⟨b, 3, none⟩ (u3)).setCell ⟨b, 4, none⟩ (u4)).setCell ⟨b, 5, none⟩ (u5)) b 40 #[u0, u1, u2, u3, u4, u5] ∧ w2.grownBy ((((((w2.setCell ⟨b, 0, none⟩ (u0)).setCell ⟨b, 1, none⟩ (u1)).setCell ⟨b, 2, none⟩ (u2)).setCell ⟨b, 3, none⟩ (u3)).setCell ⟨b, 4, none⟩ (u4)).setCell ⟨b, 5, none⟩ (u5)) (some b) ∧ ((((((w2.setCell ⟨b, 0, none⟩ (u0)).setCell ⟨b, 1, none⟩ (u1)).setCell ⟨b, 2, none⟩ (u2)).setCell ⟨b, 3, none⟩ (u3)).setCell ⟨b, 4, none⟩ (u4)).setCell ⟨b, 5, none⟩ (u5)).heap.size = w2.heap.size := by
  have R0 := R.set' (i := 0) (u := u0) rfl
  have R1 := R0.set' (i := 1) (u := u1) rfl
  have R2 := R1.set' (i := 2) (u := u2) rfl
  have R3 := R2.set' (i := 3) (u := u3) rfl
  have R4 := R3.set' (i := 4) (u := u4) rfl
  have R5 := R4.set' (i := 5) (u := u5) rfl
  exact ⟨R5, (grown_trans (grown_trans (grown_trans (grown_trans (grown_trans (grown_setRow_cell w2 b 0 u0) (grown_setRow_cell _ b 1 u1)) (grown_setRow_cell _ b 2 u2)) (grown_setRow_cell _ b 3 u3)) (grown_setRow_cell _ b 4 u4)) (grown_setRow_cell _ b 5 u5)), by simp⟩
/-- Block b is written whole. -/
theorem whole_reply {w2 : World} {b : Nat} {x0 x1 x2 x3 : Value} (u0 u1 u2 u3 : Value) (R : Blk w2 b 49 #[x0, x1, x2, x3]) :
    Blk ((((w2.setCell ⟨b, 0, none⟩ (u0)).setCell ⟨b, 1, none⟩ (u1)).setCell ⟨b, 2, none⟩ (u2)).setCell ⟨b, 3, none⟩ (u3)) b 49 #[u0, u1, u2, u3] ∧ w2.grownBy ((((w2.setCell ⟨b, 0, none⟩ (u0)).setCell ⟨b, 1, none⟩ (u1)).setCell ⟨b, 2, none⟩ (u2)).setCell ⟨b, 3, none⟩ (u3)) (some b) ∧ ((((w2.setCell ⟨b, 0, none⟩ (u0)).setCell ⟨b, 1, none⟩ (u1)).setCell ⟨b, 2, none⟩ (u2)).setCell ⟨b, 3, none⟩ (u3)).heap.size = w2.heap.size := by
  have R0 := R.set' (i := 0) (u := u0) rfl
  have R1 := R0.set' (i := 1) (u := u1) rfl
  have R2 := R1.set' (i := 2) (u := u2) rfl
  have R3 := R2.set' (i := 3) (u := u3) rfl
  exact ⟨R3, (grown_trans (grown_trans (grown_trans (grown_setRow_cell w2 b 0 u0) (grown_setRow_cell _ b 1 u1)) (grown_setRow_cell _ b 2 u2)) (grown_setRow_cell _ b 3 u3)), by simp⟩
theorem grown_blk {w w' : World} {g k : Nat} {t : TypeId} {cs : Array Value} (h : Blk w k t cs) (hg : w.grownBy w' (some g)) (hne : k ≠ g) : Blk w' k t cs := (hg.block k h.lt (by simpa using hne)).trans h
theorem grown_vsl {w w' : World} {g : Nat} {v : Va} {t : TypeId} {cs : Array Value} {A1 A2 A3 : Option Addr} {n1 c1 n2 c2 n3 c3 : Nat} (h : VSl w v A1 n1 c1 A2 n2 c2 A3 n3 c3) (T : Tp w A1 114 ∧ Tp w A2 9 ∧ Tp w A3 116) (R : Blk w g t cs) (hg : w.grownBy w' (some g))
    (h1 : 114 ≠ t := by decide) (h2 : 9 ≠ t := by decide) (h3 : 116 ≠ t := by decide) : VSl w' v A1 n1 c1 A2 n2 c2 A3 n3 c3 :=
  ⟨h.p.far hg (T.1.ne R h1), h.i.far hg (T.2.1.ne R h2), h.s.far hg (T.2.2.ne R h3)⟩
theorem grown_tp {w w' : World} {g : Nat} {A : Option Addr} {t t' : TypeId} {cs : Array Value} (h : Tp w A t) (R : Blk w g t' cs) (hg : w.grownBy w' (some g)) (hne : t ≠ t' := by decide) : Tp w' A t := fun a ha => by
  obtain ⟨cs', h'⟩ := h a ha
  exact ⟨cs', grown_blk h' hg (blk_ne h' R hne)⟩
theorem below_grow {B : Nat} {a w w' : World} {g : Nat} (h : Below B a w) (hg : w.grownBy w' (some g)) (hB : B ≤ w.heap.size) (hb : B ≤ g) : Below B a w' := h.grown hg hB (fun k hk => by injection hk with hk; omega)
end Go.Proofs.Ytpdadlofgfdlpaa
