import Derived.Test.YtgmojjclobkpjaaCli
import Derived.Test.YtgmojjclobkpjaaEntD
/- client.ownReply, client.ownClients: replies and clients in memory of their own. -/
namespace Go.Proofs.Ytgmojjclobkpjaa
set_option linter.all false
open Go.RowKit
end Go.Proofs.Ytgmojjclobkpjaa
/- slices.IndexFunc at clients; client.Do$1; what a machine's block holds; the package variable client.nothing. -/
namespace Go.Proofs.Ytgmojjclobkpjaa
set_option linter.all false
open Go.RowKit
/-- A machine's block is written whole. -/
theorem whole_mach {w2 : World} {b : Nat} {x0 x1 x2 x3 : Value} (u0 u1 u2 u3 : Value) (R : Blk w2 b 41 #[x0, x1, x2, x3]) :
    Blk ((((w2.setCell ⟨b, 0, none⟩ (u0)).setCell ⟨b, 1, none⟩ (u1)).setCell ⟨b, 2, none⟩ (u2)).setCell ⟨b, 3, none⟩ (u3)) b 41 #[u0, u1, u2, u3] ∧ w2.grownBy ((((w2.setCell ⟨b, 0, none⟩ (u0)).setCell ⟨b, 1, none⟩ (u1)).setCell ⟨b, 2, none⟩ (u2)).setCell ⟨b, 3, none⟩ (u3)) (some b) ∧ ((((w2.setCell ⟨b, 0, none⟩ (u0)).setCell ⟨b, 1, none⟩ (u1)).setCell ⟨b, 2, none⟩ (u2)).setCell ⟨b, 3, none⟩ (u3)).heap.size = w2.heap.size := by
  have R0 := R.set' (i := 0) (u := u0) rfl
  have R1 := R0.set' (i := 1) (u := u1) rfl
  have R2 := R1.set' (i := 2) (u := u2) rfl
  have R3 := R2.set' (i := 3) (u := u3) rfl
  exact ⟨R3, grown_trans (grown_trans (grown_trans (grown_setRow_cell w2 b 0 u0) (grown_setRow_cell _ b 1 u1)) (grown_setRow_cell _ b 2 u2)) (grown_setRow_cell _ b 3 u3), by simp⟩
/-- The package variable that asks for the keys. -/
structure Noth (w : World) : Prop where
  lt : 0 < w.heap.size
  c0 : w.cell? ⟨0, 0, none⟩ = some (.int .i64 22)
  c1 : w.cell? ⟨0, 1, none⟩ = some (.string { data := #[] })
  c2 : w.cell? ⟨0, 2, none⟩ = some (.string { data := #[] })
  c3 : w.cell? ⟨0, 3, none⟩ = some (.string { data := #[] })
  c4 : w.cell? ⟨0, 4, none⟩ = some (.int .i64 0)
theorem Noth.bl {w w' : World} (h : Noth w) (hb : Below w.heap.size w w') : Noth w' :=
  ⟨Nat.lt_of_lt_of_le h.lt hb.size, (hb.cell (p := ⟨0, 0, none⟩) h.lt).trans h.c0, (hb.cell (p := ⟨0, 1, none⟩) h.lt).trans h.c1, (hb.cell (p := ⟨0, 2, none⟩) h.lt).trans h.c2, (hb.cell (p := ⟨0, 3, none⟩) h.lt).trans h.c3, (hb.cell (p := ⟨0, 4, none⟩) h.lt).trans h.c4⟩
theorem Noth.bl0 {w w' : World} (h : Noth w) (hb : Below 1 w w') : Noth w' :=
  ⟨Nat.lt_of_lt_of_le h.lt hb.size, (hb.cell (p := ⟨0, 0, none⟩) (by simp)).trans h.c0, (hb.cell (p := ⟨0, 1, none⟩) (by simp)).trans h.c1, (hb.cell (p := ⟨0, 2, none⟩) (by simp)).trans h.c2, (hb.cell (p := ⟨0, 3, none⟩) (by simp)).trans h.c3, (hb.cell (p := ⟨0, 4, none⟩) (by simp)).trans h.c4⟩
theorem Noth.al {w : World} (h : Noth w) (o : Obj) : Noth (w.alloc o) := h.bl ((Below.refl _ w).alloc (Nat.le_refl _) o)
theorem Noth.far {w w' : World} {g : Nat} (h : Noth w) (hg : w.grownBy w' (some g)) (h0 : 0 < g) : Noth w' :=
  h.bl0 (below_grow (Below.refl 1 w) hg h.lt h0)
end Go.Proofs.Ytgmojjclobkpjaa
