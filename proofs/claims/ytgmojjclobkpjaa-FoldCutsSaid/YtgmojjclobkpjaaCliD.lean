/- client.open. -/
import Derived.Test.YtgmojjclobkpjaaCliO
import Derived.Test.YtgmojjclobkpjaaStoK
import Derived.BigQuiet
namespace Go.Proofs.Ytgmojjclobkpjaa
set_option linter.all false
open Go.RowKit
/-- Just a machine's block and clients' are written to, and what is new. -/
structure Mo (B g : Nat) (w w' : World) : Prop where
  q : Below B w w'
  size : w.heap.size ≤ w'.heap.size
  far : ∀ k t cs, k ≠ g → t ≠ 97 → Blk w k t cs → Blk w' k t cs
section
variable {w w' w'' : World} {B g : Nat} {t : TypeId} {cs : Array Value} {A : Option Addr} {n c : Nat}
theorem Mo.refl (B g : Nat) (w : World) : Mo B g w w := ⟨Below.refl _ _, Nat.le_refl _, fun _ _ _ _ _ h => h⟩
theorem Mo.trans (h : Mo B g w w') (k : Mo B g w' w'') : Mo B g w w'' := ⟨h.q.trans k.q, Nat.le_trans h.size k.size, fun i t cs h1 h2 hb => k.far i t cs h1 h2 (h.far i t cs h1 h2 hb)⟩
theorem Mo.of (h : Below w.heap.size w w') (hB : B ≤ w.heap.size) : Mo B g w w' := ⟨h.mono hB, h.size, fun _ _ _ _ _ hb => hb.below' h⟩
theorem Mo.blk (hg : w.grownBy w' (some g)) (hB : B ≤ g) (hw : B ≤ w.heap.size) : Mo B g w w' :=
  ⟨below_grow (Below.refl _ w) hg hw hB, hg.size, fun _ _ _ h1 _ hb => grown_blk hb hg h1⟩
theorem Mo.own {rows : List (List Value)} (h : Own w B 97 7 (.slice A n c) rows) (hg : w.grownBy w' (Value.slice A n c).ownBlock) (hw : B ≤ w.heap.size) : Mo B g w w' :=
  ⟨below_grown h hg hw, hg.size, fun _ _ _ _ h2 hb => blk_other hb h hg h2⟩
theorem Mo.fresh {k : Nat} (h : Mo B g w w') (hg : w'.grownBy w'' (some k)) (hz : w.heap.size ≤ k) (hB : B ≤ w.heap.size) : Mo B g w w'' :=
  ⟨below_grow h.q hg (Nat.le_trans hB h.size) (Nat.le_trans hB hz), Nat.le_trans h.size hg.size, fun j t cs h1 h2 hb => grown_blk (h.far j t cs h1 h2 hb) hg (by have := hb.lt; omega)⟩
theorem Mo.fr (h : Mo B g w w') (G : Blk w g 41 cs) : Fr w w' := ⟨h.size, fun k cs hb => h.far k _ cs (blk_ne hb G (by decide)) (by decide) hb, fun k cs hb => h.far k _ cs (blk_ne hb G (by decide)) (by decide) hb, fun k cs hb => h.far k _ cs (blk_ne hb G (by decide)) (by decide) hb⟩
theorem TxSl.mo {Y : Option Addr} {m d : Nat} {tx : List ByteArray} (h : TxSl w Y m d tx) (k : Mo B g w w') (G : Blk w g 41 cs) : TxSl w' Y m d tx := h.fr (k.fr G)
theorem St.mo {l : List En} (h : St w A n c l) (k : Mo B g w w') (G : Blk w g 41 cs) : St w' A n c l := by
  obtain ⟨⟨rows, h1, h2⟩, T⟩ := h
  exact ⟨⟨rows, h1.kept k.size fun a ha _ => by obtain ⟨cs, hc⟩ := T a ha; exact (k.far _ _ _ (blk_ne hc G (by decide)) (by decide) hc).trans hc.symm, h2.fr (k.fr G)⟩, fun a ha => by obtain ⟨cs, hc⟩ := T a ha; exact ⟨cs, k.far _ _ _ (blk_ne hc G (by decide)) (by decide) hc⟩⟩
end
def OpenPost (m : Mach) (g base : Nat) (A : Option Addr) (na ca : Nat) (w : World) (e : Ending) (w' : World) : Prop :=
  ∃ B' nb' cb', e = .returned (.agg #[.int .i64 (openM m).2.code, .string (openM m).2.text, .int .i64 (openM m).2.n, .slice none 0 0]) ∧ Blk w' g 41 #[.int .i64 m.now, .slice A na ca, .int .i64 (openM m).1.next, .slice B' nb' cb'] ∧ ClOwn w' base B' nb' cb' (openM m).1.clis ∧ Mo base g w w'
end Go.Proofs.Ytgmojjclobkpjaa
