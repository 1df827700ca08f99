/- slices.Insert of one element, slices.Delete of one, on a slice of the call's own. -/
import Derived.Test.YtgmojjclobkpjaaOwn
import Derived.Test.YtgmojjclobkpjaaVal
import Derived.Lib.Overlaps
import Derived.Deep.RegionLaw
import Derived.Deep.DrawnRows
namespace Go.Proofs.Ytgmojjclobkpjaa
set_option linter.all false
open Go.RowKit
attribute [local go_sem ↓] Go.wp_at_zero Go.wp_at_succ
def insRows {α : Type} (l : List α) (i : Nat) (x : α) : List α := l.take i ++ [x] ++ l.drop i
def delRows {α : Type} (l : List α) (i : Nat) : List α := l.take i ++ l.drop (i + 1)
theorem ins_room {α : Type} (l : List α) (r x : α) {n i : Nat} (hn : l.length = n) (hi : i < n) :
    (((l ++ [r]).take (i + 1) ++ ((l ++ [r]).drop i).take (n - i) ++ (l ++ [r]).drop (i + 1 + (n - i))).take i ++ [x].take 1 ++ ((l ++ [r]).take (i + 1) ++ ((l ++ [r]).drop i).take (n - i) ++ (l ++ [r]).drop (i + 1 + (n - i))).drop (i + 1)) = insRows l i x := by
  subst hn
  have e1 : (l ++ [r]).take (i + 1) = l.take (i + 1) := by rw [List.take_append_of_le_length (by omega)]
  have e2 : ((l ++ [r]).drop i).take (l.length - i) = l.drop i := by
    rw [List.drop_append_of_le_length (by omega), List.take_append_of_le_length (by simp)]
    exact List.take_of_length_le (by simp)
  have e3 : (l ++ [r]).drop (i + 1 + (l.length - i)) = [] := List.drop_eq_nil_of_le (by simp; omega)
  rw [e1, e2, e3, List.append_nil]
  unfold insRows
  have e4 : (l.take (i + 1) ++ l.drop i).take i = l.take i := by
    rw [List.take_append_of_le_length (by simp; omega), List.take_take, Nat.min_eq_left (by omega)]
  have e5 : (l.take (i + 1) ++ l.drop i).drop (i + 1) = l.drop i := by
    rw [List.drop_append, List.drop_eq_nil_of_le (by simp; omega), List.nil_append]
    rw [List.length_take, Nat.min_eq_left (by omega), Nat.sub_self, List.drop_zero]
  rw [e4, e5]
  rfl
theorem ins_zero {α : Type} (l : List α) (z x : α) {n i : Nat} (hn : l.length = n) (hi : i < n) :
    ((l.take i ++ List.replicate (n + 1 - i) z).take i ++ [x].take 1 ++ (l.take i ++ List.replicate (n + 1 - i) z).drop (i + 1)).take (i + 1) ++ (l.drop i).take (n - i) ++ ((l.take i ++ List.replicate (n + 1 - i) z).take i ++ [x].take 1 ++ (l.take i ++ List.replicate (n + 1 - i) z).drop (i + 1)).drop (i + 1 + (n - i)) = insRows l i x := by
  subst hn
  have h1 : (l.take i ++ List.replicate (l.length + 1 - i) z).take i = l.take i := by
    rw [List.take_append_of_le_length (by simp; omega), List.take_take, Nat.min_self]
  have h2 : (l.take i ++ [x].take 1).length = i + 1 := by simp; omega
  rw [h1]
  have h3 : ∀ r : List α, (l.take i ++ [x].take 1 ++ r).take (i + 1) = l.take i ++ [x].take 1 := fun r => by
    rw [List.take_append_of_le_length (by omega), List.take_of_length_le (by omega)]
  have h4 : (l.drop i).take (l.length - i) = l.drop i := List.take_of_length_le (by simp)
  have h5 : (l.take i ++ [x].take 1 ++ (l.take i ++ List.replicate (l.length + 1 - i) z).drop (i + 1)).drop (i + 1 + (l.length - i)) = [] :=
    List.drop_eq_nil_of_le (by simp; omega)
  rw [h3, h4, h5, List.append_nil]
  rfl
def InsPost (w : World) (base : Nat) (T : TypeId) (size : Nat) (rows : List (List Value)) (blk : Option Nat) (e : Ending) (w' : World) : Prop :=
  ∃ A' n' c', e = .returned (.slice A' n' c') ∧ Own w' base T size (.slice A' n' c') rows ∧ w.grownBy w' blk
theorem Sl.grown {w w' : World} {size n c : Nat} {A : Option Addr} {rows : List (List Value)} (h : Sl w size A n c rows) (hg : w.grownBy w' none) : Sl w' size A n c rows :=
  h.below ⟨hg.os, hg.tape, hg.output, hg.size, fun k hk => hg.block k hk (by simp)⟩
theorem Sl.one_ {w : World} {b size : Nat} {T : TypeId} {row : Array Value} (h : Blk w b T row) (hl : row.size = size) : Sl w size (some ⟨b, 0, none⟩) 1 1 [row.toList] := by
  refine ⟨rfl, Nat.le_refl _, by simp [maxLen], by simp, fun _ => ⟨b, 0, rfl, h.lt, fun i r hi j u hu => ?_⟩, by simpa using hl⟩
  have hi0 : i = 0 := by
    rcases Nat.eq_zero_or_pos i with h' | h'
    · exact h'
    · rw [List.getElem?_eq_none (by simp; omega)] at hi; cases hi
  subst hi0
  simp only [List.getElem?_cons_zero, Option.some.injEq] at hi
  subst hi
  rw [h.cell, Nat.zero_mul, Nat.zero_add, Nat.zero_add, ← Array.getElem?_toList]
  exact hu
theorem Seg.far {w w' : World} {size g : Nat} {A : Option Addr} {rows : List (List Value)} (h : Seg w size A rows) (hg : w.grownBy w' (some g)) (hne : ∀ a, A = some a → a.block ≠ g) : Seg w' size A rows := fun hn => by
  obtain ⟨b, off, e, hb, hc⟩ := h hn
  refine ⟨b, off, e, Nat.lt_of_lt_of_le hb hg.size, fun i r hr j u hu => ?_⟩
  have hbg : b ≠ g := hne _ e
  rw [World.cell?_of_block (a := ⟨b, off + (i * size + j), none⟩) (hg.block b hb (by simpa using hbg))]
  exact hc i r hr j u hu
theorem Sl.far {w w' : World} {size n c g : Nat} {A : Option Addr} {rows : List (List Value)} (h : Sl w size A n c rows) (hg : w.grownBy w' (some g)) (hne : ∀ a, A = some a → a.block ≠ g) : Sl w' size A n c rows :=
  ⟨h.len, h.nc, h.cm, h.nil, h.seg.far hg hne, h.row⟩
theorem blk_shape {w : World} {b : Nat} {T : TypeId} {cs : Array Value} (h : w.heap[b]? = some (.cells cs T (0, 0))) : w.shape? b = some (T, cs.size) := by
  simp [World.shape?, h]
theorem pair_sz2 : (Try.prog.info? 118).map (·.size) = some 2 := by kernel_rfl
theorem pair_sz : (Try.prog.info? 118).map (·.size) = some 2 := by kernel_rfl
theorem score_sz2 : (Try.prog.info? 120).map (·.size) = some 2 := by kernel_rfl
theorem score_sz : (Try.prog.info? 120).map (·.size) = some 2 := by kernel_rfl
theorem text_sz2 : (Try.prog.info? 9).map (·.size) = some 1 := by kernel_rfl
theorem text_sz : (Try.prog.info? 9).map (·.size) = some 1 := by kernel_rfl
end Go.Proofs.Ytgmojjclobkpjaa
