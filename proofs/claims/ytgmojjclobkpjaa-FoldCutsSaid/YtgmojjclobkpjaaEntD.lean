import Derived.Test.YtgmojjclobkpjaaIns
import Derived.Lib.Overlaps
import Derived.Deep.RegionLaw
import Derived.Deep.DrawnRows
import Derived.Test.YtgmojjclobkpjaaEnt
import Derived.Test.YtgmojjclobkpjaaOwn
/- slices.Insert of one element, slices.Delete of one, at entries and at clients, on a slice of the call's own. -/
namespace Go.Proofs.Ytgmojjclobkpjaa
set_option linter.all false
open Go.RowKit
attribute [local go_sem ↓] Go.wp_at_zero Go.wp_at_succ
theorem all_one {l : List Value} (h : (l.all fun u => u.oneCell') = true) : ∀ u ∈ l, u.oneCell' = true := List.all_eq_true.1 h
theorem ent_info : (Try.prog.info? 91).map (fun i => (i.zero, i.size, i.bytes)) = some (some (.agg #[.string ByteArray.empty, .int .i64 0, .string ByteArray.empty, .int .i64 0, .slice none 0 0, .slice none 0 0, .slice none 0 0, .int .i64 0]), 8, 128) := by kernel_rfl
theorem ent_sz2 : (Try.prog.info? 91).map (·.size) = some 8 := by kernel_rfl
theorem ent_sz : (Try.prog.info? 91).map (·.size) = some 8 := by kernel_rfl
theorem cli_info : (Try.prog.info? 97).map (fun i => (i.zero, i.size, i.bytes)) = some (some (.agg #[.int .i64 0, .int .i64 0, .int .i64 0, .int .i64 0, .string ByteArray.empty, .int .i64 0, .slice none 0 0]), 7, 80) := by kernel_rfl
theorem cli_sz2 : (Try.prog.info? 97).map (·.size) = some 7 := by kernel_rfl
end Go.Proofs.Ytgmojjclobkpjaa
/- slices.DeleteFunc at entries, on a slice of the call's own. -/
namespace Go.Proofs.Ytgmojjclobkpjaa
set_option linter.all false
open Go.RowKit
/-- 'clear(s[n:n+k])': spare rows of an own slice become zero. -/
theorem Own.wipes {P : Program} {w : World} {base g n cap size bytes k : Nat} {e t : TypeId} {z : Value} {rows : List (List Value)} (ht : P.underlying t = some (.slice e)) (hi : (P.info? e).map (fun i => (i.zero, i.size, i.bytes)) = some (some z, size, bytes)) (hzs : z.cells.size = size) (hsz : 0 < size) (hz1 : ∀ u ∈ z.cells.toList, u.oneCell' = true)
    (h : Own w base e size (.slice (some ⟨g, 0, none⟩) n cap) rows) (hk : 0 < k) (hin : n + k ≤ cap) :
    ∃ w', (∀ ty, (Builtin.clear_ #[t] ty #[.slice (cutA (some ⟨g, 0, none⟩) cap n size) k (cap - n)]).run P w = .ok (.tuple #[]) w') ∧
      Own w' base e size (.slice (some ⟨g, 0, none⟩) n cap) rows ∧ w.grownBy w' (some g) := by
  obtain ⟨m, rfl⟩ : ∃ m, k = m + 1 := ⟨k - 1, by omega⟩
  obtain ⟨ti, hi1, hi2, hi3, hi4⟩ := info_parts hi
  obtain ⟨hb, hn', hnc, hcm, cur, hc, hcs, hct⟩ := h.parts
  have hcl : cur.toList.length = cap * size := by simpa using hcs
  have hD : cutA (some ⟨g, 0, none⟩) cap n size = some ⟨g, n * size, none⟩ := by
    unfold cutA
    rw [if_neg (by omega)]
    simp [Addr.add_lit]
  have hms : (n + (m + 1)) * size ≤ cap * size := Nat.mul_le_mul_right _ hin
  rw [Nat.add_mul] at hms
  have hzl := zeroCells_flat z.cells (m + 1) (by omega)
  have hrl : ∀ r ∈ List.replicate (m + 1) z.cells.toList, r.length = size := fun r hr => by rw [(List.mem_replicate.1 hr).2]; simpa using hzs
  have hfl : (List.replicate (m + 1) z.cells.toList).flatten.length = (m + 1) * size := by rw [flatten_length hrl, List.length_replicate]
  have hf1 : ∀ u ∈ (List.replicate (m + 1) z.cells.toList).flatten, u.oneCell' = true := by
    intro u hu
    obtain ⟨r, hr, hur⟩ := List.mem_flatten.1 hu
    rw [(List.mem_replicate.1 hr).2] at hur
    exact hz1 u hur
  generalize (List.replicate (m + 1) z.cells.toList).flatten = Z at *
  have hst := run_storeCells_at P g (n * size) e Z 0 cur w hc (by omega) hf1
  refine ⟨_, fun ty => ?_, ?_, grown_setRow w g (cur.toList.take (n * size + 0) ++ Z ++ cur.toList.drop (n * size + 0 + Z.length)).toArray⟩
  · simp [Builtin.clear_, run_underlying ht, hD, zeroValue, typeInfo, hi1, hi2, hzl, hst]
  · have := Own.put (e := e) (cur' := (cur.toList.take (n * size + 0) ++ Z ++ cur.toList.drop (n * size + 0 + Z.length)).toArray) hb hc hcm (by simp only [List.size_toArray, List.length_append, List.length_take, List.length_drop]; omega) h.2 (by omega) (by
      rw [← hn', ← hct, List.append_assoc, Nat.add_zero, List.take_append, List.take_take, Nat.min_self, List.length_take, Nat.min_eq_left (by omega), Nat.sub_self, List.take_zero, List.append_nil])
    rw [← hn'] at this
    exact this
theorem Own.row8 {w : World} {B g n c i : Nat} {e : TypeId} {rows : List (List Value)} (h : Own w B e 8 (.slice (some ⟨g, 0, none⟩) n c) rows) (hi : i < rows.length) (u0 u1 u2 u3 u4 u5 u6 u7 : Value) :
    Own ((((((((w.setCell ⟨g, i * 8, none⟩ u0).setCell ⟨g, i * 8 + 1, none⟩ u1).setCell ⟨g, i * 8 + 2, none⟩ u2).setCell ⟨g, i * 8 + 3, none⟩ u3).setCell ⟨g, i * 8 + 4, none⟩ u4).setCell ⟨g, i * 8 + 5, none⟩ u5).setCell ⟨g, i * 8 + 6, none⟩ u6).setCell ⟨g, i * 8 + 7, none⟩ u7)
      B e 8 (.slice (some ⟨g, 0, none⟩) n c) (rows.set i [u0, u1, u2, u3, u4, u5, u6, u7]) := by
  have hl := h.2 _ (List.getElem_mem hi)
  have s0 := h.store (i := i) (j := 0) (u := u0) hi (by omega)
  have s1 := s0.store (i := i) (j := 1) (u := u1) (by simpa using hi) (by omega)
  have s2 := s1.store (i := i) (j := 2) (u := u2) (by simpa using hi) (by omega)
  have s3 := s2.store (i := i) (j := 3) (u := u3) (by simpa using hi) (by omega)
  have s4 := s3.store (i := i) (j := 4) (u := u4) (by simpa using hi) (by omega)
  have s5 := s4.store (i := i) (j := 5) (u := u5) (by simpa using hi) (by omega)
  have s6 := s5.store (i := i) (j := 6) (u := u6) (by simpa using hi) (by omega)
  have s7 := s6.store (i := i) (j := 7) (u := u7) (by simpa using hi) (by omega)
  simp only [List.getElem_set_self, List.set_set] at s7
  generalize rows[i] = r at hl s7
  match r, hl with
  | [y0, y1, y2, y3, y4, y5, y6, y7], _ => exact s7
theorem eight {r : List Value} (h : r.length = 8) : ∃ y0 y1 y2 y3 y4 y5 y6 y7, r = [y0, y1, y2, y3, y4, y5, y6, y7] := by
  match r, h with
  | [y0, y1, y2, y3, y4, y5, y6, y7], _ => exact ⟨_, _, _, _, _, _, _, _, rfl⟩
theorem take_set_next {α : Type} {l : List α} {i : Nat} (hi : i < l.length) (x : α) : (l.set i x).take (i + 1) = l.take i ++ [x] := by
  rw [List.take_succ_eq_append_getElem (by simpa using hi), List.getElem_set_self, List.take_set_of_le (Nat.le_refl _)]
/-- Blocks below B stay; those of another type than Entry do. -/
structure EMov (B : Nat) (w w' : World) : Prop where
  bel : Below B w w'
  frm : ∀ k t cs, Blk w k t cs → t ≠ 91 → Blk w' k t cs
section
variable {w w' w'' : World} {B g : Nat} {t : TypeId} {cs : Array Value}
theorem EMov.refl (B : Nat) (w : World) : EMov B w w := ⟨Below.refl _ _, fun _ _ _ h _ => h⟩
theorem EMov.of (h : Below w.heap.size w w') (hB : B ≤ w.heap.size) : EMov B w w' := ⟨h.mono hB, fun _ _ _ hb _ => hb.below' h⟩
theorem EMov.trans (h : EMov B w w') (k : EMov B w' w'') : EMov B w w'' := ⟨h.bel.trans k.bel, fun b t cs hb h1 => k.frm b t cs (h.frm b t cs hb h1) h1⟩
theorem EMov.size (h : EMov B w w') : w.heap.size ≤ w'.heap.size := h.bel.size
theorem EMov.next (h : EMov B w w') (hB : B ≤ w.heap.size) (k : Below w'.heap.size w' w'') : EMov B w w'' := h.trans (EMov.of k (by have := h.size; omega))
theorem EMov.own {n c : Nat} {size : Nat} {A : Option Addr} {rows : List (List Value)} (h : Own w B 91 size (.slice A n c) rows) (hg : w.grownBy w' (Value.slice A n c).ownBlock) (hB : B ≤ w.heap.size) : EMov B w w' :=
  ⟨below_grown h hg hB, fun _ _ _ hb h1 => blk_other hb h hg h1⟩
theorem EMov.fr (h : EMov B w w') : Fr w w' := ⟨h.size, fun k cs hb => h.frm k _ cs hb (by decide), fun k cs hb => h.frm k _ cs hb (by decide), fun k cs hb => h.frm k _ cs hb (by decide)⟩
end
theorem ent_info_z : (Try.prog.info? 91).map (fun i => (i.zero, i.size, i.bytes)) = some (some (.agg #[.string ByteArray.empty, .int .i64 0, .string ByteArray.empty, .int .i64 0, .slice none 0 0, .slice none 0 0, .slice none 0 0, .int .i64 0]), 8, 128) := ent_info
end Go.Proofs.Ytgmojjclobkpjaa
