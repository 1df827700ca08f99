/- Slices of items: Clone. -/
import Derived.Test.YtgpkgegpcgiokaaGreatDoorCall
import Derived.Test.YtgpkgegpcgiokaaGreatDoorOwn
namespace Go.Proofs.YtgpkgegpcgiokaaGreatDoor
set_option linter.all false
open Go.RowKit
theorem item_info : (Tryz.prog.info? 68).map (fun i => (i.zero, i.size, i.bytes)) = some (some (.agg #[.int .i64 0, .int .i64 0, .bool false, .int .i64 0, .int .i64 0, .int .i64 0, .string ByteArray.empty, .string ByteArray.empty, .string ByteArray.empty, .int .i64 0]), 10, 104) := by kernel_rfl
/-- The ten cells of an item at an address. -/
structure ItemAt (w : World) (b o : Nat) (x : Itm) : Prop where
  c0 : w.cell? ⟨b, o, none⟩ = some (.int .i64 x.term)
  c1 : w.cell? ⟨b, o + 1, none⟩ = some (.int .i64 x.time)
  c2 : w.cell? ⟨b, o + 2, none⟩ = some (.bool x.nop)
  c3 : w.cell? ⟨b, o + 3, none⟩ = some (.int .i64 x.client)
  c4 : w.cell? ⟨b, o + 4, none⟩ = some (.int .i64 x.seq)
  c5 : w.cell? ⟨b, o + 5, none⟩ = some (.int .i64 x.cmd.kind)
  c6 : w.cell? ⟨b, o + 6, none⟩ = some (.string x.cmd.key)
  c7 : w.cell? ⟨b, o + 7, none⟩ = some (.string x.cmd.field)
  c8 : w.cell? ⟨b, o + 8, none⟩ = some (.string x.cmd.text)
  c9 : w.cell? ⟨b, o + 9, none⟩ = some (.int .i64 x.cmd.n)
def itemRows (l : List Itm) : List (List Value) := l.map Itm.cells
theorem Sl.item {w : World} {A : Option Addr} {n c : Nat} {l : List Itm} (h : Sl w 10 A n c (itemRows l)) {k : Nat} (hk : k < l.length) :
    ∃ b off, A = some ⟨b, off, none⟩ ∧ b < w.heap.size ∧ ItemAt w b (off + k * 10) l[k] := by
  obtain ⟨b, off, e, hb, hc⟩ := h.seg.at_ (i := k) (by simpa [itemRows] using hk)
  have hc' : ∀ j u, l[k].cells[j]? = some u → w.cell? ⟨b, off + k * 10 + j, none⟩ = some u := by
    intro j u hu
    rw [Nat.add_assoc]
    exact hc j u (by simpa [itemRows] using hu)
  exact ⟨b, off, e, hb, hc' 0 _ rfl, hc' 1 _ rfl, hc' 2 _ rfl, hc' 3 _ rfl, hc' 4 _ rfl, hc' 5 _ rfl, hc' 6 _ rfl, hc' 7 _ rfl, hc' 8 _ rfl, hc' 9 _ rfl⟩
theorem item_cells_one (x : Itm) : ∀ u ∈ x.cells, u.oneCell' = true := by
  intro u hu
  simp only [Itm.cells, List.mem_cons, List.not_mem_nil, or_false] at hu
  rcases hu with rfl | rfl | rfl | rfl | rfl | rfl | rfl | rfl | rfl | rfl <;> rfl
theorem item_one : ∀ (l : List Itm), ∀ r ∈ itemRows l, ∀ u ∈ r, u.oneCell' = true := by
  intro l r hr u hu
  obtain ⟨x, _, rfl⟩ := List.mem_map.1 hr
  simp only [Itm.cells, List.mem_cons, List.not_mem_nil, or_false] at hu
  rcases hu with rfl | rfl | rfl | rfl | rfl | rfl | rfl | rfl | rfl | rfl <;> rfl
theorem Clone_item (A : Option Addr) (n c : Nat) (rows : List (List Value)) (w : World) (h : Sl w 10 A n c rows) (h1 : ∀ r ∈ rows, ∀ u ∈ r, u.oneCell' = true) (hb : n * 104 ≤ 140737488355328) :
    Calls Tryz.prog 101 #[.slice A n c] w fun e w' => ∃ v, e = .returned v ∧ Own w' w.heap.size 68 10 v rows ∧ Below w.heap.size w w' := by
  have hS := h
  obtain ⟨hl, hnc, hcm, hn0, hs, hr⟩ := h
  have hq := fun w => Lib.run_eql_slice_nil (P := Tryz.prog) w 71 68 A n c 0 0 Tryz.underlying71
  cases A with
  | none =>
    obtain rfl := hn0 rfl
    obtain rfl : n = 0 := by omega
    obtain rfl := List.eq_nil_of_length_eq_zero hl
    go_enter Tryz.func101, Tryz.ntmps101
    go_wp2_with fail
    go_ret
    exact ⟨_, rfl, Own.nil, below_by⟩
  | some a =>
    by_cases hn : n = 0
    · subst hn
      obtain rfl := List.eq_nil_of_length_eq_zero hl
      go_enter Tryz.func101, Tryz.ntmps101
      go_wp2_with fail
      go_ret
      exact ⟨_, rfl, Own.empty _ _ _ (Nat.le_refl _), below_by⟩
    · go_enter Tryz.func101, Tryz.ntmps101
      go_wp2_with (at_builtin; refine wpList_grow rfl _ _ _ rfl Tryz.underlying71 item_info rfl (by decide) (rows := []) rfl rfl (by simp) Seg.nil (by simp) rfl hl hr (hs.alloc _) h1 (by omega) (by omega) (by rw [Nat.zero_add]; omega) (by omega) ?_; intro v' w1 hown hb1)
      go_ret
      exact ⟨_, rfl, by simpa using hown.mono (by simp), bstep below_by hb1⟩
end Go.Proofs.YtgpkgegpcgiokaaGreatDoor
