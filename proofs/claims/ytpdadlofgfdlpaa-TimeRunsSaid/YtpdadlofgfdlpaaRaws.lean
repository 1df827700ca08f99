/- Slices of Raw: opened, read; rostrumkeep.maker. -/
import Derived.Test.YtpdadlofgfdlpaaOpen
import Derived.Test.YtpdadlofgfdlpaaCommand
import Derived.Test.YtpdadlofgfdlpaaTrack
namespace Go.Proofs.Ytpdadlofgfdlpaa
set_option linter.all false
open Go.ChangeShapes Go.WideShapes Go.ChangeAt Go.RowKit
def rawRows (l : List RawD) : List (List Value) := l.map RawD.cells
structure RawAt (w : World) (b o : Nat) (r : RawD) : Prop where
  c0 : w.cell? ⟨b, o, none⟩ = some (.int .i64 r.kind)
  c1 : w.cell? ⟨b, o + 1, none⟩ = some (.int .i64 r.key)
  c2 : w.cell? ⟨b, o + 2, none⟩ = some (.int .i64 r.field)
  c3 : w.cell? ⟨b, o + 3, none⟩ = some (.int .i64 r.n)
  c4 : w.cell? ⟨b, o + 4, none⟩ = some (.string r.text)
theorem Sl.raw {w : World} {A : Option Addr} {n c : Nat} {l : List RawD} (h : Sl w 5 A n c (rawRows l)) {k : Nat} (hk : k < l.length) :
    ∃ b off, A = some ⟨b, off, none⟩ ∧ b < w.heap.size ∧ RawAt w b (off + k * 5) l[k] := by
  obtain ⟨b, off, e, hb, hc⟩ := h.seg.at_ (i := k) (by simpa [rawRows] using hk)
  have hc' : ∀ j u, l[k].cells[j]? = some u → w.cell? ⟨b, off + k * 5 + j, none⟩ = some u := by
    intro j u hu
    rw [Nat.add_assoc]
    exact hc j u (by simpa [rawRows] using hu)
  exact ⟨b, off, e, hb, hc' 0 _ rfl, hc' 1 _ rfl, hc' 2 _ rfl, hc' 3 _ rfl, hc' 4 _ rfl⟩
theorem RawAt.bl {w w' : World} {b o : Nat} {r : RawD} (h : RawAt w b o r) (hb : b < w.heap.size) (q : Below w.heap.size w w') : RawAt w' b o r := by
  obtain ⟨h0, h1, h2, h3, h4⟩ := h
  exact ⟨(q.cell (p := ⟨b, o, none⟩) hb).trans h0, (q.cell (p := ⟨b, o + 1, none⟩) hb).trans h1, (q.cell (p := ⟨b, o + 2, none⟩) hb).trans h2, (q.cell (p := ⟨b, o + 3, none⟩) hb).trans h3, (q.cell (p := ⟨b, o + 4, none⟩) hb).trans h4⟩
theorem raw_len {w : World} {A : Option Addr} {n c : Nat} {l : List RawD} (h : Sl w 5 A n c (rawRows l)) : l.length = n := by have := h.len; simpa [rawRows] using this
theorem raw_info : (Try.prog.info? 44).map (fun i => (i.zero, i.size, i.bytes)) = some (some (.agg #[.int .i64 0, .int .i64 0, .int .i64 0, .int .i64 0, .string ByteArray.empty]), 5, 48) := by kernel_rfl
theorem raw_size : (Try.prog.info? 44).map (·.size) = some 5 := by kernel_rfl
theorem raw_one : ∀ (l : List RawD), ∀ r ∈ rawRows l, ∀ u ∈ r, u.oneCell' = true := by
  intro l r hr u hu
  obtain ⟨x, _, rfl⟩ := List.mem_map.1 hr
  simp only [RawD.cells, List.mem_cons, List.not_mem_nil, or_false] at hu
  rcases hu with rfl | rfl | rfl | rfl | rfl <;> rfl
theorem rawRows_take (l : List RawD) (k : Nat) : (rawRows l).take k = rawRows (l.take k) := by simp [rawRows]
theorem rawRows_length (l : List RawD) : (rawRows l).length = l.length := by simp [rawRows]
section
variable {H : Type} {enc : TypeId × Value → H} {w : World} {base : Nat} {spare : Nat → Bool} {held : Bool} {v : Value} {d : DataW H} {p : List MemPlace}
set_option maxRecDepth 100000 in
theorem open_raws {r : Reach} {b0 : Nat} (hv : Value.okWide Try.prog w r b0 35 v) (h : DataW.Trod enc Try.prog w base spare held 35 v d p) :
    ∃ A n c, ∃ l : List RawD, v = .slice A n c ∧ (∀ x ∈ l, x.ok) ∧ Sl w 5 A n c (rawRows l) := by
  obtain ⟨a0, len, cap, rfl⟩ := okWide_slice Try.underlying35 hv
  obtain ⟨fuel, hf⟩ := h
  obtain ⟨A, n, c, rows, he, h3, h4⟩ := seg_of_slice 2 Try.underlying35 raw_atoms (by kernel_rfl) (by decide) hf
  obtain ⟨l, rfl, hl⟩ := rows_map fits_raw rows h3
  exact ⟨A, n, c, l, he, hl, h4⟩
end
def makeK (p : Int) : Int := if p = 0 then 1 else if p = 1 then 3 else if p = 2 then 4 else if p = 3 then 7 else if p = 4 then 11 else 14
def makerC (kind : Int) (r : RawD) : Cmd := cmdOf (makeK (picked kind 6) - 1) r.key r.field r.n r.text
theorem picked_self {k m : Int} (h0 : 0 ≤ k) (h1 : k < m) : picked k m = k := by
  unfold picked
  rw [if_neg (by omega)]
  exact Int.emod_eq_of_lt h0 h1
theorem makeK_in (p : Int) : 1 ≤ makeK p ∧ makeK p ≤ 14 := by unfold makeK; (repeat' split) <;> omega
theorem makerC_kind (kind : Int) (r : RawD) : (makerC kind r).kind = makeK (picked kind 6) := by
  have := makeK_in (picked kind 6)
  show 1 + picked (makeK (picked kind 6) - 1) 22 = _
  rw [picked_self (by omega) (by omega)]; omega
end Go.Proofs.Ytpdadlofgfdlpaa
