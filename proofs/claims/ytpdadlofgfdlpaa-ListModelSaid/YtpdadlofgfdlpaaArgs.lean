/- The arguments of the laws: Raw, Deed and slices of them. -/
import Derived.Test.YtpdadlofgfdlpaaOpen
namespace Go.Proofs.Ytpdadlofgfdlpaa
set_option linter.all false
open Go.ChangeShapes Go.WideShapes Go.ChangeAt Go.RowKit
/-- An int of 64 bits. -/
def I64 (x : Int) : Prop := -9223372036854775808 ≤ x ∧ x ≤ 9223372036854775807
structure RawD where
  kind : Int
  key : Int
  field : Int
  n : Int
  text : ByteArray
def RawD.ok (r : RawD) : Prop := I64 r.kind ∧ I64 r.key ∧ I64 r.field ∧ I64 r.n ∧ r.text.size ≤ maxLen
def RawD.cells (r : RawD) : List Value := [.int .i64 r.kind, .int .i64 r.key, .int .i64 r.field, .int .i64 r.n, .string r.text]
def rawAtoms : List Atom := [.int .i64, .int .i64, .int .i64, .int .i64, .str]
theorem fits_cons {a : Atom} {l : List Atom} : ∀ {v : List Value}, Fits (a :: l) v → ∃ c cs, v = c :: cs ∧ Fit a c ∧ Fits l cs
  | [], h => h.elim
  | c :: cs, h => ⟨c, cs, rfl, h.1, h.2⟩
theorem fits_nil : ∀ {v : List Value}, Fits [] v → v = []
  | [], _ => rfl
  | _ :: _, h => h.elim
theorem fits_raw {l : List Value} (h : Fits rawAtoms l) : ∃ r : RawD, l = r.cells ∧ r.ok := by
  obtain ⟨_, _, rfl, ⟨a, rfl, ha⟩, h_1⟩ := fits_cons h
  obtain ⟨_, _, rfl, ⟨b, rfl, hb⟩, h_2⟩ := fits_cons h_1
  obtain ⟨_, _, rfl, ⟨c, rfl, hc⟩, h_3⟩ := fits_cons h_2
  obtain ⟨_, _, rfl, ⟨d, rfl, hd⟩, h_4⟩ := fits_cons h_3
  obtain ⟨_, _, rfl, ⟨s, rfl, hs⟩, h_5⟩ := fits_cons h_4
  obtain rfl := fits_nil h_5
  exact ⟨⟨a, b, c, d, s⟩, rfl, i64_bounds ha, i64_bounds hb, i64_bounds hc, i64_bounds hd, hs⟩
structure DeedD where
  client : Int
  off : Int
  wait : Int
  raw : RawD
def DeedD.ok (d : DeedD) : Prop := I64 d.client ∧ I64 d.off ∧ I64 d.wait ∧ d.raw.ok
def DeedD.cells (d : DeedD) : List Value := [.int .i64 d.client, .int .i64 d.off, .int .i64 d.wait, .int .i64 d.raw.kind, .int .i64 d.raw.key, .int .i64 d.raw.field, .int .i64 d.raw.n, .string d.raw.text]
def deedAtoms : List Atom := [.int .i64, .int .i64, .int .i64, .int .i64, .int .i64, .int .i64, .int .i64, .str]
theorem fits_deed {l : List Value} (h : Fits deedAtoms l) : ∃ d : DeedD, l = d.cells ∧ d.ok := by
  obtain ⟨_, _, rfl, ⟨x, rfl, hx⟩, h_1⟩ := fits_cons h
  obtain ⟨_, _, rfl, ⟨y, rfl, hy⟩, h_2⟩ := fits_cons h_1
  obtain ⟨_, _, rfl, ⟨z, rfl, hz⟩, h_3⟩ := fits_cons h_2
  obtain ⟨⟨a, b, c, d, s⟩, rfl, ha, hb, hc, hd, hs⟩ := fits_raw h_3
  exact ⟨⟨x, y, z, ⟨a, b, c, d, s⟩⟩, rfl, i64_bounds hx, i64_bounds hy, i64_bounds hz, ha, hb, hc, hd, hs⟩
theorem rows_map {α : Type} {l : List Atom} {cells : α → List Value} {ok : α → Prop} (hf : ∀ {c : List Value}, Fits l c → ∃ d, c = cells d ∧ ok d) :
    ∀ rows : List (List Value), (∀ r ∈ rows, Fits l r) → ∃ ds : List α, rows = ds.map cells ∧ ∀ d ∈ ds, ok d
  | [], _ => ⟨[], rfl, by simp⟩
  | r :: rows, h => by
    obtain ⟨d, rfl, hd⟩ := hf (h r (by simp))
    obtain ⟨ds, rfl, hds⟩ := rows_map hf rows fun r hr => h r (by simp [hr])
    exact ⟨d :: ds, rfl, by intro x hx; rcases List.mem_cons.1 hx with rfl | hx; exact hd; exact hds x hx⟩

section
variable {H : Type} {enc : TypeId × Value → H} {w : World} {base : Nat} {spare : Nat → Bool} {held : Bool} {v : Value} {d : DataW H} {p : List MemPlace}
set_option maxRecDepth 100000 in
theorem raw_atoms : atoms Try.prog 2 44 = some rawAtoms := by kernel_rfl
set_option maxRecDepth 100000 in
theorem open_raw {r : Reach} {b0 : Nat} (hv : Value.okWide Try.prog w r b0 44 v) (h : DataW.Trod enc Try.prog w base spare held 44 v d p) : ∃ x : RawD, v = .agg x.cells.toArray ∧ x.ok := by
  obtain ⟨⟨cs⟩, rfl, hf⟩ := open_flat 2 Try.underlying44 raw_atoms hv h
  obtain ⟨x, rfl, hx⟩ := fits_raw hf
  exact ⟨x, rfl, hx⟩
end
end Go.Proofs.Ytpdadlofgfdlpaa
