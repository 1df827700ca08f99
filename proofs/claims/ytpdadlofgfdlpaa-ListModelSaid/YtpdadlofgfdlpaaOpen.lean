/- Arguments opened: a flat struct by value, a slice of flat structs, by the cells' kinds, whatever the nesting. -/
import Derived.Test.YtpdadlofgfdlpaaLaw
import Derived.Test.YtpdadlofgfdlpaaOwn
namespace Go.Proofs.Ytpdadlofgfdlpaa
set_option linter.all false
open Go.ChangeShapes Go.WideShapes Go.ChangeAt Go.RowKit

inductive Atom where
  | int (k : IntKind)
  | str
  | bool
  deriving DecidableEq

def Fit : Atom → Value → Prop
  | .int k, v => ∃ n, v = .int k n ∧ (Lit.int k n).wf = true
  | .str, v => ∃ s : ByteArray, v = .string s ∧ s.size ≤ maxLen
  | .bool, v => ∃ b, v = .bool b
def Fits : List Atom → List Value → Prop
  | [], [] => True
  | a :: l, v :: vs => Fit a v ∧ Fits l vs
  | _, _ => False

def structAtoms (P : Program) (f : TypeId → Option (List Atom)) : List Field → Nat → Option (List Atom)
  | [], _ => some []
  | fd :: fs, off =>
    match f fd.type with
    | some l =>
      if fd.offset = off ∧ l.length = P.cellsOf fd.type then
        match structAtoms P f fs (off + l.length) with
        | some r => some (l ++ r)
        | none => none
      else none
    | none => none
def atoms (P : Program) : Nat → TypeId → Option (List Atom)
  | 0, _ => none
  | n + 1, t =>
    match P.underlying t with
    | some .bool => some [.bool]
    | some (.int k) => some [.int k]
    | some .string => some [.str]
    | some (.struct fs) =>
      match structAtoms P (atoms P n) fs.toList 0 with
      | some l => if l.length = P.cellsOf t then some l else none
      | none => none
    | _ => none

theorem Fits.append : ∀ {l r : List Atom} {cs : List Value} {k : Nat}, l.length = k → Fits l (cs.take k) → Fits r (cs.drop k) → Fits (l ++ r) cs
  | [], r, cs, _, hk, _, h2 => by subst hk; simpa using h2
  | a :: l, r, [], _, hk, h1, _ => by subst hk; simp [Fits] at h1
  | a :: l, r, c :: cs, _, hk, h1, h2 => by
    subst hk
    simp only [List.length_cons, List.take_succ_cons, List.drop_succ_cons] at h1 h2
    exact ⟨h1.1, Fits.append rfl h1.2 h2⟩

theorem Fits.length : ∀ {l : List Atom} {cs : List Value}, Fits l cs → cs.length = l.length
  | [], [], _ => rfl
  | _ :: _, _ :: _, h => by simp [Fits.length h.2]
  | [], _ :: _, h => h.elim
  | _ :: _, [], h => h.elim

section
variable {H : Type} {enc : TypeId × Value → H} {P : Program} {w : World} {base : Nat} {spare : Nat → Bool} {held : Bool}
theorem structAtoms_fits {f : TypeId → Option (List Atom)} {cs : List Value} {n : Nat}
    (hf : ∀ t l cs x, f t = some l → DataW.trod enc P w base spare held n t cs = some x → Fits l cs) :
    ∀ (fs : List Field) (off : Nat) (l : List Atom), structAtoms P f fs off = some l → (∀ fd ∈ fs, ∃ x, DataW.trod enc P w base spare held n fd.type ((cs.drop fd.offset).take (P.cellsOf fd.type)) = some x) →
      (cs.drop off).length = l.length → Fits l (cs.drop off)
  | [], off, l, h, _, hl => by
    simp only [structAtoms, Option.some.injEq] at h
    subst h
    rw [List.eq_nil_of_length_eq_zero hl]
    trivial
  | fd :: fs, off, l, h, hx, hl => by
    unfold structAtoms at h
    split at h
    · rename_i l1 h1
      split at h
      · rename_i hc
        split at h
        · rename_i r h2
          simp only [Option.some.injEq] at h
          subst h
          obtain ⟨x, hx1⟩ := hx fd (by simp)
          rw [hc.1, ← hc.2] at hx1
          have i1 := hf _ _ _ _ h1 hx1
          have i2 := structAtoms_fits hf fs (off + l1.length) r h2 (fun g hg => hx g (by simp [hg])) (by
            rw [← List.drop_drop, List.length_drop, hl, List.length_append]; omega)
          rw [← List.drop_drop] at i2
          exact Fits.append rfl i1 i2
        · cases h
      · cases h
    · cases h

theorem atoms_fits : ∀ (m : Nat) (t : TypeId) (l : List Atom) (fuel : Nat) (cs : List Value) (x : DataW H × List MemPlace), atoms P m t = some l → DataW.trod enc P w base spare held fuel t cs = some x → Fits l cs
  | 0, _, _, _, _, _, h, _ => by simp [atoms] at h
  | m + 1, t, l, fuel, cs, x, h, hx => by
    unfold atoms at h
    split at h
    · rename_i ht
      obtain ⟨b, rfl, _⟩ := DataW.trod_bool ht hx
      simp only [Option.some.injEq] at h
      subst h
      exact ⟨⟨b, rfl⟩, trivial⟩
    · rename_i k ht
      obtain ⟨n, rfl, _, hw⟩ := DataW.trod_int ht hx
      simp only [Option.some.injEq] at h
      subst h
      exact ⟨⟨n, rfl, hw⟩, trivial⟩
    · rename_i ht
      obtain ⟨s, rfl, _, hs⟩ := DataW.trod_string ht hx
      simp only [Option.some.injEq] at h
      subst h
      exact ⟨⟨s, rfl, hs⟩, trivial⟩
    · rename_i fs ht
      split at h
      · rename_i l1 h1
        split at h
        · rename_i hlen
          simp only [Option.some.injEq] at h
          subst h
          obtain ⟨xs, n, rfl, _, hcs, hxl, hf⟩ := DataW.trod_struct ht hx
          have := structAtoms_fits (cs := cs) (n := n) (fun t l cs x h hx => atoms_fits m t l n cs x h hx) fs.toList 0 l1 h1 (fun fd hfd => by
            obtain ⟨j, hj, rfl⟩ := List.getElem_of_mem hfd
            have hj' : j < fs.size := by simpa using hj
            have hh := hf j fs.toList[j] (by rw [← Array.getElem?_toList]; exact List.getElem?_eq_getElem hj)
            rw [hh, List.getElem?_eq_getElem (by omega)]
            exact ⟨_, rfl⟩) (by simp [hcs, hlen])
          simpa using this
        · cases h
      · cases h
    · cases h

/-- A flat struct that comes by value. -/
theorem open_flat {r : Reach} {b0 : Nat} {t : TypeId} {fs : Array Field} {l : List Atom} {v : Value} {d : DataW H} {p : List MemPlace} (m : Nat) (hs : P.underlying t = some (.struct fs)) (ha : atoms P m t = some l)
    (hv : Value.okWide P w r b0 t v) (h : DataW.Trod enc P w base spare held t v d p) : ∃ cs, v = .agg cs ∧ Fits l cs.toList := by
  obtain ⟨cs, rfl, _⟩ := okWide_struct hs hv
  obtain ⟨fuel, hf⟩ := h
  exact ⟨cs, rfl, atoms_fits m t l fuel _ _ ha hf⟩

theorem add_plain {a : Addr} {n : Nat} (ha : a.spot = none) : a.add n = ⟨a.block, a.off + n, none⟩ := by
  unfold Addr.add
  split
  · rename_i h; subst h; cases a; simp_all
  · rfl
theorem cell_spot {a : Addr} {v : Value} (h : w.cell? a = some v) : a.spot = none := by
  unfold World.cell? at h
  split at h
  · cases hs : a.spot with
    | none => rfl
    | some s => rw [hs] at h; simp at h
  · cases h
theorem cell_lt {a : Addr} {v : Value} (h : w.cell? a = some v) : a.block < w.heap.size := by
  rcases Nat.lt_or_ge a.block w.heap.size with hl | hl
  · exact hl
  · unfold World.cell? at h; rw [Array.getElem?_eq_none hl] at h; cases h

/-- A slice of flat elements: each element's cells, in order. -/
theorem seg_of_slice {t e : TypeId} {l : List Atom} {fuel : Nat} {v : Value} {x : DataW H × List MemPlace} (m : Nat) (hs : P.underlying t = some (.slice e)) (ha : atoms P m e = some l) (hl : l.length = P.cellsOf e) (h0 : 0 < l.length)
    (h : DataW.trod enc P w base spare held fuel t [v] = some x) :
    ∃ A n c rows, v = .slice A n c ∧ (∀ r ∈ rows, Fits l r) ∧ Sl w l.length A n c rows := by
  rcases DataW.trod_slice hs h with ⟨hv, _⟩ | ⟨a, len, cap, elems, rest, n, _, hv, _, _, hlc, hcm, hel, hcell, _⟩
  · injection hv with hv
    exact ⟨none, 0, 0, [], hv, by simp, Sl.nil_ w _⟩
  · injection hv with hv
    have hrow : ∀ i, i < len → ∃ cs, w.cells? base (a.add (i * P.cellsOf e)) (P.cellsOf e) = some cs ∧ Fits l cs := by
      intro i hi
      have := hcell i hi
      rw [List.getElem?_eq_getElem (by omega)] at this
      obtain ⟨cs, h1, h2⟩ := Option.bind_eq_some_iff.1 this
      exact ⟨cs, h1, atoms_fits m e l n cs _ ha h2⟩
    have hfit : ∀ r ∈ (List.range len).map fun i => (w.cells? base (a.add (i * P.cellsOf e)) (P.cellsOf e)).getD [], Fits l r := by
      intro r hr
      obtain ⟨i, hi, rfl⟩ := List.mem_map.1 hr
      obtain ⟨cs, h1, h2⟩ := hrow i (List.mem_range.1 hi)
      rw [h1]
      exact h2
    refine ⟨some a, len, cap, (List.range len).map fun i => (w.cells? base (a.add (i * P.cellsOf e)) (P.cellsOf e)).getD [], hv, hfit, by simp, hlc, hcm, by simp, ?_, fun r hr => (hfit r hr).length⟩
    · intro hn
      have hn : 0 < len := by simpa using hn
      have key : ∀ i, i < len → ∀ j, j < l.length → ∃ u, w.cell? ((a.add (i * P.cellsOf e)).add j) = some u ∧ ((w.cells? base (a.add (i * P.cellsOf e)) (P.cellsOf e)).getD [])[j]? = some u := by
        intro i hi j hj
        obtain ⟨cs, h1, h2⟩ := hrow i hi
        obtain ⟨_, hcl, hat⟩ := World.cells?_some h1
        have hj' : j < cs.length := by rw [h2.length]; exact hj
        refine ⟨cs[j], ?_, ?_⟩
        · rw [hat j (by omega), List.getElem?_eq_getElem hj']
        · rw [h1]; simp [hj']
      have hspot : a.spot = none := by
        obtain ⟨u, h1, _⟩ := key 0 hn 0 h0
        rw [Nat.zero_mul] at h1
        exact cell_spot (by simpa [Addr.add] using h1)
      refine ⟨a.block, a.off, ?_, ?_, ?_⟩
      · cases a; simp_all
      · obtain ⟨u, h1, _⟩ := key 0 hn 0 h0
        have := cell_lt h1
        rw [add_plain hspot] at this
        simpa [Addr.add] using this
      · intro i r hr j u hu
        rw [List.getElem?_map] at hr
        have hi : i < len := by
          rcases Nat.lt_or_ge i len with h' | h'
          · exact h'
          · rw [List.getElem?_eq_none (by simpa using h')] at hr; cases hr
        rw [List.getElem?_range hi] at hr
        injection hr with hr
        simp only at hr
        have hj : j < l.length := by
          obtain ⟨cs, h1, h2⟩ := hrow i hi
          rw [h1] at hr
          rw [← h2.length]
          rcases Nat.lt_or_ge j cs.length with h' | h'
          · exact h'
          · rw [← hr] at hu; simp only [Option.getD_some] at hu; rw [List.getElem?_eq_none h'] at hu; cases hu
        obtain ⟨u', h1, h2⟩ := key i hi j hj
        rw [← hr, h2] at hu
        injection hu with hu
        subst hu
        rw [add_plain hspot, hl, ← Nat.add_assoc] at *
        have e : (⟨a.block, a.off + i * P.cellsOf e, none⟩ : Addr).add j = ⟨a.block, a.off + i * P.cellsOf e + j, none⟩ := add_plain rfl
        rw [e] at h1
        exact h1
end

theorem i64_bounds {x : Int} (h : (Lit.int .i64 x).wf = true) : -9223372036854775808 ≤ x ∧ x ≤ 9223372036854775807 := by
  simpa [Lit.wf, IntKind.min, IntKind.max, IntKind.signed, IntKind.bits] using h
end Go.Proofs.Ytpdadlofgfdlpaa
