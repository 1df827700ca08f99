/- Slice expressions on a slice that is read: the run's equations, and what the cut reads as. No program. -/
import Derived.Test.YtpdadlofgfdlpaaOwn
namespace Go.Proofs.Ytpdadlofgfdlpaa
set_option linter.all false
open Go.RowKit
/-- The address of 'x[k:]', as the model has it. -/
def cutA (A : Option Addr) (c k size : Nat) : Option Addr := if c = k then A else A.map (·.add (k * size))
theorem cutA_zero (A : Option Addr) (c size : Nat) : cutA A c 0 size = A := by
  unfold cutA
  split
  · rfl
  · cases A <;> simp [Addr.add]
theorem bound_ok {P : Program} (x : Value) (k : Nat) (y : Nat) (code : BoundsCode) (w : World) (h : k ≤ y) : (Instr.sliceBound (.int .i64 (k : Int)) y code).run P w = .ok k w := by
  have h1 : (0 : Int) ≤ k ∧ (k : Int) ≤ y := by omega
  simp [Instr.sliceBound, asIntOf, h1.1, h1.2]
section
variable {P : Program} {T E : TypeId} {size : Nat} (ht : P.underlying T = some (.slice E)) (hs : (P.info? E).map (·.size) = some size)
include ht hs
theorem run_cut (A : Option Addr) (n c k : Nat) (hk : k ≤ n) (w : World) :
    (Instr.slice T (.slice A n c) (some (.int .i64 (k : Int))) none none).run P w = .ok (.slice (cutA A c k size) (n - k) (c - k)) w := by
  obtain ⟨i, hi, rfl⟩ := Option.map_eq_some_iff.1 hs
  have hb := bound_ok (P := P) (.slice A n c) k n .sliceB w hk
  simp [Instr.slice, run_underlying ht, Instr.sliceBounds, hb, sizeOf, typeInfo, hi, cutA]
theorem run_take (A : Option Addr) (n c j : Nat) (hj : j ≤ c) (w : World) :
    (Instr.slice T (.slice A n c) none (some (.int .i64 (j : Int))) none).run P w = .ok (.slice A j c) w := by
  obtain ⟨i, hi, rfl⟩ := Option.map_eq_some_iff.1 hs
  have hb := bound_ok (P := P) (.slice A n c) j c .sliceAcap w hj
  have hA : (if c = 0 then A else A.map (·.add 0)) = A := by split <;> cases A <;> simp [Addr.add]
  simp [Instr.slice, run_underlying ht, Instr.sliceBounds, hb, sizeOf, typeInfo, hi]
  cases A <;> simp [Addr.add]
theorem run_take3 (A : Option Addr) (n c j m : Nat) (hj : j ≤ m) (hm : m ≤ c) (w : World) :
    (Instr.slice T (.slice A n c) none (some (.int .i64 (j : Int))) (some (.int .i64 (m : Int)))).run P w = .ok (.slice A j m) w := by
  obtain ⟨i, hi, rfl⟩ := Option.map_eq_some_iff.1 hs
  have hb := bound_ok (P := P) (.slice A n c) m c .slice3Acap w hm
  have hb2 := bound_ok (P := P) (.slice A n c) j m .slice3B w hj
  simp [Instr.slice, run_underlying ht, Instr.sliceBounds, hb, hb2, sizeOf, typeInfo, hi]
  cases A <;> simp [Addr.add]
theorem run_cut3 (A : Option Addr) (n c k j m : Nat) (hk : k ≤ j) (hj : j ≤ m) (hm : m ≤ c) (w : World) :
    (Instr.slice T (.slice A n c) (some (.int .i64 (k : Int))) (some (.int .i64 (j : Int))) (some (.int .i64 (m : Int)))).run P w = .ok (.slice (cutA A m k size) (j - k) (m - k)) w := by
  obtain ⟨i, hi, rfl⟩ := Option.map_eq_some_iff.1 hs
  have hb := bound_ok (P := P) (.slice A n c) m c .slice3Acap w hm
  have hb2 := bound_ok (P := P) (.slice A n c) j m .slice3B w hj
  have hb3 := bound_ok (P := P) (.slice A n c) k j .slice3C w hk
  simp [Instr.slice, run_underlying ht, Instr.sliceBounds, hb, hb2, hb3, sizeOf, typeInfo, hi, cutA]
theorem run_cut2 (A : Option Addr) (n c k j : Nat) (hk : k ≤ j) (hj : j ≤ c) (w : World) :
    (Instr.slice T (.slice A n c) (some (.int .i64 (k : Int))) (some (.int .i64 (j : Int))) none).run P w = .ok (.slice (cutA A c k size) (j - k) (c - k)) w := by
  obtain ⟨i, hi, rfl⟩ := Option.map_eq_some_iff.1 hs
  have hb2 := bound_ok (P := P) (.slice A n c) j c .sliceAcap w hj
  have hb3 := bound_ok (P := P) (.slice A n c) k j .sliceB w hk
  simp [Instr.slice, run_underlying ht, Instr.sliceBounds, hb2, hb3, sizeOf, typeInfo, hi, cutA]
end
section
variable {w : World} {size n c : Nat} {A : Option Addr} {rows : List (List Value)}
theorem Seg.drop (h : Seg w size A rows) (k : Nat) (hk : k < rows.length) : Seg w size (A.map (·.add (k * size))) (rows.drop k) := fun _ => by
  obtain ⟨b, off, rfl, hb, hc⟩ := h (by omega)
  refine ⟨b, off + k * size, by simp [Addr.add_lit], hb, fun i r hr j u hu => ?_⟩
  rw [List.getElem?_drop] at hr
  rw [← hc _ r hr j u hu, Nat.add_mul]
  congr 2; omega
theorem Sl.drop (h : Sl w size A n c rows) (k : Nat) (hk : k ≤ n) (m : Nat) (hm : m ≤ c) (hnm : n ≤ m) : Sl w size (cutA A m k size) (n - k) (m - k) (rows.drop k) := by
  refine ⟨by rw [List.length_drop, h.len], by omega, by have := h.cm; omega, ?_, ?_, fun r hr => h.row r (List.mem_of_mem_drop hr)⟩
  · intro e
    unfold cutA at e
    split at e
    · omega
    · have : A = none := by cases A <;> simp_all
      have := h.nil this; omega
  · by_cases hkn : k < n
    · unfold cutA
      rw [if_neg (by omega)]
      exact h.seg.drop k (by rw [h.len]; exact hkn)
    · rw [List.drop_eq_nil_of_le (by rw [h.len]; omega)]
      exact Seg.nil
theorem Sl.take (h : Sl w size A n c rows) (j : Nat) (hj : j ≤ n) (m : Nat) (hjm : j ≤ m) (hm : m ≤ c) : Sl w size A j m (rows.take j) := by
  refine ⟨by rw [List.length_take, h.len]; omega, hjm, by have := h.cm; omega, fun e => by have := h.nil e; omega, ?_, fun r hr => h.row r (List.mem_of_mem_take hr)⟩
  intro hn
  rw [List.length_take] at hn
  obtain ⟨b, off, rfl, hb, hc⟩ := h.seg (by omega)
  refine ⟨b, off, rfl, hb, fun i r hr j' u hu => hc i r ?_ j' u hu⟩
  rw [List.getElem?_take] at hr
  split at hr
  · exact hr
  · cases hr
end
end Go.Proofs.Ytpdadlofgfdlpaa
