/- What all laws on value.Do use: Check, at values that may be; commands of raw numbers; arguments. -/
import Derived.Test.YtpdadlofgfdlpaaVals
import Derived.Test.YtpdadlofgfdlpaaSame
import Derived.Test.YtpdadlofgfdlpaaItem
import Derived.Test.YtpdadlofgfdlpaaLaw
import Derived.SizedLaws
namespace Go.Proofs.Ytpdadlofgfdlpaa
set_option linter.all false
open Go.RowKit
theorem Check_may (v : Va) (hv : May v) (A1 A2 A3 : Option Addr) (n1 c1 n2 c2 n3 c3 : Nat) (w : World) (h : VSl w v A1 n1 c1 A2 n2 c2 A3 n3 c3) :
    Calls Try.prog 49 #[.agg #[.int .i64 v.kind, .string v.text, .int .i64 v.count, .slice A1 n1 c1, .slice A2 n2 c2, .slice A3 n3 c3]] w fun e w' => e = .returned (.int .i64 (checkValue v)) ∧ Below w.heap.size w w' := by
  have s := may_sizes hv
  have e1 := h.n1_; have e2 := h.n2_; have e3 := h.n3_
  exact Check_val v A1 A2 A3 n1 c1 n2 c2 n3 c3 w h (by omega) (by omega) (by omega)
theorem Check_good (v : Va) (hv : Good v) (A1 A2 A3 : Option Addr) (n1 c1 n2 c2 n3 c3 : Nat) (w : World) (h : VSl w v A1 n1 c1 A2 n2 c2 A3 n3 c3) :
    Calls Try.prog 49 #[.agg #[.int .i64 v.kind, .string v.text, .int .i64 v.count, .slice A1 n1 c1, .slice A2 n2 c2, .slice A3 n3 c3]] w fun e w' => e = .returned (.int .i64 0) ∧ Below w.heap.size w w' :=
  (Check_may v (.inr hv) A1 A2 A3 n1 c1 n2 c2 n3 c3 w h).mono fun e w' ⟨h1, h2⟩ => ⟨by rw [h1, good_to hv], h2⟩
theorem CommandR_any (r : RawD) (hr : r.ok) (w : World) : Calls Try.prog 20 #[.agg #[.int .i64 r.kind, .int .i64 r.key, .int .i64 r.field, .int .i64 r.n, .string r.text]] w fun e w' => e = .returned (cmdV (cmdR r)) ∧ Below w.heap.size w w' := by
  obtain ⟨⟨k1, k2⟩, ⟨y1, y2⟩, ⟨f1, f2⟩, ⟨n1, n2⟩, hx⟩ := hr
  exact Command_any r.kind r.key r.field r.n r.text w k1 k2 y1 y2 f1 f2 n1 n2 hx (picked r.kind 22) rfl (picked_lo _ _ (by omega)) (picked_hi _ _ (by omega))
theorem slice_len' {H : Type} {enc : TypeId × Value → H} {w : World} {base : Nat} {spare : Nat → Bool} {held : Bool} {d : DataW H} {p : List MemPlace} {P : Program} {t e : TypeId} {A : Option Addr} {n c : Nat} (hu : P.underlying t = some (.slice e)) (h : DataW.Trod enc P w base spare held t (.slice A n c) d p) : n = 0 ∨ ∃ elems rest, d = .slice elems rest ∧ elems.length = n := by
  obtain ⟨fuel, hf⟩ := h
  rcases DataW.trod_slice hu hf with ⟨hv, _⟩ | ⟨a, len, cap, elems, rest, k, _, hv, hx, _, _, _, hl, _⟩
  · simp [Value.cells] at hv
    exact .inl hv.2.1
  · simp [Value.cells] at hv
    injection hx with hx _
    exact .inr ⟨_, _, hx, by rw [List.length_map, hl, hv.2.1]⟩
theorem raw_bytes : Try.prog.bytesOf 44 = 48 := by kernel_rfl
/-- A slice of Raw among the arguments: its reach. -/
theorem raw_reach {H : Type} {enc : TypeId × Value → H} {w : World} {base : Nat} {spare : Nat → Bool} {held : Bool} {d : DataW H} {p : List MemPlace} {A : Option Addr} {n c : Nat} {ts : List TypeId} {ds : List (DataW H)} {j : Nat}
    (h : DataW.Trod enc Try.prog w base spare held 35 (.slice A n c) d p) (hsz : (DataW.weightsEach Try.prog ts ds).all (· ≤ reachBytes) = true) (ht : ts[j]? = some 35) (hd : ds[j]? = some d) : (n + 1) * 48 ≤ 140737488355328 := by
  rcases slice_len' Try.underlying35 h with h | ⟨elems, rest, rfl, h⟩
  · omega
  · have := sized_slice hsz (j := j) (t := 35) (e := 44) ht hd Try.underlying35
    rw [raw_bytes] at this
    simp only [reachBytes] at this
    omega
theorem cmdR_cc (r : RawD) : ccOf (cmdR r) = 0 := cmd_ok _ _ _ _ _
theorem cmdR_kind (r : RawD) : (cmdR r).kind = 1 + picked r.kind 22 := rfl
theorem cmdR_in (r : RawD) : 1 ≤ (cmdR r).kind ∧ (cmdR r).kind ≤ 22 := by
  have := picked_lo r.kind 22 (by omega); have := picked_hi r.kind 22 (by omega); rw [cmdR_kind]; omega
end Go.Proofs.Ytpdadlofgfdlpaa
