/- slices of strings; slices.IndexFunc and slices.ContainsFunc at []string, at whatever pure predicate. -/
import Derived.Test.YtpdadlofgfdlpaaProg
import Derived.Test.YtpdadlofgfdlpaaBase
namespace Go.Proofs.Ytpdadlofgfdlpaa
set_option linter.all false
open Go.RowKit
def strRows (l : List ByteArray) : List (List Value) := l.map fun s => [.string s]
theorem Seg.str {w : World} {A : Option Addr} {l : List ByteArray} (h : Seg w 1 A (strRows l)) {i : Nat} (hi : i < l.length) :
    ∃ b off, A = some ⟨b, off, none⟩ ∧ b < w.heap.size ∧ w.cell? ⟨b, off + i, none⟩ = some (.string l[i]) := by
  obtain ⟨b, off, e, hb, hc⟩ := h.at_ (i := i) (by simpa [strRows] using hi)
  exact ⟨b, off, e, hb, by simpa [strRows] using hc 0 (.string l[i]) (by simp [strRows])⟩

def idxFn (o : Option Nat) : Int := match o with | some i => (i : Int) | none => -1
section
variable {α : Type} {p : α → Bool} {l : List α} {k : Nat}
theorem idx_miss (h : Hid (∀ j, j < l.length → ∀ s, l[j]? = some s → p s = false)) : idxFn (l.findIdx? p) = -1 := by
  have : l.findIdx? p = none := by
    rw [List.findIdx?_eq_none_iff]
    intro x hx
    obtain ⟨j, hj, rfl⟩ := List.getElem_of_mem hx
    exact h j hj _ (List.getElem?_eq_getElem hj)
  rw [this]; rfl
theorem idx_hit (hk : k < l.length) (hp : p l[k] = true) (h : Hid (∀ j, j < k → ∀ s, l[j]? = some s → p s = false)) : idxFn (l.findIdx? p) = k := by
  have : l.findIdx? p = some k := by
    rw [List.findIdx?_eq_some_iff_getElem]
    refine ⟨hk, hp, fun j hj => ?_⟩
    have := h j hj _ (List.getElem?_eq_getElem (by omega))
    simp [this]
  rw [this]; rfl
theorem idx_next (hk : k < l.length) (hp : p l[k] = false) (h : Hid (∀ j, j < k → ∀ s, l[j]? = some s → p s = false)) : Hid (∀ j, j < k + 1 → ∀ s, l[j]? = some s → p s = false) := by
  intro j hj s hs
  rcases Nat.lt_succ_iff_lt_or_eq.1 hj with h1 | rfl
  · exact h j h1 s hs
  · rw [List.getElem?_eq_getElem hk] at hs; injection hs with hs; rw [← hs]; exact hp
theorem idx_any : (0 ≤ idxFn (l.findIdx? p)) = (l.any p = true) := by
  cases h : l.findIdx? p with
  | none =>
    rw [List.findIdx?_eq_none_iff] at h
    simp [idxFn]
    intro x hx; simp [h x hx]
  | some i =>
    rw [List.findIdx?_eq_some_iff_getElem] at h
    obtain ⟨hi, hp, _⟩ := h
    simp [idxFn]
    exact ⟨_, List.getElem_mem hi, hp⟩
theorem idx_lt : idxFn (l.findIdx? p) < l.length ∧ -1 ≤ idxFn (l.findIdx? p) := by
  cases h : l.findIdx? p with
  | none => simp [idxFn]; omega
  | some i =>
    rw [List.findIdx?_eq_some_iff_getElem] at h
    obtain ⟨hi, hp, _⟩ := h
    simp [idxFn]; omega
end

theorem IndexFunc_str (f : FuncId) (hf : ∀ args w, (callFunc f args).run Try.prog w = .ok (.enter f args) w) (p : ByteArray → Bool) (hp : ∀ s w, Calls Try.prog f #[.string s] w fun e w' => e = .returned (.bool (p s)) ∧ w = w')
    (A : Option Addr) (ln c : Nat) (l : List ByteArray) (w : World) (hln : l.length = ln) (hl : l.length ≤ 9223372036854775807) (h : Seg w 1 A (strRows l)) :
    Calls Try.prog 97 #[.slice A ln c, .func (.func f) #[] #[]] w fun e w' => e = .returned (.int .i64 (idxFn (l.findIdx? p))) ∧ w = w' := by
  subst hln
  have HP := hide hp
  clear hp
  go_enter Try.func97, Try.ntmps97
  go_wp2
  go_loop [5, 8] (fun _ i => ∃ k : Nat, k ≤ l.length ∧ i = .int .i64 k ∧ Hid (∀ j, j < k → ∀ s, l[j]? = some s → p s = false)) (fun _ i => l.length - (intOf i).toNat)
  case atStart => exact ⟨0, by omega, rfl, fun j hj => by omega⟩
  case round =>
    obtain ⟨k, hk, rfl, HQ⟩ := hrel
    by_cases hlt : k < l.length
    · obtain ⟨b, off, rfl, hb, hc⟩ := h.str hlt
      go_wp2_with fail
      by_cases hps : p l[k] = true
      · refine (HP.out _ _).mono ?_
        rintro e w' ⟨rfl, rfl⟩
        go_wp2_with fail
        go_ret
        exact ⟨by rw [idx_hit hlt hps HQ]; rfl, rfl⟩
      · have hps' : p l[k] = false := by simpa using hps
        refine (HP.out _ _).mono ?_
        rintro e w' ⟨rfl, rfl⟩
        go_wp2_with fail
        go_round
        case rel => exact ⟨k + 1, by omega, by go_num, idx_next hlt hps' HQ⟩
        case measure => simp [intOf]; omega
    · obtain rfl : k = l.length := by omega
      go_wp2_with fail
      go_ret
      exact ⟨by rw [idx_miss HQ]; rfl, rfl⟩

theorem ContainsFunc_str (f : FuncId) (hf : ∀ args w, (callFunc f args).run Try.prog w = .ok (.enter f args) w) (p : ByteArray → Bool) (hp : ∀ s w, Calls Try.prog f #[.string s] w fun e w' => e = .returned (.bool (p s)) ∧ w = w')
    (A : Option Addr) (ln c : Nat) (l : List ByteArray) (w : World) (hln : l.length = ln) (hl : l.length ≤ 9223372036854775807) (h : Seg w 1 A (strRows l)) :
    Calls Try.prog 66 #[.slice A ln c, .func (.func f) #[] #[]] w fun e w' => e = .returned (.bool (l.any p)) ∧ w = w' := by
  subst hln
  have HP := hide hp
  clear hp
  go_enter Try.func66, Try.ntmps66
  go_wp2_with fail
  refine (IndexFunc_str f hf p HP.out A _ c l w rfl hl h).mono ?_
  rintro e w' ⟨rfl, rfl⟩
  go_wp2_with fail
  go_ret
  exact ⟨by simp only [ge_iff_le, idx_any, Bool.decide_eq_true]; rfl, rfl⟩
end Go.Proofs.Ytpdadlofgfdlpaa
