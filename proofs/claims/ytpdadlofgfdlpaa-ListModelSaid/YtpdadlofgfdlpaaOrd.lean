/- The order of strings and of scores, as numbers: what compare tells; what rises. No program. -/
import Derived.Test.YtpdadlofgfdlpaaCmp
import Derived.Sort.Walk0
namespace Go.Proofs.Ytpdadlofgfdlpaa
set_option linter.all false
open Go.RowKit
theorem cb_lt : ∀ (a b : List UInt8), Lib.compareBytes a b < 0 ↔ a < b
  | [], [] => by simp [Lib.compareBytes]
  | [], b :: bs => by simp [Lib.compareBytes]
  | a :: as_, [] => by simp [Lib.compareBytes]
  | a :: as_, b :: bs => by
    unfold Lib.compareBytes
    rw [List.cons_lt_cons_iff]
    by_cases h : a < b
    · simp [h]
    · by_cases h2 : b < a
      · have : a ≠ b := fun e => by subst e; exact h h2
        simp [h, h2, this]
      · have e : a = b := UInt8.le_antisymm (UInt8.not_lt.1 h2) (UInt8.not_lt.1 h)
        subst e
        simp [h, cb_lt as_ bs]
theorem cb_neg : ∀ (a b : List UInt8), Lib.compareBytes b a = - Lib.compareBytes a b
  | [], [] => by simp [Lib.compareBytes]
  | [], b :: bs => by simp [Lib.compareBytes]
  | a :: as_, [] => by simp [Lib.compareBytes]
  | a :: as_, b :: bs => by
    unfold Lib.compareBytes
    by_cases h : a < b
    · have h2 : ¬ b < a := fun h2 => UInt8.lt_asymm h h2
      simp [h, h2]
    · by_cases h2 : b < a
      · simp [h, h2]
      · simp [h, h2, cb_neg as_ bs]
theorem cb_eq : ∀ (a b : List UInt8), Lib.compareBytes a b = 0 ↔ a = b
  | [], [] => by simp [Lib.compareBytes]
  | [], b :: bs => by simp [Lib.compareBytes]
  | a :: as_, [] => by simp [Lib.compareBytes]
  | a :: as_, b :: bs => by
    unfold Lib.compareBytes
    by_cases h : a < b
    · have : a ≠ b := fun e => by subst e; exact UInt8.lt_irrefl _ h
      simp [h, this]
    · by_cases h2 : b < a
      · have : a ≠ b := fun e => by subst e; exact h h2
        simp [h, h2, this]
      · have e : a = b := UInt8.le_antisymm (UInt8.not_lt.1 h2) (UInt8.not_lt.1 h)
        subst e
        simp [h, cb_eq as_ bs]
theorem bytes_ext {a b : ByteArray} (h : a.data.toList = b.data.toList) : a = b := by
  cases a with
  | mk x => cases b with
    | mk y => exact congrArg ByteArray.mk (Array.toList_inj.1 h)
theorem cmpB_neg (a b : ByteArray) : cmpB b a = - cmpB a b := cb_neg _ _
theorem cmpB_eq {a b : ByteArray} : cmpB a b = 0 ↔ a = b := by
  unfold cmpB
  rw [cb_eq]
  exact ⟨bytes_ext, fun h => by rw [h]⟩
theorem cmpB_self (a : ByteArray) : cmpB a a = 0 := cmpB_eq.2 rfl
theorem cmpB_trans {a b c : ByteArray} (h : cmpB a b < 0) (k : cmpB b c < 0) : cmpB a c < 0 := by
  unfold cmpB at *
  rw [cb_lt] at *
  exact List.lt_trans h k
theorem cmpB_less (a b : ByteArray) : Op.bytesLess a.toList b.toList = decide (cmpB a b < 0) := by
  rw [bytesLess_eq, Lib.toList_data, Lib.toList_data]
  exact decide_eq_decide.2 (cb_lt _ _).symm
theorem cmpB_lt_le {a b c : ByteArray} (h : cmpB a b < 0) (k : cmpB b c ≤ 0) : cmpB a c < 0 := by
  rcases Int.lt_or_eq_of_le k with k | k
  · exact cmpB_trans h k
  · rw [cmpB_eq] at k; rw [← k]; exact h
theorem cmpI_neg (a b : Int) : cmpI b a = - cmpI a b := by unfold cmpI; (repeat' split) <;> omega
theorem cmpI_lt {a b : Int} : cmpI a b < 0 ↔ a < b := by unfold cmpI; (repeat' split) <;> omega
theorem cmpI_eq {a b : Int} : cmpI a b = 0 ↔ a = b := by unfold cmpI; (repeat' split) <;> omega
/-- Scores: by their numbers, those of the same by their members. -/
def cmpS (a b : Sc) : Int := if cmpI a.n b.n ≠ 0 then cmpI a.n b.n else cmpB a.member b.member
theorem cmpS_neg (a b : Sc) : cmpS b a = - cmpS a b := by
  have h1 := cmpI_neg a.n b.n; have h2 := cmpB_neg a.member b.member
  unfold cmpS; (repeat' split) <;> omega
theorem cmpS_lt {a b : Sc} : cmpS a b < 0 ↔ a.n < b.n ∨ (a.n = b.n ∧ cmpB a.member b.member < 0) := by
  have h1 := @cmpI_lt a.n b.n; have h2 := @cmpI_eq a.n b.n
  unfold cmpS; split <;> omega
theorem Sc.ext' {a b : Sc} (h1 : a.member = b.member) (h2 : a.n = b.n) : a = b := by cases a; cases b; simp_all
theorem Pr.ext' {a b : Pr} (h1 : a.field = b.field) (h2 : a.text = b.text) : a = b := by cases a; cases b; simp_all
theorem cmpS_eq {a b : Sc} : cmpS a b = 0 ↔ a = b := by
  have h1 := @cmpI_eq a.n b.n; have h2 := @cmpB_eq a.member b.member
  unfold cmpS
  split
  · refine ⟨fun h => by omega, fun h => by subst h; simp [cmpI]⟩
  · refine ⟨fun h => Sc.ext' (h2.1 h) (by omega), fun h => by subst h; exact cmpB_self _⟩
theorem cmpS_trans {a b c : Sc} (h : cmpS a b < 0) (k : cmpS b c < 0) : cmpS a c < 0 := by
  rw [cmpS_lt] at *
  rcases h with h | ⟨h, h'⟩ <;> rcases k with k | ⟨k, k'⟩
  · left; omega
  · left; omega
  · left; omega
  · right; exact ⟨by omega, cmpB_trans h' k'⟩
end Go.Proofs.Ytpdadlofgfdlpaa
