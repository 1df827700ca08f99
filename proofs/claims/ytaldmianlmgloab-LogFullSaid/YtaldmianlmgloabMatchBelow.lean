/- rostrumkeep.MatchBelow returns true for every input and leaves its arguments as they were; no condition. -/
import Derived.Test.YtaldmianlmgloabMatchL
import Derived.Test.YtaldmianlmgloabMatchBad
namespace Go.Proofs.Ytaldmianlmgloab
set_option linter.all false
open Go.ChangeShapes Go.WideShapes Go.ChangeAt Go.RowKit
theorem check_nop {t m : Int} (h1 : 1 ≤ t) (h2 : t ≤ 1048576) (h3 : 0 ≤ m) (h4 : m ≤ 1073741824) : checkItem (nopAt t m) = 0 := by
  unfold checkItem nopAt
  rw [if_neg (by simp; omega)]
  simp [Itm.zero, zeroCmd_call]
theorem chain_nops : ∀ (j : Nat) (t : Int) (L : List Itm), t ≤ 2 → chainOk 2 0 L = true → chainOk t 0 (List.replicate j (nopAt 2 0) ++ L) = true
  | 0, t, L, ht, h => by
    cases L with
    | nil => rfl
    | cons x L =>
      obtain ⟨h1, h2, h3, h4⟩ := chain_head h
      have a1 : decide (x.term < t) = false := by simp; omega
      have a2 : decide (x.time < 0) = false := by simp; omega
      simp only [List.replicate_zero, List.nil_append, chainOk, h1, a1, a2, h4]; rfl
  | j + 1, t, L, ht, h => by
    have a1 : decide ((nopAt 2 0).term < t) = false := by show decide ((2 : Int) < t) = false; simp; omega
    have a2 : decide ((nopAt 2 0).time < 0) = false := by simp [nopAt]
    have ih := chain_nops j 2 L (by omega) h
    rw [List.replicate_succ, List.cons_append]
    simp only [chainOk, check_nop (t := 2) (m := 0) (by omega) (by omega) (by omega) (by omega), a1, a2]
    simpa [nopAt] using ih
theorem below_ok {b : Int} {L : List Itm} {k j : Nat} {of : Int} (hg : checkLog b 2 L = 0) (hb : b < 12) (hk : b = k + j) (hj : 0 < j) (hl : L.length ≤ 30) (hof : (k = 0 ∧ of = 0) ∨ (0 < k ∧ of = 1)) :
    checkLog k of (List.replicate j (nopAt 2 0) ++ L) = 0 := by
  obtain ⟨g1, g2, g3, g4, g5, g6, g7⟩ := log_good hg
  refine checkLog_ok (by omega) (by omega) (by omega) (by omega) ?_ ?_ (chain_nops j of L (by omega) g7)
  · simp; omega
  · simp; omega
theorem below_match {b : Int} {L : List Itm} {k j : Nat} {of : Int} (hok : checkLog k of (List.replicate j (nopAt 2 0) ++ L) = 0) (hk : b = k + j) (hj : 0 < j) :
    matchOf b 2 L k of (List.replicate j (nopAt 2 0) ++ L) = ⟨some L, true, 0, 0⟩ := by
  rw [match_i (j := j) hok (by omega) hj (by simp)]
  rw [List.drop_left' (by simp)]
  exact tail_none (by rw [List.drop_zero]; exact fresh_self L)
end Go.Proofs.Ytaldmianlmgloab
