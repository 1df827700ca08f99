/- client.CheckCall; commands of raw numbers are commands that may be. -/
import Derived.Test.YtpdadlofgfdlpaaCommand
namespace Go.Proofs.Ytpdadlofgfdlpaa
set_option linter.all false
open Go.RowKit
def zeroCall (seq kind : Int) (key field text : ByteArray) (n : Int) : Bool :=
  seq == 0 && kind == 0 && key.toList == [] && field.toList == [] && text.toList == [] && n == 0
def checkCall (client seq kind : Int) (key field text : ByteArray) (n : Int) : Int :=
  if (client == 0) = true then (if zeroCall seq kind key field text n = true then 0 else 8)
  else if numberOk client = false ∨ numberOk seq = false then 2 else checkCommand kind key field text n


theorem tmod_lt (n m : Int) (hm : 0 < m) : -m < n.tmod m ∧ n.tmod m < m := by
  have h := Int.natAbs_tmod n m
  have h2 : n.natAbs % m.natAbs < m.natAbs := Nat.mod_lt _ (by omega)
  omega
theorem emp_size : emp.size = 0 := rfl
theorem emp_list : emp.toList = [] := by unfold emp; simp
theorem cmd_ok (kind key field n : Int) (text : ByteArray) :
    checkCommand (cmdOf kind key field n text).kind (cmdOf kind key field n text).key (cmdOf kind key field n text).field (cmdOf kind key field n text).text (cmdOf kind key field n text).n = 0 := by
  have p1 := picked_lo kind 22 (by omega)
  have p2 := picked_hi kind 22 (by omega)
  have q1 := picked_lo n 60 (by omega)
  have q2 := picked_hi n 60 (by omega)
  have q3 := picked_lo n 12 (by omega)
  have q4 := picked_hi n 12 (by omega)
  have t1 := tmod_lt n 1073741824 (by omega)
  have s1 := some_size n
  have s2 := some_size key
  have s3 := some_size field
  have s4 := cut_size text 6
  generalize hp : picked kind 22 = p at *
  have hk : (cmdOf kind key field n text).kind = 1 + p := by simp [cmdOf, hp]
  have hy : (cmdOf kind key field n text).key = if 1 + p = 22 then emp else some_ key := by simp [cmdOf, hp]
  have hf : (cmdOf kind key field n text).field = if cmdField (1 + p) = true then some_ field else emp := by simp [cmdOf, hp]
  have hx : (cmdOf kind key field n text).text = if cmdText (1 + p) = true then (if (picked n 3 == 0) = true then some_ n else cut_ text 6) else emp := by simp [cmdOf, hp]
  have hn : (cmdOf kind key field n text).n = if 1 + p = 3 then n.tmod 1073741824 else if 1 + p = 20 then picked n 60 else if 1 + p = 14 then picked n 12 - 6 else 0 := by simp [cmdOf, hp]
  rw [hk, hy, hf, hx, hn]
  have hT : (if (picked n 3 == 0) = true then some_ n else cut_ text 6).size ≤ 6 := by split <;> omega
  generalize (if (picked n 3 == 0) = true then some_ n else cut_ text 6) = T at *
  have hb : bare (1 + p) (if 1 + p = 22 then emp else some_ key) (if cmdField (1 + p) = true then some_ field else emp) (if cmdText (1 + p) = true then T else emp)
      (if 1 + p = 3 then n.tmod 1073741824 else if 1 + p = 20 then picked n 60 else if 1 + p = 14 then picked n 12 - 6 else 0) = true := by
    have h22 : p = 0 ∨ p = 1 ∨ p = 2 ∨ p = 3 ∨ p = 4 ∨ p = 5 ∨ p = 6 ∨ p = 7 ∨ p = 8 ∨ p = 9 ∨ p = 10 ∨ p = 11 ∨ p = 12 ∨ p = 13 ∨ p = 14 ∨ p = 15 ∨ p = 16 ∨ p = 17 ∨ p = 18 ∨ p = 19 ∨ p = 20 ∨ p = 21 := by omega
    rcases h22 with rfl | rfl | rfl | rfl | rfl | rfl | rfl | rfl | rfl | rfl | rfl | rfl | rfl | rfl | rfl | rfl | rfl | rfl | rfl | rfl | rfl | rfl <;> simp [bare, cmdText, cmdField, cmdN, cmdKey, emp_list]
  unfold checkCommand
  rw [if_neg (by omega), if_neg (by rw [hb]; simp)]
  have c1 : ¬ ((cmdKey (1 + p) = true ∧ fieldOk (if 1 + p = 22 then emp else some_ key) = false) ∨ (cmdField (1 + p) = true ∧ fieldOk (if cmdField (1 + p) = true then some_ field else emp) = false) ∨ textOk (if cmdText (1 + p) = true then T else emp) = false) := by
    rintro (⟨h1, h2⟩ | ⟨h1, h2⟩ | h2)
    · have : ¬ 1 + p = 22 := by simpa [cmdKey] using h1
      rw [if_neg this] at h2; simp [fieldOk, s2] at h2
    · rw [if_pos h1] at h2; simp [fieldOk, s3] at h2
    · by_cases hc : cmdText (1 + p) = true
      · rw [if_pos hc] at h2; simp [textOk] at h2; omega
      · rw [if_neg hc] at h2; simp [textOk, emp_size] at h2
  rw [if_neg c1, if_neg]
  simp only [countOk, Bool.not_eq_false, Bool.and_eq_true, decide_eq_true_eq]
  (repeat' split) <;> omega
end Go.Proofs.Ytpdadlofgfdlpaa
