/- rostrumkeep.picked, client.CheckReply. -/
import Derived.Test.YtpdadlofgfdlpaaStr
namespace Go.Proofs.Ytpdadlofgfdlpaa
set_option linter.all false
open Go.RowKit
def picked (n many : Int) : Int := (if n < 0 then -(n + 1) else n) % many
theorem picked_lo (n many : Int) (h : 0 < many) : 0 ≤ picked n many := Int.emod_nonneg _ (by omega)
theorem picked_hi (n many : Int) (h : 0 < many) : picked n many < many := Int.emod_lt_of_pos _ h
theorem picked_neg {n many : Int} (h : n < 0) : -(n + 1).tmod many = picked n many := by
  rw [picked, if_pos h, ← Int.neg_tmod, Int.tmod_eq_emod_of_nonneg (by omega)]
theorem picked_pos {n many : Int} (h : ¬ n < 0) : n % many = picked n many := by
  rw [picked, if_neg h]
theorem picked_any (n many : Int) (w : World) (h1 : -9223372036854775808 ≤ n) (h2 : n ≤ 9223372036854775807) (h3 : 0 < many) (h4 : many ≤ 9223372036854775807) :
    Calls Try.prog 19 #[.int .i64 n, .int .i64 many] w fun e w' => e = .returned (.int .i64 (picked n many)) ∧ w = w' := by
  by_cases h : n < 0
  · have e := picked_neg (many := many) h
    have E := hide e; clear e
    go_enter Try.func19, Try.ntmps19
    go_wp2
    go_ret
    exact ⟨by rw [← E.out]; simp, rfl⟩
  · have e := picked_pos (many := many) h
    have E := hide e; clear e
    go_enter Try.func19, Try.ntmps19
    go_wp2
    go_ret
    exact ⟨by rw [← E.out]; simp, rfl⟩

def checkReply (code : Int) (text : ByteArray) (n : Int) (l : List ByteArray) : Int :=
  if code < 0 ∨ 13 < code then 3 else if 20 < text.size ∨ 20 < l.length then 1 else if l.any (fun s => decide (20 < s.size)) then 1
  else if n < -1099511627776 ∨ 1099511627776 < n then 2 else 0

theorem long_any (s : ByteArray) (w : World) : Calls Try.prog 96 #[.string s] w fun e w' => e = .returned (.bool (decide (20 < s.size))) ∧ w = w' := by
  go_enter Try.func96, Try.ntmps96
  go_wp2_with fail
  go_ret
  exact ⟨by simp; omega, rfl⟩
theorem CheckReply_any (code : Int) (text : ByteArray) (n : Int) (A : Option Addr) (ln c : Nat) (l : List ByteArray) (w : World) (hs : text.size ≤ maxLen) (hln : l.length = ln) (hl : l.length ≤ maxLen) (h : Seg w 1 A (strRows l)) :
    Calls Try.prog 64 #[.agg #[.int .i64 code, .string text, .int .i64 n, .slice A ln c]] w fun e w' => e = .returned (.int .i64 (checkReply code text n l)) ∧ Below w.heap.size w w' := by
  subst hln
  unfold maxLen at hs hl
  have hseg : ∀ o, Seg (w.alloc o) 1 A (strRows l) := fun o => h.alloc o
  have HS := hide hseg; clear hseg h
  go_enter Try.func64, Try.ntmps64
  go_wp2_with (go_at_call 66; refine (ContainsFunc_str _ (run_enter Try.func96 (by kernel_rfl) (by kernel_rfl)) _ long_any A _ c l _ rfl hl (HS.out _)).mono ?_; rintro e w' ⟨rfl, rfl⟩)
  all_goals go_ret
  all_goals refine ⟨?_, (by repeat (first | (with_reducible exact Below.refl _ _) | (with_reducible assumption) | (with_reducible refine Below.drew ?_) | (with_reducible refine bdrewN ?_ _) | (with_reducible refine balloc ?_ _) | ((with_reducible refine bset ?_ ?_ _); rotate_left; (focus first | exact Nat.le_refl _ | (simp; done) | (simp; omega) | omega)) | (with_reducible refine bstep ?_ (by with_reducible assumption)) | (with_reducible refine Below.trans ?_ (by with_reducible assumption))))⟩
  all_goals refine ret_int ?_
  all_goals (unfold checkReply; (repeat' split) <;> first | rfl | omega | contradiction | (exfalso; simp_all; done) | (exfalso; simp_all; omega))
end Go.Proofs.Ytpdadlofgfdlpaa
