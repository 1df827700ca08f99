/- rostrumkeep.picked, client.CheckReply. -/
import Derived.Test.YtcelcanfdalliaaStr
namespace Go.Proofs.Ytcelcanfdalliaa
set_option linter.all false
open Go.RowKit
def picked (n many : Int) : Int := (if n < 0 then -(n + 1) else n) % many
theorem picked_lo (n many : Int) (h : 0 < many) : 0 ≤ picked n many := Int.emod_nonneg _ (by omega)
theorem picked_hi (n many : Int) (h : 0 < many) : picked n many < many := Int.emod_lt_of_pos _ h
theorem picked_neg {n many : Int} (h : n < 0) : -(n + 1).tmod many = picked n many := by
  rw [picked, if_pos h, ← Int.neg_tmod, Int.tmod_eq_emod_of_nonneg (by omega)]
theorem picked_pos {n many : Int} (h : ¬ n < 0) : n % many = picked n many := by
  rw [picked, if_neg h]
theorem picked_any (n many : Int) (w : World) (h1 : -9223372036854775808 ≤ n) (h2 : n ≤ 9223372036854775807) (h3 : 0 < many) (h4 : many ≤ 9223372036854775807) :
    Calls Try.prog 28 #[.int .i64 n, .int .i64 many] w fun e w' => e = .returned (.int .i64 (picked n many)) ∧ w = w' := by
  by_cases h : n < 0
  · have e := picked_neg (many := many) h
    have E := hide e; clear e
    go_enter Try.func28, Try.ntmps28
    go_wp2
    go_ret
    exact ⟨by rw [← E.out]; simp, rfl⟩
  · have e := picked_pos (many := many) h
    have E := hide e; clear e
    go_enter Try.func28, Try.ntmps28
    go_wp2
    go_ret
    exact ⟨by rw [← E.out]; simp, rfl⟩

def checkReply (code : Int) (text : ByteArray) (n : Int) (l : List ByteArray) : Int :=
  if code < 0 ∨ 13 < code then 3 else if 20 < text.size ∨ 20 < l.length then 1 else if l.any (fun s => decide (20 < s.size)) then 1
  else if n < -1099511627776 ∨ 1099511627776 < n then 2 else 0

end Go.Proofs.Ytcelcanfdalliaa
