/- cmp.Or[int] at two numbers. -/
import Derived.Test.YtpdadlofgfdlpaaCmp
namespace Go.Proofs.Ytpdadlofgfdlpaa
set_option linter.all false
open Go.RowKit
theorem Or_int2 (g : Nat) (x y : Int) (w : World) (h0 : w.cell? ⟨g, 0, none⟩ = some (.int .i64 x)) (h1 : w.cell? ⟨g, 1, none⟩ = some (.int .i64 y)) :
    Calls Try.prog 100 #[.slice (some ⟨g, 0, none⟩) 2 2] w fun e w' => e = .returned (.int .i64 (if x ≠ 0 then x else y)) ∧ w = w' := by
  go_enter Try.func100, Try.ntmps100
  go_wp2
  go_loop [5, 8] (fun _ i => ∃ k : Nat, k ≤ 2 ∧ i = .int .i64 k ∧ (1 ≤ k → x = 0) ∧ (2 ≤ k → y = 0)) (fun _ i => 2 - (intOf i).toNat)
  case atStart => exact ⟨0, by omega, rfl, by omega, by omega⟩
  case round =>
    obtain ⟨k, hk, rfl, hx, hy⟩ := hrel
    by_cases k0 : k = 0
    · subst k0
      by_cases hx0 : x = 0
      · go_wp2_with fail
        go_round
        case rel => exact ⟨1, by omega, by go_num, fun _ => hx0, by omega⟩
        case measure => simp [intOf]
      · go_wp2_with fail
        go_ret
        exact ⟨rfl, rfl⟩
    · by_cases k1 : k = 1
      · subst k1
        have hx0 := hx (by omega)
        subst hx0
        by_cases hy0 : y = 0
        · go_wp2_with fail
          go_round
          case rel => exact ⟨2, by omega, by go_num, by simp, fun _ => hy0⟩
          case measure => simp [intOf]
        · go_wp2_with fail
          go_ret
          exact ⟨rfl, rfl⟩
      · obtain rfl : k = 2 := by omega
        have hx0 := hx (by omega)
        have hy0 := hy (by omega)
        subst hx0
        subst hy0
        go_wp2_with fail
        go_ret
        exact ⟨rfl, rfl⟩
end Go.Proofs.Ytpdadlofgfdlpaa
