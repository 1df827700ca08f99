/- strings.Compare, cmp.Compare[int], cmp.Or[int]; value.byField, value.byScore. -/
import Derived.Test.YtpdadlofgfdlpaaVal
import Derived.Lib.Bytealg
namespace Go.Proofs.Ytpdadlofgfdlpaa
set_option linter.all false
open Go.RowKit
set_option maxRecDepth 100000
def cmpB (a b : ByteArray) : Int := Lib.compareBytes a.data.toList b.data.toList
def cmpI (a b : Int) : Int := if a < b then -1 else if b < a then 1 else 0
theorem CompareString_ (a b : ByteArray) (w : World) :
    Calls Try.prog 102 #[.string a, .string b] w fun e w' => e = .returned (.int .i64 (cmpB a b)) ∧ w = w' := by
  go_enter Try.func102, Try.ntmps102
  go_wp2
  have e1 : (callFunc 119 #[.string a, .string b]).run Try.prog w = .ok (.value (.int .i64 (cmpB a b))) w := by
    rw [run_callFunc_extern Try.func119 (by kernel_rfl) (by kernel_rfl) (by kernel_rfl) (e := Extern.BytealgCompare.compare) (by kernel_rfl), Lib.run_compareString]; rfl
  rw [e1]
  rw [Oper.upon_value]
  go_wp2
  go_ret
  exact ⟨rfl, rfl⟩
theorem Compare_str (a b : ByteArray) (w : World) :
    Calls Try.prog 80 #[.string a, .string b] w fun e w' => e = .returned (.int .i64 (cmpB a b)) ∧ w = w' := by
  go_enter Try.func80, Try.ntmps80
  go_wp2_with (go_at_call 102; refine (CompareString_ _ _ _).mono ?_; rintro e w' ⟨rfl, rfl⟩)
  go_ret
  exact ⟨rfl, rfl⟩
theorem isNaN_int (a : Int) (w : World) :
    Calls Try.prog 118 #[.int .i64 a] w fun e w' => e = .returned (.bool false) ∧ w = w' := by
  go_enter Try.func118, Try.ntmps118
  go_wp2_with fail
  go_ret
  exact ⟨by simp, rfl⟩
theorem Compare_int (a b : Int) (w : World) :
    Calls Try.prog 101 #[.int .i64 a, .int .i64 b] w fun e w' => e = .returned (.int .i64 (cmpI a b)) ∧ w = w' := by
  rcases Int.lt_trichotomy a b with h | h | h
  · have e1 : cmpI a b = -1 := by simp [cmpI, h]
    rw [e1]
    go_enter Try.func101, Try.ntmps101
    go_wp2_with (go_at_call 118; refine (isNaN_int _ _).mono ?_; rintro e w' ⟨rfl, rfl⟩)
    go_ret
    exact ⟨rfl, rfl⟩
  · have e1 : cmpI a b = 0 := by simp [cmpI, h]
    rw [e1]
    subst h
    go_enter Try.func101, Try.ntmps101
    go_wp2_with (go_at_call 118; refine (isNaN_int _ _).mono ?_; rintro e w' ⟨rfl, rfl⟩)
    go_ret
    exact ⟨rfl, rfl⟩
  · have e1 : cmpI a b = 1 := by simp [cmpI, h]; omega
    rw [e1]
    have h2 : ¬ a < b := by omega
    go_enter Try.func101, Try.ntmps101
    go_wp2_with (go_at_call 118; refine (isNaN_int _ _).mono ?_; rintro e w' ⟨rfl, rfl⟩)
    go_ret
    exact ⟨rfl, rfl⟩
theorem byField_ (a b : Pr) (w : World) :
    Calls Try.prog 76 #[.agg #[.string a.field, .string a.text], .agg #[.string b.field, .string b.text]] w fun e w' => e = .returned (.int .i64 (cmpB a.field b.field)) ∧ Below w.heap.size w w' := by
  go_enter Try.func76, Try.ntmps76
  go_wp2_with (go_at_call 80; refine (Compare_str _ _ _).mono ?_; rintro e w' ⟨rfl, rfl⟩)
  go_ret
  exact ⟨rfl, (by repeat (first | (with_reducible exact Below.refl _ _) | (with_reducible assumption) | (with_reducible refine Below.drew ?_) | (with_reducible refine bdrewN ?_ _) | (with_reducible refine balloc ?_ _) | ((with_reducible refine bset ?_ ?_ _); rotate_left; (focus first | exact Nat.le_refl _ | (simp; done) | (simp; omega) | omega)) | (with_reducible refine bstep ?_ (by with_reducible assumption)) | (with_reducible refine Below.trans ?_ (by with_reducible assumption))))⟩
end Go.Proofs.Ytpdadlofgfdlpaa
