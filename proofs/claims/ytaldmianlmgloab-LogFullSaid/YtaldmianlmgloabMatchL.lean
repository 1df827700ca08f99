/- What the laws on ledger.Match share. -/
import Derived.Test.YtaldmianlmgloabMatch2
import Derived.Test.YtaldmianlmgloabPushes
import Derived.Test.YtaldmianlmgloabTrimP
namespace Go.Proofs.Ytaldmianlmgloab
set_option linter.all false
open Go.RowKit
theorem sameLog_eq (b1 t1 : Int) (A B : Option Addr) (n m c d : Nat) (a b : List Itm) (w : World) (ha : Sl w 10 A n c (itemRows a)) (hb : Sl w 10 B m d (itemRows b)) (h : a = b) :
    Calls Try.prog 18 #[.agg #[.int .i64 b1, .int .i64 t1, .slice A n c], .agg #[.int .i64 b1, .int .i64 t1, .slice B m d]] w fun e w' => e = .returned (.bool true) ∧ Below w.heap.size w w' :=
  (sameLog_any b1 t1 b1 t1 A B n m c d a b w ha hb).mono fun e w' ⟨h1, h2⟩ => ⟨by rw [h1]; simp [h], h2⟩
/-- Match, told for a law: its answer is known. -/
theorem Match_some (base bt : Int) (A : Option Addr) (n c : Nat) (L : List Itm) (place of : Int) (B : Option Addr) (m d : Nat) (ms : List Itm) (w : World) (hb1 : I64 base) (hb2 : I64 bt) (hS : Sl w 10 A n c (itemRows L)) (hg : checkLog base bt L = 0)
    (hp : I64 place) (ho : I64 of) (hT : Sl w 10 B m d (itemRows ms)) (hok : checkLog place of ms = 0) {out : List Itm} {fits : Bool} {fresh : Int} (hr : matchOf base bt L place of ms = ⟨some out, fits, fresh, 0⟩) :
    Calls Try.prog 14 #[.agg #[.int .i64 base, .int .i64 bt, .slice A n c], .int .i64 place, .int .i64 of, .slice B m d] w
      fun e w' => ∃ A n c, e = .returned (.tuple #[.agg #[.int .i64 base, .int .i64 bt, .slice A n c], .bool fits, .int .i64 fresh, .int .i64 0]) ∧ Own w' w.heap.size 29 10 (.slice A n c) (itemRows out) ∧ Below w.heap.size w w' := by
  refine (Match_ok base bt A n c L place of B m d ms w hb1 hb2 hS hg hp ho hT hok).mono fun e w' h => ?_
  rw [hr] at h
  obtain ⟨h1, A, n, c, h2, h3⟩ := h
  exact ⟨A, n, c, h2, h3, h1⟩
theorem fresh_self : ∀ L : List Itm, freshAt L L = none
  | [] => rfl
  | x :: L => by simp [freshAt, fresh_self L]
theorem fresh_pre : ∀ L M : List Itm, freshAt (L ++ M) L = none
  | [], M => by cases M <;> rfl
  | x :: L, M => by simp [freshAt, fresh_pre L M]
end Go.Proofs.Ytaldmianlmgloab
