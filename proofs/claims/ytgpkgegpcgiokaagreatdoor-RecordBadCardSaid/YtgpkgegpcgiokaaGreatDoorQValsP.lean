import Derived.Test.YtgpkgegpcgiokaaGreatDoorQDonP
import Derived.Test.YtgpkgegpcgiokaaGreatDoorQCall
import Derived.Test.YtgpkgegpcgiokaaGreatDoorQEnt
import Derived.Test.YtgpkgegpcgiokaaGreatDoorQOwn
import Derived.Test.YtgpkgegpcgiokaaGreatDoorQHeldX
import Derived.Deep.RegionHeld3
namespace Go.Proofs.YtgpkgegpcgiokaaGreatDoor
set_option linter.all false
open Go.RowKit
theorem done_some {v : Va} {c : Cmd} (h : Good v) (hc : ccOf c = 0) (h18 : c.kind ≤ 18) :
  doneVal v c = if wrongKind v c = true then (v, failR 4, 0) else ((behind v (doVal v c)).1, (behind v (doVal v c)).2, 0) := by
 unfold doneVal
 rw [if_neg (may_not (.inr h)), if_neg (by simpa using hc), if_neg (by omega), if_neg (by rw [good_some h]; simp)]
 have hd : doneKind v c = v := by unfold doneKind; rw [good_some h]; rfl
 rw [hd, good_some h]
 by_cases hw : wrongKind v c = true
 ·rw [if_pos ⟨rfl, hw⟩, if_pos hw]
 ·rw [if_neg (fun hh => hw hh.2), if_neg hw]
theorem done_zero {c : Cmd} (hc : ccOf c = 0) (h18 : c.kind ≤ 18) :
  doneVal zeroVa c = if makesC c.kind = false then (zeroVa, failR 5, 0) else ((behind zeroVa (doVal { zeroVa with kind := kindC c.kind } c)).1, (behind zeroVa (doVal { zeroVa with kind := kindC c.kind } c)).2, 0) := by
 unfold doneVal
 rw [if_neg (may_not (.inl rfl)), if_neg (by simpa using hc), if_neg (by omega)]
 have hd : doneKind zeroVa c = { zeroVa with kind := kindC c.kind } := by unfold doneKind; rw [if_pos zero_none]
 rw [hd, zero_none]
 by_cases hm : makesC c.kind = false
 ·rw [if_pos ⟨rfl, hm⟩, if_pos hm]
 ·rw [if_neg (fun hh => hm hh.2), if_neg (by simp), if_neg hm]
theorem done_e {v : Va} {c : Cmd} (h : May v) (hc : ccOf c = 0) (h18 : c.kind ≤ 18) : (doneVal v c).2.2 = 0 := by
 rcases h with rfl | h
 ·rw [done_zero hc h18]; split <;> rfl
 ·rw [done_some h hc h18]; split <;> rfl
end Go.Proofs.YtgpkgegpcgiokaaGreatDoor
namespace Go.Proofs.YtgpkgegpcgiokaaGreatDoor
set_option linter.all false
open Go.RowKit
/-- Do, at a value that may be. -/
theorem Do_may (v : Va) (c : Cmd) (hv : May v) (A1 A2 A3 : Option Addr) (n1 c1 n2 c2 n3 c3 : Nat) (w : World) (h : VSl w v A1 n1 c1 A2 n2 c2 A3 n3 c3) :
  Calls Tryz.prog 121 #[.agg #[.int .i64 v.kind, .string v.text, .int .i64 v.count, .slice A1 n1 c1, .slice A2 n2 c2, .slice A3 n3 c3], .agg #[.int .i64 c.kind, .string c.key, .string c.field, .string c.text, .int .i64 c.n]] w (DonePost (doneVal v c) w) := by
 have s := may_sizes hv
 have e1 := h.n1_; have e2 := h.n2_; have e3 := h.n3_
 exact Do_any v c A1 A2 A3 n1 c1 n2 c2 n3 c3 w h (by omega) (by omega) (by omega)
end Go.Proofs.YtgpkgegpcgiokaaGreatDoor
namespace Go.Proofs.YtgpkgegpcgiokaaGreatDoor
set_option linter.all false
open Go.RowKit
section
variable {v : Va} {c : Cmd}
def Coded (r : Re) : Prop := r.code = 0 ∨ ∃ k, r = failR k ∧ (k = 5 ∨ k = 6 ∨ k = 7)
theorem Coded.ok {r : Re} (h : r.code = 0) : Coded r := .inl h
theorem Coded.no {k : Int} (h : k = 5 ∨ k = 6 ∨ k = 7) : Coded (failR k) := .inr ⟨k, rfl, h⟩
end
end Go.Proofs.YtgpkgegpcgiokaaGreatDoor

