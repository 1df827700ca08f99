/- rostrumkeep.CallBad returns true for every input and leaves its arguments as they were; no condition. -/
import Derived.Test.YtaldmianlmgloaaCall
namespace Go.Proofs.Ytaldmianlmgloaa
set_option linter.all false
open Go.RowKit
theorem cb_open (k : Int) (h : 0 ≤ k) : (checkCall 0 k 0 { data := #[] } { data := #[] } { data := #[] } 0 == 8) = decide (0 < k) := by
  have e : zeroCall k 0 { data := #[] } { data := #[] } { data := #[] } 0 = (k == 0) := by simp [zeroCall]
  unfold checkCall
  rw [if_pos (by decide), e]
  by_cases h0 : k = 0
  · subst h0; decide
  · rw [if_neg (by simpa using h0)]; simp; omega
theorem cb_one (k : Int) (h : 0 ≤ k) (h9 : k < 9) {kind : Int} {key field text : ByteArray} {n : Int} (hc : checkCommand kind key field text n = 0) : (checkCall 1 k kind key field text n == 2) = (k == 0) := by
  unfold checkCall
  rw [if_neg (by decide), hc]
  by_cases h0 : k = 0
  · subst h0; decide
  · rw [if_neg (by simp [numberOk]; omega)]; simp [h0]
theorem cb_neg (k : Int) (h : 0 ≤ k) {kind : Int} {key field text : ByteArray} {n : Int} : (checkCall (-1 - k) 1 kind key field text n == 2) = true := by
  unfold checkCall
  rw [if_neg (by simp; omega), if_pos (by simp [numberOk]; omega)]; decide
theorem cb_kind : (checkCall 1 1 0 { data := #[] } { data := #[] } { data := #[] } 0 == 3) = true := by
  unfold checkCall checkCommand
  rw [if_neg (by decide), if_neg (by simp [numberOk]), if_pos (by omega)]; decide
set_option maxHeartbeats 1000000 in
theorem callBad_walk (kind key field n : Int) (text : ByteArray) (m : Int) (w : World) (k1 : -9223372036854775808 ≤ kind) (k2 : kind ≤ 9223372036854775807) (y1 : -9223372036854775808 ≤ key) (y2 : key ≤ 9223372036854775807)
    (f1 : -9223372036854775808 ≤ field) (f2 : field ≤ 9223372036854775807) (n1 : -9223372036854775808 ≤ n) (n2 : n ≤ 9223372036854775807) (ht : text.size ≤ maxLen) (m1 : -9223372036854775808 ≤ m) (m2 : m ≤ 9223372036854775807) :
    Calls Try.prog 5 #[.agg #[.int .i64 kind, .int .i64 key, .int .i64 field, .int .i64 n, .string text], .int .i64 m] w fun e w' => e = .returned (.bool true) ∧ Below w.heap.size w w' := by
  have q1 := picked_lo m 9 (by omega)
  have q2 := picked_hi m 9 (by omega)
  have hcm := cmd_ok kind key field n text
  have hC := fun w => Command_any kind key field n text w k1 k2 y1 y2 f1 f2 n1 n2 ht (picked kind 22) rfl (picked_lo _ _ (by omega)) (picked_hi _ _ (by omega))
  generalize cmdOf kind key field n text = c at hC hcm
  obtain ⟨ck, cy, cf, ct, cn⟩ := c
  simp only [cmdV] at hC
  simp only at hcm
  have e1 := cb_open _ q1
  have e2 := cb_one _ q1 q2 hcm
  have e3 := cb_neg (kind := ck) (key := cy) (field := cf) (text := ct) (n := cn) _ q1
  have e4 := cb_kind
  have HCC := hide hC; clear hC hcm
  go_enter Try.func5, Try.ntmps5
  go_wp2_with (first
    | (go_at_call 15; refine (picked_any _ _ _ (by omega) (by omega) (by omega) (by omega)).mono ?_; rintro e w' ⟨rfl, rfl⟩))
  refine (CheckCall_any _ _ _ _ _ _ _ _).mono ?_
  rintro e w1 ⟨rfl, hb1⟩
  obtain ⟨hc1, hf1⟩ := bcell hb1
  have hz1 := hb1.size
  simp at hz1
  have hz : w.heap.size < w1.heap.size := by omega
  go_wp2_with fail
  refine (HCC.out _).mono ?_
  rintro e w2 ⟨rfl, hb2⟩
  obtain ⟨hc2, hf2⟩ := bcell hb2
  have hz2 := hb2.size
  have hz2' : w.heap.size < w2.heap.size := by omega
  go_wp2_with fail
  refine (CheckCall_any _ _ _ _ _ _ _ _).mono ?_
  rintro e w3 ⟨rfl, hb3⟩
  obtain ⟨hc3, hf3⟩ := bcell hb3
  have hz3 := hb3.size
  have hz3' : w.heap.size < w3.heap.size := by omega
  go_wp2_with fail
  refine (HCC.out _).mono ?_
  rintro e w4 ⟨rfl, hb4⟩
  go_wp2_with fail
  refine (CheckCall_any _ _ _ _ _ _ _ _).mono ?_
  rintro e w5 ⟨rfl, hb5⟩
  go_wp2_with fail
  refine (CheckCall_any _ _ _ _ _ _ _ _).mono ?_
  rintro e w6 ⟨rfl, hb6⟩
  go_wp2_with fail
  go_ret
  exact ⟨rfl, (by repeat (first | (with_reducible exact Below.refl _ _) | (with_reducible assumption) | (with_reducible refine Below.drew ?_) | (with_reducible refine bdrewN ?_ _) | (with_reducible refine balloc ?_ _) | ((with_reducible refine bset ?_ ?_ _); rotate_left; (focus first | exact Nat.le_refl _ | (simp; done) | (simp; omega) | omega)) | (with_reducible refine bstep ?_ (by with_reducible assumption))))⟩
end Go.Proofs.Ytaldmianlmgloaa
