/- rostrumkeep.CommandSize returns true for every input and leaves its arguments as they were; no condition. -/
import Derived.Test.YtaldmianlmgloaaCmd
import Derived.Test.YtaldmianlmgloaaReplyBad
import Derived.Test.YtaldmianlmgloaaLaw
import Derived.Test.YtaldmianlmgloaaArgs
namespace Go.Proofs.Ytaldmianlmgloaa
set_option linter.all false
open Go.ChangeShapes Go.WideShapes Go.ChangeAt Go.RowKit
def zs (k : Nat) : ByteArray := strOfNums (List.replicate k 0)
theorem zs_size (k : Nat) : (zs k).size = k := by simp [zs, strOfNums_size]
theorem zeros_at (g k : Nat) (W : World) (h : ∀ i, i < k → W.cell? ⟨g, i, none⟩ = some (.int .u8 0)) : (convert 28 9 (.slice (some ⟨g, 0, none⟩) k k)).run Try.prog W = .ok (.string (zs k)) W :=
  run_convert_bytes_arg _ _ _ Try.underlying28 Try.underlying5 _ 0 k k _ (by simp) (fun i hi => by
    rw [Nat.zero_add, h i hi]; simp [List.getD, hi]) _ Try.underlying9
theorem emp0 : ({ data := #[] } : ByteArray).size = 0 := rfl
theorem cs_key (k : Nat) : checkCommand 2 (zs k) { data := #[] } { data := #[] } 0 = if k < 1 ∨ 12 < k then 1 else 0 := by
  have hb : bare 2 (zs k) { data := #[] } { data := #[] } 0 = true := by simp [bare, cmdKey, cmdText, cmdField, cmdN]
  have hf : fieldOk (zs k) = decide (1 ≤ k ∧ k ≤ 12) := by rw [Bool.eq_iff_iff]; simp [fieldOk, zs_size]
  unfold checkCommand
  rw [if_neg (by omega), if_neg (by rw [hb]; simp), hf]
  by_cases h : k < 1 ∨ 12 < k
  · rw [if_pos (Or.inl ⟨by decide, by simp; omega⟩), if_pos h]
  · rw [if_neg (by simp [cmdKey, cmdField, textOk, emp0]; omega), if_neg (by decide), if_neg h]
theorem cs_field (k : Nat) : checkCommand 5 { data := #[107] } (zs k) { data := #[] } 0 = if k < 1 ∨ 12 < k then 1 else 0 := by
  have hb : bare 5 { data := #[107] } (zs k) { data := #[] } 0 = true := by simp [bare, cmdKey, cmdText, cmdField, cmdN]
  have hf : fieldOk (zs k) = decide (1 ≤ k ∧ k ≤ 12) := by rw [Bool.eq_iff_iff]; simp [fieldOk, zs_size]
  have hk : fieldOk { data := #[107] } = true := by decide
  unfold checkCommand
  rw [if_neg (by omega), if_neg (by rw [hb]; simp), hf, hk]
  by_cases h : k < 1 ∨ 12 < k
  · rw [if_pos (Or.inr (Or.inl ⟨by decide, by simp; omega⟩)), if_pos h]
  · rw [if_neg (by simp [cmdKey, cmdField, textOk, emp0]; omega), if_neg (by decide), if_neg h]
theorem cs_text (k : Nat) : checkCommand 1 { data := #[107] } { data := #[] } (zs k) 0 = if 20 < k then 1 else 0 := by
  have hb : bare 1 { data := #[107] } { data := #[] } (zs k) 0 = true := by simp [bare, cmdKey, cmdText, cmdField, cmdN]
  have hf : textOk (zs k) = decide (k ≤ 20) := by simp [textOk, zs_size]
  have hk : fieldOk { data := #[107] } = true := by decide
  unfold checkCommand
  rw [if_neg (by omega), if_neg (by rw [hb]; simp), hf, hk]
  by_cases h : 20 < k
  · rw [if_pos (Or.inr (Or.inr (by simp; omega))), if_pos h]
  · rw [if_neg (by simp [cmdKey, cmdField]; omega), if_neg (by decide), if_neg h]
theorem cs_num (q : Int) (h0 : 0 ≤ q) (h1 : q < 3) : checkCommand 3 { data := #[107] } { data := #[] } { data := #[] } (1099511627776 + q - 1) = if q = 2 then 2 else 0 := by
  have hb : bare 3 { data := #[107] } { data := #[] } { data := #[] } (1099511627776 + q - 1) = true := by simp [bare, cmdKey, cmdText, cmdField, cmdN]
  have hk : fieldOk { data := #[107] } = true := by decide
  unfold checkCommand
  rw [if_neg (by omega), if_neg (by rw [hb]; simp), hk, if_neg (by simp [cmdKey, cmdField, textOk, emp0])]
  by_cases h : q = 2
  · rw [if_pos (by simp [countOk]; omega), if_pos h]
  · rw [if_neg (by simp [countOk]; omega), if_neg h]
set_option maxHeartbeats 2000000 in
theorem commandSize_walk (n m : Int) (w : World) (h1 : -9223372036854775808 ≤ n) (h2 : n ≤ 9223372036854775807) (h3 : -9223372036854775808 ≤ m) (h4 : m ≤ 9223372036854775807) :
    Calls Try.prog 4 #[.int .i64 n, .int .i64 m] w fun e w' => e = .returned (.bool true) ∧ Below w.heap.size w w' := by
  have p1 := picked_lo n 30 (by omega)
  have p2 := picked_hi n 30 (by omega)
  have q1 := picked_lo m 3 (by omega)
  have q2 := picked_hi m 3 (by omega)
  have hp := fun w => picked_any n 30 w h1 h2 (by omega) (by omega)
  have hq := fun w => picked_any m 3 w h3 h4 (by omega) (by omega)
  obtain ⟨k, hk⟩ := Int.eq_ofNat_of_zero_le p1
  rw [hk] at p1 p2 hp
  generalize picked m 3 = q at q1 q2 hq
  have HP := hide hp; clear hp hk
  have HQ := hide hq; clear hq
  have e1 := cs_key k
  have e2 := cs_text k
  have e3 := cs_field k
  have e4 := cs_num q q1 q2
  have E1 := hide e1; have E2 := hide e2; have E3 := hide e3; have E4 := hide e4
  clear e1 e2 e3 e4
  have mk1 := make_var Try.underlying28 u8_info k (by omega) (by omega)
  simp only [Nat.mul_one] at mk1
  have hcl : ∀ i, i < k → (w.alloc (.cells (madeCells #[Value.int .u8 0] k) 5)).cell? ⟨w.heap.size, i, none⟩ = some (.int .u8 0) := fun i hi => made_cell w _ k i _ hi
  have cv0 := zeros_at w.heap.size k _ hcl
  have HCL := hide hcl; clear hcl
  go_enter Try.func4, Try.ntmps4
  go_wp2_with fail
  refine (HP.out _).mono ?_
  rintro e w' ⟨rfl, rfl⟩
  go_wp2_with fail
  refine (CheckCommand_any _ _ _ _ _ _).mono ?_
  rintro e w1 ⟨rfl, hb1⟩
  have hl1 : w.heap.size < w1.heap.size := by have := hb1.size; simp at this; omega
  have cv1 := zeros_at w.heap.size k w1 (fun i hi => (hb1.cell (p := ⟨w.heap.size, i, none⟩) (by simp)).trans (HCL.out i hi))
  go_wp2_with fail
  refine (CheckCommand_any _ _ _ _ _ _).mono ?_
  rintro e w2 ⟨rfl, hb2⟩
  have cv2 := zeros_at w.heap.size k w2 (fun i hi => (hb2.cell (p := ⟨w.heap.size, i, none⟩) hl1).trans ((hb1.cell (p := ⟨w.heap.size, i, none⟩) (by simp)).trans (HCL.out i hi)))
  go_wp2_with fail
  refine (CheckCommand_any _ _ _ _ _ _).mono ?_
  rintro e w3 ⟨rfl, hb3⟩
  go_wp2_with fail
  refine (HQ.out _).mono ?_
  rintro e w' ⟨rfl, rfl⟩
  go_wp2_with fail
  refine (CheckCommand_any _ _ _ _ _ _).mono ?_
  rintro e w4 ⟨rfl, hb4⟩
  have E1' := E1.out; have E2' := E2.out; have E3' := E3.out; have E4' := E4.out
  have hcase : k < 1 ∨ (1 ≤ k ∧ k ≤ 12) ∨ (12 < k ∧ k ≤ 20) ∨ 20 < k := by omega
  have hqq : q = 2 ∨ q = 0 ∨ q = 1 := by omega
  rcases hcase with hc | hc | hc | hc <;> rcases hqq with rfl | rfl | rfl
  all_goals first
    | rw [if_pos (by omega)] at E1' E3'
    | rw [if_neg (by omega)] at E1' E3'
  all_goals first
    | rw [if_pos (by omega)] at E2'
    | rw [if_neg (by omega)] at E2'
  all_goals first
    | rw [if_pos (by omega)] at E4'
    | rw [if_neg (by omega)] at E4'
  all_goals rw [E1', E2', E3', E4']
  all_goals go_wp2_with (refine (HQ.out _).mono ?_; rintro e w' ⟨rfl, rfl⟩)
  all_goals go_ret
  all_goals refine ⟨ret_bool ?_, (by repeat (first | (with_reducible exact Below.refl _ _) | (with_reducible assumption) | (with_reducible refine Below.drew ?_) | (with_reducible refine bdrewN ?_ _) | (with_reducible refine balloc ?_ _) | ((with_reducible refine bset ?_ ?_ _); rotate_left; (focus first | exact Nat.le_refl _ | (simp; done) | (simp; omega) | omega)) | (with_reducible refine bstep ?_ (by with_reducible assumption))))⟩
  all_goals first | rfl | (simp; done) | (simp; omega)
set_option maxRecDepth 100000 in
theorem commandSize_lifted (os : Os) (started : os.Started) (H : Type) (enc : TypeId × Value → H) :
  ReturnsInHanded {} Try.checked os 4 .any (Rows.commandSizeSpec.pre6 enc Try.prog Try.f4 Rows.commandSizeRow.domain false) (Rows.commandSizeSpec.post enc Try.prog Try.f4 false true false false) := by
  refine returnsInHanded_of_change (C := Try.checked) Try.own started (by kernel_rfl) Try.func4 (ChangeSpec.witness6 (enc := enc) (C := Try.checked) false ⟨#[], #[.int .i64 0, .int .i64 0], []⟩ 8 (by kernel_rfl) (by kernel_rfl) (by kernel_rfl) (by kernel_rfl)) ?_
  intro W base args ds gs before hval0 hW hcnd _
  have hval : ∀ (j : Nat) t v, Try.f4.params[j]? = some t → args[j]? = some v → Value.okWide Try.prog W .any base t v := hval0
  have hW' := hW
  obtain ⟨p, q, hA0, hV, rfl, hfz, hnd⟩ := hW
  have hA : DataW.TrodAll enc Try.prog W 0 (fun _ => true) true Try.f4.params.toList args.toList ds p := hA0
  rw [Try.params4] at hA hval
  obtain ⟨rfl, rfl⟩ := trodVars_none hV
  clear hA0 hval0 hcnd hV hfz hnd
  obtain ⟨v0, v1, d0, d1, p0, p1, rfl, rfl, rfl, h0, h1⟩ := trodAll_two hA
  obtain ⟨n, rfl, rfl, rfl, w0⟩ := open_int Try.underlying3 (hval 0 3 v0 rfl rfl) h0
  obtain ⟨m, rfl, rfl, rfl, w1⟩ := open_int Try.underlying3 (hval 1 3 v1 rfl rfl) h1
  refine (commandSize_walk n m W (i64_bounds w0).1 (i64_bounds w0).2 (i64_bounds w1).1 (i64_bounds w1).2).mono fun e W' ⟨he, hb⟩ => ?_
  subst he
  exact ⟨_, rfl, post_law Try.laidOut hW' rfl (by kernel_rfl) rfl Try.underlying4 (fun _ => rfl) (fun _ => rfl) (fun _ => rfl) hb⟩
theorem commandSize_holds : Rows.CommandSizeSaid := OpenClaim.holds_of_wide 4 Try.f4 rfl rfl rfl rfl rfl rfl rfl ⟨rfl, rfl, rfl, rfl, rfl⟩ rfl rfl rfl rfl rfl (by kernel_rfl) Try.func4 (by kernel_rfl)
  (of_decide_eq_true (by kernel_rfl)) (by unfold Func.isWrapper; first | (rw [if_pos (by decide +kernel)]; kernel_rfl) | (rw [if_neg (by decide +kernel)]; exact ⟨rfl, rfl⟩))
  (fun os started H enc _ => commandSize_lifted os started H enc)
#print axioms commandSize_holds
end Go.Proofs.Ytaldmianlmgloaa
