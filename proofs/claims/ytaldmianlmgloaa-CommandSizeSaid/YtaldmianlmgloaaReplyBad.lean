import Derived.Test.YtaldmianlmgloaaReply
import Derived.Test.YtaldmianlmgloaaRows
namespace Go.Proofs.Ytaldmianlmgloaa
set_option linter.all false
open Go.RowKit
theorem u8_info : (Try.prog.info? 5).map (fun i => (i.zero, i.size, i.bytes)) = some (some (.int .u8 0), 1, 1) := by kernel_rfl
theorem str_info : (Try.prog.info? 9).map (fun i => (i.zero, i.size, i.bytes)) = some (some (.string ByteArray.empty), 1, 16) := by kernel_rfl
theorem zeros_string (k : Nat) (w : World) : (convert 28 9 (.slice (some ⟨w.heap.size, 0, none⟩) k k)).run Try.prog (w.alloc (.cells (madeCells (#[Value.int .u8 0]) k) 5)) =
    .ok (.string (strOfNums (List.replicate k 0))) (w.alloc (.cells (madeCells (#[Value.int .u8 0]) k) 5)) :=
  run_convert_bytes_arg _ _ _ Try.underlying28 Try.underlying5 _ 0 k k _ (by simp) (fun i hi => by
    rw [Nat.zero_add, made_cell _ _ _ _ _ hi]; simp [List.getD, hi]) _ Try.underlying9
theorem empties_seg (k : Nat) (w : World) : Seg (w.alloc (.cells (madeCells #[Value.string ByteArray.empty] k) 9)) 1 (some ⟨w.heap.size, 0, none⟩) (strRows (List.replicate k ByteArray.empty)) := by
  intro _
  refine ⟨_, _, rfl, by simp, fun i r hr j u hu => ?_⟩
  simp only [strRows, List.map_replicate, List.getElem?_replicate] at hr
  split at hr
  · rename_i hi
    injection hr with hr
    subst hr
    match j, hu with
    | 0, hu => simp at hu; subst hu; simp only [Nat.mul_one, Nat.add_zero, Nat.zero_add]; exact made_cell _ _ _ _ _ hi
  · cases hr
theorem cr_kind (k : Nat) : (checkReply (k : Int) { data := #[] } 0 [] == 3) = decide (13 < (k : Int)) := by
  unfold checkReply
  by_cases h : 13 < (k : Int)
  · rw [if_pos (by omega)]; simp; omega
  · rw [if_neg (by omega), if_neg (by simp [ByteArray.size]), if_neg (by simp), if_neg (by omega)]; simp; omega
theorem cr_text (k : Nat) : (checkReply 0 (strOfNums (List.replicate k 0)) 0 [] == 1) = decide (20 < (k : Int)) := by
  unfold checkReply
  rw [if_neg (by omega), strOfNums_size, List.length_replicate]
  by_cases h : 20 < k
  · rw [if_pos (by omega)]; simp; omega
  · rw [if_neg (by simp; omega), if_neg (by simp), if_neg (by omega)]; simp; omega
theorem cr_list (k : Nat) : (checkReply 0 { data := #[] } 0 (List.replicate k ByteArray.empty) == 1) = decide (20 < (k : Int)) := by
  unfold checkReply
  rw [if_neg (by omega), List.length_replicate]
  by_cases h : 20 < k
  · rw [if_pos (by omega)]; simp; omega
  · rw [if_neg (by simp [ByteArray.size]; omega), if_neg (by simp), if_neg (by omega)]; simp; omega
theorem cr_num (q : Int) (h0 : 0 ≤ q) (h1 : q < 3) : (checkReply 0 { data := #[] } (1099511627776 + q - 1) [] == 2) = (q == 2) := by
  have e : checkReply 0 { data := #[] } (1099511627776 + q - 1) [] = if q = 2 then 2 else 0 := by
    unfold checkReply
    rw [if_neg (by omega), if_neg (by simp [ByteArray.size]), if_neg (by simp only [List.any_nil]; decide)]
    by_cases h : q = 2
    · rw [if_pos (by omega), if_pos h]
    · rw [if_neg (by omega), if_neg h]
  rw [e]
  by_cases h : q = 2 <;> simp [h]
theorem replyBad_walk (n m : Int) (w : World) (h1 : -9223372036854775808 ≤ n) (h2 : n ≤ 9223372036854775807) (h3 : -9223372036854775808 ≤ m) (h4 : m ≤ 9223372036854775807) :
    Calls Try.prog 3 #[.int .i64 n, .int .i64 m] w fun e w' => e = .returned (.bool true) ∧ Below w.heap.size w w' := by
  have p1 := picked_lo n 30 (by omega)
  have p2 := picked_hi n 30 (by omega)
  have q1 := picked_lo m 3 (by omega)
  have q2 := picked_hi m 3 (by omega)
  have hp := fun w => picked_any n 30 w h1 h2 (by omega) (by omega)
  obtain ⟨k, hk⟩ := Int.eq_ofNat_of_zero_le p1
  rw [hk] at p1 p2 hp
  have HP := hide hp; clear hp
  clear hk
  have mk1 := make_var Try.underlying28 u8_info k (by omega) (by omega)
  have mk2 := make_var Try.underlying25 str_info k (by omega) (by omega)
  have cv := zeros_string k
  simp only [Nat.mul_one] at mk1 mk2
  go_enter Try.func3, Try.ntmps3
  go_wp2_with fail
  refine (HP.out _).mono ?_
  rintro e w' ⟨rfl, rfl⟩
  go_wp2_with fail
  refine (CheckReply_any _ _ _ _ _ _ [] _ (by simp [ByteArray.size]) rfl (by simp) Seg.nil).mono ?_
  rintro e w1 ⟨rfl, hb1⟩
  go_wp2_with fail
  refine (CheckReply_any _ _ _ _ _ _ [] _ (by rw [strOfNums_size]; simp; unfold maxLen; omega) rfl (by simp) Seg.nil).mono ?_
  rintro e w2 ⟨rfl, hb2⟩
  go_wp2_with fail
  refine (CheckReply_any _ _ _ _ _ _ (List.replicate k ByteArray.empty) _ (by simp [ByteArray.size]) (by simp) (by simp; unfold maxLen; omega) (empties_seg k _)).mono ?_
  rintro e w3 ⟨rfl, hb3⟩
  go_wp2_with fail
  refine (picked_any _ _ _ h3 h4 (by omega) (by omega)).mono ?_
  rintro e w' ⟨rfl, rfl⟩
  go_wp2_with fail
  refine (CheckReply_any _ _ _ _ _ _ [] _ (by simp [ByteArray.size]) rfl (by simp) Seg.nil).mono ?_
  rintro e w4 ⟨rfl, hb4⟩
  have e1 := cr_kind k
  have e2 := cr_text k
  have e3 := cr_list k
  have e4 := cr_num _ q1 q2
  go_wp2_with fail
  refine (picked_any _ _ _ h3 h4 (by omega) (by omega)).mono ?_
  rintro e w' ⟨rfl, rfl⟩
  go_wp2_with fail
  go_ret
  exact ⟨rfl, (by repeat (first | (with_reducible exact Below.refl _ _) | (with_reducible assumption) | (with_reducible refine Below.drew ?_) | (with_reducible refine bdrewN ?_ _) | (with_reducible refine balloc ?_ _) | ((with_reducible refine bset ?_ ?_ _); rotate_left; (focus first | exact Nat.le_refl _ | (simp; done) | (simp; omega) | omega)) | (with_reducible refine bstep ?_ (by with_reducible assumption))))⟩
end Go.Proofs.Ytaldmianlmgloaa
