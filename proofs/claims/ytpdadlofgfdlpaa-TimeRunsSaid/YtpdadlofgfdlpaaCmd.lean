/- value.CheckCommand, kind by kind; the small tests beside it. -/
import Derived.Test.YtpdadlofgfdlpaaReply
namespace Go.Proofs.Ytpdadlofgfdlpaa
set_option linter.all false
open Go.RowKit
def fieldOk (s : ByteArray) : Bool := decide (1 ≤ s.size) && decide (s.size ≤ 12)
def textOk (s : ByteArray) : Bool := decide (s.size ≤ 20)
def countOk (n : Int) : Bool := decide (-1099511627776 ≤ n) && decide (n ≤ 1099511627776)
def numberOk (n : Int) : Bool := decide (1 ≤ n) && decide (n ≤ 1048576)
theorem fieldOk_any (s : ByteArray) (w : World) : Calls Try.prog 70 #[.string s] w fun e w' => e = .returned (.bool (fieldOk s)) ∧ w = w' := by
  go_enter Try.func70, Try.ntmps70
  go_wp2_with fail
  all_goals go_ret
  all_goals refine ⟨ret_bool ?_, rfl⟩
  all_goals (rw [Bool.eq_iff_iff]; simp [fieldOk]; omega)
theorem textOk_any (s : ByteArray) (w : World) : Calls Try.prog 65 #[.string s] w fun e w' => e = .returned (.bool (textOk s)) ∧ w = w' := by
  go_enter Try.func65, Try.ntmps65
  go_wp2_with fail
  all_goals go_ret
  all_goals exact ⟨ret_bool (by simp [textOk]; try omega), rfl⟩
theorem countOk_any (n : Int) (w : World) : Calls Try.prog 73 #[.int .i64 n] w fun e w' => e = .returned (.bool (countOk n)) ∧ w = w' := by
  go_enter Try.func73, Try.ntmps73
  go_wp2_with fail
  all_goals go_ret
  all_goals exact ⟨ret_bool (by simp [countOk]; try omega), rfl⟩
def cmdText (k : Int) : Bool := [1, 4, 7, 8, 11, 12, 13, 14, 15, 16].contains k
def cmdN (k : Int) : Bool := [3, 14, 20].contains k
def cmdField (k : Int) : Bool := [4, 5, 6].contains k
def cmdKey (k : Int) : Bool := !(k == 22)
def bare (k : Int) (key field text : ByteArray) (n : Int) : Bool :=
  (cmdKey k || key.toList == []) && (cmdField k || field.toList == []) && (cmdText k || text.toList == []) && (cmdN k || n == 0)
def checkCommand (k : Int) (key field text : ByteArray) (n : Int) : Int :=
  if k < 1 ∨ 22 < k then 3 else if bare k key field text n = false then 8
  else if (cmdKey k = true ∧ fieldOk key = false) ∨ (cmdField k = true ∧ fieldOk field = false) ∨ textOk text = false then 1
  else if countOk n = false then 2 else 0

set_option maxHeartbeats 1000000 in
theorem cc1 (key field text : ByteArray) (n : Int) (w : World) :
    Calls Try.prog 50 #[.agg #[.int .i64 1, .string key, .string field, .string text, .int .i64 n]] w fun e w' => e = .returned (.int .i64 (checkCommand 1 key field text n)) ∧ Below w.heap.size w w' := by
  go_enter Try.func50, Try.ntmps50
  go_wp2_with (first | (go_at_call 70; refine (fieldOk_any _ _).mono ?_; rintro e w' ⟨rfl, rfl⟩) | (go_at_call 65; refine (textOk_any _ _).mono ?_; rintro e w' ⟨rfl, rfl⟩) | (go_at_call 73; refine (countOk_any _ _).mono ?_; rintro e w' ⟨rfl, rfl⟩))
  all_goals go_ret
  all_goals refine ⟨ret_int ?_, (by repeat (first | (with_reducible exact Below.refl _ _) | (with_reducible assumption) | (with_reducible refine Below.drew ?_) | (with_reducible refine bdrewN ?_ _) | (with_reducible refine balloc ?_ _) | ((with_reducible refine bset ?_ ?_ _); rotate_left; (focus first | exact Nat.le_refl _ | (simp; done) | (simp; omega) | omega)) | (with_reducible refine bstep ?_ (by with_reducible assumption)) | (with_reducible refine Below.trans ?_ (by with_reducible assumption))))⟩
  all_goals simp_all [checkCommand, bare, cmdText, cmdN, cmdField, cmdKey]
set_option maxHeartbeats 1000000 in
theorem cc2 (key field text : ByteArray) (n : Int) (w : World) :
    Calls Try.prog 50 #[.agg #[.int .i64 2, .string key, .string field, .string text, .int .i64 n]] w fun e w' => e = .returned (.int .i64 (checkCommand 2 key field text n)) ∧ Below w.heap.size w w' := by
  go_enter Try.func50, Try.ntmps50
  go_wp2_with (first | (go_at_call 70; refine (fieldOk_any _ _).mono ?_; rintro e w' ⟨rfl, rfl⟩) | (go_at_call 65; refine (textOk_any _ _).mono ?_; rintro e w' ⟨rfl, rfl⟩) | (go_at_call 73; refine (countOk_any _ _).mono ?_; rintro e w' ⟨rfl, rfl⟩))
  all_goals go_ret
  all_goals refine ⟨ret_int ?_, (by repeat (first | (with_reducible exact Below.refl _ _) | (with_reducible assumption) | (with_reducible refine Below.drew ?_) | (with_reducible refine bdrewN ?_ _) | (with_reducible refine balloc ?_ _) | ((with_reducible refine bset ?_ ?_ _); rotate_left; (focus first | exact Nat.le_refl _ | (simp; done) | (simp; omega) | omega)) | (with_reducible refine bstep ?_ (by with_reducible assumption)) | (with_reducible refine Below.trans ?_ (by with_reducible assumption))))⟩
  all_goals simp_all [checkCommand, bare, cmdText, cmdN, cmdField, cmdKey]
set_option maxHeartbeats 1000000 in
theorem cc3 (key field text : ByteArray) (n : Int) (w : World) :
    Calls Try.prog 50 #[.agg #[.int .i64 3, .string key, .string field, .string text, .int .i64 n]] w fun e w' => e = .returned (.int .i64 (checkCommand 3 key field text n)) ∧ Below w.heap.size w w' := by
  go_enter Try.func50, Try.ntmps50
  go_wp2_with (first | (go_at_call 70; refine (fieldOk_any _ _).mono ?_; rintro e w' ⟨rfl, rfl⟩) | (go_at_call 65; refine (textOk_any _ _).mono ?_; rintro e w' ⟨rfl, rfl⟩) | (go_at_call 73; refine (countOk_any _ _).mono ?_; rintro e w' ⟨rfl, rfl⟩))
  all_goals go_ret
  all_goals refine ⟨ret_int ?_, (by repeat (first | (with_reducible exact Below.refl _ _) | (with_reducible assumption) | (with_reducible refine Below.drew ?_) | (with_reducible refine bdrewN ?_ _) | (with_reducible refine balloc ?_ _) | ((with_reducible refine bset ?_ ?_ _); rotate_left; (focus first | exact Nat.le_refl _ | (simp; done) | (simp; omega) | omega)) | (with_reducible refine bstep ?_ (by with_reducible assumption)) | (with_reducible refine Below.trans ?_ (by with_reducible assumption))))⟩
  all_goals simp_all [checkCommand, bare, cmdText, cmdN, cmdField, cmdKey]
set_option maxHeartbeats 1000000 in
theorem cc5 (key field text : ByteArray) (n : Int) (w : World) :
    Calls Try.prog 50 #[.agg #[.int .i64 5, .string key, .string field, .string text, .int .i64 n]] w fun e w' => e = .returned (.int .i64 (checkCommand 5 key field text n)) ∧ Below w.heap.size w w' := by
  go_enter Try.func50, Try.ntmps50
  go_wp2_with (first | (go_at_call 70; refine (fieldOk_any _ _).mono ?_; rintro e w' ⟨rfl, rfl⟩) | (go_at_call 65; refine (textOk_any _ _).mono ?_; rintro e w' ⟨rfl, rfl⟩) | (go_at_call 73; refine (countOk_any _ _).mono ?_; rintro e w' ⟨rfl, rfl⟩))
  all_goals go_ret
  all_goals refine ⟨ret_int ?_, (by repeat (first | (with_reducible exact Below.refl _ _) | (with_reducible assumption) | (with_reducible refine Below.drew ?_) | (with_reducible refine bdrewN ?_ _) | (with_reducible refine balloc ?_ _) | ((with_reducible refine bset ?_ ?_ _); rotate_left; (focus first | exact Nat.le_refl _ | (simp; done) | (simp; omega) | omega)) | (with_reducible refine bstep ?_ (by with_reducible assumption)) | (with_reducible refine Below.trans ?_ (by with_reducible assumption))))⟩
  all_goals simp_all [checkCommand, bare, cmdText, cmdN, cmdField, cmdKey]
set_option maxHeartbeats 1000000 in
theorem cc6 (key field text : ByteArray) (n : Int) (w : World) :
    Calls Try.prog 50 #[.agg #[.int .i64 6, .string key, .string field, .string text, .int .i64 n]] w fun e w' => e = .returned (.int .i64 (checkCommand 6 key field text n)) ∧ Below w.heap.size w w' := by
  go_enter Try.func50, Try.ntmps50
  go_wp2_with (first | (go_at_call 70; refine (fieldOk_any _ _).mono ?_; rintro e w' ⟨rfl, rfl⟩) | (go_at_call 65; refine (textOk_any _ _).mono ?_; rintro e w' ⟨rfl, rfl⟩) | (go_at_call 73; refine (countOk_any _ _).mono ?_; rintro e w' ⟨rfl, rfl⟩))
  all_goals go_ret
  all_goals refine ⟨ret_int ?_, (by repeat (first | (with_reducible exact Below.refl _ _) | (with_reducible assumption) | (with_reducible refine Below.drew ?_) | (with_reducible refine bdrewN ?_ _) | (with_reducible refine balloc ?_ _) | ((with_reducible refine bset ?_ ?_ _); rotate_left; (focus first | exact Nat.le_refl _ | (simp; done) | (simp; omega) | omega)) | (with_reducible refine bstep ?_ (by with_reducible assumption)) | (with_reducible refine Below.trans ?_ (by with_reducible assumption))))⟩
  all_goals simp_all [checkCommand, bare, cmdText, cmdN, cmdField, cmdKey]
set_option maxHeartbeats 1000000 in
theorem cc7 (key field text : ByteArray) (n : Int) (w : World) :
    Calls Try.prog 50 #[.agg #[.int .i64 7, .string key, .string field, .string text, .int .i64 n]] w fun e w' => e = .returned (.int .i64 (checkCommand 7 key field text n)) ∧ Below w.heap.size w w' := by
  go_enter Try.func50, Try.ntmps50
  go_wp2_with (first | (go_at_call 70; refine (fieldOk_any _ _).mono ?_; rintro e w' ⟨rfl, rfl⟩) | (go_at_call 65; refine (textOk_any _ _).mono ?_; rintro e w' ⟨rfl, rfl⟩) | (go_at_call 73; refine (countOk_any _ _).mono ?_; rintro e w' ⟨rfl, rfl⟩))
  all_goals go_ret
  all_goals refine ⟨ret_int ?_, (by repeat (first | (with_reducible exact Below.refl _ _) | (with_reducible assumption) | (with_reducible refine Below.drew ?_) | (with_reducible refine bdrewN ?_ _) | (with_reducible refine balloc ?_ _) | ((with_reducible refine bset ?_ ?_ _); rotate_left; (focus first | exact Nat.le_refl _ | (simp; done) | (simp; omega) | omega)) | (with_reducible refine bstep ?_ (by with_reducible assumption)) | (with_reducible refine Below.trans ?_ (by with_reducible assumption))))⟩
  all_goals simp_all [checkCommand, bare, cmdText, cmdN, cmdField, cmdKey]
set_option maxHeartbeats 1000000 in
theorem cc8 (key field text : ByteArray) (n : Int) (w : World) :
    Calls Try.prog 50 #[.agg #[.int .i64 8, .string key, .string field, .string text, .int .i64 n]] w fun e w' => e = .returned (.int .i64 (checkCommand 8 key field text n)) ∧ Below w.heap.size w w' := by
  go_enter Try.func50, Try.ntmps50
  go_wp2_with (first | (go_at_call 70; refine (fieldOk_any _ _).mono ?_; rintro e w' ⟨rfl, rfl⟩) | (go_at_call 65; refine (textOk_any _ _).mono ?_; rintro e w' ⟨rfl, rfl⟩) | (go_at_call 73; refine (countOk_any _ _).mono ?_; rintro e w' ⟨rfl, rfl⟩))
  all_goals go_ret
  all_goals refine ⟨ret_int ?_, (by repeat (first | (with_reducible exact Below.refl _ _) | (with_reducible assumption) | (with_reducible refine Below.drew ?_) | (with_reducible refine bdrewN ?_ _) | (with_reducible refine balloc ?_ _) | ((with_reducible refine bset ?_ ?_ _); rotate_left; (focus first | exact Nat.le_refl _ | (simp; done) | (simp; omega) | omega)) | (with_reducible refine bstep ?_ (by with_reducible assumption)) | (with_reducible refine Below.trans ?_ (by with_reducible assumption))))⟩
  all_goals simp_all [checkCommand, bare, cmdText, cmdN, cmdField, cmdKey]
set_option maxHeartbeats 1000000 in
theorem cc9 (key field text : ByteArray) (n : Int) (w : World) :
    Calls Try.prog 50 #[.agg #[.int .i64 9, .string key, .string field, .string text, .int .i64 n]] w fun e w' => e = .returned (.int .i64 (checkCommand 9 key field text n)) ∧ Below w.heap.size w w' := by
  go_enter Try.func50, Try.ntmps50
  go_wp2_with (first | (go_at_call 70; refine (fieldOk_any _ _).mono ?_; rintro e w' ⟨rfl, rfl⟩) | (go_at_call 65; refine (textOk_any _ _).mono ?_; rintro e w' ⟨rfl, rfl⟩) | (go_at_call 73; refine (countOk_any _ _).mono ?_; rintro e w' ⟨rfl, rfl⟩))
  all_goals go_ret
  all_goals refine ⟨ret_int ?_, (by repeat (first | (with_reducible exact Below.refl _ _) | (with_reducible assumption) | (with_reducible refine Below.drew ?_) | (with_reducible refine bdrewN ?_ _) | (with_reducible refine balloc ?_ _) | ((with_reducible refine bset ?_ ?_ _); rotate_left; (focus first | exact Nat.le_refl _ | (simp; done) | (simp; omega) | omega)) | (with_reducible refine bstep ?_ (by with_reducible assumption)) | (with_reducible refine Below.trans ?_ (by with_reducible assumption))))⟩
  all_goals simp_all [checkCommand, bare, cmdText, cmdN, cmdField, cmdKey]
set_option maxHeartbeats 1000000 in
theorem cc10 (key field text : ByteArray) (n : Int) (w : World) :
    Calls Try.prog 50 #[.agg #[.int .i64 10, .string key, .string field, .string text, .int .i64 n]] w fun e w' => e = .returned (.int .i64 (checkCommand 10 key field text n)) ∧ Below w.heap.size w w' := by
  go_enter Try.func50, Try.ntmps50
  go_wp2_with (first | (go_at_call 70; refine (fieldOk_any _ _).mono ?_; rintro e w' ⟨rfl, rfl⟩) | (go_at_call 65; refine (textOk_any _ _).mono ?_; rintro e w' ⟨rfl, rfl⟩) | (go_at_call 73; refine (countOk_any _ _).mono ?_; rintro e w' ⟨rfl, rfl⟩))
  all_goals go_ret
  all_goals refine ⟨ret_int ?_, (by repeat (first | (with_reducible exact Below.refl _ _) | (with_reducible assumption) | (with_reducible refine Below.drew ?_) | (with_reducible refine bdrewN ?_ _) | (with_reducible refine balloc ?_ _) | ((with_reducible refine bset ?_ ?_ _); rotate_left; (focus first | exact Nat.le_refl _ | (simp; done) | (simp; omega) | omega)) | (with_reducible refine bstep ?_ (by with_reducible assumption)) | (with_reducible refine Below.trans ?_ (by with_reducible assumption))))⟩
  all_goals simp_all [checkCommand, bare, cmdText, cmdN, cmdField, cmdKey]
set_option maxHeartbeats 1000000 in
theorem cc11 (key field text : ByteArray) (n : Int) (w : World) :
    Calls Try.prog 50 #[.agg #[.int .i64 11, .string key, .string field, .string text, .int .i64 n]] w fun e w' => e = .returned (.int .i64 (checkCommand 11 key field text n)) ∧ Below w.heap.size w w' := by
  go_enter Try.func50, Try.ntmps50
  go_wp2_with (first | (go_at_call 70; refine (fieldOk_any _ _).mono ?_; rintro e w' ⟨rfl, rfl⟩) | (go_at_call 65; refine (textOk_any _ _).mono ?_; rintro e w' ⟨rfl, rfl⟩) | (go_at_call 73; refine (countOk_any _ _).mono ?_; rintro e w' ⟨rfl, rfl⟩))
  all_goals go_ret
  all_goals refine ⟨ret_int ?_, (by repeat (first | (with_reducible exact Below.refl _ _) | (with_reducible assumption) | (with_reducible refine Below.drew ?_) | (with_reducible refine bdrewN ?_ _) | (with_reducible refine balloc ?_ _) | ((with_reducible refine bset ?_ ?_ _); rotate_left; (focus first | exact Nat.le_refl _ | (simp; done) | (simp; omega) | omega)) | (with_reducible refine bstep ?_ (by with_reducible assumption)) | (with_reducible refine Below.trans ?_ (by with_reducible assumption))))⟩
  all_goals simp_all [checkCommand, bare, cmdText, cmdN, cmdField, cmdKey]
set_option maxHeartbeats 1000000 in
theorem cc12 (key field text : ByteArray) (n : Int) (w : World) :
    Calls Try.prog 50 #[.agg #[.int .i64 12, .string key, .string field, .string text, .int .i64 n]] w fun e w' => e = .returned (.int .i64 (checkCommand 12 key field text n)) ∧ Below w.heap.size w w' := by
  go_enter Try.func50, Try.ntmps50
  go_wp2_with (first | (go_at_call 70; refine (fieldOk_any _ _).mono ?_; rintro e w' ⟨rfl, rfl⟩) | (go_at_call 65; refine (textOk_any _ _).mono ?_; rintro e w' ⟨rfl, rfl⟩) | (go_at_call 73; refine (countOk_any _ _).mono ?_; rintro e w' ⟨rfl, rfl⟩))
  all_goals go_ret
  all_goals refine ⟨ret_int ?_, (by repeat (first | (with_reducible exact Below.refl _ _) | (with_reducible assumption) | (with_reducible refine Below.drew ?_) | (with_reducible refine bdrewN ?_ _) | (with_reducible refine balloc ?_ _) | ((with_reducible refine bset ?_ ?_ _); rotate_left; (focus first | exact Nat.le_refl _ | (simp; done) | (simp; omega) | omega)) | (with_reducible refine bstep ?_ (by with_reducible assumption)) | (with_reducible refine Below.trans ?_ (by with_reducible assumption))))⟩
  all_goals simp_all [checkCommand, bare, cmdText, cmdN, cmdField, cmdKey]
set_option maxHeartbeats 1000000 in
theorem cc13 (key field text : ByteArray) (n : Int) (w : World) :
    Calls Try.prog 50 #[.agg #[.int .i64 13, .string key, .string field, .string text, .int .i64 n]] w fun e w' => e = .returned (.int .i64 (checkCommand 13 key field text n)) ∧ Below w.heap.size w w' := by
  go_enter Try.func50, Try.ntmps50
  go_wp2_with (first | (go_at_call 70; refine (fieldOk_any _ _).mono ?_; rintro e w' ⟨rfl, rfl⟩) | (go_at_call 65; refine (textOk_any _ _).mono ?_; rintro e w' ⟨rfl, rfl⟩) | (go_at_call 73; refine (countOk_any _ _).mono ?_; rintro e w' ⟨rfl, rfl⟩))
  all_goals go_ret
  all_goals refine ⟨ret_int ?_, (by repeat (first | (with_reducible exact Below.refl _ _) | (with_reducible assumption) | (with_reducible refine Below.drew ?_) | (with_reducible refine bdrewN ?_ _) | (with_reducible refine balloc ?_ _) | ((with_reducible refine bset ?_ ?_ _); rotate_left; (focus first | exact Nat.le_refl _ | (simp; done) | (simp; omega) | omega)) | (with_reducible refine bstep ?_ (by with_reducible assumption)) | (with_reducible refine Below.trans ?_ (by with_reducible assumption))))⟩
  all_goals simp_all [checkCommand, bare, cmdText, cmdN, cmdField, cmdKey]
set_option maxHeartbeats 1000000 in
theorem cc15 (key field text : ByteArray) (n : Int) (w : World) :
    Calls Try.prog 50 #[.agg #[.int .i64 15, .string key, .string field, .string text, .int .i64 n]] w fun e w' => e = .returned (.int .i64 (checkCommand 15 key field text n)) ∧ Below w.heap.size w w' := by
  go_enter Try.func50, Try.ntmps50
  go_wp2_with (first | (go_at_call 70; refine (fieldOk_any _ _).mono ?_; rintro e w' ⟨rfl, rfl⟩) | (go_at_call 65; refine (textOk_any _ _).mono ?_; rintro e w' ⟨rfl, rfl⟩) | (go_at_call 73; refine (countOk_any _ _).mono ?_; rintro e w' ⟨rfl, rfl⟩))
  all_goals go_ret
  all_goals refine ⟨ret_int ?_, (by repeat (first | (with_reducible exact Below.refl _ _) | (with_reducible assumption) | (with_reducible refine Below.drew ?_) | (with_reducible refine bdrewN ?_ _) | (with_reducible refine balloc ?_ _) | ((with_reducible refine bset ?_ ?_ _); rotate_left; (focus first | exact Nat.le_refl _ | (simp; done) | (simp; omega) | omega)) | (with_reducible refine bstep ?_ (by with_reducible assumption)) | (with_reducible refine Below.trans ?_ (by with_reducible assumption))))⟩
  all_goals simp_all [checkCommand, bare, cmdText, cmdN, cmdField, cmdKey]
set_option maxHeartbeats 1000000 in
theorem cc16 (key field text : ByteArray) (n : Int) (w : World) :
    Calls Try.prog 50 #[.agg #[.int .i64 16, .string key, .string field, .string text, .int .i64 n]] w fun e w' => e = .returned (.int .i64 (checkCommand 16 key field text n)) ∧ Below w.heap.size w w' := by
  go_enter Try.func50, Try.ntmps50
  go_wp2_with (first | (go_at_call 70; refine (fieldOk_any _ _).mono ?_; rintro e w' ⟨rfl, rfl⟩) | (go_at_call 65; refine (textOk_any _ _).mono ?_; rintro e w' ⟨rfl, rfl⟩) | (go_at_call 73; refine (countOk_any _ _).mono ?_; rintro e w' ⟨rfl, rfl⟩))
  all_goals go_ret
  all_goals refine ⟨ret_int ?_, (by repeat (first | (with_reducible exact Below.refl _ _) | (with_reducible assumption) | (with_reducible refine Below.drew ?_) | (with_reducible refine bdrewN ?_ _) | (with_reducible refine balloc ?_ _) | ((with_reducible refine bset ?_ ?_ _); rotate_left; (focus first | exact Nat.le_refl _ | (simp; done) | (simp; omega) | omega)) | (with_reducible refine bstep ?_ (by with_reducible assumption)) | (with_reducible refine Below.trans ?_ (by with_reducible assumption))))⟩
  all_goals simp_all [checkCommand, bare, cmdText, cmdN, cmdField, cmdKey]
set_option maxHeartbeats 1000000 in
theorem cc17 (key field text : ByteArray) (n : Int) (w : World) :
    Calls Try.prog 50 #[.agg #[.int .i64 17, .string key, .string field, .string text, .int .i64 n]] w fun e w' => e = .returned (.int .i64 (checkCommand 17 key field text n)) ∧ Below w.heap.size w w' := by
  go_enter Try.func50, Try.ntmps50
  go_wp2_with (first | (go_at_call 70; refine (fieldOk_any _ _).mono ?_; rintro e w' ⟨rfl, rfl⟩) | (go_at_call 65; refine (textOk_any _ _).mono ?_; rintro e w' ⟨rfl, rfl⟩) | (go_at_call 73; refine (countOk_any _ _).mono ?_; rintro e w' ⟨rfl, rfl⟩))
  all_goals go_ret
  all_goals refine ⟨ret_int ?_, (by repeat (first | (with_reducible exact Below.refl _ _) | (with_reducible assumption) | (with_reducible refine Below.drew ?_) | (with_reducible refine bdrewN ?_ _) | (with_reducible refine balloc ?_ _) | ((with_reducible refine bset ?_ ?_ _); rotate_left; (focus first | exact Nat.le_refl _ | (simp; done) | (simp; omega) | omega)) | (with_reducible refine bstep ?_ (by with_reducible assumption)) | (with_reducible refine Below.trans ?_ (by with_reducible assumption))))⟩
  all_goals simp_all [checkCommand, bare, cmdText, cmdN, cmdField, cmdKey]
set_option maxHeartbeats 1000000 in
theorem cc18 (key field text : ByteArray) (n : Int) (w : World) :
    Calls Try.prog 50 #[.agg #[.int .i64 18, .string key, .string field, .string text, .int .i64 n]] w fun e w' => e = .returned (.int .i64 (checkCommand 18 key field text n)) ∧ Below w.heap.size w w' := by
  go_enter Try.func50, Try.ntmps50
  go_wp2_with (first | (go_at_call 70; refine (fieldOk_any _ _).mono ?_; rintro e w' ⟨rfl, rfl⟩) | (go_at_call 65; refine (textOk_any _ _).mono ?_; rintro e w' ⟨rfl, rfl⟩) | (go_at_call 73; refine (countOk_any _ _).mono ?_; rintro e w' ⟨rfl, rfl⟩))
  all_goals go_ret
  all_goals refine ⟨ret_int ?_, (by repeat (first | (with_reducible exact Below.refl _ _) | (with_reducible assumption) | (with_reducible refine Below.drew ?_) | (with_reducible refine bdrewN ?_ _) | (with_reducible refine balloc ?_ _) | ((with_reducible refine bset ?_ ?_ _); rotate_left; (focus first | exact Nat.le_refl _ | (simp; done) | (simp; omega) | omega)) | (with_reducible refine bstep ?_ (by with_reducible assumption)) | (with_reducible refine Below.trans ?_ (by with_reducible assumption))))⟩
  all_goals simp_all [checkCommand, bare, cmdText, cmdN, cmdField, cmdKey]
set_option maxHeartbeats 1000000 in
theorem cc19 (key field text : ByteArray) (n : Int) (w : World) :
    Calls Try.prog 50 #[.agg #[.int .i64 19, .string key, .string field, .string text, .int .i64 n]] w fun e w' => e = .returned (.int .i64 (checkCommand 19 key field text n)) ∧ Below w.heap.size w w' := by
  go_enter Try.func50, Try.ntmps50
  go_wp2_with (first | (go_at_call 70; refine (fieldOk_any _ _).mono ?_; rintro e w' ⟨rfl, rfl⟩) | (go_at_call 65; refine (textOk_any _ _).mono ?_; rintro e w' ⟨rfl, rfl⟩) | (go_at_call 73; refine (countOk_any _ _).mono ?_; rintro e w' ⟨rfl, rfl⟩))
  all_goals go_ret
  all_goals refine ⟨ret_int ?_, (by repeat (first | (with_reducible exact Below.refl _ _) | (with_reducible assumption) | (with_reducible refine Below.drew ?_) | (with_reducible refine bdrewN ?_ _) | (with_reducible refine balloc ?_ _) | ((with_reducible refine bset ?_ ?_ _); rotate_left; (focus first | exact Nat.le_refl _ | (simp; done) | (simp; omega) | omega)) | (with_reducible refine bstep ?_ (by with_reducible assumption)) | (with_reducible refine Below.trans ?_ (by with_reducible assumption))))⟩
  all_goals simp_all [checkCommand, bare, cmdText, cmdN, cmdField, cmdKey]
set_option maxHeartbeats 1000000 in
theorem cc20 (key field text : ByteArray) (n : Int) (w : World) :
    Calls Try.prog 50 #[.agg #[.int .i64 20, .string key, .string field, .string text, .int .i64 n]] w fun e w' => e = .returned (.int .i64 (checkCommand 20 key field text n)) ∧ Below w.heap.size w w' := by
  go_enter Try.func50, Try.ntmps50
  go_wp2_with (first | (go_at_call 70; refine (fieldOk_any _ _).mono ?_; rintro e w' ⟨rfl, rfl⟩) | (go_at_call 65; refine (textOk_any _ _).mono ?_; rintro e w' ⟨rfl, rfl⟩) | (go_at_call 73; refine (countOk_any _ _).mono ?_; rintro e w' ⟨rfl, rfl⟩))
  all_goals go_ret
  all_goals refine ⟨ret_int ?_, (by repeat (first | (with_reducible exact Below.refl _ _) | (with_reducible assumption) | (with_reducible refine Below.drew ?_) | (with_reducible refine bdrewN ?_ _) | (with_reducible refine balloc ?_ _) | ((with_reducible refine bset ?_ ?_ _); rotate_left; (focus first | exact Nat.le_refl _ | (simp; done) | (simp; omega) | omega)) | (with_reducible refine bstep ?_ (by with_reducible assumption)) | (with_reducible refine Below.trans ?_ (by with_reducible assumption))))⟩
  all_goals simp_all [checkCommand, bare, cmdText, cmdN, cmdField, cmdKey]
set_option maxHeartbeats 1000000 in
theorem cc21 (key field text : ByteArray) (n : Int) (w : World) :
    Calls Try.prog 50 #[.agg #[.int .i64 21, .string key, .string field, .string text, .int .i64 n]] w fun e w' => e = .returned (.int .i64 (checkCommand 21 key field text n)) ∧ Below w.heap.size w w' := by
  go_enter Try.func50, Try.ntmps50
  go_wp2_with (first | (go_at_call 70; refine (fieldOk_any _ _).mono ?_; rintro e w' ⟨rfl, rfl⟩) | (go_at_call 65; refine (textOk_any _ _).mono ?_; rintro e w' ⟨rfl, rfl⟩) | (go_at_call 73; refine (countOk_any _ _).mono ?_; rintro e w' ⟨rfl, rfl⟩))
  all_goals go_ret
  all_goals refine ⟨ret_int ?_, (by repeat (first | (with_reducible exact Below.refl _ _) | (with_reducible assumption) | (with_reducible refine Below.drew ?_) | (with_reducible refine bdrewN ?_ _) | (with_reducible refine balloc ?_ _) | ((with_reducible refine bset ?_ ?_ _); rotate_left; (focus first | exact Nat.le_refl _ | (simp; done) | (simp; omega) | omega)) | (with_reducible refine bstep ?_ (by with_reducible assumption)) | (with_reducible refine Below.trans ?_ (by with_reducible assumption))))⟩
  all_goals simp_all [checkCommand, bare, cmdText, cmdN, cmdField, cmdKey]
set_option maxHeartbeats 1000000 in
theorem cc22 (key field text : ByteArray) (n : Int) (w : World) :
    Calls Try.prog 50 #[.agg #[.int .i64 22, .string key, .string field, .string text, .int .i64 n]] w fun e w' => e = .returned (.int .i64 (checkCommand 22 key field text n)) ∧ Below w.heap.size w w' := by
  go_enter Try.func50, Try.ntmps50
  go_wp2_with (first | (go_at_call 70; refine (fieldOk_any _ _).mono ?_; rintro e w' ⟨rfl, rfl⟩) | (go_at_call 65; refine (textOk_any _ _).mono ?_; rintro e w' ⟨rfl, rfl⟩) | (go_at_call 73; refine (countOk_any _ _).mono ?_; rintro e w' ⟨rfl, rfl⟩))
  all_goals go_ret
  all_goals refine ⟨ret_int ?_, (by repeat (first | (with_reducible exact Below.refl _ _) | (with_reducible assumption) | (with_reducible refine Below.drew ?_) | (with_reducible refine bdrewN ?_ _) | (with_reducible refine balloc ?_ _) | ((with_reducible refine bset ?_ ?_ _); rotate_left; (focus first | exact Nat.le_refl _ | (simp; done) | (simp; omega) | omega)) | (with_reducible refine bstep ?_ (by with_reducible assumption)) | (with_reducible refine Below.trans ?_ (by with_reducible assumption))))⟩
  all_goals simp_all [checkCommand, bare, cmdText, cmdN, cmdField, cmdKey]
set_option maxHeartbeats 1000000 in
theorem cc4 (key field text : ByteArray) (n : Int) (w : World) :
    Calls Try.prog 50 #[.agg #[.int .i64 4, .string key, .string field, .string text, .int .i64 n]] w fun e w' => e = .returned (.int .i64 (checkCommand 4 key field text n)) ∧ Below w.heap.size w w' := by
  go_enter Try.func50, Try.ntmps50
  go_wp2_with fail
  go_region
  all_goals go_wp2_with (first | (go_at_call 70; refine (fieldOk_any _ _).mono ?_; rintro e w' ⟨rfl, rfl⟩) | (go_at_call 65; refine (textOk_any _ _).mono ?_; rintro e w' ⟨rfl, rfl⟩) | (go_at_call 73; refine (countOk_any _ _).mono ?_; rintro e w' ⟨rfl, rfl⟩))
  all_goals go_ret
  all_goals refine ⟨ret_int ?_, (by repeat (first | (with_reducible exact Below.refl _ _) | (with_reducible assumption) | (with_reducible refine Below.drew ?_) | (with_reducible refine bdrewN ?_ _) | (with_reducible refine balloc ?_ _) | ((with_reducible refine bset ?_ ?_ _); rotate_left; (focus first | exact Nat.le_refl _ | (simp; done) | (simp; omega) | omega)) | (with_reducible refine bstep ?_ (by with_reducible assumption)) | (with_reducible refine Below.trans ?_ (by with_reducible assumption))))⟩
  all_goals simp_all [checkCommand, bare, cmdText, cmdN, cmdField, cmdKey]
set_option maxHeartbeats 1000000 in
theorem cc14 (key field text : ByteArray) (n : Int) (w : World) :
    Calls Try.prog 50 #[.agg #[.int .i64 14, .string key, .string field, .string text, .int .i64 n]] w fun e w' => e = .returned (.int .i64 (checkCommand 14 key field text n)) ∧ Below w.heap.size w w' := by
  go_enter Try.func50, Try.ntmps50
  go_wp2_with fail
  go_region
  all_goals go_wp2_with (first | (go_at_call 70; refine (fieldOk_any _ _).mono ?_; rintro e w' ⟨rfl, rfl⟩) | (go_at_call 65; refine (textOk_any _ _).mono ?_; rintro e w' ⟨rfl, rfl⟩) | (go_at_call 73; refine (countOk_any _ _).mono ?_; rintro e w' ⟨rfl, rfl⟩))
  all_goals go_ret
  all_goals refine ⟨ret_int ?_, (by repeat (first | (with_reducible exact Below.refl _ _) | (with_reducible assumption) | (with_reducible refine Below.drew ?_) | (with_reducible refine bdrewN ?_ _) | (with_reducible refine balloc ?_ _) | ((with_reducible refine bset ?_ ?_ _); rotate_left; (focus first | exact Nat.le_refl _ | (simp; done) | (simp; omega) | omega)) | (with_reducible refine bstep ?_ (by with_reducible assumption)) | (with_reducible refine Below.trans ?_ (by with_reducible assumption))))⟩
  all_goals simp_all [checkCommand, bare, cmdText, cmdN, cmdField, cmdKey]
set_option maxHeartbeats 1000000 in
theorem cc_bad (k : Int) (hk : k < 1 ∨ 22 < k) (key field text : ByteArray) (n : Int) (w : World) :
    Calls Try.prog 50 #[.agg #[.int .i64 k, .string key, .string field, .string text, .int .i64 n]] w fun e w' => e = .returned (.int .i64 (checkCommand k key field text n)) ∧ Below w.heap.size w w' := by
  go_enter Try.func50, Try.ntmps50
  go_wp2_with fail
  all_goals go_ret
  all_goals refine ⟨ret_int ?_, (by repeat (first | (with_reducible exact Below.refl _ _) | (with_reducible assumption) | (with_reducible refine Below.drew ?_) | (with_reducible refine bdrewN ?_ _) | (with_reducible refine balloc ?_ _) | ((with_reducible refine bset ?_ ?_ _); rotate_left; (focus first | exact Nat.le_refl _ | (simp; done) | (simp; omega) | omega)) | (with_reducible refine bstep ?_ (by with_reducible assumption)) | (with_reducible refine Below.trans ?_ (by with_reducible assumption))))⟩
  all_goals (unfold checkCommand; rw [if_pos hk])
theorem CheckCommand_any (k : Int) (key field text : ByteArray) (n : Int) (w : World) :
    Calls Try.prog 50 #[.agg #[.int .i64 k, .string key, .string field, .string text, .int .i64 n]] w fun e w' => e = .returned (.int .i64 (checkCommand k key field text n)) ∧ Below w.heap.size w w' := by
  by_cases hk : k < 1 ∨ 22 < k
  · exact cc_bad k hk key field text n w
  have h : k = 1 ∨ k = 2 ∨ k = 3 ∨ k = 4 ∨ k = 5 ∨ k = 6 ∨ k = 7 ∨ k = 8 ∨ k = 9 ∨ k = 10 ∨ k = 11 ∨ k = 12 ∨ k = 13 ∨ k = 14 ∨ k = 15 ∨ k = 16 ∨ k = 17 ∨ k = 18 ∨ k = 19 ∨ k = 20 ∨ k = 21 ∨ k = 22 := by omega
  rcases h with rfl | rfl | rfl | rfl | rfl | rfl | rfl | rfl | rfl | rfl | rfl | rfl | rfl | rfl | rfl | rfl | rfl | rfl | rfl | rfl | rfl | rfl
  · exact cc1 key field text n w
  · exact cc2 key field text n w
  · exact cc3 key field text n w
  · exact cc4 key field text n w
  · exact cc5 key field text n w
  · exact cc6 key field text n w
  · exact cc7 key field text n w
  · exact cc8 key field text n w
  · exact cc9 key field text n w
  · exact cc10 key field text n w
  · exact cc11 key field text n w
  · exact cc12 key field text n w
  · exact cc13 key field text n w
  · exact cc14 key field text n w
  · exact cc15 key field text n w
  · exact cc16 key field text n w
  · exact cc17 key field text n w
  · exact cc18 key field text n w
  · exact cc19 key field text n w
  · exact cc20 key field text n w
  · exact cc21 key field text n w
  · exact cc22 key field text n w
end Go.Proofs.Ytpdadlofgfdlpaa
