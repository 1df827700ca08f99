/- rostrumkeep.snap; tape.CheckSnap; tape.Check of a snap's record. -/
import Derived.Test.YtgmojjclobkpjaaMachS
namespace Go.Proofs.Ytgmojjclobkpjaa
set_option linter.all false
open Go.RowKit
theorem tnumber_any (n : Int) (w : World) : Calls Try.prog 19 #[.int .i64 n] w fun e w' => e = .returned (.bool (numberOk n)) ∧ w = w' := by
  go_enter Try.func19, Try.ntmps19
  go_wp2_with fail
  all_goals go_ret
  all_goals exact ⟨ret_bool (by simp [numberOk]; try omega), rfl⟩
def csM (i t : Int) (m : Mach) : Int := if (numberOk i && numberOk t) = true then checkMach m else 2
set_option maxRecDepth 100000 in
set_option maxHeartbeats 4000000 in
theorem CheckSnap_any (i t : Int) (m : Mach) (A B : Option Addr) (na ca nb cb : Nat) (w : World) (hE : StSl w A na ca m.ents) (hC : ClSl w B nb cb m.clis) (hna : na ≤ 1048576) (hnb : nb ≤ 1048576) (hsm : ∀ x ∈ m.ents, small x.val 1048576) (hcl : ∀ x ∈ m.clis, x.rep.text.size ≤ 1048576 ∧ x.rep.list.length ≤ 1048576) :
    Calls Try.prog 21 #[.agg #[.int .i64 i, .int .i64 t, .int .i64 m.now, .slice A na ca, .int .i64 m.next, .slice B nb cb]] w fun e w' => e = .returned (.int .i64 (csM i t m)) ∧ Below w.heap.size w w' := by
  have KM := hide (fun w' (hb : Below w.heap.size w w') => CheckM_any m A B na ca nb cb w' (hE.bl hb) (hC.bl hb) hna hnb hsm hcl)
  have h1 := fun w => tnumber_any i w
  have h2 := fun w => tnumber_any t w
  unfold csM
  generalize checkMach m = cm at *
  generalize numberOk i = bi at *
  generalize numberOk t = bt at *
  have H1 := hide h1; have H2 := hide h2
  clear h1 h2 hE hC hsm hcl
  obtain ⟨now, ents, next, clis⟩ := m
  simp only at KM ⊢
  have T0 := Blk.new w 43 #[.int .i64 i, .int .i64 t, .int .i64 now, .slice A na ca, .int .i64 next, .slice B nb cb]
  have q0 : Below w.heap.size w (w.alloc (.cells #[.int .i64 i, .int .i64 t, .int .i64 now, .slice A na ca, .int .i64 next, .slice B nb cb] 43)) := below_by
  go_enter Try.func21, Try.ntmps21
  go_wp2_with fail
  refine (H1.out _).mono ?_
  rintro e w' ⟨rfl, rfl⟩
  cases bi
  · go_wp2_with fail
    go_ret
    exact ⟨rfl, q0⟩
  · (try clear cT0 fT0); have cT0 := T0.cell; have fT0 := T0.frozen
    go_wp2_with fail
    refine (H2.out _).mono ?_
    rintro e w' ⟨rfl, rfl⟩
    cases bt
    · go_wp2_with fail
      go_ret
      exact ⟨rfl, q0⟩
    · go_wp2_with fail
      refine (KM.out _ q0).mono ?_
      rintro e w1 ⟨rfl, hb1⟩
      have q1 := bstep q0 hb1
      go_wp2_with fail
      go_ret
      exact ⟨rfl, q1⟩
set_option maxRecDepth 100000 in
set_option maxHeartbeats 8000000 in
theorem CheckLoad_any (i t : Int) (m : Mach) (A B : Option Addr) (na ca nb cb : Nat) (w : World) (hE : StSl w A na ca m.ents) (hC : ClSl w B nb cb m.clis) (hna : na ≤ 1048576) (hnb : nb ≤ 1048576) (hsm : ∀ x ∈ m.ents, small x.val 1048576) (hcl : ∀ x ∈ m.clis, x.rep.text.size ≤ 1048576 ∧ x.rep.list.length ≤ 1048576) :
    Calls Try.prog 10 #[.agg #[.int .i64 3, .int .i64 0, .int .i64 0, .int .i64 0, .int .i64 0, .int .i64 0, .bool false, .int .i64 0, .int .i64 0, .int .i64 0, .string { data := #[] }, .string { data := #[] }, .string { data := #[] }, .int .i64 0, .int .i64 i, .int .i64 t, .int .i64 m.now, .slice A na ca, .int .i64 m.next, .slice B nb cb]] w fun e w' => e = .returned (.int .i64 (csM i t m)) ∧ Below w.heap.size w w' := by
  have KM := hide (fun w' (hb : Below w.heap.size w w') => CheckSnap_any i t m A B na ca nb cb w' (hE.bl hb) (hC.bl hb) hna hnb hsm hcl)
  generalize csM i t m = R at *
  clear hE hC hsm hcl
  obtain ⟨now, ents, next, clis⟩ := m
  simp only at KM ⊢
  have T0 := Blk.new w 45 #[.int .i64 3, .int .i64 0, .int .i64 0, .int .i64 0, .int .i64 0, .int .i64 0, .bool false, .int .i64 0, .int .i64 0, .int .i64 0, .string { data := #[] }, .string { data := #[] }, .string { data := #[] }, .int .i64 0, .int .i64 i, .int .i64 t, .int .i64 now, .slice A na ca, .int .i64 next, .slice B nb cb]
  replace T0 := T0.alloc (.cells #[.int .i64 0, .int .i64 0, .bool false, .int .i64 0, .int .i64 0, .int .i64 0, .string { data := #[] }, .string { data := #[] }, .string { data := #[] }, .int .i64 0] 35)
  have I0 := Blk.new (w.alloc (.cells #[.int .i64 3, .int .i64 0, .int .i64 0, .int .i64 0, .int .i64 0, .int .i64 0, .bool false, .int .i64 0, .int .i64 0, .int .i64 0, .string { data := #[] }, .string { data := #[] }, .string { data := #[] }, .int .i64 0, .int .i64 i, .int .i64 t, .int .i64 now, .slice A na ca, .int .i64 next, .slice B nb cb] 45)) 35 #[.int .i64 0, .int .i64 0, .bool false, .int .i64 0, .int .i64 0, .int .i64 0, .string { data := #[] }, .string { data := #[] }, .string { data := #[] }, .int .i64 0]
  have q0 : Below w.heap.size w ((w.alloc (.cells #[.int .i64 3, .int .i64 0, .int .i64 0, .int .i64 0, .int .i64 0, .int .i64 0, .bool false, .int .i64 0, .int .i64 0, .int .i64 0, .string { data := #[] }, .string { data := #[] }, .string { data := #[] }, .int .i64 0, .int .i64 i, .int .i64 t, .int .i64 now, .slice A na ca, .int .i64 next, .slice B nb cb] 45)).alloc (.cells #[.int .i64 0, .int .i64 0, .bool false, .int .i64 0, .int .i64 0, .int .i64 0, .string { data := #[] }, .string { data := #[] }, .string { data := #[] }, .int .i64 0] 35)) := below_by
  go_enter Try.func10, Try.ntmps10
  (try clear cT0 fT0); have cT0 := T0.cell; have fT0 := T0.frozen; (try clear cI0 fI0); have cI0 := I0.cell; have fI0 := I0.frozen
  go_wp2_with fail
  refine (KM.out _ q0).mono ?_
  rintro e w1 ⟨rfl, hb1⟩
  have q1 := bstep q0 hb1
  go_wp2_with fail
  go_ret
  exact ⟨rfl, q1⟩
set_option maxHeartbeats 4000000 in
theorem whole_snap {w2 : World} {b : Nat} {x0 x1 x2 x3 x4 x5 : Value} (u0 u1 u2 u3 u4 u5 : Value) (R : Blk w2 b 43 #[x0, x1, x2, x3, x4, x5]) :
    Blk ((((((w2.setCell ⟨b, 0, none⟩ (u0)).setCell ⟨b, 1, none⟩ (u1)).setCell ⟨b, 2, none⟩ (u2)).setCell ⟨b, 3, none⟩ (u3)).setCell ⟨b, 4, none⟩ (u4)).setCell ⟨b, 5, none⟩ (u5)) b 43 #[u0, u1, u2, u3, u4, u5] ∧ w2.grownBy ((((((w2.setCell ⟨b, 0, none⟩ (u0)).setCell ⟨b, 1, none⟩ (u1)).setCell ⟨b, 2, none⟩ (u2)).setCell ⟨b, 3, none⟩ (u3)).setCell ⟨b, 4, none⟩ (u4)).setCell ⟨b, 5, none⟩ (u5)) (some b) ∧ ((((((w2.setCell ⟨b, 0, none⟩ (u0)).setCell ⟨b, 1, none⟩ (u1)).setCell ⟨b, 2, none⟩ (u2)).setCell ⟨b, 3, none⟩ (u3)).setCell ⟨b, 4, none⟩ (u4)).setCell ⟨b, 5, none⟩ (u5)).heap.size = w2.heap.size := by
  have R0 := R.set' (i := 0) (u := u0) rfl
  have R1 := R0.set' (i := 1) (u := u1) rfl
  have R2 := R1.set' (i := 2) (u := u2) rfl
  have R3 := R2.set' (i := 3) (u := u3) rfl
  have R4 := R3.set' (i := 4) (u := u4) rfl
  have R5 := R4.set' (i := 5) (u := u5) rfl
  exact ⟨R5, grown_trans (grown_trans (grown_trans (grown_trans (grown_trans (grown_setRow_cell w2 b 0 u0) (grown_setRow_cell _ b 1 u1)) (grown_setRow_cell _ b 2 u2)) (grown_setRow_cell _ b 3 u3)) (grown_setRow_cell _ b 4 u4)) (grown_setRow_cell _ b 5 u5), by simp⟩
def SnapPost (i t : Int) (m : Mach) (w : World) (e : Ending) (w' : World) : Prop :=
  ∃ A n c B k d, e = .returned (.agg #[.int .i64 i, .int .i64 t, .int .i64 m.now, .slice A n c, .int .i64 m.next, .slice B k d]) ∧ St w' A n c m.ents ∧ Ci w' B k d m.clis ∧ Below w.heap.size w w'
end Go.Proofs.Ytgmojjclobkpjaa
