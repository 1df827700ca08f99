/- lines.has, lines.Check; rostrumtop.call, act. -/
import Derived.Test.YtgdcofbnbiclmaaGreatDoorTopP
namespace Go.Proofs.YtgdcofbnbiclmaaGreatDoor
set_option linter.all false
open Go.RowKit
theorem has_any (k : Int) (w : World) : Calls Tryz.prog 67 #[.int .i64 k] w fun e w' => e = .returned (.tuple #[.bool (hasNode k), .bool (hasPick k)]) ∧ w = w' := by
  go_enter Tryz.func67, Tryz.ntmps67
  go_wp2_with fail
  all_goals (go_ret2; refine ⟨?_, rfl⟩; simp_all [hasNode, hasPick])
def zeroC (x : ActD) : Bool := x.client == 0 && zeroCall x.seq x.cmd.kind x.cmd.key x.cmd.field x.cmd.text x.cmd.n
set_option maxHeartbeats 8000000 in
theorem ActCheck_any (x : ActD) (w : World) : Calls Tryz.prog 46 #[.agg x.cells.toArray] w fun e w' => e = .returned (.int .i64 (checkAct x)) ∧ Below w.heap.size w w' := by
  obtain ⟨kind, node, pick, client, seq, cmd⟩ := x
  obtain ⟨ck, key, field, text, n⟩ := cmd
  simp only [ActD.cells]
  by_cases hk : kind < 1 ∨ 12 < kind
  · have HR := hide (show checkAct ⟨kind, node, pick, client, seq, ⟨ck, key, field, text, n⟩⟩ = 3 by unfold checkAct; rw [if_pos hk])
    go_enter Tryz.func46, Tryz.ntmps46
    go_wp2_with fail
    all_goals go_ret
    all_goals exact ⟨by rw [HR.out]; rfl, below_by⟩
  · have hk1 : ¬ kind < 1 := by omega
    have hk2 : ¬ 12 < kind := by omega
    have HR := hide (show checkAct ⟨kind, node, pick, client, seq, ⟨ck, key, field, text, n⟩⟩ = _ by unfold checkAct; rw [if_neg hk])
    clear hk
    have HH := hide (has_any kind)
    generalize hasNode kind = hn at HR HH
    generalize hasPick kind = hp at HR HH
    go_enter Tryz.func46, Tryz.ntmps46
    go_wp2_with fail
    refine (HH.out _).mono ?_
    rintro e w1 ⟨rfl, rfl⟩
    cases hn <;> cases hp
    all_goals
      go_wp2_with ((go_at_call 57; refine (CheckCall_any _ _ _ _ _ _ _ _).mono ?_; rintro e w1 ⟨rfl, hb1⟩))
      all_goals go_ret
      all_goals refine ⟨ret_int ?_, below_by⟩
      all_goals rw [HR.out]
      all_goals (simp only [Bool.false_eq_true, false_and, true_and, false_or, or_false]; (try (first | (simp_all [zeroCall]; done) | (simp_all [zeroCall]; omega))))
def callW (c : Int × Int × Cmd) : Value := .agg #[.int .i64 c.1, .int .i64 c.2.1, .int .i64 c.2.2.kind, .string c.2.2.key, .string c.2.2.field, .string c.2.2.text, .int .i64 c.2.2.n]
def GearD.cells (g : GearD) : List Value := [.int .i64 g.kind, .int .i64 g.a, .int .i64 g.b, .int .i64 g.raw.kind, .int .i64 g.raw.key, .int .i64 g.raw.field, .int .i64 g.raw.n, .string g.raw.text]
def GearD.ok (g : GearD) : Prop := I64 g.kind ∧ I64 g.a ∧ I64 g.b ∧ g.raw.ok
theorem Picked_any (n many : Int) (w : World) (h1 : -9223372036854775808 ≤ n) (h2 : n ≤ 9223372036854775807) (h3 : 0 < many) (h4 : many ≤ 9223372036854775807) :
    Calls Tryz.prog 21 #[.int .i64 n, .int .i64 many] w fun e w' => e = .returned (.int .i64 (picked n many)) ∧ w = w' := by
  go_enter Tryz.func21, Tryz.ntmps21
  go_wp2_with fail
  refine (picked_any _ _ _ h1 h2 h3 h4).mono ?_
  rintro e w' ⟨rfl, rfl⟩
  go_wp2_with fail
  go_ret
  exact ⟨rfl, rfl⟩
set_option maxHeartbeats 8000000 in
theorem tcall_any (g : GearD) (hg : g.ok) (w : World) : Calls Tryz.prog 45 #[.agg #[.int .i64 g.kind, .int .i64 g.a, .int .i64 g.b, .int .i64 g.raw.kind, .int .i64 g.raw.key, .int .i64 g.raw.field, .int .i64 g.raw.n, .string g.raw.text]] w fun e w' => e = .returned (callW (callOf g)) ∧ Below w.heap.size w w' := by
  obtain ⟨kind, a, b, gk, key, field, n, text⟩ := g
  obtain ⟨_, ⟨a1, a2⟩, ⟨b1, b2⟩, ⟨k1, k2⟩, ⟨y1, y2⟩, ⟨f1, f2⟩, ⟨n1, n2⟩, hx⟩ := hg
  simp only at a1 a2 b1 b2 k1 k2 y1 y2 f1 f2 n1 n2 hx
  have p0 := picked_lo b 4 (by omega)
  have p1 := picked_hi b 4 (by omega)
  have q0 := picked_lo a 4 (by omega)
  have q1 := picked_hi a 4 (by omega)
  have hC := fun w => Command_any gk key field n text w k1 k2 y1 y2 f1 f2 n1 n2 hx (picked gk 22) rfl (picked_lo _ _ (by omega)) (picked_hi _ _ (by omega))
  have hR : cmdR ⟨gk, key, field, n, text⟩ = cmdOf gk key field n text := rfl
  generalize cmdOf gk key field n text = cm at hC hR
  have HR := hide hR; clear hR
  obtain ⟨ck, cy, cf, ct, cn⟩ := cm
  simp only [cmdV] at hC
  have HC := hide hC; clear hC
  have hw2 : IntKind.i64.wrap (1 + picked a 4) = 1 + picked a 4 := IntWalk.i64_in _ (by omega)
  by_cases h0 : (picked b 4 == 0) = true
  · go_enter Tryz.func45, Tryz.ntmps45
    go_wp2_with (go_at_call 21; refine (Picked_any _ _ _ (by omega) (by omega) (by omega) (by omega)).mono ?_; rintro e w' ⟨rfl, rfl⟩)
    have hI : callOf ⟨kind, a, b, ⟨gk, key, field, n, text⟩⟩ = (0, 0, noCmd) := by simp_all [callOf]
    rw [hI]
    refine bodyPost_ret (v := callW (0, 0, noCmd)) ?_ rfl ⟨rfl, below_by⟩
    simp [results, Tryz.results45, go_sem, callW, noCmd, emp]
  · have h0 : (picked b 4 == 0) = false := by simpa using h0
    have hI : callOf ⟨kind, a, b, ⟨gk, key, field, n, text⟩⟩ = (picked b 4, 1 + picked a 4, ⟨ck, cy, cf, ct, cn⟩) := by unfold callOf; rw [if_neg (by simpa using h0)]; simp only [HR.out]
    rw [hI]
    clear hI HR
    go_enter Tryz.func45, Tryz.ntmps45
    go_wp2_with (go_at_call 21; refine (Picked_any _ _ _ (by omega) (by omega) (by omega) (by omega)).mono ?_; rintro e w' ⟨rfl, rfl⟩)
    go_region_held3 (fun w' => w'.cell? ⟨w.heap.size, 1, none⟩ = some (.int .i64 a) ∧ w'.cell? ⟨w.heap.size, 3, none⟩ = some (.int .i64 gk) ∧ w'.cell? ⟨w.heap.size, 4, none⟩ = some (.int .i64 key) ∧ w'.cell? ⟨w.heap.size, 5, none⟩ = some (.int .i64 field) ∧ w'.cell? ⟨w.heap.size, 6, none⟩ = some (.int .i64 n) ∧ w'.cell? ⟨w.heap.size, 7, none⟩ = some (.string text)) (simp [go_sem, World.cell?_alloc_past, *])
      (first
        | (go_at_call 21; refine (Picked_any _ _ _ (by omega) (by omega) (by omega) (by omega)).mono ?_; rintro e w' ⟨rfl, rfl⟩)
        | (go_at_call 66; refine (HC.out _).mono ?_; rintro e w1 ⟨rfl, hb1⟩; obtain ⟨hc1, hf1⟩ := bcell hb1; have hz := hb1.size; simp at hz; have hz0 : w.heap.size < w1.heap.size := (by omega); have hz1 : w.heap.size + 1 < w1.heap.size := (by omega)))
    all_goals go_wp2_with fail
    all_goals refine bodyPost_ret (v := callW (picked b 4, 1 + picked a 4, ⟨ck, cy, cf, ct, cn⟩)) ?_ rfl ⟨rfl, below_by⟩
    all_goals simp [results, Tryz.results45, go_sem, callW, *]
end Go.Proofs.YtgdcofbnbiclmaaGreatDoor
