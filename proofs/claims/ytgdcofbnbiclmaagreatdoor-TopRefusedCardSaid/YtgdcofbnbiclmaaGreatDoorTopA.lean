/- rostrumtop.act. -/
import Derived.Test.YtgdcofbnbiclmaaGreatDoorTopC
namespace Go.Proofs.YtgdcofbnbiclmaaGreatDoor
set_option linter.all false
open Go.RowKit
def actV (x : ActD) : Value := .agg x.cells.toArray
theorem act_eq {g : GearD} {k : Int} (h : picked g.kind 20 = k) : actOf g = (if k < 3 then ⟨1, picked g.a 3, 0, (callOf g).1, (callOf g).2.1, (callOf g).2.2⟩
  else if k < 5 then bareAct 2 (picked g.a 3) 0
  else if k < 8 then bareAct 3 (picked g.a 3) 0
  else if k < 12 then bareAct 4 (picked g.a 3) 0
  else if k = 12 then bareAct 6 0 (picked g.b 300)
  else if k = 13 then bareAct 7 0 (picked g.b 300)
  else if k = 14 then bareAct 8 0 (picked g.b 300)
  else if k = 15 then bareAct 9 (picked g.a 3) (picked g.b 500)
  else if k = 16 then bareAct 10 (picked g.a 3) 0
  else if k = 17 then bareAct 11 (picked g.a 3) 0
  else if k = 18 then bareAct 5 (picked g.a 3) (picked g.b 40)
  else bareAct 12 0 0) := by subst h; rfl
set_option maxHeartbeats 8000000 in
set_option maxRecDepth 100000 in
theorem tact_any (g : GearD) (hg : g.ok) (w : World) : Calls Tryz.prog 30 #[.agg #[.int .i64 g.kind, .int .i64 g.a, .int .i64 g.b, .int .i64 g.raw.kind, .int .i64 g.raw.key, .int .i64 g.raw.field, .int .i64 g.raw.n, .string g.raw.text]] w fun e w' => e = .returned (actV (actOf g)) ∧ Below w.heap.size w w' := by
  have hT := fun w => tcall_any g hg w
  obtain ⟨k, hk⟩ : ∃ k, picked g.kind 20 = k := ⟨_, rfl⟩
  have hE := act_eq hk
  have k0 := picked_lo g.kind 20 (by omega)
  have k1 := picked_hi g.kind 20 (by omega)
  have hP := fun w => Picked_any g.kind 20 w hg.1.1 hg.1.2 (by omega) (by omega)
  rw [hk] at hP k0 k1
  obtain ⟨_, ⟨a1, a2⟩, ⟨b1, b2⟩, _⟩ := hg
  have hA := fun w => Picked_any g.a 3 w a1 a2 (by omega) (by omega)
  have hB3 := fun w => Picked_any g.b 300 w b1 b2 (by omega) (by omega)
  have hB5 := fun w => Picked_any g.b 500 w b1 b2 (by omega) (by omega)
  have hB4 := fun w => Picked_any g.b 40 w b1 b2 (by omega) (by omega)
  rw [hE]
  clear hE hk
  generalize callOf g = cl at *
  obtain ⟨cc, cs, ck, cy, cf, ct, cn⟩ := cl
  simp only [callW] at hT
  generalize picked g.a 3 = n3 at *
  generalize picked g.b 300 = b300 at *
  generalize picked g.b 500 = b500 at *
  generalize picked g.b 40 = b40 at *
  obtain ⟨kind, a, b, gk, key, field, n, text⟩ := g
  simp only at *
  have HT := hide hT; have HP := hide hP; have HA := hide hA; have H3 := hide hB3; have H5 := hide hB5; have H4 := hide hB4
  clear hT hP hA hB3 hB5 hB4 a1 a2 b1 b2
  have hc : k = 0 ∨ k = 1 ∨ k = 2 ∨ k = 3 ∨ k = 4 ∨ k = 5 ∨ k = 6 ∨ k = 7 ∨ k = 8 ∨ k = 9 ∨ k = 10 ∨ k = 11 ∨ k = 12 ∨ k = 13 ∨ k = 14 ∨ k = 15 ∨ k = 16 ∨ k = 17 ∨ k = 18 ∨ k = 19 := by omega
  clear k0 k1
  rcases hc with rfl | rfl | rfl | rfl | rfl | rfl | rfl | rfl | rfl | rfl | rfl | rfl | rfl | rfl | rfl | rfl | rfl | rfl | rfl | rfl
  · rw [show actV (if (0 : Int) < 3 then ⟨1, n3, 0, cc, cs, ⟨ck, cy, cf, ct, cn⟩⟩ else _) = .agg #[.int .i64 1, .int .i64 n3, .int .i64 0, .int .i64 cc, .int .i64 cs, .int .i64 ck, .string cy, .string cf, .string ct, .int .i64 cn] by rw [if_pos (by decide)]; rfl]
    go_enter Tryz.func30, Tryz.ntmps30
    go_wp2_with (first | (refine (HA.out _).mono ?_; rintro e w' ⟨rfl, rfl⟩) | (refine (HP.out _).mono ?_; rintro e w' ⟨rfl, rfl⟩) | (refine (HT.out _).mono ?_; rintro e w1 ⟨rfl, hb1⟩; obtain ⟨hc1, hf1⟩ := bcell hb1; have hz := hb1.size; simp at hz; have hz0 : w.heap.size < w1.heap.size := (by omega); have hz1 : w.heap.size + 1 < w1.heap.size := (by omega)))
    refine bodyPost_ret (v := .agg #[.int .i64 1, .int .i64 n3, .int .i64 0, .int .i64 cc, .int .i64 cs, .int .i64 ck, .string cy, .string cf, .string ct, .int .i64 cn]) ?_ rfl ⟨rfl, below_by⟩
    simp [results, Tryz.results30, go_sem, *]
  · rw [show actV (if (1 : Int) < 3 then ⟨1, n3, 0, cc, cs, ⟨ck, cy, cf, ct, cn⟩⟩ else _) = .agg #[.int .i64 1, .int .i64 n3, .int .i64 0, .int .i64 cc, .int .i64 cs, .int .i64 ck, .string cy, .string cf, .string ct, .int .i64 cn] by rw [if_pos (by decide)]; rfl]
    go_enter Tryz.func30, Tryz.ntmps30
    go_wp2_with (first | (refine (HA.out _).mono ?_; rintro e w' ⟨rfl, rfl⟩) | (refine (HP.out _).mono ?_; rintro e w' ⟨rfl, rfl⟩) | (refine (HT.out _).mono ?_; rintro e w1 ⟨rfl, hb1⟩; obtain ⟨hc1, hf1⟩ := bcell hb1; have hz := hb1.size; simp at hz; have hz0 : w.heap.size < w1.heap.size := (by omega); have hz1 : w.heap.size + 1 < w1.heap.size := (by omega)))
    refine bodyPost_ret (v := .agg #[.int .i64 1, .int .i64 n3, .int .i64 0, .int .i64 cc, .int .i64 cs, .int .i64 ck, .string cy, .string cf, .string ct, .int .i64 cn]) ?_ rfl ⟨rfl, below_by⟩
    simp [results, Tryz.results30, go_sem, *]
  · rw [show actV (if (2 : Int) < 3 then ⟨1, n3, 0, cc, cs, ⟨ck, cy, cf, ct, cn⟩⟩ else _) = .agg #[.int .i64 1, .int .i64 n3, .int .i64 0, .int .i64 cc, .int .i64 cs, .int .i64 ck, .string cy, .string cf, .string ct, .int .i64 cn] by rw [if_pos (by decide)]; rfl]
    go_enter Tryz.func30, Tryz.ntmps30
    go_wp2_with (first | (refine (HA.out _).mono ?_; rintro e w' ⟨rfl, rfl⟩) | (refine (HP.out _).mono ?_; rintro e w' ⟨rfl, rfl⟩) | (refine (HT.out _).mono ?_; rintro e w1 ⟨rfl, hb1⟩; obtain ⟨hc1, hf1⟩ := bcell hb1; have hz := hb1.size; simp at hz; have hz0 : w.heap.size < w1.heap.size := (by omega); have hz1 : w.heap.size + 1 < w1.heap.size := (by omega)))
    refine bodyPost_ret (v := .agg #[.int .i64 1, .int .i64 n3, .int .i64 0, .int .i64 cc, .int .i64 cs, .int .i64 ck, .string cy, .string cf, .string ct, .int .i64 cn]) ?_ rfl ⟨rfl, below_by⟩
    simp [results, Tryz.results30, go_sem, *]
  · rw [show actV _ = .agg #[.int .i64 2, .int .i64 n3, .int .i64 0, .int .i64 0, .int .i64 0, .int .i64 0, .string { data := #[] }, .string { data := #[] }, .string { data := #[] }, .int .i64 0] from rfl]
    go_enter Tryz.func30, Tryz.ntmps30
    go_wp2_with (first | (refine (HA.out _).mono ?_; rintro e w' ⟨rfl, rfl⟩) | (refine (HP.out _).mono ?_; rintro e w' ⟨rfl, rfl⟩) | (refine (H3.out _).mono ?_; rintro e w' ⟨rfl, rfl⟩) | (refine (H5.out _).mono ?_; rintro e w' ⟨rfl, rfl⟩) | (refine (H4.out _).mono ?_; rintro e w' ⟨rfl, rfl⟩))
    refine bodyPost_ret (v := .agg #[.int .i64 2, .int .i64 n3, .int .i64 0, .int .i64 0, .int .i64 0, .int .i64 0, .string { data := #[] }, .string { data := #[] }, .string { data := #[] }, .int .i64 0]) ?_ rfl ⟨rfl, below_by⟩
    simp [results, Tryz.results30, go_sem, *]
  · rw [show actV _ = .agg #[.int .i64 2, .int .i64 n3, .int .i64 0, .int .i64 0, .int .i64 0, .int .i64 0, .string { data := #[] }, .string { data := #[] }, .string { data := #[] }, .int .i64 0] from rfl]
    go_enter Tryz.func30, Tryz.ntmps30
    go_wp2_with (first | (refine (HA.out _).mono ?_; rintro e w' ⟨rfl, rfl⟩) | (refine (HP.out _).mono ?_; rintro e w' ⟨rfl, rfl⟩) | (refine (H3.out _).mono ?_; rintro e w' ⟨rfl, rfl⟩) | (refine (H5.out _).mono ?_; rintro e w' ⟨rfl, rfl⟩) | (refine (H4.out _).mono ?_; rintro e w' ⟨rfl, rfl⟩))
    refine bodyPost_ret (v := .agg #[.int .i64 2, .int .i64 n3, .int .i64 0, .int .i64 0, .int .i64 0, .int .i64 0, .string { data := #[] }, .string { data := #[] }, .string { data := #[] }, .int .i64 0]) ?_ rfl ⟨rfl, below_by⟩
    simp [results, Tryz.results30, go_sem, *]
  · rw [show actV _ = .agg #[.int .i64 3, .int .i64 n3, .int .i64 0, .int .i64 0, .int .i64 0, .int .i64 0, .string { data := #[] }, .string { data := #[] }, .string { data := #[] }, .int .i64 0] from rfl]
    go_enter Tryz.func30, Tryz.ntmps30
    go_wp2_with (first | (refine (HA.out _).mono ?_; rintro e w' ⟨rfl, rfl⟩) | (refine (HP.out _).mono ?_; rintro e w' ⟨rfl, rfl⟩) | (refine (H3.out _).mono ?_; rintro e w' ⟨rfl, rfl⟩) | (refine (H5.out _).mono ?_; rintro e w' ⟨rfl, rfl⟩) | (refine (H4.out _).mono ?_; rintro e w' ⟨rfl, rfl⟩))
    refine bodyPost_ret (v := .agg #[.int .i64 3, .int .i64 n3, .int .i64 0, .int .i64 0, .int .i64 0, .int .i64 0, .string { data := #[] }, .string { data := #[] }, .string { data := #[] }, .int .i64 0]) ?_ rfl ⟨rfl, below_by⟩
    simp [results, Tryz.results30, go_sem, *]
  · rw [show actV _ = .agg #[.int .i64 3, .int .i64 n3, .int .i64 0, .int .i64 0, .int .i64 0, .int .i64 0, .string { data := #[] }, .string { data := #[] }, .string { data := #[] }, .int .i64 0] from rfl]
    go_enter Tryz.func30, Tryz.ntmps30
    go_wp2_with (first | (refine (HA.out _).mono ?_; rintro e w' ⟨rfl, rfl⟩) | (refine (HP.out _).mono ?_; rintro e w' ⟨rfl, rfl⟩) | (refine (H3.out _).mono ?_; rintro e w' ⟨rfl, rfl⟩) | (refine (H5.out _).mono ?_; rintro e w' ⟨rfl, rfl⟩) | (refine (H4.out _).mono ?_; rintro e w' ⟨rfl, rfl⟩))
    refine bodyPost_ret (v := .agg #[.int .i64 3, .int .i64 n3, .int .i64 0, .int .i64 0, .int .i64 0, .int .i64 0, .string { data := #[] }, .string { data := #[] }, .string { data := #[] }, .int .i64 0]) ?_ rfl ⟨rfl, below_by⟩
    simp [results, Tryz.results30, go_sem, *]
  · rw [show actV _ = .agg #[.int .i64 3, .int .i64 n3, .int .i64 0, .int .i64 0, .int .i64 0, .int .i64 0, .string { data := #[] }, .string { data := #[] }, .string { data := #[] }, .int .i64 0] from rfl]
    go_enter Tryz.func30, Tryz.ntmps30
    go_wp2_with (first | (refine (HA.out _).mono ?_; rintro e w' ⟨rfl, rfl⟩) | (refine (HP.out _).mono ?_; rintro e w' ⟨rfl, rfl⟩) | (refine (H3.out _).mono ?_; rintro e w' ⟨rfl, rfl⟩) | (refine (H5.out _).mono ?_; rintro e w' ⟨rfl, rfl⟩) | (refine (H4.out _).mono ?_; rintro e w' ⟨rfl, rfl⟩))
    refine bodyPost_ret (v := .agg #[.int .i64 3, .int .i64 n3, .int .i64 0, .int .i64 0, .int .i64 0, .int .i64 0, .string { data := #[] }, .string { data := #[] }, .string { data := #[] }, .int .i64 0]) ?_ rfl ⟨rfl, below_by⟩
    simp [results, Tryz.results30, go_sem, *]
  · rw [show actV _ = .agg #[.int .i64 4, .int .i64 n3, .int .i64 0, .int .i64 0, .int .i64 0, .int .i64 0, .string { data := #[] }, .string { data := #[] }, .string { data := #[] }, .int .i64 0] from rfl]
    go_enter Tryz.func30, Tryz.ntmps30
    go_wp2_with (first | (refine (HA.out _).mono ?_; rintro e w' ⟨rfl, rfl⟩) | (refine (HP.out _).mono ?_; rintro e w' ⟨rfl, rfl⟩) | (refine (H3.out _).mono ?_; rintro e w' ⟨rfl, rfl⟩) | (refine (H5.out _).mono ?_; rintro e w' ⟨rfl, rfl⟩) | (refine (H4.out _).mono ?_; rintro e w' ⟨rfl, rfl⟩))
    refine bodyPost_ret (v := .agg #[.int .i64 4, .int .i64 n3, .int .i64 0, .int .i64 0, .int .i64 0, .int .i64 0, .string { data := #[] }, .string { data := #[] }, .string { data := #[] }, .int .i64 0]) ?_ rfl ⟨rfl, below_by⟩
    simp [results, Tryz.results30, go_sem, *]
  · rw [show actV _ = .agg #[.int .i64 4, .int .i64 n3, .int .i64 0, .int .i64 0, .int .i64 0, .int .i64 0, .string { data := #[] }, .string { data := #[] }, .string { data := #[] }, .int .i64 0] from rfl]
    go_enter Tryz.func30, Tryz.ntmps30
    go_wp2_with (first | (refine (HA.out _).mono ?_; rintro e w' ⟨rfl, rfl⟩) | (refine (HP.out _).mono ?_; rintro e w' ⟨rfl, rfl⟩) | (refine (H3.out _).mono ?_; rintro e w' ⟨rfl, rfl⟩) | (refine (H5.out _).mono ?_; rintro e w' ⟨rfl, rfl⟩) | (refine (H4.out _).mono ?_; rintro e w' ⟨rfl, rfl⟩))
    refine bodyPost_ret (v := .agg #[.int .i64 4, .int .i64 n3, .int .i64 0, .int .i64 0, .int .i64 0, .int .i64 0, .string { data := #[] }, .string { data := #[] }, .string { data := #[] }, .int .i64 0]) ?_ rfl ⟨rfl, below_by⟩
    simp [results, Tryz.results30, go_sem, *]
  · rw [show actV _ = .agg #[.int .i64 4, .int .i64 n3, .int .i64 0, .int .i64 0, .int .i64 0, .int .i64 0, .string { data := #[] }, .string { data := #[] }, .string { data := #[] }, .int .i64 0] from rfl]
    go_enter Tryz.func30, Tryz.ntmps30
    go_wp2_with (first | (refine (HA.out _).mono ?_; rintro e w' ⟨rfl, rfl⟩) | (refine (HP.out _).mono ?_; rintro e w' ⟨rfl, rfl⟩) | (refine (H3.out _).mono ?_; rintro e w' ⟨rfl, rfl⟩) | (refine (H5.out _).mono ?_; rintro e w' ⟨rfl, rfl⟩) | (refine (H4.out _).mono ?_; rintro e w' ⟨rfl, rfl⟩))
    refine bodyPost_ret (v := .agg #[.int .i64 4, .int .i64 n3, .int .i64 0, .int .i64 0, .int .i64 0, .int .i64 0, .string { data := #[] }, .string { data := #[] }, .string { data := #[] }, .int .i64 0]) ?_ rfl ⟨rfl, below_by⟩
    simp [results, Tryz.results30, go_sem, *]
  · rw [show actV _ = .agg #[.int .i64 4, .int .i64 n3, .int .i64 0, .int .i64 0, .int .i64 0, .int .i64 0, .string { data := #[] }, .string { data := #[] }, .string { data := #[] }, .int .i64 0] from rfl]
    go_enter Tryz.func30, Tryz.ntmps30
    go_wp2_with (first | (refine (HA.out _).mono ?_; rintro e w' ⟨rfl, rfl⟩) | (refine (HP.out _).mono ?_; rintro e w' ⟨rfl, rfl⟩) | (refine (H3.out _).mono ?_; rintro e w' ⟨rfl, rfl⟩) | (refine (H5.out _).mono ?_; rintro e w' ⟨rfl, rfl⟩) | (refine (H4.out _).mono ?_; rintro e w' ⟨rfl, rfl⟩))
    refine bodyPost_ret (v := .agg #[.int .i64 4, .int .i64 n3, .int .i64 0, .int .i64 0, .int .i64 0, .int .i64 0, .string { data := #[] }, .string { data := #[] }, .string { data := #[] }, .int .i64 0]) ?_ rfl ⟨rfl, below_by⟩
    simp [results, Tryz.results30, go_sem, *]
  · rw [show actV _ = .agg #[.int .i64 6, .int .i64 0, .int .i64 b300, .int .i64 0, .int .i64 0, .int .i64 0, .string { data := #[] }, .string { data := #[] }, .string { data := #[] }, .int .i64 0] from rfl]
    go_enter Tryz.func30, Tryz.ntmps30
    go_wp2_with (first | (refine (HA.out _).mono ?_; rintro e w' ⟨rfl, rfl⟩) | (refine (HP.out _).mono ?_; rintro e w' ⟨rfl, rfl⟩) | (refine (H3.out _).mono ?_; rintro e w' ⟨rfl, rfl⟩) | (refine (H5.out _).mono ?_; rintro e w' ⟨rfl, rfl⟩) | (refine (H4.out _).mono ?_; rintro e w' ⟨rfl, rfl⟩))
    refine bodyPost_ret (v := .agg #[.int .i64 6, .int .i64 0, .int .i64 b300, .int .i64 0, .int .i64 0, .int .i64 0, .string { data := #[] }, .string { data := #[] }, .string { data := #[] }, .int .i64 0]) ?_ rfl ⟨rfl, below_by⟩
    simp [results, Tryz.results30, go_sem, *]
  · rw [show actV _ = .agg #[.int .i64 7, .int .i64 0, .int .i64 b300, .int .i64 0, .int .i64 0, .int .i64 0, .string { data := #[] }, .string { data := #[] }, .string { data := #[] }, .int .i64 0] from rfl]
    go_enter Tryz.func30, Tryz.ntmps30
    go_wp2_with (first | (refine (HA.out _).mono ?_; rintro e w' ⟨rfl, rfl⟩) | (refine (HP.out _).mono ?_; rintro e w' ⟨rfl, rfl⟩) | (refine (H3.out _).mono ?_; rintro e w' ⟨rfl, rfl⟩) | (refine (H5.out _).mono ?_; rintro e w' ⟨rfl, rfl⟩) | (refine (H4.out _).mono ?_; rintro e w' ⟨rfl, rfl⟩))
    refine bodyPost_ret (v := .agg #[.int .i64 7, .int .i64 0, .int .i64 b300, .int .i64 0, .int .i64 0, .int .i64 0, .string { data := #[] }, .string { data := #[] }, .string { data := #[] }, .int .i64 0]) ?_ rfl ⟨rfl, below_by⟩
    simp [results, Tryz.results30, go_sem, *]
  · rw [show actV _ = .agg #[.int .i64 8, .int .i64 0, .int .i64 b300, .int .i64 0, .int .i64 0, .int .i64 0, .string { data := #[] }, .string { data := #[] }, .string { data := #[] }, .int .i64 0] from rfl]
    go_enter Tryz.func30, Tryz.ntmps30
    go_wp2_with (first | (refine (HA.out _).mono ?_; rintro e w' ⟨rfl, rfl⟩) | (refine (HP.out _).mono ?_; rintro e w' ⟨rfl, rfl⟩) | (refine (H3.out _).mono ?_; rintro e w' ⟨rfl, rfl⟩) | (refine (H5.out _).mono ?_; rintro e w' ⟨rfl, rfl⟩) | (refine (H4.out _).mono ?_; rintro e w' ⟨rfl, rfl⟩))
    refine bodyPost_ret (v := .agg #[.int .i64 8, .int .i64 0, .int .i64 b300, .int .i64 0, .int .i64 0, .int .i64 0, .string { data := #[] }, .string { data := #[] }, .string { data := #[] }, .int .i64 0]) ?_ rfl ⟨rfl, below_by⟩
    simp [results, Tryz.results30, go_sem, *]
  · rw [show actV _ = .agg #[.int .i64 9, .int .i64 n3, .int .i64 b500, .int .i64 0, .int .i64 0, .int .i64 0, .string { data := #[] }, .string { data := #[] }, .string { data := #[] }, .int .i64 0] from rfl]
    go_enter Tryz.func30, Tryz.ntmps30
    go_wp2_with (first | (refine (HA.out _).mono ?_; rintro e w' ⟨rfl, rfl⟩) | (refine (HP.out _).mono ?_; rintro e w' ⟨rfl, rfl⟩) | (refine (H3.out _).mono ?_; rintro e w' ⟨rfl, rfl⟩) | (refine (H5.out _).mono ?_; rintro e w' ⟨rfl, rfl⟩) | (refine (H4.out _).mono ?_; rintro e w' ⟨rfl, rfl⟩))
    refine bodyPost_ret (v := .agg #[.int .i64 9, .int .i64 n3, .int .i64 b500, .int .i64 0, .int .i64 0, .int .i64 0, .string { data := #[] }, .string { data := #[] }, .string { data := #[] }, .int .i64 0]) ?_ rfl ⟨rfl, below_by⟩
    simp [results, Tryz.results30, go_sem, *]
  · rw [show actV _ = .agg #[.int .i64 10, .int .i64 n3, .int .i64 0, .int .i64 0, .int .i64 0, .int .i64 0, .string { data := #[] }, .string { data := #[] }, .string { data := #[] }, .int .i64 0] from rfl]
    go_enter Tryz.func30, Tryz.ntmps30
    go_wp2_with (first | (refine (HA.out _).mono ?_; rintro e w' ⟨rfl, rfl⟩) | (refine (HP.out _).mono ?_; rintro e w' ⟨rfl, rfl⟩) | (refine (H3.out _).mono ?_; rintro e w' ⟨rfl, rfl⟩) | (refine (H5.out _).mono ?_; rintro e w' ⟨rfl, rfl⟩) | (refine (H4.out _).mono ?_; rintro e w' ⟨rfl, rfl⟩))
    refine bodyPost_ret (v := .agg #[.int .i64 10, .int .i64 n3, .int .i64 0, .int .i64 0, .int .i64 0, .int .i64 0, .string { data := #[] }, .string { data := #[] }, .string { data := #[] }, .int .i64 0]) ?_ rfl ⟨rfl, below_by⟩
    simp [results, Tryz.results30, go_sem, *]
  · rw [show actV _ = .agg #[.int .i64 11, .int .i64 n3, .int .i64 0, .int .i64 0, .int .i64 0, .int .i64 0, .string { data := #[] }, .string { data := #[] }, .string { data := #[] }, .int .i64 0] from rfl]
    go_enter Tryz.func30, Tryz.ntmps30
    go_wp2_with (first | (refine (HA.out _).mono ?_; rintro e w' ⟨rfl, rfl⟩) | (refine (HP.out _).mono ?_; rintro e w' ⟨rfl, rfl⟩) | (refine (H3.out _).mono ?_; rintro e w' ⟨rfl, rfl⟩) | (refine (H5.out _).mono ?_; rintro e w' ⟨rfl, rfl⟩) | (refine (H4.out _).mono ?_; rintro e w' ⟨rfl, rfl⟩))
    refine bodyPost_ret (v := .agg #[.int .i64 11, .int .i64 n3, .int .i64 0, .int .i64 0, .int .i64 0, .int .i64 0, .string { data := #[] }, .string { data := #[] }, .string { data := #[] }, .int .i64 0]) ?_ rfl ⟨rfl, below_by⟩
    simp [results, Tryz.results30, go_sem, *]
  · rw [show actV _ = .agg #[.int .i64 5, .int .i64 n3, .int .i64 b40, .int .i64 0, .int .i64 0, .int .i64 0, .string { data := #[] }, .string { data := #[] }, .string { data := #[] }, .int .i64 0] from rfl]
    go_enter Tryz.func30, Tryz.ntmps30
    go_wp2_with (first | (refine (HA.out _).mono ?_; rintro e w' ⟨rfl, rfl⟩) | (refine (HP.out _).mono ?_; rintro e w' ⟨rfl, rfl⟩) | (refine (H3.out _).mono ?_; rintro e w' ⟨rfl, rfl⟩) | (refine (H5.out _).mono ?_; rintro e w' ⟨rfl, rfl⟩) | (refine (H4.out _).mono ?_; rintro e w' ⟨rfl, rfl⟩))
    refine bodyPost_ret (v := .agg #[.int .i64 5, .int .i64 n3, .int .i64 b40, .int .i64 0, .int .i64 0, .int .i64 0, .string { data := #[] }, .string { data := #[] }, .string { data := #[] }, .int .i64 0]) ?_ rfl ⟨rfl, below_by⟩
    simp [results, Tryz.results30, go_sem, *]
  · rw [show actV _ = .agg #[.int .i64 12, .int .i64 0, .int .i64 0, .int .i64 0, .int .i64 0, .int .i64 0, .string { data := #[] }, .string { data := #[] }, .string { data := #[] }, .int .i64 0] from rfl]
    go_enter Tryz.func30, Tryz.ntmps30
    go_wp2_with (first | (refine (HA.out _).mono ?_; rintro e w' ⟨rfl, rfl⟩) | (refine (HP.out _).mono ?_; rintro e w' ⟨rfl, rfl⟩) | (refine (H3.out _).mono ?_; rintro e w' ⟨rfl, rfl⟩) | (refine (H5.out _).mono ?_; rintro e w' ⟨rfl, rfl⟩) | (refine (H4.out _).mono ?_; rintro e w' ⟨rfl, rfl⟩))
    refine bodyPost_ret (v := .agg #[.int .i64 12, .int .i64 0, .int .i64 0, .int .i64 0, .int .i64 0, .int .i64 0, .string { data := #[] }, .string { data := #[] }, .string { data := #[] }, .int .i64 0]) ?_ rfl ⟨rfl, below_by⟩
    simp [results, Tryz.results30, go_sem, *]
end Go.Proofs.YtgdcofbnbiclmaaGreatDoor
