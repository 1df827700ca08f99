/- rostrumkeep.snap; tape.CheckSnap; tape.Check of a snap's record. -/
import Derived.Test.YtgpkgegpcgiokaaGreatDoorMachS
namespace Go.Proofs.YtgpkgegpcgiokaaGreatDoor
set_option linter.all false
open Go.RowKit
theorem tnumber_any (n : Int) (w : World) : Calls Tryz.prog 76 #[.int .i64 n] w fun e w' => e = .returned (.bool (numberOk n)) ∧ w = w' := by
  go_enter Tryz.func76, Tryz.ntmps76
  go_wp2_with fail
  all_goals go_ret
  all_goals exact ⟨ret_bool (by simp [numberOk]; try omega), rfl⟩
def csM (i t : Int) (m : Mach) : Int := if (numberOk i && numberOk t) = true then checkMach m else 2
set_option maxRecDepth 100000 in
set_option maxHeartbeats 4000000 in
theorem CheckSnap_any (i t : Int) (m : Mach) (A B : Option Addr) (na ca nb cb : Nat) (w : World) (hE : StSl w A na ca m.ents) (hC : ClSl w B nb cb m.clis) (hna : na ≤ 1048576) (hnb : nb ≤ 1048576) (hsm : ∀ x ∈ m.ents, small x.val 1048576) (hcl : ∀ x ∈ m.clis, x.rep.text.size ≤ 1048576 ∧ x.rep.list.length ≤ 1048576) :
    Calls Tryz.prog 36 #[.agg #[.int .i64 i, .int .i64 t, .int .i64 m.now, .slice A na ca, .int .i64 m.next, .slice B nb cb]] w fun e w' => e = .returned (.int .i64 (csM i t m)) ∧ Below w.heap.size w w' := by
  have KM := hide (fun w' (hb : Below w.heap.size w w') => CheckM_any m A B na ca nb cb w' (hE.bl hb) (hC.bl hb) hna hnb hsm hcl)
  have h1 := fun w => tnumber_any i w
  have h2 := fun w => tnumber_any t w
  unfold csM
  generalize checkMach m = cm at *
  generalize numberOk i = bi at *
  generalize numberOk t = bt at *
  have H1 := hide h1; have H2 := hide h2
  clear h1 h2 hE hC hsm hcl
  obtain ⟨now, ents, next, clis⟩ := m
  simp only at KM ⊢
  have T0 := Blk.new w 63 #[.int .i64 i, .int .i64 t, .int .i64 now, .slice A na ca, .int .i64 next, .slice B nb cb]
  have q0 : Below w.heap.size w (w.alloc (.cells #[.int .i64 i, .int .i64 t, .int .i64 now, .slice A na ca, .int .i64 next, .slice B nb cb] 63)) := below_by
  go_enter Tryz.func36, Tryz.ntmps36
  go_wp2_with fail
  refine (H1.out _).mono ?_
  rintro e w' ⟨rfl, rfl⟩
  cases bi
  · go_wp2_with fail
    go_ret
    exact ⟨rfl, q0⟩
  · (try clear cT0 fT0); have cT0 := T0.cell; have fT0 := T0.frozen
    go_wp2_with fail
    refine (H2.out _).mono ?_
    rintro e w' ⟨rfl, rfl⟩
    cases bt
    · go_wp2_with fail
      go_ret
      exact ⟨rfl, q0⟩
    · go_wp2_with fail
      refine (KM.out _ q0).mono ?_
      rintro e w1 ⟨rfl, hb1⟩
      have q1 := bstep q0 hb1
      go_wp2_with fail
      go_ret
      exact ⟨rfl, q1⟩
set_option maxRecDepth 100000 in
set_option maxHeartbeats 8000000 in
theorem CheckLoad_any (i t : Int) (m : Mach) (A B : Option Addr) (na ca nb cb : Nat) (w : World) (hE : StSl w A na ca m.ents) (hC : ClSl w B nb cb m.clis) (hna : na ≤ 1048576) (hnb : nb ≤ 1048576) (hsm : ∀ x ∈ m.ents, small x.val 1048576) (hcl : ∀ x ∈ m.clis, x.rep.text.size ≤ 1048576 ∧ x.rep.list.length ≤ 1048576) :
    Calls Tryz.prog 37 #[.agg #[.int .i64 3, .int .i64 0, .int .i64 0, .int .i64 0, .int .i64 0, .int .i64 0, .bool false, .int .i64 0, .int .i64 0, .int .i64 0, .string { data := #[] }, .string { data := #[] }, .string { data := #[] }, .int .i64 0, .int .i64 i, .int .i64 t, .int .i64 m.now, .slice A na ca, .int .i64 m.next, .slice B nb cb]] w fun e w' => e = .returned (.int .i64 (csM i t m)) ∧ Below w.heap.size w w' := by
  have KM := hide (fun w' (hb : Below w.heap.size w w') => CheckSnap_any i t m A B na ca nb cb w' (hE.bl hb) (hC.bl hb) hna hnb hsm hcl)
  generalize csM i t m = R at *
  clear hE hC hsm hcl
  obtain ⟨now, ents, next, clis⟩ := m
  simp only at KM ⊢
  have T0 := Blk.new w 70 #[.int .i64 3, .int .i64 0, .int .i64 0, .int .i64 0, .int .i64 0, .int .i64 0, .bool false, .int .i64 0, .int .i64 0, .int .i64 0, .string { data := #[] }, .string { data := #[] }, .string { data := #[] }, .int .i64 0, .int .i64 i, .int .i64 t, .int .i64 now, .slice A na ca, .int .i64 next, .slice B nb cb]
  replace T0 := T0.alloc (.cells #[.int .i64 0, .int .i64 0, .bool false, .int .i64 0, .int .i64 0, .int .i64 0, .string { data := #[] }, .string { data := #[] }, .string { data := #[] }, .int .i64 0] 68)
  have I0 := Blk.new (w.alloc (.cells #[.int .i64 3, .int .i64 0, .int .i64 0, .int .i64 0, .int .i64 0, .int .i64 0, .bool false, .int .i64 0, .int .i64 0, .int .i64 0, .string { data := #[] }, .string { data := #[] }, .string { data := #[] }, .int .i64 0, .int .i64 i, .int .i64 t, .int .i64 now, .slice A na ca, .int .i64 next, .slice B nb cb] 70)) 68 #[.int .i64 0, .int .i64 0, .bool false, .int .i64 0, .int .i64 0, .int .i64 0, .string { data := #[] }, .string { data := #[] }, .string { data := #[] }, .int .i64 0]
  have q0 : Below w.heap.size w ((w.alloc (.cells #[.int .i64 3, .int .i64 0, .int .i64 0, .int .i64 0, .int .i64 0, .int .i64 0, .bool false, .int .i64 0, .int .i64 0, .int .i64 0, .string { data := #[] }, .string { data := #[] }, .string { data := #[] }, .int .i64 0, .int .i64 i, .int .i64 t, .int .i64 now, .slice A na ca, .int .i64 next, .slice B nb cb] 70)).alloc (.cells #[.int .i64 0, .int .i64 0, .bool false, .int .i64 0, .int .i64 0, .int .i64 0, .string { data := #[] }, .string { data := #[] }, .string { data := #[] }, .int .i64 0] 68)) := below_by
  go_enter Tryz.func37, Tryz.ntmps37
  (try clear cT0 fT0); have cT0 := T0.cell; have fT0 := T0.frozen; (try clear cI0 fI0); have cI0 := I0.cell; have fI0 := I0.frozen
  go_wp2_with fail
  refine (KM.out _ q0).mono ?_
  rintro e w1 ⟨rfl, hb1⟩
  have q1 := bstep q0 hb1
  go_wp2_with fail
  go_ret
  exact ⟨rfl, q1⟩
set_option maxHeartbeats 4000000 in
theorem whole_snap {w2 : World} {b : Nat} {x0 x1 x2 x3 x4 x5 : Value} (u0 u1 u2 u3 u4 u5 : Value) (R : Blk w2 b 63 #[x0, x1, x2, x3, x4, x5]) :
    Blk ((((((w2.setCell ⟨b, 0, none⟩ (u0)).setCell ⟨b, 1, none⟩ (u1)).setCell ⟨b, 2, none⟩ (u2)).setCell ⟨b, 3, none⟩ (u3)).setCell ⟨b, 4, none⟩ (u4)).setCell ⟨b, 5, none⟩ (u5)) b 63 #[u0, u1, u2, u3, u4, u5] ∧ w2.grownBy ((((((w2.setCell ⟨b, 0, none⟩ (u0)).setCell ⟨b, 1, none⟩ (u1)).setCell ⟨b, 2, none⟩ (u2)).setCell ⟨b, 3, none⟩ (u3)).setCell ⟨b, 4, none⟩ (u4)).setCell ⟨b, 5, none⟩ (u5)) (some b) ∧ ((((((w2.setCell ⟨b, 0, none⟩ (u0)).setCell ⟨b, 1, none⟩ (u1)).setCell ⟨b, 2, none⟩ (u2)).setCell ⟨b, 3, none⟩ (u3)).setCell ⟨b, 4, none⟩ (u4)).setCell ⟨b, 5, none⟩ (u5)).heap.size = w2.heap.size := by
  have R0 := R.set' (i := 0) (u := u0) rfl
  have R1 := R0.set' (i := 1) (u := u1) rfl
  have R2 := R1.set' (i := 2) (u := u2) rfl
  have R3 := R2.set' (i := 3) (u := u3) rfl
  have R4 := R3.set' (i := 4) (u := u4) rfl
  have R5 := R4.set' (i := 5) (u := u5) rfl
  exact ⟨R5, grown_trans (grown_trans (grown_trans (grown_trans (grown_trans (grown_setRow_cell w2 b 0 u0) (grown_setRow_cell _ b 1 u1)) (grown_setRow_cell _ b 2 u2)) (grown_setRow_cell _ b 3 u3)) (grown_setRow_cell _ b 4 u4)) (grown_setRow_cell _ b 5 u5), by simp⟩
def SnapPost (i t : Int) (m : Mach) (w : World) (e : Ending) (w' : World) : Prop :=
  ∃ A n c B k d, e = .returned (.agg #[.int .i64 i, .int .i64 t, .int .i64 m.now, .slice A n c, .int .i64 m.next, .slice B k d]) ∧ St w' A n c m.ents ∧ Ci w' B k d m.clis ∧ Below w.heap.size w w'
set_option maxRecDepth 100000 in
set_option maxHeartbeats 8000000 in
theorem snap_any (A : Option Addr) (n c : Nat) (l : List DeedD) (x y : Int) (w : World) (hS : Sl w 8 A n c (deedRows l)) (hd : ∀ d ∈ l, d.ok) (hN : Noth w) (hx : I64 x) (hy : I64 y) :
    Calls Tryz.prog 35 #[.slice A n c, .int .i64 x, .int .i64 y] w (SnapPost (1 + picked x 40) (1 + picked y 5) (machOf (l.take 8)) w) := by
  have hn := deed_len hS
  have hnc := hS.nc
  have hcm := hS.cm
  unfold maxLen at hcm
  have hr : deedRows (l.take 8) = (deedRows l).take (min n 8) := by
    unfold deedRows
    rw [← List.map_take]
    congr 1
    rcases Nat.le_total n 8 with h | h
    · rw [Nat.min_eq_left h, List.take_of_length_le (by omega), List.take_of_length_le (by omega)]
    · rw [Nat.min_eq_right h]
  have hT := hS.take (min n 8) (by omega) c (by omega) (Nat.le_refl _)
  rw [← hr] at hT
  have hF := fun w' (h : Below w.heap.size w w') => Machine_any A (min n 8) c (l.take 8) w' (hT.below h) (fun d hd' => hd d (List.mem_of_mem_take hd')) (hN.bl h)
  have p0 := picked_lo x 40 (by omega)
  have p1 := picked_hi x 40 (by omega)
  have r0 := picked_lo y 5 (by omega)
  have r1 := picked_hi y 5 (by omega)
  have hpx := fun w => picked_any x 40 w hx.1 hx.2 (by omega) (by omega)
  have hpy := fun w => picked_any y 5 w hy.1 hy.2 (by omega) (by omega)
  generalize picked x 40 = p at *
  generalize picked y 5 = r at *
  have hmc : min n 8 ≤ c := by omega
  have hmin : min (n : Int) 8 = ((min n 8 : Nat) : Int) := by omega
  have wp1 : IntKind.i64.wrap (1 + p) = 1 + p := IntWalk.i64_in _ (by omega)
  have wr1 : IntKind.i64.wrap (1 + r) = 1 + r := IntWalk.i64_in _ (by omega)
  generalize machOf (l.take 8) = m at *
  obtain ⟨now, ents, next, clis⟩ := m
  have HF := hide hF; have HPX := hide hpx; have HPY := hide hpy
  clear hF hpx hpy hd hT hr hx hy
  have Z0 := Blk.new w 63 #[.int .i64 0, .int .i64 0, .int .i64 0, .slice none 0 0, .int .i64 0, .slice none 0 0]
  have q0 : Below w.heap.size w (w.alloc (.cells #[.int .i64 0, .int .i64 0, .int .i64 0, .slice none 0 0, .int .i64 0, .slice none 0 0] 63)) := below_by
  go_enter Tryz.func35, Tryz.ntmps35
  go_wp2_with fail
  obtain ⟨w0, hw0⟩ : ∃ w0, w0 = w.alloc (.cells #[.int .i64 0, .int .i64 0, .int .i64 0, .slice none 0 0, .int .i64 0, .slice none 0 0] 63) := ⟨_, rfl⟩
  rw [← hw0] at Z0 q0 ⊢
  clear hw0
  refine wp_region_x (l := [13]) (S := fun w' => Below w0.heap.size w0 w') (by kernel_rfl) ((Below.refl _ w0).drew) (fun hS => ?_)
  refine wpAnyX_tk (i := 0) (v := ?xv0s) rfl (Or.inl ⟨by rfl, ?xh0s⟩) ?xr0s; (case xh0s => (intro w hSw; (try dsimp only at hSw); go_simp; (try with_reducible rfl))); (try simp only [Act.put, List.setIfInBounds_toArray, List.set_cons_zero, List.set_cons_succ, List.getElem_toArray, List.getElem_cons_zero, List.getElem_cons_succ])
  refine wpAnyX_tk (i := 3) (v := ?xv3s) rfl (Or.inl ⟨by rfl, ?xh3s⟩) ?xr3s; (case xh3s => (intro w hSw; (try dsimp only at hSw); go_simp; (try with_reducible rfl))); (try simp only [Act.put, List.setIfInBounds_toArray, List.set_cons_zero, List.set_cons_succ, List.getElem_toArray, List.getElem_cons_zero, List.getElem_cons_succ])
  refine wpAnyX_tk (i := 6) (v := ?xv6s) rfl (Or.inl ⟨by rfl, ?xh6s⟩) ?xr6s; (case xh6s => (intro w hSw; (try dsimp only at hSw); go_simp; (try with_reducible rfl))); (try simp only [Act.put, List.setIfInBounds_toArray, List.set_cons_zero, List.set_cons_succ, List.getElem_toArray, List.getElem_cons_zero, List.getElem_cons_succ])
  refine wpAnyX_tk (i := 7) (v := ?xv7s) rfl (Or.inl ⟨by rfl, ?xh7s⟩) ?xr7s; (case xh7s => (intro w hSw; (try dsimp only at hSw); go_simp; (try with_reducible rfl))); (try simp only [Act.put, List.setIfInBounds_toArray, List.set_cons_zero, List.set_cons_succ, List.getElem_toArray, List.getElem_cons_zero, List.getElem_cons_succ])
  refine wpAnyX_tk (i := 8) (v := ?xv8s) rfl (Or.inl ⟨by rfl, ?xh8s⟩) ?xr8s; (case xh8s => (intro w hSw; (try dsimp only at hSw); go_simp; (try with_reducible rfl))); (try simp only [Act.put, List.setIfInBounds_toArray, List.set_cons_zero, List.set_cons_succ, List.getElem_toArray, List.getElem_cons_zero, List.getElem_cons_succ])
  refine wpAnyX_tk (i := 9) (v := ?xv9s) rfl (Or.inl ⟨by rfl, ?xh9s⟩) ?xr9s; (case xh9s => (intro w hSw; (try dsimp only at hSw); go_simp; (try with_reducible rfl))); (try simp only [Act.put, List.setIfInBounds_toArray, List.set_cons_zero, List.set_cons_succ, List.getElem_toArray, List.getElem_cons_zero, List.getElem_cons_succ])
  refine wpAnyX_tk (i := 10) (v := ?xv10s) rfl (Or.inl ⟨by rfl, ?xh10s⟩) ?xr10s; (case xh10s => (intro w hSw; (try dsimp only at hSw); go_simp; (try with_reducible rfl))); (try simp only [Act.put, List.setIfInBounds_toArray, List.set_cons_zero, List.set_cons_succ, List.getElem_toArray, List.getElem_cons_zero, List.getElem_cons_succ])
  refine wpAnyX_one (i := 1) (by kernel_rfl) rfl (by rfl) (fun K hK => ?_); (try simp only [List.getElem_toArray, List.getElem_cons_zero, List.getElem_cons_succ])
  go_wp2_with fail
  refine (HPX.out _).mono ?_
  rintro e w' ⟨rfl, rfl⟩
  go_wp2_with fail
  refine hK.out _ _ (Or.inr hS) (fun hS => ?_)
  replace hS := hS.resolve_left (by decide)
  clear hK K
  refine wpAnyX_tk (i := 2) (v := ?xv2s) rfl (Or.inl ⟨by rfl, ?xh2s⟩) ?xr2s; (case xh2s => (intro w hSw; (try dsimp only at hSw); go_simp; (try with_reducible rfl))); (try simp only [Act.put, List.setIfInBounds_toArray, List.set_cons_zero, List.set_cons_succ, List.getElem_toArray, List.getElem_cons_zero, List.getElem_cons_succ])
  refine wpAnyX_one (i := 4) (by kernel_rfl) rfl (by rfl) (fun K hK => ?_); (try simp only [List.getElem_toArray, List.getElem_cons_zero, List.getElem_cons_succ])
  go_wp2_with fail
  refine (HPY.out _).mono ?_
  rintro e w' ⟨rfl, rfl⟩
  go_wp2_with fail
  refine hK.out _ _ (Or.inr hS) (fun hS => ?_)
  replace hS := hS.resolve_left (by decide)
  clear hK K
  refine wpAnyX_tk (i := 5) (v := ?xv5s) rfl (Or.inl ⟨by rfl, ?xh5s⟩) ?xr5s; (case xh5s => (intro w hSw; (try dsimp only at hSw); go_simp; (try with_reducible rfl))); (try simp only [Act.put, List.setIfInBounds_toArray, List.set_cons_zero, List.set_cons_succ, List.getElem_toArray, List.getElem_cons_zero, List.getElem_cons_succ])
  refine wpAnyX_one (i := 11) (by kernel_rfl) rfl (by rfl) (fun K hK => ?_); (try simp only [List.getElem_toArray, List.getElem_cons_zero, List.getElem_cons_succ])
  go_wp2_with fail
  refine (HF.out _ (bstep q0 hS)).mono ?_
  rintro e w1 ⟨A1, n1, c1, B1, k1, d1, rfl, S1, C1, hb1⟩
  have q1 := bstep hS hb1
  go_wp2_with fail
  refine hK.out _ _ (Or.inr q1) (fun hS => ?_)
  replace hS := hS.resolve_left (by decide)
  clear hK K hb1
  refine wpAnyX_tk (i := 12) (v := ?xv12s) rfl (Or.inl ⟨by rfl, ?xh12s⟩) ?xr12s; (case xh12s => (intro w hSw; (try dsimp only at hSw); go_simp; (try with_reducible rfl))); (try simp only [Act.put, List.setIfInBounds_toArray, List.set_cons_zero, List.set_cons_succ, List.getElem_toArray, List.getElem_cons_zero, List.getElem_cons_succ])
  refine wpAnyX_one (i := 13) (by kernel_rfl) rfl (by rfl) (fun K hK => ?_); (try simp only [List.getElem_toArray, List.getElem_cons_zero, List.getElem_cons_succ])
  replace Z0 := Z0.below' q1
  have hq := bstep q0 q1
  obtain ⟨Z9, gr9, sz9⟩ := whole_snap (.int .i64 (1 + p)) (.int .i64 (1 + r)) (.int .i64 now) (.slice A1 n1 c1) (.int .i64 next) (.slice B1 k1 d1) Z0
  have HP := hide (show SnapPost (1 + p) (1 + r) ⟨now, ents, next, clis⟩ w (.returned (.agg #[.int .i64 (1 + p), .int .i64 (1 + r), .int .i64 now, .slice A1 n1 c1, .int .i64 next, .slice B1 k1 d1])) _ from ⟨_, _, _, _, _, _, rfl, S1.grown Z0 gr9, C1.grown Z0 gr9, below_grow hq gr9 hq.size (Nat.le_refl _)⟩)
  have cZ9 := hide Z9.cell
  clear Z9 gr9 sz9 S1 C1 hq q1 hS q0
  (try clear cZ0 fZ0); have cZ0 := Z0.cell; have fZ0 := Z0.frozen
  go_wp2_with fail
  refine hK.out _ _ (Or.inl (by decide)) (fun _ => ?_)
  clear hK K
  refine wpAnyX_done (by kernel_rfl) ?_ _
  go_wp2_with fail
  have cZ9 := cZ9.out
  refine bodyPost_ret (v := .agg #[.int .i64 (1 + p), .int .i64 (1 + r), .int .i64 now, .slice A1 n1 c1, .int .i64 next, .slice B1 k1 d1]) ?_ rfl HP.out
  simp [results, Tryz.results35, go_sem, cZ9]
end Go.Proofs.YtgpkgegpcgiokaaGreatDoor
