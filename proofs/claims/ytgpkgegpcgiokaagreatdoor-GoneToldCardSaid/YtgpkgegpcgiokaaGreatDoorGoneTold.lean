/- rostrumkeep.GoneTold returns true for every input; client.nothing holds what its initialiser lays. -/
import Derived.Test.YtgpkgegpcgiokaaGreatDoorMachE
import Derived.Test.YtgpkgegpcgiokaaGreatDoorLaidN
import Derived.Test.YtgpkgegpcgiokaaGreatDoorMachL
namespace Go.Proofs.YtgpkgegpcgiokaaGreatDoor
set_option linter.all false
open Go.ChangeShapes Go.WideShapes Go.ChangeAt Go.RowKit
set_option maxRecDepth 100000 in
set_option maxHeartbeats 16000000 in
theorem goneTold_walk (A : Option Addr) (n c : Nat) (l : List DeedD) (d : DeedD) (w : World) (hS : Sl w 8 A n c (deedRows l)) (hd : ∀ d ∈ l, d.ok) (hdd : d.ok) (hN : Noth w) :
    Calls Tryz.prog 6 #[.slice A n c, .agg d.cells.toArray] w fun e w' => e = .returned (.bool true) ∧ Below w.heap.size w w' := by
  have HF := hide (fun w' (hb : Below w.heap.size w w') => Machine_any A n c l w' (hS.below hb) hd (hN.bl hb))
  have hinv := machOf_inv l
  generalize machOf l = m at *
  have hok := hinv.ok
  have p0 := picked_lo d.off 9 (by omega)
  have p1 := picked_hi d.off 9 (by omega)
  have hp := fun w => picked_any d.off 9 w hdd.2.1.1 hdd.2.1.2 (by omega) (by omega)
  have hmk := fun w => CommandM_any d.raw hdd.2.2.2 w
  have hDo := fun A1 n1 c1 B1 k1 d1 w' hE hC hN => DoM_any hok ⟨m.next + picked d.off 9, 1, cmdR d.raw⟩ m.now _ (gone_plan_ hinv (by omega) p0 p1 (cmd_cc d.raw)) (by have := hok.sto.now0; omega) (by have := hok.sto.now1; omega) A1 B1 n1 c1 k1 d1 w' hE hC hN
  have hsm := fun A A' B B' n c n' c' k d k' d' w h1 h2 h3 h4 => sameMachine_eq m A A' B B' n c n' c' k d k' d' w h1 h2 h3 h4 (by have := hok.sto.few; omega) (by have := hok.few; omega)
  have hnx := hinv.next
  have hnx1 := hok.next1
  generalize picked d.off 9 = p at *
  generalize cmdR d.raw = cm at *
  obtain ⟨now, ents, next, clis⟩ := m
  obtain ⟨ck, cy, cf, ct, cn⟩ := cm
  obtain ⟨dc, doff, dw, ⟨rk, ry, rf, rr, rx⟩⟩ := d
  have hfr : failR 11 = ⟨11, { data := #[] }, 0, []⟩ := rfl
  rw [hfr] at hDo
  simp only [cmdW, DeedD.cells] at hmk ⊢
  simp only at hDo hsm hnx hnx1 hp
  have wpn : IntKind.i64.wrap (next + p) = next + p := IntWalk.i64_in _ (by omega)
  have HMK := hide hmk; have HDO := hide hDo; have HSM := hide hsm; have HP := hide hp
  clear hmk hDo hsm hp hinv hok hd hdd hfr
  have X0 := Blk.new w 26 #[.int .i64 dc, .int .i64 doff, .int .i64 dw, .int .i64 rk, .int .i64 ry, .int .i64 rf, .int .i64 rr, .string rx]
  go_enter Tryz.func6, Tryz.ntmps6
  go_wp2_with fail
  refine (HF.out _ below_by).mono ?_
  rintro e w1 ⟨A1, n1, c1, B1, k1, d1, rfl, S1, C1, hb1⟩
  have q : Below w.heap.size w w1 := below_by
  replace X0 := X0.bl hb1
  clear hb1 HF
  have D1 := Blk.new w1 32 #[.int .i64 (now), .slice A1 n1 c1, .int .i64 (next), .slice B1 k1 d1]; replace S1 := S1.al (.cells #[.int .i64 (now), .slice A1 n1 c1, .int .i64 (next), .slice B1 k1 d1] 32); replace C1 := C1.al (.cells #[.int .i64 (now), .slice A1 n1 c1, .int .i64 (next), .slice B1 k1 d1] 32); replace X0 := X0.al (.cells #[.int .i64 (now), .slice A1 n1 c1, .int .i64 (next), .slice B1 k1 d1] 32)
  have q0 : Below w.heap.size w (w1.alloc (.cells #[.int .i64 (now), .slice A1 n1 c1, .int .i64 (next), .slice B1 k1 d1] 32)) := below_by
  go_wp2_with fail
  obtain ⟨wr, hwr⟩ : ∃ wr, wr = w1.alloc (.cells #[.int .i64 (now), .slice A1 n1 c1, .int .i64 (next), .slice B1 k1 d1] 32) := ⟨_, rfl⟩
  rw [← hwr] at S1 C1 X0 D1 q0 ⊢
  have hq1 := q.size
  clear hwr q
  have hv1 := D1.lt
  have hx1 := X0.lt
  have N1 := hN.bl q0
  have hsG : ∀ w', Below wr.heap.size wr w' → (w'.cell? ⟨w1.heap.size, 0, none⟩ = some (.int .i64 now) ∧ w'.cell? ⟨w1.heap.size, 1, none⟩ = some (.slice A1 n1 c1) ∧ w'.cell? ⟨w1.heap.size, 2, none⟩ = some (.int .i64 next) ∧ w'.cell? ⟨w1.heap.size, 3, none⟩ = some (.slice B1 k1 d1) ∧ w'.cell? ⟨w.heap.size, 1, none⟩ = some (.int .i64 doff) ∧ w'.cell? ⟨w.heap.size, 3, none⟩ = some (.int .i64 rk) ∧ w'.cell? ⟨w.heap.size, 4, none⟩ = some (.int .i64 ry) ∧ w'.cell? ⟨w.heap.size, 5, none⟩ = some (.int .i64 rf) ∧ w'.cell? ⟨w.heap.size, 6, none⟩ = some (.int .i64 rr) ∧ w'.cell? ⟨w.heap.size, 7, none⟩ = some (.string rx)) := fun w' q => by
    have V' := D1.below' q
    have X' := X0.below' q
    exact ⟨V'.cell 0, V'.cell 1, V'.cell 2, V'.cell 3, X'.cell 1, X'.cell 3, X'.cell 4, X'.cell 5, X'.cell 6, X'.cell 7⟩
  refine wp_region_x (l := []) (S := fun w' => w'.cell? ⟨w1.heap.size, 0, none⟩ = some (.int .i64 now) ∧ w'.cell? ⟨w1.heap.size, 1, none⟩ = some (.slice A1 n1 c1) ∧ w'.cell? ⟨w1.heap.size, 2, none⟩ = some (.int .i64 next) ∧ w'.cell? ⟨w1.heap.size, 3, none⟩ = some (.slice B1 k1 d1) ∧ w'.cell? ⟨w.heap.size, 1, none⟩ = some (.int .i64 doff) ∧ w'.cell? ⟨w.heap.size, 3, none⟩ = some (.int .i64 rk) ∧ w'.cell? ⟨w.heap.size, 4, none⟩ = some (.int .i64 ry) ∧ w'.cell? ⟨w.heap.size, 5, none⟩ = some (.int .i64 rf) ∧ w'.cell? ⟨w.heap.size, 6, none⟩ = some (.int .i64 rr) ∧ w'.cell? ⟨w.heap.size, 7, none⟩ = some (.string rx)) (by kernel_rfl) (hsG _ (Below.refl _ wr).drew) (fun hS => ?_)
  refine wpAnyX_tk (i := 0) (v := ?xv0) rfl (Or.inl ⟨by rfl, ?xh0⟩) ?xr0; (case xh0 => (intro w hSw; (try dsimp only at hSw); go_simp; (try with_reducible rfl))); (try simp only [Act.put, List.setIfInBounds_toArray, List.set_cons_zero, List.set_cons_succ, List.getElem_toArray, List.getElem_cons_zero, List.getElem_cons_succ])
  refine wpAnyX_tk (i := 1) (v := ?xv1) rfl (Or.inl ⟨by rfl, ?xh1⟩) ?xr1; (case xh1 => (intro w hSw; (try dsimp only at hSw); go_simp; (try with_reducible rfl))); (try simp only [Act.put, List.setIfInBounds_toArray, List.set_cons_zero, List.set_cons_succ, List.getElem_toArray, List.getElem_cons_zero, List.getElem_cons_succ])
  refine wpAnyX_tk (i := 2) (v := ?xv2) rfl (Or.inl ⟨by rfl, ?xh2⟩) ?xr2; (case xh2 => (intro w hSw; (try dsimp only at hSw); go_simp; (try with_reducible rfl))); (try simp only [Act.put, List.setIfInBounds_toArray, List.set_cons_zero, List.set_cons_succ, List.getElem_toArray, List.getElem_cons_zero, List.getElem_cons_succ])
  refine wpAnyX_tk (i := 3) (v := ?xv3) rfl (Or.inl ⟨by rfl, ?xh3⟩) ?xr3; (case xh3 => (intro w hSw; (try dsimp only at hSw); go_simp; (try with_reducible rfl))); (try simp only [Act.put, List.setIfInBounds_toArray, List.set_cons_zero, List.set_cons_succ, List.getElem_toArray, List.getElem_cons_zero, List.getElem_cons_succ])
  refine wpAnyX_tk (i := 4) (v := ?xv4) rfl (Or.inl ⟨by rfl, ?xh4⟩) ?xr4; (case xh4 => (intro w hSw; (try dsimp only at hSw); go_simp; (try with_reducible rfl))); (try simp only [Act.put, List.setIfInBounds_toArray, List.set_cons_zero, List.set_cons_succ, List.getElem_toArray, List.getElem_cons_zero, List.getElem_cons_succ])
  refine wpAnyX_tk (i := 5) (v := ?xv5) rfl (Or.inl ⟨by rfl, ?xh5⟩) ?xr5; (case xh5 => (intro w hSw; (try dsimp only at hSw); go_simp; (try with_reducible rfl))); (try simp only [Act.put, List.setIfInBounds_toArray, List.set_cons_zero, List.set_cons_succ, List.getElem_toArray, List.getElem_cons_zero, List.getElem_cons_succ])
  refine wpAnyX_tk (i := 6) (v := ?xv6) rfl (Or.inl ⟨by rfl, ?xh6⟩) ?xr6; (case xh6 => (intro w hSw; (try dsimp only at hSw); go_simp; (try with_reducible rfl))); (try simp only [Act.put, List.setIfInBounds_toArray, List.set_cons_zero, List.set_cons_succ, List.getElem_toArray, List.getElem_cons_zero, List.getElem_cons_succ])
  refine wpAnyX_tk (i := 7) (v := ?xv7) rfl (Or.inl ⟨by rfl, ?xh7⟩) ?xr7; (case xh7 => (intro w hSw; (try dsimp only at hSw); go_simp; (try with_reducible rfl))); (try simp only [Act.put, List.setIfInBounds_toArray, List.set_cons_zero, List.set_cons_succ, List.getElem_toArray, List.getElem_cons_zero, List.getElem_cons_succ])
  refine wpAnyX_tk (i := 10) (v := ?xv10) rfl (Or.inl ⟨by rfl, ?xh10⟩) ?xr10; (case xh10 => (intro w hSw; (try dsimp only at hSw); go_simp; (try with_reducible rfl))); (try simp only [Act.put, List.setIfInBounds_toArray, List.set_cons_zero, List.set_cons_succ, List.getElem_toArray, List.getElem_cons_zero, List.getElem_cons_succ])
  refine wpAnyX_tk (i := 11) (v := ?xv11) rfl (Or.inl ⟨by rfl, ?xh11⟩) ?xr11; (case xh11 => (intro w hSw; (try dsimp only at hSw); go_simp; (try with_reducible rfl))); (try simp only [Act.put, List.setIfInBounds_toArray, List.set_cons_zero, List.set_cons_succ, List.getElem_toArray, List.getElem_cons_zero, List.getElem_cons_succ])
  have HSG := hide hsG
  clear hsG hS 
  refine wpX_start (n := 12 + left2 false false) (listed := (fun b_ c_ => #[true, true, true, true, true, true, true, true, false, false, true, true, false, false, false, false, false, false, false, b_, c_, false, false, false]) false false) (j1 := 19) (d1 := 6) (t1 := 32) (z1 := #[.int .i64 0, .slice none 0 0, .int .i64 0, .slice none 0 0]) (j2 := 20) (d2 := 7) (t2 := 37) (z2 := #[.int .i64 0, .string { data := #[] }, .int .i64 0, .slice none 0 0]) ?al1 ?al2 ?aln ?all (fun al1 al2 => ?alr); (case al1 => exact ⟨⟨_, rfl, rfl, rfl, fun a w => by simp [go_sem, execOp]⟩⟩); (case al2 => exact ⟨⟨_, rfl, rfl, rfl, fun a w => by simp [go_sem, execOp]⟩⟩); (case aln => kernel_rfl); (case all => kernel_rfl)
  refine' wpX_phase0 (f := 11) (i := 8) (L := (fun b_ c_ => #[true, true, true, true, true, true, true, true, false, false, true, true, false, false, false, false, false, false, false, b_, c_, false, false, false])) (L' := (fun b_ c_ => #[true, true, true, true, true, true, true, true, true, false, true, true, false, false, false, false, false, false, false, b_, c_, false, false, false])) (base := wr.heap.size) (G := (fun w' => Below wr.heap.size wr w')) (x := undef) (y := undef) al1 al2 ?an8 ?al8 ?aa8 ?ar8 ?ai8 ?ag8 ?ae18 ?ae28 ?ae38 ?ap18 ?ap28 HSG.out (fun w' o q => q.alloc q.size o) (fun w' q => q.size) ?aw8 ?am8; (case an8 => rfl); (case al8 => rfl); (case aa8 => rfl); (case ar8 => kernel_rfl); (case ai8 => rfl); (case ag8 => rfl); (case ae18 => (intros; rfl)); (case ae28 => (intros; rfl)); (case ae38 => (intros; rfl)); (case ap18 => (intros; rfl)); (case ap28 => (intros; rfl))
  (case aw8 => exact (Below.refl _ wr).drew)
  intro b_ c_ x_ y_ wp1 hG_ hx_ hy_ hxy_ K_ hK_; (try simp only [Act.put, List.setIfInBounds_toArray, List.set_cons_zero, List.set_cons_succ, List.getElem_toArray, List.getElem_cons_zero, List.getElem_cons_succ])
  go_wp2_with fail
  refine (HP.out _).mono ?_
  rintro e w3 ⟨rfl, hw_⟩
  have hbp : Below wp1.heap.size wp1 w3 := hw_ ▸ Below.refl _ _
  clear hw_
  go_wp2_with fail
  have qp : Below wr.heap.size wr w3 := bstep hG_ hbp
  have hSp := HSG.out _ qp
  refine hK_.out _ _ (Or.inr hSp) ?_
  clear hK_ K_ hG_
  refine' wpX_take' (f := 10) (i := 9) (v := ?xv9) (L := (fun b_ c_ => #[true, true, true, true, true, true, true, true, true, false, true, true, false, false, false, false, false, false, false, b_, c_, false, false, false])) (L' := (fun b_ c_ => #[true, true, true, true, true, true, true, true, true, true, true, true, false, false, false, false, false, false, false, b_, c_, false, false, false])) ?tan9 ?tal9 rfl (by kernel_rfl) ?tar9 (by kernel_rfl) ?tae39 (fun _ _ _ h => h) (Or.inl ⟨by rfl, ?xh9⟩) ?taw9 ?xr9; (case tan9 => rfl); (case tal9 => rfl); (case tar9 => kernel_rfl); (case tae39 => (intros; rfl)); (case taw9 => assumption); (case xh9 => (intro w hSw; (try dsimp only at hSw); go_simp; (try with_reducible rfl))); (try simp only [Act.put, List.setIfInBounds_toArray, List.set_cons_zero, List.set_cons_succ, List.getElem_toArray, List.getElem_cons_zero, List.getElem_cons_succ])
  refine' wpX_phase' (f := 9) (i := 12) (L := (fun b_ c_ => #[true, true, true, true, true, true, true, true, true, true, true, true, false, false, false, false, false, false, false, b_, c_, false, false, false])) (L' := (fun b_ c_ => #[true, true, true, true, true, true, true, true, true, true, true, true, true, false, false, false, false, false, false, b_, c_, false, false, false])) (base := wr.heap.size) (G := (fun w' => Below wr.heap.size wr w')) (b := b_) (c := c_) (x := x_) (y := y_) al1 al2 ?an12 ?al12 ?aa12 ?ar12 ?ai12 ?ag12 ?ae112 ?ae212 ?ae312 ?ap112 ?ap212 HSG.out (fun w' o q => q.alloc q.size o) (fun w' q => q.size) ?aw12 (hx_.bl hbp) (hy_.bl hbp) hxy_ ?am12; (case an12 => rfl); (case al12 => rfl); (case aa12 => rfl); (case ar12 => kernel_rfl); (case ai12 => rfl); (case ag12 => rfl); (case ae112 => (intros; rfl)); (case ae212 => (intros; rfl)); (case ae312 => (intros; rfl)); (case ap112 => (intros; rfl)); (case ap212 => (intros; rfl))
  (case aw12 => exact qp)
  clear hx_ hy_ hxy_ x_ y_ b_ c_ hbp
  intro b_ c_ x_ y_ wp2 hG_ hx_ hy_ hxy_ K_ hK_; (try simp only [Act.put, List.setIfInBounds_toArray, List.set_cons_zero, List.set_cons_succ, List.getElem_toArray, List.getElem_cons_zero, List.getElem_cons_succ])
  go_wp2_with fail
  refine (HMK.out _).mono ?_
  rintro e w4 ⟨rfl, hbp⟩
  go_wp2_with fail
  have qp : Below wr.heap.size wr w4 := bstep hG_ hbp
  have hSp := HSG.out _ qp
  refine hK_.out _ _ (Or.inr hSp) ?_
  clear hK_ K_ hG_
  refine' wpX_take' (f := 8) (i := 13) (v := ?xv13) (L := (fun b_ c_ => #[true, true, true, true, true, true, true, true, true, true, true, true, true, false, false, false, false, false, false, b_, c_, false, false, false])) (L' := (fun b_ c_ => #[true, true, true, true, true, true, true, true, true, true, true, true, true, true, false, false, false, false, false, b_, c_, false, false, false])) ?tan13 ?tal13 rfl (by kernel_rfl) ?tar13 (by kernel_rfl) ?tae313 (fun _ _ _ h => h) (Or.inl ⟨by rfl, ?xh13⟩) ?taw13 ?xr13; (case tan13 => rfl); (case tal13 => rfl); (case tar13 => kernel_rfl); (case tae313 => (intros; rfl)); (case taw13 => assumption); (case xh13 => (intro w hSw; (try dsimp only at hSw); go_simp; (try with_reducible rfl))); (try simp only [Act.put, List.setIfInBounds_toArray, List.set_cons_zero, List.set_cons_succ, List.getElem_toArray, List.getElem_cons_zero, List.getElem_cons_succ])
  refine' wpX_phase' (f := 7) (i := 14) (L := (fun b_ c_ => #[true, true, true, true, true, true, true, true, true, true, true, true, true, true, false, false, false, false, false, b_, c_, false, false, false])) (L' := (fun b_ c_ => #[true, true, true, true, true, true, true, true, true, true, true, true, true, true, true, false, false, false, false, b_, c_, false, false, false])) (base := wr.heap.size) (G := (fun w' => Below wr.heap.size wr w')) (b := b_) (c := c_) (x := x_) (y := y_) al1 al2 ?an14 ?al14 ?aa14 ?ar14 ?ai14 ?ag14 ?ae114 ?ae214 ?ae314 ?ap114 ?ap214 HSG.out (fun w' o q => q.alloc q.size o) (fun w' q => q.size) ?aw14 (hx_.bl hbp) (hy_.bl hbp) hxy_ ?am14; (case an14 => rfl); (case al14 => rfl); (case aa14 => rfl); (case ar14 => kernel_rfl); (case ai14 => rfl); (case ag14 => rfl); (case ae114 => (intros; rfl)); (case ae214 => (intros; rfl)); (case ae314 => (intros; rfl)); (case ap114 => (intros; rfl)); (case ap214 => (intros; rfl))
  (case aw14 => exact qp)
  clear hx_ hy_ hxy_ x_ y_ b_ c_ hbp
  intro b_ c_ x_ y_ wp3 hG_ hx_ hy_ hxy_ K_ hK_; (try simp only [Act.put, List.setIfInBounds_toArray, List.set_cons_zero, List.set_cons_succ, List.getElem_toArray, List.getElem_cons_zero, List.getElem_cons_succ])
  go_wp2_with fail
  refine (HDO.out _ _ _ _ _ _ _ (S1.bl hG_) (C1.bl hG_) (N1.bl hG_)).mono ?_
  rintro e w6 ⟨A2, n2, c2, B2, k2, d2, Y2, m2, o2, rfl, S6, C6, T6, hbp⟩
  go_wp2_with fail
  have qp : Below wr.heap.size wr w6 := bstep hG_ hbp
  have hSp := HSG.out _ qp
  refine hK_.out _ _ (Or.inr hSp) ?_
  clear hK_ K_ hG_
  refine' wpX_take' (f := 6) (i := 15) (v := ?xv15) (L := (fun b_ c_ => #[true, true, true, true, true, true, true, true, true, true, true, true, true, true, true, false, false, false, false, b_, c_, false, false, false])) (L' := (fun b_ c_ => #[true, true, true, true, true, true, true, true, true, true, true, true, true, true, true, true, false, false, false, b_, c_, false, false, false])) ?tan15 ?tal15 rfl (by kernel_rfl) ?tar15 (by kernel_rfl) ?tae315 (fun _ _ _ h => h) (Or.inl ⟨by rfl, ?xh15⟩) ?taw15 ?xr15; (case tan15 => rfl); (case tal15 => rfl); (case tar15 => kernel_rfl); (case tae315 => (intros; rfl)); (case taw15 => assumption); (case xh15 => (intro w hSw; (try dsimp only at hSw); go_simp; (try with_reducible rfl))); (try simp only [Act.put, List.setIfInBounds_toArray, List.set_cons_zero, List.set_cons_succ, List.getElem_toArray, List.getElem_cons_zero, List.getElem_cons_succ])
  refine' wpX_take' (f := 5) (i := 16) (v := ?xv16) (L := (fun b_ c_ => #[true, true, true, true, true, true, true, true, true, true, true, true, true, true, true, true, false, false, false, b_, c_, false, false, false])) (L' := (fun b_ c_ => #[true, true, true, true, true, true, true, true, true, true, true, true, true, true, true, true, true, false, false, b_, c_, false, false, false])) ?tan16 ?tal16 rfl (by kernel_rfl) ?tar16 (by kernel_rfl) ?tae316 (fun _ _ _ h => h) (Or.inl ⟨by rfl, ?xh16⟩) ?taw16 ?xr16; (case tan16 => rfl); (case tal16 => rfl); (case tar16 => kernel_rfl); (case tae316 => (intros; rfl)); (case taw16 => assumption); (case xh16 => (intro w hSw; (try dsimp only at hSw); go_simp; (try with_reducible rfl))); (try simp only [Act.put, List.setIfInBounds_toArray, List.set_cons_zero, List.set_cons_succ, List.getElem_toArray, List.getElem_cons_zero, List.getElem_cons_succ])
  refine' wpX_take' (f := 4) (i := 17) (v := ?xv17) (L := (fun b_ c_ => #[true, true, true, true, true, true, true, true, true, true, true, true, true, true, true, true, true, false, false, b_, c_, false, false, false])) (L' := (fun b_ c_ => #[true, true, true, true, true, true, true, true, true, true, true, true, true, true, true, true, true, true, false, b_, c_, false, false, false])) ?tan17 ?tal17 rfl (by kernel_rfl) ?tar17 (by kernel_rfl) ?tae317 (fun _ _ _ h => h) (Or.inl ⟨by rfl, ?xh17⟩) ?taw17 ?xr17; (case tan17 => rfl); (case tal17 => rfl); (case tar17 => kernel_rfl); (case tae317 => (intros; rfl)); (case taw17 => assumption); (case xh17 => (intro w hSw; (try dsimp only at hSw); go_simp; (try with_reducible rfl))); (try simp only [Act.put, List.setIfInBounds_toArray, List.set_cons_zero, List.set_cons_succ, List.getElem_toArray, List.getElem_cons_zero, List.getElem_cons_succ])
  refine' wpX_take' (f := 3) (i := 18) (v := ?xv18) (L := (fun b_ c_ => #[true, true, true, true, true, true, true, true, true, true, true, true, true, true, true, true, true, true, false, b_, c_, false, false, false])) (L' := (fun b_ c_ => #[true, true, true, true, true, true, true, true, true, true, true, true, true, true, true, true, true, true, true, b_, c_, false, false, false])) ?tan18 ?tal18 rfl (by kernel_rfl) ?tar18 (by kernel_rfl) ?tae318 (fun _ _ _ h => h) (Or.inl ⟨by rfl, ?xh18⟩) ?taw18 ?xr18; (case tan18 => rfl); (case tal18 => rfl); (case tar18 => kernel_rfl); (case tae318 => (intros; rfl)); (case taw18 => assumption); (case xh18 => (intro w hSw; (try dsimp only at hSw); go_simp; (try with_reducible rfl))); (try simp only [Act.put, List.setIfInBounds_toArray, List.set_cons_zero, List.set_cons_succ, List.getElem_toArray, List.getElem_cons_zero, List.getElem_cons_succ])
  refine' wpX_lay' (f := 3) (L := (fun b_ c_ => #[true, true, true, true, true, true, true, true, true, true, true, true, true, true, true, true, true, true, true, b_, c_, false, false, false])) (base := wr.heap.size) (G := (fun w' => Below w6.heap.size w6 w')) (b := b_) (c := c_) (x := x_) (y := y_) al1 al2 ?anL ?alL ?aaL ?arL ?ae1L ?ae2L ?ap1L ?ap2L (fun w' q => HSG.out w' (bstep qp q)) (fun w' o q => q.alloc q.size o) (fun w' q => Nat.le_trans qp.size q.size) ?awL (hx_.bl hbp) (hy_.bl hbp) hxy_ ?amL; (case anL => rfl); (case alL => rfl); (case aaL => rfl); (case arL => kernel_rfl); (case ae1L => (intros; rfl)); (case ae2L => (intros; rfl)); (case ap1L => (intros; rfl)); (case ap2L => (intros; rfl))
  (case awL => exact Below.refl _ w6)
  clear hx_ hy_ hxy_ x_ y_ b_ c_ hSp
  intro g1 g2 w7 hb7 hg1 G1 hg2 G2 hgg
  have q7 : Below wr.heap.size wr w7 := bstep qp hb7
  clear al1 al2
  (try clear cG1 fG1); have cG1 := G1.cell; have fG1 := G1.frozen
  refine wpAnyX_one (i := 21) (by kernel_rfl) rfl (by rfl) (fun K hK => ?_); (try simp only [List.getElem_toArray, List.getElem_cons_zero, List.getElem_cons_succ])
  go_wp2_with fail
  refine hK.out _ _ (Or.inr (HSG.out _ (below_set (below_set (below_set (below_set q7 hg1 0 _) hg1 1 _) hg1 2 _) hg1 3 _))) (fun hS => ?_)
  clear hK K hS cG1 fG1
  have F0 := G2.far (p := ⟨g1, 0, none⟩) (by simpa using hgg.symm) (.int .i64 now)
  have F1 := F0.far (p := ⟨g1, 1, none⟩) (by simpa using hgg.symm) (.slice A2 n2 c2)
  have F2 := F1.far (p := ⟨g1, 2, none⟩) (by simpa using hgg.symm) (.int .i64 next)
  have F3 := F2.far (p := ⟨g1, 3, none⟩) (by simpa using hgg.symm) (.slice B2 k2 d2)
  (try clear cF3 fF3); have cF3 := F3.cell; have fF3 := F3.frozen
  refine wpAnyX_one (i := 22) (by kernel_rfl) rfl (by rfl) (fun K hK => ?_); (try simp only [List.getElem_toArray, List.getElem_cons_zero, List.getElem_cons_succ])
  go_wp2_with fail
  refine hK.out _ _ (Or.inr (HSG.out _ (below_set (below_set (below_set (below_set (below_set (below_set (below_set (below_set q7 hg1 0 _) hg1 1 _) hg1 2 _) hg1 3 _) hg2 0 _) hg2 1 _) hg2 2 _) hg2 3 _))) (fun hS => ?_)
  replace hS := hS.resolve_left (by decide)
  clear hK K cF3 fF3
  refine wpAnyX_pure (i := 23) (v := ?xv23) rfl (by kernel_rfl) (Or.inl ⟨by rfl, ?xh23⟩) (Or.inr (by assumption)) ?xr23; (case xh23 => (intro w; go_simp; (try with_reducible rfl))); (try simp only [Act.put, List.setIfInBounds_toArray, List.set_cons_zero, List.set_cons_succ, List.getElem_toArray, List.getElem_cons_zero, List.getElem_cons_succ])
  clear hS
  refine wpAnyX_done (by kernel_rfl) ?_ _
  clear F0 F1 F2 F3
  obtain ⟨X1, gr1, sz1⟩ := whole_mach (Value.int .i64 now) (Value.slice A2 n2 c2) (Value.int .i64 next) (Value.slice B2 k2 d2) G1
  have Y1 := grown_blk G2 gr1 hgg.symm
  obtain ⟨X2, gr2, sz2⟩ := whole_reply (Value.int .i64 11) (Value.string { data := #[] }) (Value.int .i64 0) (Value.slice Y2 m2 o2) Y1
  have X1' := grown_blk X1 gr2 hgg
  have q8 := below_grow (below_grow q7 gr1 q7.size hg1) gr2 (by rw [sz1]; exact q7.size) hg2
  have S8 := ((S6.bl hb7).grown G1 gr1).grown Y1 gr2
  have C8 := ((C6.bl hb7).grown G1 gr1).grown Y1 gr2
  have T8 := ((T6.bl hb7).grown G1 gr1).grown Y1 gr2
  have D18 := grown_blk (grown_blk (D1.below' q7) gr1 (by omega)) gr2 (by omega)
  have S18 := ((S1.bl q7).grown G1 gr1).grown Y1 gr2
  have C18 := ((C1.bl q7).grown G1 gr1).grown Y1 gr2
  obtain ⟨w8, hw8⟩ : ∃ w8, w8 = ((((((((w7.setCell ⟨g1, 0, none⟩ (Value.int .i64 now)).setCell ⟨g1, 1, none⟩ (Value.slice A2 n2 c2)).setCell ⟨g1, 2, none⟩ (Value.int .i64 next)).setCell ⟨g1, 3, none⟩ (Value.slice B2 k2 d2)).setCell ⟨g2, 0, none⟩ (Value.int .i64 11)).setCell ⟨g2, 1, none⟩ (Value.string { data := #[] })).setCell ⟨g2, 2, none⟩ (Value.int .i64 0)).setCell ⟨g2, 3, none⟩ (Value.slice Y2 m2 o2)) := ⟨_, rfl⟩
  rw [← hw8] at q8 X1' X2 S8 C8 T8 D18 S18 C18 ⊢
  clear hw8 gr1 gr2 sz1 sz2 Y1 X1 G1 G2 q7 hb7 S6 C6 T6
  have X1 := X1'
  clear X1'
  replace q0 := bstep q0 q8
  clear q8 hx1 HSG HMK HDO S1 C1 D1 X0 T8 HP
  have hv1 := D18.lt
  (try clear cD18 fD18); have cD18 := D18.cell; have fD18 := D18.frozen; (try clear cX1 fX1); have cX1 := X1.cell; have fX1 := X1.frozen; (try clear cX2 fX2); have cX2 := X2.cell; have fX2 := X2.frozen
  go_wp2_with fail
  refine (HSM.out _ _ _ _ _ _ _ _ _ _ _ _ _ S18 S8 C18 C8).mono ?_
  rintro e wc ⟨rfl, hbc⟩
  have q1 : Below w.heap.size w wc := bstep q0 hbc
  go_wp2_with fail
  go_ret
  exact ⟨rfl, q1⟩
set_option maxRecDepth 100000 in
theorem goneTold_lifted (os : Os) (started : os.Started) (H : Type) (enc : TypeId × Value → H) :
  ReturnsInHanded {} Tryz.checked os 6 .any (fun w args => (Rows.goneToldSpec.pre enc Tryz.prog Tryz.f6 [] false w args ∧ laidMetH Tryz.prog laidN w) ∧ sizedMet enc Tryz.prog Tryz.f6 (OpenSpec.ofChange Rows.goneToldSpec) false w args) (Rows.goneToldSpec.post enc Tryz.prog Tryz.f6 false true false false) := by
  refine returnsInHanded_of_change_and (C := Tryz.checked) (X := fun w _ => laidMetH Tryz.prog laidN w) (fun _ _ _ hh h => h.of_heap hh) Tryz.own started (by kernel_rfl) Tryz.func6 (ChangeSpec.witness_shaped (enc := enc) (C := Tryz.checked) (os := os) (X := fun w _ => laidMetH Tryz.prog laidN w) false (World.doorLaid Tryz.prog 14 os) #[.slice none 0 0, .agg #[.int .i64 0, .int .i64 0, .int .i64 0, .int .i64 0, .int .i64 0, .int .i64 0, .int .i64 0, .string ByteArray.empty]] 8 rfl (World.shaped_of_RefB (by kernel_rfl) (by kernel_rfl)) (by kernel_rfl) (by kernel_rfl) (by kernel_rfl) (door_met os _)) ?_
  intro W base args ds gs before hval0 hW hcnd hsz0 hL _
  have hsz : (DataW.weightsEach Tryz.prog (Tryz.f6.params.toList ++ Rows.goneToldSpec.plain.varTypes Tryz.prog) (ds ++ gs)).all (· ≤ reachBytes) = true := hsz0
  clear hsz0
  have hval : ∀ (j : Nat) t v, Tryz.f6.params[j]? = some t → args[j]? = some v → Value.okWide Tryz.prog W .any base t v := hval0
  have hW' := hW
  obtain ⟨p, q, hA0, hV, rfl, hfz, hnd⟩ := hW
  have hA : DataW.TrodAll enc Tryz.prog W 0 (fun _ => true) true Tryz.f6.params.toList args.toList ds p := hA0
  rw [Tryz.params6] at hA hval hsz
  obtain ⟨rfl, rfl⟩ := trodVars_none hV
  clear hA0 hval0 hcnd hV hfz hnd
  have hN := noth_of_laid hL
  obtain ⟨v0, v1, d0, d1, p0, p1, rfl, rfl, rfl, h0, h1⟩ := trodAll_two hA
  obtain ⟨A, n, c, l, rfl, hd, hS⟩ := open_deeds (hval 0 22 v0 rfl rfl) h0
  obtain ⟨x, rfl, hx⟩ := open_deed (hval 1 26 v1 rfl rfl) h1
  refine (goneTold_walk A n c l x W hS hd hx hN).mono fun e W' ⟨he, hb⟩ => ?_
  subst he
  exact ⟨_, rfl, post_law Tryz.laidOut hW' rfl (by kernel_rfl) rfl Tryz.underlying4 (fun _ => rfl) (fun _ => rfl) (fun _ => rfl) hb⟩
set_option maxRecDepth 100000 in
theorem goneTold_f1 : (Rows.goneToldRow.inPlace == Tryz.pinned.checked.prog.inPlace 6) = true := by kernel_rfl
set_option maxRecDepth 100000 in
theorem goneTold_f2 : (Rows.goneToldRow.unfollowed == Tryz.pinned.checked.prog.unfollowed 6) = true := by kernel_rfl
set_option maxRecDepth 100000 in
theorem goneTold_f3 : (Rows.goneToldRow.recurses == Tryz.pinned.checked.prog.recurses 6) = true := by kernel_rfl
set_option maxRecDepth 100000 in
theorem goneTold_f4 : (Rows.goneToldRow.named == Tryz.pinned.checked.prog.varsNamed 6) = true := by kernel_rfl
set_option maxRecDepth 100000 in
theorem goneTold_facts : joinedFacts Tryz.pinned.checked.prog 6 Tryz.f6 Rows.goneToldSpec Rows.goneToldRow = true := by
  unfold joinedFacts
  rw [enterN, show (Rows.goneToldRow.lifted == Tryz.pinned.checked.prog.liftsFinal) = true from liftsN, laidN1, laidN2, heardN, show (Rows.goneToldRow.plainKeys == Tryz.pinned.checked.prog.plainKeys) = true from keysN, goneTold_f1, goneTold_f2, goneTold_f3, goneTold_f4]
  kernel_rfl
theorem goneTold_row : Rows.GoneToldSaid := OpenClaim.holds_of_wide 6 Tryz.f6 rfl rfl rfl rfl rfl rfl rfl ⟨rfl, rfl, rfl, rfl, rfl⟩ rfl rfl rfl rfl rfl (by kernel_rfl) Tryz.func6 goneTold_facts
  (of_decide_eq_true (by kernel_rfl)) (by unfold Func.isWrapper; first | (rw [if_pos (by decide +kernel)]; kernel_rfl) | (rw [if_neg (by decide +kernel)]; exact ⟨rfl, rfl⟩))
  (fun os started H enc _ => goneTold_lifted os started H enc)
set_option maxRecDepth 100000 in
theorem goneTold_goes : false = Rows.goneToldRow.goesBy Tryz.pinned.checked.prog := by kernel_rfl
set_option maxRecDepth 100000 in
theorem goneTold_looks : false = Tryz.pinned.checked.prog.looks [] := by kernel_rfl
set_option maxRecDepth 100000 in
theorem goneTold_holds : Rows.GoneToldCardSaid :=
  Claim7.holds_tied_plain_at .later [] [.data] true Rows.machineMayCard.stood.harness false
    goneTold_row (fun _ h => by cases h) (by kernel_rfl) (fun _ h => by cases h) goneTold_row_tie rfl ⟨rfl, rfl⟩ mainN rfl
    (fun f fn hf hfn => by
      obtain rfl : f = 6 := Option.some.inj ((show Tryz.prog.funcNamed "rostrum/rostrumkeep.GoneTold" = some 6 by kernel_rfl).symm.trans hf) |>.symm
      obtain rfl : fn = Tryz.f6 := (Option.some.inj (Tryz.func6.symm.trans hfn)).symm
      exact ⟨goneTold_looks, fun j t ht => by
        rw [Tryz.params6] at ht
        have hm := List.mem_of_getElem? (Array.getElem?_toList ▸ ht)
        simp only [List.mem_cons, List.not_mem_nil, or_false] at hm
        rcases hm with rfl | rfl <;> exact (show Tryz.prog.wantsStandIn _ = false by kernel_rfl)⟩)
    goneTold_goes
#print axioms goneTold_holds
end Go.Proofs.YtgpkgegpcgiokaaGreatDoor
