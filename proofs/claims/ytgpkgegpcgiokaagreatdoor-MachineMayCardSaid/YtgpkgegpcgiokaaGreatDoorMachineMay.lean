/- rostrumkeep.MachineMay returns true for every input; client.nothing holds what its initialiser lays. -/
import Derived.Test.YtgpkgegpcgiokaaGreatDoorMachE
import Derived.Test.YtgpkgegpcgiokaaGreatDoorLaidN
namespace Go.Proofs.YtgpkgegpcgiokaaGreatDoor
set_option linter.all false
open Go.ChangeShapes Go.WideShapes Go.ChangeAt Go.RowKit
set_option maxRecDepth 100000 in
set_option maxHeartbeats 16000000 in
theorem machineMay_walk (A : Option Addr) (n c : Nat) (l : List DeedD) (d : DeedD) (w : World) (hS : Sl w 8 A n c (deedRows l)) (hd : ∀ d ∈ l, d.ok) (hdd : d.ok) (hN : Noth w) :
    Calls Tryz.prog 3 #[.slice A n c, .agg d.cells.toArray] w fun e w' => e = .returned (.bool true) ∧ Below w.heap.size w w' := by
  have HF := hide (fun w' (hb : Below w.heap.size w w') => Machine_any A n c l w' (hS.below hb) hd (hN.bl hb))
  have hinv := machOf_inv l
  generalize machOf l = m at *
  have hok := hinv.ok
  have hcc := callD_ok hinv (by omega) d
  have hmk := fun A1 n1 c1 B1 k1 d1 w' h => call_any m d hdd (fun x hx => ⟨(hok.cli x hx).seq0, by have := hinv.seq x hx; omega⟩) (by have := hok.few; omega) A1 B1 n1 c1 k1 d1 w' h
  have ok1 := do_okM hok hcc
  have hrep := do_repM hok hcc
  have hDo := fun A1 n1 c1 B1 k1 d1 w' hE hC hN => DoM_any hok (callD m d) m.now _ (apply_now hok hcc) (by have := hok.sto.now0; omega) (by have := hok.sto.now1; omega) A1 B1 n1 c1 k1 d1 w' hE hC hN
  have hDo2 := fun A1 n1 c1 B1 k1 d1 w' hE hC hN => DoM_any hok zeroCall_ (-1) _ (apply_early hok (by omega)) (by omega) (by omega) A1 B1 n1 c1 k1 d1 w' hE hC hN
  have hk0 := fun A1 n1 c1 B1 k1 d1 w' hE hC => CheckM_ok hok A1 B1 n1 c1 k1 d1 w' hE hC
  have hk1 := fun A1 n1 c1 B1 k1 d1 w' hE hC => CheckM_ok ok1 A1 B1 n1 c1 k1 d1 w' hE hC
  generalize callD m d = cm at *
  generalize doM m cm = D at *
  obtain ⟨⟨now', ents', next', clis'⟩, ⟨rc, rt, rn, rl⟩⟩ := D
  obtain ⟨now, ents, next, clis⟩ := m
  obtain ⟨cc, cs, ⟨ck, cy, cf, ct, cn⟩⟩ := cm
  obtain ⟨dc, doff, dw, ⟨rk, ry, rf, rr, rx⟩⟩ := d
  have hre := rep_to hrep
  have hrk : repOk ⟨rc, rt, rn, rl⟩ = checkReply rc rt rn rl := rfl
  rw [hrk] at hrep
  simp only at hre
  have hkr := fun w' Y m2 d2 (T : TxSl w' Y m2 d2 rl) => CheckReply_any rc rt rn Y m2 d2 rl w' (by have := hre.text; simp only at this; unfold maxLen; omega) T.len (by have := hre.few; simp only at this; unfold maxLen; omega) T.sl.seg
  rw [hrep] at hkr
  simp only [callV, DeedD.cells] at hmk ⊢
  simp only at hDo hDo2 hk0 hk1
  have hzc : zeroCall_.client = 0 ∧ zeroCall_.seq = 0 ∧ zeroCall_.cmd.kind = 0 ∧ zeroCall_.cmd.key = { data := #[] } ∧ zeroCall_.cmd.field = { data := #[] } ∧ zeroCall_.cmd.text = { data := #[] } ∧ zeroCall_.cmd.n = 0 := ⟨rfl, rfl, rfl, rfl, rfl, rfl, rfl⟩
  obtain ⟨z1, z2, z3, z4, z5, z6, z7⟩ := hzc
  rw [z1, z2, z3, z4, z5, z6, z7] at hDo2
  have hzm : zeroMach = ⟨0, [], 0, []⟩ := rfl
  have hzr : zeroRe = ⟨0, { data := #[] }, 0, []⟩ := rfl
  rw [hzm, hzr] at hDo2
  clear hzm hzr
  have HMK := hide hmk; have HDO := hide hDo; have HD2 := hide hDo2; have HK0 := hide hk0; have HK1 := hide hk1; have HKR := hide hkr
  clear hmk hDo hDo2 hk0 hk1 hkr hinv hok hcc ok1 hrep hre hrk hd hdd z1 z2 z3 z4 z5 z6 z7
  have X0 := Blk.new w 26 #[.int .i64 dc, .int .i64 doff, .int .i64 dw, .int .i64 rk, .int .i64 ry, .int .i64 rf, .int .i64 rr, .string rx]
  go_enter Tryz.func3, Tryz.ntmps3
  go_wp2_with fail
  refine (HF.out _ below_by).mono ?_
  rintro e w1 ⟨A1, n1, c1, B1, k1, d1, rfl, S1, C1, hb1⟩
  have q : Below w.heap.size w w1 := below_by
  replace X0 := X0.bl hb1
  clear hb1 HF
  have D1 := Blk.new w1 32 #[.int .i64 (now), .slice A1 n1 c1, .int .i64 (next), .slice B1 k1 d1]; replace S1 := S1.al (.cells #[.int .i64 (now), .slice A1 n1 c1, .int .i64 (next), .slice B1 k1 d1] 32); replace C1 := C1.al (.cells #[.int .i64 (now), .slice A1 n1 c1, .int .i64 (next), .slice B1 k1 d1] 32); replace X0 := X0.al (.cells #[.int .i64 (now), .slice A1 n1 c1, .int .i64 (next), .slice B1 k1 d1] 32)
  have q0 : Below w.heap.size w (w1.alloc (.cells #[.int .i64 (now), .slice A1 n1 c1, .int .i64 (next), .slice B1 k1 d1] 32)) := below_by
  go_wp2_with fail
  obtain ⟨wr, hwr⟩ : ∃ wr, wr = w1.alloc (.cells #[.int .i64 (now), .slice A1 n1 c1, .int .i64 (next), .slice B1 k1 d1] 32) := ⟨_, rfl⟩
  rw [← hwr] at S1 C1 X0 D1 q0 ⊢
  have hq1 := q.size
  clear hwr q
  have hv1 := D1.lt
  have hx1 := X0.lt
  have N1 := hN.bl q0
  have hsG : ∀ w', Below wr.heap.size wr w' → (w'.cell? ⟨w1.heap.size, 0, none⟩ = some (.int .i64 now) ∧ w'.cell? ⟨w1.heap.size, 1, none⟩ = some (.slice A1 n1 c1) ∧ w'.cell? ⟨w1.heap.size, 2, none⟩ = some (.int .i64 next) ∧ w'.cell? ⟨w1.heap.size, 3, none⟩ = some (.slice B1 k1 d1) ∧ w'.cell? ⟨w.heap.size, 0, none⟩ = some (.int .i64 dc) ∧ w'.cell? ⟨w.heap.size, 1, none⟩ = some (.int .i64 doff) ∧ w'.cell? ⟨w.heap.size, 2, none⟩ = some (.int .i64 dw) ∧ w'.cell? ⟨w.heap.size, 3, none⟩ = some (.int .i64 rk) ∧ w'.cell? ⟨w.heap.size, 4, none⟩ = some (.int .i64 ry) ∧ w'.cell? ⟨w.heap.size, 5, none⟩ = some (.int .i64 rf) ∧ w'.cell? ⟨w.heap.size, 6, none⟩ = some (.int .i64 rr) ∧ w'.cell? ⟨w.heap.size, 7, none⟩ = some (.string rx)) := fun w' q => by
    have V' := D1.below' q
    have X' := X0.below' q
    exact ⟨V'.cell 0, V'.cell 1, V'.cell 2, V'.cell 3, X'.cell 0, X'.cell 1, X'.cell 2, X'.cell 3, X'.cell 4, X'.cell 5, X'.cell 6, X'.cell 7⟩
  refine wp_region_x (l := []) (S := fun w' => w'.cell? ⟨w1.heap.size, 0, none⟩ = some (.int .i64 now) ∧ w'.cell? ⟨w1.heap.size, 1, none⟩ = some (.slice A1 n1 c1) ∧ w'.cell? ⟨w1.heap.size, 2, none⟩ = some (.int .i64 next) ∧ w'.cell? ⟨w1.heap.size, 3, none⟩ = some (.slice B1 k1 d1) ∧ w'.cell? ⟨w.heap.size, 0, none⟩ = some (.int .i64 dc) ∧ w'.cell? ⟨w.heap.size, 1, none⟩ = some (.int .i64 doff) ∧ w'.cell? ⟨w.heap.size, 2, none⟩ = some (.int .i64 dw) ∧ w'.cell? ⟨w.heap.size, 3, none⟩ = some (.int .i64 rk) ∧ w'.cell? ⟨w.heap.size, 4, none⟩ = some (.int .i64 ry) ∧ w'.cell? ⟨w.heap.size, 5, none⟩ = some (.int .i64 rf) ∧ w'.cell? ⟨w.heap.size, 6, none⟩ = some (.int .i64 rr) ∧ w'.cell? ⟨w.heap.size, 7, none⟩ = some (.string rx)) (by kernel_rfl) (hsG _ (Below.refl _ wr).drew) (fun hS => ?_)
  refine wpAnyX_tk (i := 0) (v := ?xv0) rfl (Or.inl ⟨by rfl, ?xh0⟩) ?xr0; (case xh0 => (intro w hSw; (try dsimp only at hSw); go_simp; (try with_reducible rfl))); (try simp only [Act.put, List.setIfInBounds_toArray, List.set_cons_zero, List.set_cons_succ, List.getElem_toArray, List.getElem_cons_zero, List.getElem_cons_succ])
  refine wpAnyX_tk (i := 1) (v := ?xv1) rfl (Or.inl ⟨by rfl, ?xh1⟩) ?xr1; (case xh1 => (intro w hSw; (try dsimp only at hSw); go_simp; (try with_reducible rfl))); (try simp only [Act.put, List.setIfInBounds_toArray, List.set_cons_zero, List.set_cons_succ, List.getElem_toArray, List.getElem_cons_zero, List.getElem_cons_succ])
  refine wpAnyX_tk (i := 2) (v := ?xv2) rfl (Or.inl ⟨by rfl, ?xh2⟩) ?xr2; (case xh2 => (intro w hSw; (try dsimp only at hSw); go_simp; (try with_reducible rfl))); (try simp only [Act.put, List.setIfInBounds_toArray, List.set_cons_zero, List.set_cons_succ, List.getElem_toArray, List.getElem_cons_zero, List.getElem_cons_succ])
  refine wpAnyX_tk (i := 3) (v := ?xv3) rfl (Or.inl ⟨by rfl, ?xh3⟩) ?xr3; (case xh3 => (intro w hSw; (try dsimp only at hSw); go_simp; (try with_reducible rfl))); (try simp only [Act.put, List.setIfInBounds_toArray, List.set_cons_zero, List.set_cons_succ, List.getElem_toArray, List.getElem_cons_zero, List.getElem_cons_succ])
  refine wpAnyX_tk (i := 4) (v := ?xv4) rfl (Or.inl ⟨by rfl, ?xh4⟩) ?xr4; (case xh4 => (intro w hSw; (try dsimp only at hSw); go_simp; (try with_reducible rfl))); (try simp only [Act.put, List.setIfInBounds_toArray, List.set_cons_zero, List.set_cons_succ, List.getElem_toArray, List.getElem_cons_zero, List.getElem_cons_succ])
  refine wpAnyX_tk (i := 5) (v := ?xv5) rfl (Or.inl ⟨by rfl, ?xh5⟩) ?xr5; (case xh5 => (intro w hSw; (try dsimp only at hSw); go_simp; (try with_reducible rfl))); (try simp only [Act.put, List.setIfInBounds_toArray, List.set_cons_zero, List.set_cons_succ, List.getElem_toArray, List.getElem_cons_zero, List.getElem_cons_succ])
  have HSG := hide hsG
  clear hsG hS 
  refine wpX_start (n := 9 + left2 false false) (listed := (fun b_ c_ => #[true, true, true, true, true, true, false, false, false, false, false, false, b_, c_, false, false, false]) false false) (j1 := 12) (d1 := 6) (t1 := 32) (z1 := #[.int .i64 0, .slice none 0 0, .int .i64 0, .slice none 0 0]) (j2 := 13) (d2 := 7) (t2 := 37) (z2 := #[.int .i64 0, .string { data := #[] }, .int .i64 0, .slice none 0 0]) ?al1 ?al2 ?aln ?all (fun al1 al2 => ?alr); (case al1 => exact ⟨⟨_, rfl, rfl, rfl, fun a w => by simp [go_sem, execOp]⟩⟩); (case al2 => exact ⟨⟨_, rfl, rfl, rfl, fun a w => by simp [go_sem, execOp]⟩⟩); (case aln => kernel_rfl); (case all => kernel_rfl)
  refine' wpX_phase0 (f := 8) (i := 6) (L := (fun b_ c_ => #[true, true, true, true, true, true, false, false, false, false, false, false, b_, c_, false, false, false])) (L' := (fun b_ c_ => #[true, true, true, true, true, true, true, false, false, false, false, false, b_, c_, false, false, false])) (base := wr.heap.size) (G := (fun w' => Below wr.heap.size wr w')) (x := undef) (y := undef) al1 al2 ?an6 ?al6 ?aa6 ?ar6 ?ai6 ?ag6 ?ae16 ?ae26 ?ae36 ?ap16 ?ap26 HSG.out (fun w' o q => q.alloc q.size o) (fun w' q => q.size) ?aw6 ?am6; (case an6 => rfl); (case al6 => rfl); (case aa6 => rfl); (case ar6 => kernel_rfl); (case ai6 => rfl); (case ag6 => rfl); (case ae16 => (intros; rfl)); (case ae26 => (intros; rfl)); (case ae36 => (intros; rfl)); (case ap16 => (intros; rfl)); (case ap26 => (intros; rfl))
  (case aw6 => exact (Below.refl _ wr).drew)
  intro b_ c_ x_ y_ wp1 hG_ hx_ hy_ hxy_ K_ hK_; (try simp only [Act.put, List.setIfInBounds_toArray, List.set_cons_zero, List.set_cons_succ, List.getElem_toArray, List.getElem_cons_zero, List.getElem_cons_succ])
  go_wp2_with fail
  refine (HMK.out _ _ _ _ _ _ _ (C1.bl hG_)).mono ?_
  rintro e w4 ⟨rfl, hbp⟩
  go_wp2_with fail
  have qp : Below wr.heap.size wr w4 := bstep hG_ hbp
  have hSp := HSG.out _ qp
  refine hK_.out _ _ (Or.inr hSp) ?_
  clear hK_ K_ hG_
  refine' wpX_phase' (f := 7) (i := 7) (L := (fun b_ c_ => #[true, true, true, true, true, true, true, false, false, false, false, false, b_, c_, false, false, false])) (L' := (fun b_ c_ => #[true, true, true, true, true, true, true, true, false, false, false, false, b_, c_, false, false, false])) (base := wr.heap.size) (G := (fun w' => Below wr.heap.size wr w')) (b := b_) (c := c_) (x := x_) (y := y_) al1 al2 ?an7 ?al7 ?aa7 ?ar7 ?ai7 ?ag7 ?ae17 ?ae27 ?ae37 ?ap17 ?ap27 HSG.out (fun w' o q => q.alloc q.size o) (fun w' q => q.size) ?aw7 (hx_.bl hbp) (hy_.bl hbp) hxy_ ?am7; (case an7 => rfl); (case al7 => rfl); (case aa7 => rfl); (case ar7 => kernel_rfl); (case ai7 => rfl); (case ag7 => rfl); (case ae17 => (intros; rfl)); (case ae27 => (intros; rfl)); (case ae37 => (intros; rfl)); (case ap17 => (intros; rfl)); (case ap27 => (intros; rfl))
  (case aw7 => exact qp)
  clear hx_ hy_ hxy_ x_ y_ b_ c_ hbp
  intro b_ c_ x_ y_ wp2 hG_ hx_ hy_ hxy_ K_ hK_; (try simp only [Act.put, List.setIfInBounds_toArray, List.set_cons_zero, List.set_cons_succ, List.getElem_toArray, List.getElem_cons_zero, List.getElem_cons_succ])
  go_wp2_with fail
  refine (HDO.out _ _ _ _ _ _ _ (S1.bl hG_) (C1.bl hG_) (N1.bl hG_)).mono ?_
  rintro e w6 ⟨A2, n2, c2, B2, k2, d2, Y2, m2, o2, rfl, S6, C6, T6, hbp⟩
  go_wp2_with fail
  have qp : Below wr.heap.size wr w6 := bstep hG_ hbp
  have hSp := HSG.out _ qp
  refine hK_.out _ _ (Or.inr hSp) ?_
  clear hK_ K_ hG_
  refine' wpX_take' (f := 6) (i := 8) (v := ?xv8) (L := (fun b_ c_ => #[true, true, true, true, true, true, true, true, false, false, false, false, b_, c_, false, false, false])) (L' := (fun b_ c_ => #[true, true, true, true, true, true, true, true, true, false, false, false, b_, c_, false, false, false])) ?tan8 ?tal8 rfl (by kernel_rfl) ?tar8 (by kernel_rfl) ?tae38 (fun _ _ _ h => h) (Or.inl ⟨by rfl, ?xh8⟩) ?taw8 ?xr8; (case tan8 => rfl); (case tal8 => rfl); (case tar8 => kernel_rfl); (case tae38 => (intros; rfl)); (case taw8 => assumption); (case xh8 => (intro w hSw; (try dsimp only at hSw); go_simp; (try with_reducible rfl))); (try simp only [Act.put, List.setIfInBounds_toArray, List.set_cons_zero, List.set_cons_succ, List.getElem_toArray, List.getElem_cons_zero, List.getElem_cons_succ])
  refine' wpX_take' (f := 5) (i := 9) (v := ?xv9) (L := (fun b_ c_ => #[true, true, true, true, true, true, true, true, true, false, false, false, b_, c_, false, false, false])) (L' := (fun b_ c_ => #[true, true, true, true, true, true, true, true, true, true, false, false, b_, c_, false, false, false])) ?tan9 ?tal9 rfl (by kernel_rfl) ?tar9 (by kernel_rfl) ?tae39 (fun _ _ _ h => h) (Or.inl ⟨by rfl, ?xh9⟩) ?taw9 ?xr9; (case tan9 => rfl); (case tal9 => rfl); (case tar9 => kernel_rfl); (case tae39 => (intros; rfl)); (case taw9 => assumption); (case xh9 => (intro w hSw; (try dsimp only at hSw); go_simp; (try with_reducible rfl))); (try simp only [Act.put, List.setIfInBounds_toArray, List.set_cons_zero, List.set_cons_succ, List.getElem_toArray, List.getElem_cons_zero, List.getElem_cons_succ])
  refine' wpX_take' (f := 4) (i := 10) (v := ?xv10) (L := (fun b_ c_ => #[true, true, true, true, true, true, true, true, true, true, false, false, b_, c_, false, false, false])) (L' := (fun b_ c_ => #[true, true, true, true, true, true, true, true, true, true, true, false, b_, c_, false, false, false])) ?tan10 ?tal10 rfl (by kernel_rfl) ?tar10 (by kernel_rfl) ?tae310 (fun _ _ _ h => h) (Or.inl ⟨by rfl, ?xh10⟩) ?taw10 ?xr10; (case tan10 => rfl); (case tal10 => rfl); (case tar10 => kernel_rfl); (case tae310 => (intros; rfl)); (case taw10 => assumption); (case xh10 => (intro w hSw; (try dsimp only at hSw); go_simp; (try with_reducible rfl))); (try simp only [Act.put, List.setIfInBounds_toArray, List.set_cons_zero, List.set_cons_succ, List.getElem_toArray, List.getElem_cons_zero, List.getElem_cons_succ])
  refine' wpX_take' (f := 3) (i := 11) (v := ?xv11) (L := (fun b_ c_ => #[true, true, true, true, true, true, true, true, true, true, true, false, b_, c_, false, false, false])) (L' := (fun b_ c_ => #[true, true, true, true, true, true, true, true, true, true, true, true, b_, c_, false, false, false])) ?tan11 ?tal11 rfl (by kernel_rfl) ?tar11 (by kernel_rfl) ?tae311 (fun _ _ _ h => h) (Or.inl ⟨by rfl, ?xh11⟩) ?taw11 ?xr11; (case tan11 => rfl); (case tal11 => rfl); (case tar11 => kernel_rfl); (case tae311 => (intros; rfl)); (case taw11 => assumption); (case xh11 => (intro w hSw; (try dsimp only at hSw); go_simp; (try with_reducible rfl))); (try simp only [Act.put, List.setIfInBounds_toArray, List.set_cons_zero, List.set_cons_succ, List.getElem_toArray, List.getElem_cons_zero, List.getElem_cons_succ])
  refine' wpX_lay' (f := 3) (L := (fun b_ c_ => #[true, true, true, true, true, true, true, true, true, true, true, true, b_, c_, false, false, false])) (base := wr.heap.size) (G := (fun w' => Below w6.heap.size w6 w')) (b := b_) (c := c_) (x := x_) (y := y_) al1 al2 ?anL ?alL ?aaL ?arL ?ae1L ?ae2L ?ap1L ?ap2L (fun w' q => HSG.out w' (bstep qp q)) (fun w' o q => q.alloc q.size o) (fun w' q => Nat.le_trans qp.size q.size) ?awL (hx_.bl hbp) (hy_.bl hbp) hxy_ ?amL; (case anL => rfl); (case alL => rfl); (case aaL => rfl); (case arL => kernel_rfl); (case ae1L => (intros; rfl)); (case ae2L => (intros; rfl)); (case ap1L => (intros; rfl)); (case ap2L => (intros; rfl))
  (case awL => exact Below.refl _ w6)
  clear hx_ hy_ hxy_ x_ y_ b_ c_ hSp
  intro g1 g2 w7 hb7 hg1 G1 hg2 G2 hgg
  have q7 : Below wr.heap.size wr w7 := bstep qp hb7
  clear al1 al2
  (try clear cG1 fG1); have cG1 := G1.cell; have fG1 := G1.frozen
  refine wpAnyX_one (i := 14) (by kernel_rfl) rfl (by rfl) (fun K hK => ?_); (try simp only [List.getElem_toArray, List.getElem_cons_zero, List.getElem_cons_succ])
  go_wp2_with fail
  refine hK.out _ _ (Or.inr (HSG.out _ (below_set (below_set (below_set (below_set q7 hg1 0 _) hg1 1 _) hg1 2 _) hg1 3 _))) (fun hS => ?_)
  clear hK K hS cG1 fG1
  have F0 := G2.far (p := ⟨g1, 0, none⟩) (by simpa using hgg.symm) (.int .i64 now')
  have F1 := F0.far (p := ⟨g1, 1, none⟩) (by simpa using hgg.symm) (.slice A2 n2 c2)
  have F2 := F1.far (p := ⟨g1, 2, none⟩) (by simpa using hgg.symm) (.int .i64 next')
  have F3 := F2.far (p := ⟨g1, 3, none⟩) (by simpa using hgg.symm) (.slice B2 k2 d2)
  (try clear cF3 fF3); have cF3 := F3.cell; have fF3 := F3.frozen
  refine wpAnyX_one (i := 15) (by kernel_rfl) rfl (by rfl) (fun K hK => ?_); (try simp only [List.getElem_toArray, List.getElem_cons_zero, List.getElem_cons_succ])
  go_wp2_with fail
  refine hK.out _ _ (Or.inr (HSG.out _ (below_set (below_set (below_set (below_set (below_set (below_set (below_set (below_set q7 hg1 0 _) hg1 1 _) hg1 2 _) hg1 3 _) hg2 0 _) hg2 1 _) hg2 2 _) hg2 3 _))) (fun hS => ?_)
  replace hS := hS.resolve_left (by decide)
  clear hK K cF3 fF3
  refine wpAnyX_pure (i := 16) (v := ?xv16) rfl (by kernel_rfl) (Or.inl ⟨by rfl, ?xh16⟩) (Or.inr (by assumption)) ?xr16; (case xh16 => (intro w; go_simp; (try with_reducible rfl))); (try simp only [Act.put, List.setIfInBounds_toArray, List.set_cons_zero, List.set_cons_succ, List.getElem_toArray, List.getElem_cons_zero, List.getElem_cons_succ])
  clear hS
  refine wpAnyX_done (by kernel_rfl) ?_ _
  clear F0 F1 F2 F3
  obtain ⟨X1, gr1, sz1⟩ := whole_mach (Value.int .i64 now') (Value.slice A2 n2 c2) (Value.int .i64 next') (Value.slice B2 k2 d2) G1
  have Y1 := grown_blk G2 gr1 hgg.symm
  obtain ⟨X2, gr2, sz2⟩ := whole_reply (Value.int .i64 rc) (Value.string rt) (Value.int .i64 rn) (Value.slice Y2 m2 o2) Y1
  have X1' := grown_blk X1 gr2 hgg
  have q8 := below_grow (below_grow q7 gr1 q7.size hg1) gr2 (by rw [sz1]; exact q7.size) hg2
  have S8 := ((S6.bl hb7).grown G1 gr1).grown Y1 gr2
  have C8 := ((C6.bl hb7).grown G1 gr1).grown Y1 gr2
  have T8 := ((T6.bl hb7).grown G1 gr1).grown Y1 gr2
  have D18 := grown_blk (grown_blk (D1.below' q7) gr1 (by omega)) gr2 (by omega)
  have S18 := ((S1.bl q7).grown G1 gr1).grown Y1 gr2
  have C18 := ((C1.bl q7).grown G1 gr1).grown Y1 gr2
  obtain ⟨w8, hw8⟩ : ∃ w8, w8 = ((((((((w7.setCell ⟨g1, 0, none⟩ (Value.int .i64 now')).setCell ⟨g1, 1, none⟩ (Value.slice A2 n2 c2)).setCell ⟨g1, 2, none⟩ (Value.int .i64 next')).setCell ⟨g1, 3, none⟩ (Value.slice B2 k2 d2)).setCell ⟨g2, 0, none⟩ (Value.int .i64 rc)).setCell ⟨g2, 1, none⟩ (Value.string rt)).setCell ⟨g2, 2, none⟩ (Value.int .i64 rn)).setCell ⟨g2, 3, none⟩ (Value.slice Y2 m2 o2)) := ⟨_, rfl⟩
  rw [← hw8] at q8 X1' X2 S8 C8 T8 D18 S18 C18 ⊢
  clear hw8 gr1 gr2 sz1 sz2 Y1 X1 G1 G2 q7 hb7 S6 C6 T6
  have X1 := X1'
  clear X1'
  replace q0 := bstep q0 q8
  clear q8 hx1 HSG HMK HDO S1 C1 D1 X0
  have hv1 := D18.lt
  (try clear cD18 fD18); have cD18 := D18.cell; have fD18 := D18.frozen
  go_wp2_with fail
  refine (HD2.out _ _ _ _ _ _ w8 S18 C18 (hN.bl q0)).mono ?_
  rintro e w9 ⟨A3, n3, c3, B3, k3, d3, Y3, m3, o3, rfl, S3, C3, T3, hb9⟩
  have q9 : Below w8.heap.size w8 ((w9.alloc (.cells #[.int .i64 (0), .slice A3 n3 c3, .int .i64 (0), .slice B3 k3 d3] 32)).alloc (.cells #[.int .i64 (0), .string { data := #[] }, .int .i64 (0), .slice Y3 m3 o3] 37)) := below_by
  replace S18 := S18.bl q9; replace C18 := C18.bl q9; replace D18 := D18.bl q9; replace X1 := X1.bl q9; replace X2 := X2.bl q9; replace S8 := S8.bl q9; replace C8 := C8.bl q9; replace T8 := T8.bl q9
  replace q0 := bstep q0 q9
  clear S3 C3 T3 hb9 HD2 q9 cD18 fD18
  have hv1 := D18.lt
  (try clear cD18 fD18); have cD18 := D18.cell; have fD18 := D18.frozen
  go_wp2_with fail
  refine (HK0.out _ _ _ _ _ _ _ S18 C18).mono ?_
  rintro e wa ⟨rfl, hba⟩
  replace X1 := X1.bl hba; replace X2 := X2.bl hba; replace S8 := S8.bl hba; replace C8 := C8.bl hba; replace T8 := T8.bl hba
  replace q0 := bstep q0 hba
  clear hba HK0 cD18 fD18 D18 S18 C18
  (try clear cX1 fX1); have cX1 := X1.cell; have fX1 := X1.frozen
  go_wp2_with fail
  refine (HK1.out _ _ _ _ _ _ _ S8 C8).mono ?_
  rintro e wb ⟨rfl, hbb⟩
  replace X2 := X2.bl hbb; replace T8 := T8.bl hbb
  replace q0 := bstep q0 hbb
  clear hbb HK1 cX1 fX1 X1 S8 C8
  (try clear cX2 fX2); have cX2 := X2.cell; have fX2 := X2.frozen
  go_wp2_with fail
  refine (HKR.out _ _ _ _ T8).mono ?_
  rintro e wc ⟨rfl, hbc⟩
  have q1 : Below w.heap.size w wc := bstep q0 hbc
  go_wp2_with fail
  go_ret
  exact ⟨rfl, q1⟩
set_option maxRecDepth 100000 in
theorem machineMay_lifted (os : Os) (started : os.Started) (H : Type) (enc : TypeId × Value → H) :
  ReturnsInHanded {} Tryz.checked os 3 .any (fun w args => (Rows.machineMaySpec.pre enc Tryz.prog Tryz.f3 [] false w args ∧ laidMetH Tryz.prog laidN w) ∧ sizedMet enc Tryz.prog Tryz.f3 (OpenSpec.ofChange Rows.machineMaySpec) false w args) (Rows.machineMaySpec.post enc Tryz.prog Tryz.f3 false true false false) := by
  refine returnsInHanded_of_change_and (C := Tryz.checked) (X := fun w _ => laidMetH Tryz.prog laidN w) (fun _ _ _ hh h => h.of_heap hh) Tryz.own started (by kernel_rfl) Tryz.func3 (ChangeSpec.witness_shaped (enc := enc) (C := Tryz.checked) (os := os) (X := fun w _ => laidMetH Tryz.prog laidN w) false (World.doorLaid Tryz.prog 14 os) #[.slice none 0 0, .agg #[.int .i64 0, .int .i64 0, .int .i64 0, .int .i64 0, .int .i64 0, .int .i64 0, .int .i64 0, .string ByteArray.empty]] 8 rfl (World.shaped_of_RefB (by kernel_rfl) (by kernel_rfl)) (by kernel_rfl) (by kernel_rfl) (by kernel_rfl) (door_met os _)) ?_
  intro W base args ds gs before hval0 hW hcnd hsz0 hL _
  have hsz : (DataW.weightsEach Tryz.prog (Tryz.f3.params.toList ++ Rows.machineMaySpec.plain.varTypes Tryz.prog) (ds ++ gs)).all (· ≤ reachBytes) = true := hsz0
  clear hsz0
  have hval : ∀ (j : Nat) t v, Tryz.f3.params[j]? = some t → args[j]? = some v → Value.okWide Tryz.prog W .any base t v := hval0
  have hW' := hW
  obtain ⟨p, q, hA0, hV, rfl, hfz, hnd⟩ := hW
  have hA : DataW.TrodAll enc Tryz.prog W 0 (fun _ => true) true Tryz.f3.params.toList args.toList ds p := hA0
  rw [Tryz.params3] at hA hval hsz
  obtain ⟨rfl, rfl⟩ := trodVars_none hV
  clear hA0 hval0 hcnd hV hfz hnd
  have hN := noth_of_laid hL
  obtain ⟨v0, v1, d0, d1, p0, p1, rfl, rfl, rfl, h0, h1⟩ := trodAll_two hA
  obtain ⟨A, n, c, l, rfl, hd, hS⟩ := open_deeds (hval 0 22 v0 rfl rfl) h0
  obtain ⟨x, rfl, hx⟩ := open_deed (hval 1 26 v1 rfl rfl) h1
  refine (machineMay_walk A n c l x W hS hd hx hN).mono fun e W' ⟨he, hb⟩ => ?_
  subst he
  exact ⟨_, rfl, post_law Tryz.laidOut hW' rfl (by kernel_rfl) rfl Tryz.underlying4 (fun _ => rfl) (fun _ => rfl) (fun _ => rfl) hb⟩
set_option maxRecDepth 100000 in
theorem machineMay_f1 : (Rows.machineMayRow.inPlace == Tryz.pinned.checked.prog.inPlace 3) = true := by kernel_rfl
set_option maxRecDepth 100000 in
theorem machineMay_f2 : (Rows.machineMayRow.unfollowed == Tryz.pinned.checked.prog.unfollowed 3) = true := by kernel_rfl
set_option maxRecDepth 100000 in
theorem machineMay_f3 : (Rows.machineMayRow.recurses == Tryz.pinned.checked.prog.recurses 3) = true := by kernel_rfl
set_option maxRecDepth 100000 in
theorem machineMay_f4 : (Rows.machineMayRow.named == Tryz.pinned.checked.prog.varsNamed 3) = true := by kernel_rfl
set_option maxRecDepth 100000 in
theorem machineMay_facts : joinedFacts Tryz.pinned.checked.prog 3 Tryz.f3 Rows.machineMaySpec Rows.machineMayRow = true := by
  unfold joinedFacts
  rw [enterN, show (Rows.machineMayRow.lifted == Tryz.pinned.checked.prog.liftsFinal) = true from liftsN, laidN1, laidN2, heardN, show (Rows.machineMayRow.plainKeys == Tryz.pinned.checked.prog.plainKeys) = true from keysN, machineMay_f1, machineMay_f2, machineMay_f3, machineMay_f4]
  kernel_rfl
theorem machineMay_row : Rows.MachineMaySaid := OpenClaim.holds_of_wide 3 Tryz.f3 rfl rfl rfl rfl rfl rfl rfl ⟨rfl, rfl, rfl, rfl, rfl⟩ rfl rfl rfl rfl rfl (by kernel_rfl) Tryz.func3 machineMay_facts
  (of_decide_eq_true (by kernel_rfl)) (by unfold Func.isWrapper; first | (rw [if_pos (by decide +kernel)]; kernel_rfl) | (rw [if_neg (by decide +kernel)]; exact ⟨rfl, rfl⟩))
  (fun os started H enc _ => machineMay_lifted os started H enc)
set_option maxRecDepth 100000 in
theorem machineMay_goes : false = Rows.machineMayRow.goesBy Tryz.pinned.checked.prog := by kernel_rfl
set_option maxRecDepth 100000 in
theorem machineMay_looks : false = Tryz.pinned.checked.prog.looks [] := by kernel_rfl
set_option maxRecDepth 100000 in
theorem machineMay_holds : Rows.MachineMayCardSaid :=
  Claim7.holds_tied_plain_at .later [] [.data] true Rows.machineMayCard.stood.harness false
    machineMay_row (fun _ h => by cases h) (by kernel_rfl) (fun _ h => by cases h) machineMay_row_tie rfl ⟨rfl, rfl⟩ mainN rfl
    (fun f fn hf hfn => by
      obtain rfl : f = 3 := Option.some.inj ((show Tryz.prog.funcNamed "rostrum/rostrumkeep.MachineMay" = some 3 by kernel_rfl).symm.trans hf) |>.symm
      obtain rfl : fn = Tryz.f3 := (Option.some.inj (Tryz.func3.symm.trans hfn)).symm
      exact ⟨machineMay_looks, fun j t ht => by
        rw [Tryz.params3] at ht
        have hm := List.mem_of_getElem? (Array.getElem?_toList ▸ ht)
        simp only [List.mem_cons, List.not_mem_nil, or_false] at hm
        rcases hm with rfl | rfl <;> exact (show Tryz.prog.wantsStandIn _ = false by kernel_rfl)⟩)
    machineMay_goes
#print axioms machineMay_holds
end Go.Proofs.YtgpkgegpcgiokaaGreatDoor
