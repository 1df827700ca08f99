/- rostrumkeep.OnceDone returns true for every input; client.nothing holds what its initialiser lays. -/
import Derived.Test.YtgpkgegpcgiokaaGreatDoorMachE
import Derived.Test.YtgpkgegpcgiokaaGreatDoorLaidN
import Derived.Test.YtgpkgegpcgiokaaGreatDoorMachL
namespace Go.Proofs.YtgpkgegpcgiokaaGreatDoor
set_option linter.all false
open Go.ChangeShapes Go.WideShapes Go.ChangeAt Go.RowKit
set_option maxRecDepth 100000 in
set_option maxHeartbeats 16000000 in
theorem onceDone_walk (A : Option Addr) (n c : Nat) (l : List DeedD) (d : DeedD) (wt : Int) (w : World) (hS : Sl w 8 A n c (deedRows l)) (hd : ∀ d ∈ l, d.ok) (hdd : d.ok) (hwt : I64 wt) (hN : Noth w) :
    Calls Tryz.prog 4 #[.slice A n c, .agg d.cells.toArray, .int .i64 wt] w fun e w' => e = .returned (.bool true) ∧ Below w.heap.size w w' := by
  have HF := hide (fun w' (hb : Below w.heap.size w w') => opened_any A n c l w' (hS.below hb) hd (hN.bl hb))
  have hinv := opened_inv l
  obtain ⟨i, hi, hid, hs0⟩ := opened_at l
  generalize openedM l = m at *
  have hok := hinv.ok
  have p0 := picked_lo wt 50 (by omega)
  have p1 := picked_hi wt 50 (by omega)
  have hp := fun w => picked_any wt 50 w hwt.1 hwt.2 (by omega) (by omega)
  have hmk := fun w => CommandM_any d.raw hdd.2.2.2 w
  have hn0 := hok.sto.now0
  have hn1 := hinv.now
  obtain ⟨x, r, okx, hxn, hxl, a1, a2, a3⟩ := once_plan hok hi hs0 (cmd_cc d.raw) (t := m.now + picked wt 50) (by omega) (by omega)
  have hnx1 := hok.next1
  have hnx := hinv.next
  rw [hid] at a1 a2 a3
  rw [hxn] at a2
  have hDo := fun A1 n1 c1 B1 k1 d1 w' hE hC hN => DoM_any hok _ _ _ a1 (by omega) (by omega) A1 B1 n1 c1 k1 d1 w' hE hC hN
  have hD2 := fun A1 n1 c1 B1 k1 d1 w' hE hC hN => DoM_any okx _ _ _ a2 (by omega) (by omega) A1 B1 n1 c1 k1 d1 w' hE hC hN
  have hD3 := fun A1 n1 c1 B1 k1 d1 w' hE hC hN => DoM_any okx _ _ _ a3 (by omega) (by omega) A1 B1 n1 c1 k1 d1 w' hE hC hN
  have hsm := fun A A' B B' n c n' c' k d k' d' w h1 h2 h3 h4 => sameMachine_eq x A A' B B' n c n' c' k d k' d' w h1 h2 h3 h4 (by have := okx.sto.few; omega) (by have := okx.few; omega)
  clear hid hs0 a1 a2 a3 hi okx
  generalize picked wt 50 = p at *
  generalize cmdR d.raw = cm at *
  have hlat : laterM x (m.now + p) = ⟨m.now + p, alive (m.now + p) x.ents, x.next, x.clis⟩ := rfl
  rw [hlat] at hD3
  clear hlat
  generalize alive (m.now + p) x.ents = es3 at *
  obtain ⟨now, ents, next, clis⟩ := m
  obtain ⟨xnow, xents, xnext, xclis⟩ := x
  obtain ⟨rc, rt, rn, rl⟩ := r
  obtain ⟨ck, cy, cf, ct, cn⟩ := cm
  obtain ⟨dc, doff, dw, ⟨rk, ry, rf, rr, rx⟩⟩ := d
  simp only [cmdW, DeedD.cells] at hmk ⊢
  simp only at hDo hD2 hD3 hsm hnx hnx1 hp hxn hxl hn0 hn1
  subst hxn
  have hw1 : IntKind.i64.wrap (next - 1) = next - 1 := IntWalk.i64_in _ (by omega)
  have wpn : IntKind.i64.wrap (xnow + p) = xnow + p := IntWalk.i64_in _ (by omega)
  have HMK := hide hmk; have HDO := hide hDo; have HSM := hide hsm; have HP := hide hp; have HD2 := hide hD2; have HD3 := hide hD3
  have HSR := hide (fun A B n m c d w' ha hb => sameReply_eq ⟨rc, rt, rn, rl⟩ ⟨rc, rt, rn, rl⟩ A B n m c d w' ha hb rfl)
  clear hmk hDo hsm hp hD2 hD3 hinv hok hd hdd hwt
  have X0 := Blk.new w 26 #[.int .i64 dc, .int .i64 doff, .int .i64 dw, .int .i64 rk, .int .i64 ry, .int .i64 rf, .int .i64 rr, .string rx]
  go_enter Tryz.func4, Tryz.ntmps4
  go_wp2_with fail
  refine (HF.out _ below_by).mono ?_
  rintro e w1 ⟨A1, n1, c1, B1, k1, d1, rfl, S1, C1, hb1⟩
  have q : Below w.heap.size w w1 := below_by
  replace X0 := X0.bl hb1
  clear hb1 HF
  have D1 := Blk.new w1 32 #[.int .i64 (xnow), .slice A1 n1 c1, .int .i64 (next), .slice B1 k1 d1]; replace S1 := S1.al (.cells #[.int .i64 (xnow), .slice A1 n1 c1, .int .i64 (next), .slice B1 k1 d1] 32); replace C1 := C1.al (.cells #[.int .i64 (xnow), .slice A1 n1 c1, .int .i64 (next), .slice B1 k1 d1] 32); replace X0 := X0.al (.cells #[.int .i64 (xnow), .slice A1 n1 c1, .int .i64 (next), .slice B1 k1 d1] 32)
  have q0 : Below w.heap.size w (w1.alloc (.cells #[.int .i64 (xnow), .slice A1 n1 c1, .int .i64 (next), .slice B1 k1 d1] 32)) := below_by
  go_wp2_with fail
  obtain ⟨wr, hwr⟩ : ∃ wr, wr = w1.alloc (.cells #[.int .i64 (xnow), .slice A1 n1 c1, .int .i64 (next), .slice B1 k1 d1] 32) := ⟨_, rfl⟩
  rw [← hwr] at S1 C1 X0 D1 q0 ⊢
  have hq1 := q.size
  clear hwr q
  have hv1 := D1.lt
  have hx1 := X0.lt
  have hsG : ∀ w', Below wr.heap.size wr w' → (w'.cell? ⟨w1.heap.size, 2, none⟩ = some (.int .i64 next) ∧ w'.cell? ⟨w.heap.size, 3, none⟩ = some (.int .i64 rk) ∧ w'.cell? ⟨w.heap.size, 4, none⟩ = some (.int .i64 ry) ∧ w'.cell? ⟨w.heap.size, 5, none⟩ = some (.int .i64 rf) ∧ w'.cell? ⟨w.heap.size, 6, none⟩ = some (.int .i64 rr) ∧ w'.cell? ⟨w.heap.size, 7, none⟩ = some (.string rx)) := fun w' q => ⟨(D1.below' q).cell 2, (X0.below' q).cell 3, (X0.below' q).cell 4, (X0.below' q).cell 5, (X0.below' q).cell 6, (X0.below' q).cell 7⟩
  refine wp_region_x (l := []) (S := fun w' => w'.cell? ⟨w1.heap.size, 2, none⟩ = some (.int .i64 next) ∧ w'.cell? ⟨w.heap.size, 3, none⟩ = some (.int .i64 rk) ∧ w'.cell? ⟨w.heap.size, 4, none⟩ = some (.int .i64 ry) ∧ w'.cell? ⟨w.heap.size, 5, none⟩ = some (.int .i64 rf) ∧ w'.cell? ⟨w.heap.size, 6, none⟩ = some (.int .i64 rr) ∧ w'.cell? ⟨w.heap.size, 7, none⟩ = some (.string rx)) (by kernel_rfl) (hsG _ (Below.refl _ wr).drew) (fun hS => ?_)
  refine wpAnyX_tk (i := 0) (v := ?xv0u) rfl (Or.inl ⟨by rfl, ?xh0u⟩) ?xr0u; (case xh0u => (intro w hSw; (try dsimp only at hSw); go_simp; (try with_reducible rfl))); (try simp only [Act.put, List.setIfInBounds_toArray, List.set_cons_zero, List.set_cons_succ, List.getElem_toArray, List.getElem_cons_zero, List.getElem_cons_succ])
  refine wpAnyX_tk (i := 1) (v := ?xv1u) rfl (Or.inl ⟨by rfl, ?xh1u⟩) ?xr1u; (case xh1u => (intro w hSw; (try dsimp only at hSw); go_simp; (try with_reducible rfl))); (try simp only [Act.put, List.setIfInBounds_toArray, List.set_cons_zero, List.set_cons_succ, List.getElem_toArray, List.getElem_cons_zero, List.getElem_cons_succ])
  refine wpAnyX_tk (i := 2) (v := ?xv2u) rfl (Or.inl ⟨by rfl, ?xh2u⟩) ?xr2u; (case xh2u => (intro w hSw; (try dsimp only at hSw); go_simp; (try with_reducible rfl))); (try simp only [Act.put, List.setIfInBounds_toArray, List.set_cons_zero, List.set_cons_succ, List.getElem_toArray, List.getElem_cons_zero, List.getElem_cons_succ])
  refine wpAnyX_tk (i := 3) (v := ?xv3u) rfl (Or.inl ⟨by rfl, ?xh3u⟩) ?xr3u; (case xh3u => (intro w hSw; (try dsimp only at hSw); go_simp; (try with_reducible rfl))); (try simp only [Act.put, List.setIfInBounds_toArray, List.set_cons_zero, List.set_cons_succ, List.getElem_toArray, List.getElem_cons_zero, List.getElem_cons_succ])
  refine wpAnyX_tk (i := 4) (v := ?xv4u) rfl (Or.inl ⟨by rfl, ?xh4u⟩) ?xr4u; (case xh4u => (intro w hSw; (try dsimp only at hSw); go_simp; (try with_reducible rfl))); (try simp only [Act.put, List.setIfInBounds_toArray, List.set_cons_zero, List.set_cons_succ, List.getElem_toArray, List.getElem_cons_zero, List.getElem_cons_succ])
  have HSG := hide hsG
  clear hsG hS
  refine wpX_startA (n := 3 + left1 false) (listed := (fun b_ => #[true, true, true, true, true, false, false, b_, false]) false) (j := 7) (d := 8) (t := 43) (z := #[.int .i64 0, .int .i64 0, .int .i64 0, .string { data := #[] }, .string { data := #[] }, .string { data := #[] }, .int .i64 0]) ?al1u ?alnu ?allu (fun al1 => ?alru); (case al1u => exact ⟨⟨_, rfl, rfl, rfl, fun a w => by simp [go_sem, execOp]⟩⟩); (case alnu => kernel_rfl); (case allu => kernel_rfl)
  refine' wpX_phaseA' (f := 2) (i := 5) (L := (fun b_ => #[true, true, true, true, true, false, false, b_, false])) (L' := (fun b_ => #[true, true, true, true, true, true, false, b_, false])) (base := wr.heap.size) (G := (fun w' => Below wr.heap.size wr w')) (x := undef) al1 ?an5u ?al5u ?aa5u ?ar5u ?ai5u ?ag5u ?ae15u ?ae35u ?ap15u HSG.out (fun w' o q => q.alloc q.size o) (fun w' q => q.size) ?aw5u ?am5u; (case an5u => rfl); (case al5u => rfl); (case aa5u => rfl); (case ar5u => kernel_rfl); (case ai5u => rfl); (case ag5u => rfl); (case ae15u => rfl); (case ae35u => (intros; rfl)); (case ap15u => (intros; rfl))
  (case aw5u => exact (Below.refl _ wr).drew)
  intro b_ x_ w5 hG_ hx_ K_ hK_; (try simp only [Act.put, List.setIfInBounds_toArray, List.set_cons_zero, List.set_cons_succ, List.getElem_toArray, List.getElem_cons_zero, List.getElem_cons_succ])
  go_wp2_with fail
  refine (HMK.out _).mono ?_
  rintro e w6 ⟨rfl, hbp⟩
  go_wp2_with fail
  have q6 : Below wr.heap.size wr w6 := bstep hG_ hbp
  have hS6 := HSG.out _ q6
  refine hK_.out _ _ (Or.inr hS6) ?_
  clear hK_ K_ hG_
  refine' wpX_takeA' (f := 1) (i := 6) (v := ?xv6u) (L := (fun b_ => #[true, true, true, true, true, true, false, b_, false])) (L' := (fun b_ => #[true, true, true, true, true, true, true, b_, false])) ?tan6u ?tal6u rfl (by kernel_rfl) ?tar6u (by kernel_rfl) ?tae36u (fun _ _ _ h => h) (Or.inl ⟨by rfl, ?xh6u⟩) ?taw6u ?xr6u; (case tan6u => rfl); (case tal6u => rfl); (case tar6u => kernel_rfl); (case tae36u => (intros; rfl)); (case taw6u => assumption); (case xh6u => (intro w hSw; (try dsimp only at hSw); go_simp; (try with_reducible rfl))); (try simp only [Act.put, List.setIfInBounds_toArray, List.set_cons_zero, List.set_cons_succ, List.getElem_toArray, List.getElem_cons_zero, List.getElem_cons_succ])
  refine' wpX_layA' (f := 1) (L := (fun b_ => #[true, true, true, true, true, true, true, b_, false])) (base := wr.heap.size) (G := (fun w' => Below w6.heap.size w6 w')) (b := b_) (x := x_) al1 ?anLu ?alLu ?aaLu ?arLu ?ae1Lu ?ap1Lu (fun w' q => HSG.out w' (bstep q6 q)) (fun w' o q => q.alloc q.size o) (fun w' q => Nat.le_trans q6.size q.size) ?awLu (hx_.bl hbp) ?amLu; (case anLu => rfl); (case alLu => rfl); (case aaLu => rfl); (case arLu => kernel_rfl); (case ae1Lu => rfl); (case ap1Lu => (intros; rfl))
  (case awLu => exact Below.refl _ w6)
  clear hx_ x_ b_ hS6
  intro g7 w7 hb7 hg7 G7
  have q7 : Below wr.heap.size wr w7 := bstep q6 hb7
  clear al1 hb7 q6 hbp
  (try clear cG7 fG7); have cG7 := G7.cell; have fG7 := G7.frozen
  refine wpAnyX_one (i := 8) (by kernel_rfl) rfl (by rfl) (fun K hK => ?_); (try simp only [List.getElem_toArray, List.getElem_cons_zero, List.getElem_cons_succ])
  go_wp2_with fail
  refine hK.out _ _ (Or.inr (HSG.out _ (below_set (below_set (below_set (below_set (below_set (below_set (below_set q7 hg7 0 _) hg7 1 _) hg7 2 _) hg7 3 _) hg7 4 _) hg7 5 _) hg7 6 _))) (fun hS => ?_)
  clear hK K hS cG7 fG7 HSG
  refine wpAnyX_done (by kernel_rfl) ?_ _
  obtain ⟨X1, gr1, sz1⟩ := whole_call (Value.int .i64 (next - 1)) (Value.int .i64 1) (Value.int .i64 ck) (Value.string cy) (Value.string cf) (Value.string ct) (Value.int .i64 cn) G7
  have q8 := below_grow q7 gr1 q7.size hg7
  replace D1 := grown_blk (D1.below' q7) gr1 (by omega)
  replace S1 := (S1.bl q7).grown G7 gr1
  replace C1 := (C1.bl q7).grown G7 gr1
  obtain ⟨w8, hw8⟩ : ∃ w8, w8 = (((((((w7.setCell ⟨g7, 0, none⟩ (Value.int .i64 (next - 1))).setCell ⟨g7, 1, none⟩ (Value.int .i64 1)).setCell ⟨g7, 2, none⟩ (Value.int .i64 ck)).setCell ⟨g7, 3, none⟩ (Value.string cy)).setCell ⟨g7, 4, none⟩ (Value.string cf)).setCell ⟨g7, 5, none⟩ (Value.string ct)).setCell ⟨g7, 6, none⟩ (Value.int .i64 cn)) := ⟨_, rfl⟩
  rw [← hw8] at q8 X1 D1 S1 C1 ⊢
  clear hw8 gr1 sz1 G7 q7
  replace q0 := bstep q0 q8
  clear q8 HMK X0 hx1 hg7 hv1
  (try clear cD1 fD1); have cD1 := D1.cell; have fD1 := D1.frozen; (try clear cX1 fX1); have cX1 := X1.cell; have fX1 := X1.frozen
  go_wp2_with fail
  refine (HDO.out _ _ _ _ _ _ w8 S1 C1 (hN.bl q0)).mono ?_
  rintro e w9 ⟨A2, n2, c2, B2, k2, d2, Y2, m2, o2, rfl, S2, C2, T2, hb9⟩
  replace X1 := X1.bl hb9
  have q : Below w.heap.size w w9 := below_by
  clear hb9 HDO cD1 fD1 cX1 fX1 D1 S1 C1 q0
  have D2 := Blk.new w9 32 #[.int .i64 (xnow), .slice A2 n2 c2, .int .i64 (xnext), .slice B2 k2 d2]; replace S2 := S2.al (.cells #[.int .i64 (xnow), .slice A2 n2 c2, .int .i64 (xnext), .slice B2 k2 d2] 32); replace C2 := C2.al (.cells #[.int .i64 (xnow), .slice A2 n2 c2, .int .i64 (xnext), .slice B2 k2 d2] 32); replace T2 := T2.al (.cells #[.int .i64 (xnow), .slice A2 n2 c2, .int .i64 (xnext), .slice B2 k2 d2] 32); replace X1 := X1.al (.cells #[.int .i64 (xnow), .slice A2 n2 c2, .int .i64 (xnext), .slice B2 k2 d2] 32); have R2 : Blk ((w9.alloc (.cells #[.int .i64 (xnow), .slice A2 n2 c2, .int .i64 (xnext), .slice B2 k2 d2] 32)).alloc (.cells #[.int .i64 (rc), .string rt, .int .i64 (rn), .slice Y2 m2 o2] 37)) (w9.heap.size + 1) 37 #[.int .i64 (rc), .string rt, .int .i64 (rn), .slice Y2 m2 o2] := Blk.new' _ _ _ (by simp); replace S2 := S2.al (.cells #[.int .i64 (rc), .string rt, .int .i64 (rn), .slice Y2 m2 o2] 37); replace C2 := C2.al (.cells #[.int .i64 (rc), .string rt, .int .i64 (rn), .slice Y2 m2 o2] 37); replace T2 := T2.al (.cells #[.int .i64 (rc), .string rt, .int .i64 (rn), .slice Y2 m2 o2] 37); replace D2 := D2.al (.cells #[.int .i64 (rc), .string rt, .int .i64 (rn), .slice Y2 m2 o2] 37); replace X1 := X1.al (.cells #[.int .i64 (rc), .string rt, .int .i64 (rn), .slice Y2 m2 o2] 37)
  have q0 : Below w.heap.size w ((w9.alloc (.cells #[.int .i64 (xnow), .slice A2 n2 c2, .int .i64 (xnext), .slice B2 k2 d2] 32)).alloc (.cells #[.int .i64 (rc), .string rt, .int .i64 (rn), .slice Y2 m2 o2] 37)) := below_by
  (try clear cD2 fD2); have cD2 := D2.cell; have fD2 := D2.frozen; (try clear cX1 fX1); have cX1 := X1.cell; have fX1 := X1.frozen
  go_wp2_with fail
  refine (HD2.out _ _ _ _ _ _ _ S2 C2 (hN.bl q0)).mono ?_
  rintro e wa ⟨A3, n3, c3, B3, k3, d3, Y3, m3, o3, rfl, S3, C3, T3, hba⟩
  replace X1 := X1.bl hba; replace S2 := S2.bl hba; replace C2 := C2.bl hba; replace T2 := T2.bl hba; replace D2 := D2.bl hba; replace R2 := R2.bl hba
  replace q : Below w.heap.size w wa := below_by
  clear hba HD2 cD2 fD2 cX1 fX1 q0
  have D3 := Blk.new wa 32 #[.int .i64 (xnow), .slice A3 n3 c3, .int .i64 (xnext), .slice B3 k3 d3]; replace S3 := S3.al (.cells #[.int .i64 (xnow), .slice A3 n3 c3, .int .i64 (xnext), .slice B3 k3 d3] 32); replace C3 := C3.al (.cells #[.int .i64 (xnow), .slice A3 n3 c3, .int .i64 (xnext), .slice B3 k3 d3] 32); replace T3 := T3.al (.cells #[.int .i64 (xnow), .slice A3 n3 c3, .int .i64 (xnext), .slice B3 k3 d3] 32); replace X1 := X1.al (.cells #[.int .i64 (xnow), .slice A3 n3 c3, .int .i64 (xnext), .slice B3 k3 d3] 32); replace S2 := S2.al (.cells #[.int .i64 (xnow), .slice A3 n3 c3, .int .i64 (xnext), .slice B3 k3 d3] 32); replace C2 := C2.al (.cells #[.int .i64 (xnow), .slice A3 n3 c3, .int .i64 (xnext), .slice B3 k3 d3] 32); replace T2 := T2.al (.cells #[.int .i64 (xnow), .slice A3 n3 c3, .int .i64 (xnext), .slice B3 k3 d3] 32); replace D2 := D2.al (.cells #[.int .i64 (xnow), .slice A3 n3 c3, .int .i64 (xnext), .slice B3 k3 d3] 32); replace R2 := R2.al (.cells #[.int .i64 (xnow), .slice A3 n3 c3, .int .i64 (xnext), .slice B3 k3 d3] 32); have R3 : Blk ((wa.alloc (.cells #[.int .i64 (xnow), .slice A3 n3 c3, .int .i64 (xnext), .slice B3 k3 d3] 32)).alloc (.cells #[.int .i64 (rc), .string rt, .int .i64 (rn), .slice Y3 m3 o3] 37)) (wa.heap.size + 1) 37 #[.int .i64 (rc), .string rt, .int .i64 (rn), .slice Y3 m3 o3] := Blk.new' _ _ _ (by simp); replace S3 := S3.al (.cells #[.int .i64 (rc), .string rt, .int .i64 (rn), .slice Y3 m3 o3] 37); replace C3 := C3.al (.cells #[.int .i64 (rc), .string rt, .int .i64 (rn), .slice Y3 m3 o3] 37); replace T3 := T3.al (.cells #[.int .i64 (rc), .string rt, .int .i64 (rn), .slice Y3 m3 o3] 37); replace D3 := D3.al (.cells #[.int .i64 (rc), .string rt, .int .i64 (rn), .slice Y3 m3 o3] 37); replace X1 := X1.al (.cells #[.int .i64 (rc), .string rt, .int .i64 (rn), .slice Y3 m3 o3] 37); replace S2 := S2.al (.cells #[.int .i64 (rc), .string rt, .int .i64 (rn), .slice Y3 m3 o3] 37); replace C2 := C2.al (.cells #[.int .i64 (rc), .string rt, .int .i64 (rn), .slice Y3 m3 o3] 37); replace T2 := T2.al (.cells #[.int .i64 (rc), .string rt, .int .i64 (rn), .slice Y3 m3 o3] 37); replace D2 := D2.al (.cells #[.int .i64 (rc), .string rt, .int .i64 (rn), .slice Y3 m3 o3] 37); replace R2 := R2.al (.cells #[.int .i64 (rc), .string rt, .int .i64 (rn), .slice Y3 m3 o3] 37)
  have q0 : Below w.heap.size w ((wa.alloc (.cells #[.int .i64 (xnow), .slice A3 n3 c3, .int .i64 (xnext), .slice B3 k3 d3] 32)).alloc (.cells #[.int .i64 (rc), .string rt, .int .i64 (rn), .slice Y3 m3 o3] 37)) := below_by
  go_wp2_with fail
  obtain ⟨wr2, hwr⟩ : ∃ wr2, wr2 = ((wa.alloc (.cells #[.int .i64 (xnow), .slice A3 n3 c3, .int .i64 (xnext), .slice B3 k3 d3] 32)).alloc (.cells #[.int .i64 (rc), .string rt, .int .i64 (rn), .slice Y3 m3 o3] 37)) := ⟨_, rfl⟩
  rw [← hwr] at X1 S2 C2 T2 D2 R2 S3 C3 T3 D3 R3 q0 ⊢
  clear hwr q
  have N1 := hN.bl q0
  have hsG : ∀ w', Below wr2.heap.size wr2 w' → (w'.cell? ⟨w9.heap.size, 0, none⟩ = some (.int .i64 xnow) ∧ w'.cell? ⟨w9.heap.size, 1, none⟩ = some (.slice A2 n2 c2) ∧ w'.cell? ⟨w9.heap.size, 2, none⟩ = some (.int .i64 xnext) ∧ w'.cell? ⟨w9.heap.size, 3, none⟩ = some (.slice B2 k2 d2) ∧ w'.cell? ⟨g7, 0, none⟩ = some (.int .i64 (next - 1)) ∧ w'.cell? ⟨g7, 1, none⟩ = some (.int .i64 1) ∧ w'.cell? ⟨g7, 2, none⟩ = some (.int .i64 ck) ∧ w'.cell? ⟨g7, 3, none⟩ = some (.string cy) ∧ w'.cell? ⟨g7, 4, none⟩ = some (.string cf) ∧ w'.cell? ⟨g7, 5, none⟩ = some (.string ct) ∧ w'.cell? ⟨g7, 6, none⟩ = some (.int .i64 cn)) := fun w' q => by
    have V' := D2.below' q
    have X' := X1.below' q
    exact ⟨V'.cell 0, V'.cell 1, V'.cell 2, V'.cell 3, X'.cell 0, X'.cell 1, X'.cell 2, X'.cell 3, X'.cell 4, X'.cell 5, X'.cell 6⟩
  have hv2 := D2.lt
  have hv3 := D3.lt
  have hv4 := R2.lt
  have hv5 := R3.lt
  refine wp_region_x (l := []) (S := fun w' => w'.cell? ⟨w9.heap.size, 0, none⟩ = some (.int .i64 xnow) ∧ w'.cell? ⟨w9.heap.size, 1, none⟩ = some (.slice A2 n2 c2) ∧ w'.cell? ⟨w9.heap.size, 2, none⟩ = some (.int .i64 xnext) ∧ w'.cell? ⟨w9.heap.size, 3, none⟩ = some (.slice B2 k2 d2) ∧ w'.cell? ⟨g7, 0, none⟩ = some (.int .i64 (next - 1)) ∧ w'.cell? ⟨g7, 1, none⟩ = some (.int .i64 1) ∧ w'.cell? ⟨g7, 2, none⟩ = some (.int .i64 ck) ∧ w'.cell? ⟨g7, 3, none⟩ = some (.string cy) ∧ w'.cell? ⟨g7, 4, none⟩ = some (.string cf) ∧ w'.cell? ⟨g7, 5, none⟩ = some (.string ct) ∧ w'.cell? ⟨g7, 6, none⟩ = some (.int .i64 cn)) (by kernel_rfl) (hsG _ (Below.refl _ wr2).drew) (fun hS => ?_)
  refine wpAnyX_tk (i := 0) (v := ?xv0v) rfl (Or.inl ⟨by rfl, ?xh0v⟩) ?xr0v; (case xh0v => (intro w hSw; (try dsimp only at hSw); go_simp; (try with_reducible rfl))); (try simp only [Act.put, List.setIfInBounds_toArray, List.set_cons_zero, List.set_cons_succ, List.getElem_toArray, List.getElem_cons_zero, List.getElem_cons_succ])
  refine wpAnyX_tk (i := 1) (v := ?xv1v) rfl (Or.inl ⟨by rfl, ?xh1v⟩) ?xr1v; (case xh1v => (intro w hSw; (try dsimp only at hSw); go_simp; (try with_reducible rfl))); (try simp only [Act.put, List.setIfInBounds_toArray, List.set_cons_zero, List.set_cons_succ, List.getElem_toArray, List.getElem_cons_zero, List.getElem_cons_succ])
  refine wpAnyX_tk (i := 2) (v := ?xv2v) rfl (Or.inl ⟨by rfl, ?xh2v⟩) ?xr2v; (case xh2v => (intro w hSw; (try dsimp only at hSw); go_simp; (try with_reducible rfl))); (try simp only [Act.put, List.setIfInBounds_toArray, List.set_cons_zero, List.set_cons_succ, List.getElem_toArray, List.getElem_cons_zero, List.getElem_cons_succ])
  refine wpAnyX_tk (i := 3) (v := ?xv3v) rfl (Or.inl ⟨by rfl, ?xh3v⟩) ?xr3v; (case xh3v => (intro w hSw; (try dsimp only at hSw); go_simp; (try with_reducible rfl))); (try simp only [Act.put, List.setIfInBounds_toArray, List.set_cons_zero, List.set_cons_succ, List.getElem_toArray, List.getElem_cons_zero, List.getElem_cons_succ])
  refine wpAnyX_tk (i := 4) (v := ?xv4v) rfl (Or.inl ⟨by rfl, ?xh4v⟩) ?xr4v; (case xh4v => (intro w hSw; (try dsimp only at hSw); go_simp; (try with_reducible rfl))); (try simp only [Act.put, List.setIfInBounds_toArray, List.set_cons_zero, List.set_cons_succ, List.getElem_toArray, List.getElem_cons_zero, List.getElem_cons_succ])
  refine wpAnyX_tk (i := 7) (v := ?xv7v) rfl (Or.inl ⟨by rfl, ?xh7v⟩) ?xr7v; (case xh7v => (intro w hSw; (try dsimp only at hSw); go_simp; (try with_reducible rfl))); (try simp only [Act.put, List.setIfInBounds_toArray, List.set_cons_zero, List.set_cons_succ, List.getElem_toArray, List.getElem_cons_zero, List.getElem_cons_succ])
  have HSG := hide hsG
  clear hsG hS 
  refine wpX_start (n := 10 + left2 false false) (listed := (fun b_ c_ => #[true, true, true, true, true, false, false, true, false, false, false, false, false, b_, c_, false, false, false]) false false) (j1 := 13) (d1 := 15) (t1 := 32) (z1 := #[.int .i64 0, .slice none 0 0, .int .i64 0, .slice none 0 0]) (j2 := 14) (d2 := 16) (t2 := 37) (z2 := #[.int .i64 0, .string { data := #[] }, .int .i64 0, .slice none 0 0]) ?al1v ?al2v ?alnv ?allv (fun al1 al2 => ?alrv); (case al1v => exact ⟨⟨_, rfl, rfl, rfl, fun a w => by simp [go_sem, execOp]⟩⟩); (case al2v => exact ⟨⟨_, rfl, rfl, rfl, fun a w => by simp [go_sem, execOp]⟩⟩); (case alnv => kernel_rfl); (case allv => kernel_rfl)
  refine' wpX_phase0 (f := 9) (i := 5) (L := (fun b_ c_ => #[true, true, true, true, true, false, false, true, false, false, false, false, false, b_, c_, false, false, false])) (L' := (fun b_ c_ => #[true, true, true, true, true, true, false, true, false, false, false, false, false, b_, c_, false, false, false])) (base := wr2.heap.size) (G := (fun w' => Below wr2.heap.size wr2 w')) (x := undef) (y := undef) al1 al2 ?an5v ?al5v ?aa5v ?ar5v ?ai5v ?ag5v ?ae15v ?ae25v ?ae35v ?ap15v ?ap25v HSG.out (fun w' o q => q.alloc q.size o) (fun w' q => q.size) ?aw5v ?am5v; (case an5v => rfl); (case al5v => rfl); (case aa5v => rfl); (case ar5v => kernel_rfl); (case ai5v => rfl); (case ag5v => rfl); (case ae15v => (intros; rfl)); (case ae25v => (intros; rfl)); (case ae35v => (intros; rfl)); (case ap15v => (intros; rfl)); (case ap25v => (intros; rfl))
  (case aw5v => exact (Below.refl _ wr2).drew)
  intro b_ c_ x_ y_ wp1 hG_ hx_ hy_ hxy_ K_ hK_; (try simp only [Act.put, List.setIfInBounds_toArray, List.set_cons_zero, List.set_cons_succ, List.getElem_toArray, List.getElem_cons_zero, List.getElem_cons_succ])
  go_wp2_with fail
  refine (HP.out _).mono ?_
  rintro e w3 ⟨rfl, hw_⟩
  have hbp : Below wp1.heap.size wp1 w3 := hw_ ▸ Below.refl _ _
  clear hw_
  go_wp2_with fail
  have qp : Below wr2.heap.size wr2 w3 := bstep hG_ hbp
  have hSp := HSG.out _ qp
  refine hK_.out _ _ (Or.inr hSp) ?_
  clear hK_ K_ hG_
  refine' wpX_take' (f := 8) (i := 6) (v := ?xv6v) (L := (fun b_ c_ => #[true, true, true, true, true, true, false, true, false, false, false, false, false, b_, c_, false, false, false])) (L' := (fun b_ c_ => #[true, true, true, true, true, true, true, true, false, false, false, false, false, b_, c_, false, false, false])) ?tan6v ?tal6v rfl (by kernel_rfl) ?tar6v (by kernel_rfl) ?tae36v (fun _ _ _ h => h) (Or.inl ⟨by rfl, ?xh6v⟩) ?taw6v ?xr6v; (case tan6v => rfl); (case tal6v => rfl); (case tar6v => kernel_rfl); (case tae36v => (intros; rfl)); (case taw6v => assumption); (case xh6v => (intro w hSw; (try dsimp only at hSw); go_simp; (try with_reducible rfl))); (try simp only [Act.put, List.setIfInBounds_toArray, List.set_cons_zero, List.set_cons_succ, List.getElem_toArray, List.getElem_cons_zero, List.getElem_cons_succ])
  refine' wpX_phase' (f := 7) (i := 8) (L := (fun b_ c_ => #[true, true, true, true, true, true, true, true, false, false, false, false, false, b_, c_, false, false, false])) (L' := (fun b_ c_ => #[true, true, true, true, true, true, true, true, true, false, false, false, false, b_, c_, false, false, false])) (base := wr2.heap.size) (G := (fun w' => Below wr2.heap.size wr2 w')) (b := b_) (c := c_) (x := x_) (y := y_) al1 al2 ?an8v ?al8v ?aa8v ?ar8v ?ai8v ?ag8v ?ae18v ?ae28v ?ae38v ?ap18v ?ap28v HSG.out (fun w' o q => q.alloc q.size o) (fun w' q => q.size) ?aw8v (hx_.bl hbp) (hy_.bl hbp) hxy_ ?am8v; (case an8v => rfl); (case al8v => rfl); (case aa8v => rfl); (case ar8v => kernel_rfl); (case ai8v => rfl); (case ag8v => rfl); (case ae18v => (intros; rfl)); (case ae28v => (intros; rfl)); (case ae38v => (intros; rfl)); (case ap18v => (intros; rfl)); (case ap28v => (intros; rfl))
  (case aw8v => exact qp)
  clear hx_ hy_ hxy_ x_ y_ b_ c_ hbp
  intro b_ c_ x_ y_ wp2 hG_ hx_ hy_ hxy_ K_ hK_; (try simp only [Act.put, List.setIfInBounds_toArray, List.set_cons_zero, List.set_cons_succ, List.getElem_toArray, List.getElem_cons_zero, List.getElem_cons_succ])
  go_wp2_with fail
  refine (HD3.out _ _ _ _ _ _ _ (S2.bl hG_) (C2.bl hG_) (N1.bl hG_)).mono ?_
  rintro e w6 ⟨A4, n4, c4, B4, k4, d4, Y4, m4, o4, rfl, S6, C6, T6, hbp⟩
  go_wp2_with fail
  have qp : Below wr2.heap.size wr2 w6 := bstep hG_ hbp
  have hSp := HSG.out _ qp
  refine hK_.out _ _ (Or.inr hSp) ?_
  clear hK_ K_ hG_
  refine' wpX_take' (f := 6) (i := 9) (v := ?xv9v) (L := (fun b_ c_ => #[true, true, true, true, true, true, true, true, true, false, false, false, false, b_, c_, false, false, false])) (L' := (fun b_ c_ => #[true, true, true, true, true, true, true, true, true, true, false, false, false, b_, c_, false, false, false])) ?tan9v ?tal9v rfl (by kernel_rfl) ?tar9v (by kernel_rfl) ?tae39v (fun _ _ _ h => h) (Or.inl ⟨by rfl, ?xh9v⟩) ?taw9v ?xr9v; (case tan9v => rfl); (case tal9v => rfl); (case tar9v => kernel_rfl); (case tae39v => (intros; rfl)); (case taw9v => assumption); (case xh9v => (intro w hSw; (try dsimp only at hSw); go_simp; (try with_reducible rfl))); (try simp only [Act.put, List.setIfInBounds_toArray, List.set_cons_zero, List.set_cons_succ, List.getElem_toArray, List.getElem_cons_zero, List.getElem_cons_succ])
  refine' wpX_take' (f := 5) (i := 10) (v := ?xv10v) (L := (fun b_ c_ => #[true, true, true, true, true, true, true, true, true, true, false, false, false, b_, c_, false, false, false])) (L' := (fun b_ c_ => #[true, true, true, true, true, true, true, true, true, true, true, false, false, b_, c_, false, false, false])) ?tan10v ?tal10v rfl (by kernel_rfl) ?tar10v (by kernel_rfl) ?tae310v (fun _ _ _ h => h) (Or.inl ⟨by rfl, ?xh10v⟩) ?taw10v ?xr10v; (case tan10v => rfl); (case tal10v => rfl); (case tar10v => kernel_rfl); (case tae310v => (intros; rfl)); (case taw10v => assumption); (case xh10v => (intro w hSw; (try dsimp only at hSw); go_simp; (try with_reducible rfl))); (try simp only [Act.put, List.setIfInBounds_toArray, List.set_cons_zero, List.set_cons_succ, List.getElem_toArray, List.getElem_cons_zero, List.getElem_cons_succ])
  refine' wpX_take' (f := 4) (i := 11) (v := ?xv11v) (L := (fun b_ c_ => #[true, true, true, true, true, true, true, true, true, true, true, false, false, b_, c_, false, false, false])) (L' := (fun b_ c_ => #[true, true, true, true, true, true, true, true, true, true, true, true, false, b_, c_, false, false, false])) ?tan11v ?tal11v rfl (by kernel_rfl) ?tar11v (by kernel_rfl) ?tae311v (fun _ _ _ h => h) (Or.inl ⟨by rfl, ?xh11v⟩) ?taw11v ?xr11v; (case tan11v => rfl); (case tal11v => rfl); (case tar11v => kernel_rfl); (case tae311v => (intros; rfl)); (case taw11v => assumption); (case xh11v => (intro w hSw; (try dsimp only at hSw); go_simp; (try with_reducible rfl))); (try simp only [Act.put, List.setIfInBounds_toArray, List.set_cons_zero, List.set_cons_succ, List.getElem_toArray, List.getElem_cons_zero, List.getElem_cons_succ])
  refine' wpX_take' (f := 3) (i := 12) (v := ?xv12v) (L := (fun b_ c_ => #[true, true, true, true, true, true, true, true, true, true, true, true, false, b_, c_, false, false, false])) (L' := (fun b_ c_ => #[true, true, true, true, true, true, true, true, true, true, true, true, true, b_, c_, false, false, false])) ?tan12v ?tal12v rfl (by kernel_rfl) ?tar12v (by kernel_rfl) ?tae312v (fun _ _ _ h => h) (Or.inl ⟨by rfl, ?xh12v⟩) ?taw12v ?xr12v; (case tan12v => rfl); (case tal12v => rfl); (case tar12v => kernel_rfl); (case tae312v => (intros; rfl)); (case taw12v => assumption); (case xh12v => (intro w hSw; (try dsimp only at hSw); go_simp; (try with_reducible rfl))); (try simp only [Act.put, List.setIfInBounds_toArray, List.set_cons_zero, List.set_cons_succ, List.getElem_toArray, List.getElem_cons_zero, List.getElem_cons_succ])
  refine' wpX_lay' (f := 3) (L := (fun b_ c_ => #[true, true, true, true, true, true, true, true, true, true, true, true, true, b_, c_, false, false, false])) (base := wr2.heap.size) (G := (fun w' => Below w6.heap.size w6 w')) (b := b_) (c := c_) (x := x_) (y := y_) al1 al2 ?anLv ?alLv ?aaLv ?arLv ?ae1Lv ?ae2Lv ?ap1Lv ?ap2Lv (fun w' q => HSG.out w' (bstep qp q)) (fun w' o q => q.alloc q.size o) (fun w' q => Nat.le_trans qp.size q.size) ?awLv (hx_.bl hbp) (hy_.bl hbp) hxy_ ?amLv; (case anLv => rfl); (case alLv => rfl); (case aaLv => rfl); (case arLv => kernel_rfl); (case ae1Lv => (intros; rfl)); (case ae2Lv => (intros; rfl)); (case ap1Lv => (intros; rfl)); (case ap2Lv => (intros; rfl))
  (case awLv => exact Below.refl _ w6)
  clear hx_ hy_ hxy_ x_ y_ b_ c_ hSp
  intro g1 g2 w7 hb7 hg1 G1 hg2 G2 hgg
  have q7 : Below wr2.heap.size wr2 w7 := bstep qp hb7
  clear al1 al2
  (try clear cG1 fG1); have cG1 := G1.cell; have fG1 := G1.frozen
  refine wpAnyX_one (i := 15) (by kernel_rfl) rfl (by rfl) (fun K hK => ?_); (try simp only [List.getElem_toArray, List.getElem_cons_zero, List.getElem_cons_succ])
  go_wp2_with fail
  refine hK.out _ _ (Or.inr (HSG.out _ (below_set (below_set (below_set (below_set q7 hg1 0 _) hg1 1 _) hg1 2 _) hg1 3 _))) (fun hS => ?_)
  clear hK K hS cG1 fG1
  have F0 := G2.far (p := ⟨g1, 0, none⟩) (by simpa using hgg.symm) (.int .i64 (xnow + p))
  have F1 := F0.far (p := ⟨g1, 1, none⟩) (by simpa using hgg.symm) (.slice A4 n4 c4)
  have F2 := F1.far (p := ⟨g1, 2, none⟩) (by simpa using hgg.symm) (.int .i64 xnext)
  have F3 := F2.far (p := ⟨g1, 3, none⟩) (by simpa using hgg.symm) (.slice B4 k4 d4)
  (try clear cF3 fF3); have cF3 := F3.cell; have fF3 := F3.frozen
  refine wpAnyX_one (i := 16) (by kernel_rfl) rfl (by rfl) (fun K hK => ?_); (try simp only [List.getElem_toArray, List.getElem_cons_zero, List.getElem_cons_succ])
  go_wp2_with fail
  refine hK.out _ _ (Or.inr (HSG.out _ (below_set (below_set (below_set (below_set (below_set (below_set (below_set (below_set q7 hg1 0 _) hg1 1 _) hg1 2 _) hg1 3 _) hg2 0 _) hg2 1 _) hg2 2 _) hg2 3 _))) (fun hS => ?_)
  replace hS := hS.resolve_left (by decide)
  clear hK K cF3 fF3
  refine wpAnyX_pure (i := 17) (v := ?xv17v) rfl (by kernel_rfl) (Or.inl ⟨by rfl, ?xh17v⟩) (Or.inr (by assumption)) ?xr17v; (case xh17v => (intro w; go_simp; (try with_reducible rfl))); (try simp only [Act.put, List.setIfInBounds_toArray, List.set_cons_zero, List.set_cons_succ, List.getElem_toArray, List.getElem_cons_zero, List.getElem_cons_succ])
  clear hS
  refine wpAnyX_done (by kernel_rfl) ?_ _
  clear F0 F1 F2 F3
  obtain ⟨X1, gr1, sz1⟩ := whole_mach (Value.int .i64 (xnow + p)) (Value.slice A4 n4 c4) (Value.int .i64 xnext) (Value.slice B4 k4 d4) G1
  have Y1 := grown_blk G2 gr1 hgg.symm
  obtain ⟨X2, gr2, sz2⟩ := whole_reply (Value.int .i64 rc) (Value.string rt) (Value.int .i64 rn) (Value.slice Y4 m4 o4) Y1
  have X1' := grown_blk X1 gr2 hgg
  have q8 := below_grow (below_grow q7 gr1 q7.size hg1) gr2 (by rw [sz1]; exact q7.size) hg2
  have S8 := ((S6.bl hb7).grown G1 gr1).grown Y1 gr2
  have C8 := ((C6.bl hb7).grown G1 gr1).grown Y1 gr2
  have T8 := ((T6.bl hb7).grown G1 gr1).grown Y1 gr2
  have D28 := grown_blk (grown_blk (D2.below' q7) gr1 (by omega)) gr2 (by omega)
  have R28 := grown_blk (grown_blk (R2.below' q7) gr1 (by omega)) gr2 (by omega)
  have D38 := grown_blk (grown_blk (D3.below' q7) gr1 (by omega)) gr2 (by omega)
  have R38 := grown_blk (grown_blk (R3.below' q7) gr1 (by omega)) gr2 (by omega)
  have S28 := ((S2.bl q7).grown G1 gr1).grown Y1 gr2
  have C28 := ((C2.bl q7).grown G1 gr1).grown Y1 gr2
  have T28 := ((T2.bl q7).grown G1 gr1).grown Y1 gr2
  have S38 := ((S3.bl q7).grown G1 gr1).grown Y1 gr2
  have C38 := ((C3.bl q7).grown G1 gr1).grown Y1 gr2
  have T38 := ((T3.bl q7).grown G1 gr1).grown Y1 gr2
  obtain ⟨wz, hw8⟩ : ∃ wz, wz = ((((((((w7.setCell ⟨g1, 0, none⟩ (Value.int .i64 (xnow + p))).setCell ⟨g1, 1, none⟩ (Value.slice A4 n4 c4)).setCell ⟨g1, 2, none⟩ (Value.int .i64 xnext)).setCell ⟨g1, 3, none⟩ (Value.slice B4 k4 d4)).setCell ⟨g2, 0, none⟩ (Value.int .i64 rc)).setCell ⟨g2, 1, none⟩ (Value.string rt)).setCell ⟨g2, 2, none⟩ (Value.int .i64 rn)).setCell ⟨g2, 3, none⟩ (Value.slice Y4 m4 o4)) := ⟨_, rfl⟩
  rw [← hw8] at q8 X1' X2 S8 C8 T8 D28 R28 D38 R38 S28 C28 T28 S38 C38 T38 ⊢
  clear hw8 gr1 gr2 sz1 sz2 Y1 X1 G1 G2 q7 hb7 S6 C6 T6
  have Z1 := X1'
  clear X1'
  replace q0 := bstep q0 q8
  clear q8 HSG HD3 S2 C2 T2 D2 R2 S3 C3 T3 D3 R3 N1 HP
  have hk2 := C28.sl.len
  have hk4 := C8.sl.len
  have hkk : k4 = k2 := by omega
  have hkp : (0 : Int) < (k2 : Int) := by omega
  have hkp' : decide ((0 : Int) < (k2 : Int)) = true := decide_eq_true hkp
  subst hkk
  (try clear cR28 fR28); have cR28 := R28.cell; have fR28 := R28.frozen; (try clear cR38 fR38); have cR38 := R38.cell; have fR38 := R38.frozen
  go_wp2_with fail
  refine (HSR.out _ _ _ _ _ _ _ T28.sl T38.sl).mono ?_
  rintro e wb ⟨rfl, hbb⟩
  replace R28 := R28.bl hbb; replace T28 := T28.bl hbb; replace T8 := T8.bl hbb; replace X2 := X2.bl hbb; replace D28 := D28.bl hbb; replace D38 := D38.bl hbb; replace S28 := S28.bl hbb; replace C28 := C28.bl hbb; replace S38 := S38.bl hbb; replace C38 := C38.bl hbb; replace Z1 := Z1.bl hbb
  replace q0 := bstep q0 hbb
  clear hbb cR28 fR28 cR38 fR38
  (try clear cR28 fR28); have cR28 := R28.cell; have fR28 := R28.frozen; (try clear cX2 fX2); have cX2 := X2.cell; have fX2 := X2.frozen
  go_wp2_with fail
  refine (HSR.out _ _ _ _ _ _ _ T28.sl T8.sl).mono ?_
  rintro e wc ⟨rfl, hbc⟩
  replace D28 := D28.bl hbc; replace D38 := D38.bl hbc; replace S28 := S28.bl hbc; replace C28 := C28.bl hbc; replace S38 := S38.bl hbc; replace C38 := C38.bl hbc; replace Z1 := Z1.bl hbc
  replace q0 := bstep q0 hbc
  clear hbc cR28 fR28 cX2 fX2
  (try clear cD28 fD28); have cD28 := D28.cell; have fD28 := D28.frozen; (try clear cD38 fD38); have cD38 := D38.cell; have fD38 := D38.frozen
  go_wp2_with fail
  refine (HSM.out _ _ _ _ _ _ _ _ _ _ _ _ _ S28 S38 C28 C38).mono ?_
  rintro e wd ⟨rfl, hbd⟩
  replace D28 := D28.bl hbd; replace Z1 := Z1.bl hbd
  have q1 := bstep q0 hbd
  clear hbd cD28 fD28 cD38 fD38
  (try clear cD28 fD28); have cD28 := D28.cell; have fD28 := D28.frozen; (try clear cZ1 fZ1); have cZ1 := Z1.cell; have fZ1 := Z1.frozen
  go_wp2_with fail
  go_ret
  have hkn : decide (0 < k4) = true := decide_eq_true (by omega)
  refine ⟨?_, q1⟩
  show Ending.returned (.bool (decide (0 < k4))) = _
  rw [hkn]
set_option maxRecDepth 100000 in
theorem onceDone_lifted (os : Os) (started : os.Started) (H : Type) (enc : TypeId × Value → H) :
  ReturnsInHanded {} Tryz.checked os 4 .any (fun w args => (Rows.onceDoneSpec.pre enc Tryz.prog Tryz.f4 [] false w args ∧ laidMetH Tryz.prog laidN w) ∧ sizedMet enc Tryz.prog Tryz.f4 (OpenSpec.ofChange Rows.onceDoneSpec) false w args) (Rows.onceDoneSpec.post enc Tryz.prog Tryz.f4 false true false false) := by
  refine returnsInHanded_of_change_and (C := Tryz.checked) (X := fun w _ => laidMetH Tryz.prog laidN w) (fun _ _ _ hh h => h.of_heap hh) Tryz.own started (by kernel_rfl) Tryz.func4 (ChangeSpec.witness_shaped (enc := enc) (C := Tryz.checked) (os := os) (X := fun w _ => laidMetH Tryz.prog laidN w) false (World.doorLaid Tryz.prog 14 os) #[.slice none 0 0, .agg #[.int .i64 0, .int .i64 0, .int .i64 0, .int .i64 0, .int .i64 0, .int .i64 0, .int .i64 0, .string ByteArray.empty], .int .i64 0] 8 rfl (World.shaped_of_RefB (by kernel_rfl) (by kernel_rfl)) (by kernel_rfl) (by kernel_rfl) (by kernel_rfl) (door_met os _)) ?_
  intro W base args ds gs before hval0 hW hcnd hsz0 hL _
  have hsz : (DataW.weightsEach Tryz.prog (Tryz.f4.params.toList ++ Rows.onceDoneSpec.plain.varTypes Tryz.prog) (ds ++ gs)).all (· ≤ reachBytes) = true := hsz0
  clear hsz0
  have hval : ∀ (j : Nat) t v, Tryz.f4.params[j]? = some t → args[j]? = some v → Value.okWide Tryz.prog W .any base t v := hval0
  have hW' := hW
  obtain ⟨p, q, hA0, hV, rfl, hfz, hnd⟩ := hW
  have hA : DataW.TrodAll enc Tryz.prog W 0 (fun _ => true) true Tryz.f4.params.toList args.toList ds p := hA0
  rw [Tryz.params4] at hA hval hsz
  obtain ⟨rfl, rfl⟩ := trodVars_none hV
  clear hA0 hval0 hcnd hV hfz hnd
  have hN := noth_of_laid hL
  obtain ⟨v0, v1, v2, d0, d1, d2, p0, p1, p2, rfl, rfl, rfl, h0, h1, h2⟩ := trodAll_three hA
  obtain ⟨A, n, c, l, rfl, hd, hS⟩ := open_deeds (hval 0 22 v0 rfl rfl) h0
  obtain ⟨x, rfl, hx⟩ := open_deed (hval 1 26 v1 rfl rfl) h1
  obtain ⟨k, rfl, rfl, rfl, w1⟩ := open_int Tryz.underlying3 (hval 2 3 v2 rfl rfl) h2
  refine (onceDone_walk A n c l x k W hS hd hx (i64_bounds w1) hN).mono fun e W' ⟨he, hb⟩ => ?_
  subst he
  exact ⟨_, rfl, post_law Tryz.laidOut hW' rfl (by kernel_rfl) rfl Tryz.underlying4 (fun _ => rfl) (fun _ => rfl) (fun _ => rfl) hb⟩
set_option maxRecDepth 100000 in
theorem onceDone_f1 : (Rows.onceDoneRow.inPlace == Tryz.pinned.checked.prog.inPlace 4) = true := by kernel_rfl
set_option maxRecDepth 100000 in
theorem onceDone_f2 : (Rows.onceDoneRow.unfollowed == Tryz.pinned.checked.prog.unfollowed 4) = true := by kernel_rfl
set_option maxRecDepth 100000 in
theorem onceDone_f3 : (Rows.onceDoneRow.recurses == Tryz.pinned.checked.prog.recurses 4) = true := by kernel_rfl
set_option maxRecDepth 100000 in
theorem onceDone_f4 : (Rows.onceDoneRow.named == Tryz.pinned.checked.prog.varsNamed 4) = true := by kernel_rfl
set_option maxRecDepth 100000 in
theorem onceDone_facts : joinedFacts Tryz.pinned.checked.prog 4 Tryz.f4 Rows.onceDoneSpec Rows.onceDoneRow = true := by
  unfold joinedFacts
  rw [enterN, show (Rows.onceDoneRow.lifted == Tryz.pinned.checked.prog.liftsFinal) = true from liftsN, laidN1, laidN2, heardN, show (Rows.onceDoneRow.plainKeys == Tryz.pinned.checked.prog.plainKeys) = true from keysN, onceDone_f1, onceDone_f2, onceDone_f3, onceDone_f4]
  kernel_rfl
theorem onceDone_row : Rows.OnceDoneSaid := OpenClaim.holds_of_wide 4 Tryz.f4 rfl rfl rfl rfl rfl rfl rfl ⟨rfl, rfl, rfl, rfl, rfl⟩ rfl rfl rfl rfl rfl (by kernel_rfl) Tryz.func4 onceDone_facts
  (of_decide_eq_true (by kernel_rfl)) (by unfold Func.isWrapper; first | (rw [if_pos (by decide +kernel)]; kernel_rfl) | (rw [if_neg (by decide +kernel)]; exact ⟨rfl, rfl⟩))
  (fun os started H enc _ => onceDone_lifted os started H enc)
set_option maxRecDepth 100000 in
theorem onceDone_goes : false = Rows.onceDoneRow.goesBy Tryz.pinned.checked.prog := by kernel_rfl
set_option maxRecDepth 100000 in
theorem onceDone_looks : false = Tryz.pinned.checked.prog.looks [] := by kernel_rfl
set_option maxRecDepth 100000 in
theorem onceDone_holds : Rows.OnceDoneCardSaid :=
  Claim7.holds_tied_plain_at .later [] [.data] true Rows.machineMayCard.stood.harness false
    onceDone_row (fun _ h => by cases h) (by kernel_rfl) (fun _ h => by cases h) onceDone_row_tie rfl ⟨rfl, rfl⟩ mainN rfl
    (fun f fn hf hfn => by
      obtain rfl : f = 4 := Option.some.inj ((show Tryz.prog.funcNamed "rostrum/rostrumkeep.OnceDone" = some 4 by kernel_rfl).symm.trans hf) |>.symm
      obtain rfl : fn = Tryz.f4 := (Option.some.inj (Tryz.func4.symm.trans hfn)).symm
      exact ⟨onceDone_looks, fun j t ht => by
        rw [Tryz.params4] at ht
        have hm := List.mem_of_getElem? (Array.getElem?_toList ▸ ht)
        simp only [List.mem_cons, List.not_mem_nil, or_false] at hm
        rcases hm with rfl | rfl | rfl <;> exact (show Tryz.prog.wantsStandIn _ = false by kernel_rfl)⟩)
    onceDone_goes
#print axioms onceDone_holds
end Go.Proofs.YtgpkgegpcgiokaaGreatDoor
