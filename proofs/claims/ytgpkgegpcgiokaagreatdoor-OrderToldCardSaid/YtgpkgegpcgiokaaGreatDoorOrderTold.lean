/- rostrumkeep.OrderTold returns true for every input; client.nothing holds what its initialiser lays. -/
import Derived.Test.YtgpkgegpcgiokaaGreatDoorMachE
import Derived.Test.YtgpkgegpcgiokaaGreatDoorLaidN
import Derived.Test.YtgpkgegpcgiokaaGreatDoorMachL
namespace Go.Proofs.YtgpkgegpcgiokaaGreatDoor
set_option linter.all false
open Go.ChangeShapes Go.WideShapes Go.ChangeAt Go.RowKit
set_option maxHeartbeats 4000000 in
theorem whole_cli {w2 : World} {b : Nat} {x0 x1 x2 x3 x4 x5 x6 : Value} (u0 u1 u2 u3 u4 u5 u6 : Value) (R : Blk w2 b 54 #[x0, x1, x2, x3, x4, x5, x6]) :
    Blk (((((((w2.setCell ⟨b, 0, none⟩ (u0)).setCell ⟨b, 1, none⟩ (u1)).setCell ⟨b, 2, none⟩ (u2)).setCell ⟨b, 3, none⟩ (u3)).setCell ⟨b, 4, none⟩ (u4)).setCell ⟨b, 5, none⟩ (u5)).setCell ⟨b, 6, none⟩ (u6)) b 54 #[u0, u1, u2, u3, u4, u5, u6] ∧ w2.grownBy (((((((w2.setCell ⟨b, 0, none⟩ (u0)).setCell ⟨b, 1, none⟩ (u1)).setCell ⟨b, 2, none⟩ (u2)).setCell ⟨b, 3, none⟩ (u3)).setCell ⟨b, 4, none⟩ (u4)).setCell ⟨b, 5, none⟩ (u5)).setCell ⟨b, 6, none⟩ (u6)) (some b) ∧ (((((((w2.setCell ⟨b, 0, none⟩ (u0)).setCell ⟨b, 1, none⟩ (u1)).setCell ⟨b, 2, none⟩ (u2)).setCell ⟨b, 3, none⟩ (u3)).setCell ⟨b, 4, none⟩ (u4)).setCell ⟨b, 5, none⟩ (u5)).setCell ⟨b, 6, none⟩ (u6)).heap.size = w2.heap.size := by
  have R0 := R.set' (i := 0) (u := u0) rfl
  have R1 := R0.set' (i := 1) (u := u1) rfl
  have R2 := R1.set' (i := 2) (u := u2) rfl
  have R3 := R2.set' (i := 3) (u := u3) rfl
  have R4 := R3.set' (i := 4) (u := u4) rfl
  have R5 := R4.set' (i := 5) (u := u5) rfl
  have R6 := R5.set' (i := 6) (u := u6) rfl
  exact ⟨R6, grown_trans (grown_trans (grown_trans (grown_trans (grown_trans (grown_trans (grown_setRow_cell w2 b 0 u0) (grown_setRow_cell _ b 1 u1)) (grown_setRow_cell _ b 2 u2)) (grown_setRow_cell _ b 3 u3)) (grown_setRow_cell _ b 4 u4)) (grown_setRow_cell _ b 5 u5)) (grown_setRow_cell _ b 6 u6), by simp⟩
/-- Clients stay where another block is laid whole that is new. -/
theorem Ci.new_ {w0 w w' : World} {A : Option Addr} {n c g : Nat} {l : List Cl} (h : Ci w0 A n c l) (q : Below w0.heap.size w0 w) (hg : w.grownBy w' (some g)) (h0 : w0.heap.size ≤ g) : Ci w' A n c l := h.bl (below_grow q hg q.size h0)
set_option maxRecDepth 100000 in
set_option maxHeartbeats 16000000 in
theorem orderTold_walk (A : Option Addr) (n c : Nat) (l : List DeedD) (off : Int) (w : World) (hS : Sl w 8 A n c (deedRows l)) (hd : ∀ d ∈ l, d.ok) (hoff : I64 off) (hN : Noth w) :
    Calls Tryz.prog 8 #[.slice A n c, .int .i64 off] w fun e w' => e = .returned (.bool true) ∧ Below w.heap.size w w' := by
  have HF := hide (fun w' (hb : Below w.heap.size w w') => opened_any A n c l w' (hS.below hb) hd (hN.bl hb))
  have hinv := opened_inv l
  have hpos := opened_pos l
  generalize openedM l = m at *
  have hok := hinv.ok
  have p0 := picked_lo off m.clis.length (by omega)
  have p1 := picked_hi off m.clis.length (by omega)
  have hp := fun w => picked_any off m.clis.length w hoff.1 hoff.2 (by omega) (by have := hok.few; omega)
  obtain ⟨k, hk⟩ : ∃ k : Nat, (k : Int) = picked off m.clis.length := ⟨(picked off m.clis.length).toNat, by omega⟩
  rw [← hk] at p0 p1 hp
  have hkl : k < m.clis.length := by omega
  have t0 := picked_lo off 9 (by omega)
  have t1 := picked_hi off 9 (by omega)
  have hp9 := fun w => picked_any off 9 w hoff.1 hoff.2 (by omega) (by omega)
  generalize picked off 9 = p at *
  have hsqb := hinv.seq _ (List.getElem_mem hkl)
  have hsq0 := (hok.cli _ (List.getElem_mem hkl)).seq0
  have hn0 := hok.sto.now0
  have hn1 := hok.sto.now1
  have a1 := order_plan hinv (by omega) hkl (s := m.clis[k].seq + 2 + p) (by omega) (by omega) (by omega) (by omega) cc_keys
  have hDo := fun A1 n1 c1 B1 k1 d1 w' hE hC hN => DoM_any hok _ _ _ a1 (by omega) (by omega) A1 B1 n1 c1 k1 d1 w' hE hC hN
  have a2 := fun (h1 : 1 < m.clis[k].seq) => order_plan hinv (by omega) hkl (s := m.clis[k].seq - 1) (by omega) (by omega) (by omega) (by omega) cc_keys
  have hD2 := fun (h1 : 1 < m.clis[k].seq) A1 n1 c1 B1 k1 d1 w' hE hC hN => DoM_any hok _ _ _ (a2 h1) (by omega) (by omega) A1 B1 n1 c1 k1 d1 w' hE hC hN
  have hsm := fun A A' B B' n c n' c' k d k' d' w h1 h2 h3 h4 => sameMachine_eq m A A' B B' n c n' c' k d k' d' w h1 h2 h3 h4 (by have := hok.sto.few; omega) (by have := hok.few; omega)
  have h4 := hok.few
  obtain ⟨now, ents, next, clis⟩ := m
  have hfr : failR 10 = ⟨10, { data := #[] }, 0, []⟩ := rfl
  rw [hfr] at hDo hD2
  simp only at hkl hDo hD2 hsqb hsq0 p1 hp hpos hsm h4
  clear a1 a2 hinv hok hk hd hoff
  generalize hcx : clis[k] = xx0 at *
  obtain ⟨id, sq, xt, ⟨xc, xx, xn, xl⟩⟩ := xx0
  simp only at hDo hD2 hsqb hsq0
  have wp1 : IntKind.i64.wrap (sq + 2) = sq + 2 := IntWalk.i64_in _ (by omega)
  have wp2 : IntKind.i64.wrap (sq + 2 + p) = sq + 2 + p := IntWalk.i64_in _ (by omega)
  have wp3 : 1 < sq → IntKind.i64.wrap (sq - 1) = sq - 1 := fun _ => IntWalk.i64_in _ (by omega)
  have HDO := hide hDo; have HD2 := hide hD2; have HP := hide hp; have HP9 := hide hp9; have HSM := hide hsm; have HW3 := hide wp3; have HCX := hide hcx
  clear hDo hD2 hp hp9 hsm wp3 hn0 hn1 hcx
  go_enter Tryz.func8, Tryz.ntmps8
  go_wp2_with fail
  refine (HF.out _ (Below.refl _ w)).mono ?_
  rintro e w1 ⟨A1, n1, c1, B1, k1, d1, rfl, S1, C1, hb1⟩
  have q : Below w.heap.size w w1 := below_by
  clear hb1 HF
  have hk1 : clis.length = k1 := C1.sl.len
  have hpk : ((clis.length : Nat) : Int) = (k1 : Int) := by omega
  rw [hpk] at HP
  have hn0 : ((k1 : Int) == 0) = false := by rw [beq_eq_false_iff_ne]; omega
  have D1 := Blk.new w1 32 #[.int .i64 (now), .slice A1 n1 c1, .int .i64 (next), .slice B1 k1 d1]; replace S1 := S1.al (.cells #[.int .i64 (now), .slice A1 n1 c1, .int .i64 (next), .slice B1 k1 d1] 32); replace C1 := C1.al (.cells #[.int .i64 (now), .slice A1 n1 c1, .int .i64 (next), .slice B1 k1 d1] 32)
  have q0 : Below w.heap.size w (w1.alloc (.cells #[.int .i64 (now), .slice A1 n1 c1, .int .i64 (next), .slice B1 k1 d1] 32)) := below_by
  (try clear cD1 fD1); have cD1 := D1.cell; have fD1 := D1.frozen
  go_upto_region 5 with fail
  obtain ⟨wr, hwr⟩ : ∃ wr, wr = w1.alloc (.cells #[.int .i64 (now), .slice A1 n1 c1, .int .i64 (next), .slice B1 k1 d1] 32) := ⟨_, rfl⟩
  rw [← hwr] at S1 C1 D1 q0 ⊢
  have hq1 := q.size
  clear hwr q cD1 fD1
  obtain ⟨bc, oc, Yc, mc_, dc_, rfl, hbb, ⟨i0, i1, i2, i3, i4, i5, i6⟩, -⟩ := C1.sl.at_ hkl
  rw [HCX.out] at i0 i1 i2 i3 i4 i5
  simp only at i0 i1 i2 i3 i4 i5
  have hv1 := D1.lt
  have hz1 : (0 : Int) ≤ (k : Int) := by omega
  have hz2 : (k : Int) < (k1 : Int) := by omega
  have hsG : ∀ w', Below wr.heap.size wr w' → (w'.cell? ⟨w1.heap.size, 3, none⟩ = some (.slice (some ⟨bc, oc, none⟩) k1 d1) ∧ w'.cell? ⟨bc, oc + k * 7, none⟩ = some (.int .i64 id) ∧ w'.cell? ⟨bc, oc + k * 7 + 1, none⟩ = some (.int .i64 sq) ∧ w'.cell? ⟨bc, oc + k * 7 + 2, none⟩ = some (.int .i64 xt) ∧ w'.cell? ⟨bc, oc + k * 7 + 3, none⟩ = some (.int .i64 xc) ∧ w'.cell? ⟨bc, oc + k * 7 + 4, none⟩ = some (.string xx) ∧ w'.cell? ⟨bc, oc + k * 7 + 5, none⟩ = some (.int .i64 xn) ∧ w'.cell? ⟨bc, oc + k * 7 + 6, none⟩ = some (.slice Yc mc_ dc_)) := fun w' q => ⟨(D1.below' q).cell 3, (q.cell (p := ⟨bc, oc + k * 7, none⟩) hbb).trans i0, (q.cell (p := ⟨bc, oc + k * 7 + 1, none⟩) hbb).trans i1, (q.cell (p := ⟨bc, oc + k * 7 + 2, none⟩) hbb).trans i2, (q.cell (p := ⟨bc, oc + k * 7 + 3, none⟩) hbb).trans i3, (q.cell (p := ⟨bc, oc + k * 7 + 4, none⟩) hbb).trans i4, (q.cell (p := ⟨bc, oc + k * 7 + 5, none⟩) hbb).trans i5, (q.cell (p := ⟨bc, oc + k * 7 + 6, none⟩) hbb).trans i6⟩
  refine wp_region_x (l := []) (S := fun w' => w'.cell? ⟨w1.heap.size, 3, none⟩ = some (.slice (some ⟨bc, oc, none⟩) k1 d1) ∧ w'.cell? ⟨bc, oc + k * 7, none⟩ = some (.int .i64 id) ∧ w'.cell? ⟨bc, oc + k * 7 + 1, none⟩ = some (.int .i64 sq) ∧ w'.cell? ⟨bc, oc + k * 7 + 2, none⟩ = some (.int .i64 xt) ∧ w'.cell? ⟨bc, oc + k * 7 + 3, none⟩ = some (.int .i64 xc) ∧ w'.cell? ⟨bc, oc + k * 7 + 4, none⟩ = some (.string xx) ∧ w'.cell? ⟨bc, oc + k * 7 + 5, none⟩ = some (.int .i64 xn) ∧ w'.cell? ⟨bc, oc + k * 7 + 6, none⟩ = some (.slice Yc mc_ dc_)) (by kernel_rfl) (hsG _ (Below.refl _ wr).drew) (fun hS => ?_)
  refine wpAnyX_tk (i := 0) (v := ?xv0u) rfl (Or.inl ⟨by rfl, ?xh0u⟩) ?xr0u; (case xh0u => (intro w hSw; (try dsimp only at hSw); go_simp; (try with_reducible rfl))); (try simp only [Act.put, List.setIfInBounds_toArray, List.set_cons_zero, List.set_cons_succ, List.getElem_toArray, List.getElem_cons_zero, List.getElem_cons_succ])
  refine wpAnyX_tk (i := 1) (v := ?xv1u) rfl (Or.inl ⟨by rfl, ?xh1u⟩) ?xr1u; (case xh1u => (intro w hSw; (try dsimp only at hSw); go_simp; (try with_reducible rfl))); (try simp only [Act.put, List.setIfInBounds_toArray, List.set_cons_zero, List.set_cons_succ, List.getElem_toArray, List.getElem_cons_zero, List.getElem_cons_succ])
  refine wpAnyX_tk (i := 2) (v := ?xv2u) rfl (Or.inl ⟨by rfl, ?xh2u⟩) ?xr2u; (case xh2u => (intro w hSw; (try dsimp only at hSw); go_simp; (try with_reducible rfl))); (try simp only [Act.put, List.setIfInBounds_toArray, List.set_cons_zero, List.set_cons_succ, List.getElem_toArray, List.getElem_cons_zero, List.getElem_cons_succ])
  refine wpAnyX_tk (i := 3) (v := ?xv3u) rfl (Or.inl ⟨by rfl, ?xh3u⟩) ?xr3u; (case xh3u => (intro w hSw; (try dsimp only at hSw); go_simp; (try with_reducible rfl))); (try simp only [Act.put, List.setIfInBounds_toArray, List.set_cons_zero, List.set_cons_succ, List.getElem_toArray, List.getElem_cons_zero, List.getElem_cons_succ])
  have HSG := hide hsG
  clear hsG hS
  refine wpX_startA (n := 4 + left1 false) (listed := (fun b_ => #[true, true, true, true, false, false, false, b_, false]) false) (j := 7) (d := 7) (t := 54) (z := #[.int .i64 0, .int .i64 0, .int .i64 0, .int .i64 0, .string { data := #[] }, .int .i64 0, .slice none 0 0]) ?al1u ?alnu ?allu (fun al1 => ?alru); (case al1u => exact ⟨⟨_, rfl, rfl, rfl, fun a w => by simp [go_sem, execOp]⟩⟩); (case alnu => kernel_rfl); (case allu => kernel_rfl)
  refine' wpX_phaseA' (f := 3) (i := 4) (L := (fun b_ => #[true, true, true, true, false, false, false, b_, false])) (L' := (fun b_ => #[true, true, true, true, true, false, false, b_, false])) (base := wr.heap.size) (G := (fun w' => Below wr.heap.size wr w')) (x := undef) al1 ?an4u ?al4u ?aa4u ?ar4u ?ai4u ?ag4u ?ae14u ?ae34u ?ap14u HSG.out (fun w' o q => q.alloc q.size o) (fun w' q => q.size) ?aw4u ?am4u; (case an4u => rfl); (case al4u => rfl); (case aa4u => rfl); (case ar4u => kernel_rfl); (case ai4u => rfl); (case ag4u => rfl); (case ae14u => rfl); (case ae34u => (intros; rfl)); (case ap14u => (intros; rfl))
  (case aw4u => exact (Below.refl _ wr).drew)
  intro b_ x_ w5 hG_ hx_ K_ hK_; (try simp only [Act.put, List.setIfInBounds_toArray, List.set_cons_zero, List.set_cons_succ, List.getElem_toArray, List.getElem_cons_zero, List.getElem_cons_succ])
  go_wp2_with fail
  refine (HP.out _).mono ?_
  rintro e w6 ⟨rfl, hw_⟩
  have hbp : Below w5.heap.size w5 w6 := hw_ ▸ Below.refl _ _
  clear hw_
  go_wp2_with fail
  have q6 : Below wr.heap.size wr w6 := bstep hG_ hbp
  have hS6 := HSG.out _ q6
  refine hK_.out _ _ (Or.inr hS6) ?_
  clear hK_ K_ hG_
  refine' wpX_takeA' (f := 2) (i := 5) (v := ?xv5u) (L := (fun b_ => #[true, true, true, true, true, false, false, b_, false])) (L' := (fun b_ => #[true, true, true, true, true, true, false, b_, false])) ?tan5u ?tal5u rfl (by kernel_rfl) ?tar5u (by kernel_rfl) ?tae35u (fun _ _ _ h => h) (Or.inl ⟨by rfl, ?xh5u⟩) ?taw5u ?xr5u; (case tan5u => rfl); (case tal5u => rfl); (case tar5u => kernel_rfl); (case tae35u => (intros; rfl)); (case taw5u => assumption); (case xh5u => (intro w hSw; (try dsimp only at hSw); go_simp; (try with_reducible rfl))); (try simp only [Act.put, List.setIfInBounds_toArray, List.set_cons_zero, List.set_cons_succ, List.getElem_toArray, List.getElem_cons_zero, List.getElem_cons_succ])
  refine' wpX_takeA' (f := 1) (i := 6) (v := ?xv6u) (L := (fun b_ => #[true, true, true, true, true, true, false, b_, false])) (L' := (fun b_ => #[true, true, true, true, true, true, true, b_, false])) ?tan6u ?tal6u rfl (by kernel_rfl) ?tar6u (by kernel_rfl) ?tae36u (fun _ _ _ h => h) (Or.inl ⟨by rfl, ?xh6u⟩) ?taw6u ?xr6u; (case tan6u => rfl); (case tal6u => rfl); (case tar6u => kernel_rfl); (case tae36u => (intros; rfl)); (case taw6u => assumption); (case xh6u => (intro w hSw; (try dsimp only at hSw); go_simp; (try with_reducible rfl))); (try simp only [Act.put, List.setIfInBounds_toArray, List.set_cons_zero, List.set_cons_succ, List.getElem_toArray, List.getElem_cons_zero, List.getElem_cons_succ])
  refine' wpX_layA' (f := 1) (L := (fun b_ => #[true, true, true, true, true, true, true, b_, false])) (base := wr.heap.size) (G := (fun w' => Below w6.heap.size w6 w')) (b := b_) (x := x_) al1 ?anLu ?alLu ?aaLu ?arLu ?ae1Lu ?ap1Lu (fun w' q => HSG.out w' (bstep q6 q)) (fun w' o q => q.alloc q.size o) (fun w' q => Nat.le_trans q6.size q.size) ?awLu (hx_.bl hbp) ?amLu; (case anLu => rfl); (case alLu => rfl); (case aaLu => rfl); (case arLu => kernel_rfl); (case ae1Lu => rfl); (case ap1Lu => (intros; rfl))
  (case awLu => exact Below.refl _ w6)
  clear hx_ x_ b_ hS6
  intro g7 w7 hb7 hg7 G7
  have q7 : Below wr.heap.size wr w7 := bstep q6 hb7
  clear al1 hb7 q6 hbp
  (try clear cG7 fG7); have cG7 := G7.cell; have fG7 := G7.frozen
  refine wpAnyX_one (i := 8) (by kernel_rfl) rfl (by rfl) (fun K hK => ?_); (try simp only [List.getElem_toArray, List.getElem_cons_zero, List.getElem_cons_succ])
  go_wp2_with fail
  refine hK.out _ _ (Or.inr (HSG.out _ (below_set (below_set (below_set (below_set (below_set (below_set (below_set q7 hg7 0 _) hg7 1 _) hg7 2 _) hg7 3 _) hg7 4 _) hg7 5 _) hg7 6 _))) (fun hS => ?_)
  clear hK K hS cG7 fG7 HSG
  refine wpAnyX_done (by kernel_rfl) ?_ _
  obtain ⟨Z0, gr1, sz1⟩ := whole_cli (Value.int .i64 id) (Value.int .i64 sq) (Value.int .i64 xt) (Value.int .i64 xc) (Value.string xx) (Value.int .i64 xn) (Value.slice Yc mc_ dc_) G7
  have q8 := below_grow q7 gr1 q7.size hg7
  replace D1 := grown_blk (D1.below' q7) gr1 (by omega)
  replace S1 := (S1.bl q7).grown G7 gr1
  replace C1 := C1.new_ q7 gr1 hg7
  obtain ⟨w8, hw8⟩ : ∃ w8, w8 = (((((((w7.setCell ⟨g7, 0, none⟩ (Value.int .i64 id)).setCell ⟨g7, 1, none⟩ (Value.int .i64 sq)).setCell ⟨g7, 2, none⟩ (Value.int .i64 xt)).setCell ⟨g7, 3, none⟩ (Value.int .i64 xc)).setCell ⟨g7, 4, none⟩ (Value.string xx)).setCell ⟨g7, 5, none⟩ (Value.int .i64 xn)).setCell ⟨g7, 6, none⟩ (Value.slice Yc mc_ dc_)) := ⟨_, rfl⟩
  rw [← hw8] at q8 Z0 D1 S1 C1 ⊢
  clear hw8 gr1 sz1 G7 q7 i0 i1 i2 i3 i4 i5 i6 hbb hg7 HCX
  replace q0 := bstep q0 q8
  clear q8 HP
  have hv1 := D1.lt
  have hv2 := Z0.lt
  have hdz : w1.heap.size ≠ g7 := blk_ne D1 Z0 (by decide)
  go_wp2_with fail
  have N1 := hN.bl q0
  have hsG : ∀ w', Below w8.heap.size w8 w' → (w'.cell? ⟨w1.heap.size, 0, none⟩ = some (.int .i64 now) ∧ w'.cell? ⟨w1.heap.size, 1, none⟩ = some (.slice A1 n1 c1) ∧ w'.cell? ⟨w1.heap.size, 2, none⟩ = some (.int .i64 next) ∧ w'.cell? ⟨w1.heap.size, 3, none⟩ = some (.slice (some ⟨bc, oc, none⟩) k1 d1) ∧ w'.cell? ⟨g7, 0, none⟩ = some (.int .i64 id) ∧ w'.cell? ⟨g7, 1, none⟩ = some (.int .i64 sq)) := fun w' q => ⟨(D1.below' q).cell 0, (D1.below' q).cell 1, (D1.below' q).cell 2, (D1.below' q).cell 3, (Z0.below' q).cell 0, (Z0.below' q).cell 1⟩
  refine wp_region_x (l := []) (S := fun w' => w'.cell? ⟨w1.heap.size, 0, none⟩ = some (.int .i64 now) ∧ w'.cell? ⟨w1.heap.size, 1, none⟩ = some (.slice A1 n1 c1) ∧ w'.cell? ⟨w1.heap.size, 2, none⟩ = some (.int .i64 next) ∧ w'.cell? ⟨w1.heap.size, 3, none⟩ = some (.slice (some ⟨bc, oc, none⟩) k1 d1) ∧ w'.cell? ⟨g7, 0, none⟩ = some (.int .i64 id) ∧ w'.cell? ⟨g7, 1, none⟩ = some (.int .i64 sq)) (by kernel_rfl) (hsG _ (Below.refl _ w8).drew) (fun hS => ?_)
  refine wpAnyX_tk (i := 0) (v := ?xv0v) rfl (Or.inl ⟨by rfl, ?xh0v⟩) ?xr0v; (case xh0v => (intro w hSw; (try dsimp only at hSw); go_simp; (try with_reducible rfl))); (try simp only [Act.put, List.setIfInBounds_toArray, List.set_cons_zero, List.set_cons_succ, List.getElem_toArray, List.getElem_cons_zero, List.getElem_cons_succ])
  refine wpAnyX_tk (i := 1) (v := ?xv1v) rfl (Or.inl ⟨by rfl, ?xh1v⟩) ?xr1v; (case xh1v => (intro w hSw; (try dsimp only at hSw); go_simp; (try with_reducible rfl))); (try simp only [Act.put, List.setIfInBounds_toArray, List.set_cons_zero, List.set_cons_succ, List.getElem_toArray, List.getElem_cons_zero, List.getElem_cons_succ])
  refine wpAnyX_tk (i := 2) (v := ?xv2v) rfl (Or.inl ⟨by rfl, ?xh2v⟩) ?xr2v; (case xh2v => (intro w hSw; (try dsimp only at hSw); go_simp; (try with_reducible rfl))); (try simp only [Act.put, List.setIfInBounds_toArray, List.set_cons_zero, List.set_cons_succ, List.getElem_toArray, List.getElem_cons_zero, List.getElem_cons_succ])
  refine wpAnyX_tk (i := 3) (v := ?xv3v) rfl (Or.inl ⟨by rfl, ?xh3v⟩) ?xr3v; (case xh3v => (intro w hSw; (try dsimp only at hSw); go_simp; (try with_reducible rfl))); (try simp only [Act.put, List.setIfInBounds_toArray, List.set_cons_zero, List.set_cons_succ, List.getElem_toArray, List.getElem_cons_zero, List.getElem_cons_succ])
  refine wpAnyX_tk (i := 4) (v := ?xv4v) rfl (Or.inl ⟨by rfl, ?xh4v⟩) ?xr4v; (case xh4v => (intro w hSw; (try dsimp only at hSw); go_simp; (try with_reducible rfl))); (try simp only [Act.put, List.setIfInBounds_toArray, List.set_cons_zero, List.set_cons_succ, List.getElem_toArray, List.getElem_cons_zero, List.getElem_cons_succ])
  refine wpAnyX_tk (i := 5) (v := ?xv5v) rfl (Or.inl ⟨by rfl, ?xh5v⟩) ?xr5v; (case xh5v => (intro w hSw; (try dsimp only at hSw); go_simp; (try with_reducible rfl))); (try simp only [Act.put, List.setIfInBounds_toArray, List.set_cons_zero, List.set_cons_succ, List.getElem_toArray, List.getElem_cons_zero, List.getElem_cons_succ])
  refine wpAnyX_tk (i := 6) (v := ?xv6v) rfl (Or.inl ⟨by rfl, ?xh6v⟩) ?xr6v; (case xh6v => (intro w hSw; (try dsimp only at hSw); go_simp; (try with_reducible rfl))); (try simp only [Act.put, List.setIfInBounds_toArray, List.set_cons_zero, List.set_cons_succ, List.getElem_toArray, List.getElem_cons_zero, List.getElem_cons_succ])
  refine wpAnyX_tk (i := 7) (v := ?xv7v) rfl (Or.inl ⟨by rfl, ?xh7v⟩) ?xr7v; (case xh7v => (intro w hSw; (try dsimp only at hSw); go_simp; (try with_reducible rfl))); (try simp only [Act.put, List.setIfInBounds_toArray, List.set_cons_zero, List.set_cons_succ, List.getElem_toArray, List.getElem_cons_zero, List.getElem_cons_succ])
  refine wpAnyX_tk (i := 8) (v := ?xv8v) rfl (Or.inl ⟨by rfl, ?xh8v⟩) ?xr8v; (case xh8v => (intro w hSw; (try dsimp only at hSw); go_simp; (try with_reducible rfl))); (try simp only [Act.put, List.setIfInBounds_toArray, List.set_cons_zero, List.set_cons_succ, List.getElem_toArray, List.getElem_cons_zero, List.getElem_cons_succ])
  refine wpAnyX_tk (i := 9) (v := ?xv9v) rfl (Or.inl ⟨by rfl, ?xh9v⟩) ?xr9v; (case xh9v => (intro w hSw; (try dsimp only at hSw); go_simp; (try with_reducible rfl))); (try simp only [Act.put, List.setIfInBounds_toArray, List.set_cons_zero, List.set_cons_succ, List.getElem_toArray, List.getElem_cons_zero, List.getElem_cons_succ])
  refine wpAnyX_tk (i := 12) (v := ?xv12v) rfl (Or.inl ⟨by rfl, ?xh12v⟩) ?xr12v; (case xh12v => (intro w hSw; (try dsimp only at hSw); go_simp; (try with_reducible rfl))); (try simp only [Act.put, List.setIfInBounds_toArray, List.set_cons_zero, List.set_cons_succ, List.getElem_toArray, List.getElem_cons_zero, List.getElem_cons_succ])
  have HSG := hide hsG
  clear hsG hS 
  refine wpX_start (n := 11 + left2 false false) (listed := (fun b_ c_ => #[true, true, true, true, true, true, true, true, true, true, false, false, true, false, false, false, false, false, false, b_, c_, false, false, false]) false false) (j1 := 19) (d1 := 8) (t1 := 32) (z1 := #[.int .i64 0, .slice none 0 0, .int .i64 0, .slice none 0 0]) (j2 := 20) (d2 := 9) (t2 := 37) (z2 := #[.int .i64 0, .string { data := #[] }, .int .i64 0, .slice none 0 0]) ?al1v ?al2v ?alnv ?allv (fun al1 al2 => ?alrv); (case al1v => exact ⟨⟨_, rfl, rfl, rfl, fun a w => by simp [go_sem, execOp]⟩⟩); (case al2v => exact ⟨⟨_, rfl, rfl, rfl, fun a w => by simp [go_sem, execOp]⟩⟩); (case alnv => kernel_rfl); (case allv => kernel_rfl)
  refine' wpX_phase0 (f := 10) (i := 10) (L := (fun b_ c_ => #[true, true, true, true, true, true, true, true, true, true, false, false, true, false, false, false, false, false, false, b_, c_, false, false, false])) (L' := (fun b_ c_ => #[true, true, true, true, true, true, true, true, true, true, true, false, true, false, false, false, false, false, false, b_, c_, false, false, false])) (base := w8.heap.size) (G := (fun w' => Below w8.heap.size w8 w')) (x := undef) (y := undef) al1 al2 ?an10v ?al10v ?aa10v ?ar10v ?ai10v ?ag10v ?ae110v ?ae210v ?ae310v ?ap110v ?ap210v HSG.out (fun w' o q => q.alloc q.size o) (fun w' q => q.size) ?aw10v ?am10v; (case an10v => rfl); (case al10v => rfl); (case aa10v => rfl); (case ar10v => kernel_rfl); (case ai10v => rfl); (case ag10v => rfl); (case ae110v => (intros; rfl)); (case ae210v => (intros; rfl)); (case ae310v => (intros; rfl)); (case ap110v => (intros; rfl)); (case ap210v => (intros; rfl))
  (case aw10v => exact (Below.refl _ w8).drew)
  intro b_ c_ x_ y_ wp1 hG_ hx_ hy_ hxy_ K_ hK_; (try simp only [Act.put, List.setIfInBounds_toArray, List.set_cons_zero, List.set_cons_succ, List.getElem_toArray, List.getElem_cons_zero, List.getElem_cons_succ])
  go_wp2_with fail
  refine (HP9.out _).mono ?_
  rintro e w3 ⟨rfl, hw_⟩
  have hbp : Below wp1.heap.size wp1 w3 := hw_ ▸ Below.refl _ _
  clear hw_
  go_wp2_with fail
  have qp : Below w8.heap.size w8 w3 := bstep hG_ hbp
  have hSp := HSG.out _ qp
  refine hK_.out _ _ (Or.inr hSp) ?_
  clear hK_ K_ hG_
  refine' wpX_take' (f := 9) (i := 11) (v := ?xv11v) (L := (fun b_ c_ => #[true, true, true, true, true, true, true, true, true, true, true, false, true, false, false, false, false, false, false, b_, c_, false, false, false])) (L' := (fun b_ c_ => #[true, true, true, true, true, true, true, true, true, true, true, true, true, false, false, false, false, false, false, b_, c_, false, false, false])) ?tan11v ?tal11v rfl (by kernel_rfl) ?tar11v (by kernel_rfl) ?tae311v (fun _ _ _ h => h) (Or.inl ⟨by rfl, ?xh11v⟩) ?taw11v ?xr11v; (case tan11v => rfl); (case tal11v => rfl); (case tar11v => kernel_rfl); (case tae311v => (intros; rfl)); (case taw11v => assumption); (case xh11v => (intro w hSw; (try dsimp only at hSw); go_simp; (try with_reducible rfl))); (try simp only [Act.put, List.setIfInBounds_toArray, List.set_cons_zero, List.set_cons_succ, List.getElem_toArray, List.getElem_cons_zero, List.getElem_cons_succ])
  refine' wpX_take' (f := 8) (i := 13) (v := ?xv13v) (L := (fun b_ c_ => #[true, true, true, true, true, true, true, true, true, true, true, true, true, false, false, false, false, false, false, b_, c_, false, false, false])) (L' := (fun b_ c_ => #[true, true, true, true, true, true, true, true, true, true, true, true, true, true, false, false, false, false, false, b_, c_, false, false, false])) ?tan13v ?tal13v rfl (by kernel_rfl) ?tar13v (by kernel_rfl) ?tae313v (fun _ _ _ h => h) (Or.inl ⟨by rfl, ?xh13v⟩) ?taw13v ?xr13v; (case tan13v => rfl); (case tal13v => rfl); (case tar13v => kernel_rfl); (case tae313v => (intros; rfl)); (case taw13v => assumption); (case xh13v => (intro w hSw; (try dsimp only at hSw); go_simp; (try with_reducible rfl))); (try simp only [Act.put, List.setIfInBounds_toArray, List.set_cons_zero, List.set_cons_succ, List.getElem_toArray, List.getElem_cons_zero, List.getElem_cons_succ])
  refine' wpX_phase' (f := 7) (i := 14) (L := (fun b_ c_ => #[true, true, true, true, true, true, true, true, true, true, true, true, true, true, false, false, false, false, false, b_, c_, false, false, false])) (L' := (fun b_ c_ => #[true, true, true, true, true, true, true, true, true, true, true, true, true, true, true, false, false, false, false, b_, c_, false, false, false])) (base := w8.heap.size) (G := (fun w' => Below w8.heap.size w8 w')) (b := b_) (c := c_) (x := x_) (y := y_) al1 al2 ?an14v ?al14v ?aa14v ?ar14v ?ai14v ?ag14v ?ae114v ?ae214v ?ae314v ?ap114v ?ap214v HSG.out (fun w' o q => q.alloc q.size o) (fun w' q => q.size) ?aw14v (hx_.bl hbp) (hy_.bl hbp) hxy_ ?am14v; (case an14v => rfl); (case al14v => rfl); (case aa14v => rfl); (case ar14v => kernel_rfl); (case ai14v => rfl); (case ag14v => rfl); (case ae114v => (intros; rfl)); (case ae214v => (intros; rfl)); (case ae314v => (intros; rfl)); (case ap114v => (intros; rfl)); (case ap214v => (intros; rfl))
  (case aw14v => exact qp)
  clear hx_ hy_ hxy_ x_ y_ b_ c_ hbp
  intro b_ c_ x_ y_ wp2 hG_ hx_ hy_ hxy_ K_ hK_; (try simp only [Act.put, List.setIfInBounds_toArray, List.set_cons_zero, List.set_cons_succ, List.getElem_toArray, List.getElem_cons_zero, List.getElem_cons_succ])
  go_wp2_with fail
  refine (HDO.out _ _ _ _ _ _ _ (S1.bl hG_) (C1.bl hG_) (N1.bl hG_)).mono ?_
  rintro e w6 ⟨A2, n2, c2, B2, k2, d2, Y2, m2, o2, rfl, S6, C6, T6, hbp⟩
  go_wp2_with fail
  have qp : Below w8.heap.size w8 w6 := bstep hG_ hbp
  have hSp := HSG.out _ qp
  refine hK_.out _ _ (Or.inr hSp) ?_
  clear hK_ K_ hG_
  refine' wpX_take' (f := 6) (i := 15) (v := ?xv15v) (L := (fun b_ c_ => #[true, true, true, true, true, true, true, true, true, true, true, true, true, true, true, false, false, false, false, b_, c_, false, false, false])) (L' := (fun b_ c_ => #[true, true, true, true, true, true, true, true, true, true, true, true, true, true, true, true, false, false, false, b_, c_, false, false, false])) ?tan15v ?tal15v rfl (by kernel_rfl) ?tar15v (by kernel_rfl) ?tae315v (fun _ _ _ h => h) (Or.inl ⟨by rfl, ?xh15v⟩) ?taw15v ?xr15v; (case tan15v => rfl); (case tal15v => rfl); (case tar15v => kernel_rfl); (case tae315v => (intros; rfl)); (case taw15v => assumption); (case xh15v => (intro w hSw; (try dsimp only at hSw); go_simp; (try with_reducible rfl))); (try simp only [Act.put, List.setIfInBounds_toArray, List.set_cons_zero, List.set_cons_succ, List.getElem_toArray, List.getElem_cons_zero, List.getElem_cons_succ])
  refine' wpX_take' (f := 5) (i := 16) (v := ?xv16v) (L := (fun b_ c_ => #[true, true, true, true, true, true, true, true, true, true, true, true, true, true, true, true, false, false, false, b_, c_, false, false, false])) (L' := (fun b_ c_ => #[true, true, true, true, true, true, true, true, true, true, true, true, true, true, true, true, true, false, false, b_, c_, false, false, false])) ?tan16v ?tal16v rfl (by kernel_rfl) ?tar16v (by kernel_rfl) ?tae316v (fun _ _ _ h => h) (Or.inl ⟨by rfl, ?xh16v⟩) ?taw16v ?xr16v; (case tan16v => rfl); (case tal16v => rfl); (case tar16v => kernel_rfl); (case tae316v => (intros; rfl)); (case taw16v => assumption); (case xh16v => (intro w hSw; (try dsimp only at hSw); go_simp; (try with_reducible rfl))); (try simp only [Act.put, List.setIfInBounds_toArray, List.set_cons_zero, List.set_cons_succ, List.getElem_toArray, List.getElem_cons_zero, List.getElem_cons_succ])
  refine' wpX_take' (f := 4) (i := 17) (v := ?xv17v) (L := (fun b_ c_ => #[true, true, true, true, true, true, true, true, true, true, true, true, true, true, true, true, true, false, false, b_, c_, false, false, false])) (L' := (fun b_ c_ => #[true, true, true, true, true, true, true, true, true, true, true, true, true, true, true, true, true, true, false, b_, c_, false, false, false])) ?tan17v ?tal17v rfl (by kernel_rfl) ?tar17v (by kernel_rfl) ?tae317v (fun _ _ _ h => h) (Or.inl ⟨by rfl, ?xh17v⟩) ?taw17v ?xr17v; (case tan17v => rfl); (case tal17v => rfl); (case tar17v => kernel_rfl); (case tae317v => (intros; rfl)); (case taw17v => assumption); (case xh17v => (intro w hSw; (try dsimp only at hSw); go_simp; (try with_reducible rfl))); (try simp only [Act.put, List.setIfInBounds_toArray, List.set_cons_zero, List.set_cons_succ, List.getElem_toArray, List.getElem_cons_zero, List.getElem_cons_succ])
  refine' wpX_take' (f := 3) (i := 18) (v := ?xv18v) (L := (fun b_ c_ => #[true, true, true, true, true, true, true, true, true, true, true, true, true, true, true, true, true, true, false, b_, c_, false, false, false])) (L' := (fun b_ c_ => #[true, true, true, true, true, true, true, true, true, true, true, true, true, true, true, true, true, true, true, b_, c_, false, false, false])) ?tan18v ?tal18v rfl (by kernel_rfl) ?tar18v (by kernel_rfl) ?tae318v (fun _ _ _ h => h) (Or.inl ⟨by rfl, ?xh18v⟩) ?taw18v ?xr18v; (case tan18v => rfl); (case tal18v => rfl); (case tar18v => kernel_rfl); (case tae318v => (intros; rfl)); (case taw18v => assumption); (case xh18v => (intro w hSw; (try dsimp only at hSw); go_simp; (try with_reducible rfl))); (try simp only [Act.put, List.setIfInBounds_toArray, List.set_cons_zero, List.set_cons_succ, List.getElem_toArray, List.getElem_cons_zero, List.getElem_cons_succ])
  refine' wpX_lay' (f := 3) (L := (fun b_ c_ => #[true, true, true, true, true, true, true, true, true, true, true, true, true, true, true, true, true, true, true, b_, c_, false, false, false])) (base := w8.heap.size) (G := (fun w' => Below w6.heap.size w6 w')) (b := b_) (c := c_) (x := x_) (y := y_) al1 al2 ?anLv ?alLv ?aaLv ?arLv ?ae1Lv ?ae2Lv ?ap1Lv ?ap2Lv (fun w' q => HSG.out w' (bstep qp q)) (fun w' o q => q.alloc q.size o) (fun w' q => Nat.le_trans qp.size q.size) ?awLv (hx_.bl hbp) (hy_.bl hbp) hxy_ ?amLv; (case anLv => rfl); (case alLv => rfl); (case aaLv => rfl); (case arLv => kernel_rfl); (case ae1Lv => (intros; rfl)); (case ae2Lv => (intros; rfl)); (case ap1Lv => (intros; rfl)); (case ap2Lv => (intros; rfl))
  (case awLv => exact Below.refl _ w6)
  clear hx_ hy_ hxy_ x_ y_ b_ c_ hSp
  intro g1 g2 w7 hb7 hg1 G1 hg2 G2 hgg
  have q7 : Below w8.heap.size w8 w7 := bstep qp hb7
  clear al1 al2
  (try clear cG1 fG1); have cG1 := G1.cell; have fG1 := G1.frozen
  refine wpAnyX_one (i := 21) (by kernel_rfl) rfl (by rfl) (fun K hK => ?_); (try simp only [List.getElem_toArray, List.getElem_cons_zero, List.getElem_cons_succ])
  go_wp2_with fail
  refine hK.out _ _ (Or.inr (HSG.out _ (below_set (below_set (below_set (below_set q7 hg1 0 _) hg1 1 _) hg1 2 _) hg1 3 _))) (fun hS => ?_)
  clear hK K hS cG1 fG1
  have F0 := G2.far (p := ⟨g1, 0, none⟩) (by simpa using hgg.symm) (.int .i64 now)
  have F1 := F0.far (p := ⟨g1, 1, none⟩) (by simpa using hgg.symm) (.slice A2 n2 c2)
  have F2 := F1.far (p := ⟨g1, 2, none⟩) (by simpa using hgg.symm) (.int .i64 next)
  have F3 := F2.far (p := ⟨g1, 3, none⟩) (by simpa using hgg.symm) (.slice B2 k2 d2)
  (try clear cF3 fF3); have cF3 := F3.cell; have fF3 := F3.frozen
  refine wpAnyX_one (i := 22) (by kernel_rfl) rfl (by rfl) (fun K hK => ?_); (try simp only [List.getElem_toArray, List.getElem_cons_zero, List.getElem_cons_succ])
  go_wp2_with fail
  refine hK.out _ _ (Or.inr (HSG.out _ (below_set (below_set (below_set (below_set (below_set (below_set (below_set (below_set q7 hg1 0 _) hg1 1 _) hg1 2 _) hg1 3 _) hg2 0 _) hg2 1 _) hg2 2 _) hg2 3 _))) (fun hS => ?_)
  replace hS := hS.resolve_left (by decide)
  clear hK K cF3 fF3
  refine wpAnyX_pure (i := 23) (v := ?xv23v) rfl (by kernel_rfl) (Or.inl ⟨by rfl, ?xh23v⟩) (Or.inr (by assumption)) ?xr23v; (case xh23v => (intro w; go_simp; (try with_reducible rfl))); (try simp only [Act.put, List.setIfInBounds_toArray, List.set_cons_zero, List.set_cons_succ, List.getElem_toArray, List.getElem_cons_zero, List.getElem_cons_succ])
  clear hS
  refine wpAnyX_done (by kernel_rfl) ?_ _
  clear F0 F1 F2 F3
  obtain ⟨X1, gr1, sz1⟩ := whole_mach (Value.int .i64 now) (Value.slice A2 n2 c2) (Value.int .i64 next) (Value.slice B2 k2 d2) G1
  have Y1 := grown_blk G2 gr1 hgg.symm
  obtain ⟨X2, gr2, sz2⟩ := whole_reply (Value.int .i64 10) (Value.string { data := #[] }) (Value.int .i64 0) (Value.slice Y2 m2 o2) Y1
  have X1' := grown_blk X1 gr2 hgg
  have q8 := below_grow (below_grow q7 gr1 q7.size hg1) gr2 (by rw [sz1]; exact q7.size) hg2
  have S8 := ((S6.bl hb7).grown G1 gr1).grown Y1 gr2
  have C8 := ((C6.bl hb7).grown G1 gr1).grown Y1 gr2
  have T8 := ((T6.bl hb7).grown G1 gr1).grown Y1 gr2
  have D18 := grown_blk (grown_blk (D1.below' q7) gr1 (by omega)) gr2 (by omega)
  have Z08 := grown_blk (grown_blk (Z0.below' q7) gr1 (by omega)) gr2 (by omega)
  have S18 := ((S1.bl q7).grown G1 gr1).grown Y1 gr2
  have C18 := ((C1.bl q7).grown G1 gr1).grown Y1 gr2
  obtain ⟨wz, hw8⟩ : ∃ wz, wz = ((((((((w7.setCell ⟨g1, 0, none⟩ (Value.int .i64 now)).setCell ⟨g1, 1, none⟩ (Value.slice A2 n2 c2)).setCell ⟨g1, 2, none⟩ (Value.int .i64 next)).setCell ⟨g1, 3, none⟩ (Value.slice B2 k2 d2)).setCell ⟨g2, 0, none⟩ (Value.int .i64 10)).setCell ⟨g2, 1, none⟩ (Value.string { data := #[] })).setCell ⟨g2, 2, none⟩ (Value.int .i64 0)).setCell ⟨g2, 3, none⟩ (Value.slice Y2 m2 o2)) := ⟨_, rfl⟩
  rw [← hw8] at q8 X1' X2 S8 C8 T8 D18 Z08 S18 C18 ⊢
  clear hw8 gr1 gr2 sz1 sz2 Y1 X1 G1 G2 q7 hb7 S6 C6 T6
  have Z1 := X1'
  clear X1'
  replace q0 := bstep q0 q8
  have Z2 := X2
  have SX := S8; have CX := C8
  clear q8 HSG HDO D1 Z0 S1 C1 N1 T8 HP9 X2 S8 C8 hv1 hv2
  have D1 := D18; have Z0 := Z08; have S1 := S18; have C1 := C18
  clear D18 Z08 S18 C18
  have hv1 := D1.lt
  by_cases h1 : 1 < sq
  · have hwq := HW3.out h1
    have HD := hide (HD2.out h1)
    clear HD2 HW3
    (try clear cD1 fD1); have cD1 := D1.cell; have fD1 := D1.frozen; (try clear cZ0 fZ0); have cZ0 := Z0.cell; have fZ0 := Z0.frozen
    go_wp2_with fail
    refine (HD.out _ _ _ _ _ _ wz S1 C1 (hN.bl q0)).mono ?_
    rintro e w9 ⟨A3, n3, c3, B3, k3, d3, Y3, m3, o3, rfl, S3, C3, T3, hb9⟩
    have q9 : Below wz.heap.size wz ((w9.alloc (.cells #[.int .i64 (now), .slice A3 n3 c3, .int .i64 (next), .slice B3 k3 d3] 32)).alloc (.cells #[.int .i64 (10), .string { data := #[] }, .int .i64 (0), .slice Y3 m3 o3] 37)) := below_by
    replace D1 := D1.bl q9; replace Z1 := Z1.bl q9; replace Z2 := Z2.bl q9; replace S1 := S1.bl q9; replace C1 := C1.bl q9; replace SX := SX.bl q9; replace CX := CX.bl q9
    replace q0 := bstep q0 q9
    clear hb9 HD q9 S3 C3 T3 cD1 fD1 cZ0 fZ0 Z0
    (try clear cD1 fD1); have cD1 := D1.cell; have fD1 := D1.frozen; (try clear cZ1 fZ1); have cZ1 := Z1.cell; have fZ1 := Z1.frozen; (try clear cZ2 fZ2); have cZ2 := Z2.cell; have fZ2 := Z2.frozen
    go_wp2_with fail
    refine (HSM.out _ _ _ _ _ _ _ _ _ _ _ _ _ S1 SX C1 CX).mono ?_
    rintro e wy ⟨rfl, hby⟩
    have q1 := bstep q0 hby
    go_wp2_with fail
    go_ret
    exact ⟨rfl, q1⟩
  · have h1' : decide (1 < sq) = false := by simpa using h1
    clear HD2 HW3
    (try clear cZ0 fZ0); have cZ0 := Z0.cell; have fZ0 := Z0.frozen
    (try clear cD1 fD1); have cD1 := D1.cell; have fD1 := D1.frozen; (try clear cZ1 fZ1); have cZ1 := Z1.cell; have fZ1 := Z1.frozen; (try clear cZ2 fZ2); have cZ2 := Z2.cell; have fZ2 := Z2.frozen
    go_wp2_with fail
    refine (HSM.out _ _ _ _ _ _ _ _ _ _ _ _ _ S1 SX C1 CX).mono ?_
    rintro e wy ⟨rfl, hby⟩
    have q1 := bstep q0 hby
    go_wp2_with fail
    go_ret
    exact ⟨rfl, q1⟩
set_option maxRecDepth 100000 in
theorem orderTold_lifted (os : Os) (started : os.Started) (H : Type) (enc : TypeId × Value → H) :
  ReturnsInHanded {} Tryz.checked os 8 .any (fun w args => (Rows.orderToldSpec.pre enc Tryz.prog Tryz.f8 [] false w args ∧ laidMetH Tryz.prog laidN w) ∧ sizedMet enc Tryz.prog Tryz.f8 (OpenSpec.ofChange Rows.orderToldSpec) false w args) (Rows.orderToldSpec.post enc Tryz.prog Tryz.f8 false true false false) := by
  refine returnsInHanded_of_change_and (C := Tryz.checked) (X := fun w _ => laidMetH Tryz.prog laidN w) (fun _ _ _ hh h => h.of_heap hh) Tryz.own started (by kernel_rfl) Tryz.func8 (ChangeSpec.witness_shaped (enc := enc) (C := Tryz.checked) (os := os) (X := fun w _ => laidMetH Tryz.prog laidN w) false (World.doorLaid Tryz.prog 14 os) #[.slice none 0 0, .int .i64 0] 8 rfl (World.shaped_of_RefB (by kernel_rfl) (by kernel_rfl)) (by kernel_rfl) (by kernel_rfl) (by kernel_rfl) (door_met os _)) ?_
  intro W base args ds gs before hval0 hW hcnd hsz0 hL _
  have hsz : (DataW.weightsEach Tryz.prog (Tryz.f8.params.toList ++ Rows.orderToldSpec.plain.varTypes Tryz.prog) (ds ++ gs)).all (· ≤ reachBytes) = true := hsz0
  clear hsz0
  have hval : ∀ (j : Nat) t v, Tryz.f8.params[j]? = some t → args[j]? = some v → Value.okWide Tryz.prog W .any base t v := hval0
  have hW' := hW
  obtain ⟨p, q, hA0, hV, rfl, hfz, hnd⟩ := hW
  have hA : DataW.TrodAll enc Tryz.prog W 0 (fun _ => true) true Tryz.f8.params.toList args.toList ds p := hA0
  rw [Tryz.params8] at hA hval hsz
  obtain ⟨rfl, rfl⟩ := trodVars_none hV
  clear hA0 hval0 hcnd hV hfz hnd
  have hN := noth_of_laid hL
  obtain ⟨v0, v1, d0, d1, p0, p1, rfl, rfl, rfl, h0, h1⟩ := trodAll_two hA
  obtain ⟨A, n, c, l, rfl, hd, hS⟩ := open_deeds (hval 0 22 v0 rfl rfl) h0
  obtain ⟨k, rfl, rfl, rfl, w1⟩ := open_int Tryz.underlying3 (hval 1 3 v1 rfl rfl) h1
  refine (orderTold_walk A n c l k W hS hd (i64_bounds w1) hN).mono fun e W' ⟨he, hb⟩ => ?_
  subst he
  exact ⟨_, rfl, post_law Tryz.laidOut hW' rfl (by kernel_rfl) rfl Tryz.underlying4 (fun _ => rfl) (fun _ => rfl) (fun _ => rfl) hb⟩
set_option maxRecDepth 100000 in
theorem orderTold_f1 : (Rows.orderToldRow.inPlace == Tryz.pinned.checked.prog.inPlace 8) = true := by kernel_rfl
set_option maxRecDepth 100000 in
theorem orderTold_f2 : (Rows.orderToldRow.unfollowed == Tryz.pinned.checked.prog.unfollowed 8) = true := by kernel_rfl
set_option maxRecDepth 100000 in
theorem orderTold_f3 : (Rows.orderToldRow.recurses == Tryz.pinned.checked.prog.recurses 8) = true := by kernel_rfl
set_option maxRecDepth 100000 in
theorem orderTold_f4 : (Rows.orderToldRow.named == Tryz.pinned.checked.prog.varsNamed 8) = true := by kernel_rfl
set_option maxRecDepth 100000 in
theorem orderTold_facts : joinedFacts Tryz.pinned.checked.prog 8 Tryz.f8 Rows.orderToldSpec Rows.orderToldRow = true := by
  unfold joinedFacts
  rw [enterN, show (Rows.orderToldRow.lifted == Tryz.pinned.checked.prog.liftsFinal) = true from liftsN, laidN1, laidN2, heardN, show (Rows.orderToldRow.plainKeys == Tryz.pinned.checked.prog.plainKeys) = true from keysN, orderTold_f1, orderTold_f2, orderTold_f3, orderTold_f4]
  kernel_rfl
theorem orderTold_row : Rows.OrderToldSaid := OpenClaim.holds_of_wide 8 Tryz.f8 rfl rfl rfl rfl rfl rfl rfl ⟨rfl, rfl, rfl, rfl, rfl⟩ rfl rfl rfl rfl rfl (by kernel_rfl) Tryz.func8 orderTold_facts
  (of_decide_eq_true (by kernel_rfl)) (by unfold Func.isWrapper; first | (rw [if_pos (by decide +kernel)]; kernel_rfl) | (rw [if_neg (by decide +kernel)]; exact ⟨rfl, rfl⟩))
  (fun os started H enc _ => orderTold_lifted os started H enc)
set_option maxRecDepth 100000 in
theorem orderTold_goes : false = Rows.orderToldRow.goesBy Tryz.pinned.checked.prog := by kernel_rfl
set_option maxRecDepth 100000 in
theorem orderTold_looks : false = Tryz.pinned.checked.prog.looks [] := by kernel_rfl
set_option maxRecDepth 100000 in
theorem orderTold_holds : Rows.OrderToldCardSaid :=
  Claim7.holds_tied_plain_at .later [] [.data] true Rows.machineMayCard.stood.harness false
    orderTold_row (fun _ h => by cases h) (by kernel_rfl) (fun _ h => by cases h) orderTold_row_tie rfl ⟨rfl, rfl⟩ mainN rfl
    (fun f fn hf hfn => by
      obtain rfl : f = 8 := Option.some.inj ((show Tryz.prog.funcNamed "rostrum/rostrumkeep.OrderTold" = some 8 by kernel_rfl).symm.trans hf) |>.symm
      obtain rfl : fn = Tryz.f8 := (Option.some.inj (Tryz.func8.symm.trans hfn)).symm
      exact ⟨orderTold_looks, fun j t ht => by
        rw [Tryz.params8] at ht
        have hm := List.mem_of_getElem? (Array.getElem?_toList ▸ ht)
        simp only [List.mem_cons, List.not_mem_nil, or_false] at hm
        rcases hm with rfl | rfl <;> exact (show Tryz.prog.wantsStandIn _ = false by kernel_rfl)⟩)
    orderTold_goes
#print axioms orderTold_holds
end Go.Proofs.YtgpkgegpcgiokaaGreatDoor
