/- rostrumkeep.ClientsApart returns true for every input; client.nothing holds what its initialiser lays. -/
import Derived.Test.YtgpkgegpcgiokaaGreatDoorMachE
import Derived.Test.YtgpkgegpcgiokaaGreatDoorLaidN
import Derived.Test.YtgpkgegpcgiokaaGreatDoorMachL
namespace Go.Proofs.YtgpkgegpcgiokaaGreatDoor
set_option linter.all false
open Go.ChangeShapes Go.WideShapes Go.ChangeAt Go.RowKit
set_option maxRecDepth 100000 in
set_option maxHeartbeats 16000000 in
theorem clientsApart_walk (A : Option Addr) (n c : Nat) (l : List DeedD) (d : DeedD) (w : World) (hS : Sl w 8 A n c (deedRows l)) (hd : ∀ d ∈ l, d.ok) (hdd : d.ok) (hN : Noth w) :
    Calls Tryz.prog 9 #[.slice A n c, .agg d.cells.toArray] w fun e w' => e = .returned (.bool true) ∧ Below w.heap.size w w' := by
  have HF := hide (fun w' (hb : Below w.heap.size w w') => opened_any A n c l w' (hS.below hb) hd (hN.bl hb))
  have hinv := opened_inv l
  have hpos := opened_pos l
  generalize openedM l = m at *
  have hok := hinv.ok
  have p0 := picked_lo d.client m.clis.length (by omega)
  have p1 := picked_hi d.client m.clis.length (by omega)
  have hp := fun w => picked_any d.client m.clis.length w hdd.1.1 hdd.1.2 (by omega) (by have := hok.few; omega)
  obtain ⟨k, hk⟩ : ∃ k : Nat, (k : Int) = picked d.client m.clis.length := ⟨(picked d.client m.clis.length).toNat, by omega⟩
  rw [← hk] at p0 p1 hp
  have hkl : k < m.clis.length := by omega
  have hmk := fun w => CommandM_any d.raw hdd.2.2.2 w
  have hcm := cmd_cc d.raw
  have hsqb := hinv.seq _ (List.getElem_mem hkl)
  have hsq0 := (hok.cli _ (List.getElem_mem hkl)).seq0
  obtain ⟨a1, okx⟩ := next_plan hok hkl rfl (by omega) hcm
  have hn0 := hok.sto.now0
  have hn1 := hok.sto.now1
  have hDo := fun A1 n1 c1 B1 k1 d1 w' hE hC hN => DoM_any hok _ _ _ a1 (by omega) (by omega) A1 B1 n1 c1 k1 d1 w' hE hC hN
  have hAp := fun A n c w h => Apply_may hok.sto m.now (cmdR d.raw) _ (apply_self hok.sto hn0 (Int.le_refl _) hcm) hn0 (by omega) A n c w h
  obtain ⟨hj, hat⟩ := made_here (m := m) (cm := cmdR d.raw) hkl (id := m.clis[k].id) (s := m.clis[k].seq + 1)
  have hlen : (madeM m k m.clis[k].id (m.clis[k].seq + 1) (cmdR d.raw)).clis.length = m.clis.length := by show (m.clis.set k _).length = _; simp
  have hoth : ∀ j (h1 : j < m.clis.length) (h2 : j < (madeM m k m.clis[k].id (m.clis[k].seq + 1) (cmdR d.raw)).clis.length), j ≠ k → (madeM m k m.clis[k].id (m.clis[k].seq + 1) (cmdR d.raw)).clis[j] = m.clis[j] := fun j h1 h2 hne => by
    show (m.clis.set k _)[j]'(by simpa using h1) = _
    rw [List.getElem_set_ne (fun e => hne e.symm)]
  have hents : (madeM m k m.clis[k].id (m.clis[k].seq + 1) (cmdR d.raw)).ents = (doS m.now m.ents (cmdR d.raw)).1 := rfl
  have hnow : (madeM m k m.clis[k].id (m.clis[k].seq + 1) (cmdR d.raw)).now = m.now := rfl
  have hss := fun A B n m' c d' w ha hb => sameStore_eq m.now A B n m' c d' (doS m.now m.ents (cmdR d.raw)).1 w ha hb (by have := okx.sto.few; rw [hents] at this; omega)
  generalize hx : madeM m k m.clis[k].id (m.clis[k].seq + 1) (cmdR d.raw) = x at *
  generalize doS m.now m.ents (cmdR d.raw) = DS at *
  generalize cmdR d.raw = cm at *
  obtain ⟨es2, ⟨rc, rt, rn, rl⟩⟩ := DS
  obtain ⟨now, ents, next, clis⟩ := m
  obtain ⟨xnow, xents, xnext, xclis⟩ := x
  obtain ⟨ck, cy, cf, ct, cn⟩ := cm
  simp only at hents hnow hlen hoth hat hkl hj hDo hAp hsqb hsq0 p1 hp hpos hss
  subst hents; subst hnow
  have HSS := hide hss; have HOTH := hide hoth; have HAP := hide hAp
  have h4 : clis.length ≤ 4 := hok.few
  clear hss hoth hAp a1 okx hx hinv hok hcm hk
  generalize hcid : clis[k].id = id at *
  generalize hcsq : clis[k].seq = sq at *
  have hws : IntKind.i64.wrap (sq + 1) = sq + 1 := IntWalk.i64_in _ (by omega)
  have HATK := hide hat
  clear hat hsqb hsq0 hn0 hn1
  obtain ⟨dc, doff, dw, ⟨rk, ry, rf, rr, rx⟩⟩ := d
  simp only [cmdW, DeedD.cells] at hmk ⊢
  simp only at hp
  have HMK := hide hmk; have HDO := hide hDo; have HP := hide hp
  have HSR := hide (fun A B n m c d w' ha hb => sameReply_eq ⟨rc, rt, rn, rl⟩ ⟨rc, rt, rn, rl⟩ A B n m c d w' ha hb rfl)
  clear hmk hDo hp hd hdd
  have X0 := Blk.new w 26 #[.int .i64 dc, .int .i64 doff, .int .i64 dw, .int .i64 rk, .int .i64 ry, .int .i64 rf, .int .i64 rr, .string rx]
  go_enter Tryz.func9, Tryz.ntmps9
  go_wp2_with fail
  refine (HF.out _ below_by).mono ?_
  rintro e w1 ⟨A1, n1, c1, B1, k1, d1, rfl, S1, C1, hb1⟩
  have q : Below w.heap.size w w1 := below_by
  replace X0 := X0.bl hb1
  clear hb1 HF
  have hk1 : clis.length = k1 := C1.sl.len
  have hpk : ((clis.length : Nat) : Int) = (k1 : Int) := by omega
  rw [hpk] at HP
  have hn0 : ((k1 : Int) == 0) = false := by rw [beq_eq_false_iff_ne]; omega
  have D1 := Blk.new w1 32 #[.int .i64 (xnow), .slice A1 n1 c1, .int .i64 (next), .slice B1 k1 d1]; replace S1 := S1.al (.cells #[.int .i64 (xnow), .slice A1 n1 c1, .int .i64 (next), .slice B1 k1 d1] 32); replace C1 := C1.al (.cells #[.int .i64 (xnow), .slice A1 n1 c1, .int .i64 (next), .slice B1 k1 d1] 32); replace X0 := X0.al (.cells #[.int .i64 (xnow), .slice A1 n1 c1, .int .i64 (next), .slice B1 k1 d1] 32)
  have q0 : Below w.heap.size w (w1.alloc (.cells #[.int .i64 (xnow), .slice A1 n1 c1, .int .i64 (next), .slice B1 k1 d1] 32)) := below_by
  (try clear cD1 fD1); have cD1 := D1.cell; have fD1 := D1.frozen; (try clear cX0 fX0); have cX0 := X0.cell; have fX0 := X0.frozen
  go_wp2_with fail
  refine (HP.out _).mono ?_
  rintro e w' ⟨rfl, rfl⟩
  obtain ⟨wr, hwr⟩ : ∃ wr, wr = w1.alloc (.cells #[.int .i64 (xnow), .slice A1 n1 c1, .int .i64 (next), .slice B1 k1 d1] 32) := ⟨_, rfl⟩
  rw [← hwr] at S1 C1 X0 D1 q0 ⊢
  have hq1 := q.size
  clear hwr q cD1 fD1 cX0 fX0 HP
  obtain ⟨bc, oc, Yc, mc_, dc_, rfl, hbb, ⟨i0, i1, -, -, -, -, -⟩, -⟩ := C1.sl.at_ hkl
  rw [hcid] at i0
  rw [hcsq] at i1
  have hv1 := D1.lt
  have hx1 := X0.lt
  have hz1 : (0 : Int) ≤ (k : Int) := by omega
  have hz2 : (k : Int) < (k1 : Int) := by omega
  go_wp2_with fail
  have hsG : ∀ w', Below wr.heap.size wr w' → (w'.cell? ⟨w1.heap.size, 3, none⟩ = some (.slice (some ⟨bc, oc, none⟩) k1 d1) ∧ w'.cell? ⟨bc, oc + k * 7, none⟩ = some (.int .i64 id) ∧ w'.cell? ⟨bc, oc + k * 7 + 1, none⟩ = some (.int .i64 sq) ∧ w'.cell? ⟨w.heap.size, 3, none⟩ = some (.int .i64 rk) ∧ w'.cell? ⟨w.heap.size, 4, none⟩ = some (.int .i64 ry) ∧ w'.cell? ⟨w.heap.size, 5, none⟩ = some (.int .i64 rf) ∧ w'.cell? ⟨w.heap.size, 6, none⟩ = some (.int .i64 rr) ∧ w'.cell? ⟨w.heap.size, 7, none⟩ = some (.string rx)) := fun w' q => ⟨(D1.below' q).cell 3, (q.cell (p := ⟨bc, oc + k * 7, none⟩) hbb).trans i0, (q.cell (p := ⟨bc, oc + k * 7 + 1, none⟩) hbb).trans i1, (X0.below' q).cell 3, (X0.below' q).cell 4, (X0.below' q).cell 5, (X0.below' q).cell 6, (X0.below' q).cell 7⟩
  refine wp_region_x (l := []) (S := fun w' => w'.cell? ⟨w1.heap.size, 3, none⟩ = some (.slice (some ⟨bc, oc, none⟩) k1 d1) ∧ w'.cell? ⟨bc, oc + k * 7, none⟩ = some (.int .i64 id) ∧ w'.cell? ⟨bc, oc + k * 7 + 1, none⟩ = some (.int .i64 sq) ∧ w'.cell? ⟨w.heap.size, 3, none⟩ = some (.int .i64 rk) ∧ w'.cell? ⟨w.heap.size, 4, none⟩ = some (.int .i64 ry) ∧ w'.cell? ⟨w.heap.size, 5, none⟩ = some (.int .i64 rf) ∧ w'.cell? ⟨w.heap.size, 6, none⟩ = some (.int .i64 rr) ∧ w'.cell? ⟨w.heap.size, 7, none⟩ = some (.string rx)) (by kernel_rfl) (hsG _ (Below.refl _ wr).drew) (fun hS => ?_)
  refine wpAnyX_tk (i := 0) (v := ?xv0u) rfl (Or.inl ⟨by rfl, ?xh0u⟩) ?xr0u; (case xh0u => (intro w hSw; (try dsimp only at hSw); go_simp; (try with_reducible rfl))); (try simp only [Act.put, List.setIfInBounds_toArray, List.set_cons_zero, List.set_cons_succ, List.getElem_toArray, List.getElem_cons_zero, List.getElem_cons_succ])
  refine wpAnyX_tk (i := 1) (v := ?xv1u) rfl (Or.inl ⟨by rfl, ?xh1u⟩) ?xr1u; (case xh1u => (intro w hSw; (try dsimp only at hSw); go_simp; (try with_reducible rfl))); (try simp only [Act.put, List.setIfInBounds_toArray, List.set_cons_zero, List.set_cons_succ, List.getElem_toArray, List.getElem_cons_zero, List.getElem_cons_succ])
  refine wpAnyX_tk (i := 2) (v := ?xv2u) rfl (Or.inl ⟨by rfl, ?xh2u⟩) ?xr2u; (case xh2u => (intro w hSw; (try dsimp only at hSw); go_simp; (try with_reducible rfl))); (try simp only [Act.put, List.setIfInBounds_toArray, List.set_cons_zero, List.set_cons_succ, List.getElem_toArray, List.getElem_cons_zero, List.getElem_cons_succ])
  refine wpAnyX_tk (i := 3) (v := ?xv3u) rfl (Or.inl ⟨by rfl, ?xh3u⟩) ?xr3u; (case xh3u => (intro w hSw; (try dsimp only at hSw); go_simp; (try with_reducible rfl))); (try simp only [Act.put, List.setIfInBounds_toArray, List.set_cons_zero, List.set_cons_succ, List.getElem_toArray, List.getElem_cons_zero, List.getElem_cons_succ])
  refine wpAnyX_tk (i := 4) (v := ?xv4u) rfl (Or.inl ⟨by rfl, ?xh4u⟩) ?xr4u; (case xh4u => (intro w hSw; (try dsimp only at hSw); go_simp; (try with_reducible rfl))); (try simp only [Act.put, List.setIfInBounds_toArray, List.set_cons_zero, List.set_cons_succ, List.getElem_toArray, List.getElem_cons_zero, List.getElem_cons_succ])
  refine wpAnyX_tk (i := 5) (v := ?xv5u) rfl (Or.inl ⟨by rfl, ?xh5u⟩) ?xr5u; (case xh5u => (intro w hSw; (try dsimp only at hSw); go_simp; (try with_reducible rfl))); (try simp only [Act.put, List.setIfInBounds_toArray, List.set_cons_zero, List.set_cons_succ, List.getElem_toArray, List.getElem_cons_zero, List.getElem_cons_succ])
  refine wpAnyX_tk (i := 6) (v := ?xv6u) rfl (Or.inl ⟨by rfl, ?xh6u⟩) ?xr6u; (case xh6u => (intro w hSw; (try dsimp only at hSw); go_simp; (try with_reducible rfl))); (try simp only [Act.put, List.setIfInBounds_toArray, List.set_cons_zero, List.set_cons_succ, List.getElem_toArray, List.getElem_cons_zero, List.getElem_cons_succ])
  refine wpAnyX_tk (i := 7) (v := ?xv7u) rfl (Or.inl ⟨by rfl, ?xh7u⟩) ?xr7u; (case xh7u => (intro w hSw; (try dsimp only at hSw); go_simp; (try with_reducible rfl))); (try simp only [Act.put, List.setIfInBounds_toArray, List.set_cons_zero, List.set_cons_succ, List.getElem_toArray, List.getElem_cons_zero, List.getElem_cons_succ])
  refine wpAnyX_tk (i := 8) (v := ?xv8u) rfl (Or.inl ⟨by rfl, ?xh8u⟩) ?xr8u; (case xh8u => (intro w hSw; (try dsimp only at hSw); go_simp; (try with_reducible rfl))); (try simp only [Act.put, List.setIfInBounds_toArray, List.set_cons_zero, List.set_cons_succ, List.getElem_toArray, List.getElem_cons_zero, List.getElem_cons_succ])
  refine wpAnyX_tk (i := 9) (v := ?xv9u) rfl (Or.inl ⟨by rfl, ?xh9u⟩) ?xr9u; (case xh9u => (intro w hSw; (try dsimp only at hSw); go_simp; (try with_reducible rfl))); (try simp only [Act.put, List.setIfInBounds_toArray, List.set_cons_zero, List.set_cons_succ, List.getElem_toArray, List.getElem_cons_zero, List.getElem_cons_succ])
  refine wpAnyX_tk (i := 10) (v := ?xv10u) rfl (Or.inl ⟨by rfl, ?xh10u⟩) ?xr10u; (case xh10u => (intro w hSw; (try dsimp only at hSw); go_simp; (try with_reducible rfl))); (try simp only [Act.put, List.setIfInBounds_toArray, List.set_cons_zero, List.set_cons_succ, List.getElem_toArray, List.getElem_cons_zero, List.getElem_cons_succ])
  refine wpAnyX_tk (i := 11) (v := ?xv11u) rfl (Or.inl ⟨by rfl, ?xh11u⟩) ?xr11u; (case xh11u => (intro w hSw; (try dsimp only at hSw); go_simp; (try with_reducible rfl))); (try simp only [Act.put, List.setIfInBounds_toArray, List.set_cons_zero, List.set_cons_succ, List.getElem_toArray, List.getElem_cons_zero, List.getElem_cons_succ])
  refine wpAnyX_tk (i := 12) (v := ?xv12u) rfl (Or.inl ⟨by rfl, ?xh12u⟩) ?xr12u; (case xh12u => (intro w hSw; (try dsimp only at hSw); go_simp; (try with_reducible rfl))); (try simp only [Act.put, List.setIfInBounds_toArray, List.set_cons_zero, List.set_cons_succ, List.getElem_toArray, List.getElem_cons_zero, List.getElem_cons_succ])
  refine wpAnyX_tk (i := 13) (v := ?xv13u) rfl (Or.inl ⟨by rfl, ?xh13u⟩) ?xr13u; (case xh13u => (intro w hSw; (try dsimp only at hSw); go_simp; (try with_reducible rfl))); (try simp only [Act.put, List.setIfInBounds_toArray, List.set_cons_zero, List.set_cons_succ, List.getElem_toArray, List.getElem_cons_zero, List.getElem_cons_succ])
  refine wpAnyX_tk (i := 14) (v := ?xv14u) rfl (Or.inl ⟨by rfl, ?xh14u⟩) ?xr14u; (case xh14u => (intro w hSw; (try dsimp only at hSw); go_simp; (try with_reducible rfl))); (try simp only [Act.put, List.setIfInBounds_toArray, List.set_cons_zero, List.set_cons_succ, List.getElem_toArray, List.getElem_cons_zero, List.getElem_cons_succ])
  have HSG := hide hsG
  clear hsG hS
  refine wpX_startA (n := 3 + left1 false) (listed := (fun b_ => #[true, true, true, true, true, true, true, true, true, true, true, true, true, true, true, false, false, b_, false]) false) (j := 17) (d := 8) (t := 43) (z := #[.int .i64 0, .int .i64 0, .int .i64 0, .string { data := #[] }, .string { data := #[] }, .string { data := #[] }, .int .i64 0]) ?al1u ?alnu ?allu (fun al1 => ?alru); (case al1u => exact ⟨⟨_, rfl, rfl, rfl, fun a w => by simp [go_sem, execOp]⟩⟩); (case alnu => kernel_rfl); (case allu => kernel_rfl)
  refine' wpX_phaseA' (f := 2) (i := 15) (L := (fun b_ => #[true, true, true, true, true, true, true, true, true, true, true, true, true, true, true, false, false, b_, false])) (L' := (fun b_ => #[true, true, true, true, true, true, true, true, true, true, true, true, true, true, true, true, false, b_, false])) (base := wr.heap.size) (G := (fun w' => Below wr.heap.size wr w')) (x := undef) al1 ?an15u ?al15u ?aa15u ?ar15u ?ai15u ?ag15u ?ae115u ?ae315u ?ap115u HSG.out (fun w' o q => q.alloc q.size o) (fun w' q => q.size) ?aw15u ?am15u; (case an15u => rfl); (case al15u => rfl); (case aa15u => rfl); (case ar15u => kernel_rfl); (case ai15u => rfl); (case ag15u => rfl); (case ae115u => rfl); (case ae315u => (intros; rfl)); (case ap115u => (intros; rfl))
  (case aw15u => exact (Below.refl _ wr).drew)
  intro b_ x_ w5 hG_ hx_ K_ hK_; (try simp only [Act.put, List.setIfInBounds_toArray, List.set_cons_zero, List.set_cons_succ, List.getElem_toArray, List.getElem_cons_zero, List.getElem_cons_succ])
  go_wp2_with fail
  refine (HMK.out _).mono ?_
  rintro e w6 ⟨rfl, hbp⟩
  go_wp2_with fail
  have q6 : Below wr.heap.size wr w6 := bstep hG_ hbp
  have hS6 := HSG.out _ q6
  refine hK_.out _ _ (Or.inr hS6) ?_
  clear hK_ K_ hG_
  refine' wpX_takeA' (f := 1) (i := 16) (v := ?xv16u) (L := (fun b_ => #[true, true, true, true, true, true, true, true, true, true, true, true, true, true, true, true, false, b_, false])) (L' := (fun b_ => #[true, true, true, true, true, true, true, true, true, true, true, true, true, true, true, true, true, b_, false])) ?tan16u ?tal16u rfl (by kernel_rfl) ?tar16u (by kernel_rfl) ?tae316u (fun _ _ _ h => h) (Or.inl ⟨by rfl, ?xh16u⟩) ?taw16u ?xr16u; (case tan16u => rfl); (case tal16u => rfl); (case tar16u => kernel_rfl); (case tae316u => (intros; rfl)); (case taw16u => assumption); (case xh16u => (intro w hSw; (try dsimp only at hSw); go_simp; (try with_reducible rfl))); (try simp only [Act.put, List.setIfInBounds_toArray, List.set_cons_zero, List.set_cons_succ, List.getElem_toArray, List.getElem_cons_zero, List.getElem_cons_succ])
  refine' wpX_layA' (f := 1) (L := (fun b_ => #[true, true, true, true, true, true, true, true, true, true, true, true, true, true, true, true, true, b_, false])) (base := wr.heap.size) (G := (fun w' => Below w6.heap.size w6 w')) (b := b_) (x := x_) al1 ?anLu ?alLu ?aaLu ?arLu ?ae1Lu ?ap1Lu (fun w' q => HSG.out w' (bstep q6 q)) (fun w' o q => q.alloc q.size o) (fun w' q => Nat.le_trans q6.size q.size) ?awLu (hx_.bl hbp) ?amLu; (case anLu => rfl); (case alLu => rfl); (case aaLu => rfl); (case arLu => kernel_rfl); (case ae1Lu => rfl); (case ap1Lu => (intros; rfl))
  (case awLu => exact Below.refl _ w6)
  clear hx_ x_ b_ hS6
  intro g7 w7 hb7 hg7 G7
  have q7 : Below wr.heap.size wr w7 := bstep q6 hb7
  clear al1 hb7 q6 hbp
  (try clear cG7 fG7); have cG7 := G7.cell; have fG7 := G7.frozen
  refine wpAnyX_one (i := 18) (by kernel_rfl) rfl (by rfl) (fun K hK => ?_); (try simp only [List.getElem_toArray, List.getElem_cons_zero, List.getElem_cons_succ])
  go_wp2_with fail
  refine hK.out _ _ (Or.inr (HSG.out _ (below_set (below_set (below_set (below_set (below_set (below_set (below_set q7 hg7 0 _) hg7 1 _) hg7 2 _) hg7 3 _) hg7 4 _) hg7 5 _) hg7 6 _))) (fun hS => ?_)
  clear hK K hS cG7 fG7 HSG
  refine wpAnyX_done (by kernel_rfl) ?_ _
  obtain ⟨X1, gr1, sz1⟩ := whole_call (Value.int .i64 id) (Value.int .i64 (sq + 1)) (Value.int .i64 ck) (Value.string cy) (Value.string cf) (Value.string ct) (Value.int .i64 cn) G7
  have q8 := below_grow q7 gr1 q7.size hg7
  replace D1 := grown_blk (D1.below' q7) gr1 (by omega)
  replace S1 := (S1.bl q7).grown G7 gr1
  replace C1 := (C1.bl q7).grown G7 gr1
  obtain ⟨w8, hw8⟩ : ∃ w8, w8 = (((((((w7.setCell ⟨g7, 0, none⟩ (Value.int .i64 id)).setCell ⟨g7, 1, none⟩ (Value.int .i64 (sq + 1))).setCell ⟨g7, 2, none⟩ (Value.int .i64 ck)).setCell ⟨g7, 3, none⟩ (Value.string cy)).setCell ⟨g7, 4, none⟩ (Value.string cf)).setCell ⟨g7, 5, none⟩ (Value.string ct)).setCell ⟨g7, 6, none⟩ (Value.int .i64 cn)) := ⟨_, rfl⟩
  rw [← hw8] at q8 X1 D1 S1 C1 ⊢
  clear hw8 gr1 sz1 G7 q7
  replace q0 := bstep q0 q8
  clear q8 HMK X0 hx1 hg7 hv1 i0 i1 hbb
  (try clear cD1 fD1); have cD1 := D1.cell; have fD1 := D1.frozen; (try clear cX1 fX1); have cX1 := X1.cell; have fX1 := X1.frozen
  go_wp2_with fail
  refine (HDO.out _ _ _ _ _ _ w8 S1 C1 (hN.bl q0)).mono ?_
  rintro e w9 ⟨A2, n2, c2, B2, k2, d2, Y2, m2, o2, rfl, S2, C2, T2, hb9⟩
  replace X1 := X1.bl hb9; replace D1 := D1.bl hb9; replace S1 := S1.bl hb9; replace C1 := C1.bl hb9
  have q : Below w.heap.size w w9 := below_by
  clear hb9 HDO cD1 fD1 cX1 fX1 q0
  have D2 := Blk.new w9 32 #[.int .i64 (xnow), .slice A2 n2 c2, .int .i64 (xnext), .slice B2 k2 d2]; replace S2 := S2.al (.cells #[.int .i64 (xnow), .slice A2 n2 c2, .int .i64 (xnext), .slice B2 k2 d2] 32); replace C2 := C2.al (.cells #[.int .i64 (xnow), .slice A2 n2 c2, .int .i64 (xnext), .slice B2 k2 d2] 32); replace T2 := T2.al (.cells #[.int .i64 (xnow), .slice A2 n2 c2, .int .i64 (xnext), .slice B2 k2 d2] 32); replace X1 := X1.al (.cells #[.int .i64 (xnow), .slice A2 n2 c2, .int .i64 (xnext), .slice B2 k2 d2] 32); replace D1 := D1.al (.cells #[.int .i64 (xnow), .slice A2 n2 c2, .int .i64 (xnext), .slice B2 k2 d2] 32); replace S1 := S1.al (.cells #[.int .i64 (xnow), .slice A2 n2 c2, .int .i64 (xnext), .slice B2 k2 d2] 32); replace C1 := C1.al (.cells #[.int .i64 (xnow), .slice A2 n2 c2, .int .i64 (xnext), .slice B2 k2 d2] 32); have R2 : Blk ((w9.alloc (.cells #[.int .i64 (xnow), .slice A2 n2 c2, .int .i64 (xnext), .slice B2 k2 d2] 32)).alloc (.cells #[.int .i64 (rc), .string rt, .int .i64 (rn), .slice Y2 m2 o2] 37)) (w9.heap.size + 1) 37 #[.int .i64 (rc), .string rt, .int .i64 (rn), .slice Y2 m2 o2] := Blk.new' _ _ _ (by simp); replace S2 := S2.al (.cells #[.int .i64 (rc), .string rt, .int .i64 (rn), .slice Y2 m2 o2] 37); replace C2 := C2.al (.cells #[.int .i64 (rc), .string rt, .int .i64 (rn), .slice Y2 m2 o2] 37); replace T2 := T2.al (.cells #[.int .i64 (rc), .string rt, .int .i64 (rn), .slice Y2 m2 o2] 37); replace D2 := D2.al (.cells #[.int .i64 (rc), .string rt, .int .i64 (rn), .slice Y2 m2 o2] 37); replace X1 := X1.al (.cells #[.int .i64 (rc), .string rt, .int .i64 (rn), .slice Y2 m2 o2] 37); replace D1 := D1.al (.cells #[.int .i64 (rc), .string rt, .int .i64 (rn), .slice Y2 m2 o2] 37); replace S1 := S1.al (.cells #[.int .i64 (rc), .string rt, .int .i64 (rn), .slice Y2 m2 o2] 37); replace C1 := C1.al (.cells #[.int .i64 (rc), .string rt, .int .i64 (rn), .slice Y2 m2 o2] 37)
  have q0 : Below w.heap.size w ((w9.alloc (.cells #[.int .i64 (xnow), .slice A2 n2 c2, .int .i64 (xnext), .slice B2 k2 d2] 32)).alloc (.cells #[.int .i64 (rc), .string rt, .int .i64 (rn), .slice Y2 m2 o2] 37)) := below_by
  clear q
  (try clear cD1 fD1); have cD1 := D1.cell; have fD1 := D1.frozen; (try clear cX1 fX1); have cX1 := X1.cell; have fX1 := X1.frozen
  go_wp2_with fail
  refine (HAP.out _ _ _ _ S1).mono ?_
  rintro e wa ⟨A3, n3, c3, Y3, m3, o3, rfl, S3, L3, T3', hba⟩
  have T3 : TxSl wa Y3 m3 o3 rl := ⟨L3, T3'⟩
  replace X1 := X1.bl hba; replace D1 := D1.bl hba; replace C1 := C1.bl hba; replace S2 := S2.bl hba; replace C2 := C2.bl hba; replace T2 := T2.bl hba; replace D2 := D2.bl hba; replace R2 := R2.bl hba
  have q : Below w.heap.size w wa := below_by
  clear hba HAP cD1 fD1 cX1 fX1 q0 L3 T3' S1
  have D3 := Blk.new wa 29 #[.int .i64 xnow, .slice A3 n3 c3]
  replace X1 := X1.al (.cells #[.int .i64 xnow, .slice A3 n3 c3] 29); replace D1 := D1.al (.cells #[.int .i64 xnow, .slice A3 n3 c3] 29); replace C1 := C1.al (.cells #[.int .i64 xnow, .slice A3 n3 c3] 29); replace S2 := S2.al (.cells #[.int .i64 xnow, .slice A3 n3 c3] 29); replace C2 := C2.al (.cells #[.int .i64 xnow, .slice A3 n3 c3] 29); replace T2 := T2.al (.cells #[.int .i64 xnow, .slice A3 n3 c3] 29); replace D2 := D2.al (.cells #[.int .i64 xnow, .slice A3 n3 c3] 29); replace R2 := R2.al (.cells #[.int .i64 xnow, .slice A3 n3 c3] 29); replace S3 := S3.al (.cells #[.int .i64 xnow, .slice A3 n3 c3] 29); replace T3 := T3.al (.cells #[.int .i64 xnow, .slice A3 n3 c3] 29)
  have R3 : Blk ((wa.alloc (.cells #[.int .i64 xnow, .slice A3 n3 c3] 29)).alloc (.cells #[.int .i64 rc, .string rt, .int .i64 rn, .slice Y3 m3 o3] 37)) (wa.heap.size + 1) 37 #[.int .i64 rc, .string rt, .int .i64 rn, .slice Y3 m3 o3] := Blk.new' _ _ _ (by simp)
  replace X1 := X1.al (.cells #[.int .i64 rc, .string rt, .int .i64 rn, .slice Y3 m3 o3] 37); replace D1 := D1.al (.cells #[.int .i64 rc, .string rt, .int .i64 rn, .slice Y3 m3 o3] 37); replace C1 := C1.al (.cells #[.int .i64 rc, .string rt, .int .i64 rn, .slice Y3 m3 o3] 37); replace S2 := S2.al (.cells #[.int .i64 rc, .string rt, .int .i64 rn, .slice Y3 m3 o3] 37); replace C2 := C2.al (.cells #[.int .i64 rc, .string rt, .int .i64 rn, .slice Y3 m3 o3] 37); replace T2 := T2.al (.cells #[.int .i64 rc, .string rt, .int .i64 rn, .slice Y3 m3 o3] 37); replace D2 := D2.al (.cells #[.int .i64 rc, .string rt, .int .i64 rn, .slice Y3 m3 o3] 37); replace R2 := R2.al (.cells #[.int .i64 rc, .string rt, .int .i64 rn, .slice Y3 m3 o3] 37); replace S3 := S3.al (.cells #[.int .i64 rc, .string rt, .int .i64 rn, .slice Y3 m3 o3] 37); replace T3 := T3.al (.cells #[.int .i64 rc, .string rt, .int .i64 rn, .slice Y3 m3 o3] 37); replace D3 := D3.al (.cells #[.int .i64 rc, .string rt, .int .i64 rn, .slice Y3 m3 o3] 37)
  have q0 : Below w.heap.size w ((wa.alloc (.cells #[.int .i64 xnow, .slice A3 n3 c3] 29)).alloc (.cells #[.int .i64 rc, .string rt, .int .i64 rn, .slice Y3 m3 o3] 37)) := below_by
  clear q
  (try clear cR2 fR2); have cR2 := R2.cell; have fR2 := R2.frozen
  go_wp2_with fail
  refine (HSR.out _ _ _ _ _ _ _ T2.sl T3.sl).mono ?_
  rintro e wb ⟨rfl, hbb⟩
  replace X1 := X1.bl hbb; replace D1 := D1.bl hbb; replace C1 := C1.bl hbb; replace S2 := S2.bl hbb; replace C2 := C2.bl hbb; replace T2 := T2.bl hbb; replace D2 := D2.bl hbb; replace R2 := R2.bl hbb; replace S3 := S3.bl hbb; replace D3 := D3.bl hbb
  replace q0 := bstep q0 hbb
  clear hbb cR2 fR2 T3 R3
  (try clear cD2 fD2); have cD2 := D2.cell; have fD2 := D2.frozen; (try clear cD3 fD3); have cD3 := D3.cell; have fD3 := D3.frozen
  go_wp2_with fail
  refine (HSS.out _ _ _ _ _ _ _ S2 S3).mono ?_
  rintro e wc ⟨rfl, hbc⟩
  replace X1 := X1.bl hbc; replace D1 := D1.bl hbc; replace C1 := C1.bl hbc; replace C2 := C2.bl hbc; replace T2 := T2.bl hbc; replace D2 := D2.bl hbc; replace R2 := R2.bl hbc
  replace q0 := bstep q0 hbc
  clear hbc cD2 fD2 cD3 fD3 S2 S3 D3 HSS
  have hk2 : xclis.length = k2 := C2.sl.len
  obtain rfl : k2 = k1 := by omega
  (try clear cD2 fD2); have cD2 := D2.cell; have fD2 := D2.frozen
  go_wp2_with fail
  clear cD2 fD2
  go_loopw [15] (fun s15 wr => ∃ j : Nat, j ≤ k2 ∧ s15 = .int .i64 (j : Int) ∧ Below wc.heap.size wc wr) (fun s15 _ => k2 - (intOf s15).toNat)
  case atStart => exact ⟨0, by omega, rfl, Below.refl _ _⟩
  case round =>
    obtain ⟨j, hj', rfl, hbr⟩ := hrel
    have D1r := D1.below' hbr; have D2r := D2.below' hbr
    have hl1 := D1r.lt; have hl2 := D2r.lt
    by_cases hlt : j < k2
    · have hjl : j < clis.length := by omega
      have hjx : j < xclis.length := by omega
      obtain ⟨b1, o1, Y1, m1, e1', eA, hb1, E1, U1⟩ := (C1.bl hbr).sl.at_ hjl
      obtain ⟨rfl, rfl⟩ : bc = b1 ∧ oc = o1 := by simpa using eA
      clear eA
      obtain ⟨b2, o2', Y2', m2', e2', rfl, hb2, E2, U2⟩ := (C2.bl hbr).sl.at_ hjx
      have hz1 : (0 : Int) ≤ (j : Int) := by omega
      have hz2 : (j : Int) < (k2 : Int) := by omega
      by_cases hjk : j = k
      · subst hjk
        generalize clis[j] = x1 at E1
        generalize xclis[j] = x2 at E2
        obtain ⟨xi, xs, xt, ⟨ac, at_, an, al⟩⟩ := x1
        obtain ⟨yi, ys, yt, ⟨bc', bt, bn, bl⟩⟩ := x2
        obtain ⟨e0, e1, e2, e3, e4, e5, e6⟩ := E1
        obtain ⟨g0, g1, g2, g3, g4, g5, g6⟩ := E2
        simp only at e0 e1 e2 e3 e4 e5 g0 g1 g2 g3 g4 g5
        clear U1 U2
        (try clear cD1r fD1r); have cD1r := D1r.cell; have fD1r := D1r.frozen; (try clear cD2r fD2r); have cD2r := D2r.cell; have fD2r := D2r.frozen
        go_wp2_with fail
        go_roundw
        case rel => exact ⟨j + 1, by omega, by go_num, below_by⟩
        case measure => simp [intOf]; omega
      · have hjk' : ((j : Int) == (k : Int)) = false := by rw [beq_eq_false_iff_ne]; omega
        have hjk2 : ((j : Int) != (k : Int)) = true := by rw [bne_iff_ne]; omega
        have hot := HOTH.out j hjl hjx hjk
        rw [hot] at E2 U2
        clear hot
        generalize clis[j] = x1 at E1 E2 U1 U2
        obtain ⟨xi, xs, xt, ⟨ac, at_, an, al⟩⟩ := x1
        obtain ⟨e0, e1, e2, e3, e4, e5, e6⟩ := E1
        obtain ⟨g0, g1, g2, g3, g4, g5, g6⟩ := E2
        simp only at e0 e1 e2 e3 e4 e5 g0 g1 g2 g3 g4 g5 U1 U2
        have HC := hide (fun w' (hw : Below wr.heap.size wr w') => sameReply_eq ⟨ac, at_, an, al⟩ ⟨ac, at_, an, al⟩ Y1 Y2' m1 m2' e1' e2' w' (U1.bl hw).sl (U2.bl hw).sl rfl)
        clear U1 U2
        have q1 : Below wr.heap.size wr ((wr.alloc (.cells #[.int .i64 xi, .int .i64 xs, .int .i64 xt, .int .i64 ac, .string at_, .int .i64 an, .slice Y1 m1 e1'] 54)).alloc (.cells #[.int .i64 xi, .int .i64 xs, .int .i64 xt, .int .i64 ac, .string at_, .int .i64 an, .slice Y2' m2' e2'] 54)) := below_by
        have HQ := hide (fun w' (hb : Below _ _ w') => bstep hbr (bstep q1 hb))
        (try clear cD1r fD1r); have cD1r := D1r.cell; have fD1r := D1r.frozen; (try clear cD2r fD2r); have cD2r := D2r.cell; have fD2r := D2r.frozen
        go_wp2_with fail
        refine (HC.out _ q1).mono ?_
        rintro e w3 ⟨rfl, hb3⟩
        have q3 := HQ.out _ hb3
        clear HC HQ q1 hb3 cD1r fD1r cD2r fD2r e0 e1 e2 e3 e4 e5 e6 g0 g1 g2 g3 g4 g5 g6
        go_wp2_with fail
        go_roundw
        case rel => exact ⟨j + 1, by omega, by go_num, q3⟩
        case measure => simp [intOf]; omega
    · have hjk : j = k2 := by omega
      have Xr := X1.below' hbr; have Rr := R2.below' hbr; have Tr := T2.bl hbr
      obtain ⟨b2, o2', Y2', m2', e2', rfl, hb2, E2, U2⟩ := (C2.bl hbr).sl.at_ hj
      rw [HATK.out] at E2 U2
      obtain ⟨-, g1, -, g3, g4, g5, g6⟩ := E2
      simp only at g1 g3 g4 g5 U2
      have qr := bstep q0 hbr
      have HSR2 := hide (fun w' (hw : Below wr.heap.size wr w') => HSR.out _ _ _ _ _ _ w' (U2.bl hw).sl (Tr.bl hw).sl)
      clear D1 D2 C1 C2 T2 R2 X1 D1r U2 Tr HSR HOTH HATK
      subst hjk
      (try clear cD2r fD2r); have cD2r := D2r.cell; have fD2r := D2r.frozen
      go_upto_region 18 with fail
      clear cD2r fD2r
      have hS0 : ∀ w', Below wr.heap.size wr w' → (w'.cell? ⟨w9.heap.size, 3, none⟩ = some (.slice (some ⟨b2, o2', none⟩) j d2) ∧ w'.cell? ⟨b2, o2' + k * 7 + 1, none⟩ = some (.int .i64 (sq + 1)) ∧ w'.cell? ⟨b2, o2' + k * 7 + 3, none⟩ = some (.int .i64 rc) ∧ w'.cell? ⟨b2, o2' + k * 7 + 4, none⟩ = some (.string rt) ∧ w'.cell? ⟨b2, o2' + k * 7 + 5, none⟩ = some (.int .i64 rn) ∧ w'.cell? ⟨b2, o2' + k * 7 + 6, none⟩ = some (.slice Y2' m2' e2') ∧ w'.cell? ⟨g7, 1, none⟩ = some (.int .i64 (sq + 1)) ∧ w'.cell? ⟨w9.heap.size + 1, 0, none⟩ = some (.int .i64 rc) ∧ w'.cell? ⟨w9.heap.size + 1, 1, none⟩ = some (.string rt) ∧ w'.cell? ⟨w9.heap.size + 1, 2, none⟩ = some (.int .i64 rn) ∧ w'.cell? ⟨w9.heap.size + 1, 3, none⟩ = some (.slice Y2 m2 o2)) := fun w' q => ⟨(D2r.below' q).cell 3, (q.cell (p := ⟨b2, o2' + k * 7 + 1, none⟩) hb2).trans g1, (q.cell (p := ⟨b2, o2' + k * 7 + 3, none⟩) hb2).trans g3, (q.cell (p := ⟨b2, o2' + k * 7 + 4, none⟩) hb2).trans g4, (q.cell (p := ⟨b2, o2' + k * 7 + 5, none⟩) hb2).trans g5, (q.cell (p := ⟨b2, o2' + k * 7 + 6, none⟩) hb2).trans g6, (Xr.below' q).cell 1, (Rr.below' q).cell 0, (Rr.below' q).cell 1, (Rr.below' q).cell 2, (Rr.below' q).cell 3⟩
      refine wp_region_x (l := []) (S := fun w' => w'.cell? ⟨w9.heap.size, 3, none⟩ = some (.slice (some ⟨b2, o2', none⟩) j d2) ∧ w'.cell? ⟨b2, o2' + k * 7 + 1, none⟩ = some (.int .i64 (sq + 1)) ∧ w'.cell? ⟨b2, o2' + k * 7 + 3, none⟩ = some (.int .i64 rc) ∧ w'.cell? ⟨b2, o2' + k * 7 + 4, none⟩ = some (.string rt) ∧ w'.cell? ⟨b2, o2' + k * 7 + 5, none⟩ = some (.int .i64 rn) ∧ w'.cell? ⟨b2, o2' + k * 7 + 6, none⟩ = some (.slice Y2' m2' e2') ∧ w'.cell? ⟨g7, 1, none⟩ = some (.int .i64 (sq + 1)) ∧ w'.cell? ⟨w9.heap.size + 1, 0, none⟩ = some (.int .i64 rc) ∧ w'.cell? ⟨w9.heap.size + 1, 1, none⟩ = some (.string rt) ∧ w'.cell? ⟨w9.heap.size + 1, 2, none⟩ = some (.int .i64 rn) ∧ w'.cell? ⟨w9.heap.size + 1, 3, none⟩ = some (.slice Y2 m2 o2)) (by kernel_rfl) (hS0 _ (Below.refl _ wr).drew) (fun hS => ?_)
      have HS0 := hide hS0
      clear hS0 g1 g3 g4 g5 g6
      refine wpAnyX_tk (i := 0) (v := ?xv0z) rfl (Or.inl ⟨by rfl, ?xh0z⟩) ?xr0z; (case xh0z => (intro w hSw; (try dsimp only at hSw); go_simp; (try with_reducible rfl))); (try simp only [Act.put, List.setIfInBounds_toArray, List.set_cons_zero, List.set_cons_succ, List.getElem_toArray, List.getElem_cons_zero, List.getElem_cons_succ])
      refine wpAnyX_tk (i := 1) (v := ?xv1z) rfl (Or.inl ⟨by rfl, ?xh1z⟩) ?xr1z; (case xh1z => (intro w hSw; (try dsimp only at hSw); go_simp; (try with_reducible rfl))); (try simp only [Act.put, List.setIfInBounds_toArray, List.set_cons_zero, List.set_cons_succ, List.getElem_toArray, List.getElem_cons_zero, List.getElem_cons_succ])
      refine wpAnyX_tk (i := 2) (v := ?xv2z) rfl (Or.inl ⟨by rfl, ?xh2z⟩) ?xr2z; (case xh2z => (intro w hSw; (try dsimp only at hSw); go_simp; (try with_reducible rfl))); (try simp only [Act.put, List.setIfInBounds_toArray, List.set_cons_zero, List.set_cons_succ, List.getElem_toArray, List.getElem_cons_zero, List.getElem_cons_succ])
      refine wpAnyX_tk (i := 3) (v := ?xv3z) rfl (Or.inl ⟨by rfl, ?xh3z⟩) ?xr3z; (case xh3z => (intro w hSw; (try dsimp only at hSw); go_simp; (try with_reducible rfl))); (try simp only [Act.put, List.setIfInBounds_toArray, List.set_cons_zero, List.set_cons_succ, List.getElem_toArray, List.getElem_cons_zero, List.getElem_cons_succ])
      refine wpAnyX_tk (i := 4) (v := ?xv4z) rfl (Or.inl ⟨by rfl, ?xh4z⟩) ?xr4z; (case xh4z => (intro w hSw; (try dsimp only at hSw); go_simp; (try with_reducible rfl))); (try simp only [Act.put, List.setIfInBounds_toArray, List.set_cons_zero, List.set_cons_succ, List.getElem_toArray, List.getElem_cons_zero, List.getElem_cons_succ])
      refine wpAnyX_tk (i := 5) (v := ?xv5z) rfl (Or.inl ⟨by rfl, ?xh5z⟩) ?xr5z; (case xh5z => (intro w hSw; (try dsimp only at hSw); go_simp; (try with_reducible rfl))); (try simp only [Act.put, List.setIfInBounds_toArray, List.set_cons_zero, List.set_cons_succ, List.getElem_toArray, List.getElem_cons_zero, List.getElem_cons_succ])
      refine wpAnyX_tk (i := 6) (v := ?xv6z) rfl (Or.inl ⟨by rfl, ?xh6z⟩) ?xr6z; (case xh6z => (intro w hSw; (try dsimp only at hSw); go_simp; (try with_reducible rfl))); (try simp only [Act.put, List.setIfInBounds_toArray, List.set_cons_zero, List.set_cons_succ, List.getElem_toArray, List.getElem_cons_zero, List.getElem_cons_succ])
      refine wpAnyX_tk (i := 7) (v := ?xv7z) rfl (Or.inl ⟨by rfl, ?xh7z⟩) ?xr7z; (case xh7z => (intro w hSw; (try dsimp only at hSw); go_simp; (try with_reducible rfl))); (try simp only [Act.put, List.setIfInBounds_toArray, List.set_cons_zero, List.set_cons_succ, List.getElem_toArray, List.getElem_cons_zero, List.getElem_cons_succ])
      refine wpAnyX_tk (i := 8) (v := ?xv8z) rfl (Or.inl ⟨by rfl, ?xh8z⟩) ?xr8z; (case xh8z => (intro w hSw; (try dsimp only at hSw); go_simp; (try with_reducible rfl))); (try simp only [Act.put, List.setIfInBounds_toArray, List.set_cons_zero, List.set_cons_succ, List.getElem_toArray, List.getElem_cons_zero, List.getElem_cons_succ])
      refine wpAnyX_tk (i := 9) (v := ?xv9z) rfl (Or.inl ⟨by rfl, ?xh9z⟩) ?xr9z; (case xh9z => (intro w hSw; (try dsimp only at hSw); go_simp; (try with_reducible rfl))); (try simp only [Act.put, List.setIfInBounds_toArray, List.set_cons_zero, List.set_cons_succ, List.getElem_toArray, List.getElem_cons_zero, List.getElem_cons_succ])
      refine wpAnyX_tk (i := 10) (v := ?xv10z) rfl (Or.inl ⟨by rfl, ?xh10z⟩) ?xr10z; (case xh10z => (intro w hSw; (try dsimp only at hSw); go_simp; (try with_reducible rfl))); (try simp only [Act.put, List.setIfInBounds_toArray, List.set_cons_zero, List.set_cons_succ, List.getElem_toArray, List.getElem_cons_zero, List.getElem_cons_succ])
      refine wpAnyX_tk (i := 11) (v := ?xv11z) rfl (Or.inl ⟨by rfl, ?xh11z⟩) ?xr11z; (case xh11z => (intro w hSw; (try dsimp only at hSw); go_simp; (try with_reducible rfl))); (try simp only [Act.put, List.setIfInBounds_toArray, List.set_cons_zero, List.set_cons_succ, List.getElem_toArray, List.getElem_cons_zero, List.getElem_cons_succ])
      refine wpAnyX_tk (i := 12) (v := ?xv12z) rfl (Or.inl ⟨by rfl, ?xh12z⟩) ?xr12z; (case xh12z => (intro w hSw; (try dsimp only at hSw); go_simp; (try with_reducible rfl))); (try simp only [Act.put, List.setIfInBounds_toArray, List.set_cons_zero, List.set_cons_succ, List.getElem_toArray, List.getElem_cons_zero, List.getElem_cons_succ])
      refine wpAnyX_tk (i := 13) (v := ?xv13z) rfl (Or.inl ⟨by rfl, ?xh13z⟩) ?xr13z; (case xh13z => (intro w hSw; (try dsimp only at hSw); go_simp; (try with_reducible rfl))); (try simp only [Act.put, List.setIfInBounds_toArray, List.set_cons_zero, List.set_cons_succ, List.getElem_toArray, List.getElem_cons_zero, List.getElem_cons_succ])
      refine wpAnyX_tk (i := 14) (v := ?xv14z) rfl (Or.inl ⟨by rfl, ?xh14z⟩) ?xr14z; (case xh14z => (intro w hSw; (try dsimp only at hSw); go_simp; (try with_reducible rfl))); (try simp only [Act.put, List.setIfInBounds_toArray, List.set_cons_zero, List.set_cons_succ, List.getElem_toArray, List.getElem_cons_zero, List.getElem_cons_succ])
      refine wpAnyX_tk (i := 15) (v := ?xv15z) rfl (Or.inl ⟨by rfl, ?xh15z⟩) ?xr15z; (case xh15z => (intro w hSw; (try dsimp only at hSw); go_simp; (try with_reducible rfl))); (try simp only [Act.put, List.setIfInBounds_toArray, List.set_cons_zero, List.set_cons_succ, List.getElem_toArray, List.getElem_cons_zero, List.getElem_cons_succ])
      refine wpAnyX_tk (i := 16) (v := ?xv16z) rfl (Or.inl ⟨by rfl, ?xh16z⟩) ?xr16z; (case xh16z => (intro w hSw; (try dsimp only at hSw); go_simp; (try with_reducible rfl))); (try simp only [Act.put, List.setIfInBounds_toArray, List.set_cons_zero, List.set_cons_succ, List.getElem_toArray, List.getElem_cons_zero, List.getElem_cons_succ])
      refine wpAnyX_onew (i := 17) (by kernel_rfl) rfl (by rfl) (fun K hK => ?_); (try simp only [List.getElem_toArray, List.getElem_cons_zero, List.getElem_cons_succ])
      go_wp2_with fail
      ((with_reducible refine (HSR2.out _ (Below.refl _ wr).drew).mono ?_); rintro e wz ⟨rfl, hbz⟩)
      go_wp2_with fail
      have qz : Below wr.heap.size wr wz := Below.trans (Below.refl _ wr).drew hbz
      refine hK.out _ _ (Or.inr (HS0.out _ qz)) (fun hS => ?_)
      replace hS := hS.resolve_left (by decide)
      clear hK K
      refine wpAnyX_pure (i := 18) (v := ?xv18z) rfl (by kernel_rfl) (Or.inl ⟨by rfl, ?xh18z⟩) (Or.inr (by assumption)) ?xr18z; (case xh18z => (intro w; go_simp; (try with_reducible rfl))); (try simp only [Act.put, List.setIfInBounds_toArray, List.set_cons_zero, List.set_cons_succ, List.getElem_toArray, List.getElem_cons_zero, List.getElem_cons_succ])
      refine wpAnyX_pure (i := 19) (v := ?xv19z) rfl (by kernel_rfl) (Or.inl ⟨by rfl, ?xh19z⟩) (Or.inr (by assumption)) ?xr19z; (case xh19z => (intro w; go_simp; (try with_reducible rfl))); (try simp only [Act.put, List.setIfInBounds_toArray, List.set_cons_zero, List.set_cons_succ, List.getElem_toArray, List.getElem_cons_zero, List.getElem_cons_succ])
      clear hS
      refine wpAnyX_done (by kernel_rfl) ?_ _
      have qe := bstep qr qz
      go_wp2_with fail
      go_ret
      exact ⟨rfl, qe⟩
set_option maxRecDepth 100000 in
theorem clientsApart_lifted (os : Os) (started : os.Started) (H : Type) (enc : TypeId × Value → H) :
  ReturnsInHanded {} Tryz.checked os 9 .any (fun w args => (Rows.clientsApartSpec.pre enc Tryz.prog Tryz.f9 [] false w args ∧ laidMetH Tryz.prog laidN w) ∧ sizedMet enc Tryz.prog Tryz.f9 (OpenSpec.ofChange Rows.clientsApartSpec) false w args) (Rows.clientsApartSpec.post enc Tryz.prog Tryz.f9 false true false false) := by
  refine returnsInHanded_of_change_and (C := Tryz.checked) (X := fun w _ => laidMetH Tryz.prog laidN w) (fun _ _ _ hh h => h.of_heap hh) Tryz.own started (by kernel_rfl) Tryz.func9 (ChangeSpec.witness_shaped (enc := enc) (C := Tryz.checked) (os := os) (X := fun w _ => laidMetH Tryz.prog laidN w) false (World.doorLaid Tryz.prog 14 os) #[.slice none 0 0, .agg #[.int .i64 0, .int .i64 0, .int .i64 0, .int .i64 0, .int .i64 0, .int .i64 0, .int .i64 0, .string ByteArray.empty]] 8 rfl (World.shaped_of_RefB (by kernel_rfl) (by kernel_rfl)) (by kernel_rfl) (by kernel_rfl) (by kernel_rfl) (door_met os _)) ?_
  intro W base args ds gs before hval0 hW hcnd hsz0 hL _
  have hsz : (DataW.weightsEach Tryz.prog (Tryz.f9.params.toList ++ Rows.clientsApartSpec.plain.varTypes Tryz.prog) (ds ++ gs)).all (· ≤ reachBytes) = true := hsz0
  clear hsz0
  have hval : ∀ (j : Nat) t v, Tryz.f9.params[j]? = some t → args[j]? = some v → Value.okWide Tryz.prog W .any base t v := hval0
  have hW' := hW
  obtain ⟨p, q, hA0, hV, rfl, hfz, hnd⟩ := hW
  have hA : DataW.TrodAll enc Tryz.prog W 0 (fun _ => true) true Tryz.f9.params.toList args.toList ds p := hA0
  rw [Tryz.params9] at hA hval hsz
  obtain ⟨rfl, rfl⟩ := trodVars_none hV
  clear hA0 hval0 hcnd hV hfz hnd
  have hN := noth_of_laid hL
  obtain ⟨v0, v1, d0, d1, p0, p1, rfl, rfl, rfl, h0, h1⟩ := trodAll_two hA
  obtain ⟨A, n, c, l, rfl, hd, hS⟩ := open_deeds (hval 0 22 v0 rfl rfl) h0
  obtain ⟨x, rfl, hx⟩ := open_deed (hval 1 26 v1 rfl rfl) h1
  refine (clientsApart_walk A n c l x W hS hd hx hN).mono fun e W' ⟨he, hb⟩ => ?_
  subst he
  exact ⟨_, rfl, post_law Tryz.laidOut hW' rfl (by kernel_rfl) rfl Tryz.underlying4 (fun _ => rfl) (fun _ => rfl) (fun _ => rfl) hb⟩
set_option maxRecDepth 100000 in
theorem clientsApart_f1 : (Rows.clientsApartRow.inPlace == Tryz.pinned.checked.prog.inPlace 9) = true := by kernel_rfl
set_option maxRecDepth 100000 in
theorem clientsApart_f2 : (Rows.clientsApartRow.unfollowed == Tryz.pinned.checked.prog.unfollowed 9) = true := by kernel_rfl
set_option maxRecDepth 100000 in
theorem clientsApart_f3 : (Rows.clientsApartRow.recurses == Tryz.pinned.checked.prog.recurses 9) = true := by kernel_rfl
set_option maxRecDepth 100000 in
theorem clientsApart_f4 : (Rows.clientsApartRow.named == Tryz.pinned.checked.prog.varsNamed 9) = true := by kernel_rfl
set_option maxRecDepth 100000 in
theorem clientsApart_facts : joinedFacts Tryz.pinned.checked.prog 9 Tryz.f9 Rows.clientsApartSpec Rows.clientsApartRow = true := by
  unfold joinedFacts
  rw [enterN, show (Rows.clientsApartRow.lifted == Tryz.pinned.checked.prog.liftsFinal) = true from liftsN, laidN1, laidN2, heardN, show (Rows.clientsApartRow.plainKeys == Tryz.pinned.checked.prog.plainKeys) = true from keysN, clientsApart_f1, clientsApart_f2, clientsApart_f3, clientsApart_f4]
  kernel_rfl
theorem clientsApart_row : Rows.ClientsApartSaid := OpenClaim.holds_of_wide 9 Tryz.f9 rfl rfl rfl rfl rfl rfl rfl ⟨rfl, rfl, rfl, rfl, rfl⟩ rfl rfl rfl rfl rfl (by kernel_rfl) Tryz.func9 clientsApart_facts
  (of_decide_eq_true (by kernel_rfl)) (by unfold Func.isWrapper; first | (rw [if_pos (by decide +kernel)]; kernel_rfl) | (rw [if_neg (by decide +kernel)]; exact ⟨rfl, rfl⟩))
  (fun os started H enc _ => clientsApart_lifted os started H enc)
set_option maxRecDepth 100000 in
theorem clientsApart_goes : false = Rows.clientsApartRow.goesBy Tryz.pinned.checked.prog := by kernel_rfl
set_option maxRecDepth 100000 in
theorem clientsApart_looks : false = Tryz.pinned.checked.prog.looks [] := by kernel_rfl
set_option maxRecDepth 100000 in
theorem clientsApart_holds : Rows.ClientsApartCardSaid :=
  Claim7.holds_tied_plain_at .later [] [.data] true Rows.machineMayCard.stood.harness false
    clientsApart_row (fun _ h => by cases h) (by kernel_rfl) (fun _ h => by cases h) clientsApart_row_tie rfl ⟨rfl, rfl⟩ mainN rfl
    (fun f fn hf hfn => by
      obtain rfl : f = 9 := Option.some.inj ((show Tryz.prog.funcNamed "rostrum/rostrumkeep.ClientsApart" = some 9 by kernel_rfl).symm.trans hf) |>.symm
      obtain rfl : fn = Tryz.f9 := (Option.some.inj (Tryz.func9.symm.trans hfn)).symm
      exact ⟨clientsApart_looks, fun j t ht => by
        rw [Tryz.params9] at ht
        have hm := List.mem_of_getElem? (Array.getElem?_toList ▸ ht)
        simp only [List.mem_cons, List.not_mem_nil, or_false] at hm
        rcases hm with rfl | rfl <;> exact (show Tryz.prog.wantsStandIn _ = false by kernel_rfl)⟩)
    clientsApart_goes
#print axioms clientsApart_holds
end Go.Proofs.YtgpkgegpcgiokaaGreatDoor
