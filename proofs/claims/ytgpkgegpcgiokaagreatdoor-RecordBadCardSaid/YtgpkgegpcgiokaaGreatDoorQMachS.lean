import Derived.Test.YtgpkgegpcgiokaaGreatDoorQCliE
import Derived.Test.YtgpkgegpcgiokaaGreatDoorQMachC
namespace Go.Proofs.YtgpkgegpcgiokaaGreatDoor
set_option linter.all false
open Go.RowKit
def MachPost (m : Mach) (w : World) (e : Ending) (w' : World) : Prop :=
 ∃ A n c B k d, e = .returned (.agg #[.int .i64 m.now, .slice A n c, .int .i64 m.next, .slice B k d]) ∧ St w' A n c m.ents ∧ Ci w' B k d m.clis ∧ Below w.heap.size w w'
theorem New_any (w : World) : Calls Tryz.prog 57 #[] w fun e w' => e = .returned (.agg #[.int .i64 0, .slice none 0 0, .int .i64 1, .slice none 0 0]) ∧ Below w.heap.size w w' := by
 have Z := Blk.new w 32 #[.int .i64 0, .slice none 0 0, .int .i64 1, .slice none 0 0]
 have q : Below w.heap.size w (w.alloc (.cells #[.int .i64 0, .slice none 0 0, .int .i64 1, .slice none 0 0] 32)) := below_by
 have cZ := hide Z.cell
 clear Z
 go_enter Tryz.func57, Tryz.ntmps57
 go_wp2_with fail
 have cZ := cZ.out
 refine bodyPost_ret (v := .agg #[.int .i64 0, .slice none 0 0, .int .i64 1, .slice none 0 0]) ?_ rfl ⟨rfl, q⟩
 simp [results, Tryz.results57, go_sem, cZ]
set_option maxRecDepth 100000 in
set_option maxHeartbeats 16000000 in
theorem Machine_any (A : Option Addr) (n c : Nat) (l : List DeedD) (w : World) (hS : Sl w 8 A n c (deedRows l)) (hd : ∀ d ∈ l, d.ok) (hN : Noth w) :
  Calls Tryz.prog 23 #[.slice A n c] w (MachPost (machOf l) w) := by
 have hn := deed_len hS
 subst hn
 have hlm := hS.nc
 have hlm' := hS.cm
 unfold maxLen at hlm'
 have HD := hide hd; clear hd
 have Z0 := Blk.new w 32 #[.int .i64 0, .slice none 0 0, .int .i64 0, .slice none 0 0]
 have q0 : Below w.heap.size w (w.alloc (.cells #[.int .i64 0, .slice none 0 0, .int .i64 0, .slice none 0 0] 32)) := below_by
 go_enter Tryz.func23, Tryz.ntmps23
 go_wp2_with fail
 refine (New_any _).mono ?_
 rintro e w1 ⟨rfl, hb1⟩
 replace Z0 := Z0.below' hb1
 replace q0 := bstep q0 hb1
 have hz0 := hide Z0.lt
 clear hb1
 replace Z0 := Z0.alloc (.cells #[.int .i64 0, .slice none 0 0, .int .i64 1, .slice none 0 0] 32)
 have V0 := Blk.new w1 32 #[.int .i64 0, .slice none 0 0, .int .i64 1, .slice none 0 0]
 replace q0 : Below w.heap.size w (w1.alloc (.cells #[.int .i64 0, .slice none 0 0, .int .i64 1, .slice none 0 0] 32)) := below_by
 go_wp2_with fail
 obtain ⟨gv, hgv⟩ : ∃ gv, gv = w1.heap.size := ⟨_, rfl⟩
 obtain ⟨w2, hw2⟩ : ∃ w2, w2 = (w1.alloc (.cells #[.int .i64 0, .slice none 0 0, .int .i64 1, .slice none 0 0] 32)) := ⟨_, rfl⟩
 rw [← hw2] at Z0 V0 q0 ⊢
 rw [← hgv] at V0 ⊢
 have hz1 := Z0.lt
 have hgz : w.heap.size < gv := by have := hz0.out; omega
 clear hw2 hgv
 go_loopw [4, 5] (fun s4 s5 wr => ∃ k : Nat, k ≤ l.length ∧ k ≤ 40 ∧ s5 = .int .i64 k ∧ ∃ (m : Mach) (A1 : Option Addr) (n1 c1 : Nat) (B1 : Option Addr) (k1 d1 : Nat), s4 = .int .i64 m.now ∧
   (∃ z0 z1 z2 z3, Blk wr w.heap.size 32 #[z0, z1, z2, z3]) ∧ Blk wr gv 32 #[.int .i64 m.now, .slice A1 n1 c1, .int .i64 m.next, .slice B1 k1 d1] ∧ St wr A1 n1 c1 m.ents ∧ Ci wr B1 k1 d1 m.clis ∧
   Hid (machOf l = ((l.take 40).drop k).foldl stepM m) ∧ Hid (MInv k m) ∧ Below w.heap.size w wr)
  (fun _ s5 _ => l.length - (intOf s5).toNat)
 case atStart => exact ⟨0, by omega, by omega, rfl, newM, none, 0, 0, none, 0, 0, rfl, ⟨_, _, _, _, Z0⟩, V0, St.nil _, Ci.nil _, hide rfl, hide new_inv, q0⟩
 case round =>
  obtain ⟨k, hk', hk40, rfl, m, A1, n1, c1, B1, k1, d1, rfl, ⟨z0, z1, z2, z3, Z⟩, V, M, C, HQ, HM, hbr⟩ := hrel
  clear Z0 V0 q0 hz1
  have hbs := hbr.size
  have hv1 := V.lt
  have hz1 := Z.lt
  by_cases hlt : k < l.length ∧ k < 40
  ·obtain ⟨hlt, hlt40⟩ := hlt
   obtain ⟨b, off, rfl, hbb, R⟩ := (hS.below hbr).deed hlt
   have HQ' := mach_step hlt hlt40 HQ
   have hdk : (l[k]).ok := HD.out _ (List.getElem_mem hlt)
   generalize l[k] = r at R HQ' hdk
   have hinv := HM.out
   have h0 := hinv.ok.sto.now0
   have hnow := hinv.now
   have p0 := picked_lo r.wait 8 (by omega)
   have p1 := picked_hi r.wait 8 (by omega)
   have hpk := fun w => picked_any r.wait 8 w hdk.2.2.1.1 hdk.2.2.1.2 (by omega) (by omega)
   have hmk := fun w' (h : Ci w' B1 k1 d1 m.clis) => call_any m r hdk (fun x hx => ⟨(hinv.ok.cli x hx).seq0, by have := hinv.seq x hx; omega⟩) (by have := hinv.ok.few; omega) A1 B1 n1 c1 k1 d1 w' h
   have hmay := step_inv hinv (by omega) r
   have hcc := callD_ok hinv (by omega) r
   have hDo := fun w' hE hC hN => DoM_any hinv.ok (callD m r) (m.now + picked r.wait 8) _ (apply_do hinv.ok (t := m.now + picked r.wait 8) (by omega) (by omega) hcc) (by omega) (by omega) A1 B1 n1 c1 k1 d1 w' hE hC hN
   have e1 : (doM (laterM m (m.now + picked r.wait 8)) (callD m r)).1 = stepM m r := rfl
   rw [e1] at hDo
   have e2 : (stepM m r).now = m.now + picked r.wait 8 := doM_now
   clear e1 hcc hinv
   generalize (doM (laterM m (m.now + picked r.wait 8)) (callD m r)).2 = RE at *
   generalize stepM m r = m' at *
   obtain ⟨dc, doff, dw, ⟨rk, ry, rf, rr, rx⟩⟩ := r
   simp only [DeedD.cells] at hmk
   simp only at p0 p1 hpk hmk hDo hmay e2
   generalize picked dw 8 = p at *
   generalize callD m ⟨dc, doff, dw, ⟨rk, ry, rf, rr, rx⟩⟩ = cm at *
   obtain ⟨cc, cs, ⟨ck, cy, cf, ct, cn⟩⟩ := cm
   obtain ⟨rc, rt, rn, rl⟩ := RE
   obtain ⟨now, ents, next, clis⟩ := m
   obtain ⟨now', ents', next', clis'⟩ := m'
   simp only [callV] at hmk
   simp only at hmk hDo e2 h0 hnow M C V
   subst e2
   have wp : IntKind.i64.wrap (now + p) = now + p := IntWalk.i64_in _ (by omega)
   have HP := hide hpk; have HMK := hide hmk; have HDO := hide hDo; have HMY := hide hmay
   clear hmk hDo hmay hpk hdk
   obtain ⟨i0, i1, i2, i3, i4, i5, i6, i7⟩ := R
   simp only at i0 i1 i2 i3 i4 i5 i6 i7
   (try clear cV fV); have cV := V.cell; have fV := V.frozen
   go_wp2_with fail
   refine (HP.out _).mono ?_
   rintro e w' ⟨rfl, rfl⟩
   go_wp2_with fail
   have hsG : ∀ w', Below wr.heap.size wr w' → (w'.cell? ⟨gv, 0, none⟩ = some (.int .i64 now) ∧ w'.cell? ⟨gv, 1, none⟩ = some (.slice A1 n1 c1) ∧ w'.cell? ⟨gv, 2, none⟩ = some (.int .i64 next) ∧ w'.cell? ⟨gv, 3, none⟩ = some (.slice B1 k1 d1) ∧ w'.cell? ⟨b, off + k * 8, none⟩ = some (.int .i64 dc) ∧ w'.cell? ⟨b, off + k * 8 + 1, none⟩ = some (.int .i64 doff) ∧ w'.cell? ⟨b, off + k * 8 + 2, none⟩ = some (.int .i64 dw) ∧ w'.cell? ⟨b, off + k * 8 + 3, none⟩ = some (.int .i64 rk) ∧ w'.cell? ⟨b, off + k * 8 + 4, none⟩ = some (.int .i64 ry) ∧ w'.cell? ⟨b, off + k * 8 + 5, none⟩ = some (.int .i64 rf) ∧ w'.cell? ⟨b, off + k * 8 + 6, none⟩ = some (.int .i64 rr) ∧ w'.cell? ⟨b, off + k * 8 + 7, none⟩ = some (.string rx)) := fun w' q => by
    have V' := V.below' q
    exact ⟨V'.cell 0, V'.cell 1, V'.cell 2, V'.cell 3, (q.cell (p := ⟨b, off + k * 8, none⟩) hbb).trans i0, (q.cell (p := ⟨b, off + k * 8 + 1, none⟩) hbb).trans i1, (q.cell (p := ⟨b, off + k * 8 + 2, none⟩) hbb).trans i2, (q.cell (p := ⟨b, off + k * 8 + 3, none⟩) hbb).trans i3, (q.cell (p := ⟨b, off + k * 8 + 4, none⟩) hbb).trans i4, (q.cell (p := ⟨b, off + k * 8 + 5, none⟩) hbb).trans i5, (q.cell (p := ⟨b, off + k * 8 + 6, none⟩) hbb).trans i6, (q.cell (p := ⟨b, off + k * 8 + 7, none⟩) hbb).trans i7⟩
   refine wp_region_x (l := []) (S := fun w' => w'.cell? ⟨gv, 0, none⟩ = some (.int .i64 now) ∧ w'.cell? ⟨gv, 1, none⟩ = some (.slice A1 n1 c1) ∧ w'.cell? ⟨gv, 2, none⟩ = some (.int .i64 next) ∧ w'.cell? ⟨gv, 3, none⟩ = some (.slice B1 k1 d1) ∧ w'.cell? ⟨b, off + k * 8, none⟩ = some (.int .i64 dc) ∧ w'.cell? ⟨b, off + k * 8 + 1, none⟩ = some (.int .i64 doff) ∧ w'.cell? ⟨b, off + k * 8 + 2, none⟩ = some (.int .i64 dw) ∧ w'.cell? ⟨b, off + k * 8 + 3, none⟩ = some (.int .i64 rk) ∧ w'.cell? ⟨b, off + k * 8 + 4, none⟩ = some (.int .i64 ry) ∧ w'.cell? ⟨b, off + k * 8 + 5, none⟩ = some (.int .i64 rf) ∧ w'.cell? ⟨b, off + k * 8 + 6, none⟩ = some (.int .i64 rr) ∧ w'.cell? ⟨b, off + k * 8 + 7, none⟩ = some (.string rx)) (by kernel_rfl) (hsG _ (Below.refl _ wr).drew) (fun hS => ?_)
   refine wpAnyX_tk (i := 0) (v := ?xv0) rfl (Or.inl ⟨by rfl, ?xh0⟩) ?xr0; (case xh0 => (intro w hSw; (try dsimp only at hSw); go_simp; (try with_reducible rfl))); (try simp only [Act.put, List.setIfInBounds_toArray, List.set_cons_zero, List.set_cons_succ, List.getElem_toArray, List.getElem_cons_zero, List.getElem_cons_succ])
   refine wpAnyX_tk (i := 1) (v := ?xv1) rfl (Or.inl ⟨by rfl, ?xh1⟩) ?xr1; (case xh1 => (intro w hSw; (try dsimp only at hSw); go_simp; (try with_reducible rfl))); (try simp only [Act.put, List.setIfInBounds_toArray, List.set_cons_zero, List.set_cons_succ, List.getElem_toArray, List.getElem_cons_zero, List.getElem_cons_succ])
   refine wpAnyX_tk (i := 2) (v := ?xv2) rfl (Or.inl ⟨by rfl, ?xh2⟩) ?xr2; (case xh2 => (intro w hSw; (try dsimp only at hSw); go_simp; (try with_reducible rfl))); (try simp only [Act.put, List.setIfInBounds_toArray, List.set_cons_zero, List.set_cons_succ, List.getElem_toArray, List.getElem_cons_zero, List.getElem_cons_succ])
   refine wpAnyX_tk (i := 3) (v := ?xv3) rfl (Or.inl ⟨by rfl, ?xh3⟩) ?xr3; (case xh3 => (intro w hSw; (try dsimp only at hSw); go_simp; (try with_reducible rfl))); (try simp only [Act.put, List.setIfInBounds_toArray, List.set_cons_zero, List.set_cons_succ, List.getElem_toArray, List.getElem_cons_zero, List.getElem_cons_succ])
   refine wpAnyX_tk (i := 4) (v := ?xv4) rfl (Or.inl ⟨by rfl, ?xh4⟩) ?xr4; (case xh4 => (intro w hSw; (try dsimp only at hSw); go_simp; (try with_reducible rfl))); (try simp only [Act.put, List.setIfInBounds_toArray, List.set_cons_zero, List.set_cons_succ, List.getElem_toArray, List.getElem_cons_zero, List.getElem_cons_succ])
   refine wpAnyX_tk (i := 5) (v := ?xv5) rfl (Or.inl ⟨by rfl, ?xh5⟩) ?xr5; (case xh5 => (intro w hSw; (try dsimp only at hSw); go_simp; (try with_reducible rfl))); (try simp only [Act.put, List.setIfInBounds_toArray, List.set_cons_zero, List.set_cons_succ, List.getElem_toArray, List.getElem_cons_zero, List.getElem_cons_succ])
   refine wpAnyX_tk (i := 6) (v := ?xv6) rfl (Or.inl ⟨by rfl, ?xh6⟩) ?xr6; (case xh6 => (intro w hSw; (try dsimp only at hSw); go_simp; (try with_reducible rfl))); (try simp only [Act.put, List.setIfInBounds_toArray, List.set_cons_zero, List.set_cons_succ, List.getElem_toArray, List.getElem_cons_zero, List.getElem_cons_succ])
   have HSG := hide hsG
   clear hsG hS cV fV i0 i1 i2 i3 i4 i5 i6 i7
   refine wpX_start (n := 9 + left2 false false) (listed := (fun b_ c_ => #[true, true, true, true, true, true, true, false, false, false, false, false, false, b_, c_, false, false, false]) false false) (j1 := 13) (d1 := 6) (t1 := 32) (z1 := #[.int .i64 0, .slice none 0 0, .int .i64 0, .slice none 0 0]) (j2 := 14) (d2 := 7) (t2 := 37) (z2 := #[.int .i64 0, .string { data := #[] }, .int .i64 0, .slice none 0 0]) ?al1 ?al2 ?aln ?all (fun al1 al2 => ?alr); (case al1 => exact ⟨⟨_, rfl, rfl, rfl, fun a w => by simp [go_sem, execOp]⟩⟩); (case al2 => exact ⟨⟨_, rfl, rfl, rfl, fun a w => by simp [go_sem, execOp]⟩⟩); (case aln => kernel_rfl); (case all => kernel_rfl)
   refine' wpX_phase' (f := 8) (i := 7) (L := (fun b_ c_ => #[true, true, true, true, true, true, true, false, false, false, false, false, false, b_, c_, false, false, false])) (L' := (fun b_ c_ => #[true, true, true, true, true, true, true, true, false, false, false, false, false, b_, c_, false, false, false])) (base := wr.heap.size) (G := (fun w' => Below wr.heap.size wr w')) (b := false) (c := false) (x := u6) (y := u7) al1 al2 ?an7 ?al7 ?aa7 ?ar7 ?ai7 ?ag7 ?ae17 ?ae27 ?ae37 ?ap17 ?ap27 HSG.out (fun w' o q => q.alloc q.size o) (fun w' q => q.size) ?aw7 Pend.no Pend.no Two.no ?am7; (case an7 => rfl); (case al7 => rfl); (case aa7 => rfl); (case ar7 => kernel_rfl); (case ai7 => rfl); (case ag7 => rfl); (case ae17 => (intros; rfl)); (case ae27 => (intros; rfl)); (case ae37 => (intros; rfl)); (case ap17 => (intros; rfl)); (case ap27 => (intros; rfl))
   (case aw7 => exact (Below.refl _ wr).drew)
   intro b_ c_ x_ y_ wp1 hG_ hx_ hy_ hxy_ K_ hK_; (try simp only [Act.put, List.setIfInBounds_toArray, List.set_cons_zero, List.set_cons_succ, List.getElem_toArray, List.getElem_cons_zero, List.getElem_cons_succ])
   go_wp2_with fail
   refine (HMK.out _ (C.bl hG_)).mono ?_
   rintro e w4 ⟨rfl, hbp⟩
   go_wp2_with fail
   have qp : Below wr.heap.size wr w4 := bstep hG_ hbp
   have hSp := HSG.out _ qp
   refine hK_.out _ _ (Or.inr hSp) ?_
   clear hK_ K_ hG_
   refine' wpX_phase' (f := 7) (i := 8) (L := (fun b_ c_ => #[true, true, true, true, true, true, true, true, false, false, false, false, false, b_, c_, false, false, false])) (L' := (fun b_ c_ => #[true, true, true, true, true, true, true, true, true, false, false, false, false, b_, c_, false, false, false])) (base := wr.heap.size) (G := (fun w' => Below wr.heap.size wr w')) (b := b_) (c := c_) (x := x_) (y := y_) al1 al2 ?an8 ?al8 ?aa8 ?ar8 ?ai8 ?ag8 ?ae18 ?ae28 ?ae38 ?ap18 ?ap28 HSG.out (fun w' o q => q.alloc q.size o) (fun w' q => q.size) ?aw8 (hx_.bl hbp) (hy_.bl hbp) hxy_ ?am8; (case an8 => rfl); (case al8 => rfl); (case aa8 => rfl); (case ar8 => kernel_rfl); (case ai8 => rfl); (case ag8 => rfl); (case ae18 => (intros; rfl)); (case ae28 => (intros; rfl)); (case ae38 => (intros; rfl)); (case ap18 => (intros; rfl)); (case ap28 => (intros; rfl))
   (case aw8 => exact qp)
   clear hx_ hy_ hxy_ x_ y_ b_ c_ hbp
   intro b_ c_ x_ y_ wp2 hG_ hx_ hy_ hxy_ K_ hK_; (try simp only [Act.put, List.setIfInBounds_toArray, List.set_cons_zero, List.set_cons_succ, List.getElem_toArray, List.getElem_cons_zero, List.getElem_cons_succ])
   go_wp2_with fail
   refine (HDO.out _ (M.bl hG_) (C.bl hG_) (hN.bl (bstep hbr hG_))).mono ?_
   rintro e w6 ⟨A2, n2, c2, B2, k2, d2, Y2, m2, o2, rfl, S6, C6, T6, hbp⟩
   go_wp2_with fail
   have qp : Below wr.heap.size wr w6 := bstep hG_ hbp
   have hSp := HSG.out _ qp
   refine hK_.out _ _ (Or.inr hSp) ?_
   clear hK_ K_ hG_
   refine' wpX_take' (f := 6) (i := 9) (v := ?xv9) (L := (fun b_ c_ => #[true, true, true, true, true, true, true, true, true, false, false, false, false, b_, c_, false, false, false])) (L' := (fun b_ c_ => #[true, true, true, true, true, true, true, true, true, true, false, false, false, b_, c_, false, false, false])) ?tan9 ?tal9 rfl (by kernel_rfl) ?tar9 (by kernel_rfl) ?tae39 (fun _ _ _ h => h) (Or.inl ⟨by rfl, ?xh9⟩) ?taw9 ?xr9; (case tan9 => rfl); (case tal9 => rfl); (case tar9 => kernel_rfl); (case tae39 => (intros; rfl)); (case taw9 => assumption); (case xh9 => (intro w hSw; (try dsimp only at hSw); go_simp; (try with_reducible rfl))); (try simp only [Act.put, List.setIfInBounds_toArray, List.set_cons_zero, List.set_cons_succ, List.getElem_toArray, List.getElem_cons_zero, List.getElem_cons_succ])
   refine' wpX_take' (f := 5) (i := 10) (v := ?xv10) (L := (fun b_ c_ => #[true, true, true, true, true, true, true, true, true, true, false, false, false, b_, c_, false, false, false])) (L' := (fun b_ c_ => #[true, true, true, true, true, true, true, true, true, true, true, false, false, b_, c_, false, false, false])) ?tan10 ?tal10 rfl (by kernel_rfl) ?tar10 (by kernel_rfl) ?tae310 (fun _ _ _ h => h) (Or.inl ⟨by rfl, ?xh10⟩) ?taw10 ?xr10; (case tan10 => rfl); (case tal10 => rfl); (case tar10 => kernel_rfl); (case tae310 => (intros; rfl)); (case taw10 => assumption); (case xh10 => (intro w hSw; (try dsimp only at hSw); go_simp; (try with_reducible rfl))); (try simp only [Act.put, List.setIfInBounds_toArray, List.set_cons_zero, List.set_cons_succ, List.getElem_toArray, List.getElem_cons_zero, List.getElem_cons_succ])
   refine' wpX_take' (f := 4) (i := 11) (v := ?xv11) (L := (fun b_ c_ => #[true, true, true, true, true, true, true, true, true, true, true, false, false, b_, c_, false, false, false])) (L' := (fun b_ c_ => #[true, true, true, true, true, true, true, true, true, true, true, true, false, b_, c_, false, false, false])) ?tan11 ?tal11 rfl (by kernel_rfl) ?tar11 (by kernel_rfl) ?tae311 (fun _ _ _ h => h) (Or.inl ⟨by rfl, ?xh11⟩) ?taw11 ?xr11; (case tan11 => rfl); (case tal11 => rfl); (case tar11 => kernel_rfl); (case tae311 => (intros; rfl)); (case taw11 => assumption); (case xh11 => (intro w hSw; (try dsimp only at hSw); go_simp; (try with_reducible rfl))); (try simp only [Act.put, List.setIfInBounds_toArray, List.set_cons_zero, List.set_cons_succ, List.getElem_toArray, List.getElem_cons_zero, List.getElem_cons_succ])
   refine' wpX_take' (f := 3) (i := 12) (v := ?xv12) (L := (fun b_ c_ => #[true, true, true, true, true, true, true, true, true, true, true, true, false, b_, c_, false, false, false])) (L' := (fun b_ c_ => #[true, true, true, true, true, true, true, true, true, true, true, true, true, b_, c_, false, false, false])) ?tan12 ?tal12 rfl (by kernel_rfl) ?tar12 (by kernel_rfl) ?tae312 (fun _ _ _ h => h) (Or.inl ⟨by rfl, ?xh12⟩) ?taw12 ?xr12; (case tan12 => rfl); (case tal12 => rfl); (case tar12 => kernel_rfl); (case tae312 => (intros; rfl)); (case taw12 => assumption); (case xh12 => (intro w hSw; (try dsimp only at hSw); go_simp; (try with_reducible rfl))); (try simp only [Act.put, List.setIfInBounds_toArray, List.set_cons_zero, List.set_cons_succ, List.getElem_toArray, List.getElem_cons_zero, List.getElem_cons_succ])
   refine' wpX_lay' (f := 3) (L := (fun b_ c_ => #[true, true, true, true, true, true, true, true, true, true, true, true, true, b_, c_, false, false, false])) (base := wr.heap.size) (G := (fun w' => Below w6.heap.size w6 w')) (b := b_) (c := c_) (x := x_) (y := y_) al1 al2 ?anL ?alL ?aaL ?arL ?ae1L ?ae2L ?ap1L ?ap2L (fun w' q => HSG.out w' (bstep qp q)) (fun w' o q => q.alloc q.size o) (fun w' q => Nat.le_trans qp.size q.size) ?awL (hx_.bl hbp) (hy_.bl hbp) hxy_ ?amL; (case anL => rfl); (case alL => rfl); (case aaL => rfl); (case arL => kernel_rfl); (case ae1L => (intros; rfl)); (case ae2L => (intros; rfl)); (case ap1L => (intros; rfl)); (case ap2L => (intros; rfl))
   (case awL => exact Below.refl _ w6)
   clear hx_ hy_ hxy_ x_ y_ b_ c_ hSp
   intro g1 g2 w7 hb7 hg1 G1 hg2 G2 hgg
   have q7 : Below wr.heap.size wr w7 := bstep qp hb7
   clear al1 al2
   (try clear cG1 fG1); have cG1 := G1.cell; have fG1 := G1.frozen
   refine wpAnyX_one (i := 15) (by kernel_rfl) rfl (by rfl) (fun K hK => ?_); (try simp only [List.getElem_toArray, List.getElem_cons_zero, List.getElem_cons_succ])
   go_wp2_with fail
   refine hK.out _ _ (Or.inr (HSG.out _ (below_set (below_set (below_set (below_set q7 hg1 0 _) hg1 1 _) hg1 2 _) hg1 3 _))) (fun hS => ?_)
   clear hK K hS cG1 fG1
   have F0 := G2.far (p := ⟨g1, 0, none⟩) (by simpa using hgg.symm) (.int .i64 (now + p))
   have F1 := F0.far (p := ⟨g1, 1, none⟩) (by simpa using hgg.symm) (.slice A2 n2 c2)
   have F2 := F1.far (p := ⟨g1, 2, none⟩) (by simpa using hgg.symm) (.int .i64 next')
   have F3 := F2.far (p := ⟨g1, 3, none⟩) (by simpa using hgg.symm) (.slice B2 k2 d2)
   (try clear cF3 fF3); have cF3 := F3.cell; have fF3 := F3.frozen
   refine wpAnyX_one (i := 16) (by kernel_rfl) rfl (by rfl) (fun K hK => ?_); (try simp only [List.getElem_toArray, List.getElem_cons_zero, List.getElem_cons_succ])
   go_wp2_with fail
   refine hK.out _ _ (Or.inr (HSG.out _ (below_set (below_set (below_set (below_set (below_set (below_set (below_set (below_set q7 hg1 0 _) hg1 1 _) hg1 2 _) hg1 3 _) hg2 0 _) hg2 1 _) hg2 2 _) hg2 3 _))) (fun hS => ?_)
   replace hS := hS.resolve_left (by decide)
   clear hK K cF3 fF3
   refine wpAnyX_pure (i := 17) (v := ?xv17) rfl (by kernel_rfl) (Or.inl ⟨by rfl, ?xh17⟩) (Or.inr (by assumption)) ?xr17; (case xh17 => (intro w; go_simp; (try with_reducible rfl))); (try simp only [Act.put, List.setIfInBounds_toArray, List.set_cons_zero, List.set_cons_succ, List.getElem_toArray, List.getElem_cons_zero, List.getElem_cons_succ])
   clear hS
   refine wpAnyX_done (by kernel_rfl) ?_ _
   clear F0 F1 F2 F3
   obtain ⟨X1, gr1, sz1⟩ := whole_mach (Value.int .i64 (now + p)) (Value.slice A2 n2 c2) (Value.int .i64 next') (Value.slice B2 k2 d2) G1
   have Y1 := grown_blk G2 gr1 hgg.symm
   obtain ⟨X2, gr2, sz2⟩ := whole_reply (Value.int .i64 rc) (Value.string rt) (Value.int .i64 rn) (Value.slice Y2 m2 o2) Y1
   have X1' := grown_blk X1 gr2 hgg
   have q8 := below_grow (below_grow q7 gr1 q7.size hg1) gr2 (by rw [sz1]; exact q7.size) hg2
   have S8 := ((S6.bl hb7).grown G1 gr1).grown Y1 gr2
   have C8 := ((C6.bl hb7).grown G1 gr1).grown Y1 gr2
   have T8 := ((T6.bl hb7).grown G1 gr1).grown Y1 gr2
   have V8 := grown_blk (grown_blk (V.below' q7) gr1 (by omega)) gr2 (by omega)
   have Z8 := grown_blk (grown_blk (Z.below' q7) gr1 (by omega)) gr2 (by omega)
   obtain ⟨w8, hw8⟩ : ∃ w8, w8 = ((((((((w7.setCell ⟨g1, 0, none⟩ (Value.int .i64 (now + p))).setCell ⟨g1, 1, none⟩ (Value.slice A2 n2 c2)).setCell ⟨g1, 2, none⟩ (Value.int .i64 next')).setCell ⟨g1, 3, none⟩ (Value.slice B2 k2 d2)).setCell ⟨g2, 0, none⟩ (Value.int .i64 rc)).setCell ⟨g2, 1, none⟩ (Value.string rt)).setCell ⟨g2, 2, none⟩ (Value.int .i64 rn)).setCell ⟨g2, 3, none⟩ (Value.slice Y2 m2 o2)) := ⟨_, rfl⟩
   rw [← hw8] at q8 X1' X2 S8 C8 T8 V8 Z8 ⊢
   clear hw8 gr1 gr2 sz1 sz2 Y1 X1 G1 G2 q7 hb7 S6 C6 T6
   have X1 := X1'
   clear X1'
   have hw8 := q8.size
   (try clear cX1 fX1); have cX1 := X1.cell; have fX1 := X1.frozen; (try clear cV8 fV8); have cV8 := V8.cell; have fV8 := V8.frozen
   go_wp2_with fail
   go_roundw
   case rel =>
    obtain ⟨V9, gr9, sz9⟩ := whole_mach (.int .i64 (now + p)) (.slice A2 n2 c2) (.int .i64 next') (.slice B2 k2 d2) V8
    exact ⟨k + 1, by omega, by omega, by go_num, ⟨now + p, ents', next', clis'⟩, A2, n2, c2, B2, k2, d2, rfl, ⟨_, _, _, _, grown_blk Z8 gr9 (by omega)⟩, V9, S8.grown V8 gr9, C8.grown V8 gr9, HQ', HMY, below_grow (bstep hbr q8) gr9 (by omega) (by omega)⟩
   case measure => simp [intOf]; omega
  ·have HE := hide (mach_end hlt HQ)
   (try clear cZ fZ); have cZ := Z.cell; have fZ := Z.frozen; (try clear cV fV); have cV := V.cell; have fV := V.frozen
   obtain ⟨Z9, gr9, sz9⟩ := whole_mach (.int .i64 m.now) (.slice A1 n1 c1) (.int .i64 m.next) (.slice B1 k1 d1) Z
   have S9 := M.grown Z gr9
   have C9 := C.grown Z gr9
   have q9 := below_grow hbr gr9 (by omega) (Nat.le_refl _)
   have HP := hide (show MachPost (machOf l) w (.returned (.agg #[.int .i64 m.now, .slice A1 n1 c1, .int .i64 m.next, .slice B1 k1 d1])) _ from ⟨A1, n1, c1, B1, k1, d1, by rw [HE.out], by rw [HE.out]; exact S9, by rw [HE.out]; exact C9, q9⟩)
   have cZ9 := hide Z9.cell
   clear S9 C9 q9 gr9 sz9 HE
   by_cases h1 : k < l.length
   ·have h40' : ¬ ((k : Int) < 40) := by omega
    go_wp2_with fail
    have cZ9 := cZ9.out
    refine bodyPost_ret (v := .agg #[.int .i64 m.now, .slice A1 n1 c1, .int .i64 m.next, .slice B1 k1 d1]) ?_ rfl HP.out
    simp [results, Tryz.results23, go_sem, cZ9]
   ·go_wp2_with fail
    have cZ9 := cZ9.out
    refine bodyPost_ret (v := .agg #[.int .i64 m.now, .slice A1 n1 c1, .int .i64 m.next, .slice B1 k1 d1]) ?_ rfl HP.out
    simp [results, Tryz.results23, go_sem, cZ9]
end Go.Proofs.YtgpkgegpcgiokaaGreatDoor

