/- rostrumkeep.SeqRuns returns true for every input; client.nothing holds what its initialiser lays. -/
import Derived.Test.YtgpkgegpcgiokaaGreatDoorMachE
import Derived.Test.YtgpkgegpcgiokaaGreatDoorLaidN
import Derived.Test.YtgpkgegpcgiokaaGreatDoorMachL
namespace Go.Proofs.YtgpkgegpcgiokaaGreatDoor
set_option linter.all false
open Go.ChangeShapes Go.WideShapes Go.ChangeAt Go.RowKit
theorem opened_none : openedM [] = ⟨0, [], 2, [⟨1, 0, 0, zeroRe⟩]⟩ := by
  unfold openedM openM machOf
  simp [newM]
/-- What a machine is behind so many calls of its one client. -/
structure Runs (i : Nat) (m : Mach) : Prop where
  ok : MachOk m
  now : m.now = 0
  next : m.next = 2
  one : ∃ r, m.clis = [⟨1, (i : Int), 0, r⟩]
theorem runs_zero : Runs 0 (openedM []) := ⟨(opened_inv []).ok, by rw [opened_none], by rw [opened_none], by rw [opened_none]; exact ⟨_, rfl⟩⟩
theorem runs_step {i : Nat} {m : Mach} {cm : Cmd} (h : Runs i m) (hi : i ≤ 100) (hc : ccOf cm = 0) {p : Int} (p0 : 0 ≤ p) (p1 : p < 9) :
    ∃ x r, Runs (i + 1) x ∧ x.clis = [⟨1, (i : Int) + 1, 0, r⟩] ∧ applyM m 0 ⟨1, (i : Int) + 1, cm⟩ = (x, r, 0) ∧ applyM x 0 ⟨1, (i : Int) + 3 + p, cm⟩ = (x, failR 10, 0) := by
  obtain ⟨ok, hn, hx, r0, hr⟩ := h
  have h0 : 0 < m.clis.length := by rw [hr]; simp
  have e0 : m.clis[0] = ⟨1, (i : Int), 0, r0⟩ := by simp [hr]
  obtain ⟨a1, okx⟩ := next_plan ok h0 (s := (i : Int) + 1) (cm := cm) (by rw [e0]) (by omega) hc
  rw [e0] at a1 okx
  simp only at a1 okx
  have hcl : (madeM m 0 1 ((i : Int) + 1) cm).clis = [⟨1, (i : Int) + 1, 0, (doS m.now m.ents cm).2⟩] := by
    show m.clis.set 0 _ = _
    rw [hr, hn]
    rfl
  have hnw : (madeM m 0 1 ((i : Int) + 1) cm).now = 0 := hn
  refine ⟨madeM m 0 1 ((i : Int) + 1) cm, (doS m.now m.ents cm).2, ⟨okx, hnw, hx, _, by rw [hcl]; push_cast; rfl⟩, hcl, by rw [hn] at a1 ⊢; exact a1, ?_⟩
  have h1 : 0 < (madeM m 0 1 ((i : Int) + 1) cm).clis.length := by rw [hcl]; simp
  have e1 : (madeM m 0 1 ((i : Int) + 1) cm).clis[0] = ⟨1, (i : Int) + 1, 0, (doS m.now m.ents cm).2⟩ := by simp [hcl]
  have hcc : ccM ⟨1, (i : Int) + 3 + p, cm⟩ = 0 := cc_of (by omega) (by omega) (by omega) (by omega) hc
  have a2 := apply_now okx hcc
  rw [hnw] at a2
  have a3 := do_order okx h1 (s := (i : Int) + 3 + p) (cm := cm) (by rw [e1]; simp only; omega) (by rw [e1]; simp only; omega)
  rw [e1] at a3
  simp only at a3
  rw [a2, a3]
set_option maxRecDepth 100000 in
set_option maxHeartbeats 16000000 in
theorem seqRuns_walk (A : Option Addr) (n c : Nat) (l : List RawD) (num : Int) (w : World) (hS : Sl w 5 A n c (rawRows l)) (hd : ∀ d ∈ l, d.ok) (hnum : I64 num) (hN : Noth w) :
    Calls Tryz.prog 10 #[.slice A n c, .int .i64 num] w fun e w' => e = .returned (.bool true) ∧ Below w.heap.size w w' := by
  have hF := opened_any none 0 0 [] w (Sl.nil_ w 8) (by simp) hN
  have hrz := runs_zero
  generalize openedM [] = m0 at *
  have hn := raw_len hS
  subst hn
  have hlm := hS.nc
  have hlm' := hS.cm
  unfold maxLen at hlm'
  have p0 := picked_lo num 9 (by omega)
  have p1 := picked_hi num 9 (by omega)
  have hp := fun w => picked_any num 9 w hnum.1 hnum.2 (by omega) (by omega)
  generalize picked num 9 = p at *
  have HD := hide hd; have HP := hide hp
  clear hd hp hnum
  obtain ⟨now0, ents0, next0, clis0⟩ := m0
  have hz0 := hrz.now; have hz1 := hrz.next
  simp only at hz0 hz1
  subst hz0; subst hz1
  have HF := hide hF
  have HRZ := hide hrz
  clear hF hrz
  go_enter Tryz.func10, Tryz.ntmps10
  go_wp2_with fail
  refine HF.out.mono ?_
  rintro e w1 ⟨A1, n1, c1, B1, k1, d1, rfl, S1, C1, hb1⟩
  have q : Below w.heap.size w w1 := below_by
  clear hb1 HF
  have D1 := Blk.new w1 32 #[.int .i64 (0), .slice A1 n1 c1, .int .i64 (2), .slice B1 k1 d1]; replace S1 := S1.al (.cells #[.int .i64 (0), .slice A1 n1 c1, .int .i64 (2), .slice B1 k1 d1] 32); replace C1 := C1.al (.cells #[.int .i64 (0), .slice A1 n1 c1, .int .i64 (2), .slice B1 k1 d1] 32)
  have q0 : Below w.heap.size w (w1.alloc (.cells #[.int .i64 (0), .slice A1 n1 c1, .int .i64 (2), .slice B1 k1 d1] 32)) := below_by
  (try clear cD1 fD1); have cD1 := D1.cell; have fD1 := D1.frozen
  go_wp2_with fail
  obtain ⟨gv, hgv⟩ : ∃ gv, gv = w1.heap.size := ⟨_, rfl⟩
  obtain ⟨w2, hw2⟩ : ∃ w2, w2 = (w1.alloc (.cells #[.int .i64 (0), .slice A1 n1 c1, .int .i64 (2), .slice B1 k1 d1] 32)) := ⟨_, rfl⟩
  have hgq : w.heap.size ≤ gv := by have := q.size; omega
  rw [← hw2] at S1 C1 D1 q0 ⊢
  rw [← hgv] at D1 ⊢
  clear hw2 hgv q cD1 fD1
  go_loopw [7] (fun s7 wr => ∃ i : Nat, i ≤ l.length ∧ i ≤ 20 ∧ s7 = .int .i64 i ∧ ∃ (m : Mach) (A1 : Option Addr) (n1 c1 : Nat) (B1 : Option Addr) (k1 d1 : Nat),
      Blk wr gv 32 #[.int .i64 0, .slice A1 n1 c1, .int .i64 2, .slice B1 k1 d1] ∧ St wr A1 n1 c1 m.ents ∧ Ci wr B1 k1 d1 m.clis ∧ Hid (Runs i m) ∧ Below w.heap.size w wr)
    (fun s7 _ => l.length - (intOf s7).toNat)
  case atStart => exact ⟨0, by omega, by omega, rfl, ⟨0, ents0, 2, clis0⟩, A1, n1, c1, B1, k1, d1, D1, S1, C1, HRZ, q0⟩
  case round =>
    clear S1 C1 D1 q0 HRZ
    obtain ⟨i, hi', hi20, rfl, m, A1, n1, c1, B1, k1, d1, V, M, C, HM, hbr⟩ := hrel
    have hbs := hbr.size
    have hv1 := V.lt
    by_cases hlt : i < l.length ∧ i < 20
    · obtain ⟨hlt, hlt20⟩ := hlt
      obtain ⟨b, off, rfl, hbb, R⟩ := (hS.below hbr).raw hlt
      have hdk : (l[i]).ok := HD.out _ (List.getElem_mem hlt)
      generalize l[i] = r at R hdk
      have hmk := fun w => CommandM_any r hdk w
      obtain ⟨x, rr_, hx, hxc, a1, a2⟩ := runs_step HM.out (by omega) (cmd_cc r) p0 p1
      have hok := HM.out.ok
      have hm0 := HM.out.now
      have hm1 := HM.out.next
      have hx0 := hx.now
      have hx1 := hx.next
      have hDo := fun A1 n1 c1 B1 k1 d1 w' hE hC hN => DoM_any hok _ _ _ a1 (by omega) (by omega) A1 B1 n1 c1 k1 d1 w' hE hC hN
      have hD2 := fun A1 n1 c1 B1 k1 d1 w' hE hC hN => DoM_any hx.ok _ _ _ a2 (by omega) (by omega) A1 B1 n1 c1 k1 d1 w' hE hC hN
      have hsm := fun A A' B B' n c n' c' k d k' d' w h1 h2 h3 h4 => sameMachine_eq x A A' B B' n c n' c' k d k' d' w h1 h2 h3 h4 (by have := hx.ok.sto.few; omega) (by have := hx.ok.few; omega)
      clear a1 a2 hok HM hdk
      generalize cmdR r = cm at *
      obtain ⟨now, ents, next, clis⟩ := m
      obtain ⟨xnow, xents, xnext, xclis⟩ := x
      obtain ⟨ck, cy, cf, ct, cn⟩ := cm
      obtain ⟨rc, rt, rn, rl⟩ := rr_
      obtain ⟨rk, ry, rf, rr, rx⟩ := r
      have hfr : failR 10 = ⟨10, { data := #[] }, 0, []⟩ := rfl
      rw [hfr] at hD2
      simp only [cmdW] at hmk
      simp only at hDo hD2 hsm hm0 hm1 hx0 hx1 hxc M C
      subst hm0; subst hm1; subst hx0; subst hx1; subst hxc
      have wi1 : IntKind.i64.wrap ((i : Int) + 1) = (i : Int) + 1 := IntWalk.i64_in _ (by omega)
      have wi3 : IntKind.i64.wrap ((i : Int) + 3) = (i : Int) + 3 := IntWalk.i64_in _ (by omega)
      have wip : IntKind.i64.wrap ((i : Int) + 3 + p) = (i : Int) + 3 + p := IntWalk.i64_in _ (by omega)
      have HMK := hide hmk; have HDO := hide hDo; have HD2 := hide hD2; have HSM := hide hsm; have HX := hide hx
      have HSR := hide (fun A B n m c d w' ha hb => sameReply_eq ⟨rc, rt, rn, rl⟩ ⟨rc, rt, rn, rl⟩ A B n m c d w' ha hb rfl)
      clear hmk hDo hD2 hsm hx hfr
      obtain ⟨i0, i1, i2, i3, i4⟩ := R
      simp only at i0 i1 i2 i3 i4
      have hz1 : (0 : Int) ≤ (i : Int) := by omega
      have hz2 : (i : Int) < (l.length : Int) := by omega
      go_wp2_with fail
      have N1 := hN.bl hbr
      have hsG : ∀ w', Below wr.heap.size wr w' → (w'.cell? ⟨gv, 0, none⟩ = some (.int .i64 0) ∧ w'.cell? ⟨gv, 1, none⟩ = some (.slice A1 n1 c1) ∧ w'.cell? ⟨gv, 2, none⟩ = some (.int .i64 2) ∧ w'.cell? ⟨gv, 3, none⟩ = some (.slice B1 k1 d1) ∧ w'.cell? ⟨b, off + i * 5, none⟩ = some (.int .i64 rk) ∧ w'.cell? ⟨b, off + i * 5 + 1, none⟩ = some (.int .i64 ry) ∧ w'.cell? ⟨b, off + i * 5 + 2, none⟩ = some (.int .i64 rf) ∧ w'.cell? ⟨b, off + i * 5 + 3, none⟩ = some (.int .i64 rr) ∧ w'.cell? ⟨b, off + i * 5 + 4, none⟩ = some (.string rx)) := fun w' q => by
        have V' := V.below' q
        exact ⟨V'.cell 0, V'.cell 1, V'.cell 2, V'.cell 3, (q.cell (p := ⟨b, off + i * 5, none⟩) hbb).trans i0, (q.cell (p := ⟨b, off + i * 5 + 1, none⟩) hbb).trans i1, (q.cell (p := ⟨b, off + i * 5 + 2, none⟩) hbb).trans i2, (q.cell (p := ⟨b, off + i * 5 + 3, none⟩) hbb).trans i3, (q.cell (p := ⟨b, off + i * 5 + 4, none⟩) hbb).trans i4⟩
      refine wp_region_x (l := []) (S := fun w' => w'.cell? ⟨gv, 0, none⟩ = some (.int .i64 0) ∧ w'.cell? ⟨gv, 1, none⟩ = some (.slice A1 n1 c1) ∧ w'.cell? ⟨gv, 2, none⟩ = some (.int .i64 2) ∧ w'.cell? ⟨gv, 3, none⟩ = some (.slice B1 k1 d1) ∧ w'.cell? ⟨b, off + i * 5, none⟩ = some (.int .i64 rk) ∧ w'.cell? ⟨b, off + i * 5 + 1, none⟩ = some (.int .i64 ry) ∧ w'.cell? ⟨b, off + i * 5 + 2, none⟩ = some (.int .i64 rf) ∧ w'.cell? ⟨b, off + i * 5 + 3, none⟩ = some (.int .i64 rr) ∧ w'.cell? ⟨b, off + i * 5 + 4, none⟩ = some (.string rx)) (by kernel_rfl) (hsG _ (Below.refl _ wr).drew) (fun hS => ?_)
      refine wpAnyX_tk (i := 0) (v := ?xv0u) rfl (Or.inl ⟨by rfl, ?xh0u⟩) ?xr0u; (case xh0u => (intro w hSw; (try dsimp only at hSw); go_simp; (try with_reducible rfl))); (try simp only [Act.put, List.setIfInBounds_toArray, List.set_cons_zero, List.set_cons_succ, List.getElem_toArray, List.getElem_cons_zero, List.getElem_cons_succ])
      refine wpAnyX_tk (i := 1) (v := ?xv1u) rfl (Or.inl ⟨by rfl, ?xh1u⟩) ?xr1u; (case xh1u => (intro w hSw; (try dsimp only at hSw); go_simp; (try with_reducible rfl))); (try simp only [Act.put, List.setIfInBounds_toArray, List.set_cons_zero, List.set_cons_succ, List.getElem_toArray, List.getElem_cons_zero, List.getElem_cons_succ])
      refine wpAnyX_tk (i := 2) (v := ?xv2u) rfl (Or.inl ⟨by rfl, ?xh2u⟩) ?xr2u; (case xh2u => (intro w hSw; (try dsimp only at hSw); go_simp; (try with_reducible rfl))); (try simp only [Act.put, List.setIfInBounds_toArray, List.set_cons_zero, List.set_cons_succ, List.getElem_toArray, List.getElem_cons_zero, List.getElem_cons_succ])
      refine wpAnyX_tk (i := 3) (v := ?xv3u) rfl (Or.inl ⟨by rfl, ?xh3u⟩) ?xr3u; (case xh3u => (intro w hSw; (try dsimp only at hSw); go_simp; (try with_reducible rfl))); (try simp only [Act.put, List.setIfInBounds_toArray, List.set_cons_zero, List.set_cons_succ, List.getElem_toArray, List.getElem_cons_zero, List.getElem_cons_succ])
      refine wpAnyX_tk (i := 4) (v := ?xv4u) rfl (Or.inl ⟨by rfl, ?xh4u⟩) ?xr4u; (case xh4u => (intro w hSw; (try dsimp only at hSw); go_simp; (try with_reducible rfl))); (try simp only [Act.put, List.setIfInBounds_toArray, List.set_cons_zero, List.set_cons_succ, List.getElem_toArray, List.getElem_cons_zero, List.getElem_cons_succ])
      refine wpAnyX_tk (i := 5) (v := ?xv5u) rfl (Or.inl ⟨by rfl, ?xh5u⟩) ?xr5u; (case xh5u => (intro w hSw; (try dsimp only at hSw); go_simp; (try with_reducible rfl))); (try simp only [Act.put, List.setIfInBounds_toArray, List.set_cons_zero, List.set_cons_succ, List.getElem_toArray, List.getElem_cons_zero, List.getElem_cons_succ])
      refine wpAnyX_tk (i := 6) (v := ?xv6u) rfl (Or.inl ⟨by rfl, ?xh6u⟩) ?xr6u; (case xh6u => (intro w hSw; (try dsimp only at hSw); go_simp; (try with_reducible rfl))); (try simp only [Act.put, List.setIfInBounds_toArray, List.set_cons_zero, List.set_cons_succ, List.getElem_toArray, List.getElem_cons_zero, List.getElem_cons_succ])
      refine wpAnyX_tk (i := 7) (v := ?xv7u) rfl (Or.inl ⟨by rfl, ?xh7u⟩) ?xr7u; (case xh7u => (intro w hSw; (try dsimp only at hSw); go_simp; (try with_reducible rfl))); (try simp only [Act.put, List.setIfInBounds_toArray, List.set_cons_zero, List.set_cons_succ, List.getElem_toArray, List.getElem_cons_zero, List.getElem_cons_succ])
      refine wpAnyX_tk (i := 8) (v := ?xv8u) rfl (Or.inl ⟨by rfl, ?xh8u⟩) ?xr8u; (case xh8u => (intro w hSw; (try dsimp only at hSw); go_simp; (try with_reducible rfl))); (try simp only [Act.put, List.setIfInBounds_toArray, List.set_cons_zero, List.set_cons_succ, List.getElem_toArray, List.getElem_cons_zero, List.getElem_cons_succ])
      refine wpAnyX_tk (i := 9) (v := ?xv9u) rfl (Or.inl ⟨by rfl, ?xh9u⟩) ?xr9u; (case xh9u => (intro w hSw; (try dsimp only at hSw); go_simp; (try with_reducible rfl))); (try simp only [Act.put, List.setIfInBounds_toArray, List.set_cons_zero, List.set_cons_succ, List.getElem_toArray, List.getElem_cons_zero, List.getElem_cons_succ])
      refine wpAnyX_tk (i := 10) (v := ?xv10u) rfl (Or.inl ⟨by rfl, ?xh10u⟩) ?xr10u; (case xh10u => (intro w hSw; (try dsimp only at hSw); go_simp; (try with_reducible rfl))); (try simp only [Act.put, List.setIfInBounds_toArray, List.set_cons_zero, List.set_cons_succ, List.getElem_toArray, List.getElem_cons_zero, List.getElem_cons_succ])
      have HSG := hide hsG
      clear hsG hS 
      refine wpX_start (n := 10 + left2 false false) (listed := (fun b_ c_ => #[true, true, true, true, true, true, true, true, true, true, true, false, false, false, false, false, false, false, b_, c_, false, false, false]) false false) (j1 := 18) (d1 := 8) (t1 := 32) (z1 := #[.int .i64 0, .slice none 0 0, .int .i64 0, .slice none 0 0]) (j2 := 19) (d2 := 9) (t2 := 37) (z2 := #[.int .i64 0, .string { data := #[] }, .int .i64 0, .slice none 0 0]) ?al1u ?al2u ?alnu ?allu (fun al1 al2 => ?alru); (case al1u => exact ⟨⟨_, rfl, rfl, rfl, fun a w => by simp [go_sem, execOp]⟩⟩); (case al2u => exact ⟨⟨_, rfl, rfl, rfl, fun a w => by simp [go_sem, execOp]⟩⟩); (case alnu => kernel_rfl); (case allu => kernel_rfl)
      refine' wpX_phase' (f := 9) (i := 11) (L := (fun b_ c_ => #[true, true, true, true, true, true, true, true, true, true, true, false, false, false, false, false, false, false, b_, c_, false, false, false])) (L' := (fun b_ c_ => #[true, true, true, true, true, true, true, true, true, true, true, true, false, false, false, false, false, false, b_, c_, false, false, false])) (base := wr.heap.size) (G := (fun w' => Below wr.heap.size wr w')) (b := false) (c := false) (x := u8) (y := u9) al1 al2 ?an11u ?al11u ?aa11u ?ar11u ?ai11u ?ag11u ?ae111u ?ae211u ?ae311u ?ap111u ?ap211u HSG.out (fun w' o q => q.alloc q.size o) (fun w' q => q.size) ?aw11u Pend.no Pend.no Two.no ?am11u; (case an11u => rfl); (case al11u => rfl); (case aa11u => rfl); (case ar11u => kernel_rfl); (case ai11u => rfl); (case ag11u => rfl); (case ae111u => (intros; rfl)); (case ae211u => (intros; rfl)); (case ae311u => (intros; rfl)); (case ap111u => (intros; rfl)); (case ap211u => (intros; rfl))
      (case aw11u => exact (Below.refl _ wr).drew)
      intro b_ c_ x_ y_ wp1 hG_ hx_ hy_ hxy_ K_ hK_; (try simp only [Act.put, List.setIfInBounds_toArray, List.set_cons_zero, List.set_cons_succ, List.getElem_toArray, List.getElem_cons_zero, List.getElem_cons_succ])
      go_wp2_with fail
      refine (HMK.out _).mono ?_
      rintro e w4 ⟨rfl, hbp⟩
      go_wp2_with fail
      have qp : Below wr.heap.size wr w4 := bstep hG_ hbp
      have hSp := HSG.out _ qp
      refine hK_.out _ _ (Or.inr hSp) ?_
      clear hK_ K_ hG_
      refine' wpX_take' (f := 8) (i := 12) (v := ?xv12u) (L := (fun b_ c_ => #[true, true, true, true, true, true, true, true, true, true, true, true, false, false, false, false, false, false, b_, c_, false, false, false])) (L' := (fun b_ c_ => #[true, true, true, true, true, true, true, true, true, true, true, true, true, false, false, false, false, false, b_, c_, false, false, false])) ?tan12u ?tal12u rfl (by kernel_rfl) ?tar12u (by kernel_rfl) ?tae312u (fun _ _ _ h => h) (Or.inl ⟨by rfl, ?xh12u⟩) ?taw12u ?xr12u; (case tan12u => rfl); (case tal12u => rfl); (case tar12u => kernel_rfl); (case tae312u => (intros; rfl)); (case taw12u => assumption); (case xh12u => (intro w hSw; (try dsimp only at hSw); go_simp; (try with_reducible rfl))); (try simp only [Act.put, List.setIfInBounds_toArray, List.set_cons_zero, List.set_cons_succ, List.getElem_toArray, List.getElem_cons_zero, List.getElem_cons_succ])
      refine' wpX_phase' (f := 7) (i := 13) (L := (fun b_ c_ => #[true, true, true, true, true, true, true, true, true, true, true, true, true, false, false, false, false, false, b_, c_, false, false, false])) (L' := (fun b_ c_ => #[true, true, true, true, true, true, true, true, true, true, true, true, true, true, false, false, false, false, b_, c_, false, false, false])) (base := wr.heap.size) (G := (fun w' => Below wr.heap.size wr w')) (b := b_) (c := c_) (x := x_) (y := y_) al1 al2 ?an13u ?al13u ?aa13u ?ar13u ?ai13u ?ag13u ?ae113u ?ae213u ?ae313u ?ap113u ?ap213u HSG.out (fun w' o q => q.alloc q.size o) (fun w' q => q.size) ?aw13u (hx_.bl hbp) (hy_.bl hbp) hxy_ ?am13u; (case an13u => rfl); (case al13u => rfl); (case aa13u => rfl); (case ar13u => kernel_rfl); (case ai13u => rfl); (case ag13u => rfl); (case ae113u => (intros; rfl)); (case ae213u => (intros; rfl)); (case ae313u => (intros; rfl)); (case ap113u => (intros; rfl)); (case ap213u => (intros; rfl))
      (case aw13u => exact qp)
      clear hx_ hy_ hxy_ x_ y_ b_ c_ hbp
      intro b_ c_ x_ y_ wp2 hG_ hx_ hy_ hxy_ K_ hK_; (try simp only [Act.put, List.setIfInBounds_toArray, List.set_cons_zero, List.set_cons_succ, List.getElem_toArray, List.getElem_cons_zero, List.getElem_cons_succ])
      go_wp2_with fail
      refine (HDO.out _ _ _ _ _ _ _ (M.bl hG_) (C.bl hG_) (N1.bl hG_)).mono ?_
      rintro e w6 ⟨A2, n2, c2, B2, k2, d2, Y2, m2, o2, rfl, S6, C6, T6, hbp⟩
      go_wp2_with fail
      have qp : Below wr.heap.size wr w6 := bstep hG_ hbp
      have hSp := HSG.out _ qp
      refine hK_.out _ _ (Or.inr hSp) ?_
      clear hK_ K_ hG_
      refine' wpX_take' (f := 6) (i := 14) (v := ?xv14u) (L := (fun b_ c_ => #[true, true, true, true, true, true, true, true, true, true, true, true, true, true, false, false, false, false, b_, c_, false, false, false])) (L' := (fun b_ c_ => #[true, true, true, true, true, true, true, true, true, true, true, true, true, true, true, false, false, false, b_, c_, false, false, false])) ?tan14u ?tal14u rfl (by kernel_rfl) ?tar14u (by kernel_rfl) ?tae314u (fun _ _ _ h => h) (Or.inl ⟨by rfl, ?xh14u⟩) ?taw14u ?xr14u; (case tan14u => rfl); (case tal14u => rfl); (case tar14u => kernel_rfl); (case tae314u => (intros; rfl)); (case taw14u => assumption); (case xh14u => (intro w hSw; (try dsimp only at hSw); go_simp; (try with_reducible rfl))); (try simp only [Act.put, List.setIfInBounds_toArray, List.set_cons_zero, List.set_cons_succ, List.getElem_toArray, List.getElem_cons_zero, List.getElem_cons_succ])
      refine' wpX_take' (f := 5) (i := 15) (v := ?xv15u) (L := (fun b_ c_ => #[true, true, true, true, true, true, true, true, true, true, true, true, true, true, true, false, false, false, b_, c_, false, false, false])) (L' := (fun b_ c_ => #[true, true, true, true, true, true, true, true, true, true, true, true, true, true, true, true, false, false, b_, c_, false, false, false])) ?tan15u ?tal15u rfl (by kernel_rfl) ?tar15u (by kernel_rfl) ?tae315u (fun _ _ _ h => h) (Or.inl ⟨by rfl, ?xh15u⟩) ?taw15u ?xr15u; (case tan15u => rfl); (case tal15u => rfl); (case tar15u => kernel_rfl); (case tae315u => (intros; rfl)); (case taw15u => assumption); (case xh15u => (intro w hSw; (try dsimp only at hSw); go_simp; (try with_reducible rfl))); (try simp only [Act.put, List.setIfInBounds_toArray, List.set_cons_zero, List.set_cons_succ, List.getElem_toArray, List.getElem_cons_zero, List.getElem_cons_succ])
      refine' wpX_take' (f := 4) (i := 16) (v := ?xv16u) (L := (fun b_ c_ => #[true, true, true, true, true, true, true, true, true, true, true, true, true, true, true, true, false, false, b_, c_, false, false, false])) (L' := (fun b_ c_ => #[true, true, true, true, true, true, true, true, true, true, true, true, true, true, true, true, true, false, b_, c_, false, false, false])) ?tan16u ?tal16u rfl (by kernel_rfl) ?tar16u (by kernel_rfl) ?tae316u (fun _ _ _ h => h) (Or.inl ⟨by rfl, ?xh16u⟩) ?taw16u ?xr16u; (case tan16u => rfl); (case tal16u => rfl); (case tar16u => kernel_rfl); (case tae316u => (intros; rfl)); (case taw16u => assumption); (case xh16u => (intro w hSw; (try dsimp only at hSw); go_simp; (try with_reducible rfl))); (try simp only [Act.put, List.setIfInBounds_toArray, List.set_cons_zero, List.set_cons_succ, List.getElem_toArray, List.getElem_cons_zero, List.getElem_cons_succ])
      refine' wpX_take' (f := 3) (i := 17) (v := ?xv17u) (L := (fun b_ c_ => #[true, true, true, true, true, true, true, true, true, true, true, true, true, true, true, true, true, false, b_, c_, false, false, false])) (L' := (fun b_ c_ => #[true, true, true, true, true, true, true, true, true, true, true, true, true, true, true, true, true, true, b_, c_, false, false, false])) ?tan17u ?tal17u rfl (by kernel_rfl) ?tar17u (by kernel_rfl) ?tae317u (fun _ _ _ h => h) (Or.inl ⟨by rfl, ?xh17u⟩) ?taw17u ?xr17u; (case tan17u => rfl); (case tal17u => rfl); (case tar17u => kernel_rfl); (case tae317u => (intros; rfl)); (case taw17u => assumption); (case xh17u => (intro w hSw; (try dsimp only at hSw); go_simp; (try with_reducible rfl))); (try simp only [Act.put, List.setIfInBounds_toArray, List.set_cons_zero, List.set_cons_succ, List.getElem_toArray, List.getElem_cons_zero, List.getElem_cons_succ])
      refine' wpX_lay' (f := 3) (L := (fun b_ c_ => #[true, true, true, true, true, true, true, true, true, true, true, true, true, true, true, true, true, true, b_, c_, false, false, false])) (base := wr.heap.size) (G := (fun w' => Below w6.heap.size w6 w')) (b := b_) (c := c_) (x := x_) (y := y_) al1 al2 ?anLu ?alLu ?aaLu ?arLu ?ae1Lu ?ae2Lu ?ap1Lu ?ap2Lu (fun w' q => HSG.out w' (bstep qp q)) (fun w' o q => q.alloc q.size o) (fun w' q => Nat.le_trans qp.size q.size) ?awLu (hx_.bl hbp) (hy_.bl hbp) hxy_ ?amLu; (case anLu => rfl); (case alLu => rfl); (case aaLu => rfl); (case arLu => kernel_rfl); (case ae1Lu => (intros; rfl)); (case ae2Lu => (intros; rfl)); (case ap1Lu => (intros; rfl)); (case ap2Lu => (intros; rfl))
      (case awLu => exact Below.refl _ w6)
      clear hx_ hy_ hxy_ x_ y_ b_ c_ hSp
      intro g1 g2 w7 hb7 hg1 G1 hg2 G2 hgg
      have q7 : Below wr.heap.size wr w7 := bstep qp hb7
      clear al1 al2
      (try clear cG1 fG1); have cG1 := G1.cell; have fG1 := G1.frozen
      refine wpAnyX_one (i := 20) (by kernel_rfl) rfl (by rfl) (fun K hK => ?_); (try simp only [List.getElem_toArray, List.getElem_cons_zero, List.getElem_cons_succ])
      go_wp2_with fail
      refine hK.out _ _ (Or.inr (HSG.out _ (below_set (below_set (below_set (below_set q7 hg1 0 _) hg1 1 _) hg1 2 _) hg1 3 _))) (fun hS => ?_)
      clear hK K hS cG1 fG1
      have F0 := G2.far (p := ⟨g1, 0, none⟩) (by simpa using hgg.symm) (.int .i64 0)
      have F1 := F0.far (p := ⟨g1, 1, none⟩) (by simpa using hgg.symm) (.slice A2 n2 c2)
      have F2 := F1.far (p := ⟨g1, 2, none⟩) (by simpa using hgg.symm) (.int .i64 2)
      have F3 := F2.far (p := ⟨g1, 3, none⟩) (by simpa using hgg.symm) (.slice B2 k2 d2)
      (try clear cF3 fF3); have cF3 := F3.cell; have fF3 := F3.frozen
      refine wpAnyX_one (i := 21) (by kernel_rfl) rfl (by rfl) (fun K hK => ?_); (try simp only [List.getElem_toArray, List.getElem_cons_zero, List.getElem_cons_succ])
      go_wp2_with fail
      refine hK.out _ _ (Or.inr (HSG.out _ (below_set (below_set (below_set (below_set (below_set (below_set (below_set (below_set q7 hg1 0 _) hg1 1 _) hg1 2 _) hg1 3 _) hg2 0 _) hg2 1 _) hg2 2 _) hg2 3 _))) (fun hS => ?_)
      replace hS := hS.resolve_left (by decide)
      clear hK K cF3 fF3
      refine wpAnyX_pure (i := 22) (v := ?xv22u) rfl (by kernel_rfl) (Or.inl ⟨by rfl, ?xh22u⟩) (Or.inr (by assumption)) ?xr22u; (case xh22u => (intro w; go_simp; (try with_reducible rfl))); (try simp only [Act.put, List.setIfInBounds_toArray, List.set_cons_zero, List.set_cons_succ, List.getElem_toArray, List.getElem_cons_zero, List.getElem_cons_succ])
      clear hS
      refine wpAnyX_done (by kernel_rfl) ?_ _
      clear F0 F1 F2 F3
      obtain ⟨X1, gr1, sz1⟩ := whole_mach (Value.int .i64 0) (Value.slice A2 n2 c2) (Value.int .i64 2) (Value.slice B2 k2 d2) G1
      have Y1 := grown_blk G2 gr1 hgg.symm
      obtain ⟨X2, gr2, sz2⟩ := whole_reply (Value.int .i64 rc) (Value.string rt) (Value.int .i64 rn) (Value.slice Y2 m2 o2) Y1
      have X1' := grown_blk X1 gr2 hgg
      have q8 := below_grow (below_grow q7 gr1 q7.size hg1) gr2 (by rw [sz1]; exact q7.size) hg2
      have S8 := ((S6.bl hb7).grown G1 gr1).grown Y1 gr2
      have C8 := ((C6.bl hb7).grown G1 gr1).grown Y1 gr2
      have T8 := ((T6.bl hb7).grown G1 gr1).grown Y1 gr2
      have V8 := grown_blk (grown_blk (V.below' q7) gr1 (by omega)) gr2 (by omega)
      obtain ⟨wa, hw8⟩ : ∃ wa, wa = ((((((((w7.setCell ⟨g1, 0, none⟩ (Value.int .i64 0)).setCell ⟨g1, 1, none⟩ (Value.slice A2 n2 c2)).setCell ⟨g1, 2, none⟩ (Value.int .i64 2)).setCell ⟨g1, 3, none⟩ (Value.slice B2 k2 d2)).setCell ⟨g2, 0, none⟩ (Value.int .i64 rc)).setCell ⟨g2, 1, none⟩ (Value.string rt)).setCell ⟨g2, 2, none⟩ (Value.int .i64 rn)).setCell ⟨g2, 3, none⟩ (Value.slice Y2 m2 o2)) := ⟨_, rfl⟩
      rw [← hw8] at q8 X1' X2 S8 C8 T8 V8 ⊢
      clear hw8 gr1 gr2 sz1 sz2 Y1 X1 G1 G2 q7 hb7 S6 C6 T6
      have X1 := X1'
      clear X1'
      have bR : Below wr.heap.size wr wa := q8
      have gx0 : w.heap.size ≤ g1 := by omega
      have gy0 : w.heap.size ≤ g2 := by omega
      have qa := bstep hbr q8
      clear q8 HSG HDO V M C N1
      obtain ⟨gx, hgx⟩ : ∃ gx, gx = g1 := ⟨_, rfl⟩
      obtain ⟨gy, hgy⟩ : ∃ gy, gy = g2 := ⟨_, rfl⟩
      rw [← hgx] at X1 gx0 hgg ⊢
      rw [← hgy] at X2 gy0 hgg ⊢
      have hgxv : gv ≠ gx := by omega
      have hgyv : gv ≠ gy := by omega
      clear hgx hgy hg1 hg2
      have PX := X1; have PR := X2; have S2 := S8; have C2 := C8; have T2 := T8; have V := V8
      clear X1 X2 S8 C8 T8 V8
      have N2 := hN.bl qa
      have hv2 := V.lt; have hv3 := PX.lt; have hv4 := PR.lt
      go_wp2_with fail
      have hsG : ∀ w', Below wa.heap.size wa w' → (w'.cell? ⟨gv, 0, none⟩ = some (.int .i64 0) ∧ w'.cell? ⟨gx, 0, none⟩ = some (.int .i64 0) ∧ w'.cell? ⟨gx, 1, none⟩ = some (.slice A2 n2 c2) ∧ w'.cell? ⟨gx, 2, none⟩ = some (.int .i64 2) ∧ w'.cell? ⟨gx, 3, none⟩ = some (.slice B2 k2 d2) ∧ w'.cell? ⟨b, off + i * 5, none⟩ = some (.int .i64 rk) ∧ w'.cell? ⟨b, off + i * 5 + 1, none⟩ = some (.int .i64 ry) ∧ w'.cell? ⟨b, off + i * 5 + 2, none⟩ = some (.int .i64 rf) ∧ w'.cell? ⟨b, off + i * 5 + 3, none⟩ = some (.int .i64 rr) ∧ w'.cell? ⟨b, off + i * 5 + 4, none⟩ = some (.string rx)) := fun w' q => by
        have V' := V.below' q
        have X' := PX.below' q
        have q2 := bstep bR q
        exact ⟨V'.cell 0, X'.cell 0, X'.cell 1, X'.cell 2, X'.cell 3, (q2.cell (p := ⟨b, off + i * 5, none⟩) hbb).trans i0, (q2.cell (p := ⟨b, off + i * 5 + 1, none⟩) hbb).trans i1, (q2.cell (p := ⟨b, off + i * 5 + 2, none⟩) hbb).trans i2, (q2.cell (p := ⟨b, off + i * 5 + 3, none⟩) hbb).trans i3, (q2.cell (p := ⟨b, off + i * 5 + 4, none⟩) hbb).trans i4⟩
      refine wp_region_x (l := []) (S := fun w' => w'.cell? ⟨gv, 0, none⟩ = some (.int .i64 0) ∧ w'.cell? ⟨gx, 0, none⟩ = some (.int .i64 0) ∧ w'.cell? ⟨gx, 1, none⟩ = some (.slice A2 n2 c2) ∧ w'.cell? ⟨gx, 2, none⟩ = some (.int .i64 2) ∧ w'.cell? ⟨gx, 3, none⟩ = some (.slice B2 k2 d2) ∧ w'.cell? ⟨b, off + i * 5, none⟩ = some (.int .i64 rk) ∧ w'.cell? ⟨b, off + i * 5 + 1, none⟩ = some (.int .i64 ry) ∧ w'.cell? ⟨b, off + i * 5 + 2, none⟩ = some (.int .i64 rf) ∧ w'.cell? ⟨b, off + i * 5 + 3, none⟩ = some (.int .i64 rr) ∧ w'.cell? ⟨b, off + i * 5 + 4, none⟩ = some (.string rx)) (by kernel_rfl) (hsG _ (Below.refl _ wa).drew) (fun hS => ?_)
      refine wpAnyX_tk (i := 0) (v := ?xv0v) rfl (Or.inl ⟨by rfl, ?xh0v⟩) ?xr0v; (case xh0v => (intro w hSw; (try dsimp only at hSw); go_simp; (try with_reducible rfl))); (try simp only [Act.put, List.setIfInBounds_toArray, List.set_cons_zero, List.set_cons_succ, List.getElem_toArray, List.getElem_cons_zero, List.getElem_cons_succ])
      refine wpAnyX_tk (i := 1) (v := ?xv1v) rfl (Or.inl ⟨by rfl, ?xh1v⟩) ?xr1v; (case xh1v => (intro w hSw; (try dsimp only at hSw); go_simp; (try with_reducible rfl))); (try simp only [Act.put, List.setIfInBounds_toArray, List.set_cons_zero, List.set_cons_succ, List.getElem_toArray, List.getElem_cons_zero, List.getElem_cons_succ])
      refine wpAnyX_tk (i := 2) (v := ?xv2v) rfl (Or.inl ⟨by rfl, ?xh2v⟩) ?xr2v; (case xh2v => (intro w hSw; (try dsimp only at hSw); go_simp; (try with_reducible rfl))); (try simp only [Act.put, List.setIfInBounds_toArray, List.set_cons_zero, List.set_cons_succ, List.getElem_toArray, List.getElem_cons_zero, List.getElem_cons_succ])
      refine wpAnyX_tk (i := 3) (v := ?xv3v) rfl (Or.inl ⟨by rfl, ?xh3v⟩) ?xr3v; (case xh3v => (intro w hSw; (try dsimp only at hSw); go_simp; (try with_reducible rfl))); (try simp only [Act.put, List.setIfInBounds_toArray, List.set_cons_zero, List.set_cons_succ, List.getElem_toArray, List.getElem_cons_zero, List.getElem_cons_succ])
      refine wpAnyX_tk (i := 4) (v := ?xv4v) rfl (Or.inl ⟨by rfl, ?xh4v⟩) ?xr4v; (case xh4v => (intro w hSw; (try dsimp only at hSw); go_simp; (try with_reducible rfl))); (try simp only [Act.put, List.setIfInBounds_toArray, List.set_cons_zero, List.set_cons_succ, List.getElem_toArray, List.getElem_cons_zero, List.getElem_cons_succ])
      refine wpAnyX_tk (i := 5) (v := ?xv5v) rfl (Or.inl ⟨by rfl, ?xh5v⟩) ?xr5v; (case xh5v => (intro w hSw; (try dsimp only at hSw); go_simp; (try with_reducible rfl))); (try simp only [Act.put, List.setIfInBounds_toArray, List.set_cons_zero, List.set_cons_succ, List.getElem_toArray, List.getElem_cons_zero, List.getElem_cons_succ])
      refine wpAnyX_tk (i := 6) (v := ?xv6v) rfl (Or.inl ⟨by rfl, ?xh6v⟩) ?xr6v; (case xh6v => (intro w hSw; (try dsimp only at hSw); go_simp; (try with_reducible rfl))); (try simp only [Act.put, List.setIfInBounds_toArray, List.set_cons_zero, List.set_cons_succ, List.getElem_toArray, List.getElem_cons_zero, List.getElem_cons_succ])
      refine wpAnyX_tk (i := 7) (v := ?xv7v) rfl (Or.inl ⟨by rfl, ?xh7v⟩) ?xr7v; (case xh7v => (intro w hSw; (try dsimp only at hSw); go_simp; (try with_reducible rfl))); (try simp only [Act.put, List.setIfInBounds_toArray, List.set_cons_zero, List.set_cons_succ, List.getElem_toArray, List.getElem_cons_zero, List.getElem_cons_succ])
      refine wpAnyX_tk (i := 10) (v := ?xv10v) rfl (Or.inl ⟨by rfl, ?xh10v⟩) ?xr10v; (case xh10v => (intro w hSw; (try dsimp only at hSw); go_simp; (try with_reducible rfl))); (try simp only [Act.put, List.setIfInBounds_toArray, List.set_cons_zero, List.set_cons_succ, List.getElem_toArray, List.getElem_cons_zero, List.getElem_cons_succ])
      refine wpAnyX_tk (i := 11) (v := ?xv11v) rfl (Or.inl ⟨by rfl, ?xh11v⟩) ?xr11v; (case xh11v => (intro w hSw; (try dsimp only at hSw); go_simp; (try with_reducible rfl))); (try simp only [Act.put, List.setIfInBounds_toArray, List.set_cons_zero, List.set_cons_succ, List.getElem_toArray, List.getElem_cons_zero, List.getElem_cons_succ])
      refine wpAnyX_tk (i := 12) (v := ?xv12v) rfl (Or.inl ⟨by rfl, ?xh12v⟩) ?xr12v; (case xh12v => (intro w hSw; (try dsimp only at hSw); go_simp; (try with_reducible rfl))); (try simp only [Act.put, List.setIfInBounds_toArray, List.set_cons_zero, List.set_cons_succ, List.getElem_toArray, List.getElem_cons_zero, List.getElem_cons_succ])
      refine wpAnyX_tk (i := 13) (v := ?xv13v) rfl (Or.inl ⟨by rfl, ?xh13v⟩) ?xr13v; (case xh13v => (intro w hSw; (try dsimp only at hSw); go_simp; (try with_reducible rfl))); (try simp only [Act.put, List.setIfInBounds_toArray, List.set_cons_zero, List.set_cons_succ, List.getElem_toArray, List.getElem_cons_zero, List.getElem_cons_succ])
      have HSG := hide hsG
      clear hsG hS 
      refine wpX_start (n := 12 + left2 false false) (listed := (fun b_ c_ => #[true, true, true, true, true, true, true, true, false, false, true, true, true, true, false, false, false, false, false, false, false, b_, c_, false, false, false]) false false) (j1 := 21) (d1 := 11) (t1 := 32) (z1 := #[.int .i64 0, .slice none 0 0, .int .i64 0, .slice none 0 0]) (j2 := 22) (d2 := 12) (t2 := 37) (z2 := #[.int .i64 0, .string { data := #[] }, .int .i64 0, .slice none 0 0]) ?al1v ?al2v ?alnv ?allv (fun al1 al2 => ?alrv); (case al1v => exact ⟨⟨_, rfl, rfl, rfl, fun a w => by simp [go_sem, execOp]⟩⟩); (case al2v => exact ⟨⟨_, rfl, rfl, rfl, fun a w => by simp [go_sem, execOp]⟩⟩); (case alnv => kernel_rfl); (case allv => kernel_rfl)
      refine' wpX_phase' (f := 11) (i := 8) (L := (fun b_ c_ => #[true, true, true, true, true, true, true, true, false, false, true, true, true, true, false, false, false, false, false, false, false, b_, c_, false, false, false])) (L' := (fun b_ c_ => #[true, true, true, true, true, true, true, true, true, false, true, true, true, true, false, false, false, false, false, false, false, b_, c_, false, false, false])) (base := wa.heap.size) (G := (fun w' => Below wa.heap.size wa w')) (b := false) (c := false) (x := u11) (y := u12) al1 al2 ?an8v ?al8v ?aa8v ?ar8v ?ai8v ?ag8v ?ae18v ?ae28v ?ae38v ?ap18v ?ap28v HSG.out (fun w' o q => q.alloc q.size o) (fun w' q => q.size) ?aw8v Pend.no Pend.no Two.no ?am8v; (case an8v => rfl); (case al8v => rfl); (case aa8v => rfl); (case ar8v => kernel_rfl); (case ai8v => rfl); (case ag8v => rfl); (case ae18v => (intros; rfl)); (case ae28v => (intros; rfl)); (case ae38v => (intros; rfl)); (case ap18v => (intros; rfl)); (case ap28v => (intros; rfl))
      (case aw8v => exact (Below.refl _ wa).drew)
      intro b_ c_ x_ y_ wp1 hG_ hx_ hy_ hxy_ K_ hK_; (try simp only [Act.put, List.setIfInBounds_toArray, List.set_cons_zero, List.set_cons_succ, List.getElem_toArray, List.getElem_cons_zero, List.getElem_cons_succ])
      go_wp2_with fail
      refine (HP.out _).mono ?_
      rintro e w3 ⟨rfl, hw_⟩
      have hbp : Below wp1.heap.size wp1 w3 := hw_ ▸ Below.refl _ _
      clear hw_
      go_wp2_with fail
      have qp : Below wa.heap.size wa w3 := bstep hG_ hbp
      have hSp := HSG.out _ qp
      refine hK_.out _ _ (Or.inr hSp) ?_
      clear hK_ K_ hG_
      refine' wpX_take' (f := 10) (i := 9) (v := ?xv9v) (L := (fun b_ c_ => #[true, true, true, true, true, true, true, true, true, false, true, true, true, true, false, false, false, false, false, false, false, b_, c_, false, false, false])) (L' := (fun b_ c_ => #[true, true, true, true, true, true, true, true, true, true, true, true, true, true, false, false, false, false, false, false, false, b_, c_, false, false, false])) ?tan9v ?tal9v rfl (by kernel_rfl) ?tar9v (by kernel_rfl) ?tae39v (fun _ _ _ h => h) (Or.inl ⟨by rfl, ?xh9v⟩) ?taw9v ?xr9v; (case tan9v => rfl); (case tal9v => rfl); (case tar9v => kernel_rfl); (case tae39v => (intros; rfl)); (case taw9v => assumption); (case xh9v => (intro w hSw; (try dsimp only at hSw); go_simp; (try with_reducible rfl))); (try simp only [Act.put, List.setIfInBounds_toArray, List.set_cons_zero, List.set_cons_succ, List.getElem_toArray, List.getElem_cons_zero, List.getElem_cons_succ])
      refine' wpX_phase' (f := 9) (i := 14) (L := (fun b_ c_ => #[true, true, true, true, true, true, true, true, true, true, true, true, true, true, false, false, false, false, false, false, false, b_, c_, false, false, false])) (L' := (fun b_ c_ => #[true, true, true, true, true, true, true, true, true, true, true, true, true, true, true, false, false, false, false, false, false, b_, c_, false, false, false])) (base := wa.heap.size) (G := (fun w' => Below wa.heap.size wa w')) (b := b_) (c := c_) (x := x_) (y := y_) al1 al2 ?an14v ?al14v ?aa14v ?ar14v ?ai14v ?ag14v ?ae114v ?ae214v ?ae314v ?ap114v ?ap214v HSG.out (fun w' o q => q.alloc q.size o) (fun w' q => q.size) ?aw14v (hx_.bl hbp) (hy_.bl hbp) hxy_ ?am14v; (case an14v => rfl); (case al14v => rfl); (case aa14v => rfl); (case ar14v => kernel_rfl); (case ai14v => rfl); (case ag14v => rfl); (case ae114v => (intros; rfl)); (case ae214v => (intros; rfl)); (case ae314v => (intros; rfl)); (case ap114v => (intros; rfl)); (case ap214v => (intros; rfl))
      (case aw14v => exact qp)
      clear hx_ hy_ hxy_ x_ y_ b_ c_ hbp
      intro b_ c_ x_ y_ wp2 hG_ hx_ hy_ hxy_ K_ hK_; (try simp only [Act.put, List.setIfInBounds_toArray, List.set_cons_zero, List.set_cons_succ, List.getElem_toArray, List.getElem_cons_zero, List.getElem_cons_succ])
      go_wp2_with fail
      refine (HMK.out _).mono ?_
      rintro e w4 ⟨rfl, hbp⟩
      go_wp2_with fail
      have qp : Below wa.heap.size wa w4 := bstep hG_ hbp
      have hSp := HSG.out _ qp
      refine hK_.out _ _ (Or.inr hSp) ?_
      clear hK_ K_ hG_
      refine' wpX_take' (f := 8) (i := 15) (v := ?xv15v) (L := (fun b_ c_ => #[true, true, true, true, true, true, true, true, true, true, true, true, true, true, true, false, false, false, false, false, false, b_, c_, false, false, false])) (L' := (fun b_ c_ => #[true, true, true, true, true, true, true, true, true, true, true, true, true, true, true, true, false, false, false, false, false, b_, c_, false, false, false])) ?tan15v ?tal15v rfl (by kernel_rfl) ?tar15v (by kernel_rfl) ?tae315v (fun _ _ _ h => h) (Or.inl ⟨by rfl, ?xh15v⟩) ?taw15v ?xr15v; (case tan15v => rfl); (case tal15v => rfl); (case tar15v => kernel_rfl); (case tae315v => (intros; rfl)); (case taw15v => assumption); (case xh15v => (intro w hSw; (try dsimp only at hSw); go_simp; (try with_reducible rfl))); (try simp only [Act.put, List.setIfInBounds_toArray, List.set_cons_zero, List.set_cons_succ, List.getElem_toArray, List.getElem_cons_zero, List.getElem_cons_succ])
      refine' wpX_phase' (f := 7) (i := 16) (L := (fun b_ c_ => #[true, true, true, true, true, true, true, true, true, true, true, true, true, true, true, true, false, false, false, false, false, b_, c_, false, false, false])) (L' := (fun b_ c_ => #[true, true, true, true, true, true, true, true, true, true, true, true, true, true, true, true, true, false, false, false, false, b_, c_, false, false, false])) (base := wa.heap.size) (G := (fun w' => Below wa.heap.size wa w')) (b := b_) (c := c_) (x := x_) (y := y_) al1 al2 ?an16v ?al16v ?aa16v ?ar16v ?ai16v ?ag16v ?ae116v ?ae216v ?ae316v ?ap116v ?ap216v HSG.out (fun w' o q => q.alloc q.size o) (fun w' q => q.size) ?aw16v (hx_.bl hbp) (hy_.bl hbp) hxy_ ?am16v; (case an16v => rfl); (case al16v => rfl); (case aa16v => rfl); (case ar16v => kernel_rfl); (case ai16v => rfl); (case ag16v => rfl); (case ae116v => (intros; rfl)); (case ae216v => (intros; rfl)); (case ae316v => (intros; rfl)); (case ap116v => (intros; rfl)); (case ap216v => (intros; rfl))
      (case aw16v => exact qp)
      clear hx_ hy_ hxy_ x_ y_ b_ c_ hbp
      intro b_ c_ x_ y_ wp3 hG_ hx_ hy_ hxy_ K_ hK_; (try simp only [Act.put, List.setIfInBounds_toArray, List.set_cons_zero, List.set_cons_succ, List.getElem_toArray, List.getElem_cons_zero, List.getElem_cons_succ])
      go_wp2_with fail
      refine (HD2.out _ _ _ _ _ _ _ (S2.bl hG_) (C2.bl hG_) (N2.bl hG_)).mono ?_
      rintro e w6 ⟨A3, n3, c3, B3, k3, d3, Y3, m3, o3, rfl, S6, C6, T6, hbp⟩
      go_wp2_with fail
      have qp : Below wa.heap.size wa w6 := bstep hG_ hbp
      have hSp := HSG.out _ qp
      refine hK_.out _ _ (Or.inr hSp) ?_
      clear hK_ K_ hG_
      refine' wpX_take' (f := 6) (i := 17) (v := ?xv17v) (L := (fun b_ c_ => #[true, true, true, true, true, true, true, true, true, true, true, true, true, true, true, true, true, false, false, false, false, b_, c_, false, false, false])) (L' := (fun b_ c_ => #[true, true, true, true, true, true, true, true, true, true, true, true, true, true, true, true, true, true, false, false, false, b_, c_, false, false, false])) ?tan17v ?tal17v rfl (by kernel_rfl) ?tar17v (by kernel_rfl) ?tae317v (fun _ _ _ h => h) (Or.inl ⟨by rfl, ?xh17v⟩) ?taw17v ?xr17v; (case tan17v => rfl); (case tal17v => rfl); (case tar17v => kernel_rfl); (case tae317v => (intros; rfl)); (case taw17v => assumption); (case xh17v => (intro w hSw; (try dsimp only at hSw); go_simp; (try with_reducible rfl))); (try simp only [Act.put, List.setIfInBounds_toArray, List.set_cons_zero, List.set_cons_succ, List.getElem_toArray, List.getElem_cons_zero, List.getElem_cons_succ])
      refine' wpX_take' (f := 5) (i := 18) (v := ?xv18v) (L := (fun b_ c_ => #[true, true, true, true, true, true, true, true, true, true, true, true, true, true, true, true, true, true, false, false, false, b_, c_, false, false, false])) (L' := (fun b_ c_ => #[true, true, true, true, true, true, true, true, true, true, true, true, true, true, true, true, true, true, true, false, false, b_, c_, false, false, false])) ?tan18v ?tal18v rfl (by kernel_rfl) ?tar18v (by kernel_rfl) ?tae318v (fun _ _ _ h => h) (Or.inl ⟨by rfl, ?xh18v⟩) ?taw18v ?xr18v; (case tan18v => rfl); (case tal18v => rfl); (case tar18v => kernel_rfl); (case tae318v => (intros; rfl)); (case taw18v => assumption); (case xh18v => (intro w hSw; (try dsimp only at hSw); go_simp; (try with_reducible rfl))); (try simp only [Act.put, List.setIfInBounds_toArray, List.set_cons_zero, List.set_cons_succ, List.getElem_toArray, List.getElem_cons_zero, List.getElem_cons_succ])
      refine' wpX_take' (f := 4) (i := 19) (v := ?xv19v) (L := (fun b_ c_ => #[true, true, true, true, true, true, true, true, true, true, true, true, true, true, true, true, true, true, true, false, false, b_, c_, false, false, false])) (L' := (fun b_ c_ => #[true, true, true, true, true, true, true, true, true, true, true, true, true, true, true, true, true, true, true, true, false, b_, c_, false, false, false])) ?tan19v ?tal19v rfl (by kernel_rfl) ?tar19v (by kernel_rfl) ?tae319v (fun _ _ _ h => h) (Or.inl ⟨by rfl, ?xh19v⟩) ?taw19v ?xr19v; (case tan19v => rfl); (case tal19v => rfl); (case tar19v => kernel_rfl); (case tae319v => (intros; rfl)); (case taw19v => assumption); (case xh19v => (intro w hSw; (try dsimp only at hSw); go_simp; (try with_reducible rfl))); (try simp only [Act.put, List.setIfInBounds_toArray, List.set_cons_zero, List.set_cons_succ, List.getElem_toArray, List.getElem_cons_zero, List.getElem_cons_succ])
      refine' wpX_take' (f := 3) (i := 20) (v := ?xv20v) (L := (fun b_ c_ => #[true, true, true, true, true, true, true, true, true, true, true, true, true, true, true, true, true, true, true, true, false, b_, c_, false, false, false])) (L' := (fun b_ c_ => #[true, true, true, true, true, true, true, true, true, true, true, true, true, true, true, true, true, true, true, true, true, b_, c_, false, false, false])) ?tan20v ?tal20v rfl (by kernel_rfl) ?tar20v (by kernel_rfl) ?tae320v (fun _ _ _ h => h) (Or.inl ⟨by rfl, ?xh20v⟩) ?taw20v ?xr20v; (case tan20v => rfl); (case tal20v => rfl); (case tar20v => kernel_rfl); (case tae320v => (intros; rfl)); (case taw20v => assumption); (case xh20v => (intro w hSw; (try dsimp only at hSw); go_simp; (try with_reducible rfl))); (try simp only [Act.put, List.setIfInBounds_toArray, List.set_cons_zero, List.set_cons_succ, List.getElem_toArray, List.getElem_cons_zero, List.getElem_cons_succ])
      refine' wpX_lay' (f := 3) (L := (fun b_ c_ => #[true, true, true, true, true, true, true, true, true, true, true, true, true, true, true, true, true, true, true, true, true, b_, c_, false, false, false])) (base := wa.heap.size) (G := (fun w' => Below w6.heap.size w6 w')) (b := b_) (c := c_) (x := x_) (y := y_) al1 al2 ?anLv ?alLv ?aaLv ?arLv ?ae1Lv ?ae2Lv ?ap1Lv ?ap2Lv (fun w' q => HSG.out w' (bstep qp q)) (fun w' o q => q.alloc q.size o) (fun w' q => Nat.le_trans qp.size q.size) ?awLv (hx_.bl hbp) (hy_.bl hbp) hxy_ ?amLv; (case anLv => rfl); (case alLv => rfl); (case aaLv => rfl); (case arLv => kernel_rfl); (case ae1Lv => (intros; rfl)); (case ae2Lv => (intros; rfl)); (case ap1Lv => (intros; rfl)); (case ap2Lv => (intros; rfl))
      (case awLv => exact Below.refl _ w6)
      clear hx_ hy_ hxy_ x_ y_ b_ c_ hSp
      intro g1 g2 w7 hb7 hg1 G1 hg2 G2 hgg
      have q7 : Below wa.heap.size wa w7 := bstep qp hb7
      clear al1 al2
      (try clear cG1 fG1); have cG1 := G1.cell; have fG1 := G1.frozen
      refine wpAnyX_one (i := 23) (by kernel_rfl) rfl (by rfl) (fun K hK => ?_); (try simp only [List.getElem_toArray, List.getElem_cons_zero, List.getElem_cons_succ])
      go_wp2_with fail
      refine hK.out _ _ (Or.inr (HSG.out _ (below_set (below_set (below_set (below_set q7 hg1 0 _) hg1 1 _) hg1 2 _) hg1 3 _))) (fun hS => ?_)
      clear hK K hS cG1 fG1
      have F0 := G2.far (p := ⟨g1, 0, none⟩) (by simpa using hgg.symm) (.int .i64 0)
      have F1 := F0.far (p := ⟨g1, 1, none⟩) (by simpa using hgg.symm) (.slice A3 n3 c3)
      have F2 := F1.far (p := ⟨g1, 2, none⟩) (by simpa using hgg.symm) (.int .i64 2)
      have F3 := F2.far (p := ⟨g1, 3, none⟩) (by simpa using hgg.symm) (.slice B3 k3 d3)
      (try clear cF3 fF3); have cF3 := F3.cell; have fF3 := F3.frozen
      refine wpAnyX_one (i := 24) (by kernel_rfl) rfl (by rfl) (fun K hK => ?_); (try simp only [List.getElem_toArray, List.getElem_cons_zero, List.getElem_cons_succ])
      go_wp2_with fail
      refine hK.out _ _ (Or.inr (HSG.out _ (below_set (below_set (below_set (below_set (below_set (below_set (below_set (below_set q7 hg1 0 _) hg1 1 _) hg1 2 _) hg1 3 _) hg2 0 _) hg2 1 _) hg2 2 _) hg2 3 _))) (fun hS => ?_)
      replace hS := hS.resolve_left (by decide)
      clear hK K cF3 fF3
      refine wpAnyX_pure (i := 25) (v := ?xv25v) rfl (by kernel_rfl) (Or.inl ⟨by rfl, ?xh25v⟩) (Or.inr (by assumption)) ?xr25v; (case xh25v => (intro w; go_simp; (try with_reducible rfl))); (try simp only [Act.put, List.setIfInBounds_toArray, List.set_cons_zero, List.set_cons_succ, List.getElem_toArray, List.getElem_cons_zero, List.getElem_cons_succ])
      clear hS
      refine wpAnyX_done (by kernel_rfl) ?_ _
      clear F0 F1 F2 F3
      obtain ⟨X1, gr1, sz1⟩ := whole_mach (Value.int .i64 0) (Value.slice A3 n3 c3) (Value.int .i64 2) (Value.slice B3 k3 d3) G1
      have Y1 := grown_blk G2 gr1 hgg.symm
      obtain ⟨X2, gr2, sz2⟩ := whole_reply (Value.int .i64 10) (Value.string { data := #[] }) (Value.int .i64 0) (Value.slice Y3 m3 o3) Y1
      have X1' := grown_blk X1 gr2 hgg
      have q8 := below_grow (below_grow q7 gr1 q7.size hg1) gr2 (by rw [sz1]; exact q7.size) hg2
      have S8 := ((S6.bl hb7).grown G1 gr1).grown Y1 gr2
      have C8 := ((C6.bl hb7).grown G1 gr1).grown Y1 gr2
      have T8 := ((T6.bl hb7).grown G1 gr1).grown Y1 gr2
      have V8 := grown_blk (grown_blk (V.below' q7) gr1 (by omega)) gr2 (by omega)
      have PX8 := grown_blk (grown_blk (PX.below' q7) gr1 (by omega)) gr2 (by omega)
      have PR8 := grown_blk (grown_blk (PR.below' q7) gr1 (by omega)) gr2 (by omega)
      have S28 := ((S2.bl q7).grown G1 gr1).grown Y1 gr2
      have C28 := ((C2.bl q7).grown G1 gr1).grown Y1 gr2
      have T28 := ((T2.bl q7).grown G1 gr1).grown Y1 gr2
      obtain ⟨wb, hw8⟩ : ∃ wb, wb = ((((((((w7.setCell ⟨g1, 0, none⟩ (Value.int .i64 0)).setCell ⟨g1, 1, none⟩ (Value.slice A3 n3 c3)).setCell ⟨g1, 2, none⟩ (Value.int .i64 2)).setCell ⟨g1, 3, none⟩ (Value.slice B3 k3 d3)).setCell ⟨g2, 0, none⟩ (Value.int .i64 10)).setCell ⟨g2, 1, none⟩ (Value.string { data := #[] })).setCell ⟨g2, 2, none⟩ (Value.int .i64 0)).setCell ⟨g2, 3, none⟩ (Value.slice Y3 m3 o3)) := ⟨_, rfl⟩
      rw [← hw8] at q8 X1' X2 S8 C8 T8 V8 PX8 PR8 S28 C28 T28 ⊢
      clear hw8 gr1 gr2 sz1 sz2 Y1 X1 G1 G2 q7 hb7 S6 C6 T6
      have X1 := X1'
      clear X1'
      have qb := bstep qa q8
      clear q8 HSG HD2 HMK S2 C2 T2 V PX PR N2 i0 i1 i2 i3 i4 T8
      have hk2 := C28.sl.len
      obtain ⟨bc, oc, Yc, mc_, dc_, rfl, hbc, ⟨j0, j1, j2, j3, j4, j5, j6⟩, TC⟩ := C28.sl.at_ (k := 0) (by simp)
      simp only [List.getElem_cons_zero, Nat.zero_mul, Nat.add_zero] at j0 j1 j2 j3 j4 j5 j6 TC
      simp only [List.length_cons, List.length_nil, Nat.zero_add] at hk2
      obtain rfl : k2 = 1 := by omega
      clear j0 j2 hk2
      have hv5 := X1.lt; have hv6 := X2.lt; have hv7 := PX8.lt; have hv8 := PR8.lt; have hv9 := V8.lt
      go_upto_region 8 with fail
      have hsG : ∀ w', Below wb.heap.size wb w' → (w'.cell? ⟨g2, 0, none⟩ = some (.int .i64 10) ∧ w'.cell? ⟨gx, 0, none⟩ = some (.int .i64 0) ∧ w'.cell? ⟨gx, 1, none⟩ = some (.slice A2 n2 c2) ∧ w'.cell? ⟨gx, 2, none⟩ = some (.int .i64 2) ∧ w'.cell? ⟨gx, 3, none⟩ = some (.slice (some ⟨bc, oc, none⟩) 1 d2) ∧ w'.cell? ⟨g1, 0, none⟩ = some (.int .i64 0) ∧ w'.cell? ⟨g1, 1, none⟩ = some (.slice A3 n3 c3) ∧ w'.cell? ⟨g1, 2, none⟩ = some (.int .i64 2) ∧ w'.cell? ⟨g1, 3, none⟩ = some (.slice B3 k3 d3) ∧ w'.cell? ⟨bc, oc + 1, none⟩ = some (.int .i64 ((i : Int) + 1)) ∧ w'.cell? ⟨bc, oc + 3, none⟩ = some (.int .i64 rc) ∧ w'.cell? ⟨bc, oc + 4, none⟩ = some (.string rt) ∧ w'.cell? ⟨bc, oc + 5, none⟩ = some (.int .i64 rn) ∧ w'.cell? ⟨bc, oc + 6, none⟩ = some (.slice Yc mc_ dc_) ∧ w'.cell? ⟨gy, 0, none⟩ = some (.int .i64 rc) ∧ w'.cell? ⟨gy, 1, none⟩ = some (.string rt) ∧ w'.cell? ⟨gy, 2, none⟩ = some (.int .i64 rn) ∧ w'.cell? ⟨gy, 3, none⟩ = some (.slice Y2 m2 o2)) := fun w' q => ⟨(X2.below' q).cell 0, (PX8.below' q).cell 0, (PX8.below' q).cell 1, (PX8.below' q).cell 2, (PX8.below' q).cell 3, (X1.below' q).cell 0, (X1.below' q).cell 1, (X1.below' q).cell 2, (X1.below' q).cell 3, ((q).cell (p := ⟨bc, oc + 1, none⟩) hbc).trans j1, ((q).cell (p := ⟨bc, oc + 3, none⟩) hbc).trans j3, ((q).cell (p := ⟨bc, oc + 4, none⟩) hbc).trans j4, ((q).cell (p := ⟨bc, oc + 5, none⟩) hbc).trans j5, ((q).cell (p := ⟨bc, oc + 6, none⟩) hbc).trans j6, (PR8.below' q).cell 0, (PR8.below' q).cell 1, (PR8.below' q).cell 2, (PR8.below' q).cell 3⟩
      refine wp_region_x (l := []) (S := fun w' => w'.cell? ⟨g2, 0, none⟩ = some (.int .i64 10) ∧ w'.cell? ⟨gx, 0, none⟩ = some (.int .i64 0) ∧ w'.cell? ⟨gx, 1, none⟩ = some (.slice A2 n2 c2) ∧ w'.cell? ⟨gx, 2, none⟩ = some (.int .i64 2) ∧ w'.cell? ⟨gx, 3, none⟩ = some (.slice (some ⟨bc, oc, none⟩) 1 d2) ∧ w'.cell? ⟨g1, 0, none⟩ = some (.int .i64 0) ∧ w'.cell? ⟨g1, 1, none⟩ = some (.slice A3 n3 c3) ∧ w'.cell? ⟨g1, 2, none⟩ = some (.int .i64 2) ∧ w'.cell? ⟨g1, 3, none⟩ = some (.slice B3 k3 d3) ∧ w'.cell? ⟨bc, oc + 1, none⟩ = some (.int .i64 ((i : Int) + 1)) ∧ w'.cell? ⟨bc, oc + 3, none⟩ = some (.int .i64 rc) ∧ w'.cell? ⟨bc, oc + 4, none⟩ = some (.string rt) ∧ w'.cell? ⟨bc, oc + 5, none⟩ = some (.int .i64 rn) ∧ w'.cell? ⟨bc, oc + 6, none⟩ = some (.slice Yc mc_ dc_) ∧ w'.cell? ⟨gy, 0, none⟩ = some (.int .i64 rc) ∧ w'.cell? ⟨gy, 1, none⟩ = some (.string rt) ∧ w'.cell? ⟨gy, 2, none⟩ = some (.int .i64 rn) ∧ w'.cell? ⟨gy, 3, none⟩ = some (.slice Y2 m2 o2)) (by kernel_rfl) (hsG _ (Below.refl _ wb).drew) (fun hS => ?_)
      have HSG := hide hsG
      clear hsG j1 j3 j4 j5 j6
      refine wpAnyX_tk (i := 0) (v := ?xv0z) rfl (Or.inl ⟨by rfl, ?xh0z⟩) ?xr0z; (case xh0z => (intro w hSw; (try dsimp only at hSw); go_simp; (try with_reducible rfl))); (try simp only [Act.put, List.setIfInBounds_toArray, List.set_cons_zero, List.set_cons_succ, List.getElem_toArray, List.getElem_cons_zero, List.getElem_cons_succ])
      refine wpAnyX_tk (i := 1) (v := ?xv1z) rfl (Or.inl ⟨by rfl, ?xh1z⟩) ?xr1z; (case xh1z => (intro w hSw; (try dsimp only at hSw); go_simp; (try with_reducible rfl))); (try simp only [Act.put, List.setIfInBounds_toArray, List.set_cons_zero, List.set_cons_succ, List.getElem_toArray, List.getElem_cons_zero, List.getElem_cons_succ])
      refine wpAnyX_tk (i := 2) (v := ?xv2z) rfl (Or.inl ⟨by rfl, ?xh2z⟩) ?xr2z; (case xh2z => (intro w hSw; (try dsimp only at hSw); go_simp; (try with_reducible rfl))); (try simp only [Act.put, List.setIfInBounds_toArray, List.set_cons_zero, List.set_cons_succ, List.getElem_toArray, List.getElem_cons_zero, List.getElem_cons_succ])
      refine wpAnyX_tk (i := 3) (v := ?xv3z) rfl (Or.inl ⟨by rfl, ?xh3z⟩) ?xr3z; (case xh3z => (intro w hSw; (try dsimp only at hSw); go_simp; (try with_reducible rfl))); (try simp only [Act.put, List.setIfInBounds_toArray, List.set_cons_zero, List.set_cons_succ, List.getElem_toArray, List.getElem_cons_zero, List.getElem_cons_succ])
      refine wpAnyX_tk (i := 4) (v := ?xv4z) rfl (Or.inl ⟨by rfl, ?xh4z⟩) ?xr4z; (case xh4z => (intro w hSw; (try dsimp only at hSw); go_simp; (try with_reducible rfl))); (try simp only [Act.put, List.setIfInBounds_toArray, List.set_cons_zero, List.set_cons_succ, List.getElem_toArray, List.getElem_cons_zero, List.getElem_cons_succ])
      refine wpAnyX_tk (i := 5) (v := ?xv5z) rfl (Or.inl ⟨by rfl, ?xh5z⟩) ?xr5z; (case xh5z => (intro w hSw; (try dsimp only at hSw); go_simp; (try with_reducible rfl))); (try simp only [Act.put, List.setIfInBounds_toArray, List.set_cons_zero, List.set_cons_succ, List.getElem_toArray, List.getElem_cons_zero, List.getElem_cons_succ])
      refine wpAnyX_tk (i := 6) (v := ?xv6z) rfl (Or.inl ⟨by rfl, ?xh6z⟩) ?xr6z; (case xh6z => (intro w hSw; (try dsimp only at hSw); go_simp; (try with_reducible rfl))); (try simp only [Act.put, List.setIfInBounds_toArray, List.set_cons_zero, List.set_cons_succ, List.getElem_toArray, List.getElem_cons_zero, List.getElem_cons_succ])
      refine wpAnyX_tk (i := 7) (v := ?xv7z) rfl (Or.inl ⟨by rfl, ?xh7z⟩) ?xr7z; (case xh7z => (intro w hSw; (try dsimp only at hSw); go_simp; (try with_reducible rfl))); (try simp only [Act.put, List.setIfInBounds_toArray, List.set_cons_zero, List.set_cons_succ, List.getElem_toArray, List.getElem_cons_zero, List.getElem_cons_succ])
      refine wpAnyX_tk (i := 8) (v := ?xv8z) rfl (Or.inl ⟨by rfl, ?xh8z⟩) ?xr8z; (case xh8z => (intro w hSw; (try dsimp only at hSw); go_simp; (try with_reducible rfl))); (try simp only [Act.put, List.setIfInBounds_toArray, List.set_cons_zero, List.set_cons_succ, List.getElem_toArray, List.getElem_cons_zero, List.getElem_cons_succ])
      refine wpAnyX_tk (i := 9) (v := ?xv9z) rfl (Or.inl ⟨by rfl, ?xh9z⟩) ?xr9z; (case xh9z => (intro w hSw; (try dsimp only at hSw); go_simp; (try with_reducible rfl))); (try simp only [Act.put, List.setIfInBounds_toArray, List.set_cons_zero, List.set_cons_succ, List.getElem_toArray, List.getElem_cons_zero, List.getElem_cons_succ])
      refine wpAnyX_tk (i := 10) (v := ?xv10z) rfl (Or.inl ⟨by rfl, ?xh10z⟩) ?xr10z; (case xh10z => (intro w hSw; (try dsimp only at hSw); go_simp; (try with_reducible rfl))); (try simp only [Act.put, List.setIfInBounds_toArray, List.set_cons_zero, List.set_cons_succ, List.getElem_toArray, List.getElem_cons_zero, List.getElem_cons_succ])
      refine wpAnyX_tk (i := 11) (v := ?xv11z) rfl (Or.inl ⟨by rfl, ?xh11z⟩) ?xr11z; (case xh11z => (intro w hSw; (try dsimp only at hSw); go_simp; (try with_reducible rfl))); (try simp only [Act.put, List.setIfInBounds_toArray, List.set_cons_zero, List.set_cons_succ, List.getElem_toArray, List.getElem_cons_zero, List.getElem_cons_succ])
      refine wpAnyX_tk (i := 12) (v := ?xv12z) rfl (Or.inl ⟨by rfl, ?xh12z⟩) ?xr12z; (case xh12z => (intro w hSw; (try dsimp only at hSw); go_simp; (try with_reducible rfl))); (try simp only [Act.put, List.setIfInBounds_toArray, List.set_cons_zero, List.set_cons_succ, List.getElem_toArray, List.getElem_cons_zero, List.getElem_cons_succ])
      refine wpAnyX_tk (i := 13) (v := ?xv13z) rfl (Or.inl ⟨by rfl, ?xh13z⟩) ?xr13z; (case xh13z => (intro w hSw; (try dsimp only at hSw); go_simp; (try with_reducible rfl))); (try simp only [Act.put, List.setIfInBounds_toArray, List.set_cons_zero, List.set_cons_succ, List.getElem_toArray, List.getElem_cons_zero, List.getElem_cons_succ])
      refine wpAnyX_onew (i := 14) (by kernel_rfl) rfl (by rfl) (fun K hK => ?_); (try simp only [List.getElem_toArray, List.getElem_cons_zero, List.getElem_cons_succ])
      go_wp2_with fail
      ((with_reducible refine (HSM.out _ _ _ _ _ _ _ _ _ _ _ _ _ S28.dr S8.dr C28.dr C8.dr).mono ?_); rintro e wc ⟨rfl, hbw⟩)
      go_wp2_with fail
      have qc : Below wb.heap.size wb wc := Below.trans (Below.refl _ wb).drew hbw
      refine hK.out _ _ (Or.inr (HSG.out _ qc)) (fun hS => ?_)
      replace hS := hS.resolve_left (by decide)
      clear hK K HSM
      refine wpAnyX_tk (i := 15) (v := ?xv15z) rfl (Or.inl ⟨by rfl, ?xh15z⟩) ?xr15z; (case xh15z => (intro w hSw; (try dsimp only at hSw); go_simp; (try with_reducible rfl))); (try simp only [Act.put, List.setIfInBounds_toArray, List.set_cons_zero, List.set_cons_succ, List.getElem_toArray, List.getElem_cons_zero, List.getElem_cons_succ])
      refine wpAnyX_tk (i := 16) (v := ?xv16z) rfl (Or.inl ⟨by rfl, ?xh16z⟩) ?xr16z; (case xh16z => (intro w hSw; (try dsimp only at hSw); go_simp; (try with_reducible rfl))); (try simp only [Act.put, List.setIfInBounds_toArray, List.set_cons_zero, List.set_cons_succ, List.getElem_toArray, List.getElem_cons_zero, List.getElem_cons_succ])
      refine wpAnyX_tk (i := 17) (v := ?xv17z) rfl (Or.inl ⟨by rfl, ?xh17z⟩) ?xr17z; (case xh17z => (intro w hSw; (try dsimp only at hSw); go_simp; (try with_reducible rfl))); (try simp only [Act.put, List.setIfInBounds_toArray, List.set_cons_zero, List.set_cons_succ, List.getElem_toArray, List.getElem_cons_zero, List.getElem_cons_succ])
      refine wpAnyX_tk (i := 18) (v := ?xv18z) rfl (Or.inl ⟨by rfl, ?xh18z⟩) ?xr18z; (case xh18z => (intro w hSw; (try dsimp only at hSw); go_simp; (try with_reducible rfl))); (try simp only [Act.put, List.setIfInBounds_toArray, List.set_cons_zero, List.set_cons_succ, List.getElem_toArray, List.getElem_cons_zero, List.getElem_cons_succ])
      refine wpAnyX_tk (i := 19) (v := ?xv19z) rfl (Or.inl ⟨by rfl, ?xh19z⟩) ?xr19z; (case xh19z => (intro w hSw; (try dsimp only at hSw); go_simp; (try with_reducible rfl))); (try simp only [Act.put, List.setIfInBounds_toArray, List.set_cons_zero, List.set_cons_succ, List.getElem_toArray, List.getElem_cons_zero, List.getElem_cons_succ])
      refine wpAnyX_tk (i := 20) (v := ?xv20z) rfl (Or.inl ⟨by rfl, ?xh20z⟩) ?xr20z; (case xh20z => (intro w hSw; (try dsimp only at hSw); go_simp; (try with_reducible rfl))); (try simp only [Act.put, List.setIfInBounds_toArray, List.set_cons_zero, List.set_cons_succ, List.getElem_toArray, List.getElem_cons_zero, List.getElem_cons_succ])
      refine wpAnyX_tk (i := 21) (v := ?xv21z) rfl (Or.inl ⟨by rfl, ?xh21z⟩) ?xr21z; (case xh21z => (intro w hSw; (try dsimp only at hSw); go_simp; (try with_reducible rfl))); (try simp only [Act.put, List.setIfInBounds_toArray, List.set_cons_zero, List.set_cons_succ, List.getElem_toArray, List.getElem_cons_zero, List.getElem_cons_succ])
      refine wpAnyX_tk (i := 22) (v := ?xv22z) rfl (Or.inl ⟨by rfl, ?xh22z⟩) ?xr22z; (case xh22z => (intro w hSw; (try dsimp only at hSw); go_simp; (try with_reducible rfl))); (try simp only [Act.put, List.setIfInBounds_toArray, List.set_cons_zero, List.set_cons_succ, List.getElem_toArray, List.getElem_cons_zero, List.getElem_cons_succ])
      refine wpAnyX_tk (i := 23) (v := ?xv23z) rfl (Or.inl ⟨by rfl, ?xh23z⟩) ?xr23z; (case xh23z => (intro w hSw; (try dsimp only at hSw); go_simp; (try with_reducible rfl))); (try simp only [Act.put, List.setIfInBounds_toArray, List.set_cons_zero, List.set_cons_succ, List.getElem_toArray, List.getElem_cons_zero, List.getElem_cons_succ])
      refine wpAnyX_tk (i := 24) (v := ?xv24z) rfl (Or.inl ⟨by rfl, ?xh24z⟩) ?xr24z; (case xh24z => (intro w hSw; (try dsimp only at hSw); go_simp; (try with_reducible rfl))); (try simp only [Act.put, List.setIfInBounds_toArray, List.set_cons_zero, List.set_cons_succ, List.getElem_toArray, List.getElem_cons_zero, List.getElem_cons_succ])
      refine wpAnyX_tk (i := 25) (v := ?xv25z) rfl (Or.inl ⟨by rfl, ?xh25z⟩) ?xr25z; (case xh25z => (intro w hSw; (try dsimp only at hSw); go_simp; (try with_reducible rfl))); (try simp only [Act.put, List.setIfInBounds_toArray, List.set_cons_zero, List.set_cons_succ, List.getElem_toArray, List.getElem_cons_zero, List.getElem_cons_succ])
      refine wpAnyX_tk (i := 26) (v := ?xv26z) rfl (Or.inl ⟨by rfl, ?xh26z⟩) ?xr26z; (case xh26z => (intro w hSw; (try dsimp only at hSw); go_simp; (try with_reducible rfl))); (try simp only [Act.put, List.setIfInBounds_toArray, List.set_cons_zero, List.set_cons_succ, List.getElem_toArray, List.getElem_cons_zero, List.getElem_cons_succ])
      refine wpAnyX_tk (i := 27) (v := ?xv27z) rfl (Or.inl ⟨by rfl, ?xh27z⟩) ?xr27z; (case xh27z => (intro w hSw; (try dsimp only at hSw); go_simp; (try with_reducible rfl))); (try simp only [Act.put, List.setIfInBounds_toArray, List.set_cons_zero, List.set_cons_succ, List.getElem_toArray, List.getElem_cons_zero, List.getElem_cons_succ])
      refine wpAnyX_tk (i := 28) (v := ?xv28z) rfl (Or.inl ⟨by rfl, ?xh28z⟩) ?xr28z; (case xh28z => (intro w hSw; (try dsimp only at hSw); go_simp; (try with_reducible rfl))); (try simp only [Act.put, List.setIfInBounds_toArray, List.set_cons_zero, List.set_cons_succ, List.getElem_toArray, List.getElem_cons_zero, List.getElem_cons_succ])
      refine wpAnyX_tk (i := 29) (v := ?xv29z) rfl (Or.inl ⟨by rfl, ?xh29z⟩) ?xr29z; (case xh29z => (intro w hSw; (try dsimp only at hSw); go_simp; (try with_reducible rfl))); (try simp only [Act.put, List.setIfInBounds_toArray, List.set_cons_zero, List.set_cons_succ, List.getElem_toArray, List.getElem_cons_zero, List.getElem_cons_succ])
      refine wpAnyX_tk (i := 30) (v := ?xv30z) rfl (Or.inl ⟨by rfl, ?xh30z⟩) ?xr30z; (case xh30z => (intro w hSw; (try dsimp only at hSw); go_simp; (try with_reducible rfl))); (try simp only [Act.put, List.setIfInBounds_toArray, List.set_cons_zero, List.set_cons_succ, List.getElem_toArray, List.getElem_cons_zero, List.getElem_cons_succ])
      refine wpAnyX_tk (i := 31) (v := ?xv31z) rfl (Or.inl ⟨by rfl, ?xh31z⟩) ?xr31z; (case xh31z => (intro w hSw; (try dsimp only at hSw); go_simp; (try with_reducible rfl))); (try simp only [Act.put, List.setIfInBounds_toArray, List.set_cons_zero, List.set_cons_succ, List.getElem_toArray, List.getElem_cons_zero, List.getElem_cons_succ])
      refine wpAnyX_tk (i := 32) (v := ?xv32z) rfl (Or.inl ⟨by rfl, ?xh32z⟩) ?xr32z; (case xh32z => (intro w hSw; (try dsimp only at hSw); go_simp; (try with_reducible rfl))); (try simp only [Act.put, List.setIfInBounds_toArray, List.set_cons_zero, List.set_cons_succ, List.getElem_toArray, List.getElem_cons_zero, List.getElem_cons_succ])
      refine wpAnyX_tk (i := 33) (v := ?xv33z) rfl (Or.inl ⟨by rfl, ?xh33z⟩) ?xr33z; (case xh33z => (intro w hSw; (try dsimp only at hSw); go_simp; (try with_reducible rfl))); (try simp only [Act.put, List.setIfInBounds_toArray, List.set_cons_zero, List.set_cons_succ, List.getElem_toArray, List.getElem_cons_zero, List.getElem_cons_succ])
      refine wpAnyX_tk (i := 34) (v := ?xv34z) rfl (Or.inl ⟨by rfl, ?xh34z⟩) ?xr34z; (case xh34z => (intro w hSw; (try dsimp only at hSw); go_simp; (try with_reducible rfl))); (try simp only [Act.put, List.setIfInBounds_toArray, List.set_cons_zero, List.set_cons_succ, List.getElem_toArray, List.getElem_cons_zero, List.getElem_cons_succ])
      refine wpAnyX_tk (i := 35) (v := ?xv35z) rfl (Or.inl ⟨by rfl, ?xh35z⟩) ?xr35z; (case xh35z => (intro w hSw; (try dsimp only at hSw); go_simp; (try with_reducible rfl))); (try simp only [Act.put, List.setIfInBounds_toArray, List.set_cons_zero, List.set_cons_succ, List.getElem_toArray, List.getElem_cons_zero, List.getElem_cons_succ])
      refine wpAnyX_tk (i := 36) (v := ?xv36z) rfl (Or.inl ⟨by rfl, ?xh36z⟩) ?xr36z; (case xh36z => (intro w hSw; (try dsimp only at hSw); go_simp; (try with_reducible rfl))); (try simp only [Act.put, List.setIfInBounds_toArray, List.set_cons_zero, List.set_cons_succ, List.getElem_toArray, List.getElem_cons_zero, List.getElem_cons_succ])
      refine wpAnyX_tk (i := 37) (v := ?xv37z) rfl (Or.inl ⟨by rfl, ?xh37z⟩) ?xr37z; (case xh37z => (intro w hSw; (try dsimp only at hSw); go_simp; (try with_reducible rfl))); (try simp only [Act.put, List.setIfInBounds_toArray, List.set_cons_zero, List.set_cons_succ, List.getElem_toArray, List.getElem_cons_zero, List.getElem_cons_succ])
      refine wpAnyX_tk (i := 38) (v := ?xv38z) rfl (Or.inl ⟨by rfl, ?xh38z⟩) ?xr38z; (case xh38z => (intro w hSw; (try dsimp only at hSw); go_simp; (try with_reducible rfl))); (try simp only [Act.put, List.setIfInBounds_toArray, List.set_cons_zero, List.set_cons_succ, List.getElem_toArray, List.getElem_cons_zero, List.getElem_cons_succ])
      refine wpAnyX_tk (i := 39) (v := ?xv39z) rfl (Or.inl ⟨by rfl, ?xh39z⟩) ?xr39z; (case xh39z => (intro w hSw; (try dsimp only at hSw); go_simp; (try with_reducible rfl))); (try simp only [Act.put, List.setIfInBounds_toArray, List.set_cons_zero, List.set_cons_succ, List.getElem_toArray, List.getElem_cons_zero, List.getElem_cons_succ])
      refine wpAnyX_onew (i := 40) (by kernel_rfl) rfl (by rfl) (fun K hK => ?_); (try simp only [List.getElem_toArray, List.getElem_cons_zero, List.getElem_cons_succ])
      go_wp2_with fail
      ((with_reducible refine (HSR.out _ _ _ _ _ _ _ (TC.bl qc).sl (T28.bl qc).sl).mono ?_); rintro e wd ⟨rfl, hbd⟩)
      go_wp2_with fail
      have qd : Below wb.heap.size wb wd := bstep qc hbd
      refine hK.out _ _ (Or.inr (HSG.out _ qd)) (fun hS => ?_)
      replace hS := hS.resolve_left (by decide)
      clear hK K HSR
      refine wpAnyX_tk (i := 41) (v := ?xv41z) rfl (Or.inl ⟨by rfl, ?xh41z⟩) ?xr41z; (case xh41z => (intro w hSw; (try dsimp only at hSw); go_simp; (try with_reducible rfl))); (try simp only [Act.put, List.setIfInBounds_toArray, List.set_cons_zero, List.set_cons_succ, List.getElem_toArray, List.getElem_cons_zero, List.getElem_cons_succ])
      refine wpAnyX_pure (i := 42) (v := ?xv42z) rfl (by kernel_rfl) (Or.inl ⟨by rfl, ?xh42z⟩) (Or.inr (by assumption)) ?xr42z; (case xh42z => (intro w; go_simp; (try with_reducible rfl))); (try simp only [Act.put, List.setIfInBounds_toArray, List.set_cons_zero, List.set_cons_succ, List.getElem_toArray, List.getElem_cons_zero, List.getElem_cons_succ])
      clear hS
      refine wpAnyX_done (by kernel_rfl) ?_ _
      replace V8 := V8.below' qd
      replace PX8 := PX8.below' qd
      have S9 := S28.bl qd; have C9 := C28.bl qd
      have qe := bstep qb qd
      clear X1 X2 PR8 S28 C28 T28 S8 C8 TC HSG qc hbw hbd qd qb
      have hv9 := V8.lt
      have hv7 := PX8.lt
      (try clear cV8 fV8); have cV8 := V8.cell; have fV8 := V8.frozen; (try clear cPX8 fPX8); have cPX8 := PX8.cell; have fPX8 := PX8.frozen
      go_wp2_with fail
      go_roundw
      case rel =>
        obtain ⟨V9, gr9, sz9⟩ := whole_mach (.int .i64 0) (.slice A2 n2 c2) (.int .i64 2) (.slice (some ⟨bc, oc, none⟩) 1 d2) V8
        exact ⟨i + 1, by omega, by omega, by go_num, ⟨0, xents, 2, _⟩, A2, n2, c2, some ⟨bc, oc, none⟩, 1, d2, V9, S9.grown V8 gr9, C9.grown V8 gr9, HX, below_grow qe gr9 qe.size (by omega)⟩
      case measure => simp [intOf]; omega
    · have hok := HM.out.ok
      obtain ⟨r, hcl⟩ := HM.out.one
      have hkl := C.sl.len
      rw [hcl, List.length_singleton] at hkl
      obtain rfl : k1 = 1 := by omega
      have hm0 := HM.out.now
      have hm1 := HM.out.next
      have hck := CheckM_ok hok A1 B1 n1 c1 1 d1 wr M C
      rw [hm0, hm1] at hck
      have HCK := hide hck
      clear hck hok hcl hm0 hm1 hkl M C HM
      (try clear cV fV); have cV := V.cell; have fV := V.frozen
      by_cases h1 : i < l.length
      · have h20 : ¬ ((i : Int) < 20) := by omega
        go_wp2_with fail
        refine HCK.out.mono ?_
        rintro e w3 ⟨rfl, hb3⟩
        have q3 := bstep hbr hb3
        go_wp2_with fail
        go_ret
        exact ⟨rfl, q3⟩
      · go_wp2_with fail
        refine HCK.out.mono ?_
        rintro e w3 ⟨rfl, hb3⟩
        have q3 := bstep hbr hb3
        go_wp2_with fail
        go_ret
        exact ⟨rfl, q3⟩
set_option maxRecDepth 100000 in
theorem seqRuns_lifted (os : Os) (started : os.Started) (H : Type) (enc : TypeId × Value → H) :
  ReturnsInHanded {} Tryz.checked os 10 .any (fun w args => (Rows.seqRunsSpec.pre enc Tryz.prog Tryz.f10 [] false w args ∧ laidMetH Tryz.prog laidN w) ∧ sizedMet enc Tryz.prog Tryz.f10 (OpenSpec.ofChange Rows.seqRunsSpec) false w args) (Rows.seqRunsSpec.post enc Tryz.prog Tryz.f10 false true false false) := by
  refine returnsInHanded_of_change_and (C := Tryz.checked) (X := fun w _ => laidMetH Tryz.prog laidN w) (fun _ _ _ hh h => h.of_heap hh) Tryz.own started (by kernel_rfl) Tryz.func10 (ChangeSpec.witness_shaped (enc := enc) (C := Tryz.checked) (os := os) (X := fun w _ => laidMetH Tryz.prog laidN w) false (World.doorLaid Tryz.prog 14 os) #[.slice none 0 0, .int .i64 0] 8 rfl (World.shaped_of_RefB (by kernel_rfl) (by kernel_rfl)) (by kernel_rfl) (by kernel_rfl) (by kernel_rfl) (door_met os _)) ?_
  intro W base args ds gs before hval0 hW hcnd hsz0 hL _
  have hsz : (DataW.weightsEach Tryz.prog (Tryz.f10.params.toList ++ Rows.seqRunsSpec.plain.varTypes Tryz.prog) (ds ++ gs)).all (· ≤ reachBytes) = true := hsz0
  clear hsz0
  have hval : ∀ (j : Nat) t v, Tryz.f10.params[j]? = some t → args[j]? = some v → Value.okWide Tryz.prog W .any base t v := hval0
  have hW' := hW
  obtain ⟨p, q, hA0, hV, rfl, hfz, hnd⟩ := hW
  have hA : DataW.TrodAll enc Tryz.prog W 0 (fun _ => true) true Tryz.f10.params.toList args.toList ds p := hA0
  rw [Tryz.params10] at hA hval hsz
  obtain ⟨rfl, rfl⟩ := trodVars_none hV
  clear hA0 hval0 hcnd hV hfz hnd
  have hN := noth_of_laid hL
  obtain ⟨v0, v1, d0, d1, p0, p1, rfl, rfl, rfl, h0, h1⟩ := trodAll_two hA
  obtain ⟨A, n, c, l, rfl, hd, hS⟩ := open_raws (hval 0 60 v0 rfl rfl) h0
  obtain ⟨k, rfl, rfl, rfl, w1⟩ := open_int Tryz.underlying3 (hval 1 3 v1 rfl rfl) h1
  refine (seqRuns_walk A n c l k W hS hd (i64_bounds w1) hN).mono fun e W' ⟨he, hb⟩ => ?_
  subst he
  exact ⟨_, rfl, post_law Tryz.laidOut hW' rfl (by kernel_rfl) rfl Tryz.underlying4 (fun _ => rfl) (fun _ => rfl) (fun _ => rfl) hb⟩
set_option maxRecDepth 100000 in
theorem seqRuns_f1 : (Rows.seqRunsRow.inPlace == Tryz.pinned.checked.prog.inPlace 10) = true := by kernel_rfl
set_option maxRecDepth 100000 in
theorem seqRuns_f2 : (Rows.seqRunsRow.unfollowed == Tryz.pinned.checked.prog.unfollowed 10) = true := by kernel_rfl
set_option maxRecDepth 100000 in
theorem seqRuns_f3 : (Rows.seqRunsRow.recurses == Tryz.pinned.checked.prog.recurses 10) = true := by kernel_rfl
set_option maxRecDepth 100000 in
theorem seqRuns_f4 : (Rows.seqRunsRow.named == Tryz.pinned.checked.prog.varsNamed 10) = true := by kernel_rfl
set_option maxRecDepth 100000 in
theorem seqRuns_facts : joinedFacts Tryz.pinned.checked.prog 10 Tryz.f10 Rows.seqRunsSpec Rows.seqRunsRow = true := by
  unfold joinedFacts
  rw [enterN, show (Rows.seqRunsRow.lifted == Tryz.pinned.checked.prog.liftsFinal) = true from liftsN, laidN1, laidN2, heardN, show (Rows.seqRunsRow.plainKeys == Tryz.pinned.checked.prog.plainKeys) = true from keysN, seqRuns_f1, seqRuns_f2, seqRuns_f3, seqRuns_f4]
  kernel_rfl
theorem seqRuns_row : Rows.SeqRunsSaid := OpenClaim.holds_of_wide 10 Tryz.f10 rfl rfl rfl rfl rfl rfl rfl ⟨rfl, rfl, rfl, rfl, rfl⟩ rfl rfl rfl rfl rfl (by kernel_rfl) Tryz.func10 seqRuns_facts
  (of_decide_eq_true (by kernel_rfl)) (by unfold Func.isWrapper; first | (rw [if_pos (by decide +kernel)]; kernel_rfl) | (rw [if_neg (by decide +kernel)]; exact ⟨rfl, rfl⟩))
  (fun os started H enc _ => seqRuns_lifted os started H enc)
set_option maxRecDepth 100000 in
theorem seqRuns_goes : false = Rows.seqRunsRow.goesBy Tryz.pinned.checked.prog := by kernel_rfl
set_option maxRecDepth 100000 in
theorem seqRuns_looks : false = Tryz.pinned.checked.prog.looks [] := by kernel_rfl
set_option maxRecDepth 100000 in
theorem seqRuns_holds : Rows.SeqRunsCardSaid :=
  Claim7.holds_tied_plain_at .later [] [.data] true Rows.machineMayCard.stood.harness false
    seqRuns_row (fun _ h => by cases h) (by kernel_rfl) (fun _ h => by cases h) seqRuns_row_tie rfl ⟨rfl, rfl⟩ mainN rfl
    (fun f fn hf hfn => by
      obtain rfl : f = 10 := Option.some.inj ((show Tryz.prog.funcNamed "rostrum/rostrumkeep.SeqRuns" = some 10 by kernel_rfl).symm.trans hf) |>.symm
      obtain rfl : fn = Tryz.f10 := (Option.some.inj (Tryz.func10.symm.trans hfn)).symm
      exact ⟨seqRuns_looks, fun j t ht => by
        rw [Tryz.params10] at ht
        have hm := List.mem_of_getElem? (Array.getElem?_toList ▸ ht)
        simp only [List.mem_cons, List.not_mem_nil, or_false] at hm
        rcases hm with rfl | rfl <;> exact (show Tryz.prog.wantsStandIn _ = false by kernel_rfl)⟩)
    seqRuns_goes
#print axioms seqRuns_holds
end Go.Proofs.YtgpkgegpcgiokaaGreatDoor
