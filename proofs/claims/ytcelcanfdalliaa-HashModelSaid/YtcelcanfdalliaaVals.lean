/- rostrumkeep.Value, full. -/
import Derived.Test.YtcelcanfdalliaaValsP
import Derived.Test.YtcelcanfdalliaaKeep
import Derived.Test.YtcelcanfdalliaaPushes
import Derived.Test.YtcelcanfdalliaaAllocs
import Derived.Deep.RegionHeld3
namespace Go.Proofs.Ytcelcanfdalliaa
set_option linter.all false
open Go.RowKit
/-- Do, at a value that may be. -/
theorem Do_may (v : Va) (c : Cmd) (hv : May v) (A1 A2 A3 : Option Addr) (n1 c1 n2 c2 n3 c3 : Nat) (w : World) (h : VSl w v A1 n1 c1 A2 n2 c2 A3 n3 c3) :
    Calls Try.prog 24 #[.agg #[.int .i64 v.kind, .string v.text, .int .i64 v.count, .slice A1 n1 c1, .slice A2 n2 c2, .slice A3 n3 c3], .agg #[.int .i64 c.kind, .string c.key, .string c.field, .string c.text, .int .i64 c.n]] w (DonePost (doneVal v c) w) := by
  have s := may_sizes hv
  have e1 := h.n1_; have e2 := h.n2_; have e3 := h.n3_
  exact Do_any v c A1 A2 A3 n1 c1 n2 c2 n3 c3 w h (by omega) (by omega) (by omega)
def ValPost (v : Va) (w : World) (e : Ending) (w' : World) : Prop :=
  ∃ A1 n1 c1 A2 n2 c2 A3 n3 c3, e = .returned (.agg #[.int .i64 v.kind, .string v.text, .int .i64 v.count, .slice A1 n1 c1, .slice A2 n2 c2, .slice A3 n3 c3]) ∧ VSl w' v A1 n1 c1 A2 n2 c2 A3 n3 c3 ∧ (Tp w' A1 50 ∧ Tp w' A2 9 ∧ Tp w' A3 56) ∧ Below w.heap.size w w'
set_option maxRecDepth 100000 in
set_option maxHeartbeats 8000000 in
theorem Value_any (kind : Int) (A : Option Addr) (n c : Nat) (l : List RawD) (w : World) (hS : Sl w 5 A n c (rawRows l)) (hd : ∀ d ∈ l, d.ok) (hk : I64 kind) :
    Calls Try.prog 27 #[.int .i64 kind, .slice A n c] w (ValPost (valueOf kind l) w) := by
  have hn := raw_len hS
  subst hn
  have hlm := hS.nc
  have hlm' := hS.cm
  unfold maxLen at hlm'
  have HD := hide hd; clear hd
  have Z0 := (Blk.new w 29 #[.int .i64 0, .string { data := #[] }, .int .i64 0, .slice none 0 0, .slice none 0 0, .slice none 0 0]).alloc (.cells #[.int .i64 0, .string { data := #[] }, .int .i64 0, .slice none 0 0, .slice none 0 0, .slice none 0 0] 29)
  have V0 : Blk ((w.alloc (.cells #[.int .i64 0, .string { data := #[] }, .int .i64 0, .slice none 0 0, .slice none 0 0, .slice none 0 0] 29)).alloc (.cells #[.int .i64 0, .string { data := #[] }, .int .i64 0, .slice none 0 0, .slice none 0 0, .slice none 0 0] 29)) (w.heap.size + 1) 29 #[.int .i64 0, .string { data := #[] }, .int .i64 0, .slice none 0 0, .slice none 0 0, .slice none 0 0] := Blk.new' _ _ _ (by simp)
  go_enter Try.func27, Try.ntmps27
  go_wp2_with fail
  go_loopw [6] (fun s6 wr => ∃ k : Nat, k ≤ l.length ∧ k ≤ 24 ∧ s6 = .int .i64 k ∧ ∃ (vk : Int) (vt : ByteArray) (vc : Int) (ps : List Pr) (is_ : List ByteArray) (ss : List Sc) (A1 : Option Addr) (n1 c1 : Nat) (A2 : Option Addr) (n2 c2 : Nat) (A3 : Option Addr) (n3 c3 : Nat),
      (∃ z0 z1 z2 z3 z4 z5, Blk wr w.heap.size 29 #[z0, z1, z2, z3, z4, z5]) ∧ Blk wr (w.heap.size + 1) 29 #[.int .i64 vk, .string vt, .int .i64 vc, .slice A1 n1 c1, .slice A2 n2 c2, .slice A3 n3 c3] ∧ VSl wr ⟨vk, vt, vc, ps, is_, ss⟩ A1 n1 c1 A2 n2 c2 A3 n3 c3 ∧ (Tp wr A1 50 ∧ Tp wr A2 9 ∧ Tp wr A3 56) ∧
      Hid (valueOf kind l = ((l.take 24).drop k).foldl (stepV kind) ⟨vk, vt, vc, ps, is_, ss⟩) ∧ Hid (May ⟨vk, vt, vc, ps, is_, ss⟩) ∧ Below w.heap.size w wr)
    (fun s6 _ => l.length - (intOf s6).toNat)
  case atStart => exact ⟨0, by omega, by omega, rfl, _, _, _, [], [], [], _, _, _, _, _, _, _, _, _, ⟨_, _, _, _, _, _, Z0⟩, V0, nil_vsl, ⟨Tp.none_, Tp.none_, Tp.none_⟩, rfl, .inl rfl, (by repeat (first | (with_reducible exact Below.refl _ _) | (with_reducible assumption) | (with_reducible refine Below.drew ?_) | (with_reducible refine bdrewN ?_ _) | (with_reducible refine balloc ?_ _) | ((with_reducible refine bset ?_ ?_ _); rotate_left; (focus first | exact Nat.le_refl _ | (simp; done) | (simp; omega) | omega)) | (with_reducible refine bstep ?_ (by with_reducible assumption)) | (with_reducible refine Below.trans ?_ (by with_reducible assumption))))⟩
  case round =>
    obtain ⟨k, hk', hk24, rfl, vk, vt, vc, ps, is_, ss, A1, n1, c1, A2, n2, c2, A3, n3, c3, ⟨z0, z1, z2, z3, z4, z5, Z⟩, V, N, TV, HQ, HM, hbr⟩ := hrel
    clear Z0 V0
    have hbs := hbr.size
    have hv1 := V.lt
    by_cases hlt : k < l.length ∧ k < 24
    · obtain ⟨hlt, hlt24⟩ := hlt
      obtain ⟨b, off, rfl, hbb, R⟩ := (hS.below hbr).raw hlt
      have HQ' := val_step hlt hlt24 HQ
      have hdk : (l[k]).ok := HD.out _ (List.getElem_mem hlt)
      generalize l[k] = r at R HQ' hdk
      have hmk := fun w => maker_any kind r w hk hdk
      have hst : stepV kind ⟨vk, vt, vc, ps, is_, ss⟩ r = if (doneVal ⟨vk, vt, vc, ps, is_, ss⟩ (makerC kind r)).2.2 = 0 then (doneVal ⟨vk, vt, vc, ps, is_, ss⟩ (makerC kind r)).1 else ⟨vk, vt, vc, ps, is_, ss⟩ := rfl
      rw [hst] at HQ'
      have hmay := done_may HM.out (makerC kind r)
      have he := done_e HM.out (maker_cc kind r) (by have := makerC_kind kind r; have := makeK_in (picked kind 6); omega)
      have hDo := fun w h => Do_may ⟨vk, vt, vc, ps, is_, ss⟩ (makerC kind r) HM.out A1 A2 A3 n1 c1 n2 c2 n3 c3 w h
      clear hst
      generalize doneVal ⟨vk, vt, vc, ps, is_, ss⟩ (makerC kind r) = D at *
      generalize makerC kind r = cm at *
      obtain ⟨ck, cy, cf, ct, cn⟩ := cm
      obtain ⟨⟨dk, dt, dc, dps, dis, dss⟩, ⟨rc, rt, rn, rl⟩, de⟩ := D
      simp only at he
      subst he
      simp only [cmdV] at hmk hDo
      rw [if_pos rfl] at HQ'
      simp only at HQ' hmay
      have HMK := hide hmk; have HDO := hide hDo; have HMY := hide hmay
      clear hmk hDo hmay
      obtain ⟨rk, ry, rf, rr, rx⟩ := r
      obtain ⟨i0, i1, i2, i3, i4⟩ := R
      simp only at i0 i1 i2 i3 i4
      (try clear cV fV); have cV := V.cell; have fV := V.frozen
      go_wp2_with fail
      refine wp_region_x (l := []) (S := fun w' => w'.cell? ⟨w.heap.size + 1, 0, none⟩ = some (.int .i64 vk) ∧ w'.cell? ⟨w.heap.size + 1, 1, none⟩ = some (.string vt) ∧ w'.cell? ⟨w.heap.size + 1, 2, none⟩ = some (.int .i64 vc) ∧ w'.cell? ⟨w.heap.size + 1, 3, none⟩ = some (.slice A1 n1 c1) ∧ w'.cell? ⟨w.heap.size + 1, 4, none⟩ = some (.slice A2 n2 c2) ∧ w'.cell? ⟨w.heap.size + 1, 5, none⟩ = some (.slice A3 n3 c3) ∧
        w'.cell? ⟨b, off + k * 5, none⟩ = some (.int .i64 rk) ∧ w'.cell? ⟨b, off + k * 5 + 1, none⟩ = some (.int .i64 ry) ∧ w'.cell? ⟨b, off + k * 5 + 2, none⟩ = some (.int .i64 rf) ∧ w'.cell? ⟨b, off + k * 5 + 3, none⟩ = some (.int .i64 rr) ∧ w'.cell? ⟨b, off + k * 5 + 4, none⟩ = some (.string rx)) (by kernel_rfl)
        ⟨V.drew.cell 0, V.drew.cell 1, V.drew.cell 2, V.drew.cell 3, V.drew.cell 4, V.drew.cell 5, i0, i1, i2, i3, i4⟩ (fun hS => ?_)
      refine wpAnyX_take (i := 0) (v := ?xv0) rfl (by kernel_rfl) (by kernel_rfl) (by kernel_rfl) (by kernel_rfl) (fun _ _ _ h => h) (Or.inl ⟨by rfl, ?xh0⟩) (by assumption) ?xr0; (case xh0 => (intro w hSw; (try dsimp only at hSw); go_simp; (try with_reducible rfl))); (try simp only [Act.put, List.setIfInBounds_toArray, List.set_cons_zero, List.set_cons_succ, List.getElem_toArray, List.getElem_cons_zero, List.getElem_cons_succ])
      refine wpAnyX_take (i := 1) (v := ?xv1) rfl (by kernel_rfl) (by kernel_rfl) (by kernel_rfl) (by kernel_rfl) (fun _ _ _ h => h) (Or.inl ⟨by rfl, ?xh1⟩) (by assumption) ?xr1; (case xh1 => (intro w hSw; (try dsimp only at hSw); go_simp; (try with_reducible rfl))); (try simp only [Act.put, List.setIfInBounds_toArray, List.set_cons_zero, List.set_cons_succ, List.getElem_toArray, List.getElem_cons_zero, List.getElem_cons_succ])
      refine wpAnyX_take (i := 2) (v := ?xv2) rfl (by kernel_rfl) (by kernel_rfl) (by kernel_rfl) (by kernel_rfl) (fun _ _ _ h => h) (Or.inl ⟨by rfl, ?xh2⟩) (by assumption) ?xr2; (case xh2 => (intro w hSw; (try dsimp only at hSw); go_simp; (try with_reducible rfl))); (try simp only [Act.put, List.setIfInBounds_toArray, List.set_cons_zero, List.set_cons_succ, List.getElem_toArray, List.getElem_cons_zero, List.getElem_cons_succ])
      refine wpAnyX_take (i := 3) (v := ?xv3) rfl (by kernel_rfl) (by kernel_rfl) (by kernel_rfl) (by kernel_rfl) (fun _ _ _ h => h) (Or.inl ⟨by rfl, ?xh3⟩) (by assumption) ?xr3; (case xh3 => (intro w hSw; (try dsimp only at hSw); go_simp; (try with_reducible rfl))); (try simp only [Act.put, List.setIfInBounds_toArray, List.set_cons_zero, List.set_cons_succ, List.getElem_toArray, List.getElem_cons_zero, List.getElem_cons_succ])
      refine wpAnyX_take (i := 4) (v := ?xv4) rfl (by kernel_rfl) (by kernel_rfl) (by kernel_rfl) (by kernel_rfl) (fun _ _ _ h => h) (Or.inl ⟨by rfl, ?xh4⟩) (by assumption) ?xr4; (case xh4 => (intro w hSw; (try dsimp only at hSw); go_simp; (try with_reducible rfl))); (try simp only [Act.put, List.setIfInBounds_toArray, List.set_cons_zero, List.set_cons_succ, List.getElem_toArray, List.getElem_cons_zero, List.getElem_cons_succ])
      refine wpAnyX_take (i := 5) (v := ?xv5) rfl (by kernel_rfl) (by kernel_rfl) (by kernel_rfl) (by kernel_rfl) (fun _ _ _ h => h) (Or.inl ⟨by rfl, ?xh5⟩) (by assumption) ?xr5; (case xh5 => (intro w hSw; (try dsimp only at hSw); go_simp; (try with_reducible rfl))); (try simp only [Act.put, List.setIfInBounds_toArray, List.set_cons_zero, List.set_cons_succ, List.getElem_toArray, List.getElem_cons_zero, List.getElem_cons_succ])
      have hsG : ∀ w', Below wr.heap.size wr w' → (w'.cell? ⟨w.heap.size + 1, 0, none⟩ = some (.int .i64 vk) ∧ w'.cell? ⟨w.heap.size + 1, 1, none⟩ = some (.string vt) ∧ w'.cell? ⟨w.heap.size + 1, 2, none⟩ = some (.int .i64 vc) ∧ w'.cell? ⟨w.heap.size + 1, 3, none⟩ = some (.slice A1 n1 c1) ∧ w'.cell? ⟨w.heap.size + 1, 4, none⟩ = some (.slice A2 n2 c2) ∧ w'.cell? ⟨w.heap.size + 1, 5, none⟩ = some (.slice A3 n3 c3) ∧
        w'.cell? ⟨b, off + k * 5, none⟩ = some (.int .i64 rk) ∧ w'.cell? ⟨b, off + k * 5 + 1, none⟩ = some (.int .i64 ry) ∧ w'.cell? ⟨b, off + k * 5 + 2, none⟩ = some (.int .i64 rf) ∧ w'.cell? ⟨b, off + k * 5 + 3, none⟩ = some (.int .i64 rr) ∧ w'.cell? ⟨b, off + k * 5 + 4, none⟩ = some (.string rx)) := fun w' q => by
        have V' := V.below' q
        have R' := (RawAt.mk i0 i1 i2 i3 i4 : RawAt wr b (off + k * 5) ⟨rk, ry, rf, rr, rx⟩).bl hbb q
        exact ⟨V'.cell 0, V'.cell 1, V'.cell 2, V'.cell 3, V'.cell 4, V'.cell 5, R'.c0, R'.c1, R'.c2, R'.c3, R'.c4⟩
      have HSG := hide hsG
      clear hsG hS cV fV i0 i1 i2 i3 i4
      refine wpX_start (n := 9 + left2 false false) (listed := (fun b_ c_ => #[true, true, true, true, true, true, false, false, false, false, false, false, b_, c_, false, false, false]) false false) (j1 := 12) (d1 := 7) (t1 := 29) (z1 := #[.int .i64 0, .string { data := #[] }, .int .i64 0, .slice none 0 0, .slice none 0 0, .slice none 0 0]) (j2 := 13) (d2 := 8) (t2 := 37) (z2 := #[.int .i64 0, .string { data := #[] }, .int .i64 0, .slice none 0 0]) ?al1 ?al2 ?aln ?all (fun al1 al2 => ?alr); (case al1 => exact ⟨⟨_, rfl, rfl, rfl, fun a w => by simp [go_sem, execOp]⟩⟩); (case al2 => exact ⟨⟨_, rfl, rfl, rfl, fun a w => by simp [go_sem, execOp]⟩⟩); (case aln => kernel_rfl); (case all => kernel_rfl)
      refine' wpX_phase' (f := 8) (i := 6) (L := (fun b_ c_ => #[true, true, true, true, true, true, false, false, false, false, false, false, b_, c_, false, false, false])) (L' := (fun b_ c_ => #[true, true, true, true, true, true, true, false, false, false, false, false, b_, c_, false, false, false])) (base := wr.heap.size) (G := (fun w' => Below wr.heap.size wr w')) (b := false) (c := false) (x := u7) (y := u8) al1 al2 ?an6 ?al6 ?aa6 ?ar6 ?ai6 ?ag6 ?ae16 ?ae26 ?ae36 ?ap16 ?ap26 HSG.out (fun w' o q => q.alloc q.size o) (fun w' q => q.size) ?aw6 Pend.no Pend.no Two.no ?am6; (case an6 => rfl); (case al6 => rfl); (case aa6 => rfl); (case ar6 => kernel_rfl); (case ai6 => rfl); (case ag6 => rfl); (case ae16 => (intros; rfl)); (case ae26 => (intros; rfl)); (case ae36 => (intros; rfl)); (case ap16 => (intros; rfl)); (case ap26 => (intros; rfl))
      (case aw6 => exact (Below.refl _ wr).drew)
      intro b_ c_ x_ y_ w3 hG_ hx_ hy_ hxy_ K_ hK_; (try simp only [Act.put, List.setIfInBounds_toArray, List.set_cons_zero, List.set_cons_succ, List.getElem_toArray, List.getElem_cons_zero, List.getElem_cons_succ])
      go_wp2_with fail
      refine (HMK.out _).mono ?_
      rintro e w4 ⟨rfl, hb4⟩
      go_wp2_with fail
      have q4 : Below wr.heap.size wr w4 := bstep hG_ hb4
      refine hK_.out _ _ (Or.inr (HSG.out _ q4)) ?_
      clear hK_ K_ hG_
      refine' wpX_phase' (f := 7) (i := 7) (L := (fun b_ c_ => #[true, true, true, true, true, true, true, false, false, false, false, false, b_, c_, false, false, false])) (L' := (fun b_ c_ => #[true, true, true, true, true, true, true, true, false, false, false, false, b_, c_, false, false, false])) (base := wr.heap.size) (G := (fun w' => Below wr.heap.size wr w')) (b := b_) (c := c_) (x := x_) (y := y_) al1 al2 ?an7 ?al7 ?aa7 ?ar7 ?ai7 ?ag7 ?ae17 ?ae27 ?ae37 ?ap17 ?ap27 HSG.out (fun w' o q => q.alloc q.size o) (fun w' q => q.size) ?aw7 (hx_.bl hb4) (hy_.bl hb4) hxy_ ?am7; (case an7 => rfl); (case al7 => rfl); (case aa7 => rfl); (case ar7 => kernel_rfl); (case ai7 => rfl); (case ag7 => rfl); (case ae17 => (intros; rfl)); (case ae27 => (intros; rfl)); (case ae37 => (intros; rfl)); (case ap17 => (intros; rfl)); (case ap27 => (intros; rfl))
      (case aw7 => exact q4)
      clear hx_ hy_ hxy_ x_ y_ b_ c_
      intro b_ c_ x_ y_ w5 hG_ hx_ hy_ hxy_ K_ hK_; (try simp only [Act.put, List.setIfInBounds_toArray, List.set_cons_zero, List.set_cons_succ, List.getElem_toArray, List.getElem_cons_zero, List.getElem_cons_succ])
      go_wp2_with fail
      refine (HDO.out _ (N.bl hG_)).mono ?_
      rintro e w6 ⟨B1, m1, e1, B2, m2, e2, B3, m3, e3, B4, m4, e4, rfl, N6, L6, T6, hb6⟩
      go_wp2_with fail
      have q6 : Below wr.heap.size wr w6 := bstep hG_ hb6
      have hS6 := HSG.out _ q6
      refine hK_.out _ _ (Or.inr hS6) ?_
      clear hK_ K_ hG_
      refine' wpX_take' (f := 6) (i := 8) (v := ?xv8) (L := (fun b_ c_ => #[true, true, true, true, true, true, true, true, false, false, false, false, b_, c_, false, false, false])) (L' := (fun b_ c_ => #[true, true, true, true, true, true, true, true, true, false, false, false, b_, c_, false, false, false])) ?tan8 ?tal8 rfl (by kernel_rfl) ?tar8 (by kernel_rfl) ?tae38 (fun _ _ _ h => h) (Or.inl ⟨by rfl, ?xh8⟩) ?taw8 ?xr8; (case tan8 => rfl); (case tal8 => rfl); (case tar8 => kernel_rfl); (case tae38 => (intros; rfl)); (case taw8 => assumption); (case xh8 => (intro w hSw; (try dsimp only at hSw); go_simp; (try with_reducible rfl))); (try simp only [Act.put, List.setIfInBounds_toArray, List.set_cons_zero, List.set_cons_succ, List.getElem_toArray, List.getElem_cons_zero, List.getElem_cons_succ])
      refine' wpX_take' (f := 5) (i := 9) (v := ?xv9) (L := (fun b_ c_ => #[true, true, true, true, true, true, true, true, true, false, false, false, b_, c_, false, false, false])) (L' := (fun b_ c_ => #[true, true, true, true, true, true, true, true, true, true, false, false, b_, c_, false, false, false])) ?tan9 ?tal9 rfl (by kernel_rfl) ?tar9 (by kernel_rfl) ?tae39 (fun _ _ _ h => h) (Or.inl ⟨by rfl, ?xh9⟩) ?taw9 ?xr9; (case tan9 => rfl); (case tal9 => rfl); (case tar9 => kernel_rfl); (case tae39 => (intros; rfl)); (case taw9 => assumption); (case xh9 => (intro w hSw; (try dsimp only at hSw); go_simp; (try with_reducible rfl))); (try simp only [Act.put, List.setIfInBounds_toArray, List.set_cons_zero, List.set_cons_succ, List.getElem_toArray, List.getElem_cons_zero, List.getElem_cons_succ])
      refine' wpX_take' (f := 4) (i := 10) (v := ?xv10) (L := (fun b_ c_ => #[true, true, true, true, true, true, true, true, true, true, false, false, b_, c_, false, false, false])) (L' := (fun b_ c_ => #[true, true, true, true, true, true, true, true, true, true, true, false, b_, c_, false, false, false])) ?tan10 ?tal10 rfl (by kernel_rfl) ?tar10 (by kernel_rfl) ?tae310 (fun _ _ _ h => h) (Or.inl ⟨by rfl, ?xh10⟩) ?taw10 ?xr10; (case tan10 => rfl); (case tal10 => rfl); (case tar10 => kernel_rfl); (case tae310 => (intros; rfl)); (case taw10 => assumption); (case xh10 => (intro w hSw; (try dsimp only at hSw); go_simp; (try with_reducible rfl))); (try simp only [Act.put, List.setIfInBounds_toArray, List.set_cons_zero, List.set_cons_succ, List.getElem_toArray, List.getElem_cons_zero, List.getElem_cons_succ])
      refine' wpX_take' (f := 3) (i := 11) (v := ?xv11) (L := (fun b_ c_ => #[true, true, true, true, true, true, true, true, true, true, true, false, b_, c_, false, false, false])) (L' := (fun b_ c_ => #[true, true, true, true, true, true, true, true, true, true, true, true, b_, c_, false, false, false])) ?tan11 ?tal11 rfl (by kernel_rfl) ?tar11 (by kernel_rfl) ?tae311 (fun _ _ _ h => h) (Or.inl ⟨by rfl, ?xh11⟩) ?taw11 ?xr11; (case tan11 => rfl); (case tal11 => rfl); (case tar11 => kernel_rfl); (case tae311 => (intros; rfl)); (case taw11 => assumption); (case xh11 => (intro w hSw; (try dsimp only at hSw); go_simp; (try with_reducible rfl))); (try simp only [Act.put, List.setIfInBounds_toArray, List.set_cons_zero, List.set_cons_succ, List.getElem_toArray, List.getElem_cons_zero, List.getElem_cons_succ])
      refine' wpX_lay' (f := 3) (L := (fun b_ c_ => #[true, true, true, true, true, true, true, true, true, true, true, true, b_, c_, false, false, false])) (base := wr.heap.size) (G := (fun w' => Below w6.heap.size w6 w')) (b := b_) (c := c_) (x := x_) (y := y_) al1 al2 ?anL ?alL ?aaL ?arL ?ae1L ?ae2L ?ap1L ?ap2L (fun w' q => HSG.out w' (bstep q6 q)) (fun w' o q => q.alloc q.size o) (fun w' q => Nat.le_trans q6.size q.size) ?awL (hx_.bl hb6) (hy_.bl hb6) hxy_ ?amL; (case anL => rfl); (case alL => rfl); (case aaL => rfl); (case arL => kernel_rfl); (case ae1L => (intros; rfl)); (case ae2L => (intros; rfl)); (case ap1L => (intros; rfl)); (case ap2L => (intros; rfl))
      (case awL => exact Below.refl _ w6)
      clear hx_ hy_ hxy_ x_ y_ b_ c_
      intro g1 g2 w7 hb7 hg1 G1 hg2 G2 hgg
      have q7 : Below wr.heap.size wr w7 := bstep q6 hb7
      have N7 := N6.bl hb7; have L7 := L6.bl hb7; have T7 := T6
      replace T7 := And.intro (T7.1.bl hb7) (And.intro (T7.2.1.bl hb7) (And.intro (T7.2.2.1.bl hb7) (T7.2.2.2.bl hb7)))
      clear al1 al2
      (try clear cG1 fG1); have cG1 := G1.cell; have fG1 := G1.frozen
      refine wpAnyX_one (i := 14) (by kernel_rfl) rfl (by rfl) (fun K hK => ?_); (try simp only [List.getElem_toArray, List.getElem_cons_zero, List.getElem_cons_succ])
      go_wp2_with fail
      refine hK.out _ _ (Or.inr (HSG.out _ (below_set (below_set (below_set (below_set (below_set (below_set q7 hg1 0 _) hg1 1 _) hg1 2 _) hg1 3 _) hg1 4 _) hg1 5 _))) (fun hS => ?_)
      clear hK K hS cG1 fG1
      have F0 := G2.far (p := ⟨g1, 0, none⟩) (by simpa using hgg.symm) (.int .i64 dk)
      have F1 := F0.far (p := ⟨g1, 1, none⟩) (by simpa using hgg.symm) (.string dt)
      have F2 := F1.far (p := ⟨g1, 2, none⟩) (by simpa using hgg.symm) (.int .i64 dc)
      have F3 := F2.far (p := ⟨g1, 3, none⟩) (by simpa using hgg.symm) (.slice B1 m1 e1)
      have F4 := F3.far (p := ⟨g1, 4, none⟩) (by simpa using hgg.symm) (.slice B2 m2 e2)
      have F5 := F4.far (p := ⟨g1, 5, none⟩) (by simpa using hgg.symm) (.slice B3 m3 e3)
      (try clear cF5 fF5); have cF5 := F5.cell; have fF5 := F5.frozen
      refine wpAnyX_one (i := 15) (by kernel_rfl) rfl (by rfl) (fun K hK => ?_); (try simp only [List.getElem_toArray, List.getElem_cons_zero, List.getElem_cons_succ])
      go_wp2_with fail
      refine hK.out _ _ (Or.inr (HSG.out _ (below_set (below_set (below_set (below_set (below_set (below_set (below_set (below_set (below_set (below_set q7 hg1 0 _) hg1 1 _) hg1 2 _) hg1 3 _) hg1 4 _) hg1 5 _) hg2 0 _) hg2 1 _) hg2 2 _) hg2 3 _))) (fun hS => ?_)
      replace hS := hS.resolve_left (by decide)
      clear hK K cF5 fF5
      refine wpAnyX_pure (i := 16) (v := ?xv16) rfl (by kernel_rfl) (Or.inl ⟨by rfl, ?xh16⟩) (Or.inr (by assumption)) ?xr16; (case xh16 => (intro w; go_simp; (try with_reducible rfl))); (try simp only [Act.put, List.setIfInBounds_toArray, List.set_cons_zero, List.set_cons_succ, List.getElem_toArray, List.getElem_cons_zero, List.getElem_cons_succ])
      clear hS
      refine wpAnyX_done (by kernel_rfl) ?_ _
      obtain ⟨X1, gr1, sz1⟩ := whole_value (Value.int .i64 dk) (Value.string dt) (Value.int .i64 dc) (Value.slice B1 m1 e1) (Value.slice B2 m2 e2) (Value.slice B3 m3 e3) G1
      have Y1 := grown_blk G2 gr1 hgg.symm
      obtain ⟨X2, gr2, sz2⟩ := whole_reply (Value.int .i64 rc) (Value.string rt) (Value.int .i64 rn) (Value.slice B4 m4 e4) Y1
      have N8 := grown_vsl (grown_vsl N7 ⟨T7.1, T7.2.1, T7.2.2.1⟩ G1 gr1) ⟨grown_tp T7.1 G1 gr1, grown_tp T7.2.1 G1 gr1, grown_tp T7.2.2.1 G1 gr1⟩ Y1 gr2
      have T8 := And.intro (grown_tp (grown_tp T7.1 G1 gr1) Y1 gr2) (And.intro (grown_tp (grown_tp T7.2.1 G1 gr1) Y1 gr2) (grown_tp (grown_tp T7.2.2.1 G1 gr1) Y1 gr2))
      have q8 := below_grow (below_grow q7 gr1 q7.size hg1) gr2 (by rw [sz1]; exact q7.size) hg2
      have X1' := grown_blk X1 gr2 hgg
      have V8 := grown_blk (grown_blk (V.below' q7) gr1 (by omega)) gr2 (by omega)
      have Z8 := grown_blk (grown_blk (Z.below' q7) gr1 (by omega)) gr2 (by omega)
      clear gr1 gr2 sz1 sz2 Y1 X1 X2 G1 G2 N7 L7 T7 q7 F0 F1 F2 F3 F4 F5
      obtain ⟨w8, hw8⟩ : ∃ w8, w8 = ((((((((((w7.setCell ⟨g1, 0, none⟩ (Value.int .i64 dk)).setCell ⟨g1, 1, none⟩ (Value.string dt)).setCell ⟨g1, 2, none⟩ (Value.int .i64 dc)).setCell ⟨g1, 3, none⟩ (Value.slice B1 m1 e1)).setCell ⟨g1, 4, none⟩ (Value.slice B2 m2 e2)).setCell ⟨g1, 5, none⟩ (Value.slice B3 m3 e3)).setCell ⟨g2, 0, none⟩ (Value.int .i64 rc)).setCell ⟨g2, 1, none⟩ (Value.string rt)).setCell ⟨g2, 2, none⟩ (Value.int .i64 rn)).setCell ⟨g2, 3, none⟩ (Value.slice B4 m4 e4)) := ⟨_, rfl⟩
      rw [← hw8] at N8 T8 q8 X1' V8 Z8 ⊢
      clear hw8
      have hw8 := q8.size
      (try clear cX1' fX1'); have cX1' := X1'.cell; have fX1' := X1'.frozen; (try clear cV8 fV8); have cV8 := V8.cell; have fV8 := V8.frozen
      go_wp2_with fail
      go_roundw
      case rel =>
        obtain ⟨V9, gr9, sz9⟩ := whole_value (Value.int .i64 dk) (Value.string dt) (Value.int .i64 dc) (Value.slice B1 m1 e1) (Value.slice B2 m2 e2) (Value.slice B3 m3 e3) V8
        exact ⟨k + 1, by omega, by omega, by go_num, _, _, _, _, _, _, _, _, _, _, _, _, _, _, _, ⟨_, _, _, _, _, _, grown_blk Z8 gr9 (by omega)⟩, V9, grown_vsl N8 T8 V8 gr9, ⟨grown_tp T8.1 V8 gr9, grown_tp T8.2.1 V8 gr9, grown_tp T8.2.2 V8 gr9⟩, HQ', HMY, below_grow (bstep hbr q8) gr9 (by omega) (by omega)⟩
      case measure => simp [intOf]; omega
    · have HE := hide (val_end hlt HQ)
      (try clear cZ fZ); have cZ := Z.cell; have fZ := Z.frozen; (try clear cV fV); have cV := V.cell; have fV := V.frozen
      by_cases h1 : k < l.length
      · have h24 : k = 24 := by omega
        have h24' : ¬ ((k : Int) < 24) := by omega
        clear h24
        go_wp2_with fail
        obtain ⟨Z9, gr9, sz9⟩ := whole_value (Value.int .i64 vk) (Value.string vt) (Value.int .i64 vc) (Value.slice A1 n1 c1) (Value.slice A2 n2 c2) (Value.slice A3 n3 c3) Z
        have N9 := grown_vsl N TV Z gr9
        have cZ9 := Z9.cell
        refine bodyPost_ret (v := .agg #[.int .i64 vk, .string vt, .int .i64 vc, .slice A1 n1 c1, .slice A2 n2 c2, .slice A3 n3 c3]) ?_ rfl ⟨A1, n1, c1, A2, n2, c2, A3, n3, c3, by rw [HE.out], by rw [HE.out]; exact N9, ⟨grown_tp TV.1 Z gr9, grown_tp TV.2.1 Z gr9, grown_tp TV.2.2 Z gr9⟩, below_grow hbr gr9 (by omega) (Nat.le_refl _)⟩
        simp [results, Try.results27, go_sem, cZ9]
      · go_wp2_with fail
        obtain ⟨Z9, gr9, sz9⟩ := whole_value (Value.int .i64 vk) (Value.string vt) (Value.int .i64 vc) (Value.slice A1 n1 c1) (Value.slice A2 n2 c2) (Value.slice A3 n3 c3) Z
        have N9 := grown_vsl N TV Z gr9
        have cZ9 := Z9.cell
        refine bodyPost_ret (v := .agg #[.int .i64 vk, .string vt, .int .i64 vc, .slice A1 n1 c1, .slice A2 n2 c2, .slice A3 n3 c3]) ?_ rfl ⟨A1, n1, c1, A2, n2, c2, A3, n3, c3, by rw [HE.out], by rw [HE.out]; exact N9, ⟨grown_tp TV.1 Z gr9, grown_tp TV.2.1 Z gr9, grown_tp TV.2.2 Z gr9⟩, below_grow hbr gr9 (by omega) (Nat.le_refl _)⟩
        simp [results, Try.results27, go_sem, cZ9]
/-- A literal slice is the call's own. -/
theorem Own.of_blk {w : World} {base g size : Nat} {e : TypeId} {cs : Array Value} {rows : List (List Value)} (h : Blk w g e cs) (hb : base ≤ g) (hf : cs.toList = rows.flatten) (hr : ∀ r ∈ rows, r.length = size) (hm : rows.length ≤ maxLen) :
    Own w base e size (.slice (some ⟨g, 0, none⟩) rows.length rows.length) rows := by
  have hl := flatten_length hr
  refine ⟨⟨hl, .inr ⟨g, rows.length, cs, rfl, hb, h, Nat.le_refl _, hm, ?_, ?_⟩⟩, hr⟩
  · rw [← hl, ← hf]; simp
  · rw [hf, List.take_of_length_le (by rw [hl]; exact Nat.le_refl _)]
set_option maxRecDepth 100000 in
set_option maxHeartbeats 2000000 in
theorem full_any (kind : Int) (A : Option Addr) (n c : Nat) (l : List RawD) (w : World) (hS : Sl w 5 A n c (rawRows l)) (hd : ∀ d ∈ l, d.ok) (hk : I64 kind) (hz : (n + 1) * 48 ≤ 140737488355328) :
    Calls Try.prog 21 #[.int .i64 kind, .slice A n c] w (ValPost (fullOf kind l) w) := by
  have hcm := hS.cm
  have hnc := hS.nc
  unfold maxLen at hcm
  have hd' : ∀ d ∈ firstRaw :: l, d.ok := by
    intro d hm
    rcases List.mem_cons.1 hm with rfl | hm
    · exact firstRaw_ok
    · exact hd d hm
  have hfo : fullOf kind l = valueOf kind (firstRaw :: l) := rfl
  rw [hfo]
  have hV := fun A n c w h => Value_any kind A n c (firstRaw :: l) w h hd' hk
  generalize valueOf kind (firstRaw :: l) = V at *
  obtain ⟨vk, vt, vc, ps, is_, ss⟩ := V
  have HV := hide hV
  clear hV hd hd' hfo
  have Z0 := Blk.new w 29 #[.int .i64 0, .string { data := #[] }, .int .i64 0, .slice none 0 0, .slice none 0 0, .slice none 0 0]
  go_enter Try.func21, Try.ntmps21
  go_wp2_with (at_builtin; refine wpList_pushes rfl _ _ _ rfl Try.underlying22 raw_info rfl (by decide) (base := w.heap.size + 1) (rows := [firstRaw.cells]) rfl ?ho rfl ?hs (raw_one l) ?h63 ?hby ?hba ?hk)
  case ho => exact Own.of_blk (rows := [firstRaw.cells]) (Blk.new' _ _ _ (by simp)) (Nat.le_refl _) (by simp [firstRaw, RawD.cells]) (by intro r hr; rw [List.mem_singleton] at hr; subst hr; rfl) (by simp [maxLen])
  case hs => exact (hS.al _).al _
  case h63 => simp [maxLen]; omega
  case hby => simp; omega
  case hba => simp
  case hk =>
    intro A' n' c' w2 hown hb2
    have Z2 := (Z0.alloc (.cells #[.int .i64 0, .int .i64 0, .int .i64 0, .int .i64 1, .string { data := #[120] }] 24)).below hb2 (by omega)
    have q2 : Below w.heap.size w w2 := Below.trans (by repeat (first | (with_reducible exact Below.refl _ _) | (with_reducible assumption) | (with_reducible refine Below.drew ?_) | (with_reducible refine bdrewN ?_ _) | (with_reducible refine balloc ?_ _) | ((with_reducible refine bset ?_ ?_ _); rotate_left; (focus first | exact Nat.le_refl _ | (simp; done) | (simp; omega) | omega)) | (with_reducible refine bstep ?_ (by with_reducible assumption)) | (with_reducible refine Below.trans ?_ (by with_reducible assumption)))) (hb2.mono (by omega))
    have hr : firstRaw.cells :: rawRows l = rawRows (firstRaw :: l) := rfl
    clear Z0 hb2
    go_wp2_with fail
    refine (HV.out _ _ _ _ (by rw [← hr]; exact hown.sl')).mono ?_
    rintro e w3 ⟨A1, n1, c1, A2, n2, c2, A3, n3, c3, rfl, N3, T3, hb3⟩
    have Z3 := Z2.below' hb3
    have q3 := bstep q2 hb3
    have hz3 := Z3.lt
    clear Z2 hr
    (try clear cZ3 fZ3); have cZ3 := Z3.cell; have fZ3 := Z3.frozen
    go_wp2_with fail
    obtain ⟨Z9, gr9, sz9⟩ := whole_value (Value.int .i64 vk) (Value.string vt) (Value.int .i64 vc) (Value.slice A1 n1 c1) (Value.slice A2 n2 c2) (Value.slice A3 n3 c3) Z3
    have N9 := grown_vsl N3 T3 Z3 gr9
    have cZ9 := Z9.cell
    refine bodyPost_ret (v := .agg #[.int .i64 vk, .string vt, .int .i64 vc, .slice A1 n1 c1, .slice A2 n2 c2, .slice A3 n3 c3]) ?_ rfl ⟨A1, n1, c1, A2, n2, c2, A3, n3, c3, rfl, N9, ⟨grown_tp T3.1 Z3 gr9, grown_tp T3.2.1 Z3 gr9, grown_tp T3.2.2 Z3 gr9⟩, below_grow q3 gr9 (by omega) (Nat.le_refl _)⟩
    simp [results, Try.results21, go_sem, cZ9]
end Go.Proofs.Ytcelcanfdalliaa
