/- rostrumkeep.FailKeeps returns true for every input; no condition. -/
import Derived.Test.YtpdadlofgfdlpaaStoX
import Derived.Test.YtpdadlofgfdlpaaStoS
namespace Go.Proofs.Ytpdadlofgfdlpaa
set_option linter.all false
open Go.ChangeShapes Go.WideShapes Go.ChangeAt Go.RowKit
theorem done_coded {v : Va} {c : Cmd} (hv : May v) (hc : ccOf c = 0) (hk : c.kind ≤ 18) : (doneVal v c).2.1.code = 0 ∨ ∃ k, k ≠ 0 ∧ (doneVal v c).2.1 = failR k := by
  rcases hv with rfl | hg
  · cases hm : makesC c.kind with
    | true => exact .inl (done_made hc hm).2.2
    | false => rw [done_none hc hk hm]; exact .inr ⟨5, by omega, rfl⟩
  · rcases done_ways hg hc hk with ⟨_, h⟩ | ⟨_, _, h | ⟨k, h, hk⟩⟩
    · rw [h]; exact .inr ⟨4, by omega, rfl⟩
    · exact .inl h
    · rw [h]; exact .inr ⟨k, by omega, rfl⟩
theorem do_code {now : Int} {l : List En} {c : Cmd} (hs : StOk now l) (hc : ccOf c = 0) : (doS now l c).2.code = 0 ∨ ((doS now l c).1 = l ∧ ∃ k, k ≠ 0 ∧ (doS now l c).2 = failR k) := by
  have hkk := cc_kind hc
  unfold doS
  split
  · exact .inl rfl
  · split
    · split <;> exact .inl rfl
    · split
      · unfold timedS
        split
        · exact .inr ⟨rfl, 5, by omega, rfl⟩
        · split
          · exact .inr ⟨rfl, 5, by omega, rfl⟩
          · split
            · exact .inl rfl
            · split
              · exact .inr ⟨rfl, 2, by omega, rfl⟩
              · exact .inl rfl
      · have hd := done_coded (old_may hs (keyAt c.key l) (keyHas c.key l)) hc (by omega)
        split
        next h => exact .inr ⟨rfl, hd.resolve_left h⟩
        next h =>
          have h0 : (doneVal (oldOf l (keyAt c.key l) (keyHas c.key l)) c).2.1.code = 0 := Classical.not_not.1 h
          split
          · exact .inl h0
          · split
            · exact .inr ⟨rfl, 6, by omega, rfl⟩
            · split <;> exact .inl h0
set_option maxRecDepth 100000 in
set_option maxHeartbeats 8000000 in
theorem failKeeps_walk (A : Option Addr) (n c : Nat) (l : List StepD) (x : StepD) (w : World) (hS : Sl w 6 A n c (stepRows l)) (hd : ∀ d ∈ l, d.ok) (hx : x.ok) :
    Calls Try.prog 13 #[.slice A n c, .agg #[.int .i64 x.raw.kind, .int .i64 x.raw.key, .int .i64 x.raw.field, .int .i64 x.raw.n, .string x.raw.text, .int .i64 x.wait]] w fun e w' => e = .returned (.bool true) ∧ Below w.heap.size w w' := by
  have hF := fun w' (hb : Below w.heap.size w w') => Store_any A n c l w' (hS.below hb) hd
  have hmk := fun w => CommandS_any x.raw hx.1 w
  have hok := storeOf_ok l
  generalize storeOf l = s at *
  obtain ⟨now, es⟩ := s
  obtain ⟨ok, hn⟩ := hok
  simp only at ok hn
  have h0 := ok.now0
  have cm0 : ccOf (cmdD x.raw) = 0 := cmd_ok _ _ _ _ _
  have cx : ccOf ⟨20, { data := #[97] }, { data := #[] }, { data := #[] }, -1⟩ = 0 := cc_at (cc_lit (by omega) (by omega) (by rw [if_neg (by decide)]; rfl) (by rw [if_neg (by decide)]; rfl) (by rw [if_pos (by decide)]; omega)) (by omega) (by decide) (by decide)
  obtain ⟨qc, hqc, h2⟩ : ∃ qc, qc ≠ 0 ∧ applyS now es now ⟨20, { data := #[97] }, { data := #[] }, { data := #[] }, -1⟩ = ((now, es), ⟨qc, emp, 0, []⟩, 0) := by
    have e := apply_ok ok (Int.le_refl _) (by omega) cx
    rw [alive_self ok] at e
    unfold doS at e
    rw [if_neg (by simp), if_neg (by simp), if_pos (.inl rfl)] at e
    cases hh : keyHas { data := #[97] } es with
    | false =>
      simp only [hh] at e
      unfold timedS at e
      rw [if_pos rfl] at e
      exact ⟨5, by omega, e⟩
    | true =>
      simp only [hh] at e
      rw [timed_has (keyHas_lt hh), if_neg (by simp), if_pos (.inl (by simp))] at e
      exact ⟨2, by omega, e⟩
  obtain ⟨es', RE, h1, ok1, hre⟩ : ∃ es' RE, applyS now es now (cmdD x.raw) = ((now, es'), RE, 0) ∧ StOk now es' ∧ (RE.code = 0 ∨ (es' = es ∧ ∃ k, k ≠ 0 ∧ RE = failR k)) := by
    have e := apply_ok ok (Int.le_refl _) (by omega) cm0
    rw [alive_self ok] at e
    exact ⟨_, _, e, doS_ok ok cm0, do_code ok cm0⟩
  have hDo := fun w h => Apply_may ok _ _ _ h1 h0 (by omega) A n c w h
  have hD1 := Apply_may ok _ _ _ h1 h0 (by omega)
  have K2 := hide (Apply_may ok _ _ _ h2 h0 (by omega))
  have KS := hide (fun A B n m c d w (ha : St w A n c es) (hb : St w B m d es) => sameStore_eq now A B n m c d es w ha hb (by have := ok.few; omega))
  have HRE := hide hre
  obtain ⟨⟨rk, ry, rf, rr, rx⟩, rw_⟩ := x
  simp only at hmk hD1 ⊢
  generalize hcm : cmdD ⟨rk, ry, rf, rr, rx⟩ = cm at *
  clear hcm hDo hre h1 h2 ok1 cx cm0
  obtain ⟨ck, cy, cf, ct, cn⟩ := cm
  obtain ⟨rc, rt, rn, rl⟩ := RE
  simp only [cmdV] at hmk hD1
  have hq' : (qc == 0) = false := by rw [beq_eq_false_iff_ne]; exact hqc
  have HF := hide hF; have HMK := hide hmk; have HDO := hide hD1
  clear hF hmk hD1 hS hd hx ok
  have X0 := Blk.new w 57 #[.int .i64 rk, .int .i64 ry, .int .i64 rf, .int .i64 rr, .string rx, .int .i64 rw_]
  go_enter Try.func13, Try.ntmps13
  go_wp2_with fail
  refine (HF.out _ (by repeat (first | (with_reducible exact Below.refl _ _) | (with_reducible assumption) | (with_reducible refine Below.drew ?_) | (with_reducible refine bdrewN ?_ _) | (with_reducible refine balloc ?_ _) | ((with_reducible refine bset ?_ ?_ _); rotate_left; (focus first | exact Nat.le_refl _ | (simp; done) | (simp; omega) | omega)) | (with_reducible refine bstep ?_ (by with_reducible assumption)) | (with_reducible refine Below.trans ?_ (by with_reducible assumption))))).mono ?_
  rintro e w1 ⟨A1, n1, c1, rfl, M1, hb1⟩
  have q : Below w.heap.size w w1 := (by repeat (first | (with_reducible exact Below.refl _ _) | (with_reducible assumption) | (with_reducible refine Below.drew ?_) | (with_reducible refine bdrewN ?_ _) | (with_reducible refine balloc ?_ _) | ((with_reducible refine bset ?_ ?_ _); rotate_left; (focus first | exact Nat.le_refl _ | (simp; done) | (simp; omega) | omega)) | (with_reducible refine bstep ?_ (by with_reducible assumption)) | (with_reducible refine Below.trans ?_ (by with_reducible assumption))))
  replace X0 := X0.bl hb1
  have V := Blk.new w1 25 #[.int .i64 (now), .slice A1 n1 c1]
  replace M1 := M1.al (.cells #[.int .i64 (now), .slice A1 n1 c1] 25); replace X0 := X0.al (.cells #[.int .i64 (now), .slice A1 n1 c1] 25)
  have q0 : Below w.heap.size w (w1.alloc (.cells #[.int .i64 (now), .slice A1 n1 c1] 25)) := (by repeat (first | (with_reducible exact Below.refl _ _) | (with_reducible assumption) | (with_reducible refine Below.drew ?_) | (with_reducible refine bdrewN ?_ _) | (with_reducible refine balloc ?_ _) | ((with_reducible refine bset ?_ ?_ _); rotate_left; (focus first | exact Nat.le_refl _ | (simp; done) | (simp; omega) | omega)) | (with_reducible refine bstep ?_ (by with_reducible assumption)) | (with_reducible refine Below.trans ?_ (by with_reducible assumption))))
  clear hb1 HF
  go_wp2_with fail
  obtain ⟨wr, hwr⟩ : ∃ wr, wr = w1.alloc (.cells #[.int .i64 (now), .slice A1 n1 c1] 25) := ⟨_, rfl⟩
  rw [← hwr] at M1 X0 V q0 ⊢
  have hq1 := q.size
  clear hwr q
  have hv1 := V.lt
  have hx1 := X0.lt
  have hsG : ∀ w', Below wr.heap.size wr w' → (w'.cell? ⟨w1.heap.size, 0, none⟩ = some (.int .i64 now) ∧ w'.cell? ⟨w1.heap.size, 1, none⟩ = some (.slice A1 n1 c1) ∧ w'.cell? ⟨w.heap.size, 0, none⟩ = some (.int .i64 rk) ∧ w'.cell? ⟨w.heap.size, 1, none⟩ = some (.int .i64 ry) ∧ w'.cell? ⟨w.heap.size, 2, none⟩ = some (.int .i64 rf) ∧ w'.cell? ⟨w.heap.size, 3, none⟩ = some (.int .i64 rr) ∧ w'.cell? ⟨w.heap.size, 4, none⟩ = some (.string rx)) := fun w' q => by
    have V' := V.below' q
    have X' := X0.below' q
    exact ⟨V'.cell 0, V'.cell 1, X'.cell 0, X'.cell 1, X'.cell 2, X'.cell 3, X'.cell 4⟩
  refine wp_region_x (l := []) (S := fun w' => w'.cell? ⟨w1.heap.size, 0, none⟩ = some (.int .i64 now) ∧ w'.cell? ⟨w1.heap.size, 1, none⟩ = some (.slice A1 n1 c1) ∧ w'.cell? ⟨w.heap.size, 0, none⟩ = some (.int .i64 rk) ∧ w'.cell? ⟨w.heap.size, 1, none⟩ = some (.int .i64 ry) ∧ w'.cell? ⟨w.heap.size, 2, none⟩ = some (.int .i64 rf) ∧ w'.cell? ⟨w.heap.size, 3, none⟩ = some (.int .i64 rr) ∧ w'.cell? ⟨w.heap.size, 4, none⟩ = some (.string rx)) (by kernel_rfl) (hsG _ (Below.refl _ wr).drew) (fun hS => ?_)
  refine wpAnyX_take (i := 0) (v := ?xv0) rfl (by kernel_rfl) (by kernel_rfl) (by kernel_rfl) (by kernel_rfl) (fun _ _ _ h => h) (Or.inl ⟨by rfl, ?xh0⟩) (by assumption) ?xr0; (case xh0 => (intro w hSw; (try dsimp only at hSw); go_simp; (try with_reducible rfl))); (try simp only [Act.put, List.setIfInBounds_toArray, List.set_cons_zero, List.set_cons_succ, List.getElem_toArray, List.getElem_cons_zero, List.getElem_cons_succ])
  refine wpAnyX_take (i := 1) (v := ?xv1) rfl (by kernel_rfl) (by kernel_rfl) (by kernel_rfl) (by kernel_rfl) (fun _ _ _ h => h) (Or.inl ⟨by rfl, ?xh1⟩) (by assumption) ?xr1; (case xh1 => (intro w hSw; (try dsimp only at hSw); go_simp; (try with_reducible rfl))); (try simp only [Act.put, List.setIfInBounds_toArray, List.set_cons_zero, List.set_cons_succ, List.getElem_toArray, List.getElem_cons_zero, List.getElem_cons_succ])
  refine wpAnyX_take (i := 2) (v := ?xv2) rfl (by kernel_rfl) (by kernel_rfl) (by kernel_rfl) (by kernel_rfl) (fun _ _ _ h => h) (Or.inl ⟨by rfl, ?xh2⟩) (by assumption) ?xr2; (case xh2 => (intro w hSw; (try dsimp only at hSw); go_simp; (try with_reducible rfl))); (try simp only [Act.put, List.setIfInBounds_toArray, List.set_cons_zero, List.set_cons_succ, List.getElem_toArray, List.getElem_cons_zero, List.getElem_cons_succ])
  refine wpAnyX_take (i := 3) (v := ?xv3) rfl (by kernel_rfl) (by kernel_rfl) (by kernel_rfl) (by kernel_rfl) (fun _ _ _ h => h) (Or.inl ⟨by rfl, ?xh3⟩) (by assumption) ?xr3; (case xh3 => (intro w hSw; (try dsimp only at hSw); go_simp; (try with_reducible rfl))); (try simp only [Act.put, List.setIfInBounds_toArray, List.set_cons_zero, List.set_cons_succ, List.getElem_toArray, List.getElem_cons_zero, List.getElem_cons_succ])
  refine wpAnyX_take (i := 4) (v := ?xv4) rfl (by kernel_rfl) (by kernel_rfl) (by kernel_rfl) (by kernel_rfl) (fun _ _ _ h => h) (Or.inl ⟨by rfl, ?xh4⟩) (by assumption) ?xr4; (case xh4 => (intro w hSw; (try dsimp only at hSw); go_simp; (try with_reducible rfl))); (try simp only [Act.put, List.setIfInBounds_toArray, List.set_cons_zero, List.set_cons_succ, List.getElem_toArray, List.getElem_cons_zero, List.getElem_cons_succ])
  have HSG := hide hsG
  clear hsG hS X0
  refine wpX_start (n := 9 + left2 false false) (listed := (fun b_ c_ => #[true, true, true, true, true, false, false, false, false, false, false, b_, c_, false, false, false]) false false) (j1 := 11) (d1 := 6) (t1 := 25) (z1 := #[.int .i64 0, .slice none 0 0]) (j2 := 12) (d2 := 7) (t2 := 49) (z2 := #[.int .i64 0, .string { data := #[] }, .int .i64 0, .slice none 0 0]) ?al1 ?al2 ?aln ?all (fun al1 al2 => ?alr); (case al1 => exact ⟨⟨_, rfl, rfl, rfl, fun a w => by simp [go_sem, execOp]⟩⟩); (case al2 => exact ⟨⟨_, rfl, rfl, rfl, fun a w => by simp [go_sem, execOp]⟩⟩); (case aln => kernel_rfl); (case all => kernel_rfl)
  refine' wpX_phase0 (f := 8) (i := 5) (L := (fun b_ c_ => #[true, true, true, true, true, false, false, false, false, false, false, b_, c_, false, false, false])) (L' := (fun b_ c_ => #[true, true, true, true, true, true, false, false, false, false, false, b_, c_, false, false, false])) (base := wr.heap.size) (G := (fun w' => Below wr.heap.size wr w')) (x := undef) (y := undef) al1 al2 ?an5 ?al5 ?aa5 ?ar5 ?ai5 ?ag5 ?ae15 ?ae25 ?ae35 ?ap15 ?ap25 HSG.out (fun w' o q => q.alloc q.size o) (fun w' q => q.size) ?aw5 ?am5; (case an5 => rfl); (case al5 => rfl); (case aa5 => rfl); (case ar5 => kernel_rfl); (case ai5 => rfl); (case ag5 => rfl); (case ae15 => (intros; rfl)); (case ae25 => (intros; rfl)); (case ae35 => (intros; rfl)); (case ap15 => (intros; rfl)); (case ap25 => (intros; rfl))
  (case aw5 => exact (Below.refl _ wr).drew)
  intro b_ c_ x_ y_ wp1 hG_ hx_ hy_ hxy_ K_ hK_; (try simp only [Act.put, List.setIfInBounds_toArray, List.set_cons_zero, List.set_cons_succ, List.getElem_toArray, List.getElem_cons_zero, List.getElem_cons_succ])
  go_wp2_with fail
  refine (HMK.out _).mono ?_
  rintro e w4 ⟨rfl, hbp⟩
  go_wp2_with fail
  have qp : Below wr.heap.size wr w4 := bstep hG_ hbp
  have hSp := HSG.out _ qp
  refine hK_.out _ _ (Or.inr hSp) ?_
  clear hK_ K_ hG_
  refine' wpX_phase' (f := 7) (i := 6) (L := (fun b_ c_ => #[true, true, true, true, true, true, false, false, false, false, false, b_, c_, false, false, false])) (L' := (fun b_ c_ => #[true, true, true, true, true, true, true, false, false, false, false, b_, c_, false, false, false])) (base := wr.heap.size) (G := (fun w' => Below wr.heap.size wr w')) (b := b_) (c := c_) (x := x_) (y := y_) al1 al2 ?an6 ?al6 ?aa6 ?ar6 ?ai6 ?ag6 ?ae16 ?ae26 ?ae36 ?ap16 ?ap26 HSG.out (fun w' o q => q.alloc q.size o) (fun w' q => q.size) ?aw6 (hx_.bl hbp) (hy_.bl hbp) hxy_ ?am6; (case an6 => rfl); (case al6 => rfl); (case aa6 => rfl); (case ar6 => kernel_rfl); (case ai6 => rfl); (case ag6 => rfl); (case ae16 => (intros; rfl)); (case ae26 => (intros; rfl)); (case ae36 => (intros; rfl)); (case ap16 => (intros; rfl)); (case ap26 => (intros; rfl))
  (case aw6 => exact qp)
  clear hx_ hy_ hxy_ x_ y_ b_ c_ hbp
  intro b_ c_ x_ y_ wp2 hG_ hx_ hy_ hxy_ K_ hK_; (try simp only [Act.put, List.setIfInBounds_toArray, List.set_cons_zero, List.set_cons_succ, List.getElem_toArray, List.getElem_cons_zero, List.getElem_cons_succ])
  go_wp2_with fail
  refine (HDO.out _ _ _ _ (M1.bl hG_)).mono ?_
  rintro e w6 ⟨B1, m1, e1, Y, m, d, rfl, N6, L6, T6, hbp⟩
  go_wp2_with fail
  have qp : Below wr.heap.size wr w6 := bstep hG_ hbp
  have hSp := HSG.out _ qp
  refine hK_.out _ _ (Or.inr hSp) ?_
  clear hK_ K_ hG_
  refine' wpX_take' (f := 6) (i := 7) (v := ?xv7) (L := (fun b_ c_ => #[true, true, true, true, true, true, true, false, false, false, false, b_, c_, false, false, false])) (L' := (fun b_ c_ => #[true, true, true, true, true, true, true, true, false, false, false, b_, c_, false, false, false])) ?tan7 ?tal7 rfl (by kernel_rfl) ?tar7 (by kernel_rfl) ?tae37 (fun _ _ _ h => h) (Or.inl ⟨by rfl, ?xh7⟩) ?taw7 ?xr7; (case tan7 => rfl); (case tal7 => rfl); (case tar7 => kernel_rfl); (case tae37 => (intros; rfl)); (case taw7 => assumption); (case xh7 => (intro w hSw; (try dsimp only at hSw); go_simp; (try with_reducible rfl))); (try simp only [Act.put, List.setIfInBounds_toArray, List.set_cons_zero, List.set_cons_succ, List.getElem_toArray, List.getElem_cons_zero, List.getElem_cons_succ])
  refine' wpX_take' (f := 5) (i := 8) (v := ?xv8) (L := (fun b_ c_ => #[true, true, true, true, true, true, true, true, false, false, false, b_, c_, false, false, false])) (L' := (fun b_ c_ => #[true, true, true, true, true, true, true, true, true, false, false, b_, c_, false, false, false])) ?tan8 ?tal8 rfl (by kernel_rfl) ?tar8 (by kernel_rfl) ?tae38 (fun _ _ _ h => h) (Or.inl ⟨by rfl, ?xh8⟩) ?taw8 ?xr8; (case tan8 => rfl); (case tal8 => rfl); (case tar8 => kernel_rfl); (case tae38 => (intros; rfl)); (case taw8 => assumption); (case xh8 => (intro w hSw; (try dsimp only at hSw); go_simp; (try with_reducible rfl))); (try simp only [Act.put, List.setIfInBounds_toArray, List.set_cons_zero, List.set_cons_succ, List.getElem_toArray, List.getElem_cons_zero, List.getElem_cons_succ])
  refine' wpX_take' (f := 4) (i := 9) (v := ?xv9) (L := (fun b_ c_ => #[true, true, true, true, true, true, true, true, true, false, false, b_, c_, false, false, false])) (L' := (fun b_ c_ => #[true, true, true, true, true, true, true, true, true, true, false, b_, c_, false, false, false])) ?tan9 ?tal9 rfl (by kernel_rfl) ?tar9 (by kernel_rfl) ?tae39 (fun _ _ _ h => h) (Or.inl ⟨by rfl, ?xh9⟩) ?taw9 ?xr9; (case tan9 => rfl); (case tal9 => rfl); (case tar9 => kernel_rfl); (case tae39 => (intros; rfl)); (case taw9 => assumption); (case xh9 => (intro w hSw; (try dsimp only at hSw); go_simp; (try with_reducible rfl))); (try simp only [Act.put, List.setIfInBounds_toArray, List.set_cons_zero, List.set_cons_succ, List.getElem_toArray, List.getElem_cons_zero, List.getElem_cons_succ])
  refine' wpX_take' (f := 3) (i := 10) (v := ?xv10) (L := (fun b_ c_ => #[true, true, true, true, true, true, true, true, true, true, false, b_, c_, false, false, false])) (L' := (fun b_ c_ => #[true, true, true, true, true, true, true, true, true, true, true, b_, c_, false, false, false])) ?tan10 ?tal10 rfl (by kernel_rfl) ?tar10 (by kernel_rfl) ?tae310 (fun _ _ _ h => h) (Or.inl ⟨by rfl, ?xh10⟩) ?taw10 ?xr10; (case tan10 => rfl); (case tal10 => rfl); (case tar10 => kernel_rfl); (case tae310 => (intros; rfl)); (case taw10 => assumption); (case xh10 => (intro w hSw; (try dsimp only at hSw); go_simp; (try with_reducible rfl))); (try simp only [Act.put, List.setIfInBounds_toArray, List.set_cons_zero, List.set_cons_succ, List.getElem_toArray, List.getElem_cons_zero, List.getElem_cons_succ])
  refine' wpX_lay' (f := 3) (L := (fun b_ c_ => #[true, true, true, true, true, true, true, true, true, true, true, b_, c_, false, false, false])) (base := wr.heap.size) (G := (fun w' => Below w6.heap.size w6 w')) (b := b_) (c := c_) (x := x_) (y := y_) al1 al2 ?anL ?alL ?aaL ?arL ?ae1L ?ae2L ?ap1L ?ap2L (fun w' q => HSG.out w' (bstep qp q)) (fun w' o q => q.alloc q.size o) (fun w' q => Nat.le_trans qp.size q.size) ?awL (hx_.bl hbp) (hy_.bl hbp) hxy_ ?amL; (case anL => rfl); (case alL => rfl); (case aaL => rfl); (case arL => kernel_rfl); (case ae1L => (intros; rfl)); (case ae2L => (intros; rfl)); (case ap1L => (intros; rfl)); (case ap2L => (intros; rfl))
  (case awL => exact Below.refl _ w6)
  clear hx_ hy_ hxy_ x_ y_ b_ c_ hSp
  intro g1 g2 w7 hb7 hg1 G1 hg2 G2 hgg
  have q7 : Below wr.heap.size wr w7 := bstep qp hb7
  clear al1 al2
  (try clear cG1 fG1); have cG1 := G1.cell; have fG1 := G1.frozen
  refine wpAnyX_one (i := 13) (by kernel_rfl) rfl (by rfl) (fun K hK => ?_); (try simp only [List.getElem_toArray, List.getElem_cons_zero, List.getElem_cons_succ])
  go_wp2_with fail
  refine hK.out _ _ (Or.inr (HSG.out _ (below_set (below_set q7 hg1 0 _) hg1 1 _))) (fun hS => ?_)
  clear hK K hS cG1 fG1
  have F0 := G2.far (p := ⟨g1, 0, none⟩) (by simpa using hgg.symm) (.int .i64 now)
  have F1 := F0.far (p := ⟨g1, 1, none⟩) (by simpa using hgg.symm) (.slice B1 m1 e1)
  (try clear cF1 fF1); have cF1 := F1.cell; have fF1 := F1.frozen
  refine wpAnyX_one (i := 14) (by kernel_rfl) rfl (by rfl) (fun K hK => ?_); (try simp only [List.getElem_toArray, List.getElem_cons_zero, List.getElem_cons_succ])
  go_wp2_with fail
  refine hK.out _ _ (Or.inr (HSG.out _ (below_set (below_set (below_set (below_set (below_set (below_set q7 hg1 0 _) hg1 1 _) hg2 0 _) hg2 1 _) hg2 2 _) hg2 3 _))) (fun hS => ?_)
  replace hS := hS.resolve_left (by decide)
  clear hK K cF1 fF1
  refine wpAnyX_pure (i := 15) (v := ?xv15) rfl (by kernel_rfl) (Or.inl ⟨by rfl, ?xh15⟩) (Or.inr (by assumption)) ?xr15; (case xh15 => (intro w; go_simp; (try with_reducible rfl))); (try simp only [Act.put, List.setIfInBounds_toArray, List.set_cons_zero, List.set_cons_succ, List.getElem_toArray, List.getElem_cons_zero, List.getElem_cons_succ])
  clear hS
  refine wpAnyX_done (by kernel_rfl) ?_ _
  clear F0 F1
  obtain ⟨X1, gr1, sz1⟩ := whole_store (Value.int .i64 now) (Value.slice B1 m1 e1) G1
  have Y1 := grown_blk G2 gr1 hgg.symm
  obtain ⟨X2, gr2, sz2⟩ := whole_reply (Value.int .i64 rc) (Value.string rt) (Value.int .i64 rn) (Value.slice Y m d) Y1
  have X1' := grown_blk X1 gr2 hgg
  have q8 := below_grow (below_grow q7 gr1 q7.size hg1) gr2 (by rw [sz1]; exact q7.size) hg2
  have M8 := ((M1.bl q7).grown G1 gr1).grown Y1 gr2
  have N8 := ((N6.bl hb7).grown G1 gr1).grown Y1 gr2
  have V8 := grown_blk (grown_blk (V.below' q7) gr1 (by omega)) gr2 (by omega)
  obtain ⟨w8, hw8⟩ : ∃ w8, w8 = ((((((w7.setCell ⟨g1, 0, none⟩ (Value.int .i64 now)).setCell ⟨g1, 1, none⟩ (Value.slice B1 m1 e1)).setCell ⟨g2, 0, none⟩ (Value.int .i64 rc)).setCell ⟨g2, 1, none⟩ (Value.string rt)).setCell ⟨g2, 2, none⟩ (Value.int .i64 rn)).setCell ⟨g2, 3, none⟩ (Value.slice Y m d)) := ⟨_, rfl⟩
  rw [← hw8] at q8 X1' X2 N8 M8 V8 ⊢
  clear hw8 gr1 gr2 sz1 sz2 Y1 X1 G1 G2 q7 hb7
  have X1 := X1'
  clear X1'
  have hml : rl.length = m := by have := L6.len; simpa [strRows] using this
  clear M1 V N6 L6 T6
  replace q : Below w.heap.size w w8 := bstep q0 q8
  clear q8 q0 hv1 hx1 hq1
  (try clear cV8 fV8); have cV8 := V8.cell; have fV8 := V8.frozen
  go_wp2_with fail
  refine (K2.out _ _ _ _ M8).mono ?_; rintro e w9 ⟨A9, n9, c9, Y9, m9, d9, rfl, M9, L9, T9, hb9⟩; replace M8 := M8.bl hb9; replace N8 := N8.bl hb9; replace X1 := X1.bl hb9; replace X2 := X2.bl hb9; replace V8 := V8.bl hb9; replace q : Below w.heap.size w w9 := (by repeat (first | (with_reducible exact Below.refl _ _) | (with_reducible assumption) | (with_reducible refine Below.drew ?_) | (with_reducible refine bdrewN ?_ _) | (with_reducible refine balloc ?_ _) | ((with_reducible refine bset ?_ ?_ _); rotate_left; (focus first | exact Nat.le_refl _ | (simp; done) | (simp; omega) | omega)) | (with_reducible refine bstep ?_ (by with_reducible assumption)) | (with_reducible refine Below.trans ?_ (by with_reducible assumption)))); clear hb9
  have D9 := Blk.new w9 25 #[.int .i64 (now), .slice A9 n9 c9]; replace M9 := M9.al (.cells #[.int .i64 (now), .slice A9 n9 c9] 25); replace L9 := L9.al (.cells #[.int .i64 (now), .slice A9 n9 c9] 25); replace M8 := M8.al (.cells #[.int .i64 (now), .slice A9 n9 c9] 25); replace N8 := N8.al (.cells #[.int .i64 (now), .slice A9 n9 c9] 25); replace X1 := X1.al (.cells #[.int .i64 (now), .slice A9 n9 c9] 25); replace X2 := X2.al (.cells #[.int .i64 (now), .slice A9 n9 c9] 25); replace V8 := V8.al (.cells #[.int .i64 (now), .slice A9 n9 c9] 25); have R9 : Blk ((w9.alloc (.cells #[.int .i64 (now), .slice A9 n9 c9] 25)).alloc (.cells #[.int .i64 (qc), .string emp, .int .i64 (0), .slice Y9 m9 d9] 49)) (w9.heap.size + 1) 49 #[.int .i64 (qc), .string emp, .int .i64 (0), .slice Y9 m9 d9] := Blk.new' _ _ _ (by simp); replace M9 := M9.al (.cells #[.int .i64 (qc), .string emp, .int .i64 (0), .slice Y9 m9 d9] 49); replace L9 := L9.al (.cells #[.int .i64 (qc), .string emp, .int .i64 (0), .slice Y9 m9 d9] 49); replace D9 := D9.al (.cells #[.int .i64 (qc), .string emp, .int .i64 (0), .slice Y9 m9 d9] 49); replace M8 := M8.al (.cells #[.int .i64 (qc), .string emp, .int .i64 (0), .slice Y9 m9 d9] 49); replace N8 := N8.al (.cells #[.int .i64 (qc), .string emp, .int .i64 (0), .slice Y9 m9 d9] 49); replace X1 := X1.al (.cells #[.int .i64 (qc), .string emp, .int .i64 (0), .slice Y9 m9 d9] 49); replace X2 := X2.al (.cells #[.int .i64 (qc), .string emp, .int .i64 (0), .slice Y9 m9 d9] 49); replace V8 := V8.al (.cells #[.int .i64 (qc), .string emp, .int .i64 (0), .slice Y9 m9 d9] 49)
  clear L9 T9 D9 M9
  rcases HRE.out with hz | ⟨hes, k, hk, hR⟩
  · have hz : rc = 0 := hz
    subst hz
    (try clear cX1 fX1); have cX1 := X1.cell; have fX1 := X1.frozen; (try clear cX2 fX2); have cX2 := X2.cell; have fX2 := X2.frozen; (try clear cV8 fV8); have cV8 := V8.cell; have fV8 := V8.frozen; (try clear cR9 fR9); have cR9 := R9.cell; have fR9 := R9.frozen
    clear HRE HMK HDO
    go_wp2_with fail
    go_ret
    exact ⟨rfl, (by repeat (first | (with_reducible exact Below.refl _ _) | (with_reducible assumption) | (with_reducible refine Below.drew ?_) | (with_reducible refine bdrewN ?_ _) | (with_reducible refine balloc ?_ _) | ((with_reducible refine bset ?_ ?_ _); rotate_left; (focus first | exact Nat.le_refl _ | (simp; done) | (simp; omega) | omega)) | (with_reducible refine bstep ?_ (by with_reducible assumption)) | (with_reducible refine Below.trans ?_ (by with_reducible assumption))))⟩
  · injection hR with hr1 hr2 hr3 hr4
    subst hr1; subst hr2; subst hr3; subst hr4
    subst hes
    simp only [List.length_nil] at hml
    have hml2 := hide hml
    clear hml HRE HMK HDO
    have hk' : (rc == 0) = false := by rw [beq_eq_false_iff_ne]; exact hk
    obtain rfl : m = 0 := hml2.out.symm
    (try clear cX1 fX1); have cX1 := X1.cell; have fX1 := X1.frozen; (try clear cX2 fX2); have cX2 := X2.cell; have fX2 := X2.frozen; (try clear cV8 fV8); have cV8 := V8.cell; have fV8 := V8.frozen; (try clear cR9 fR9); have cR9 := R9.cell; have fR9 := R9.frozen
    go_wp2_with fail
    refine (KS.out _ _ _ _ _ _ _ M8 N8).mono ?_
    rintro e w10 ⟨rfl, hb10⟩
    replace X2 := X2.bl hb10
    (try clear cX2 fX2); have cX2 := X2.cell; have fX2 := X2.frozen
    have het := emp_list
    go_wp2_with fail
    go_ret
    exact ⟨rfl, (by repeat (first | (with_reducible exact Below.refl _ _) | (with_reducible assumption) | (with_reducible refine Below.drew ?_) | (with_reducible refine bdrewN ?_ _) | (with_reducible refine balloc ?_ _) | ((with_reducible refine bset ?_ ?_ _); rotate_left; (focus first | exact Nat.le_refl _ | (simp; done) | (simp; omega) | omega)) | (with_reducible refine bstep ?_ (by with_reducible assumption)) | (with_reducible refine Below.trans ?_ (by with_reducible assumption))))⟩
set_option maxRecDepth 100000 in
theorem failKeeps_lifted (os : Os) (started : os.Started) (H : Type) (enc : TypeId × Value → H) :
  ReturnsInHanded {} Try.checked os 13 .any (Rows.failKeepsSpec.pre6 enc Try.prog Try.f13 Rows.failKeepsRow.domain false) (Rows.failKeepsSpec.post enc Try.prog Try.f13 false true false false) := by
  refine returnsInHanded_of_change (C := Try.checked) Try.own started (by kernel_rfl) Try.func13 (ChangeSpec.witness6 (enc := enc) (C := Try.checked) false ⟨#[], #[.slice none 0 0, .agg #[.int .i64 0, .int .i64 0, .int .i64 0, .int .i64 0, .string ByteArray.empty, .int .i64 0]], []⟩ 8 (by kernel_rfl) (by kernel_rfl) (by kernel_rfl) (by kernel_rfl)) ?_
  intro W base args ds gs before hval0 hW hcnd _
  have hval : ∀ (j : Nat) t v, Try.f13.params[j]? = some t → args[j]? = some v → Value.okWide Try.prog W .any base t v := hval0
  have hW' := hW
  obtain ⟨p, q, hA0, hV, rfl, hfz, hnd⟩ := hW
  have hA : DataW.TrodAll enc Try.prog W 0 (fun _ => true) true Try.f13.params.toList args.toList ds p := hA0
  rw [Try.params13] at hA hval
  obtain ⟨rfl, rfl⟩ := trodVars_none hV
  clear hA0 hval0 hcnd hV hfz hnd
  obtain ⟨v0, v1, d0, d1, p0, p1, rfl, rfl, rfl, h0, h1⟩ := trodAll_two hA
  obtain ⟨A, n, c, l, rfl, hd, hS⟩ := open_steps (hval 0 55 v0 rfl rfl) h0
  obtain ⟨x, rfl, hx⟩ := open_step (hval 1 57 v1 rfl rfl) h1
  refine (failKeeps_walk A n c l x W hS hd hx).mono fun e W' ⟨he, hb⟩ => ?_
  subst he
  exact ⟨_, rfl, post_law Try.laidOut hW' rfl (by kernel_rfl) rfl Try.underlying4 (fun _ => rfl) (fun _ => rfl) (fun _ => rfl) hb⟩
theorem failKeeps_holds : Rows.FailKeepsSaid := OpenClaim.holds_of_wide 13 Try.f13 rfl rfl rfl rfl rfl rfl rfl ⟨rfl, rfl, rfl, rfl, rfl⟩ rfl rfl rfl rfl rfl (by kernel_rfl) Try.func13 (by kernel_rfl)
  (of_decide_eq_true (by kernel_rfl)) (by unfold Func.isWrapper; first | (rw [if_pos (by decide +kernel)]; kernel_rfl) | (rw [if_neg (by decide +kernel)]; exact ⟨rfl, rfl⟩))
  (fun os started H enc _ => failKeeps_lifted os started H enc)
#print axioms failKeeps_holds
end Go.Proofs.Ytpdadlofgfdlpaa
