/- rostrumkeep.TimeBack returns true for every input; no condition. -/
import Derived.Test.YtpdadlofgfdlpaaStoT
namespace Go.Proofs.Ytpdadlofgfdlpaa
set_option linter.all false
open Go.ChangeShapes Go.WideShapes Go.ChangeAt Go.RowKit
theorem apply_past {now time : Int} {l : List En} {c : Cmd} (hs : StOk now l) (h0 : 0 ≤ time) (ht : time ≤ now) (hc : ccOf c = 0) : applyS now l time c = applyS now l now c := by
  have := hs.now1
  have := hs.now0
  unfold applyS
  rw [if_neg (by rw [ok_store hs]; simp), if_neg (by omega), if_neg (by omega), if_neg (by rw [ok_store hs]; simp), if_neg (by omega), if_neg (by omega), show max now time = now by omega, show max now now = now by omega]
set_option maxRecDepth 100000 in
set_option maxHeartbeats 8000000 in
theorem timeBack_walk (A : Option Addr) (n c : Nat) (l : List StepD) (x : StepD) (ago : Int) (w : World) (hS : Sl w 6 A n c (stepRows l)) (hd : ∀ d ∈ l, d.ok) (hx : x.ok) (ha : I64 ago) :
    Calls Try.prog 16 #[.slice A n c, .agg #[.int .i64 x.raw.kind, .int .i64 x.raw.key, .int .i64 x.raw.field, .int .i64 x.raw.n, .string x.raw.text, .int .i64 x.wait], .int .i64 ago] w fun e w' => e = .returned (.bool true) ∧ Below w.heap.size w w' := by
  have hnl := step_len hS
  have hcm := hS.cm
  have hnc := hS.nc
  unfold maxLen at hcm
  subst hnl
  obtain ⟨J, hJ⟩ : ∃ J, J = min l.length 30 := ⟨_, rfl⟩
  have hJl : J ≤ l.length := by omega
  have hJ39 : J ≤ 39 := by omega
  have hif : min (l.length : Int) 30 = (J : Int) := by omega
  have hif2 : (if (30 : Int) < (l.length : Int) then (30 : Int) else (l.length : Int)) = (J : Int) := by split <;> omega
  have hS' := hS.take J hJl c (by omega) (Nat.le_refl _)
  have hst : (stepRows l).take J = stepRows (l.take J) := by simp [stepRows]
  rw [hst] at hS'
  have hsl := fun w => run_take Try.underlying55 step_size A l.length c J (by omega) w
  have hd' : ∀ d ∈ l.take J ++ [waitStep], d.ok := fun d hm => by
    rcases List.mem_append.1 hm with hm | hm
    · exact hd d (List.mem_of_mem_take hm)
    · rw [List.mem_singleton] at hm; subst hm; exact waitStep_ok
  have hlt : (l.take J).length = J := by rw [List.length_take]; omega
  have hF := fun A n c w (h : Sl w 6 A n c (stepRows (l.take J) ++ [waitStep.cells])) => Store_any A n c (l.take J ++ [waitStep]) w (step_app _ _ ▸ h) hd'
  obtain ⟨ok, hn, hpos⟩ := store_wait (l.take J) (by omega)
  have hone := step_one (l.take J)
  have hrl : (stepRows (l.take J)).length = J := by simp [stepRows]; omega
  clear hst hJ hd
  generalize storeOf (l.take J ++ [waitStep]) = s at *
  generalize stepRows (l.take J) = sr at *
  obtain ⟨now, es⟩ := s
  simp only at ok hn hpos
  have h0 := ok.now0
  have KF := hide hF
  clear hF hd' hlt
  have hmk := fun w => CommandS_any x.raw hx.1 w
  have cm0 : ccOf (cmdD x.raw) = 0 := cmd_ok _ _ _ _ _
  have p0 := picked_lo ago (now + 1) (by omega)
  have p1 := picked_hi ago (now + 1) (by omega)
  have hp := fun w => picked_any ago (now + 1) w ha.1 ha.2 (by omega) (by omega)
  generalize picked ago (now + 1) = p at *
  have wp1 : IntKind.i64.wrap (now + 1) = now + 1 := IntWalk.i64_in _ (by omega)
  have wp2 : IntKind.i64.wrap (now - p) = now - p := IntWalk.i64_in _ (by omega)
  obtain ⟨es', RE, h1, ok1⟩ : ∃ es' RE, applyS now es now (cmdD x.raw) = ((now, es'), RE, 0) ∧ StOk now es' := by
    have e := apply_ok ok (Int.le_refl _) (by omega) cm0
    rw [alive_self ok] at e
    exact ⟨_, _, e, doS_ok ok cm0⟩
  have h2 := apply_past (time := now - p) ok (by omega) (by omega) cm0
  rw [h1] at h2
  have hA1 := Apply_may ok _ _ _ h1 h0 (by omega)
  have hA2 := Apply_may ok _ _ _ h2 (by omega) (by omega)
  have KS := hide (fun A B n m c d w (ha : St w A n c es') (hb : St w B m d es') => sameStore_eq now A B n m c d es' w ha hb (by have := ok1.few; omega))
  obtain ⟨⟨rk, ry, rf, rr, rx⟩, rw_⟩ := x
  simp only at hmk hA1 hA2 ⊢
  generalize hcm : cmdD ⟨rk, ry, rf, rr, rx⟩ = cm at *
  clear hcm h1 h2 ok1 cm0 ok hx ha
  obtain ⟨ck, cy, cf, ct, cn⟩ := cm
  obtain ⟨rc, rt, rn, rl⟩ := RE
  simp only [cmdV] at hmk hA1 hA2
  have KC := hide hmk; have KP := hide hp; have K1 := hide hA1; have K2 := hide hA2
  clear hmk hp hA1 hA2
  have X0 := Blk.new w 57 #[.int .i64 rk, .int .i64 ry, .int .i64 rf, .int .i64 rr, .string rx, .int .i64 rw_]
  go_enter Try.func16, Try.ntmps16
  go_wp2_with (at_builtin; refine wpList_pushes rfl _ _ _ rfl Try.underlying55 step_info rfl (by decide) (base := w.heap.size + 1) (rows := []) rfl ?ho rfl ?hs hone ?h63 ?hby ?hba ?hk)
  try (case ho => exact Own.nil)
  try (case hs => exact hS'.alloc _)
  try (case h63 => first | (simp [maxLen]; omega) | (unfold maxLen; omega))
  try (case hby => first | omega | (simp; omega))
  try (case hba => simp)
  case hk =>
  intro P1 p1 r1 w1 O1 hb1
  try simp only [List.nil_append] at O1
  have hq1 : w.heap.size + 1 ≤ w1.heap.size := by simpa using hb1.size
  
  go_wp2_with (at_builtin; refine wpList_pushes rfl _ _ _ rfl Try.underlying55 step_info rfl (by decide) (base := w.heap.size + 1) (rows := sr) rfl ?ho2 rfl ?hs2 (one_step waitStep) ?h632 ?hby2 ?hba2 ?hk2)
  try (case ho2 => exact O1.al _)
  try (case hs2 => exact Sl.of_blk (rows := [waitStep.cells]) (Blk.new' _ _ _ (by simp)) rfl (by intro r hr; rw [List.mem_singleton] at hr; subst hr; rfl) rfl (by simp [maxLen]))
  try (case h632 => first | (simp [maxLen]; omega) | (unfold maxLen; omega))
  try (case hby2 => first | omega | (simp; omega))
  try (case hba2 => first | omega | (simp; omega))
  case hk2 =>
  intro P2 p2 r2 w2 O2 hb2
  replace KF := hide (KF.out _ _ _ w2 O2.sl')
  have q2 : Below (w.alloc (.cells #[.int .i64 rk, .int .i64 ry, .int .i64 rf, .int .i64 rr, .string rx, .int .i64 rw_] 57)).heap.size (w.alloc (.cells #[.int .i64 rk, .int .i64 ry, .int .i64 rf, .int .i64 rr, .string rx, .int .i64 rw_] 57)) w2 := by simpa using Below.trans (hb1.alloc hq1 _) hb2
  replace X0 := X0.bl q2
  have q : Below w.heap.size w w2 := (by repeat (first | (with_reducible exact Below.refl _ _) | (with_reducible assumption) | (with_reducible refine Below.drew ?_) | (with_reducible refine bdrewN ?_ _) | (with_reducible refine balloc ?_ _) | ((with_reducible refine bset ?_ ?_ _); rotate_left; (focus first | exact Nat.le_refl _ | (simp; done) | (simp; omega) | omega)) | (with_reducible refine bstep ?_ (by with_reducible assumption)) | (with_reducible refine Below.trans ?_ (by with_reducible assumption))))
  clear O1 O2 hb1 hb2 q2 hS' hsl
  (try clear cX0 fX0); have cX0 := X0.cell; have fX0 := X0.frozen
  go_wp2_with fail
  refine KF.out.mono ?_
  rintro e w3 ⟨A1, n1, c1, rfl, M1, hb3⟩
  replace X0 := X0.bl hb3
  replace q : Below w.heap.size w w3 := (by repeat (first | (with_reducible exact Below.refl _ _) | (with_reducible assumption) | (with_reducible refine Below.drew ?_) | (with_reducible refine bdrewN ?_ _) | (with_reducible refine balloc ?_ _) | ((with_reducible refine bset ?_ ?_ _); rotate_left; (focus first | exact Nat.le_refl _ | (simp; done) | (simp; omega) | omega)) | (with_reducible refine bstep ?_ (by with_reducible assumption)) | (with_reducible refine Below.trans ?_ (by with_reducible assumption))))
  clear hb3 KF
  have D1 := Blk.new w3 25 #[.int .i64 (now), .slice A1 n1 c1]
  replace M1 := M1.al (.cells #[.int .i64 (now), .slice A1 n1 c1] 25); replace X0 := X0.al (.cells #[.int .i64 (now), .slice A1 n1 c1] 25)
  (try clear cX0 fX0); have cX0 := X0.cell; have fX0 := X0.frozen
  go_wp2_with fail
  refine (KC.out _).mono ?_
  rintro e w4 ⟨rfl, hb4⟩
  replace M1 := M1.bl hb4; replace D1 := D1.bl hb4
  replace q : Below w.heap.size w w4 := (by repeat (first | (with_reducible exact Below.refl _ _) | (with_reducible assumption) | (with_reducible refine Below.drew ?_) | (with_reducible refine bdrewN ?_ _) | (with_reducible refine balloc ?_ _) | ((with_reducible refine bset ?_ ?_ _); rotate_left; (focus first | exact Nat.le_refl _ | (simp; done) | (simp; omega) | omega)) | (with_reducible refine bstep ?_ (by with_reducible assumption)) | (with_reducible refine Below.trans ?_ (by with_reducible assumption))))
  clear hb4 X0 cX0 fX0
  have C1 := Blk.new w4 46 #[.int .i64 ck, .string cy, .string cf, .string ct, .int .i64 cn]
  replace M1 := M1.al (.cells #[.int .i64 ck, .string cy, .string cf, .string ct, .int .i64 cn] 46); replace D1 := D1.al (.cells #[.int .i64 ck, .string cy, .string cf, .string ct, .int .i64 cn] 46)
  (try clear cD1 fD1); have cD1 := D1.cell; have fD1 := D1.frozen; (try clear cC1 fC1); have cC1 := C1.cell; have fC1 := C1.frozen
  go_wp2_with fail
  refine (K1.out _ _ _ _ M1).mono ?_; rintro e w5 ⟨A2, n2, c2, Y2, m2, d2, rfl, M2, L2, T2, hb2⟩; replace M1 := M1.bl hb2; replace D1 := D1.bl hb2; replace C1 := C1.bl hb2; replace q : Below w.heap.size w w5 := (by repeat (first | (with_reducible exact Below.refl _ _) | (with_reducible assumption) | (with_reducible refine Below.drew ?_) | (with_reducible refine bdrewN ?_ _) | (with_reducible refine balloc ?_ _) | ((with_reducible refine bset ?_ ?_ _); rotate_left; (focus first | exact Nat.le_refl _ | (simp; done) | (simp; omega) | omega)) | (with_reducible refine bstep ?_ (by with_reducible assumption)) | (with_reducible refine Below.trans ?_ (by with_reducible assumption)))); clear hb2
  have D2 := Blk.new w5 25 #[.int .i64 (now), .slice A2 n2 c2]; replace M2 := M2.al (.cells #[.int .i64 (now), .slice A2 n2 c2] 25); replace L2 := L2.al (.cells #[.int .i64 (now), .slice A2 n2 c2] 25); replace M1 := M1.al (.cells #[.int .i64 (now), .slice A2 n2 c2] 25); replace D1 := D1.al (.cells #[.int .i64 (now), .slice A2 n2 c2] 25); replace C1 := C1.al (.cells #[.int .i64 (now), .slice A2 n2 c2] 25); have R2 : Blk ((w5.alloc (.cells #[.int .i64 (now), .slice A2 n2 c2] 25)).alloc (.cells #[.int .i64 (rc), .string rt, .int .i64 (rn), .slice Y2 m2 d2] 49)) (w5.heap.size + 1) 49 #[.int .i64 (rc), .string rt, .int .i64 (rn), .slice Y2 m2 d2] := Blk.new' _ _ _ (by simp); replace M2 := M2.al (.cells #[.int .i64 (rc), .string rt, .int .i64 (rn), .slice Y2 m2 d2] 49); replace L2 := L2.al (.cells #[.int .i64 (rc), .string rt, .int .i64 (rn), .slice Y2 m2 d2] 49); replace D2 := D2.al (.cells #[.int .i64 (rc), .string rt, .int .i64 (rn), .slice Y2 m2 d2] 49); replace M1 := M1.al (.cells #[.int .i64 (rc), .string rt, .int .i64 (rn), .slice Y2 m2 d2] 49); replace D1 := D1.al (.cells #[.int .i64 (rc), .string rt, .int .i64 (rn), .slice Y2 m2 d2] 49); replace C1 := C1.al (.cells #[.int .i64 (rc), .string rt, .int .i64 (rn), .slice Y2 m2 d2] 49)
  replace T2 := ((T2.bl ((Below.refl _ w5).alloc (Nat.le_refl _) (.cells #[.int .i64 (now), .slice A2 n2 c2] 25))).bl ((Below.refl _ (w5.alloc (.cells #[.int .i64 (now), .slice A2 n2 c2] 25))).alloc (Nat.le_refl _) (.cells #[.int .i64 (rc), .string rt, .int .i64 (rn), .slice Y2 m2 d2] 49)))
  go_wp2_with fail
  obtain ⟨wr, hwr⟩ : ∃ wr, wr = (w5.alloc (.cells #[.int .i64 (now), .slice A2 n2 c2] 25)).alloc (.cells #[.int .i64 (rc), .string rt, .int .i64 (rn), .slice Y2 m2 d2] 49) := ⟨_, rfl⟩
  have q0 : Below w.heap.size w ((w5.alloc (.cells #[.int .i64 (now), .slice A2 n2 c2] 25)).alloc (.cells #[.int .i64 (rc), .string rt, .int .i64 (rn), .slice Y2 m2 d2] 49)) := (by repeat (first | (with_reducible exact Below.refl _ _) | (with_reducible assumption) | (with_reducible refine Below.drew ?_) | (with_reducible refine bdrewN ?_ _) | (with_reducible refine balloc ?_ _) | ((with_reducible refine bset ?_ ?_ _); rotate_left; (focus first | exact Nat.le_refl _ | (simp; done) | (simp; omega) | omega)) | (with_reducible refine bstep ?_ (by with_reducible assumption)) | (with_reducible refine Below.trans ?_ (by with_reducible assumption))))
  rw [← hwr] at M1 D1 C1 M2 L2 T2 D2 R2 q0 ⊢
  have hq1 := q0.size
  clear hwr q K1
  have hv1 := D1.lt
  have hv2 := D2.lt
  have hv3 := R2.lt
  have hsG : ∀ w', Below wr.heap.size wr w' → (w'.cell? ⟨w3.heap.size, 0, none⟩ = some (.int .i64 now) ∧ w'.cell? ⟨w3.heap.size, 1, none⟩ = some (.slice A1 n1 c1) ∧ w'.cell? ⟨w4.heap.size, 0, none⟩ = some (.int .i64 ck) ∧ w'.cell? ⟨w4.heap.size, 1, none⟩ = some (.string cy) ∧ w'.cell? ⟨w4.heap.size, 2, none⟩ = some (.string cf) ∧ w'.cell? ⟨w4.heap.size, 3, none⟩ = some (.string ct) ∧ w'.cell? ⟨w4.heap.size, 4, none⟩ = some (.int .i64 cn)) := fun w' q => by
    have V' := D1.below' q
    have X' := C1.below' q
    exact ⟨V'.cell 0, V'.cell 1, X'.cell 0, X'.cell 1, X'.cell 2, X'.cell 3, X'.cell 4⟩
  refine wp_region_x (l := []) (S := fun w' => w'.cell? ⟨w3.heap.size, 0, none⟩ = some (.int .i64 now) ∧ w'.cell? ⟨w3.heap.size, 1, none⟩ = some (.slice A1 n1 c1) ∧ w'.cell? ⟨w4.heap.size, 0, none⟩ = some (.int .i64 ck) ∧ w'.cell? ⟨w4.heap.size, 1, none⟩ = some (.string cy) ∧ w'.cell? ⟨w4.heap.size, 2, none⟩ = some (.string cf) ∧ w'.cell? ⟨w4.heap.size, 3, none⟩ = some (.string ct) ∧ w'.cell? ⟨w4.heap.size, 4, none⟩ = some (.int .i64 cn)) (by kernel_rfl) (hsG _ (Below.refl _ wr).drew) (fun hS => ?_)
  refine wpAnyX_take (i := 0) (v := ?xv0) rfl (by kernel_rfl) (by kernel_rfl) (by kernel_rfl) (by kernel_rfl) (fun _ _ _ h => h) (Or.inl ⟨by rfl, ?xh0⟩) (by assumption) ?xr0; (case xh0 => (intro w hSw; (try dsimp only at hSw); go_simp; (try with_reducible rfl))); (try simp only [Act.put, List.setIfInBounds_toArray, List.set_cons_zero, List.set_cons_succ, List.getElem_toArray, List.getElem_cons_zero, List.getElem_cons_succ])
  refine wpAnyX_take (i := 1) (v := ?xv1) rfl (by kernel_rfl) (by kernel_rfl) (by kernel_rfl) (by kernel_rfl) (fun _ _ _ h => h) (Or.inl ⟨by rfl, ?xh1⟩) (by assumption) ?xr1; (case xh1 => (intro w hSw; (try dsimp only at hSw); go_simp; (try with_reducible rfl))); (try simp only [Act.put, List.setIfInBounds_toArray, List.set_cons_zero, List.set_cons_succ, List.getElem_toArray, List.getElem_cons_zero, List.getElem_cons_succ])
  refine wpAnyX_take (i := 2) (v := ?xv2) rfl (by kernel_rfl) (by kernel_rfl) (by kernel_rfl) (by kernel_rfl) (fun _ _ _ h => h) (Or.inl ⟨by rfl, ?xh2⟩) (by assumption) ?xr2; (case xh2 => (intro w hSw; (try dsimp only at hSw); go_simp; (try with_reducible rfl))); (try simp only [Act.put, List.setIfInBounds_toArray, List.set_cons_zero, List.set_cons_succ, List.getElem_toArray, List.getElem_cons_zero, List.getElem_cons_succ])
  refine wpAnyX_take (i := 3) (v := ?xv3) rfl (by kernel_rfl) (by kernel_rfl) (by kernel_rfl) (by kernel_rfl) (fun _ _ _ h => h) (Or.inl ⟨by rfl, ?xh3⟩) (by assumption) ?xr3; (case xh3 => (intro w hSw; (try dsimp only at hSw); go_simp; (try with_reducible rfl))); (try simp only [Act.put, List.setIfInBounds_toArray, List.set_cons_zero, List.set_cons_succ, List.getElem_toArray, List.getElem_cons_zero, List.getElem_cons_succ])
  refine wpAnyX_take (i := 4) (v := ?xv4) rfl (by kernel_rfl) (by kernel_rfl) (by kernel_rfl) (by kernel_rfl) (fun _ _ _ h => h) (Or.inl ⟨by rfl, ?xh4⟩) (by assumption) ?xr4; (case xh4 => (intro w hSw; (try dsimp only at hSw); go_simp; (try with_reducible rfl))); (try simp only [Act.put, List.setIfInBounds_toArray, List.set_cons_zero, List.set_cons_succ, List.getElem_toArray, List.getElem_cons_zero, List.getElem_cons_succ])
  refine wpAnyX_take (i := 5) (v := ?xv5) rfl (by kernel_rfl) (by kernel_rfl) (by kernel_rfl) (by kernel_rfl) (fun _ _ _ h => h) (Or.inl ⟨by rfl, ?xh5⟩) (by assumption) ?xr5; (case xh5 => (intro w hSw; (try dsimp only at hSw); go_simp; (try with_reducible rfl))); (try simp only [Act.put, List.setIfInBounds_toArray, List.set_cons_zero, List.set_cons_succ, List.getElem_toArray, List.getElem_cons_zero, List.getElem_cons_succ])
  refine wpAnyX_take (i := 6) (v := ?xv6) rfl (by kernel_rfl) (by kernel_rfl) (by kernel_rfl) (by kernel_rfl) (fun _ _ _ h => h) (Or.inl ⟨by rfl, ?xh6⟩) (by assumption) ?xr6; (case xh6 => (intro w hSw; (try dsimp only at hSw); go_simp; (try with_reducible rfl))); (try simp only [Act.put, List.setIfInBounds_toArray, List.set_cons_zero, List.set_cons_succ, List.getElem_toArray, List.getElem_cons_zero, List.getElem_cons_succ])
  refine wpAnyX_take (i := 9) (v := ?xv9) rfl (by kernel_rfl) (by kernel_rfl) (by kernel_rfl) (by kernel_rfl) (fun _ _ _ h => h) (Or.inl ⟨by rfl, ?xh9⟩) (by assumption) ?xr9; (case xh9 => (intro w hSw; (try dsimp only at hSw); go_simp; (try with_reducible rfl))); (try simp only [Act.put, List.setIfInBounds_toArray, List.set_cons_zero, List.set_cons_succ, List.getElem_toArray, List.getElem_cons_zero, List.getElem_cons_succ])
  have HSG := hide hsG
  clear hsG hS 
  refine wpX_start (n := 10 + left2 false false) (listed := (fun b_ c_ => #[true, true, true, true, true, true, true, false, false, true, false, false, false, false, false, b_, c_, false, false, false]) false false) (j1 := 15) (d1 := 12) (t1 := 25) (z1 := #[.int .i64 0, .slice none 0 0]) (j2 := 16) (d2 := 13) (t2 := 49) (z2 := #[.int .i64 0, .string { data := #[] }, .int .i64 0, .slice none 0 0]) ?al1 ?al2 ?aln ?all (fun al1 al2 => ?alr); (case al1 => exact ⟨⟨_, rfl, rfl, rfl, fun a w => by simp [go_sem, execOp]⟩⟩); (case al2 => exact ⟨⟨_, rfl, rfl, rfl, fun a w => by simp [go_sem, execOp]⟩⟩); (case aln => kernel_rfl); (case all => kernel_rfl)
  refine' wpX_phase0 (f := 9) (i := 7) (L := (fun b_ c_ => #[true, true, true, true, true, true, true, false, false, true, false, false, false, false, false, b_, c_, false, false, false])) (L' := (fun b_ c_ => #[true, true, true, true, true, true, true, true, false, true, false, false, false, false, false, b_, c_, false, false, false])) (base := wr.heap.size) (G := (fun w' => Below wr.heap.size wr w')) (x := undef) (y := undef) al1 al2 ?an7 ?al7 ?aa7 ?ar7 ?ai7 ?ag7 ?ae17 ?ae27 ?ae37 ?ap17 ?ap27 HSG.out (fun w' o q => q.alloc q.size o) (fun w' q => q.size) ?aw7 ?am7; (case an7 => rfl); (case al7 => rfl); (case aa7 => rfl); (case ar7 => kernel_rfl); (case ai7 => rfl); (case ag7 => rfl); (case ae17 => (intros; rfl)); (case ae27 => (intros; rfl)); (case ae37 => (intros; rfl)); (case ap17 => (intros; rfl)); (case ap27 => (intros; rfl))
  (case aw7 => exact (Below.refl _ wr).drew)
  intro b_ c_ x_ y_ wp1 hG_ hx_ hy_ hxy_ K_ hK_; (try simp only [Act.put, List.setIfInBounds_toArray, List.set_cons_zero, List.set_cons_succ, List.getElem_toArray, List.getElem_cons_zero, List.getElem_cons_succ])
  go_wp2_with fail
  refine (KP.out _).mono ?_
  rintro e w6 ⟨rfl, hw6⟩
  have hbp : Below wp1.heap.size wp1 w6 := hw6 ▸ Below.refl _ wp1
  clear hw6
  go_wp2_with fail
  have qp : Below wr.heap.size wr w6 := bstep hG_ hbp
  have hSp := HSG.out _ qp
  refine hK_.out _ _ (Or.inr hSp) ?_
  clear hK_ K_ hG_
  refine' wpX_take' (f := 8) (i := 8) (v := ?xv8) (L := (fun b_ c_ => #[true, true, true, true, true, true, true, true, false, true, false, false, false, false, false, b_, c_, false, false, false])) (L' := (fun b_ c_ => #[true, true, true, true, true, true, true, true, true, true, false, false, false, false, false, b_, c_, false, false, false])) ?tan8 ?tal8 rfl (by kernel_rfl) ?tar8 (by kernel_rfl) ?tae38 (fun _ _ _ h => h) (Or.inl ⟨by rfl, ?xh8⟩) ?taw8 ?xr8; (case tan8 => rfl); (case tal8 => rfl); (case tar8 => kernel_rfl); (case tae38 => (intros; rfl)); (case taw8 => assumption); (case xh8 => (intro w hSw; (try dsimp only at hSw); go_simp; (try with_reducible rfl))); (try simp only [Act.put, List.setIfInBounds_toArray, List.set_cons_zero, List.set_cons_succ, List.getElem_toArray, List.getElem_cons_zero, List.getElem_cons_succ])
  refine' wpX_phase' (f := 7) (i := 10) (L := (fun b_ c_ => #[true, true, true, true, true, true, true, true, true, true, false, false, false, false, false, b_, c_, false, false, false])) (L' := (fun b_ c_ => #[true, true, true, true, true, true, true, true, true, true, true, false, false, false, false, b_, c_, false, false, false])) (base := wr.heap.size) (G := (fun w' => Below wr.heap.size wr w')) (b := b_) (c := c_) (x := x_) (y := y_) al1 al2 ?an10 ?al10 ?aa10 ?ar10 ?ai10 ?ag10 ?ae110 ?ae210 ?ae310 ?ap110 ?ap210 HSG.out (fun w' o q => q.alloc q.size o) (fun w' q => q.size) ?aw10 (hx_.bl hbp) (hy_.bl hbp) hxy_ ?am10; (case an10 => rfl); (case al10 => rfl); (case aa10 => rfl); (case ar10 => kernel_rfl); (case ai10 => rfl); (case ag10 => rfl); (case ae110 => (intros; rfl)); (case ae210 => (intros; rfl)); (case ae310 => (intros; rfl)); (case ap110 => (intros; rfl)); (case ap210 => (intros; rfl))
  (case aw10 => exact qp)
  clear hx_ hy_ hxy_ x_ y_ b_ c_ hbp
  intro b_ c_ x_ y_ wp2 hG_ hx_ hy_ hxy_ K_ hK_; (try simp only [Act.put, List.setIfInBounds_toArray, List.set_cons_zero, List.set_cons_succ, List.getElem_toArray, List.getElem_cons_zero, List.getElem_cons_succ])
  go_wp2_with fail
  refine (K2.out _ _ _ _ (M1.bl hG_)).mono ?_
  rintro e wz ⟨B1, m1, e1, Y, m, d, rfl, N6, L6, T6, hbp⟩
  go_wp2_with fail
  have qp : Below wr.heap.size wr wz := bstep hG_ hbp
  have hSp := HSG.out _ qp
  refine hK_.out _ _ (Or.inr hSp) ?_
  clear hK_ K_ hG_
  refine' wpX_take' (f := 6) (i := 11) (v := ?xv11) (L := (fun b_ c_ => #[true, true, true, true, true, true, true, true, true, true, true, false, false, false, false, b_, c_, false, false, false])) (L' := (fun b_ c_ => #[true, true, true, true, true, true, true, true, true, true, true, true, false, false, false, b_, c_, false, false, false])) ?tan11 ?tal11 rfl (by kernel_rfl) ?tar11 (by kernel_rfl) ?tae311 (fun _ _ _ h => h) (Or.inl ⟨by rfl, ?xh11⟩) ?taw11 ?xr11; (case tan11 => rfl); (case tal11 => rfl); (case tar11 => kernel_rfl); (case tae311 => (intros; rfl)); (case taw11 => assumption); (case xh11 => (intro w hSw; (try dsimp only at hSw); go_simp; (try with_reducible rfl))); (try simp only [Act.put, List.setIfInBounds_toArray, List.set_cons_zero, List.set_cons_succ, List.getElem_toArray, List.getElem_cons_zero, List.getElem_cons_succ])
  refine' wpX_take' (f := 5) (i := 12) (v := ?xv12) (L := (fun b_ c_ => #[true, true, true, true, true, true, true, true, true, true, true, true, false, false, false, b_, c_, false, false, false])) (L' := (fun b_ c_ => #[true, true, true, true, true, true, true, true, true, true, true, true, true, false, false, b_, c_, false, false, false])) ?tan12 ?tal12 rfl (by kernel_rfl) ?tar12 (by kernel_rfl) ?tae312 (fun _ _ _ h => h) (Or.inl ⟨by rfl, ?xh12⟩) ?taw12 ?xr12; (case tan12 => rfl); (case tal12 => rfl); (case tar12 => kernel_rfl); (case tae312 => (intros; rfl)); (case taw12 => assumption); (case xh12 => (intro w hSw; (try dsimp only at hSw); go_simp; (try with_reducible rfl))); (try simp only [Act.put, List.setIfInBounds_toArray, List.set_cons_zero, List.set_cons_succ, List.getElem_toArray, List.getElem_cons_zero, List.getElem_cons_succ])
  refine' wpX_take' (f := 4) (i := 13) (v := ?xv13) (L := (fun b_ c_ => #[true, true, true, true, true, true, true, true, true, true, true, true, true, false, false, b_, c_, false, false, false])) (L' := (fun b_ c_ => #[true, true, true, true, true, true, true, true, true, true, true, true, true, true, false, b_, c_, false, false, false])) ?tan13 ?tal13 rfl (by kernel_rfl) ?tar13 (by kernel_rfl) ?tae313 (fun _ _ _ h => h) (Or.inl ⟨by rfl, ?xh13⟩) ?taw13 ?xr13; (case tan13 => rfl); (case tal13 => rfl); (case tar13 => kernel_rfl); (case tae313 => (intros; rfl)); (case taw13 => assumption); (case xh13 => (intro w hSw; (try dsimp only at hSw); go_simp; (try with_reducible rfl))); (try simp only [Act.put, List.setIfInBounds_toArray, List.set_cons_zero, List.set_cons_succ, List.getElem_toArray, List.getElem_cons_zero, List.getElem_cons_succ])
  refine' wpX_take' (f := 3) (i := 14) (v := ?xv14) (L := (fun b_ c_ => #[true, true, true, true, true, true, true, true, true, true, true, true, true, true, false, b_, c_, false, false, false])) (L' := (fun b_ c_ => #[true, true, true, true, true, true, true, true, true, true, true, true, true, true, true, b_, c_, false, false, false])) ?tan14 ?tal14 rfl (by kernel_rfl) ?tar14 (by kernel_rfl) ?tae314 (fun _ _ _ h => h) (Or.inl ⟨by rfl, ?xh14⟩) ?taw14 ?xr14; (case tan14 => rfl); (case tal14 => rfl); (case tar14 => kernel_rfl); (case tae314 => (intros; rfl)); (case taw14 => assumption); (case xh14 => (intro w hSw; (try dsimp only at hSw); go_simp; (try with_reducible rfl))); (try simp only [Act.put, List.setIfInBounds_toArray, List.set_cons_zero, List.set_cons_succ, List.getElem_toArray, List.getElem_cons_zero, List.getElem_cons_succ])
  refine' wpX_lay' (f := 3) (L := (fun b_ c_ => #[true, true, true, true, true, true, true, true, true, true, true, true, true, true, true, b_, c_, false, false, false])) (base := wr.heap.size) (G := (fun w' => Below wz.heap.size wz w')) (b := b_) (c := c_) (x := x_) (y := y_) al1 al2 ?anL ?alL ?aaL ?arL ?ae1L ?ae2L ?ap1L ?ap2L (fun w' q => HSG.out w' (bstep qp q)) (fun w' o q => q.alloc q.size o) (fun w' q => Nat.le_trans qp.size q.size) ?awL (hx_.bl hbp) (hy_.bl hbp) hxy_ ?amL; (case anL => rfl); (case alL => rfl); (case aaL => rfl); (case arL => kernel_rfl); (case ae1L => (intros; rfl)); (case ae2L => (intros; rfl)); (case ap1L => (intros; rfl)); (case ap2L => (intros; rfl))
  (case awL => exact Below.refl _ wz)
  clear hx_ hy_ hxy_ x_ y_ b_ c_ hSp
  intro g1 g2 w7 hb7 hg1 G1 hg2 G2 hgg
  have q7 : Below wr.heap.size wr w7 := bstep qp hb7
  clear al1 al2
  (try clear cG1 fG1); have cG1 := G1.cell; have fG1 := G1.frozen
  refine wpAnyX_one (i := 17) (by kernel_rfl) rfl (by rfl) (fun K hK => ?_); (try simp only [List.getElem_toArray, List.getElem_cons_zero, List.getElem_cons_succ])
  go_wp2_with fail
  refine hK.out _ _ (Or.inr (HSG.out _ (below_set (below_set q7 hg1 0 _) hg1 1 _))) (fun hS => ?_)
  clear hK K hS cG1 fG1
  have F0 := G2.far (p := ⟨g1, 0, none⟩) (by simpa using hgg.symm) (.int .i64 now)
  have F1 := F0.far (p := ⟨g1, 1, none⟩) (by simpa using hgg.symm) (.slice B1 m1 e1)
  (try clear cF1 fF1); have cF1 := F1.cell; have fF1 := F1.frozen
  refine wpAnyX_one (i := 18) (by kernel_rfl) rfl (by rfl) (fun K hK => ?_); (try simp only [List.getElem_toArray, List.getElem_cons_zero, List.getElem_cons_succ])
  go_wp2_with fail
  refine hK.out _ _ (Or.inr (HSG.out _ (below_set (below_set (below_set (below_set (below_set (below_set q7 hg1 0 _) hg1 1 _) hg2 0 _) hg2 1 _) hg2 2 _) hg2 3 _))) (fun hS => ?_)
  replace hS := hS.resolve_left (by decide)
  clear hK K cF1 fF1
  refine wpAnyX_pure (i := 19) (v := ?xv19) rfl (by kernel_rfl) (Or.inl ⟨by rfl, ?xh19⟩) (Or.inr (by assumption)) ?xr19; (case xh19 => (intro w; go_simp; (try with_reducible rfl))); (try simp only [Act.put, List.setIfInBounds_toArray, List.set_cons_zero, List.set_cons_succ, List.getElem_toArray, List.getElem_cons_zero, List.getElem_cons_succ])
  clear hS
  refine wpAnyX_done (by kernel_rfl) ?_ _
  clear F0 F1
  obtain ⟨X1, gr1, sz1⟩ := whole_store (Value.int .i64 now) (Value.slice B1 m1 e1) G1
  have Y1 := grown_blk G2 gr1 hgg.symm
  obtain ⟨X2, gr2, sz2⟩ := whole_reply (Value.int .i64 rc) (Value.string rt) (Value.int .i64 rn) (Value.slice Y m d) Y1
  have X1' := grown_blk X1 gr2 hgg
  have q8 := below_grow (below_grow q7 gr1 q7.size hg1) gr2 (by rw [sz1]; exact q7.size) hg2
  have M28 := ((M2.bl q7).grown G1 gr1).grown Y1 gr2
  have L28 := ((L2.below q7).far gr1 ((T2.bl q7).ne G1)).far gr2 ((grown_tp (T2.bl q7) G1 gr1).ne Y1)
  have L68 := ((L6.below hb7).far gr1 ((T6.bl hb7).ne G1)).far gr2 ((grown_tp (T6.bl hb7) G1 gr1).ne Y1)
  have N8 := ((N6.bl hb7).grown G1 gr1).grown Y1 gr2
  have D18 := grown_blk (grown_blk (D1.below' q7) gr1 (by omega)) gr2 (by omega)
  have D28 := grown_blk (grown_blk (D2.below' q7) gr1 (by omega)) gr2 (by omega)
  have R28 := grown_blk (grown_blk (R2.below' q7) gr1 (by omega)) gr2 (by omega)
  obtain ⟨w8, hw8⟩ : ∃ w8, w8 = ((((((w7.setCell ⟨g1, 0, none⟩ (Value.int .i64 now)).setCell ⟨g1, 1, none⟩ (Value.slice B1 m1 e1)).setCell ⟨g2, 0, none⟩ (Value.int .i64 rc)).setCell ⟨g2, 1, none⟩ (Value.string rt)).setCell ⟨g2, 2, none⟩ (Value.int .i64 rn)).setCell ⟨g2, 3, none⟩ (Value.slice Y m d)) := ⟨_, rfl⟩
  rw [← hw8] at q8 X1' X2 N8 M28 L28 L68 D18 D28 R28 ⊢
  clear hw8 gr1 gr2 sz1 sz2 Y1 X1 G1 G2 q7 hb7
  have X1 := X1'
  clear X1'
  clear M1 M2 L2 T2 D1 D2 R2 C1 N6 L6 T6
  replace q : Below w.heap.size w w8 := bstep q0 q8
  clear q8 q0 hv1 hv2 hv3 hq1 HSG
  have hpos' : (0 : Int) < now := hpos
  (try clear cD18 fD18); have cD18 := D18.cell; have fD18 := D18.frozen; (try clear cD28 fD28); have cD28 := D28.cell; have fD28 := D28.frozen; (try clear cR28 fR28); have cR28 := R28.cell; have fR28 := R28.frozen; (try clear cX1 fX1); have cX1 := X1.cell; have fX1 := X1.frozen; (try clear cX2 fX2); have cX2 := X2.cell; have fX2 := X2.frozen
  go_wp2_with fail
  refine (sameReply_eq ⟨rc, rt, rn, rl⟩ ⟨rc, rt, rn, rl⟩ _ _ _ _ _ _ _ L28 L68 rfl).mono ?_
  rintro e w9 ⟨rfl, hb9⟩
  replace D18 := D18.bl hb9; replace D28 := D28.bl hb9; replace X1 := X1.bl hb9; replace M28 := M28.bl hb9; replace N8 := N8.bl hb9
  replace q : Below w.heap.size w w9 := (by repeat (first | (with_reducible exact Below.refl _ _) | (with_reducible assumption) | (with_reducible refine Below.drew ?_) | (with_reducible refine bdrewN ?_ _) | (with_reducible refine balloc ?_ _) | ((with_reducible refine bset ?_ ?_ _); rotate_left; (focus first | exact Nat.le_refl _ | (simp; done) | (simp; omega) | omega)) | (with_reducible refine bstep ?_ (by with_reducible assumption)) | (with_reducible refine Below.trans ?_ (by with_reducible assumption))))
  clear hb9 L28 L68 R28 cR28 fR28 X2 cX2 fX2
  (try clear cD18 fD18); have cD18 := D18.cell; have fD18 := D18.frozen; (try clear cD28 fD28); have cD28 := D28.cell; have fD28 := D28.frozen; (try clear cX1 fX1); have cX1 := X1.cell; have fX1 := X1.frozen
  go_wp2_with fail
  refine (KS.out _ _ _ _ _ _ _ M28 N8).mono ?_
  rintro e w10 ⟨rfl, hb10⟩
  replace D18 := D18.bl hb10
  replace q : Below w.heap.size w w10 := (by repeat (first | (with_reducible exact Below.refl _ _) | (with_reducible assumption) | (with_reducible refine Below.drew ?_) | (with_reducible refine bdrewN ?_ _) | (with_reducible refine balloc ?_ _) | ((with_reducible refine bset ?_ ?_ _); rotate_left; (focus first | exact Nat.le_refl _ | (simp; done) | (simp; omega) | omega)) | (with_reducible refine bstep ?_ (by with_reducible assumption)) | (with_reducible refine Below.trans ?_ (by with_reducible assumption))))
  clear hb10
  (try clear cD18 fD18); have cD18 := D18.cell; have fD18 := D18.frozen
  go_wp2_with fail
  go_ret
  exact ⟨rfl, (by repeat (first | (with_reducible exact Below.refl _ _) | (with_reducible assumption) | (with_reducible refine Below.drew ?_) | (with_reducible refine bdrewN ?_ _) | (with_reducible refine balloc ?_ _) | ((with_reducible refine bset ?_ ?_ _); rotate_left; (focus first | exact Nat.le_refl _ | (simp; done) | (simp; omega) | omega)) | (with_reducible refine bstep ?_ (by with_reducible assumption)) | (with_reducible refine Below.trans ?_ (by with_reducible assumption))))⟩
set_option maxRecDepth 100000 in
theorem timeBack_lifted (os : Os) (started : os.Started) (H : Type) (enc : TypeId × Value → H) :
  ReturnsInHanded {} Try.checked os 16 .any (Rows.timeBackSpec.pre6 enc Try.prog Try.f16 Rows.timeBackRow.domain false) (Rows.timeBackSpec.post enc Try.prog Try.f16 false true false false) := by
  refine returnsInHanded_of_change (C := Try.checked) Try.own started (by kernel_rfl) Try.func16 (ChangeSpec.witness6 (enc := enc) (C := Try.checked) false ⟨#[], #[.slice none 0 0, .agg #[.int .i64 0, .int .i64 0, .int .i64 0, .int .i64 0, .string ByteArray.empty, .int .i64 0], .int .i64 0], []⟩ 8 (by kernel_rfl) (by kernel_rfl) (by kernel_rfl) (by kernel_rfl)) ?_
  intro W base args ds gs before hval0 hW hcnd _
  have hval : ∀ (j : Nat) t v, Try.f16.params[j]? = some t → args[j]? = some v → Value.okWide Try.prog W .any base t v := hval0
  have hW' := hW
  obtain ⟨p, q, hA0, hV, rfl, hfz, hnd⟩ := hW
  have hA : DataW.TrodAll enc Try.prog W 0 (fun _ => true) true Try.f16.params.toList args.toList ds p := hA0
  rw [Try.params16] at hA hval
  obtain ⟨rfl, rfl⟩ := trodVars_none hV
  clear hA0 hval0 hcnd hV hfz hnd
  obtain ⟨v0, v1, v2, d0, d1, d2, p0, p1, p2, rfl, rfl, rfl, h0, h1, h2⟩ := trodAll_three hA
  obtain ⟨A, n, c, l, rfl, hd, hS⟩ := open_steps (hval 0 55 v0 rfl rfl) h0
  obtain ⟨x, rfl, hx⟩ := open_step (hval 1 57 v1 rfl rfl) h1
  obtain ⟨k, rfl, rfl, rfl, w1⟩ := open_int Try.underlying3 (hval 2 3 v2 rfl rfl) h2
  refine (timeBack_walk A n c l x k W hS hd hx (i64_bounds w1)).mono fun e W' ⟨he, hb⟩ => ?_
  subst he
  exact ⟨_, rfl, post_law Try.laidOut hW' rfl (by kernel_rfl) rfl Try.underlying4 (fun _ => rfl) (fun _ => rfl) (fun _ => rfl) hb⟩
theorem timeBack_holds : Rows.TimeBackSaid := OpenClaim.holds_of_wide 16 Try.f16 rfl rfl rfl rfl rfl rfl rfl ⟨rfl, rfl, rfl, rfl, rfl⟩ rfl rfl rfl rfl rfl (by kernel_rfl) Try.func16 (by kernel_rfl)
  (of_decide_eq_true (by kernel_rfl)) (by unfold Func.isWrapper; first | (rw [if_pos (by decide +kernel)]; kernel_rfl) | (rw [if_neg (by decide +kernel)]; exact ⟨rfl, rfl⟩))
  (fun os started H enc _ => timeBack_lifted os started H enc)
#print axioms timeBack_holds
end Go.Proofs.Ytpdadlofgfdlpaa
