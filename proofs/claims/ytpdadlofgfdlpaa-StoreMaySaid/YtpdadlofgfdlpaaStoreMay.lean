/- rostrumkeep.StoreMay returns true for every input; no condition. -/
import Derived.Test.YtpdadlofgfdlpaaStoX
import Derived.Test.YtpdadlofgfdlpaaStoS
namespace Go.Proofs.Ytpdadlofgfdlpaa
set_option linter.all false
open Go.ChangeShapes Go.WideShapes Go.ChangeAt Go.RowKit
theorem Apply_at {now : Int} {l : List En} (hs : StOk now l) (time : Int) (cm : Cmd) (R : (Int × List En) × Re × Int) (hR : applyS now l time cm = R) (t0 : -1 ≤ time) (t1 : time ≤ 2147483648) (A : Option Addr) (n c : Nat) (w : World) (h : St w A n c l) :
    Calls Try.prog 25 #[.agg #[.int .i64 now, .slice A n c], .int .i64 time, .agg #[.int .i64 cm.kind, .string cm.key, .string cm.field, .string cm.text, .int .i64 cm.n]] w (ApplyLeft R w) := by
  subst hR
  refine (Apply_any now A n c l time cm w h.sl (by have := h.sl.len; have := hs.few; omega) (fun x hx => by obtain ⟨a, b, d⟩ := hs.small x hx; exact ⟨by omega, by omega, by omega⟩) (by omega) (by omega)).mono ?_
  rintro e w' ⟨A, n, c, Y, m, d, h1, h2, h3⟩
  exact ⟨A, n, c, Y, m, d, h1, St.of h2, h3⟩
theorem Check_ok {now : Int} {l : List En} (hs : StOk now l) (A : Option Addr) (n c : Nat) (w : World) (h : St w A n c l) :
    Calls Try.prog 26 #[.agg #[.int .i64 now, .slice A n c]] w fun e w' => e = .returned (.int .i64 0) ∧ Below w.heap.size w w' := by
  refine (CheckS_any now A n c l w h.sl (by have := h.sl.len; have := hs.few; omega) (fun x hx => by obtain ⟨a, b, d⟩ := hs.small x hx; exact ⟨by omega, by omega, by omega⟩)).mono ?_
  rintro e w' ⟨rfl, hb⟩
  exact ⟨by rw [ok_store hs], hb⟩
theorem apply_max {now t : Int} {l : List En} {c : Cmd} (hs : StOk now l) (h0 : 0 ≤ t) (h1 : t ≤ 1073741824) (hc : ccOf c = 0) : applyS now l t c = ((max now t, (doS (max now t) (alive (max now t) l) c).1), (doS (max now t) (alive (max now t) l) c).2, 0) := by
  unfold applyS
  rw [if_neg (by rw [ok_store hs]; simp), if_neg (by omega), if_neg (by omega)]
theorem apply_late {now t : Int} {l : List En} {c : Cmd} (hs : StOk now l) (h : t < 0 ∨ 1073741824 < t) : applyS now l t c = ((0, []), ⟨0, emp, 0, []⟩, 2) := by
  unfold applyS
  rw [if_neg (by rw [ok_store hs]; simp), if_pos h]
  rfl
set_option maxRecDepth 100000 in
set_option maxHeartbeats 16000000 in
theorem storeMay_walk (A : Option Addr) (n c : Nat) (l : List StepD) (x : StepD) (time : Int) (w : World) (hS : Sl w 6 A n c (stepRows l)) (hd : ∀ d ∈ l, d.ok) (hx : x.ok) (ht : I64 time) :
    Calls Try.prog 5 #[.slice A n c, .agg #[.int .i64 x.raw.kind, .int .i64 x.raw.key, .int .i64 x.raw.field, .int .i64 x.raw.n, .string x.raw.text, .int .i64 x.wait], .int .i64 time] w fun e w' => e = .returned (.bool true) ∧ Below w.heap.size w w' := by
  have hF := fun w' (hb : Below w.heap.size w w') => Store_any A n c l w' (hS.below hb) hd
  have hmk := fun w => CommandS_any x.raw hx.1 w
  have p0 := picked_lo time 400 (by omega)
  have p1 := picked_hi time 400 (by omega)
  have hp := fun w => picked_any time 400 w ht.1 ht.2 (by omega) (by omega)
  generalize picked time 400 = t at *
  have hok := storeOf_ok l
  generalize storeOf l = s at *
  obtain ⟨now, es⟩ := s
  obtain ⟨ok, hn⟩ := hok
  simp only at ok hn
  have h0 := ok.now0
  have cm0 : ccOf (cmdD x.raw) = 0 := cmd_ok _ _ _ _ _
  obtain ⟨U, es', RE, h1, ok1, hU, hmi⟩ : ∃ U es' RE, applyS now es t (cmdD x.raw) = ((U, es'), RE, 0) ∧ StOk U es' ∧ max now t = U ∧ (if now < t then t else now) = U := by
    refine ⟨_, _, _, apply_max ok p0 (by omega) cm0, doS_ok (alive_ok ok (by omega) (by omega)) cm0, rfl, ?_⟩
    split <;> omega
  have hD1 := Apply_at ok _ _ _ h1 (by omega) (by omega)
  have hD2 := Apply_at ok _ (cmdD x.raw) _ (apply_late ok (.inl (show (-1 : Int) < 0 by omega))) (by omega) (by omega)
  have hD3 := Apply_at ok _ (cmdD x.raw) _ (apply_late ok (.inr (show (1073741824 : Int) < 1073741825 by omega))) (by omega) (by omega)
  have KS := hide (fun A n c w h => Check_ok ok A n c w h)
  have KU := hide (fun A n c w h => Check_ok ok1 A n c w h)
  obtain ⟨⟨rk, ry, rf, rr, rx⟩, rw_⟩ := x
  simp only at hmk hD1 hD2 hD3 ⊢
  generalize hcm : cmdD ⟨rk, ry, rf, rr, rx⟩ = cm at *
  clear hcm h1 cm0
  obtain ⟨ck, cy, cf, ct, cn⟩ := cm
  obtain ⟨rc, rt, rn, rl⟩ := RE
  simp only [cmdV] at hmk hD1 hD2 hD3
  have HF := hide hF; have HMK := hide hmk; have HDO := hide hD1; have HD2 := hide hD2; have HD3 := hide hD3; have HP := hide hp; have HU := hide (And.intro hU hmi)
  clear hF hmk hD1 hD2 hD3 hp hU hmi hS hd hx ht ok ok1
  have X0 := Blk.new w 57 #[.int .i64 rk, .int .i64 ry, .int .i64 rf, .int .i64 rr, .string rx, .int .i64 rw_]
  go_enter Try.func5, Try.ntmps5
  go_wp2_with fail
  refine (HF.out _ (by repeat (first | (with_reducible exact Below.refl _ _) | (with_reducible assumption) | (with_reducible refine Below.drew ?_) | (with_reducible refine bdrewN ?_ _) | (with_reducible refine balloc ?_ _) | ((with_reducible refine bset ?_ ?_ _); rotate_left; (focus first | exact Nat.le_refl _ | (simp; done) | (simp; omega) | omega)) | (with_reducible refine bstep ?_ (by with_reducible assumption)) | (with_reducible refine Below.trans ?_ (by with_reducible assumption))))).mono ?_
  rintro e w1 ⟨A1, n1, c1, rfl, M1, hb1⟩
  have q : Below w.heap.size w w1 := (by repeat (first | (with_reducible exact Below.refl _ _) | (with_reducible assumption) | (with_reducible refine Below.drew ?_) | (with_reducible refine bdrewN ?_ _) | (with_reducible refine balloc ?_ _) | ((with_reducible refine bset ?_ ?_ _); rotate_left; (focus first | exact Nat.le_refl _ | (simp; done) | (simp; omega) | omega)) | (with_reducible refine bstep ?_ (by with_reducible assumption)) | (with_reducible refine Below.trans ?_ (by with_reducible assumption))))
  replace X0 := X0.bl hb1
  have V := Blk.new w1 25 #[.int .i64 (now), .slice A1 n1 c1]
  replace M1 := M1.al (.cells #[.int .i64 (now), .slice A1 n1 c1] 25); replace X0 := X0.al (.cells #[.int .i64 (now), .slice A1 n1 c1] 25)
  have q0 : Below w.heap.size w (w1.alloc (.cells #[.int .i64 (now), .slice A1 n1 c1] 25)) := (by repeat (first | (with_reducible exact Below.refl _ _) | (with_reducible assumption) | (with_reducible refine Below.drew ?_) | (with_reducible refine bdrewN ?_ _) | (with_reducible refine balloc ?_ _) | ((with_reducible refine bset ?_ ?_ _); rotate_left; (focus first | exact Nat.le_refl _ | (simp; done) | (simp; omega) | omega)) | (with_reducible refine bstep ?_ (by with_reducible assumption)) | (with_reducible refine Below.trans ?_ (by with_reducible assumption))))
  clear hb1 HF
  go_wp2_with fail
  refine (HP.out _).mono ?_
  rintro e w' ⟨rfl, rfl⟩
  go_wp2_with fail
  obtain ⟨wr, hwr⟩ : ∃ wr, wr = w1.alloc (.cells #[.int .i64 (now), .slice A1 n1 c1] 25) := ⟨_, rfl⟩
  rw [← hwr] at M1 X0 V q0 ⊢
  have hq1 := q.size
  clear hwr q
  have hv1 := V.lt
  have hx1 := X0.lt
  have hsG : ∀ w', Below wr.heap.size wr w' → (w'.cell? ⟨w1.heap.size, 0, none⟩ = some (.int .i64 now) ∧ w'.cell? ⟨w1.heap.size, 1, none⟩ = some (.slice A1 n1 c1) ∧ w'.cell? ⟨w.heap.size, 0, none⟩ = some (.int .i64 rk) ∧ w'.cell? ⟨w.heap.size, 1, none⟩ = some (.int .i64 ry) ∧ w'.cell? ⟨w.heap.size, 2, none⟩ = some (.int .i64 rf) ∧ w'.cell? ⟨w.heap.size, 3, none⟩ = some (.int .i64 rr) ∧ w'.cell? ⟨w.heap.size, 4, none⟩ = some (.string rx)) := fun w' q => by
    have V' := V.below' q
    have X' := X0.below' q
    exact ⟨V'.cell 0, V'.cell 1, X'.cell 0, X'.cell 1, X'.cell 2, X'.cell 3, X'.cell 4⟩
  refine wp_region_x (l := []) (S := fun w' => w'.cell? ⟨w1.heap.size, 0, none⟩ = some (.int .i64 now) ∧ w'.cell? ⟨w1.heap.size, 1, none⟩ = some (.slice A1 n1 c1) ∧ w'.cell? ⟨w.heap.size, 0, none⟩ = some (.int .i64 rk) ∧ w'.cell? ⟨w.heap.size, 1, none⟩ = some (.int .i64 ry) ∧ w'.cell? ⟨w.heap.size, 2, none⟩ = some (.int .i64 rf) ∧ w'.cell? ⟨w.heap.size, 3, none⟩ = some (.int .i64 rr) ∧ w'.cell? ⟨w.heap.size, 4, none⟩ = some (.string rx)) (by kernel_rfl) (hsG _ (Below.refl _ wr).drew) (fun hS => ?_)
  refine wpAnyX_take (i := 0) (v := ?xv0) rfl (by kernel_rfl) (by kernel_rfl) (by kernel_rfl) (by kernel_rfl) (fun _ _ _ h => h) (Or.inl ⟨by rfl, ?xh0⟩) (by assumption) ?xr0; (case xh0 => (intro w hSw; (try dsimp only at hSw); go_simp; (try with_reducible rfl))); (try simp only [Act.put, List.setIfInBounds_toArray, List.set_cons_zero, List.set_cons_succ, List.getElem_toArray, List.getElem_cons_zero, List.getElem_cons_succ])
  refine wpAnyX_take (i := 1) (v := ?xv1) rfl (by kernel_rfl) (by kernel_rfl) (by kernel_rfl) (by kernel_rfl) (fun _ _ _ h => h) (Or.inl ⟨by rfl, ?xh1⟩) (by assumption) ?xr1; (case xh1 => (intro w hSw; (try dsimp only at hSw); go_simp; (try with_reducible rfl))); (try simp only [Act.put, List.setIfInBounds_toArray, List.set_cons_zero, List.set_cons_succ, List.getElem_toArray, List.getElem_cons_zero, List.getElem_cons_succ])
  refine wpAnyX_take (i := 2) (v := ?xv2) rfl (by kernel_rfl) (by kernel_rfl) (by kernel_rfl) (by kernel_rfl) (fun _ _ _ h => h) (Or.inl ⟨by rfl, ?xh2⟩) (by assumption) ?xr2; (case xh2 => (intro w hSw; (try dsimp only at hSw); go_simp; (try with_reducible rfl))); (try simp only [Act.put, List.setIfInBounds_toArray, List.set_cons_zero, List.set_cons_succ, List.getElem_toArray, List.getElem_cons_zero, List.getElem_cons_succ])
  refine wpAnyX_take (i := 3) (v := ?xv3) rfl (by kernel_rfl) (by kernel_rfl) (by kernel_rfl) (by kernel_rfl) (fun _ _ _ h => h) (Or.inl ⟨by rfl, ?xh3⟩) (by assumption) ?xr3; (case xh3 => (intro w hSw; (try dsimp only at hSw); go_simp; (try with_reducible rfl))); (try simp only [Act.put, List.setIfInBounds_toArray, List.set_cons_zero, List.set_cons_succ, List.getElem_toArray, List.getElem_cons_zero, List.getElem_cons_succ])
  have HSG := hide hsG
  clear hsG hS 
  refine wpX_start (n := 9 + left2 false false) (listed := (fun b_ c_ => #[true, true, true, true, false, false, false, false, false, false, b_, c_, false, false, false]) false false) (j1 := 10) (d1 := 9) (t1 := 25) (z1 := #[.int .i64 0, .slice none 0 0]) (j2 := 11) (d2 := 10) (t2 := 49) (z2 := #[.int .i64 0, .string { data := #[] }, .int .i64 0, .slice none 0 0]) ?al1 ?al2 ?aln ?all (fun al1 al2 => ?alr); (case al1 => exact ⟨⟨_, rfl, rfl, rfl, fun a w => by simp [go_sem, execOp]⟩⟩); (case al2 => exact ⟨⟨_, rfl, rfl, rfl, fun a w => by simp [go_sem, execOp]⟩⟩); (case aln => kernel_rfl); (case all => kernel_rfl)
  refine' wpX_phase0 (f := 8) (i := 4) (L := (fun b_ c_ => #[true, true, true, true, false, false, false, false, false, false, b_, c_, false, false, false])) (L' := (fun b_ c_ => #[true, true, true, true, true, false, false, false, false, false, b_, c_, false, false, false])) (base := wr.heap.size) (G := (fun w' => Below wr.heap.size wr w')) (x := undef) (y := undef) al1 al2 ?an4 ?al4 ?aa4 ?ar4 ?ai4 ?ag4 ?ae14 ?ae24 ?ae34 ?ap14 ?ap24 HSG.out (fun w' o q => q.alloc q.size o) (fun w' q => q.size) ?aw4 ?am4; (case an4 => rfl); (case al4 => rfl); (case aa4 => rfl); (case ar4 => kernel_rfl); (case ai4 => rfl); (case ag4 => rfl); (case ae14 => (intros; rfl)); (case ae24 => (intros; rfl)); (case ae34 => (intros; rfl)); (case ap14 => (intros; rfl)); (case ap24 => (intros; rfl))
  (case aw4 => exact (Below.refl _ wr).drew)
  intro b_ c_ x_ y_ wp1 hG_ hx_ hy_ hxy_ K_ hK_; (try simp only [Act.put, List.setIfInBounds_toArray, List.set_cons_zero, List.set_cons_succ, List.getElem_toArray, List.getElem_cons_zero, List.getElem_cons_succ])
  go_wp2_with fail
  refine (HMK.out _).mono ?_
  rintro e w4 ⟨rfl, hbp⟩
  go_wp2_with fail
  have qp : Below wr.heap.size wr w4 := bstep hG_ hbp
  have hSp := HSG.out _ qp
  refine hK_.out _ _ (Or.inr hSp) ?_
  clear hK_ K_ hG_
  refine' wpX_phase' (f := 7) (i := 5) (L := (fun b_ c_ => #[true, true, true, true, true, false, false, false, false, false, b_, c_, false, false, false])) (L' := (fun b_ c_ => #[true, true, true, true, true, true, false, false, false, false, b_, c_, false, false, false])) (base := wr.heap.size) (G := (fun w' => Below wr.heap.size wr w')) (b := b_) (c := c_) (x := x_) (y := y_) al1 al2 ?an5 ?al5 ?aa5 ?ar5 ?ai5 ?ag5 ?ae15 ?ae25 ?ae35 ?ap15 ?ap25 HSG.out (fun w' o q => q.alloc q.size o) (fun w' q => q.size) ?aw5 (hx_.bl hbp) (hy_.bl hbp) hxy_ ?am5; (case an5 => rfl); (case al5 => rfl); (case aa5 => rfl); (case ar5 => kernel_rfl); (case ai5 => rfl); (case ag5 => rfl); (case ae15 => (intros; rfl)); (case ae25 => (intros; rfl)); (case ae35 => (intros; rfl)); (case ap15 => (intros; rfl)); (case ap25 => (intros; rfl))
  (case aw5 => exact qp)
  clear hx_ hy_ hxy_ x_ y_ b_ c_ hbp
  intro b_ c_ x_ y_ wp2 hG_ hx_ hy_ hxy_ K_ hK_; (try simp only [Act.put, List.setIfInBounds_toArray, List.set_cons_zero, List.set_cons_succ, List.getElem_toArray, List.getElem_cons_zero, List.getElem_cons_succ])
  go_wp2_with fail
  refine (HDO.out _ _ _ _ (M1.bl hG_)).mono ?_
  rintro e w6 ⟨B1, m1, e1, Y, m, d, rfl, N6, L6, T6, hbp⟩
  go_wp2_with fail
  have qp : Below wr.heap.size wr w6 := bstep hG_ hbp
  have hSp := HSG.out _ qp
  refine hK_.out _ _ (Or.inr hSp) ?_
  clear hK_ K_ hG_
  refine' wpX_take' (f := 6) (i := 6) (v := ?xv6) (L := (fun b_ c_ => #[true, true, true, true, true, true, false, false, false, false, b_, c_, false, false, false])) (L' := (fun b_ c_ => #[true, true, true, true, true, true, true, false, false, false, b_, c_, false, false, false])) ?tan6 ?tal6 rfl (by kernel_rfl) ?tar6 (by kernel_rfl) ?tae36 (fun _ _ _ h => h) (Or.inl ⟨by rfl, ?xh6⟩) ?taw6 ?xr6; (case tan6 => rfl); (case tal6 => rfl); (case tar6 => kernel_rfl); (case tae36 => (intros; rfl)); (case taw6 => assumption); (case xh6 => (intro w hSw; (try dsimp only at hSw); go_simp; (try with_reducible rfl))); (try simp only [Act.put, List.setIfInBounds_toArray, List.set_cons_zero, List.set_cons_succ, List.getElem_toArray, List.getElem_cons_zero, List.getElem_cons_succ])
  refine' wpX_take' (f := 5) (i := 7) (v := ?xv7) (L := (fun b_ c_ => #[true, true, true, true, true, true, true, false, false, false, b_, c_, false, false, false])) (L' := (fun b_ c_ => #[true, true, true, true, true, true, true, true, false, false, b_, c_, false, false, false])) ?tan7 ?tal7 rfl (by kernel_rfl) ?tar7 (by kernel_rfl) ?tae37 (fun _ _ _ h => h) (Or.inl ⟨by rfl, ?xh7⟩) ?taw7 ?xr7; (case tan7 => rfl); (case tal7 => rfl); (case tar7 => kernel_rfl); (case tae37 => (intros; rfl)); (case taw7 => assumption); (case xh7 => (intro w hSw; (try dsimp only at hSw); go_simp; (try with_reducible rfl))); (try simp only [Act.put, List.setIfInBounds_toArray, List.set_cons_zero, List.set_cons_succ, List.getElem_toArray, List.getElem_cons_zero, List.getElem_cons_succ])
  refine' wpX_take' (f := 4) (i := 8) (v := ?xv8) (L := (fun b_ c_ => #[true, true, true, true, true, true, true, true, false, false, b_, c_, false, false, false])) (L' := (fun b_ c_ => #[true, true, true, true, true, true, true, true, true, false, b_, c_, false, false, false])) ?tan8 ?tal8 rfl (by kernel_rfl) ?tar8 (by kernel_rfl) ?tae38 (fun _ _ _ h => h) (Or.inl ⟨by rfl, ?xh8⟩) ?taw8 ?xr8; (case tan8 => rfl); (case tal8 => rfl); (case tar8 => kernel_rfl); (case tae38 => (intros; rfl)); (case taw8 => assumption); (case xh8 => (intro w hSw; (try dsimp only at hSw); go_simp; (try with_reducible rfl))); (try simp only [Act.put, List.setIfInBounds_toArray, List.set_cons_zero, List.set_cons_succ, List.getElem_toArray, List.getElem_cons_zero, List.getElem_cons_succ])
  refine' wpX_take' (f := 3) (i := 9) (v := ?xv9) (L := (fun b_ c_ => #[true, true, true, true, true, true, true, true, true, false, b_, c_, false, false, false])) (L' := (fun b_ c_ => #[true, true, true, true, true, true, true, true, true, true, b_, c_, false, false, false])) ?tan9 ?tal9 rfl (by kernel_rfl) ?tar9 (by kernel_rfl) ?tae39 (fun _ _ _ h => h) (Or.inl ⟨by rfl, ?xh9⟩) ?taw9 ?xr9; (case tan9 => rfl); (case tal9 => rfl); (case tar9 => kernel_rfl); (case tae39 => (intros; rfl)); (case taw9 => assumption); (case xh9 => (intro w hSw; (try dsimp only at hSw); go_simp; (try with_reducible rfl))); (try simp only [Act.put, List.setIfInBounds_toArray, List.set_cons_zero, List.set_cons_succ, List.getElem_toArray, List.getElem_cons_zero, List.getElem_cons_succ])
  refine' wpX_lay' (f := 3) (L := (fun b_ c_ => #[true, true, true, true, true, true, true, true, true, true, b_, c_, false, false, false])) (base := wr.heap.size) (G := (fun w' => Below w6.heap.size w6 w')) (b := b_) (c := c_) (x := x_) (y := y_) al1 al2 ?anL ?alL ?aaL ?arL ?ae1L ?ae2L ?ap1L ?ap2L (fun w' q => HSG.out w' (bstep qp q)) (fun w' o q => q.alloc q.size o) (fun w' q => Nat.le_trans qp.size q.size) ?awL (hx_.bl hbp) (hy_.bl hbp) hxy_ ?amL; (case anL => rfl); (case alL => rfl); (case aaL => rfl); (case arL => kernel_rfl); (case ae1L => (intros; rfl)); (case ae2L => (intros; rfl)); (case ap1L => (intros; rfl)); (case ap2L => (intros; rfl))
  (case awL => exact Below.refl _ w6)
  clear hx_ hy_ hxy_ x_ y_ b_ c_ hSp
  intro g1 g2 w7 hb7 hg1 G1 hg2 G2 hgg
  have q7 : Below wr.heap.size wr w7 := bstep qp hb7
  clear al1 al2
  (try clear cG1 fG1); have cG1 := G1.cell; have fG1 := G1.frozen
  refine wpAnyX_one (i := 12) (by kernel_rfl) rfl (by rfl) (fun K hK => ?_); (try simp only [List.getElem_toArray, List.getElem_cons_zero, List.getElem_cons_succ])
  go_wp2_with fail
  refine hK.out _ _ (Or.inr (HSG.out _ (below_set (below_set q7 hg1 0 _) hg1 1 _))) (fun hS => ?_)
  clear hK K hS cG1 fG1
  have F0 := G2.far (p := ⟨g1, 0, none⟩) (by simpa using hgg.symm) (.int .i64 U)
  have F1 := F0.far (p := ⟨g1, 1, none⟩) (by simpa using hgg.symm) (.slice B1 m1 e1)
  (try clear cF1 fF1); have cF1 := F1.cell; have fF1 := F1.frozen
  refine wpAnyX_one (i := 13) (by kernel_rfl) rfl (by rfl) (fun K hK => ?_); (try simp only [List.getElem_toArray, List.getElem_cons_zero, List.getElem_cons_succ])
  go_wp2_with fail
  refine hK.out _ _ (Or.inr (HSG.out _ (below_set (below_set (below_set (below_set (below_set (below_set q7 hg1 0 _) hg1 1 _) hg2 0 _) hg2 1 _) hg2 2 _) hg2 3 _))) (fun hS => ?_)
  replace hS := hS.resolve_left (by decide)
  clear hK K cF1 fF1
  refine wpAnyX_pure (i := 14) (v := ?xv14) rfl (by kernel_rfl) (Or.inl ⟨by rfl, ?xh14⟩) (Or.inr (by assumption)) ?xr14; (case xh14 => (intro w; go_simp; (try with_reducible rfl))); (try simp only [Act.put, List.setIfInBounds_toArray, List.set_cons_zero, List.set_cons_succ, List.getElem_toArray, List.getElem_cons_zero, List.getElem_cons_succ])
  clear hS
  refine wpAnyX_done (by kernel_rfl) ?_ _
  clear F0 F1
  obtain ⟨X1, gr1, sz1⟩ := whole_store (Value.int .i64 U) (Value.slice B1 m1 e1) G1
  have Y1 := grown_blk G2 gr1 hgg.symm
  obtain ⟨X2, gr2, sz2⟩ := whole_reply (Value.int .i64 rc) (Value.string rt) (Value.int .i64 rn) (Value.slice Y m d) Y1
  have X1' := grown_blk X1 gr2 hgg
  have q8 := below_grow (below_grow q7 gr1 q7.size hg1) gr2 (by rw [sz1]; exact q7.size) hg2
  have M8 := ((M1.bl q7).grown G1 gr1).grown Y1 gr2
  have N8 := ((N6.bl hb7).grown G1 gr1).grown Y1 gr2
  have V8 := grown_blk (grown_blk (V.below' q7) gr1 (by omega)) gr2 (by omega)
  have X08 := grown_blk (grown_blk (X0.below' q7) gr1 (by omega)) gr2 (by omega)
  obtain ⟨wa, hw8⟩ : ∃ wa, wa = ((((((w7.setCell ⟨g1, 0, none⟩ (Value.int .i64 U)).setCell ⟨g1, 1, none⟩ (Value.slice B1 m1 e1)).setCell ⟨g2, 0, none⟩ (Value.int .i64 rc)).setCell ⟨g2, 1, none⟩ (Value.string rt)).setCell ⟨g2, 2, none⟩ (Value.int .i64 rn)).setCell ⟨g2, 3, none⟩ (Value.slice Y m d)) := ⟨_, rfl⟩
  rw [← hw8] at q8 X1' X2 N8 M8 V8 X08 ⊢
  clear hw8 gr1 gr2 sz1 sz2 Y1 X1 G1 G2 q7 hb7
  have X1 := X1'
  clear X1'
  replace q0 : Below w.heap.size w wa := bstep q0 q8
  clear q8 hv1 hx1 HSG L6 T6 N6 V X0 M1
  have V := V8
  have X0 := X08
  have M1 := M8
  clear M8 V8 X08
  have U1 := X1
  have NU := N8
  clear X1 X2 N8 HDO
  go_wp2_with fail
  have hv1 := V.lt
  have hx1 := X0.lt
  have hu1 := U1.lt
  have hsG : ∀ w', Below wa.heap.size wa w' → (w'.cell? ⟨w1.heap.size, 0, none⟩ = some (.int .i64 now) ∧ w'.cell? ⟨w1.heap.size, 1, none⟩ = some (.slice A1 n1 c1) ∧ w'.cell? ⟨w.heap.size, 0, none⟩ = some (.int .i64 rk) ∧ w'.cell? ⟨w.heap.size, 1, none⟩ = some (.int .i64 ry) ∧ w'.cell? ⟨w.heap.size, 2, none⟩ = some (.int .i64 rf) ∧ w'.cell? ⟨w.heap.size, 3, none⟩ = some (.int .i64 rr) ∧ w'.cell? ⟨w.heap.size, 4, none⟩ = some (.string rx)) := fun w' q => by
    have V' := V.below' q
    have X' := X0.below' q
    exact ⟨V'.cell 0, V'.cell 1, X'.cell 0, X'.cell 1, X'.cell 2, X'.cell 3, X'.cell 4⟩
  refine wp_region_x (l := []) (S := fun w' => w'.cell? ⟨w1.heap.size, 0, none⟩ = some (.int .i64 now) ∧ w'.cell? ⟨w1.heap.size, 1, none⟩ = some (.slice A1 n1 c1) ∧ w'.cell? ⟨w.heap.size, 0, none⟩ = some (.int .i64 rk) ∧ w'.cell? ⟨w.heap.size, 1, none⟩ = some (.int .i64 ry) ∧ w'.cell? ⟨w.heap.size, 2, none⟩ = some (.int .i64 rf) ∧ w'.cell? ⟨w.heap.size, 3, none⟩ = some (.int .i64 rr) ∧ w'.cell? ⟨w.heap.size, 4, none⟩ = some (.string rx)) (by kernel_rfl) (hsG _ (Below.refl _ wa).drew) (fun hS => ?_)
  refine wpAnyX_take (i := 0) (v := ?xv0b) rfl (by kernel_rfl) (by kernel_rfl) (by kernel_rfl) (by kernel_rfl) (fun _ _ _ h => h) (Or.inl ⟨by rfl, ?xh0b⟩) (by assumption) ?xr0b; (case xh0b => (intro w hSw; (try dsimp only at hSw); go_simp; (try with_reducible rfl))); (try simp only [Act.put, List.setIfInBounds_toArray, List.set_cons_zero, List.set_cons_succ, List.getElem_toArray, List.getElem_cons_zero, List.getElem_cons_succ])
  refine wpAnyX_take (i := 1) (v := ?xv1b) rfl (by kernel_rfl) (by kernel_rfl) (by kernel_rfl) (by kernel_rfl) (fun _ _ _ h => h) (Or.inl ⟨by rfl, ?xh1b⟩) (by assumption) ?xr1b; (case xh1b => (intro w hSw; (try dsimp only at hSw); go_simp; (try with_reducible rfl))); (try simp only [Act.put, List.setIfInBounds_toArray, List.set_cons_zero, List.set_cons_succ, List.getElem_toArray, List.getElem_cons_zero, List.getElem_cons_succ])
  refine wpAnyX_take (i := 2) (v := ?xv2b) rfl (by kernel_rfl) (by kernel_rfl) (by kernel_rfl) (by kernel_rfl) (fun _ _ _ h => h) (Or.inl ⟨by rfl, ?xh2b⟩) (by assumption) ?xr2b; (case xh2b => (intro w hSw; (try dsimp only at hSw); go_simp; (try with_reducible rfl))); (try simp only [Act.put, List.setIfInBounds_toArray, List.set_cons_zero, List.set_cons_succ, List.getElem_toArray, List.getElem_cons_zero, List.getElem_cons_succ])
  have HSG := hide hsG
  clear hsG hS 
  refine wpX_start (n := 9 + left2 false false) (listed := (fun b_ c_ => #[true, true, true, false, false, false, false, false, false, b_, c_, false, false, false]) false false) (j1 := 9) (d1 := 12) (t1 := 25) (z1 := #[.int .i64 0, .slice none 0 0]) (j2 := 10) (d2 := 13) (t2 := 49) (z2 := #[.int .i64 0, .string { data := #[] }, .int .i64 0, .slice none 0 0]) ?al1b ?al2b ?alnb ?allb (fun al1 al2 => ?alrb); (case al1b => exact ⟨⟨_, rfl, rfl, rfl, fun a w => by simp [go_sem, execOp]⟩⟩); (case al2b => exact ⟨⟨_, rfl, rfl, rfl, fun a w => by simp [go_sem, execOp]⟩⟩); (case alnb => kernel_rfl); (case allb => kernel_rfl)
  refine' wpX_phase0 (f := 8) (i := 3) (L := (fun b_ c_ => #[true, true, true, false, false, false, false, false, false, b_, c_, false, false, false])) (L' := (fun b_ c_ => #[true, true, true, true, false, false, false, false, false, b_, c_, false, false, false])) (base := wa.heap.size) (G := (fun w' => Below wa.heap.size wa w')) (x := undef) (y := undef) al1 al2 ?an3b ?al3b ?aa3b ?ar3b ?ai3b ?ag3b ?ae13b ?ae23b ?ae33b ?ap13b ?ap23b HSG.out (fun w' o q => q.alloc q.size o) (fun w' q => q.size) ?aw3b ?am3b; (case an3b => rfl); (case al3b => rfl); (case aa3b => rfl); (case ar3b => kernel_rfl); (case ai3b => rfl); (case ag3b => rfl); (case ae13b => (intros; rfl)); (case ae23b => (intros; rfl)); (case ae33b => (intros; rfl)); (case ap13b => (intros; rfl)); (case ap23b => (intros; rfl))
  (case aw3b => exact (Below.refl _ wa).drew)
  intro b_ c_ x_ y_ wp1 hG_ hx_ hy_ hxy_ K_ hK_; (try simp only [Act.put, List.setIfInBounds_toArray, List.set_cons_zero, List.set_cons_succ, List.getElem_toArray, List.getElem_cons_zero, List.getElem_cons_succ])
  go_wp2_with fail
  refine (HMK.out _).mono ?_
  rintro e w4 ⟨rfl, hbp⟩
  go_wp2_with fail
  have qp : Below wa.heap.size wa w4 := bstep hG_ hbp
  have hSp := HSG.out _ qp
  refine hK_.out _ _ (Or.inr hSp) ?_
  clear hK_ K_ hG_
  refine' wpX_phase' (f := 7) (i := 4) (L := (fun b_ c_ => #[true, true, true, true, false, false, false, false, false, b_, c_, false, false, false])) (L' := (fun b_ c_ => #[true, true, true, true, true, false, false, false, false, b_, c_, false, false, false])) (base := wa.heap.size) (G := (fun w' => Below wa.heap.size wa w')) (b := b_) (c := c_) (x := x_) (y := y_) al1 al2 ?an4b ?al4b ?aa4b ?ar4b ?ai4b ?ag4b ?ae14b ?ae24b ?ae34b ?ap14b ?ap24b HSG.out (fun w' o q => q.alloc q.size o) (fun w' q => q.size) ?aw4b (hx_.bl hbp) (hy_.bl hbp) hxy_ ?am4b; (case an4b => rfl); (case al4b => rfl); (case aa4b => rfl); (case ar4b => kernel_rfl); (case ai4b => rfl); (case ag4b => rfl); (case ae14b => (intros; rfl)); (case ae24b => (intros; rfl)); (case ae34b => (intros; rfl)); (case ap14b => (intros; rfl)); (case ap24b => (intros; rfl))
  (case aw4b => exact qp)
  clear hx_ hy_ hxy_ x_ y_ b_ c_ hbp
  intro b_ c_ x_ y_ wp2 hG_ hx_ hy_ hxy_ K_ hK_; (try simp only [Act.put, List.setIfInBounds_toArray, List.set_cons_zero, List.set_cons_succ, List.getElem_toArray, List.getElem_cons_zero, List.getElem_cons_succ])
  go_wp2_with fail
  refine (HD2.out _ _ _ _ (M1.bl hG_)).mono ?_
  rintro e w6 ⟨B1, m1, e1, Y, m, d, rfl, N6, L6, T6, hbp⟩
  go_wp2_with fail
  have qp : Below wa.heap.size wa w6 := bstep hG_ hbp
  have hSp := HSG.out _ qp
  refine hK_.out _ _ (Or.inr hSp) ?_
  clear hK_ K_ hG_
  refine' wpX_take' (f := 6) (i := 5) (v := ?xv5b) (L := (fun b_ c_ => #[true, true, true, true, true, false, false, false, false, b_, c_, false, false, false])) (L' := (fun b_ c_ => #[true, true, true, true, true, true, false, false, false, b_, c_, false, false, false])) ?tan5b ?tal5b rfl (by kernel_rfl) ?tar5b (by kernel_rfl) ?tae35b (fun _ _ _ h => h) (Or.inl ⟨by rfl, ?xh5b⟩) ?taw5b ?xr5b; (case tan5b => rfl); (case tal5b => rfl); (case tar5b => kernel_rfl); (case tae35b => (intros; rfl)); (case taw5b => assumption); (case xh5b => (intro w hSw; (try dsimp only at hSw); go_simp; (try with_reducible rfl))); (try simp only [Act.put, List.setIfInBounds_toArray, List.set_cons_zero, List.set_cons_succ, List.getElem_toArray, List.getElem_cons_zero, List.getElem_cons_succ])
  refine' wpX_take' (f := 5) (i := 6) (v := ?xv6b) (L := (fun b_ c_ => #[true, true, true, true, true, true, false, false, false, b_, c_, false, false, false])) (L' := (fun b_ c_ => #[true, true, true, true, true, true, true, false, false, b_, c_, false, false, false])) ?tan6b ?tal6b rfl (by kernel_rfl) ?tar6b (by kernel_rfl) ?tae36b (fun _ _ _ h => h) (Or.inl ⟨by rfl, ?xh6b⟩) ?taw6b ?xr6b; (case tan6b => rfl); (case tal6b => rfl); (case tar6b => kernel_rfl); (case tae36b => (intros; rfl)); (case taw6b => assumption); (case xh6b => (intro w hSw; (try dsimp only at hSw); go_simp; (try with_reducible rfl))); (try simp only [Act.put, List.setIfInBounds_toArray, List.set_cons_zero, List.set_cons_succ, List.getElem_toArray, List.getElem_cons_zero, List.getElem_cons_succ])
  refine' wpX_take' (f := 4) (i := 7) (v := ?xv7b) (L := (fun b_ c_ => #[true, true, true, true, true, true, true, false, false, b_, c_, false, false, false])) (L' := (fun b_ c_ => #[true, true, true, true, true, true, true, true, false, b_, c_, false, false, false])) ?tan7b ?tal7b rfl (by kernel_rfl) ?tar7b (by kernel_rfl) ?tae37b (fun _ _ _ h => h) (Or.inl ⟨by rfl, ?xh7b⟩) ?taw7b ?xr7b; (case tan7b => rfl); (case tal7b => rfl); (case tar7b => kernel_rfl); (case tae37b => (intros; rfl)); (case taw7b => assumption); (case xh7b => (intro w hSw; (try dsimp only at hSw); go_simp; (try with_reducible rfl))); (try simp only [Act.put, List.setIfInBounds_toArray, List.set_cons_zero, List.set_cons_succ, List.getElem_toArray, List.getElem_cons_zero, List.getElem_cons_succ])
  refine' wpX_take' (f := 3) (i := 8) (v := ?xv8b) (L := (fun b_ c_ => #[true, true, true, true, true, true, true, true, false, b_, c_, false, false, false])) (L' := (fun b_ c_ => #[true, true, true, true, true, true, true, true, true, b_, c_, false, false, false])) ?tan8b ?tal8b rfl (by kernel_rfl) ?tar8b (by kernel_rfl) ?tae38b (fun _ _ _ h => h) (Or.inl ⟨by rfl, ?xh8b⟩) ?taw8b ?xr8b; (case tan8b => rfl); (case tal8b => rfl); (case tar8b => kernel_rfl); (case tae38b => (intros; rfl)); (case taw8b => assumption); (case xh8b => (intro w hSw; (try dsimp only at hSw); go_simp; (try with_reducible rfl))); (try simp only [Act.put, List.setIfInBounds_toArray, List.set_cons_zero, List.set_cons_succ, List.getElem_toArray, List.getElem_cons_zero, List.getElem_cons_succ])
  refine' wpX_lay' (f := 3) (L := (fun b_ c_ => #[true, true, true, true, true, true, true, true, true, b_, c_, false, false, false])) (base := wa.heap.size) (G := (fun w' => Below w6.heap.size w6 w')) (b := b_) (c := c_) (x := x_) (y := y_) al1 al2 ?anLb ?alLb ?aaLb ?arLb ?ae1Lb ?ae2Lb ?ap1Lb ?ap2Lb (fun w' q => HSG.out w' (bstep qp q)) (fun w' o q => q.alloc q.size o) (fun w' q => Nat.le_trans qp.size q.size) ?awLb (hx_.bl hbp) (hy_.bl hbp) hxy_ ?amLb; (case anLb => rfl); (case alLb => rfl); (case aaLb => rfl); (case arLb => kernel_rfl); (case ae1Lb => (intros; rfl)); (case ae2Lb => (intros; rfl)); (case ap1Lb => (intros; rfl)); (case ap2Lb => (intros; rfl))
  (case awLb => exact Below.refl _ w6)
  clear hx_ hy_ hxy_ x_ y_ b_ c_ hSp
  intro g1 g2 w7 hb7 hg1 G1 hg2 G2 hgg
  have q7 : Below wa.heap.size wa w7 := bstep qp hb7
  clear al1 al2
  (try clear cG1 fG1); have cG1 := G1.cell; have fG1 := G1.frozen
  refine wpAnyX_one (i := 11) (by kernel_rfl) rfl (by rfl) (fun K hK => ?_); (try simp only [List.getElem_toArray, List.getElem_cons_zero, List.getElem_cons_succ])
  go_wp2_with fail
  refine hK.out _ _ (Or.inr (HSG.out _ (below_set (below_set q7 hg1 0 _) hg1 1 _))) (fun hS => ?_)
  clear hK K hS cG1 fG1
  have F0 := G2.far (p := ⟨g1, 0, none⟩) (by simpa using hgg.symm) (.int .i64 0)
  have F1 := F0.far (p := ⟨g1, 1, none⟩) (by simpa using hgg.symm) (.slice B1 m1 e1)
  (try clear cF1 fF1); have cF1 := F1.cell; have fF1 := F1.frozen
  refine wpAnyX_one (i := 12) (by kernel_rfl) rfl (by rfl) (fun K hK => ?_); (try simp only [List.getElem_toArray, List.getElem_cons_zero, List.getElem_cons_succ])
  go_wp2_with fail
  refine hK.out _ _ (Or.inr (HSG.out _ (below_set (below_set (below_set (below_set (below_set (below_set q7 hg1 0 _) hg1 1 _) hg2 0 _) hg2 1 _) hg2 2 _) hg2 3 _))) (fun hS => ?_)
  replace hS := hS.resolve_left (by decide)
  clear hK K cF1 fF1
  refine wpAnyX_pure (i := 13) (v := ?xv13b) rfl (by kernel_rfl) (Or.inl ⟨by rfl, ?xh13b⟩) (Or.inr (by assumption)) ?xr13b; (case xh13b => (intro w; go_simp; (try with_reducible rfl))); (try simp only [Act.put, List.setIfInBounds_toArray, List.set_cons_zero, List.set_cons_succ, List.getElem_toArray, List.getElem_cons_zero, List.getElem_cons_succ])
  clear hS
  refine wpAnyX_done (by kernel_rfl) ?_ _
  clear F0 F1
  obtain ⟨X1, gr1, sz1⟩ := whole_store (Value.int .i64 0) (Value.slice B1 m1 e1) G1
  have Y1 := grown_blk G2 gr1 hgg.symm
  obtain ⟨X2, gr2, sz2⟩ := whole_reply (Value.int .i64 0) (Value.string emp) (Value.int .i64 0) (Value.slice Y m d) Y1
  have X1' := grown_blk X1 gr2 hgg
  have q8 := below_grow (below_grow q7 gr1 q7.size hg1) gr2 (by rw [sz1]; exact q7.size) hg2
  have M8 := ((M1.bl q7).grown G1 gr1).grown Y1 gr2
  have NU8 := ((NU.bl q7).grown G1 gr1).grown Y1 gr2
  have N8 := ((N6.bl hb7).grown G1 gr1).grown Y1 gr2
  have V8 := grown_blk (grown_blk (V.below' q7) gr1 (by omega)) gr2 (by omega)
  have X08 := grown_blk (grown_blk (X0.below' q7) gr1 (by omega)) gr2 (by omega)
  have U18 := grown_blk (grown_blk (U1.below' q7) gr1 (by omega)) gr2 (by omega)
  obtain ⟨wb, hw8⟩ : ∃ wb, wb = ((((((w7.setCell ⟨g1, 0, none⟩ (Value.int .i64 0)).setCell ⟨g1, 1, none⟩ (Value.slice B1 m1 e1)).setCell ⟨g2, 0, none⟩ (Value.int .i64 0)).setCell ⟨g2, 1, none⟩ (Value.string emp)).setCell ⟨g2, 2, none⟩ (Value.int .i64 0)).setCell ⟨g2, 3, none⟩ (Value.slice Y m d)) := ⟨_, rfl⟩
  rw [← hw8] at q8 X1' X2 N8 M8 NU8 V8 X08 U18 ⊢
  clear hw8 gr1 gr2 sz1 sz2 Y1 X1 G1 G2 q7 hb7
  have X1 := X1'
  clear X1'
  replace q0 : Below w.heap.size w wb := bstep q0 q8
  clear q8 hv1 hx1 HSG L6 T6 N6 V X0 M1 U1 hu1 NU
  have V := V8
  have X0 := X08
  have U1 := U18
  have M1 := M8
  have NU := NU8
  clear M8 V8 X08 U18 NU8
  clear X1 X2 N8
  go_wp2_with fail
  have hv1 := V.lt
  have hx1 := X0.lt
  have hu1 := U1.lt
  have hsG : ∀ w', Below wb.heap.size wb w' → (w'.cell? ⟨w1.heap.size, 0, none⟩ = some (.int .i64 now) ∧ w'.cell? ⟨w1.heap.size, 1, none⟩ = some (.slice A1 n1 c1) ∧ w'.cell? ⟨w.heap.size, 0, none⟩ = some (.int .i64 rk) ∧ w'.cell? ⟨w.heap.size, 1, none⟩ = some (.int .i64 ry) ∧ w'.cell? ⟨w.heap.size, 2, none⟩ = some (.int .i64 rf) ∧ w'.cell? ⟨w.heap.size, 3, none⟩ = some (.int .i64 rr) ∧ w'.cell? ⟨w.heap.size, 4, none⟩ = some (.string rx)) := fun w' q => by
    have V' := V.below' q
    have X' := X0.below' q
    exact ⟨V'.cell 0, V'.cell 1, X'.cell 0, X'.cell 1, X'.cell 2, X'.cell 3, X'.cell 4⟩
  refine wp_region_x (l := []) (S := fun w' => w'.cell? ⟨w1.heap.size, 0, none⟩ = some (.int .i64 now) ∧ w'.cell? ⟨w1.heap.size, 1, none⟩ = some (.slice A1 n1 c1) ∧ w'.cell? ⟨w.heap.size, 0, none⟩ = some (.int .i64 rk) ∧ w'.cell? ⟨w.heap.size, 1, none⟩ = some (.int .i64 ry) ∧ w'.cell? ⟨w.heap.size, 2, none⟩ = some (.int .i64 rf) ∧ w'.cell? ⟨w.heap.size, 3, none⟩ = some (.int .i64 rr) ∧ w'.cell? ⟨w.heap.size, 4, none⟩ = some (.string rx)) (by kernel_rfl) (hsG _ (Below.refl _ wb).drew) (fun hS => ?_)
  refine wpAnyX_take (i := 0) (v := ?xv0c) rfl (by kernel_rfl) (by kernel_rfl) (by kernel_rfl) (by kernel_rfl) (fun _ _ _ h => h) (Or.inl ⟨by rfl, ?xh0c⟩) (by assumption) ?xr0c; (case xh0c => (intro w hSw; (try dsimp only at hSw); go_simp; (try with_reducible rfl))); (try simp only [Act.put, List.setIfInBounds_toArray, List.set_cons_zero, List.set_cons_succ, List.getElem_toArray, List.getElem_cons_zero, List.getElem_cons_succ])
  refine wpAnyX_take (i := 1) (v := ?xv1c) rfl (by kernel_rfl) (by kernel_rfl) (by kernel_rfl) (by kernel_rfl) (fun _ _ _ h => h) (Or.inl ⟨by rfl, ?xh1c⟩) (by assumption) ?xr1c; (case xh1c => (intro w hSw; (try dsimp only at hSw); go_simp; (try with_reducible rfl))); (try simp only [Act.put, List.setIfInBounds_toArray, List.set_cons_zero, List.set_cons_succ, List.getElem_toArray, List.getElem_cons_zero, List.getElem_cons_succ])
  refine wpAnyX_take (i := 2) (v := ?xv2c) rfl (by kernel_rfl) (by kernel_rfl) (by kernel_rfl) (by kernel_rfl) (fun _ _ _ h => h) (Or.inl ⟨by rfl, ?xh2c⟩) (by assumption) ?xr2c; (case xh2c => (intro w hSw; (try dsimp only at hSw); go_simp; (try with_reducible rfl))); (try simp only [Act.put, List.setIfInBounds_toArray, List.set_cons_zero, List.set_cons_succ, List.getElem_toArray, List.getElem_cons_zero, List.getElem_cons_succ])
  have HSG := hide hsG
  clear hsG hS 
  refine wpX_start (n := 9 + left2 false false) (listed := (fun b_ c_ => #[true, true, true, false, false, false, false, false, false, b_, c_, false, false, false]) false false) (j1 := 9) (d1 := 15) (t1 := 25) (z1 := #[.int .i64 0, .slice none 0 0]) (j2 := 10) (d2 := 16) (t2 := 49) (z2 := #[.int .i64 0, .string { data := #[] }, .int .i64 0, .slice none 0 0]) ?al1c ?al2c ?alnc ?allc (fun al1 al2 => ?alrc); (case al1c => exact ⟨⟨_, rfl, rfl, rfl, fun a w => by simp [go_sem, execOp]⟩⟩); (case al2c => exact ⟨⟨_, rfl, rfl, rfl, fun a w => by simp [go_sem, execOp]⟩⟩); (case alnc => kernel_rfl); (case allc => kernel_rfl)
  refine' wpX_phase0 (f := 8) (i := 3) (L := (fun b_ c_ => #[true, true, true, false, false, false, false, false, false, b_, c_, false, false, false])) (L' := (fun b_ c_ => #[true, true, true, true, false, false, false, false, false, b_, c_, false, false, false])) (base := wb.heap.size) (G := (fun w' => Below wb.heap.size wb w')) (x := undef) (y := undef) al1 al2 ?an3c ?al3c ?aa3c ?ar3c ?ai3c ?ag3c ?ae13c ?ae23c ?ae33c ?ap13c ?ap23c HSG.out (fun w' o q => q.alloc q.size o) (fun w' q => q.size) ?aw3c ?am3c; (case an3c => rfl); (case al3c => rfl); (case aa3c => rfl); (case ar3c => kernel_rfl); (case ai3c => rfl); (case ag3c => rfl); (case ae13c => (intros; rfl)); (case ae23c => (intros; rfl)); (case ae33c => (intros; rfl)); (case ap13c => (intros; rfl)); (case ap23c => (intros; rfl))
  (case aw3c => exact (Below.refl _ wb).drew)
  intro b_ c_ x_ y_ wp1 hG_ hx_ hy_ hxy_ K_ hK_; (try simp only [Act.put, List.setIfInBounds_toArray, List.set_cons_zero, List.set_cons_succ, List.getElem_toArray, List.getElem_cons_zero, List.getElem_cons_succ])
  go_wp2_with fail
  refine (HMK.out _).mono ?_
  rintro e w4 ⟨rfl, hbp⟩
  go_wp2_with fail
  have qp : Below wb.heap.size wb w4 := bstep hG_ hbp
  have hSp := HSG.out _ qp
  refine hK_.out _ _ (Or.inr hSp) ?_
  clear hK_ K_ hG_
  refine' wpX_phase' (f := 7) (i := 4) (L := (fun b_ c_ => #[true, true, true, true, false, false, false, false, false, b_, c_, false, false, false])) (L' := (fun b_ c_ => #[true, true, true, true, true, false, false, false, false, b_, c_, false, false, false])) (base := wb.heap.size) (G := (fun w' => Below wb.heap.size wb w')) (b := b_) (c := c_) (x := x_) (y := y_) al1 al2 ?an4c ?al4c ?aa4c ?ar4c ?ai4c ?ag4c ?ae14c ?ae24c ?ae34c ?ap14c ?ap24c HSG.out (fun w' o q => q.alloc q.size o) (fun w' q => q.size) ?aw4c (hx_.bl hbp) (hy_.bl hbp) hxy_ ?am4c; (case an4c => rfl); (case al4c => rfl); (case aa4c => rfl); (case ar4c => kernel_rfl); (case ai4c => rfl); (case ag4c => rfl); (case ae14c => (intros; rfl)); (case ae24c => (intros; rfl)); (case ae34c => (intros; rfl)); (case ap14c => (intros; rfl)); (case ap24c => (intros; rfl))
  (case aw4c => exact qp)
  clear hx_ hy_ hxy_ x_ y_ b_ c_ hbp
  intro b_ c_ x_ y_ wp2 hG_ hx_ hy_ hxy_ K_ hK_; (try simp only [Act.put, List.setIfInBounds_toArray, List.set_cons_zero, List.set_cons_succ, List.getElem_toArray, List.getElem_cons_zero, List.getElem_cons_succ])
  go_wp2_with fail
  refine (HD3.out _ _ _ _ (M1.bl hG_)).mono ?_
  rintro e w6 ⟨B1, m1, e1, Y, m, d, rfl, N6, L6, T6, hbp⟩
  go_wp2_with fail
  have qp : Below wb.heap.size wb w6 := bstep hG_ hbp
  have hSp := HSG.out _ qp
  refine hK_.out _ _ (Or.inr hSp) ?_
  clear hK_ K_ hG_
  refine' wpX_take' (f := 6) (i := 5) (v := ?xv5c) (L := (fun b_ c_ => #[true, true, true, true, true, false, false, false, false, b_, c_, false, false, false])) (L' := (fun b_ c_ => #[true, true, true, true, true, true, false, false, false, b_, c_, false, false, false])) ?tan5c ?tal5c rfl (by kernel_rfl) ?tar5c (by kernel_rfl) ?tae35c (fun _ _ _ h => h) (Or.inl ⟨by rfl, ?xh5c⟩) ?taw5c ?xr5c; (case tan5c => rfl); (case tal5c => rfl); (case tar5c => kernel_rfl); (case tae35c => (intros; rfl)); (case taw5c => assumption); (case xh5c => (intro w hSw; (try dsimp only at hSw); go_simp; (try with_reducible rfl))); (try simp only [Act.put, List.setIfInBounds_toArray, List.set_cons_zero, List.set_cons_succ, List.getElem_toArray, List.getElem_cons_zero, List.getElem_cons_succ])
  refine' wpX_take' (f := 5) (i := 6) (v := ?xv6c) (L := (fun b_ c_ => #[true, true, true, true, true, true, false, false, false, b_, c_, false, false, false])) (L' := (fun b_ c_ => #[true, true, true, true, true, true, true, false, false, b_, c_, false, false, false])) ?tan6c ?tal6c rfl (by kernel_rfl) ?tar6c (by kernel_rfl) ?tae36c (fun _ _ _ h => h) (Or.inl ⟨by rfl, ?xh6c⟩) ?taw6c ?xr6c; (case tan6c => rfl); (case tal6c => rfl); (case tar6c => kernel_rfl); (case tae36c => (intros; rfl)); (case taw6c => assumption); (case xh6c => (intro w hSw; (try dsimp only at hSw); go_simp; (try with_reducible rfl))); (try simp only [Act.put, List.setIfInBounds_toArray, List.set_cons_zero, List.set_cons_succ, List.getElem_toArray, List.getElem_cons_zero, List.getElem_cons_succ])
  refine' wpX_take' (f := 4) (i := 7) (v := ?xv7c) (L := (fun b_ c_ => #[true, true, true, true, true, true, true, false, false, b_, c_, false, false, false])) (L' := (fun b_ c_ => #[true, true, true, true, true, true, true, true, false, b_, c_, false, false, false])) ?tan7c ?tal7c rfl (by kernel_rfl) ?tar7c (by kernel_rfl) ?tae37c (fun _ _ _ h => h) (Or.inl ⟨by rfl, ?xh7c⟩) ?taw7c ?xr7c; (case tan7c => rfl); (case tal7c => rfl); (case tar7c => kernel_rfl); (case tae37c => (intros; rfl)); (case taw7c => assumption); (case xh7c => (intro w hSw; (try dsimp only at hSw); go_simp; (try with_reducible rfl))); (try simp only [Act.put, List.setIfInBounds_toArray, List.set_cons_zero, List.set_cons_succ, List.getElem_toArray, List.getElem_cons_zero, List.getElem_cons_succ])
  refine' wpX_take' (f := 3) (i := 8) (v := ?xv8c) (L := (fun b_ c_ => #[true, true, true, true, true, true, true, true, false, b_, c_, false, false, false])) (L' := (fun b_ c_ => #[true, true, true, true, true, true, true, true, true, b_, c_, false, false, false])) ?tan8c ?tal8c rfl (by kernel_rfl) ?tar8c (by kernel_rfl) ?tae38c (fun _ _ _ h => h) (Or.inl ⟨by rfl, ?xh8c⟩) ?taw8c ?xr8c; (case tan8c => rfl); (case tal8c => rfl); (case tar8c => kernel_rfl); (case tae38c => (intros; rfl)); (case taw8c => assumption); (case xh8c => (intro w hSw; (try dsimp only at hSw); go_simp; (try with_reducible rfl))); (try simp only [Act.put, List.setIfInBounds_toArray, List.set_cons_zero, List.set_cons_succ, List.getElem_toArray, List.getElem_cons_zero, List.getElem_cons_succ])
  refine' wpX_lay' (f := 3) (L := (fun b_ c_ => #[true, true, true, true, true, true, true, true, true, b_, c_, false, false, false])) (base := wb.heap.size) (G := (fun w' => Below w6.heap.size w6 w')) (b := b_) (c := c_) (x := x_) (y := y_) al1 al2 ?anLc ?alLc ?aaLc ?arLc ?ae1Lc ?ae2Lc ?ap1Lc ?ap2Lc (fun w' q => HSG.out w' (bstep qp q)) (fun w' o q => q.alloc q.size o) (fun w' q => Nat.le_trans qp.size q.size) ?awLc (hx_.bl hbp) (hy_.bl hbp) hxy_ ?amLc; (case anLc => rfl); (case alLc => rfl); (case aaLc => rfl); (case arLc => kernel_rfl); (case ae1Lc => (intros; rfl)); (case ae2Lc => (intros; rfl)); (case ap1Lc => (intros; rfl)); (case ap2Lc => (intros; rfl))
  (case awLc => exact Below.refl _ w6)
  clear hx_ hy_ hxy_ x_ y_ b_ c_ hSp
  intro g1 g2 w7 hb7 hg1 G1 hg2 G2 hgg
  have q7 : Below wb.heap.size wb w7 := bstep qp hb7
  clear al1 al2
  (try clear cG1 fG1); have cG1 := G1.cell; have fG1 := G1.frozen
  refine wpAnyX_one (i := 11) (by kernel_rfl) rfl (by rfl) (fun K hK => ?_); (try simp only [List.getElem_toArray, List.getElem_cons_zero, List.getElem_cons_succ])
  go_wp2_with fail
  refine hK.out _ _ (Or.inr (HSG.out _ (below_set (below_set q7 hg1 0 _) hg1 1 _))) (fun hS => ?_)
  clear hK K hS cG1 fG1
  have F0 := G2.far (p := ⟨g1, 0, none⟩) (by simpa using hgg.symm) (.int .i64 0)
  have F1 := F0.far (p := ⟨g1, 1, none⟩) (by simpa using hgg.symm) (.slice B1 m1 e1)
  (try clear cF1 fF1); have cF1 := F1.cell; have fF1 := F1.frozen
  refine wpAnyX_one (i := 12) (by kernel_rfl) rfl (by rfl) (fun K hK => ?_); (try simp only [List.getElem_toArray, List.getElem_cons_zero, List.getElem_cons_succ])
  go_wp2_with fail
  refine hK.out _ _ (Or.inr (HSG.out _ (below_set (below_set (below_set (below_set (below_set (below_set q7 hg1 0 _) hg1 1 _) hg2 0 _) hg2 1 _) hg2 2 _) hg2 3 _))) (fun hS => ?_)
  replace hS := hS.resolve_left (by decide)
  clear hK K cF1 fF1
  refine wpAnyX_pure (i := 13) (v := ?xv13c) rfl (by kernel_rfl) (Or.inl ⟨by rfl, ?xh13c⟩) (Or.inr (by assumption)) ?xr13c; (case xh13c => (intro w; go_simp; (try with_reducible rfl))); (try simp only [Act.put, List.setIfInBounds_toArray, List.set_cons_zero, List.set_cons_succ, List.getElem_toArray, List.getElem_cons_zero, List.getElem_cons_succ])
  clear hS
  refine wpAnyX_done (by kernel_rfl) ?_ _
  clear F0 F1
  obtain ⟨X1, gr1, sz1⟩ := whole_store (Value.int .i64 0) (Value.slice B1 m1 e1) G1
  have Y1 := grown_blk G2 gr1 hgg.symm
  obtain ⟨X2, gr2, sz2⟩ := whole_reply (Value.int .i64 0) (Value.string emp) (Value.int .i64 0) (Value.slice Y m d) Y1
  have X1' := grown_blk X1 gr2 hgg
  have q8 := below_grow (below_grow q7 gr1 q7.size hg1) gr2 (by rw [sz1]; exact q7.size) hg2
  have M8 := ((M1.bl q7).grown G1 gr1).grown Y1 gr2
  have NU8 := ((NU.bl q7).grown G1 gr1).grown Y1 gr2
  have N8 := ((N6.bl hb7).grown G1 gr1).grown Y1 gr2
  have V8 := grown_blk (grown_blk (V.below' q7) gr1 (by omega)) gr2 (by omega)
  have X08 := grown_blk (grown_blk (X0.below' q7) gr1 (by omega)) gr2 (by omega)
  have U18 := grown_blk (grown_blk (U1.below' q7) gr1 (by omega)) gr2 (by omega)
  obtain ⟨wc, hw8⟩ : ∃ wc, wc = ((((((w7.setCell ⟨g1, 0, none⟩ (Value.int .i64 0)).setCell ⟨g1, 1, none⟩ (Value.slice B1 m1 e1)).setCell ⟨g2, 0, none⟩ (Value.int .i64 0)).setCell ⟨g2, 1, none⟩ (Value.string emp)).setCell ⟨g2, 2, none⟩ (Value.int .i64 0)).setCell ⟨g2, 3, none⟩ (Value.slice Y m d)) := ⟨_, rfl⟩
  rw [← hw8] at q8 X1' X2 N8 M8 NU8 V8 X08 U18 ⊢
  clear hw8 gr1 gr2 sz1 sz2 Y1 X1 G1 G2 q7 hb7
  have X1 := X1'
  clear X1'
  replace q0 : Below w.heap.size w wc := bstep q0 q8
  clear q8 hv1 hx1 HSG L6 T6 N6 V X0 M1 U1 hu1 NU
  have V := V8
  have X0 := X08
  have U1 := U18
  have M1 := M8
  have NU := NU8
  clear M8 V8 X08 U18 NU8
  clear X1 X2 N8
  obtain ⟨hU, hmi⟩ := HU.out
  clear HU HMK HD2 HD3 HP X0
  (try clear cV fV); have cV := V.cell; have fV := V.frozen; (try clear cU1 fU1); have cU1 := U1.cell; have fU1 := U1.frozen
  go_wp2_with fail
  refine (KS.out _ _ _ _ M1).mono ?_
  rintro e w9 ⟨rfl, hb9⟩
  replace V := V.bl hb9; replace U1 := U1.bl hb9; replace NU := NU.bl hb9
  (try clear cV fV); have cV := V.cell; have fV := V.frozen; (try clear cU1 fU1); have cU1 := U1.cell; have fU1 := U1.frozen
  go_wp2_with fail
  refine (KU.out _ _ _ _ NU).mono ?_
  rintro e w10 ⟨rfl, hb10⟩
  replace V := V.bl hb10; replace U1 := U1.bl hb10
  (try clear cV fV); have cV := V.cell; have fV := V.frozen; (try clear cU1 fU1); have cU1 := U1.cell; have fU1 := U1.frozen
  go_wp2_with fail
  go_ret
  exact ⟨rfl, (by repeat (first | (with_reducible exact Below.refl _ _) | (with_reducible assumption) | (with_reducible refine Below.drew ?_) | (with_reducible refine bdrewN ?_ _) | (with_reducible refine balloc ?_ _) | ((with_reducible refine bset ?_ ?_ _); rotate_left; (focus first | exact Nat.le_refl _ | (simp; done) | (simp; omega) | omega)) | (with_reducible refine bstep ?_ (by with_reducible assumption)) | (with_reducible refine Below.trans ?_ (by with_reducible assumption))))⟩
set_option maxRecDepth 100000 in
theorem storeMay_lifted (os : Os) (started : os.Started) (H : Type) (enc : TypeId × Value → H) :
  ReturnsInHanded {} Try.checked os 5 .any (Rows.storeMaySpec.pre6 enc Try.prog Try.f5 Rows.storeMayRow.domain false) (Rows.storeMaySpec.post enc Try.prog Try.f5 false true false false) := by
  refine returnsInHanded_of_change (C := Try.checked) Try.own started (by kernel_rfl) Try.func5 (ChangeSpec.witness6 (enc := enc) (C := Try.checked) false ⟨#[], #[.slice none 0 0, .agg #[.int .i64 0, .int .i64 0, .int .i64 0, .int .i64 0, .string ByteArray.empty, .int .i64 0], .int .i64 0], []⟩ 8 (by kernel_rfl) (by kernel_rfl) (by kernel_rfl) (by kernel_rfl)) ?_
  intro W base args ds gs before hval0 hW hcnd _
  have hval : ∀ (j : Nat) t v, Try.f5.params[j]? = some t → args[j]? = some v → Value.okWide Try.prog W .any base t v := hval0
  have hW' := hW
  obtain ⟨p, q, hA0, hV, rfl, hfz, hnd⟩ := hW
  have hA : DataW.TrodAll enc Try.prog W 0 (fun _ => true) true Try.f5.params.toList args.toList ds p := hA0
  rw [Try.params5] at hA hval
  obtain ⟨rfl, rfl⟩ := trodVars_none hV
  clear hA0 hval0 hcnd hV hfz hnd
  obtain ⟨v0, v1, v2, d0, d1, d2, p0, p1, p2, rfl, rfl, rfl, h0, h1, h2⟩ := trodAll_three hA
  obtain ⟨A, n, c, l, rfl, hd, hS⟩ := open_steps (hval 0 55 v0 rfl rfl) h0
  obtain ⟨x, rfl, hx⟩ := open_step (hval 1 57 v1 rfl rfl) h1
  obtain ⟨k, rfl, rfl, rfl, w1⟩ := open_int Try.underlying3 (hval 2 3 v2 rfl rfl) h2
  refine (storeMay_walk A n c l x k W hS hd hx (i64_bounds w1)).mono fun e W' ⟨he, hb⟩ => ?_
  subst he
  exact ⟨_, rfl, post_law Try.laidOut hW' rfl (by kernel_rfl) rfl Try.underlying4 (fun _ => rfl) (fun _ => rfl) (fun _ => rfl) hb⟩
theorem storeMay_holds : Rows.StoreMaySaid := OpenClaim.holds_of_wide 5 Try.f5 rfl rfl rfl rfl rfl rfl rfl ⟨rfl, rfl, rfl, rfl, rfl⟩ rfl rfl rfl rfl rfl (by kernel_rfl) Try.func5 (by kernel_rfl)
  (of_decide_eq_true (by kernel_rfl)) (by unfold Func.isWrapper; first | (rw [if_pos (by decide +kernel)]; kernel_rfl) | (rw [if_neg (by decide +kernel)]; exact ⟨rfl, rfl⟩))
  (fun os started H enc _ => storeMay_lifted os started H enc)
#print axioms storeMay_holds
end Go.Proofs.Ytpdadlofgfdlpaa
