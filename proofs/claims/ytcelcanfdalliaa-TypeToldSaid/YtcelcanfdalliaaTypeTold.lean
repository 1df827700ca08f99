/- rostrumkeep.TypeTold returns true for every input and leaves its arguments as they were; no condition. -/
import Derived.Test.YtcelcanfdalliaaValLaw
import Derived.Test.YtcelcanfdalliaaDonQ
import Derived.Deep.DeepCutAuto
namespace Go.Proofs.Ytcelcanfdalliaa
set_option linter.all false
open Go.ChangeShapes Go.WideShapes Go.ChangeAt Go.RowKit
set_option maxHeartbeats 2000000 in
theorem kindOfKeep_any (k : Int) (w : World) : Calls Try.prog 31 #[.int .i64 k] w fun e w' => e = .returned (.int .i64 (kindC k)) ∧ w = w' := by
  by_cases h : 2 ≤ k ∧ k ≤ 16
  · have hk : k = 2 ∨ k = 3 ∨ k = 4 ∨ k = 5 ∨ k = 6 ∨ k = 7 ∨ k = 8 ∨ k = 9 ∨ k = 10 ∨ k = 11 ∨ k = 12 ∨ k = 13 ∨ k = 14 ∨ k = 15 ∨ k = 16 := by omega
    rcases hk with rfl | rfl | rfl | rfl | rfl | rfl | rfl | rfl | rfl | rfl | rfl | rfl | rfl | rfl | rfl
    all_goals go_enter Try.func31, Try.ntmps31
    all_goals go_wp2_with fail
    all_goals go_ret
    all_goals exact ⟨ret_int (by decide), rfl⟩
  · have e : kindC k = 0 := by unfold kindC; (repeat' split) <;> omega
    have h2 : (k == 2) = false := by rw [beq_eq_false_iff_ne]; omega
    have h3 : (k == 3) = false := by rw [beq_eq_false_iff_ne]; omega
    rw [e]
    clear e
    by_cases hl : k < 2
    · go_enter Try.func31, Try.ntmps31
      go_wp2_with fail
      all_goals go_ret
      all_goals exact ⟨rfl, rfl⟩
    · have hg : 16 < k := by omega
      go_enter Try.func31, Try.ntmps31
      go_wp2_with fail
      all_goals go_ret
      all_goals exact ⟨rfl, rfl⟩
set_option maxRecDepth 100000 in
set_option maxHeartbeats 8000000 in
theorem typeTold_walk (kind : Int) (A : Option Addr) (n c : Nat) (l : List RawD) (r : RawD) (w : World) (hS : Sl w 5 A n c (rawRows l)) (hd : ∀ d ∈ l, d.ok) (hk : I64 kind) (hr : r.ok) (hz : (n + 1) * 48 ≤ 140737488355328) :
    Calls Try.prog 11 #[.int .i64 kind, .slice A n c, .agg #[.int .i64 r.kind, .int .i64 r.key, .int .i64 r.field, .int .i64 r.n, .string r.text]] w fun e w' => e = .returned (.bool true) ∧ Below w.heap.size w w' := by
  have hF := fun w h => full_any kind A n c l w h hd hk hz
  have hG := (fullOf_good kind l).1
  have hC := fun w => CommandR_any r hr w
  have hcc := cmdR_cc r
  have hin := cmdR_in r
  generalize fullOf kind l = V at *
  generalize cmdR r = C at *
  have hD := fun A1 A2 A3 n1 c1 n2 c2 n3 c3 w h => Do_may V C (.inr hG) A1 A2 A3 n1 c1 n2 c2 n3 c3 w h
  have hK := fun w => kindOfKeep_any C.kind w
  have hcase : C.kind ≤ 18 → _ := fun h => done_ways hG hcc h
  have hwr : wrongKind V C = ((kindC C.kind != 0 && kindC C.kind != V.kind) || (decide (17 ≤ C.kind) && decide (V.kind < 3))) := rfl
  generalize wrongKind V C = WR at *
  generalize kindC C.kind = kc at *
  generalize doneVal V C = D at *
  have k1 := hG.k1
  obtain ⟨vk, vt, vc, ps, is_, ss⟩ := V
  obtain ⟨ck, cy, cf, ct, cn⟩ := C
  obtain ⟨⟨dk, dt, dc, dps, dis, dss⟩, ⟨rc, rt, rn, rl⟩, de⟩ := D
  simp only [cmdV, failR, Prod.mk.injEq, Va.mk.injEq, Re.mk.injEq, emp] at hC hD hK hcase hin hwr k1
  have HF := hide hF; have HC := hide hC; have HD := hide hD; have HK := hide hK; have HCA := hide hcase; have HW := hide hwr
  clear hF hC hD hK hcase hd hG hcc hr hwr
  obtain ⟨rk, ry, rf, rr, rx⟩ := r
  simp only at HC ⊢
  have B := Blk.new w 24 #[.int .i64 rk, .int .i64 ry, .int .i64 rf, .int .i64 rr, .string rx]
  have hv0 : (vk == 0) = false := by rw [beq_eq_false_iff_ne]; omega
  have hv1 : (vk != 0) = true := by rw [bne_iff_ne]; omega
  go_enter Try.func11, Try.ntmps11
  go_wp2_with fail
  refine (HF.out _ (hS.al _)).mono ?_; rintro e w1 ⟨B10, m10, e10, B20, m20, e20, B30, m30, e30, rfl, M0, T0, hb0⟩; replace B := B.bl hb0; have q : Below w.heap.size w w1 := (by repeat (first | (with_reducible exact Below.refl _ _) | (with_reducible assumption) | (with_reducible refine Below.drew ?_) | (with_reducible refine bdrewN ?_ _) | (with_reducible refine balloc ?_ _) | ((with_reducible refine bset ?_ ?_ _); rotate_left; (focus first | exact Nat.le_refl _ | (simp; done) | (simp; omega) | omega)) | (with_reducible refine bstep ?_ (by with_reducible assumption)) | (with_reducible refine Below.trans ?_ (by with_reducible assumption)))); clear hb0 T0
  have D0 := Blk.new w1 29 #[.int .i64 vk, .string vt, .int .i64 vc, .slice B10 m10 e10, .slice B20 m20 e20, .slice B30 m30 e30]; replace M0 := M0.al (.cells #[.int .i64 vk, .string vt, .int .i64 vc, .slice B10 m10 e10, .slice B20 m20 e20, .slice B30 m30 e30] 29); replace B := B.al (.cells #[.int .i64 vk, .string vt, .int .i64 vc, .slice B10 m10 e10, .slice B20 m20 e20, .slice B30 m30 e30] 29)
  (try clear cD0 fD0); have cD0 := D0.cell; have fD0 := D0.frozen; (try clear cB fB); have cB := B.cell; have fB := B.frozen
  go_wp2_with fail
  refine (HC.out _).mono ?_
  rintro e w2 ⟨rfl, hb2⟩
  replace D0 := D0.bl hb2; replace M0 := M0.bl hb2
  replace q : Below w.heap.size w w2 := (by repeat (first | (with_reducible exact Below.refl _ _) | (with_reducible assumption) | (with_reducible refine Below.drew ?_) | (with_reducible refine bdrewN ?_ _) | (with_reducible refine balloc ?_ _) | ((with_reducible refine bset ?_ ?_ _); rotate_left; (focus first | exact Nat.le_refl _ | (simp; done) | (simp; omega) | omega)) | (with_reducible refine bstep ?_ (by with_reducible assumption)) | (with_reducible refine Below.trans ?_ (by with_reducible assumption))))
  clear hb2 cB fB B cD0 fD0
  have C := Blk.new w2 34 #[.int .i64 ck, .string cy, .string cf, .string ct, .int .i64 cn]
  replace D0 := D0.al (.cells #[.int .i64 ck, .string cy, .string cf, .string ct, .int .i64 cn] 34); replace M0 := M0.al (.cells #[.int .i64 ck, .string cy, .string cf, .string ct, .int .i64 cn] 34)
  (try clear cD0 fD0); have cD0 := D0.cell; have fD0 := D0.frozen; (try clear cC fC); have cC := C.cell; have fC := C.frozen
  by_cases h18 : 18 < ck
  · go_wp2_with fail
    go_ret
    exact ⟨rfl, (by repeat (first | (with_reducible exact Below.refl _ _) | (with_reducible assumption) | (with_reducible refine Below.drew ?_) | (with_reducible refine bdrewN ?_ _) | (with_reducible refine balloc ?_ _) | ((with_reducible refine bset ?_ ?_ _); rotate_left; (focus first | exact Nat.le_refl _ | (simp; done) | (simp; omega) | omega)) | (with_reducible refine bstep ?_ (by with_reducible assumption)) | (with_reducible refine Below.trans ?_ (by with_reducible assumption))))⟩
  · go_wp2_with fail
    refine (HD.out _ _ _ _ _ _ _ _ _ _ M0).mono ?_; rintro e w3 ⟨B11, m11, e11, B21, m21, e21, B31, m31, e31, B41, m41, e41, rfl, M1, L1, T1, hb1⟩; replace D0 := D0.bl hb1; replace M0 := M0.bl hb1; replace C := C.bl hb1; replace q : Below w.heap.size w w3 := (by repeat (first | (with_reducible exact Below.refl _ _) | (with_reducible assumption) | (with_reducible refine Below.drew ?_) | (with_reducible refine bdrewN ?_ _) | (with_reducible refine balloc ?_ _) | ((with_reducible refine bset ?_ ?_ _); rotate_left; (focus first | exact Nat.le_refl _ | (simp; done) | (simp; omega) | omega)) | (with_reducible refine bstep ?_ (by with_reducible assumption)) | (with_reducible refine Below.trans ?_ (by with_reducible assumption)))); clear hb1
    have D1 := Blk.new w3 29 #[.int .i64 dk, .string dt, .int .i64 dc, .slice B11 m11 e11, .slice B21 m21 e21, .slice B31 m31 e31]; replace M1 := M1.al (.cells #[.int .i64 dk, .string dt, .int .i64 dc, .slice B11 m11 e11, .slice B21 m21 e21, .slice B31 m31 e31] 29); replace L1 := L1.al (.cells #[.int .i64 dk, .string dt, .int .i64 dc, .slice B11 m11 e11, .slice B21 m21 e21, .slice B31 m31 e31] 29); replace D0 := D0.al (.cells #[.int .i64 dk, .string dt, .int .i64 dc, .slice B11 m11 e11, .slice B21 m21 e21, .slice B31 m31 e31] 29); replace M0 := M0.al (.cells #[.int .i64 dk, .string dt, .int .i64 dc, .slice B11 m11 e11, .slice B21 m21 e21, .slice B31 m31 e31] 29); replace C := C.al (.cells #[.int .i64 dk, .string dt, .int .i64 dc, .slice B11 m11 e11, .slice B21 m21 e21, .slice B31 m31 e31] 29); have R1 : Blk ((w3.alloc (.cells #[.int .i64 dk, .string dt, .int .i64 dc, .slice B11 m11 e11, .slice B21 m21 e21, .slice B31 m31 e31] 29)).alloc (.cells #[.int .i64 rc, .string rt, .int .i64 rn, .slice B41 m41 e41] 37)) (w3.heap.size + 1) 37 #[.int .i64 rc, .string rt, .int .i64 rn, .slice B41 m41 e41] := Blk.new' _ _ _ (by simp); replace M1 := M1.al (.cells #[.int .i64 rc, .string rt, .int .i64 rn, .slice B41 m41 e41] 37); replace L1 := L1.al (.cells #[.int .i64 rc, .string rt, .int .i64 rn, .slice B41 m41 e41] 37); replace D1 := D1.al (.cells #[.int .i64 rc, .string rt, .int .i64 rn, .slice B41 m41 e41] 37); replace D0 := D0.al (.cells #[.int .i64 rc, .string rt, .int .i64 rn, .slice B41 m41 e41] 37); replace M0 := M0.al (.cells #[.int .i64 rc, .string rt, .int .i64 rn, .slice B41 m41 e41] 37); replace C := C.al (.cells #[.int .i64 rc, .string rt, .int .i64 rn, .slice B41 m41 e41] 37)
    clear cD0 fD0 cC fC T1
    (try clear cD0 fD0); have cD0 := D0.cell; have fD0 := D0.frozen; (try clear cC fC); have cC := C.cell; have fC := C.frozen; (try clear cD1 fD1); have cD1 := D1.cell; have fD1 := D1.frozen; (try clear cR1 fR1); have cR1 := R1.cell; have fR1 := R1.frozen
    go_upto_region 7 with (go_at_call 31; with_reducible refine (HK.out _).mono ?_; rintro e w' ⟨rfl, rfl⟩)
    have h17 : ck = 17 ∨ ck = 18 ∨ ((ck == 17) = false ∧ (ck == 18) = false ∧ ¬ 17 ≤ ck) := by
      rcases Int.lt_or_le ck 17 with h | h
      · exact .inr (.inr ⟨by rw [beq_eq_false_iff_ne]; omega, by rw [beq_eq_false_iff_ne]; omega, by omega⟩)
      · omega
    go_cut [13] (fun s wx => s = .bool WR ∧ ((w3.alloc (.cells #[.int .i64 dk, .string dt, .int .i64 dc, .slice B11 m11 e11, .slice B21 m21 e21, .slice B31 m31 e31] 29)).alloc (.cells #[.int .i64 rc, .string rt, .int .i64 rn, .slice B41 m41 e41] 37)) = wx)
    case first =>
      clear HCA
      cases a1 : (kc != 0) <;> cases a2 : (kc != vk) <;> by_cases a4 : vk ≤ 2
      all_goals rcases h17 with rfl | rfl | ⟨ha, hb, hc⟩
      all_goals go_wp2_with fail
      all_goals go_meet
      all_goals refine ⟨?_, rfl⟩
      all_goals (with_reducible refine congrArg Value.bool ?_)
      all_goals (rw [HW.out, a1, a2]; simp; try omega)
    case rest =>
      obtain ⟨rfl, rfl⟩ := hcut
      have hways := HCA.out (by omega)
      clear HW HCA h17
      rcases hways with ⟨rfl, ⟨rfl, rfl, rfl, rfl, rfl, rfl⟩, ⟨rfl, rfl, rfl, rfl⟩, rfl⟩ | ⟨rfl, rfl, rfl | ⟨k, ⟨⟨rfl, rfl, rfl, rfl, rfl, rfl⟩, ⟨rfl, rfl, rfl, rfl⟩, -⟩, hk3⟩⟩
      · have hm : m41 = 0 := by have := L1.len; simpa [strRows] using this.symm
        subst hm
        go_wp2_with fail
        refine (sameValue_eq ⟨dk, dt, dc, dps, dis, dss⟩ ⟨dk, dt, dc, dps, dis, dss⟩ _ _ _ _ _ _ _ _ _ _ _ _ _ _ _ _ _ _ _ M0 M1 rfl).mono ?_
        rintro e w5 ⟨rfl, hb5⟩
        replace R1 := R1.bl hb5
        clear cD0 fD0 cC fC cD1 fD1 cR1 fR1
        (try clear cR1 fR1); have cR1 := R1.cell; have fR1 := R1.frozen
        go_wp2_with fail
        go_ret
        exact ⟨rfl, (by repeat (first | (with_reducible exact Below.refl _ _) | (with_reducible assumption) | (with_reducible refine Below.drew ?_) | (with_reducible refine bdrewN ?_ _) | (with_reducible refine balloc ?_ _) | ((with_reducible refine bset ?_ ?_ _); rotate_left; (focus first | exact Nat.le_refl _ | (simp; done) | (simp; omega) | omega)) | (with_reducible refine bstep ?_ (by with_reducible assumption)) | (with_reducible refine Below.trans ?_ (by with_reducible assumption))))⟩
      · go_wp2_with fail
        go_ret
        exact ⟨rfl, (by repeat (first | (with_reducible exact Below.refl _ _) | (with_reducible assumption) | (with_reducible refine Below.drew ?_) | (with_reducible refine bdrewN ?_ _) | (with_reducible refine balloc ?_ _) | ((with_reducible refine bset ?_ ?_ _); rotate_left; (focus first | exact Nat.le_refl _ | (simp; done) | (simp; omega) | omega)) | (with_reducible refine bstep ?_ (by with_reducible assumption)) | (with_reducible refine Below.trans ?_ (by with_reducible assumption))))⟩
      · have hm : m41 = 0 := by have := L1.len; simpa [strRows] using this.symm
        subst hm
        rcases hk3 with rfl | rfl | rfl
        all_goals go_wp2_with fail
        all_goals refine (sameValue_eq ⟨dk, dt, dc, dps, dis, dss⟩ ⟨dk, dt, dc, dps, dis, dss⟩ _ _ _ _ _ _ _ _ _ _ _ _ _ _ _ _ _ _ _ M0 M1 rfl).mono ?_
        all_goals rintro e w5 ⟨rfl, hb5⟩
        all_goals replace R1 := R1.bl hb5
        all_goals clear cD0 fD0 cC fC cD1 fD1 cR1 fR1
        all_goals have cR1 := R1.cell
        all_goals go_wp2_with fail
        all_goals go_ret
        all_goals exact ⟨rfl, (by repeat (first | (with_reducible exact Below.refl _ _) | (with_reducible assumption) | (with_reducible refine Below.drew ?_) | (with_reducible refine bdrewN ?_ _) | (with_reducible refine balloc ?_ _) | ((with_reducible refine bset ?_ ?_ _); rotate_left; (focus first | exact Nat.le_refl _ | (simp; done) | (simp; omega) | omega)) | (with_reducible refine bstep ?_ (by with_reducible assumption)) | (with_reducible refine Below.trans ?_ (by with_reducible assumption))))⟩
set_option maxRecDepth 100000 in
theorem typeTold_lifted (os : Os) (started : os.Started) (H : Type) (enc : TypeId × Value → H) :
  ReturnsInHanded {} Try.checked os 11 .any (Rows.typeToldSpec.pre6 enc Try.prog Try.f11 Rows.typeToldRow.domain false) (Rows.typeToldSpec.post enc Try.prog Try.f11 false true false false) := by
  refine returnsInHanded_of_change_sized (C := Try.checked) Try.own started (by kernel_rfl) Try.func11 (ChangeSpec.witness6 (enc := enc) (C := Try.checked) false ⟨#[], #[.int .i64 0, .slice none 0 0, .agg #[.int .i64 0, .int .i64 0, .int .i64 0, .int .i64 0, .string ByteArray.empty]], []⟩ 8 (by kernel_rfl) (by kernel_rfl) (by kernel_rfl) (by kernel_rfl)) ?_
  intro W base args ds gs before hval0 hW hcnd hsz0 _
  have hsz : (DataW.weightsEach Try.prog (Try.f11.params.toList ++ Rows.typeToldSpec.plain.varTypes Try.prog) (ds ++ gs)).all (· ≤ reachBytes) = true := hsz0
  clear hsz0
  have hval : ∀ (j : Nat) t v, Try.f11.params[j]? = some t → args[j]? = some v → Value.okWide Try.prog W .any base t v := hval0
  have hW' := hW
  obtain ⟨p, q, hA0, hV, rfl, hfz, hnd⟩ := hW
  have hA : DataW.TrodAll enc Try.prog W 0 (fun _ => true) true Try.f11.params.toList args.toList ds p := hA0
  rw [Try.params11] at hA hval hsz
  obtain ⟨rfl, rfl⟩ := trodVars_none hV
  clear hA0 hval0 hcnd hV hfz hnd
  obtain ⟨v0, v1, v2, d0, d1, d2, p0, p1, p2, rfl, rfl, rfl, h0, h1, h2⟩ := trodAll_three hA
  obtain ⟨k, rfl, rfl, rfl, w1⟩ := open_int Try.underlying3 (hval 0 3 v0 rfl rfl) h0
  obtain ⟨A, n, c, l, rfl, hd, hS⟩ := open_raws (hval 1 22 v1 rfl rfl) h1
  obtain ⟨r, rfl, hr⟩ := open_raw (hval 2 24 v2 rfl rfl) h2
  refine (typeTold_walk k A n c l r W hS hd (i64_bounds w1) hr (raw_reach (j := 1) h1 hsz rfl rfl)).mono fun e W' ⟨he, hb⟩ => ?_
  subst he
  exact ⟨_, rfl, post_law Try.laidOut hW' rfl (by kernel_rfl) rfl Try.underlying4 (fun _ => rfl) (fun _ => rfl) (fun _ => rfl) hb⟩
theorem typeTold_holds : Rows.TypeToldSaid := OpenClaim.holds_of_wide 11 Try.f11 rfl rfl rfl rfl rfl rfl rfl ⟨rfl, rfl, rfl, rfl, rfl⟩ rfl rfl rfl rfl rfl (by kernel_rfl) Try.func11 (by kernel_rfl)
  (of_decide_eq_true (by kernel_rfl)) (by unfold Func.isWrapper; first | (rw [if_pos (by decide +kernel)]; kernel_rfl) | (rw [if_neg (by decide +kernel)]; exact ⟨rfl, rfl⟩))
  (fun os started H enc _ => typeTold_lifted os started H enc)
#print axioms typeTold_holds
end Go.Proofs.Ytcelcanfdalliaa
