/- rostrumkeep.NoneTold returns true for every input and leaves its arguments as they were; no condition. -/
import Derived.Test.YtcelcanfdalliaaValLaw
import Derived.Test.YtcelcanfdalliaaDonQ
namespace Go.Proofs.Ytcelcanfdalliaa
set_option linter.all false
open Go.ChangeShapes Go.WideShapes Go.ChangeAt Go.RowKit
set_option maxRecDepth 100000 in
set_option maxHeartbeats 8000000 in
theorem noneTold_walk (r : RawD) (w : World) (hr : r.ok) :
    Calls Try.prog 12 #[.agg #[.int .i64 r.kind, .int .i64 r.key, .int .i64 r.field, .int .i64 r.n, .string r.text]] w fun e w' => e = .returned (.bool true) ∧ Below w.heap.size w w' := by
  have hC := fun w => CommandR_any r hr w
  have hcc := cmdR_cc r
  have hin := cmdR_in r
  generalize cmdR r = C at *
  have hD := fun w => Do_may zeroVa C (.inl rfl) none none none 0 0 0 0 0 0 w nil_vsl
  have hcase : (18 < C.kind ∧ (doneVal zeroVa C).1.kind = 0 ∧ (doneVal zeroVa C).2.2 = 3) ∨ (¬ 18 < C.kind ∧ makesC C.kind = false ∧ (doneVal zeroVa C).2.2 = 0 ∧ (doneVal zeroVa C).1.kind = 0 ∧ (doneVal zeroVa C).2.1.code = 5) ∨
      (¬ 18 < C.kind ∧ makesC C.kind = true ∧ (doneVal zeroVa C).2.2 = 0 ∧ 1 ≤ (doneVal zeroVa C).1.kind ∧ (doneVal zeroVa C).2.1.code = 0) := by
    by_cases h : 18 < C.kind
    · rw [done_over (.inl rfl) hcc h]; exact .inl ⟨h, rfl, rfl⟩
    · cases hm : makesC C.kind with
      | false =>
        rw [done_none hcc (by omega) hm]
        exact .inr (.inl ⟨h, rfl, rfl, rfl, rfl⟩)
      | true =>
        obtain ⟨a, b, d⟩ := done_made hcc hm
        exact .inr (.inr ⟨h, rfl, a, b.k1, d⟩)
  generalize doneVal zeroVa C = D at *
  obtain ⟨ck, cy, cf, ct, cn⟩ := C
  obtain ⟨⟨dk, dt, dc, dps, dis, dss⟩, ⟨rc, rt, rn, rl⟩, de⟩ := D
  simp only [cmdV, zeroVa, emp] at hC hD hcase hin
  have HC := hide hC; have HD := hide hD; have HCA := hide hcase
  clear hC hD hcase hcc hr
  obtain ⟨rk, ry, rf, rr, rx⟩ := r
  simp only at HC ⊢
  have B := Blk.new w 24 #[.int .i64 rk, .int .i64 ry, .int .i64 rf, .int .i64 rr, .string rx]
  (try clear cB fB); have cB := B.cell; have fB := B.frozen
  go_enter Try.func12, Try.ntmps12
  go_wp2_with fail
  refine (HC.out _).mono ?_
  rintro e w1 ⟨rfl, hb1⟩
  have q : Below w.heap.size w w1 := (by repeat (first | (with_reducible exact Below.refl _ _) | (with_reducible assumption) | (with_reducible refine Below.drew ?_) | (with_reducible refine bdrewN ?_ _) | (with_reducible refine balloc ?_ _) | ((with_reducible refine bset ?_ ?_ _); rotate_left; (focus first | exact Nat.le_refl _ | (simp; done) | (simp; omega) | omega)) | (with_reducible refine bstep ?_ (by with_reducible assumption)) | (with_reducible refine Below.trans ?_ (by with_reducible assumption))))
  clear hb1 cB fB B
  have C := Blk.new w1 34 #[.int .i64 ck, .string cy, .string cf, .string ct, .int .i64 cn]
  (try clear cC fC); have cC := C.cell; have fC := C.frozen
  go_wp2_with fail
  refine (HD.out _).mono ?_; rintro e w2 ⟨B11, m11, e11, B21, m21, e21, B31, m31, e31, B41, m41, e41, rfl, M1, L1, T1, hb1⟩; replace C := C.bl hb1; replace q : Below w.heap.size w w2 := (by repeat (first | (with_reducible exact Below.refl _ _) | (with_reducible assumption) | (with_reducible refine Below.drew ?_) | (with_reducible refine bdrewN ?_ _) | (with_reducible refine balloc ?_ _) | ((with_reducible refine bset ?_ ?_ _); rotate_left; (focus first | exact Nat.le_refl _ | (simp; done) | (simp; omega) | omega)) | (with_reducible refine bstep ?_ (by with_reducible assumption)) | (with_reducible refine Below.trans ?_ (by with_reducible assumption)))); clear hb1
  clear cC fC T1
  have D1 := Blk.new w2 29 #[.int .i64 dk, .string dt, .int .i64 dc, .slice B11 m11 e11, .slice B21 m21 e21, .slice B31 m31 e31]; replace M1 := M1.al (.cells #[.int .i64 dk, .string dt, .int .i64 dc, .slice B11 m11 e11, .slice B21 m21 e21, .slice B31 m31 e31] 29); replace L1 := L1.al (.cells #[.int .i64 dk, .string dt, .int .i64 dc, .slice B11 m11 e11, .slice B21 m21 e21, .slice B31 m31 e31] 29); replace C := C.al (.cells #[.int .i64 dk, .string dt, .int .i64 dc, .slice B11 m11 e11, .slice B21 m21 e21, .slice B31 m31 e31] 29); have R1 : Blk ((w2.alloc (.cells #[.int .i64 dk, .string dt, .int .i64 dc, .slice B11 m11 e11, .slice B21 m21 e21, .slice B31 m31 e31] 29)).alloc (.cells #[.int .i64 rc, .string rt, .int .i64 rn, .slice B41 m41 e41] 37)) (w2.heap.size + 1) 37 #[.int .i64 rc, .string rt, .int .i64 rn, .slice B41 m41 e41] := Blk.new' _ _ _ (by simp); replace M1 := M1.al (.cells #[.int .i64 rc, .string rt, .int .i64 rn, .slice B41 m41 e41] 37); replace L1 := L1.al (.cells #[.int .i64 rc, .string rt, .int .i64 rn, .slice B41 m41 e41] 37); replace D1 := D1.al (.cells #[.int .i64 rc, .string rt, .int .i64 rn, .slice B41 m41 e41] 37); replace C := C.al (.cells #[.int .i64 rc, .string rt, .int .i64 rn, .slice B41 m41 e41] 37)
  (try clear cC fC); have cC := C.cell; have fC := C.frozen; (try clear cD1 fD1); have cD1 := D1.cell; have fD1 := D1.frozen; (try clear cR1 fR1); have cR1 := R1.cell; have fR1 := R1.frozen
  clear M1 L1
  rcases HCA.out with ⟨h1, rfl, rfl⟩ | ⟨h1, hm, rfl, rfl, rfl⟩ | ⟨h1, hm, rfl, hd, rfl⟩
  · go_wp2_with fail
    go_ret
    exact ⟨rfl, (by repeat (first | (with_reducible exact Below.refl _ _) | (with_reducible assumption) | (with_reducible refine Below.drew ?_) | (with_reducible refine bdrewN ?_ _) | (with_reducible refine balloc ?_ _) | ((with_reducible refine bset ?_ ?_ _); rotate_left; (focus first | exact Nat.le_refl _ | (simp; done) | (simp; omega) | omega)) | (with_reducible refine bstep ?_ (by with_reducible assumption)) | (with_reducible refine Below.trans ?_ (by with_reducible assumption))))⟩
  · unfold makesC at hm
    simp only [Bool.or_eq_false_iff] at hm
    obtain ⟨⟨⟨⟨⟨⟨m1, m2⟩, m3⟩, m4⟩, m5⟩, m6⟩, m7⟩ := hm
    go_wp2_with fail
    go_ret
    exact ⟨rfl, (by repeat (first | (with_reducible exact Below.refl _ _) | (with_reducible assumption) | (with_reducible refine Below.drew ?_) | (with_reducible refine bdrewN ?_ _) | (with_reducible refine balloc ?_ _) | ((with_reducible refine bset ?_ ?_ _); rotate_left; (focus first | exact Nat.le_refl _ | (simp; done) | (simp; omega) | omega)) | (with_reducible refine bstep ?_ (by with_reducible assumption)) | (with_reducible refine Below.trans ?_ (by with_reducible assumption))))⟩
  · have hk0 : (dk != 0) = true := by rw [bne_iff_ne]; omega
    unfold makesC at hm
    simp only [Bool.or_eq_true, beq_iff_eq] at hm
    rcases hm with (((((rfl | rfl) | rfl) | rfl) | rfl) | rfl) | rfl
    all_goals go_wp2_with fail
    all_goals go_ret
    all_goals exact ⟨rfl, (by repeat (first | (with_reducible exact Below.refl _ _) | (with_reducible assumption) | (with_reducible refine Below.drew ?_) | (with_reducible refine bdrewN ?_ _) | (with_reducible refine balloc ?_ _) | ((with_reducible refine bset ?_ ?_ _); rotate_left; (focus first | exact Nat.le_refl _ | (simp; done) | (simp; omega) | omega)) | (with_reducible refine bstep ?_ (by with_reducible assumption)) | (with_reducible refine Below.trans ?_ (by with_reducible assumption))))⟩
set_option maxRecDepth 100000 in
theorem noneTold_lifted (os : Os) (started : os.Started) (H : Type) (enc : TypeId × Value → H) :
  ReturnsInHanded {} Try.checked os 12 .any (Rows.noneToldSpec.pre6 enc Try.prog Try.f12 Rows.noneToldRow.domain false) (Rows.noneToldSpec.post enc Try.prog Try.f12 false true false false) := by
  refine returnsInHanded_of_change (C := Try.checked) Try.own started (by kernel_rfl) Try.func12 (ChangeSpec.witness6 (enc := enc) (C := Try.checked) false ⟨#[], #[.agg #[.int .i64 0, .int .i64 0, .int .i64 0, .int .i64 0, .string ByteArray.empty]], []⟩ 8 (by kernel_rfl) (by kernel_rfl) (by kernel_rfl) (by kernel_rfl)) ?_
  intro W base args ds gs before hval0 hW hcnd _
  have hval : ∀ (j : Nat) t v, Try.f12.params[j]? = some t → args[j]? = some v → Value.okWide Try.prog W .any base t v := hval0
  have hW' := hW
  obtain ⟨p, q, hA0, hV, rfl, hfz, hnd⟩ := hW
  have hA : DataW.TrodAll enc Try.prog W 0 (fun _ => true) true Try.f12.params.toList args.toList ds p := hA0
  rw [Try.params12] at hA hval
  obtain ⟨rfl, rfl⟩ := trodVars_none hV
  clear hA0 hval0 hcnd hV hfz hnd
  obtain ⟨v0, d0, rfl, rfl, h0⟩ := trodAll_one hA
  obtain ⟨r, rfl, hr⟩ := open_raw (hval 0 24 v0 rfl rfl) h0
  refine (noneTold_walk r W hr).mono fun e W' ⟨he, hb⟩ => ?_
  subst he
  exact ⟨_, rfl, post_law Try.laidOut hW' rfl (by kernel_rfl) rfl Try.underlying4 (fun _ => rfl) (fun _ => rfl) (fun _ => rfl) hb⟩
theorem noneTold_holds : Rows.NoneToldSaid := OpenClaim.holds_of_wide 12 Try.f12 rfl rfl rfl rfl rfl rfl rfl ⟨rfl, rfl, rfl, rfl, rfl⟩ rfl rfl rfl rfl rfl (by kernel_rfl) Try.func12 (by kernel_rfl)
  (of_decide_eq_true (by kernel_rfl)) (by unfold Func.isWrapper; first | (rw [if_pos (by decide +kernel)]; kernel_rfl) | (rw [if_neg (by decide +kernel)]; exact ⟨rfl, rfl⟩))
  (fun os started H enc _ => noneTold_lifted os started H enc)
#print axioms noneTold_holds
end Go.Proofs.Ytcelcanfdalliaa
