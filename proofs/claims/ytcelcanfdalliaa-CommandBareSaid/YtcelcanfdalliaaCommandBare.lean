/- rostrumkeep.CommandBare returns true for every input and leaves its arguments as they were; no condition. -/
import Derived.Test.YtcelcanfdalliaaValLaw
import Derived.Test.YtcelcanfdalliaaDonQ
namespace Go.Proofs.Ytcelcanfdalliaa
set_option linter.all false
open Go.ChangeShapes Go.WideShapes Go.ChangeAt Go.RowKit
theorem bare_a : ccOf ⟨2, { data := #[107] }, { data := #[] }, { data := #[120] }, 0⟩ = 8 := by unfold ccOf checkCommand; simp [bare, cmdKey, cmdField, cmdText, cmdN, Lib.toList_data]
theorem bare_b : ccOf ⟨7, { data := #[107] }, { data := #[120] }, { data := #[] }, 0⟩ = 8 := by unfold ccOf checkCommand; simp [bare, cmdKey, cmdField, cmdText, cmdN, Lib.toList_data]
theorem bare_c : ccOf ⟨6, { data := #[107] }, { data := #[102] }, { data := #[] }, 1⟩ = 8 := by unfold ccOf checkCommand; simp [bare, cmdKey, cmdField, cmdText, cmdN, Lib.toList_data]
theorem bare_d : ccOf ⟨22, { data := #[107] }, { data := #[] }, { data := #[] }, 0⟩ = 8 := by unfold ccOf checkCommand; simp [bare, cmdKey, cmdField, cmdText, cmdN, Lib.toList_data]
theorem bare_e : ccOf ⟨23, { data := #[107] }, { data := #[] }, { data := #[] }, 0⟩ = 3 := by unfold ccOf checkCommand; simp
theorem CheckC_any (c : Cmd) {k : Int} (hk : ccOf c = k) (w : World) : Calls Try.prog 33 #[.agg #[.int .i64 c.kind, .string c.key, .string c.field, .string c.text, .int .i64 c.n]] w fun e w' => e = .returned (.int .i64 k) ∧ Below w.heap.size w w' := by
  have h := CheckCommand_any c.kind c.key c.field c.text c.n w
  have e : checkCommand c.kind c.key c.field c.text c.n = k := hk
  rwa [e] at h
theorem Do_bare (c : Cmd) {k : Int} (hk : ccOf c = k) (h0 : k ≠ 0) (w : World) :
    Calls Try.prog 24 #[.agg #[.int .i64 0, .string { data := #[] }, .int .i64 0, .slice none 0 0, .slice none 0 0, .slice none 0 0], .agg #[.int .i64 c.kind, .string c.key, .string c.field, .string c.text, .int .i64 c.n]] w (DonePost (zeroVa, zeroRe, k) w) := by
  have h := Do_may zeroVa c (.inl rfl) none none none 0 0 0 0 0 0 w nil_vsl
  rw [done_cc (.inl rfl) (by rw [hk]; exact h0), hk] at h
  exact h
set_option maxRecDepth 100000 in
set_option maxHeartbeats 8000000 in
theorem commandBare_walk (r : RawD) (which : Int) (w : World) (hr : r.ok) (hwh : I64 which) :
    Calls Try.prog 17 #[.agg #[.int .i64 r.kind, .int .i64 r.key, .int .i64 r.field, .int .i64 r.n, .string r.text], .int .i64 which] w fun e w' => e = .returned (.bool true) ∧ Below w.heap.size w w' := by
  have hC := fun w => CommandR_any r hr w
  have hcc := cmdR_cc r
  generalize cmdR r = C at *
  have hK := fun w => CheckC_any C hcc w
  have p1 := picked_lo which 4 (by omega)
  have p2 := picked_hi which 4 (by omega)
  have hR := fun w => picked_any which 4 w hwh.1 hwh.2 (by omega) (by omega)
  generalize picked which 4 = p at *
  have hp : p = 0 ∨ p = 1 ∨ p = 2 ∨ p = 3 := by omega
  clear p1 p2
  obtain ⟨ck, cy, cf, ct, cn⟩ := C
  simp only [cmdV] at hC hK
  have hE := fun w => CheckC_any ⟨23, { data := #[107] }, { data := #[] }, { data := #[] }, 0⟩ bare_e w
  have HC := hide hC; have HK := hide hK; have HR := hide hR; have HE := hide hE
  clear hC hK hR hcc hr hE
  obtain ⟨rk, ry, rf, rr, rx⟩ := r
  simp only at HC HE ⊢
  have B := Blk.new w 24 #[.int .i64 rk, .int .i64 ry, .int .i64 rf, .int .i64 rr, .string rx]
  (try clear cB fB); have cB := B.cell; have fB := B.frozen
  go_enter Try.func17, Try.ntmps17
  go_wp2_with fail
  refine (HC.out _).mono ?_
  rintro e w1 ⟨rfl, hb1⟩
  have q : Below w.heap.size w w1 := (by repeat (first | (with_reducible exact Below.refl _ _) | (with_reducible assumption) | (with_reducible refine Below.drew ?_) | (with_reducible refine bdrewN ?_ _) | (with_reducible refine balloc ?_ _) | ((with_reducible refine bset ?_ ?_ _); rotate_left; (focus first | exact Nat.le_refl _ | (simp; done) | (simp; omega) | omega)) | (with_reducible refine bstep ?_ (by with_reducible assumption)) | (with_reducible refine Below.trans ?_ (by with_reducible assumption))))
  clear hb1 cB fB B
  have C := Blk.new w1 34 #[.int .i64 ck, .string cy, .string cf, .string ct, .int .i64 cn]
  (try clear cC fC); have cC := C.cell; have fC := C.frozen
  go_wp2_with fail
  refine (HK.out _).mono ?_
  rintro e w2 ⟨rfl, hb2⟩
  replace C := C.bl hb2
  replace q : Below w.heap.size w w2 := (by repeat (first | (with_reducible exact Below.refl _ _) | (with_reducible assumption) | (with_reducible refine Below.drew ?_) | (with_reducible refine bdrewN ?_ _) | (with_reducible refine balloc ?_ _) | ((with_reducible refine bset ?_ ?_ _); rotate_left; (focus first | exact Nat.le_refl _ | (simp; done) | (simp; omega) | omega)) | (with_reducible refine bstep ?_ (by with_reducible assumption)) | (with_reducible refine Below.trans ?_ (by with_reducible assumption))))
  clear hb2 cC fC
  (try clear cC fC); have cC := C.cell; have fC := C.frozen
  go_wp2_with fail
  refine (HR.out _).mono ?_
  rintro e w' ⟨rfl, rfl⟩
  clear cC fC
  rcases hp with rfl | rfl | rfl | rfl
  · have hD := fun w => Do_bare ⟨2, { data := #[107] }, { data := #[] }, { data := #[120] }, 0⟩ bare_a (by omega) w
    have hK2 := fun w => CheckC_any ⟨2, { data := #[107] }, { data := #[] }, { data := #[120] }, 0⟩ bare_a w
    simp only [zeroVa, zeroRe, emp] at hD hK2
    have HD := hide hD; have HK2 := hide hK2
    clear hD hK2
    have X := Blk.new w2 34 #[.int .i64 2, .string { data := #[107] }, .string { data := #[] }, .string { data := #[120] }, .int .i64 0]
    (try clear cX fX); have cX := X.cell; have fX := X.frozen
    go_wp2_with fail
    refine (HD.out _).mono ?_
    rintro e w3 ⟨B1, m1, e1, B2, m2, e2, B3, m3, e3, B4, m4, e4, rfl, M, L, T, hb3⟩
    replace X := X.bl hb3
    replace q : Below w.heap.size w w3 := (by repeat (first | (with_reducible exact Below.refl _ _) | (with_reducible assumption) | (with_reducible refine Below.drew ?_) | (with_reducible refine bdrewN ?_ _) | (with_reducible refine balloc ?_ _) | ((with_reducible refine bset ?_ ?_ _); rotate_left; (focus first | exact Nat.le_refl _ | (simp; done) | (simp; omega) | omega)) | (with_reducible refine bstep ?_ (by with_reducible assumption)) | (with_reducible refine Below.trans ?_ (by with_reducible assumption))))
    clear hb3 cX fX
    replace X := X.al (.cells #[.int .i64 0, .string { data := #[] }, .int .i64 0, .slice B1 m1 e1, .slice B2 m2 e2, .slice B3 m3 e3] 29)
    replace X := X.al (.cells #[.int .i64 0, .string { data := #[] }, .int .i64 0, .slice B4 m4 e4] 37)
    (try clear cX fX); have cX := X.cell; have fX := X.frozen
    go_wp2_with fail
    refine (HK2.out _).mono ?_
    rintro e w4 ⟨rfl, hb4⟩
    go_wp2_with fail
    refine (HE.out _).mono ?_
    rintro e w5 ⟨rfl, hb5⟩
    go_wp2_with fail
    go_ret
    exact ⟨rfl, (by repeat (first | (with_reducible exact Below.refl _ _) | (with_reducible assumption) | (with_reducible refine Below.drew ?_) | (with_reducible refine bdrewN ?_ _) | (with_reducible refine balloc ?_ _) | ((with_reducible refine bset ?_ ?_ _); rotate_left; (focus first | exact Nat.le_refl _ | (simp; done) | (simp; omega) | omega)) | (with_reducible refine bstep ?_ (by with_reducible assumption)) | (with_reducible refine Below.trans ?_ (by with_reducible assumption))))⟩
  · have hD := fun w => Do_bare ⟨7, { data := #[107] }, { data := #[120] }, { data := #[] }, 0⟩ bare_b (by omega) w
    have hK2 := fun w => CheckC_any ⟨7, { data := #[107] }, { data := #[120] }, { data := #[] }, 0⟩ bare_b w
    simp only [zeroVa, zeroRe, emp] at hD hK2
    have HD := hide hD; have HK2 := hide hK2
    clear hD hK2
    have X := Blk.new w2 34 #[.int .i64 7, .string { data := #[107] }, .string { data := #[120] }, .string { data := #[] }, .int .i64 0]
    (try clear cX fX); have cX := X.cell; have fX := X.frozen
    go_wp2_with fail
    refine (HD.out _).mono ?_
    rintro e w3 ⟨B1, m1, e1, B2, m2, e2, B3, m3, e3, B4, m4, e4, rfl, M, L, T, hb3⟩
    replace X := X.bl hb3
    replace q : Below w.heap.size w w3 := (by repeat (first | (with_reducible exact Below.refl _ _) | (with_reducible assumption) | (with_reducible refine Below.drew ?_) | (with_reducible refine bdrewN ?_ _) | (with_reducible refine balloc ?_ _) | ((with_reducible refine bset ?_ ?_ _); rotate_left; (focus first | exact Nat.le_refl _ | (simp; done) | (simp; omega) | omega)) | (with_reducible refine bstep ?_ (by with_reducible assumption)) | (with_reducible refine Below.trans ?_ (by with_reducible assumption))))
    clear hb3 cX fX
    replace X := X.al (.cells #[.int .i64 0, .string { data := #[] }, .int .i64 0, .slice B1 m1 e1, .slice B2 m2 e2, .slice B3 m3 e3] 29)
    replace X := X.al (.cells #[.int .i64 0, .string { data := #[] }, .int .i64 0, .slice B4 m4 e4] 37)
    (try clear cX fX); have cX := X.cell; have fX := X.frozen
    go_wp2_with fail
    refine (HK2.out _).mono ?_
    rintro e w4 ⟨rfl, hb4⟩
    go_wp2_with fail
    refine (HE.out _).mono ?_
    rintro e w5 ⟨rfl, hb5⟩
    go_wp2_with fail
    go_ret
    exact ⟨rfl, (by repeat (first | (with_reducible exact Below.refl _ _) | (with_reducible assumption) | (with_reducible refine Below.drew ?_) | (with_reducible refine bdrewN ?_ _) | (with_reducible refine balloc ?_ _) | ((with_reducible refine bset ?_ ?_ _); rotate_left; (focus first | exact Nat.le_refl _ | (simp; done) | (simp; omega) | omega)) | (with_reducible refine bstep ?_ (by with_reducible assumption)) | (with_reducible refine Below.trans ?_ (by with_reducible assumption))))⟩
  · have hD := fun w => Do_bare ⟨6, { data := #[107] }, { data := #[102] }, { data := #[] }, 1⟩ bare_c (by omega) w
    have hK2 := fun w => CheckC_any ⟨6, { data := #[107] }, { data := #[102] }, { data := #[] }, 1⟩ bare_c w
    simp only [zeroVa, zeroRe, emp] at hD hK2
    have HD := hide hD; have HK2 := hide hK2
    clear hD hK2
    have X := Blk.new w2 34 #[.int .i64 6, .string { data := #[107] }, .string { data := #[102] }, .string { data := #[] }, .int .i64 1]
    (try clear cX fX); have cX := X.cell; have fX := X.frozen
    go_wp2_with fail
    refine (HD.out _).mono ?_
    rintro e w3 ⟨B1, m1, e1, B2, m2, e2, B3, m3, e3, B4, m4, e4, rfl, M, L, T, hb3⟩
    replace X := X.bl hb3
    replace q : Below w.heap.size w w3 := (by repeat (first | (with_reducible exact Below.refl _ _) | (with_reducible assumption) | (with_reducible refine Below.drew ?_) | (with_reducible refine bdrewN ?_ _) | (with_reducible refine balloc ?_ _) | ((with_reducible refine bset ?_ ?_ _); rotate_left; (focus first | exact Nat.le_refl _ | (simp; done) | (simp; omega) | omega)) | (with_reducible refine bstep ?_ (by with_reducible assumption)) | (with_reducible refine Below.trans ?_ (by with_reducible assumption))))
    clear hb3 cX fX
    replace X := X.al (.cells #[.int .i64 0, .string { data := #[] }, .int .i64 0, .slice B1 m1 e1, .slice B2 m2 e2, .slice B3 m3 e3] 29)
    replace X := X.al (.cells #[.int .i64 0, .string { data := #[] }, .int .i64 0, .slice B4 m4 e4] 37)
    (try clear cX fX); have cX := X.cell; have fX := X.frozen
    go_wp2_with fail
    refine (HK2.out _).mono ?_
    rintro e w4 ⟨rfl, hb4⟩
    go_wp2_with fail
    refine (HE.out _).mono ?_
    rintro e w5 ⟨rfl, hb5⟩
    go_wp2_with fail
    go_ret
    exact ⟨rfl, (by repeat (first | (with_reducible exact Below.refl _ _) | (with_reducible assumption) | (with_reducible refine Below.drew ?_) | (with_reducible refine bdrewN ?_ _) | (with_reducible refine balloc ?_ _) | ((with_reducible refine bset ?_ ?_ _); rotate_left; (focus first | exact Nat.le_refl _ | (simp; done) | (simp; omega) | omega)) | (with_reducible refine bstep ?_ (by with_reducible assumption)) | (with_reducible refine Below.trans ?_ (by with_reducible assumption))))⟩
  · have hD := fun w => Do_bare ⟨22, { data := #[107] }, { data := #[] }, { data := #[] }, 0⟩ bare_d (by omega) w
    have hK2 := fun w => CheckC_any ⟨22, { data := #[107] }, { data := #[] }, { data := #[] }, 0⟩ bare_d w
    simp only [zeroVa, zeroRe, emp] at hD hK2
    have HD := hide hD; have HK2 := hide hK2
    clear hD hK2
    have X := Blk.new w2 34 #[.int .i64 22, .string { data := #[107] }, .string { data := #[] }, .string { data := #[] }, .int .i64 0]
    (try clear cX fX); have cX := X.cell; have fX := X.frozen
    go_wp2_with fail
    refine (HD.out _).mono ?_
    rintro e w3 ⟨B1, m1, e1, B2, m2, e2, B3, m3, e3, B4, m4, e4, rfl, M, L, T, hb3⟩
    replace X := X.bl hb3
    replace q : Below w.heap.size w w3 := (by repeat (first | (with_reducible exact Below.refl _ _) | (with_reducible assumption) | (with_reducible refine Below.drew ?_) | (with_reducible refine bdrewN ?_ _) | (with_reducible refine balloc ?_ _) | ((with_reducible refine bset ?_ ?_ _); rotate_left; (focus first | exact Nat.le_refl _ | (simp; done) | (simp; omega) | omega)) | (with_reducible refine bstep ?_ (by with_reducible assumption)) | (with_reducible refine Below.trans ?_ (by with_reducible assumption))))
    clear hb3 cX fX
    replace X := X.al (.cells #[.int .i64 0, .string { data := #[] }, .int .i64 0, .slice B1 m1 e1, .slice B2 m2 e2, .slice B3 m3 e3] 29)
    replace X := X.al (.cells #[.int .i64 0, .string { data := #[] }, .int .i64 0, .slice B4 m4 e4] 37)
    (try clear cX fX); have cX := X.cell; have fX := X.frozen
    go_wp2_with fail
    refine (HK2.out _).mono ?_
    rintro e w4 ⟨rfl, hb4⟩
    go_wp2_with fail
    refine (HE.out _).mono ?_
    rintro e w5 ⟨rfl, hb5⟩
    go_wp2_with fail
    go_ret
    exact ⟨rfl, (by repeat (first | (with_reducible exact Below.refl _ _) | (with_reducible assumption) | (with_reducible refine Below.drew ?_) | (with_reducible refine bdrewN ?_ _) | (with_reducible refine balloc ?_ _) | ((with_reducible refine bset ?_ ?_ _); rotate_left; (focus first | exact Nat.le_refl _ | (simp; done) | (simp; omega) | omega)) | (with_reducible refine bstep ?_ (by with_reducible assumption)) | (with_reducible refine Below.trans ?_ (by with_reducible assumption))))⟩
set_option maxRecDepth 100000 in
theorem commandBare_lifted (os : Os) (started : os.Started) (H : Type) (enc : TypeId × Value → H) :
  ReturnsInHanded {} Try.checked os 17 .any (Rows.commandBareSpec.pre6 enc Try.prog Try.f17 Rows.commandBareRow.domain false) (Rows.commandBareSpec.post enc Try.prog Try.f17 false true false false) := by
  refine returnsInHanded_of_change (C := Try.checked) Try.own started (by kernel_rfl) Try.func17 (ChangeSpec.witness6 (enc := enc) (C := Try.checked) false ⟨#[], #[.agg #[.int .i64 0, .int .i64 0, .int .i64 0, .int .i64 0, .string ByteArray.empty], .int .i64 0], []⟩ 8 (by kernel_rfl) (by kernel_rfl) (by kernel_rfl) (by kernel_rfl)) ?_
  intro W base args ds gs before hval0 hW hcnd _
  have hval : ∀ (j : Nat) t v, Try.f17.params[j]? = some t → args[j]? = some v → Value.okWide Try.prog W .any base t v := hval0
  have hW' := hW
  obtain ⟨p, q, hA0, hV, rfl, hfz, hnd⟩ := hW
  have hA : DataW.TrodAll enc Try.prog W 0 (fun _ => true) true Try.f17.params.toList args.toList ds p := hA0
  rw [Try.params17] at hA hval
  obtain ⟨rfl, rfl⟩ := trodVars_none hV
  clear hA0 hval0 hcnd hV hfz hnd
  obtain ⟨v0, v1, d0, d1, p0, p1, rfl, rfl, rfl, h0, h1⟩ := trodAll_two hA
  obtain ⟨r, rfl, hr⟩ := open_raw (hval 0 24 v0 rfl rfl) h0
  obtain ⟨k, rfl, rfl, rfl, w1⟩ := open_int Try.underlying3 (hval 1 3 v1 rfl rfl) h1
  refine (commandBare_walk r k W hr (i64_bounds w1)).mono fun e W' ⟨he, hb⟩ => ?_
  subst he
  exact ⟨_, rfl, post_law Try.laidOut hW' rfl (by kernel_rfl) rfl Try.underlying4 (fun _ => rfl) (fun _ => rfl) (fun _ => rfl) hb⟩
theorem commandBare_holds : Rows.CommandBareSaid := OpenClaim.holds_of_wide 17 Try.f17 rfl rfl rfl rfl rfl rfl rfl ⟨rfl, rfl, rfl, rfl, rfl⟩ rfl rfl rfl rfl rfl (by kernel_rfl) Try.func17 (by kernel_rfl)
  (of_decide_eq_true (by kernel_rfl)) (by unfold Func.isWrapper; first | (rw [if_pos (by decide +kernel)]; kernel_rfl) | (rw [if_neg (by decide +kernel)]; exact ⟨rfl, rfl⟩))
  (fun os started H enc _ => commandBare_lifted os started H enc)
#print axioms commandBare_holds
end Go.Proofs.Ytcelcanfdalliaa
