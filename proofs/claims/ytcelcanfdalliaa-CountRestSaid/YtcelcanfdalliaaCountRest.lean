/- rostrumkeep.CountRest returns true for every input and leaves its arguments as they were; no condition. -/
import Derived.Test.YtcelcanfdalliaaValLaw
import Derived.Test.YtcelcanfdalliaaDonR
namespace Go.Proofs.Ytcelcanfdalliaa
set_option linter.all false
open Go.ChangeShapes Go.WideShapes Go.ChangeAt Go.RowKit
set_option maxRecDepth 100000 in
set_option maxHeartbeats 8000000 in
theorem countRest_walk (n m : Int) (w : World) (hn : I64 n) (hm : I64 m) :
    Calls Try.prog 20 #[.int .i64 n, .int .i64 m] w fun e w' => e = .returned (.bool true) ∧ Below w.heap.size w w' := by
  have p1 := picked_lo n 1073741824 (by omega)
  have p2 := picked_hi n 1073741824 (by omega)
  have p3 := picked_lo m 1073741824 (by omega)
  have p4 := picked_hi m 1073741824 (by omega)
  have hR := fun w => picked_any n 1073741824 w hn.1 hn.2 (by omega) (by omega)
  have hR2 := fun w => picked_any m 1073741824 w hm.1 hm.2 (by omega) (by omega)
  generalize picked n 1073741824 = a at *
  generalize picked m 1073741824 = b at *
  have hD1 := fun w => Do_may zeroVa ⟨3, { data := #[107] }, { data := #[] }, { data := #[] }, a⟩ (.inl rfl) none none none 0 0 0 0 0 0 w nil_vsl
  have hD2 := fun A1 A2 A3 n1 c1 n2 c2 n3 c3 w h => Do_may ⟨2, emp, a, [], [], []⟩ ⟨3, { data := #[107] }, { data := #[] }, { data := #[] }, b⟩ (.inr (count_good (by omega) (by omega))) A1 A2 A3 n1 c1 n2 c2 n3 c3 w h
  have hD3 := fun A1 A2 A3 n1 c1 n2 c2 n3 c3 w h => Do_may ⟨2, emp, a + b, [], [], []⟩ ⟨3, { data := #[107] }, { data := #[] }, { data := #[] }, -b⟩ (.inr (count_good (by omega) (by omega))) A1 A2 A3 n1 c1 n2 c2 n3 c3 w h
  have hD4 := fun A1 A2 A3 n1 c1 n2 c2 n3 c3 w h => Do_may ⟨2, emp, a, [], [], []⟩ ⟨3, { data := #[107] }, { data := #[] }, { data := #[] }, -a⟩ (.inr (count_good (by omega) (by omega))) A1 A2 A3 n1 c1 n2 c2 n3 c3 w h
  have hK := fun A1 A2 A3 n1 c1 n2 c2 n3 c3 w h => Check_good ⟨2, emp, 0, [], [], []⟩ (count_good (by omega) (by omega)) A1 A2 A3 n1 c1 n2 c2 n3 c3 w h
  have e3 : a + b + -b = a := by omega
  have e4 : a + -a = 0 := by omega
  rw [add_first (by omega) (by omega)] at hD1
  rw [add_next (by omega) (by omega) (by omega) (by omega), if_pos (by omega)] at hD2
  rw [add_next (by omega) (by omega) (by omega) (by omega), if_pos (by omega), e3] at hD3
  rw [add_next (by omega) (by omega) (by omega) (by omega), if_pos (by omega), e4] at hD4
  simp only [toldR, emp, zeroVa] at hD1 hD2 hD3 hD4 hK
  have hw1 : IntKind.i64.wrap (-b) = -b := IntWalk.i64_in _ (by omega)
  have hw2 : IntKind.i64.wrap (-a) = -a := IntWalk.i64_in _ (by omega)
  clear e3 e4
  obtain ⟨ab, hab⟩ : ∃ ab, ab = a + b := ⟨_, rfl⟩
  rw [← hab] at hD2 hD3
  have HR := hide hR; have HR2 := hide hR2; have HD1 := hide hD1; have HD2 := hide hD2; have HD3 := hide hD3; have HD4 := hide hD4; have HK := hide hK
  clear hR hR2 hD1 hD2 hD3 hD4 hK hab
  go_enter Try.func20, Try.ntmps20
  go_wp2_with fail
  refine (HR.out _).mono ?_
  rintro e w' ⟨rfl, rfl⟩
  go_wp2_with fail
  refine (HR2.out _).mono ?_
  rintro e w' ⟨rfl, rfl⟩
  go_wp2_with fail
  have q : Below w.heap.size w w := Below.refl _ _
  refine (HD1.out _).mono ?_; rintro e w1 ⟨B11, m11, e11, B21, m21, e21, B31, m31, e31, B41, m41, e41, rfl, M1, L1, T1, hb1⟩; skip; replace q : Below w.heap.size w w1 := (by repeat (first | (with_reducible exact Below.refl _ _) | (with_reducible assumption) | (with_reducible refine Below.drew ?_) | (with_reducible refine bdrewN ?_ _) | (with_reducible refine balloc ?_ _) | ((with_reducible refine bset ?_ ?_ _); rotate_left; (focus first | exact Nat.le_refl _ | (simp; done) | (simp; omega) | omega)) | (with_reducible refine bstep ?_ (by with_reducible assumption)) | (with_reducible refine Below.trans ?_ (by with_reducible assumption)))); clear hb1
  have D1 := Blk.new w1 29 #[.int .i64 2, .string { data := #[] }, .int .i64 a, .slice B11 m11 e11, .slice B21 m21 e21, .slice B31 m31 e31]; replace M1 := M1.al (.cells #[.int .i64 2, .string { data := #[] }, .int .i64 a, .slice B11 m11 e11, .slice B21 m21 e21, .slice B31 m31 e31] 29); replace L1 := L1.al (.cells #[.int .i64 2, .string { data := #[] }, .int .i64 a, .slice B11 m11 e11, .slice B21 m21 e21, .slice B31 m31 e31] 29); have R1 : Blk ((w1.alloc (.cells #[.int .i64 2, .string { data := #[] }, .int .i64 a, .slice B11 m11 e11, .slice B21 m21 e21, .slice B31 m31 e31] 29)).alloc (.cells #[.int .i64 0, .string { data := #[] }, .int .i64 a, .slice B41 m41 e41] 37)) (w1.heap.size + 1) 37 #[.int .i64 0, .string { data := #[] }, .int .i64 a, .slice B41 m41 e41] := Blk.new' _ _ _ (by simp); replace M1 := M1.al (.cells #[.int .i64 0, .string { data := #[] }, .int .i64 a, .slice B41 m41 e41] 37); replace L1 := L1.al (.cells #[.int .i64 0, .string { data := #[] }, .int .i64 a, .slice B41 m41 e41] 37); replace D1 := D1.al (.cells #[.int .i64 0, .string { data := #[] }, .int .i64 a, .slice B41 m41 e41] 37)
  (try clear cD1 fD1); have cD1 := D1.cell; have fD1 := D1.frozen
  clear R1 T1 L1
  go_wp2_with fail
  refine (HD2.out _ _ _ _ _ _ _ _ _ _ M1).mono ?_; rintro e w2 ⟨B12, m12, e12, B22, m22, e22, B32, m32, e32, B42, m42, e42, rfl, M2, L2, T2, hb2⟩; replace D1 := D1.bl hb2; replace M1 := M1.bl hb2; replace q : Below w.heap.size w w2 := (by repeat (first | (with_reducible exact Below.refl _ _) | (with_reducible assumption) | (with_reducible refine Below.drew ?_) | (with_reducible refine bdrewN ?_ _) | (with_reducible refine balloc ?_ _) | ((with_reducible refine bset ?_ ?_ _); rotate_left; (focus first | exact Nat.le_refl _ | (simp; done) | (simp; omega) | omega)) | (with_reducible refine bstep ?_ (by with_reducible assumption)) | (with_reducible refine Below.trans ?_ (by with_reducible assumption)))); clear hb2
  have D2 := Blk.new w2 29 #[.int .i64 2, .string { data := #[] }, .int .i64 ab, .slice B12 m12 e12, .slice B22 m22 e22, .slice B32 m32 e32]; replace M2 := M2.al (.cells #[.int .i64 2, .string { data := #[] }, .int .i64 ab, .slice B12 m12 e12, .slice B22 m22 e22, .slice B32 m32 e32] 29); replace L2 := L2.al (.cells #[.int .i64 2, .string { data := #[] }, .int .i64 ab, .slice B12 m12 e12, .slice B22 m22 e22, .slice B32 m32 e32] 29); replace D1 := D1.al (.cells #[.int .i64 2, .string { data := #[] }, .int .i64 ab, .slice B12 m12 e12, .slice B22 m22 e22, .slice B32 m32 e32] 29); replace M1 := M1.al (.cells #[.int .i64 2, .string { data := #[] }, .int .i64 ab, .slice B12 m12 e12, .slice B22 m22 e22, .slice B32 m32 e32] 29); have R2 : Blk ((w2.alloc (.cells #[.int .i64 2, .string { data := #[] }, .int .i64 ab, .slice B12 m12 e12, .slice B22 m22 e22, .slice B32 m32 e32] 29)).alloc (.cells #[.int .i64 0, .string { data := #[] }, .int .i64 ab, .slice B42 m42 e42] 37)) (w2.heap.size + 1) 37 #[.int .i64 0, .string { data := #[] }, .int .i64 ab, .slice B42 m42 e42] := Blk.new' _ _ _ (by simp); replace M2 := M2.al (.cells #[.int .i64 0, .string { data := #[] }, .int .i64 ab, .slice B42 m42 e42] 37); replace L2 := L2.al (.cells #[.int .i64 0, .string { data := #[] }, .int .i64 ab, .slice B42 m42 e42] 37); replace D2 := D2.al (.cells #[.int .i64 0, .string { data := #[] }, .int .i64 ab, .slice B42 m42 e42] 37); replace D1 := D1.al (.cells #[.int .i64 0, .string { data := #[] }, .int .i64 ab, .slice B42 m42 e42] 37); replace M1 := M1.al (.cells #[.int .i64 0, .string { data := #[] }, .int .i64 ab, .slice B42 m42 e42] 37)
  clear cD1 fD1 R2 T2 L2
  (try clear cD2 fD2); have cD2 := D2.cell; have fD2 := D2.frozen
  go_wp2_with fail
  refine (HD3.out _ _ _ _ _ _ _ _ _ _ M2).mono ?_; rintro e w3 ⟨B13, m13, e13, B23, m23, e23, B33, m33, e33, B43, m43, e43, rfl, M3, L3, T3, hb3⟩; replace D1 := D1.bl hb3; replace M1 := M1.bl hb3; replace q : Below w.heap.size w w3 := (by repeat (first | (with_reducible exact Below.refl _ _) | (with_reducible assumption) | (with_reducible refine Below.drew ?_) | (with_reducible refine bdrewN ?_ _) | (with_reducible refine balloc ?_ _) | ((with_reducible refine bset ?_ ?_ _); rotate_left; (focus first | exact Nat.le_refl _ | (simp; done) | (simp; omega) | omega)) | (with_reducible refine bstep ?_ (by with_reducible assumption)) | (with_reducible refine Below.trans ?_ (by with_reducible assumption)))); clear hb3
  have D3 := Blk.new w3 29 #[.int .i64 2, .string { data := #[] }, .int .i64 a, .slice B13 m13 e13, .slice B23 m23 e23, .slice B33 m33 e33]; replace M3 := M3.al (.cells #[.int .i64 2, .string { data := #[] }, .int .i64 a, .slice B13 m13 e13, .slice B23 m23 e23, .slice B33 m33 e33] 29); replace L3 := L3.al (.cells #[.int .i64 2, .string { data := #[] }, .int .i64 a, .slice B13 m13 e13, .slice B23 m23 e23, .slice B33 m33 e33] 29); replace D1 := D1.al (.cells #[.int .i64 2, .string { data := #[] }, .int .i64 a, .slice B13 m13 e13, .slice B23 m23 e23, .slice B33 m33 e33] 29); replace M1 := M1.al (.cells #[.int .i64 2, .string { data := #[] }, .int .i64 a, .slice B13 m13 e13, .slice B23 m23 e23, .slice B33 m33 e33] 29); have R3 : Blk ((w3.alloc (.cells #[.int .i64 2, .string { data := #[] }, .int .i64 a, .slice B13 m13 e13, .slice B23 m23 e23, .slice B33 m33 e33] 29)).alloc (.cells #[.int .i64 0, .string { data := #[] }, .int .i64 a, .slice B43 m43 e43] 37)) (w3.heap.size + 1) 37 #[.int .i64 0, .string { data := #[] }, .int .i64 a, .slice B43 m43 e43] := Blk.new' _ _ _ (by simp); replace M3 := M3.al (.cells #[.int .i64 0, .string { data := #[] }, .int .i64 a, .slice B43 m43 e43] 37); replace L3 := L3.al (.cells #[.int .i64 0, .string { data := #[] }, .int .i64 a, .slice B43 m43 e43] 37); replace D3 := D3.al (.cells #[.int .i64 0, .string { data := #[] }, .int .i64 a, .slice B43 m43 e43] 37); replace D1 := D1.al (.cells #[.int .i64 0, .string { data := #[] }, .int .i64 a, .slice B43 m43 e43] 37); replace M1 := M1.al (.cells #[.int .i64 0, .string { data := #[] }, .int .i64 a, .slice B43 m43 e43] 37)
  clear cD2 fD2 T3 L3 M2 D2
  (try clear cD3 fD3); have cD3 := D3.cell; have fD3 := D3.frozen
  go_wp2_with fail
  refine (HD4.out _ _ _ _ _ _ _ _ _ _ M3).mono ?_; rintro e w4 ⟨B14, m14, e14, B24, m24, e24, B34, m34, e34, B44, m44, e44, rfl, M4, L4, T4, hb4⟩; replace D1 := D1.bl hb4; replace M1 := M1.bl hb4; replace D3 := D3.bl hb4; replace M3 := M3.bl hb4; replace R3 := R3.bl hb4; replace q : Below w.heap.size w w4 := (by repeat (first | (with_reducible exact Below.refl _ _) | (with_reducible assumption) | (with_reducible refine Below.drew ?_) | (with_reducible refine bdrewN ?_ _) | (with_reducible refine balloc ?_ _) | ((with_reducible refine bset ?_ ?_ _); rotate_left; (focus first | exact Nat.le_refl _ | (simp; done) | (simp; omega) | omega)) | (with_reducible refine bstep ?_ (by with_reducible assumption)) | (with_reducible refine Below.trans ?_ (by with_reducible assumption)))); clear hb4
  have D4 := Blk.new w4 29 #[.int .i64 2, .string { data := #[] }, .int .i64 0, .slice B14 m14 e14, .slice B24 m24 e24, .slice B34 m34 e34]; replace M4 := M4.al (.cells #[.int .i64 2, .string { data := #[] }, .int .i64 0, .slice B14 m14 e14, .slice B24 m24 e24, .slice B34 m34 e34] 29); replace L4 := L4.al (.cells #[.int .i64 2, .string { data := #[] }, .int .i64 0, .slice B14 m14 e14, .slice B24 m24 e24, .slice B34 m34 e34] 29); replace D1 := D1.al (.cells #[.int .i64 2, .string { data := #[] }, .int .i64 0, .slice B14 m14 e14, .slice B24 m24 e24, .slice B34 m34 e34] 29); replace M1 := M1.al (.cells #[.int .i64 2, .string { data := #[] }, .int .i64 0, .slice B14 m14 e14, .slice B24 m24 e24, .slice B34 m34 e34] 29); replace D3 := D3.al (.cells #[.int .i64 2, .string { data := #[] }, .int .i64 0, .slice B14 m14 e14, .slice B24 m24 e24, .slice B34 m34 e34] 29); replace M3 := M3.al (.cells #[.int .i64 2, .string { data := #[] }, .int .i64 0, .slice B14 m14 e14, .slice B24 m24 e24, .slice B34 m34 e34] 29); replace R3 := R3.al (.cells #[.int .i64 2, .string { data := #[] }, .int .i64 0, .slice B14 m14 e14, .slice B24 m24 e24, .slice B34 m34 e34] 29); have R4 : Blk ((w4.alloc (.cells #[.int .i64 2, .string { data := #[] }, .int .i64 0, .slice B14 m14 e14, .slice B24 m24 e24, .slice B34 m34 e34] 29)).alloc (.cells #[.int .i64 0, .string { data := #[] }, .int .i64 0, .slice B44 m44 e44] 37)) (w4.heap.size + 1) 37 #[.int .i64 0, .string { data := #[] }, .int .i64 0, .slice B44 m44 e44] := Blk.new' _ _ _ (by simp); replace M4 := M4.al (.cells #[.int .i64 0, .string { data := #[] }, .int .i64 0, .slice B44 m44 e44] 37); replace L4 := L4.al (.cells #[.int .i64 0, .string { data := #[] }, .int .i64 0, .slice B44 m44 e44] 37); replace D4 := D4.al (.cells #[.int .i64 0, .string { data := #[] }, .int .i64 0, .slice B44 m44 e44] 37); replace D1 := D1.al (.cells #[.int .i64 0, .string { data := #[] }, .int .i64 0, .slice B44 m44 e44] 37); replace M1 := M1.al (.cells #[.int .i64 0, .string { data := #[] }, .int .i64 0, .slice B44 m44 e44] 37); replace D3 := D3.al (.cells #[.int .i64 0, .string { data := #[] }, .int .i64 0, .slice B44 m44 e44] 37); replace M3 := M3.al (.cells #[.int .i64 0, .string { data := #[] }, .int .i64 0, .slice B44 m44 e44] 37); replace R3 := R3.al (.cells #[.int .i64 0, .string { data := #[] }, .int .i64 0, .slice B44 m44 e44] 37)
  clear cD3 fD3 T4 L4
  (try clear cD1 fD1); have cD1 := D1.cell; have fD1 := D1.frozen; (try clear cD3 fD3); have cD3 := D3.cell; have fD3 := D3.frozen; (try clear cD4 fD4); have cD4 := D4.cell; have fD4 := D4.frozen; (try clear cR3 fR3); have cR3 := R3.cell; have fR3 := R3.frozen; (try clear cR4 fR4); have cR4 := R4.cell; have fR4 := R4.frozen
  go_wp2_with fail
  refine (sameValue_eq ⟨2, emp, a, [], [], []⟩ ⟨2, emp, a, [], [], []⟩ _ _ _ _ _ _ _ _ _ _ _ _ _ _ _ _ _ _ _ M1 M3 rfl).mono ?_
  rintro e w5 ⟨rfl, hb5⟩
  replace D4 := D4.bl hb5; replace M4 := M4.bl hb5
  clear cD1 fD1 cD3 fD3 cD4 fD4 cR3 fR3 cR4 fR4
  (try clear cD4 fD4); have cD4 := D4.cell; have fD4 := D4.frozen
  go_wp2_with fail
  refine (HK.out _ _ _ _ _ _ _ _ _ _ M4).mono ?_
  rintro e w6 ⟨rfl, hb6⟩
  go_wp2_with fail
  go_ret
  exact ⟨rfl, (by repeat (first | (with_reducible exact Below.refl _ _) | (with_reducible assumption) | (with_reducible refine Below.drew ?_) | (with_reducible refine bdrewN ?_ _) | (with_reducible refine balloc ?_ _) | ((with_reducible refine bset ?_ ?_ _); rotate_left; (focus first | exact Nat.le_refl _ | (simp; done) | (simp; omega) | omega)) | (with_reducible refine bstep ?_ (by with_reducible assumption)) | (with_reducible refine Below.trans ?_ (by with_reducible assumption))))⟩
set_option maxRecDepth 100000 in
theorem countRest_lifted (os : Os) (started : os.Started) (H : Type) (enc : TypeId × Value → H) :
  ReturnsInHanded {} Try.checked os 20 .any (Rows.countRestSpec.pre6 enc Try.prog Try.f20 Rows.countRestRow.domain false) (Rows.countRestSpec.post enc Try.prog Try.f20 false true false false) := by
  refine returnsInHanded_of_change (C := Try.checked) Try.own started (by kernel_rfl) Try.func20 (ChangeSpec.witness6 (enc := enc) (C := Try.checked) false ⟨#[], #[.int .i64 0, .int .i64 0], []⟩ 8 (by kernel_rfl) (by kernel_rfl) (by kernel_rfl) (by kernel_rfl)) ?_
  intro W base args ds gs before hval0 hW hcnd _
  have hval : ∀ (j : Nat) t v, Try.f20.params[j]? = some t → args[j]? = some v → Value.okWide Try.prog W .any base t v := hval0
  have hW' := hW
  obtain ⟨p, q, hA0, hV, rfl, hfz, hnd⟩ := hW
  have hA : DataW.TrodAll enc Try.prog W 0 (fun _ => true) true Try.f20.params.toList args.toList ds p := hA0
  rw [Try.params20] at hA hval
  obtain ⟨rfl, rfl⟩ := trodVars_none hV
  clear hA0 hval0 hcnd hV hfz hnd
  obtain ⟨v0, v1, d0, d1, p0, p1, rfl, rfl, rfl, h0, h1⟩ := trodAll_two hA
  obtain ⟨k, rfl, rfl, rfl, w1⟩ := open_int Try.underlying3 (hval 0 3 v0 rfl rfl) h0
  obtain ⟨m, rfl, rfl, rfl, w2⟩ := open_int Try.underlying3 (hval 1 3 v1 rfl rfl) h1
  refine (countRest_walk k m W (i64_bounds w1) (i64_bounds w2)).mono fun e W' ⟨he, hb⟩ => ?_
  subst he
  exact ⟨_, rfl, post_law Try.laidOut hW' rfl (by kernel_rfl) rfl Try.underlying4 (fun _ => rfl) (fun _ => rfl) (fun _ => rfl) hb⟩
theorem countRest_holds : Rows.CountRestSaid := OpenClaim.holds_of_wide 20 Try.f20 rfl rfl rfl rfl rfl rfl rfl ⟨rfl, rfl, rfl, rfl, rfl⟩ rfl rfl rfl rfl rfl (by kernel_rfl) Try.func20 (by kernel_rfl)
  (of_decide_eq_true (by kernel_rfl)) (by unfold Func.isWrapper; first | (rw [if_pos (by decide +kernel)]; kernel_rfl) | (rw [if_neg (by decide +kernel)]; exact ⟨rfl, rfl⟩))
  (fun os started H enc _ => countRest_lifted os started H enc)
#print axioms countRest_holds
end Go.Proofs.Ytcelcanfdalliaa
