/- rostrumkeep.ValueMay returns true for every input and leaves its arguments as they were; no condition. -/
import Derived.Test.YtcelcanfdalliaaValLaw
namespace Go.Proofs.Ytcelcanfdalliaa
set_option linter.all false
open Go.ChangeShapes Go.WideShapes Go.ChangeAt Go.RowKit
set_option maxRecDepth 100000 in
set_option maxHeartbeats 8000000 in
theorem valueMay_walk (kind : Int) (A : Option Addr) (n c : Nat) (l : List RawD) (r : RawD) (w : World) (hS : Sl w 5 A n c (rawRows l)) (hd : ∀ d ∈ l, d.ok) (hk : I64 kind) (hr : r.ok) (hz : (n + 1) * 48 ≤ 140737488355328) :
    Calls Try.prog 3 #[.int .i64 kind, .slice A n c, .agg #[.int .i64 r.kind, .int .i64 r.key, .int .i64 r.field, .int .i64 r.n, .string r.text]] w fun e w' => e = .returned (.bool true) ∧ Below w.heap.size w w' := by
  have hF := fun w h => full_any kind A n c l w h hd hk hz
  have hG := (fullOf_good kind l).1
  have hC := fun w => CommandR_any r hr w
  have hcc := cmdR_cc r
  have hin := cmdR_in r
  generalize fullOf kind l = V at *
  generalize cmdR r = C at *
  have hD := fun A1 A2 A3 n1 c1 n2 c2 n3 c3 w h => Do_may V C (.inr hG) A1 A2 A3 n1 c1 n2 c2 n3 c3 w h
  have hK := fun A1 A2 A3 n1 c1 n2 c2 n3 c3 w h => Check_good V hG A1 A2 A3 n1 c1 n2 c2 n3 c3 w h
  have hcase : (18 < C.kind ∧ (doneVal V C).1.kind = 0 ∧ (doneVal V C).2.2 = 3) ∨ (¬ 18 < C.kind ∧ (doneVal V C).2.2 = 0 ∧ (doneVal V C).1 = zeroVa) ∨ (¬ 18 < C.kind ∧ (doneVal V C).2.2 = 0 ∧ Good (doneVal V C).1) := by
    by_cases h : 18 < C.kind
    · rw [done_over (.inr hG) hcc h]; exact .inl ⟨h, rfl, rfl⟩
    · have he := done_e (.inr hG) hcc (show C.kind ≤ 18 by omega)
      rcases done_may (.inr hG) C with h1 | h1
      · exact .inr (.inl ⟨h, he, h1⟩)
      · exact .inr (.inr ⟨h, he, h1⟩)
  generalize doneVal V C = D at *
  obtain ⟨vk, vt, vc, ps, is_, ss⟩ := V
  obtain ⟨ck, cy, cf, ct, cn⟩ := C
  obtain ⟨⟨dk, dt, dc, dps, dis, dss⟩, ⟨rc, rt, rn, rl⟩, de⟩ := D
  simp only [cmdV] at hC hD hK hcase hin
  have HF := hide hF; have HC := hide hC; have HD := hide hD; have HK := hide hK; have HCA := hide hcase
  clear hF hC hD hK hcase hd hG hcc hr
  obtain ⟨rk, ry, rf, rr, rx⟩ := r
  simp only at HC ⊢
  have B := Blk.new w 24 #[.int .i64 rk, .int .i64 ry, .int .i64 rf, .int .i64 rr, .string rx]
  go_enter Try.func3, Try.ntmps3
  go_wp2_with fail
  refine (HF.out _ (hS.al _)).mono ?_
  rintro e w1 ⟨A1, n1, c1, A2, n2, c2, A3, n3, c3, rfl, N, T, hb1⟩
  have q : Below w.heap.size w w1 := (by repeat (first | (with_reducible exact Below.refl _ _) | (with_reducible assumption) | (with_reducible refine Below.drew ?_) | (with_reducible refine bdrewN ?_ _) | (with_reducible refine balloc ?_ _) | ((with_reducible refine bset ?_ ?_ _); rotate_left; (focus first | exact Nat.le_refl _ | (simp; done) | (simp; omega) | omega)) | (with_reducible refine bstep ?_ (by with_reducible assumption)) | (with_reducible refine Below.trans ?_ (by with_reducible assumption))))
  replace B := B.bl hb1
  clear T hb1
  have V := Blk.new w1 29 #[.int .i64 vk, .string vt, .int .i64 vc, .slice A1 n1 c1, .slice A2 n2 c2, .slice A3 n3 c3]
  replace N := N.al (.cells #[.int .i64 vk, .string vt, .int .i64 vc, .slice A1 n1 c1, .slice A2 n2 c2, .slice A3 n3 c3] 29); replace B := B.al (.cells #[.int .i64 vk, .string vt, .int .i64 vc, .slice A1 n1 c1, .slice A2 n2 c2, .slice A3 n3 c3] 29)
  (try clear cV fV); have cV := V.cell; have fV := V.frozen; (try clear cB fB); have cB := B.cell; have fB := B.frozen
  go_wp2_with fail
  refine (HK.out _ _ _ _ _ _ _ _ _ _ N).mono ?_
  rintro e w2 ⟨rfl, hb2⟩
  replace V := V.bl hb2; replace N := N.bl hb2; replace B := B.bl hb2
  replace q : Below w.heap.size w w2 := (by repeat (first | (with_reducible exact Below.refl _ _) | (with_reducible assumption) | (with_reducible refine Below.drew ?_) | (with_reducible refine bdrewN ?_ _) | (with_reducible refine balloc ?_ _) | ((with_reducible refine bset ?_ ?_ _); rotate_left; (focus first | exact Nat.le_refl _ | (simp; done) | (simp; omega) | omega)) | (with_reducible refine bstep ?_ (by with_reducible assumption)) | (with_reducible refine Below.trans ?_ (by with_reducible assumption))))
  clear hb2
  (try clear cV fV); have cV := V.cell; have fV := V.frozen; (try clear cB fB); have cB := B.cell; have fB := B.frozen
  go_wp2_with fail
  refine (HC.out _).mono ?_
  rintro e w3 ⟨rfl, hb3⟩
  replace V := V.bl hb3; replace N := N.bl hb3
  replace q : Below w.heap.size w w3 := (by repeat (first | (with_reducible exact Below.refl _ _) | (with_reducible assumption) | (with_reducible refine Below.drew ?_) | (with_reducible refine bdrewN ?_ _) | (with_reducible refine balloc ?_ _) | ((with_reducible refine bset ?_ ?_ _); rotate_left; (focus first | exact Nat.le_refl _ | (simp; done) | (simp; omega) | omega)) | (with_reducible refine bstep ?_ (by with_reducible assumption)) | (with_reducible refine Below.trans ?_ (by with_reducible assumption))))
  clear hb3 cB fB B cV fV
  have C := Blk.new w3 34 #[.int .i64 ck, .string cy, .string cf, .string ct, .int .i64 cn]
  replace V := V.al (.cells #[.int .i64 ck, .string cy, .string cf, .string ct, .int .i64 cn] 34); replace N := N.al (.cells #[.int .i64 ck, .string cy, .string cf, .string ct, .int .i64 cn] 34)
  (try clear cV fV); have cV := V.cell; have fV := V.frozen; (try clear cC fC); have cC := C.cell; have fC := C.frozen
  go_wp2_with fail
  refine (HD.out _ _ _ _ _ _ _ _ _ _ N).mono ?_
  rintro e w4 ⟨B1, m1, e1, B2, m2, e2, B3, m3, e3, B4, m4, e4, rfl, M, L, T, hb4⟩
  replace C := C.bl hb4
  replace q : Below w.heap.size w w4 := (by repeat (first | (with_reducible exact Below.refl _ _) | (with_reducible assumption) | (with_reducible refine Below.drew ?_) | (with_reducible refine bdrewN ?_ _) | (with_reducible refine balloc ?_ _) | ((with_reducible refine bset ?_ ?_ _); rotate_left; (focus first | exact Nat.le_refl _ | (simp; done) | (simp; omega) | omega)) | (with_reducible refine bstep ?_ (by with_reducible assumption)) | (with_reducible refine Below.trans ?_ (by with_reducible assumption))))
  clear cV fV cC fC V N L T hb4
  have D := Blk.new w4 29 #[.int .i64 dk, .string dt, .int .i64 dc, .slice B1 m1 e1, .slice B2 m2 e2, .slice B3 m3 e3]
  replace M := M.al (.cells #[.int .i64 dk, .string dt, .int .i64 dc, .slice B1 m1 e1, .slice B2 m2 e2, .slice B3 m3 e3] 29); replace C := C.al (.cells #[.int .i64 dk, .string dt, .int .i64 dc, .slice B1 m1 e1, .slice B2 m2 e2, .slice B3 m3 e3] 29)
  replace D := D.al (.cells #[.int .i64 rc, .string rt, .int .i64 rn, .slice B4 m4 e4] 37)
  replace M := M.al (.cells #[.int .i64 rc, .string rt, .int .i64 rn, .slice B4 m4 e4] 37); replace C := C.al (.cells #[.int .i64 rc, .string rt, .int .i64 rn, .slice B4 m4 e4] 37)
  (try clear cC fC); have cC := C.cell; have fC := C.frozen; (try clear cD fD); have cD := D.cell; have fD := D.frozen
  rcases HCA.out with ⟨h1, rfl, rfl⟩ | ⟨h1, rfl, h2⟩ | ⟨h1, rfl, h2⟩
  · go_wp2_with fail
    go_ret
    exact ⟨rfl, (by repeat (first | (with_reducible exact Below.refl _ _) | (with_reducible assumption) | (with_reducible refine Below.drew ?_) | (with_reducible refine bdrewN ?_ _) | (with_reducible refine balloc ?_ _) | ((with_reducible refine bset ?_ ?_ _); rotate_left; (focus first | exact Nat.le_refl _ | (simp; done) | (simp; omega) | omega)) | (with_reducible refine bstep ?_ (by with_reducible assumption)) | (with_reducible refine Below.trans ?_ (by with_reducible assumption))))⟩
  · injection h2 with a1 a2 a3 a4 a5 a6
    subst a1; subst a2; subst a3; subst a4; subst a5; subst a6
    go_wp2_with fail
    refine (sameValue_eq ⟨0, emp, 0, [], [], []⟩ ⟨0, { data := #[] }, 0, [], [], []⟩ _ _ _ _ _ _ _ _ _ _ _ _ _ _ _ _ _ _ _ M nil_vsl rfl).mono ?_
    rintro e w5 ⟨rfl, hb5⟩
    go_wp2_with fail
    go_ret
    exact ⟨rfl, (by repeat (first | (with_reducible exact Below.refl _ _) | (with_reducible assumption) | (with_reducible refine Below.drew ?_) | (with_reducible refine bdrewN ?_ _) | (with_reducible refine balloc ?_ _) | ((with_reducible refine bset ?_ ?_ _); rotate_left; (focus first | exact Nat.le_refl _ | (simp; done) | (simp; omega) | omega)) | (with_reducible refine bstep ?_ (by with_reducible assumption)) | (with_reducible refine Below.trans ?_ (by with_reducible assumption))))⟩
  · have hk0 : (dk == 0) = false := by have := h2.k1; rw [beq_eq_false_iff_ne]; simp only at this; omega
    go_wp2_with fail
    refine (Check_good _ h2 _ _ _ _ _ _ _ _ _ _ M).mono ?_
    rintro e w5 ⟨rfl, hb5⟩
    go_wp2_with fail
    go_ret
    exact ⟨rfl, (by repeat (first | (with_reducible exact Below.refl _ _) | (with_reducible assumption) | (with_reducible refine Below.drew ?_) | (with_reducible refine bdrewN ?_ _) | (with_reducible refine balloc ?_ _) | ((with_reducible refine bset ?_ ?_ _); rotate_left; (focus first | exact Nat.le_refl _ | (simp; done) | (simp; omega) | omega)) | (with_reducible refine bstep ?_ (by with_reducible assumption)) | (with_reducible refine Below.trans ?_ (by with_reducible assumption))))⟩
set_option maxRecDepth 100000 in
theorem valueMay_lifted (os : Os) (started : os.Started) (H : Type) (enc : TypeId × Value → H) :
  ReturnsInHanded {} Try.checked os 3 .any (Rows.valueMaySpec.pre6 enc Try.prog Try.f3 Rows.valueMayRow.domain false) (Rows.valueMaySpec.post enc Try.prog Try.f3 false true false false) := by
  refine returnsInHanded_of_change_sized (C := Try.checked) Try.own started (by kernel_rfl) Try.func3 (ChangeSpec.witness6 (enc := enc) (C := Try.checked) false ⟨#[], #[.int .i64 0, .slice none 0 0, .agg #[.int .i64 0, .int .i64 0, .int .i64 0, .int .i64 0, .string ByteArray.empty]], []⟩ 8 (by kernel_rfl) (by kernel_rfl) (by kernel_rfl) (by kernel_rfl)) ?_
  intro W base args ds gs before hval0 hW hcnd hsz0 _
  have hsz : (DataW.weightsEach Try.prog (Try.f3.params.toList ++ Rows.valueMaySpec.plain.varTypes Try.prog) (ds ++ gs)).all (· ≤ reachBytes) = true := hsz0
  clear hsz0
  have hval : ∀ (j : Nat) t v, Try.f3.params[j]? = some t → args[j]? = some v → Value.okWide Try.prog W .any base t v := hval0
  have hW' := hW
  obtain ⟨p, q, hA0, hV, rfl, hfz, hnd⟩ := hW
  have hA : DataW.TrodAll enc Try.prog W 0 (fun _ => true) true Try.f3.params.toList args.toList ds p := hA0
  rw [Try.params3] at hA hval hsz
  obtain ⟨rfl, rfl⟩ := trodVars_none hV
  clear hA0 hval0 hcnd hV hfz hnd
  obtain ⟨v0, v1, v2, d0, d1, d2, p0, p1, p2, rfl, rfl, rfl, h0, h1, h2⟩ := trodAll_three hA
  obtain ⟨k, rfl, rfl, rfl, w1⟩ := open_int Try.underlying3 (hval 0 3 v0 rfl rfl) h0
  obtain ⟨A, n, c, l, rfl, hd, hS⟩ := open_raws (hval 1 22 v1 rfl rfl) h1
  obtain ⟨r, rfl, hr⟩ := open_raw (hval 2 24 v2 rfl rfl) h2
  refine (valueMay_walk k A n c l r W hS hd (i64_bounds w1) hr (raw_reach (j := 1) h1 hsz rfl rfl)).mono fun e W' ⟨he, hb⟩ => ?_
  subst he
  exact ⟨_, rfl, post_law Try.laidOut hW' rfl (by kernel_rfl) rfl Try.underlying4 (fun _ => rfl) (fun _ => rfl) (fun _ => rfl) hb⟩
theorem valueMay_holds : Rows.ValueMaySaid := OpenClaim.holds_of_wide 3 Try.f3 rfl rfl rfl rfl rfl rfl rfl ⟨rfl, rfl, rfl, rfl, rfl⟩ rfl rfl rfl rfl rfl (by kernel_rfl) Try.func3 (by kernel_rfl)
  (of_decide_eq_true (by kernel_rfl)) (by unfold Func.isWrapper; first | (rw [if_pos (by decide +kernel)]; kernel_rfl) | (rw [if_neg (by decide +kernel)]; exact ⟨rfl, rfl⟩))
  (fun os started H enc _ => valueMay_lifted os started H enc)
#print axioms valueMay_holds
end Go.Proofs.Ytcelcanfdalliaa
