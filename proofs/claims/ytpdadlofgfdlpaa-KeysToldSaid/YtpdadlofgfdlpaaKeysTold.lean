/- rostrumkeep.KeysTold returns true for every input; no condition. -/
import Derived.Test.YtpdadlofgfdlpaaStoT
import Derived.BigQuiet
namespace Go.Proofs.Ytpdadlofgfdlpaa
set_option linter.all false
open Go.ChangeShapes Go.WideShapes Go.ChangeAt Go.RowKit
set_option maxRecDepth 100000 in
set_option maxHeartbeats 8000000 in
theorem keysTold_walk (A : Option Addr) (n c : Nat) (l : List StepD) (w : World) (hS : Sl w 6 A n c (stepRows l)) (hd : ∀ d ∈ l, d.ok) :
    Calls Try.prog 11 #[.slice A n c] w fun e w' => e = .returned (.bool true) ∧ Below w.heap.size w w' := by
  have hnl := step_len hS
  have hcm := hS.cm
  have hnc := hS.nc
  unfold maxLen at hcm
  subst hnl
  obtain ⟨J, hJ⟩ : ∃ J, J = min l.length 39 := ⟨_, rfl⟩
  have hJl : J ≤ l.length := by omega
  have hJ39 : J ≤ 39 := by omega
  have hif : min (l.length : Int) 39 = (J : Int) := by omega
  have hif2 : (if (39 : Int) < (l.length : Int) then (39 : Int) else (l.length : Int)) = (J : Int) := by split <;> omega
  have hS' := hS.take J hJl c (by omega) (Nat.le_refl _)
  have hst : (stepRows l).take J = stepRows (l.take J) := by simp [stepRows]
  rw [hst] at hS'
  have hsl := fun w => run_take Try.underlying55 step_size A l.length c J (by omega) w
  have hd' : ∀ d ∈ l.take J ++ [putStep], d.ok := fun d hm => by
    rcases List.mem_append.1 hm with hm | hm
    · exact hd d (List.mem_of_mem_take hm)
    · rw [List.mem_singleton] at hm; subst hm; exact putStep_ok
  have hlt : (l.take J).length = J := by rw [List.length_take]; omega
  have hF := fun A n c w (h : Sl w 6 A n c (stepRows (l.take J) ++ [putStep.cells])) => Store_any A n c (l.take J ++ [putStep]) w (step_app _ _ ▸ h) hd'
  obtain ⟨ok, hn, hpos⟩ := store_put (l.take J) (by omega)
  have hone := step_one (l.take J)
  have hrl : (stepRows (l.take J)).length = J := by simp [stepRows]; omega
  clear hst hJ hd
  generalize storeOf (l.take J ++ [putStep]) = s at *
  generalize stepRows (l.take J) = sr at *
  obtain ⟨now, es⟩ := s
  simp only at ok hn hpos
  have h0 := ok.now0
  have KF := hide hF
  clear hF hd' hlt
  obtain ⟨NE, hNE⟩ : ∃ NE, NE = es.length := ⟨_, rfl⟩
  have hap := apply_keys ok (Int.le_refl now) (by omega)
  rw [alive_self ok] at hap
  have K1 := hide (Apply_may ok _ _ _ hap h0 (by omega))
  have KS := hide (fun A B n m c d w (ha : St w A n c es) (hb : St w B m d es) => sameStore_eq now A B n m c d es w ha hb (by have := ok.few; omega))
  have hpos' : ((NE : Int) == 0) = false := by rw [beq_eq_false_iff_ne]; omega
  have HR := hide ok.rise
  have h12 : NE ≤ 12 := by have := ok.few; omega
  have hkl : (es.map En.key).length = NE := by rw [List.length_map]; exact hNE.symm
  have HNE := hide hNE; have HKL := hide hkl
  clear hap ok hNE hkl
  go_enter Try.func11, Try.ntmps11
  go_wp2_with (at_builtin; refine wpList_pushes rfl _ _ _ rfl Try.underlying55 step_info rfl (by decide) (base := w.heap.size) (rows := []) rfl ?ho rfl ?hs hone ?h63 ?hby ?hba ?hk)
  try (case ho => exact Own.nil)
  try (case hs => exact hS')
  try (case h63 => first | (simp [maxLen]; omega) | (unfold maxLen; omega))
  try (case hby => first | omega | (simp; omega))
  try (case hba => simp)
  case hk =>
  intro P1 p1 r1 w1 O1 hb1
  try simp only [List.nil_append] at O1
  have hq1 := hb1.size
  
  go_wp2_with (at_builtin; refine wpList_pushes rfl _ _ _ rfl Try.underlying55 step_info rfl (by decide) (base := w.heap.size) (rows := sr) rfl ?ho2 rfl ?hs2 (one_step putStep) ?h632 ?hby2 ?hba2 ?hk2)
  try (case ho2 => exact O1.al _)
  try (case hs2 => exact Sl.of_blk (rows := [putStep.cells]) (Blk.new' _ _ _ (by simp)) rfl (by intro r hr; rw [List.mem_singleton] at hr; subst hr; rfl) rfl (by simp [maxLen]))
  try (case h632 => first | (simp [maxLen]; omega) | (unfold maxLen; omega))
  try (case hby2 => first | omega | (simp; omega))
  try (case hba2 => first | omega | (simp; omega))
  case hk2 =>
  intro P2 p2 r2 w2 O2 hb2
  replace KF := hide (KF.out _ _ _ w2 O2.sl')
  have q2 : Below w.heap.size w w2 := (by repeat (first | (with_reducible exact Below.refl _ _) | (with_reducible assumption) | (with_reducible refine Below.drew ?_) | (with_reducible refine bdrewN ?_ _) | (with_reducible refine balloc ?_ _) | ((with_reducible refine bset ?_ ?_ _); rotate_left; (focus first | exact Nat.le_refl _ | (simp; done) | (simp; omega) | omega)) | (with_reducible refine bstep ?_ (by with_reducible assumption)) | (with_reducible refine Below.trans ?_ (by with_reducible assumption))))
  have hq2 := q2.size
  clear O1 O2 hb1 hb2
  go_wp2_with fail
  refine KF.out.mono ?_
  rintro e w3 ⟨A1, n1, c1, rfl, M1, hb3⟩
  have q : Below w.heap.size w w3 := (by repeat (first | (with_reducible exact Below.refl _ _) | (with_reducible assumption) | (with_reducible refine Below.drew ?_) | (with_reducible refine bdrewN ?_ _) | (with_reducible refine balloc ?_ _) | ((with_reducible refine bset ?_ ?_ _); rotate_left; (focus first | exact Nat.le_refl _ | (simp; done) | (simp; omega) | omega)) | (with_reducible refine bstep ?_ (by with_reducible assumption)) | (with_reducible refine Below.trans ?_ (by with_reducible assumption))))
  clear hb3 q2 KF
  have D1 := Blk.new w3 25 #[.int .i64 (now), .slice A1 n1 c1]
  replace M1 := M1.al (.cells #[.int .i64 (now), .slice A1 n1 c1] 25)
  (try clear cD1 fD1); have cD1 := D1.cell; have fD1 := D1.frozen
  go_wp2_with fail
  refine (K1.out _ _ _ _ M1).mono ?_; rintro e w4 ⟨A2, n2, c2, Y2, m2, d2, rfl, M2, L2, T2, hb2⟩; replace M1 := M1.bl hb2; replace D1 := D1.bl hb2; replace q : Below w.heap.size w w4 := (by repeat (first | (with_reducible exact Below.refl _ _) | (with_reducible assumption) | (with_reducible refine Below.drew ?_) | (with_reducible refine bdrewN ?_ _) | (with_reducible refine balloc ?_ _) | ((with_reducible refine bset ?_ ?_ _); rotate_left; (focus first | exact Nat.le_refl _ | (simp; done) | (simp; omega) | omega)) | (with_reducible refine bstep ?_ (by with_reducible assumption)) | (with_reducible refine Below.trans ?_ (by with_reducible assumption)))); clear hb2
  have D2 := Blk.new w4 25 #[.int .i64 (now), .slice A2 n2 c2]; replace M2 := M2.al (.cells #[.int .i64 (now), .slice A2 n2 c2] 25); replace L2 := L2.al (.cells #[.int .i64 (now), .slice A2 n2 c2] 25); replace M1 := M1.al (.cells #[.int .i64 (now), .slice A2 n2 c2] 25); replace D1 := D1.al (.cells #[.int .i64 (now), .slice A2 n2 c2] 25); have R2 : Blk ((w4.alloc (.cells #[.int .i64 (now), .slice A2 n2 c2] 25)).alloc (.cells #[.int .i64 (0), .string emp, .int .i64 (0), .slice Y2 m2 d2] 49)) (w4.heap.size + 1) 49 #[.int .i64 (0), .string emp, .int .i64 (0), .slice Y2 m2 d2] := Blk.new' _ _ _ (by simp); replace M2 := M2.al (.cells #[.int .i64 (0), .string emp, .int .i64 (0), .slice Y2 m2 d2] 49); replace L2 := L2.al (.cells #[.int .i64 (0), .string emp, .int .i64 (0), .slice Y2 m2 d2] 49); replace D2 := D2.al (.cells #[.int .i64 (0), .string emp, .int .i64 (0), .slice Y2 m2 d2] 49); replace M1 := M1.al (.cells #[.int .i64 (0), .string emp, .int .i64 (0), .slice Y2 m2 d2] 49); replace D1 := D1.al (.cells #[.int .i64 (0), .string emp, .int .i64 (0), .slice Y2 m2 d2] 49)
  clear T2
  obtain rfl : n1 = NE := by have := M1.sl.len; have := HNE.out; omega
  obtain rfl : n2 = n1 := by have h1 : es.length = n2 := M2.sl.len; have := HNE.out; omega
  obtain rfl : m2 = n2 := by have h1 : (es.map En.key).length = m2 := (by have := L2.len; simpa [strRows] using this); have := HKL.out; omega
  (try clear cD1 fD1); have cD1 := D1.cell; have fD1 := D1.frozen; (try clear cD2 fD2); have cD2 := D2.cell; have fD2 := D2.frozen; (try clear cR2 fR2); have cR2 := R2.cell; have fR2 := R2.frozen
  go_wp2_with fail
  refine (KS.out _ _ _ _ _ _ _ M1 M2).mono ?_
  rintro e w7 ⟨rfl, hb7⟩
  replace M1 := M1.bl hb7; replace D1 := D1.bl hb7; replace R2 := R2.bl hb7; replace L2 := L2.bl hb7
  replace q : Below w.heap.size w w7 := (by repeat (first | (with_reducible exact Below.refl _ _) | (with_reducible assumption) | (with_reducible refine Below.drew ?_) | (with_reducible refine bdrewN ?_ _) | (with_reducible refine balloc ?_ _) | ((with_reducible refine bset ?_ ?_ _); rotate_left; (focus first | exact Nat.le_refl _ | (simp; done) | (simp; omega) | omega)) | (with_reducible refine bstep ?_ (by with_reducible assumption)) | (with_reducible refine Below.trans ?_ (by with_reducible assumption))))
  clear hb7 M2 D2 cD2 fD2 KS K1
  (try clear cD1 fD1); have cD1 := D1.cell; have fD1 := D1.frozen; (try clear cR2 fR2); have cR2 := R2.cell; have fR2 := R2.frozen
  go_wp2_with fail
  clear cD1 fD1 cR2 fR2
  go_loopw [7] (fun s7 wr => ∃ k : Nat, k ≤ m2 ∧ s7 = .int .i64 (k : Int) ∧ Below w7.heap.size w7 wr) (fun s7 _ => m2 - (intOf s7).toNat)
  case atStart => exact ⟨0, by omega, rfl, Below.refl _ _⟩
  case round =>
    obtain ⟨k, hk, rfl, hbr⟩ := hrel
    have Dr := D1.below' hbr; have Rr := R2.below' hbr
    by_cases hlt : k < m2
    · have hke : k < es.length := by have := HNE.out; omega
      obtain ⟨b1, o1, F1, f1, g1, F2, f2, g2, F3, f3, g3, rfl, hbb1, E, -, -⟩ := (M1.bl hbr).sl.at_ hke
      obtain ⟨b2, o2, rfl, hbb2, i2⟩ := (L2.below hbr).seg.str (i := k) (by have := HKL.out; omega)
      rw [List.getElem_map] at i2
      have hxx : ∀ j, k = j + 1 → ∃ yk : ByteArray, wr.cell? ⟨b2, o2 + j, none⟩ = some (.string yk) ∧ Op.bytesLess yk.toList es[k].key.toList = true := by
        intro j hj
        subst hj
        obtain ⟨b2', o2', e2, _, i2'⟩ := (L2.below hbr).seg.str (i := j) (by have := HKL.out; omega)
        injection e2 with e2
        injection e2 with e2 e3
        subst e2; subst e3
        rw [List.getElem_map] at i2'
        refine ⟨_, i2', ?_⟩
        have hr : cmpB es[j].key es[j + 1].key < 0 := List.pairwise_iff_getElem.1 HR.out j (j + 1) (by omega) hke (by omega)
        rw [cmpB_less]; simp [hr]
      have e0 := E.c0
      have HX := hide hxx
      clear E hxx
      generalize es[k].key = xk at e0 i2 HX
      clear L2 M1
      (try clear cDr fDr); have cDr := Dr.cell; have fDr := Dr.frozen; (try clear cRr fRr); have cRr := Rr.cell; have fRr := Rr.frozen
      by_cases hk0 : k = 0
      · have hz6 : decide ((0 : Int) < (k : Int)) = false := by simp; omega
        have hz6' : decide (0 < k) = false := by simp; omega
        have hz7 : (0 : Int) ≤ (k : Int) := by omega
        have hz8 : (k : Int) < (m2 : Int) := by omega
        have HK0 := hide hk0
        clear HX hk0
        go_wp2_with fail
        go_quiet (fail)
        go_wp2_with fail
        go_roundw
        case rel => exact ⟨k + 1, by omega, by go_num, (by repeat (first | (with_reducible exact Below.refl _ _) | (with_reducible assumption) | (with_reducible refine Below.drew ?_) | (with_reducible refine bdrewN ?_ _) | (with_reducible refine balloc ?_ _) | ((with_reducible refine bset ?_ ?_ _); rotate_left; (focus first | exact Nat.le_refl _ | (simp; done) | (simp; omega) | omega)) | (with_reducible refine bstep ?_ (by with_reducible assumption)) | (with_reducible refine Below.trans ?_ (by with_reducible assumption))))⟩
        case measure => simp [intOf]; omega
      · obtain ⟨j, rfl⟩ : ∃ j, k = j + 1 := ⟨k - 1, by omega⟩
        obtain ⟨yk, u0, hbl⟩ := HX.out j rfl
        have hw1 : IntKind.i64.wrap ((j : Int) + 1 - 1) = (j : Int) := by rw [IntWalk.i64_in _ (by omega)]; omega
        have hw2 : IntKind.i64.wrap (j : Int) = (j : Int) := IntWalk.i64_in _ (by omega)
        have hz5 : (0 : Int) < (j : Int) + 1 := by omega
        have hz6 : decide ((0 : Int) < (j : Int) + 1) = true := decide_eq_true hz5
        have hz3 : (0 : Int) ≤ (j : Int) := by omega
        clear HX
        go_wp2_with fail
        go_quiet (fail)
        go_wp2_with fail
        go_roundw
        case rel => exact ⟨j + 1 + 1, by omega, by go_num, (by repeat (first | (with_reducible exact Below.refl _ _) | (with_reducible assumption) | (with_reducible refine Below.drew ?_) | (with_reducible refine bdrewN ?_ _) | (with_reducible refine balloc ?_ _) | ((with_reducible refine bset ?_ ?_ _); rotate_left; (focus first | exact Nat.le_refl _ | (simp; done) | (simp; omega) | omega)) | (with_reducible refine bstep ?_ (by with_reducible assumption)) | (with_reducible refine Below.trans ?_ (by with_reducible assumption))))⟩
        case measure => simp [intOf]; omega
    · obtain rfl : k = m2 := by omega
      (try clear cDr fDr); have cDr := Dr.cell; have fDr := Dr.frozen; (try clear cRr fRr); have cRr := Rr.cell; have fRr := Rr.frozen
      go_wp2_with fail
      go_ret
      exact ⟨rfl, (by repeat (first | (with_reducible exact Below.refl _ _) | (with_reducible assumption) | (with_reducible refine Below.drew ?_) | (with_reducible refine bdrewN ?_ _) | (with_reducible refine balloc ?_ _) | ((with_reducible refine bset ?_ ?_ _); rotate_left; (focus first | exact Nat.le_refl _ | (simp; done) | (simp; omega) | omega)) | (with_reducible refine bstep ?_ (by with_reducible assumption)) | (with_reducible refine Below.trans ?_ (by with_reducible assumption))))⟩
set_option maxRecDepth 100000 in
theorem keysTold_lifted (os : Os) (started : os.Started) (H : Type) (enc : TypeId × Value → H) :
  ReturnsInHanded {} Try.checked os 11 .any (Rows.keysToldSpec.pre6 enc Try.prog Try.f11 Rows.keysToldRow.domain false) (Rows.keysToldSpec.post enc Try.prog Try.f11 false true false false) := by
  refine returnsInHanded_of_change (C := Try.checked) Try.own started (by kernel_rfl) Try.func11 (ChangeSpec.witness6 (enc := enc) (C := Try.checked) false ⟨#[], #[.slice none 0 0], []⟩ 8 (by kernel_rfl) (by kernel_rfl) (by kernel_rfl) (by kernel_rfl)) ?_
  intro W base args ds gs before hval0 hW hcnd _
  have hval : ∀ (j : Nat) t v, Try.f11.params[j]? = some t → args[j]? = some v → Value.okWide Try.prog W .any base t v := hval0
  have hW' := hW
  obtain ⟨p, q, hA0, hV, rfl, hfz, hnd⟩ := hW
  have hA : DataW.TrodAll enc Try.prog W 0 (fun _ => true) true Try.f11.params.toList args.toList ds p := hA0
  rw [Try.params11] at hA hval
  obtain ⟨rfl, rfl⟩ := trodVars_none hV
  clear hA0 hval0 hcnd hV hfz hnd
  obtain ⟨v0, d0, rfl, rfl, h0⟩ := trodAll_one hA
  obtain ⟨A, n, c, l, rfl, hd, hS⟩ := open_steps (hval 0 55 v0 rfl rfl) h0
  refine (keysTold_walk A n c l W hS hd).mono fun e W' ⟨he, hb⟩ => ?_
  subst he
  exact ⟨_, rfl, post_law Try.laidOut hW' rfl (by kernel_rfl) rfl Try.underlying4 (fun _ => rfl) (fun _ => rfl) (fun _ => rfl) hb⟩
theorem keysTold_holds : Rows.KeysToldSaid := OpenClaim.holds_of_wide 11 Try.f11 rfl rfl rfl rfl rfl rfl rfl ⟨rfl, rfl, rfl, rfl, rfl⟩ rfl rfl rfl rfl rfl (by kernel_rfl) Try.func11 (by kernel_rfl)
  (of_decide_eq_true (by kernel_rfl)) (by unfold Func.isWrapper; first | (rw [if_pos (by decide +kernel)]; kernel_rfl) | (rw [if_neg (by decide +kernel)]; exact ⟨rfl, rfl⟩))
  (fun os started H enc _ => keysTold_lifted os started H enc)
#print axioms keysTold_holds
end Go.Proofs.Ytpdadlofgfdlpaa
