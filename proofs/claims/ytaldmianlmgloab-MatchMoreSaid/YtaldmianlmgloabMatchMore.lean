/- rostrumkeep.MatchMore returns true for every input and leaves its arguments as they were; no condition. -/
import Derived.Test.YtaldmianlmgloabMore
import Derived.Test.YtaldmianlmgloabStepPush
namespace Go.Proofs.Ytaldmianlmgloab
set_option linter.all false
open Go.ChangeShapes Go.WideShapes Go.ChangeAt Go.RowKit
theorem Sl.lift {w w' : World} {size n c B : Nat} {A : Option Addr} {rows : List (List Value)} (h : Sl w size A n c rows) (hb : Below B w w') (hB : w.heap.size ≤ B) : Sl w' size A n c rows := h.below (hb.mono hB)
set_option maxRecDepth 100000 in
set_option maxHeartbeats 8000000 in
theorem matchMore_walk (A : Option Addr) (n c : Nat) (l : List DeedD) (base : Int) (B : Option Addr) (m d : Nat) (more : List DeedD) (w : World) (hS : Sl w 8 A n c (deedRows l)) (hd : ∀ d ∈ l, d.ok) (hb : I64 base) (hS2 : Sl w 8 B m d (deedRows more)) (hd2 : ∀ d ∈ more, d.ok) :
    Calls Try.prog 7 #[.slice A n c, .int .i64 base, .slice B m d] w fun e w' => e = .returned (.bool true) ∧ Below w.heap.size w w' := by
  have hterms := log_terms l base
  have htimes := log_times l base
  obtain ⟨b, bt, L, hG, -, -, hLe, HL⟩ := Log_good A n c l base hb hd
  rw [← hLe] at hterms htimes
  clear hd hLe
  obtain ⟨g1, g2, g3, g4, g5, g6⟩ := hG
  obtain ⟨f1, f2, f3, f4, f5, f6, f7⟩ := more_facts more g1 g5 g3 g6 hterms htimes
  have hLst := fun A c w (h : Sl w 10 A L.length c (itemRows L)) => Last_any b bt A _ c L w ⟨by omega, by omega⟩ ⟨by omega, by omega⟩ h g1
  rw [lastOf_fst] at hLst
  have hmore : moreOf b bt L more = (itemsOf more (max (lastOf b bt L).2 1)).map (later (lastTime L)) := rfl
  obtain ⟨MS, HMO0⟩ : ∃ MS, MS = moreOf b bt L more := ⟨_, rfl⟩
  rw [← HMO0] at f5 f6 f7
  have hmm := more_match rfl f6 f7
  generalize hT : (lastOf b bt L).2 = T at f1 f2 f6 hLst hmore hmm
  obtain ⟨M, hM⟩ : ∃ M, M = max T 1 := ⟨_, rfl⟩
  rw [← hM] at hmore
  obtain ⟨ms, hms⟩ : ∃ ms, ms = itemsOf more M := ⟨_, rfl⟩
  rw [← hms] at hmore
  have htm : ∀ x ∈ ms, 0 ≤ x.time ∧ x.time ≤ 60 := by
    intro x hx
    rw [hms] at hx
    have hl : ((more.take 30).length : Int) ≤ 30 := by rw [List.length_take]; omega
    have := items_times _ _ _ x hx
    omega
  have hml : ms.length ≤ 30 := by rw [hms, itemsOf_length]; omega
  have hdd1 : ∀ h : 0 < L.length, lastTime L = (L[L.length - 1]'(by omega)).time := fun h => lastTime_pos h
  have hdd0 : ¬ 0 < L.length → lastTime L = 0 := by
    intro h
    obtain rfl := List.eq_nil_of_length_eq_zero (show L.length = 0 by omega)
    rfl
  generalize lastTime L = dd at hmore f3 f4 hdd1 hdd0
  have hif : (if T < 1 then (1 : Int) else T) = M := by rw [hM]; split <;> omega
  have hM1 : 0 ≤ M := by omega
  have hM2 : M ≤ 1099511627776 := by omega
  have HMO := hide (HMO0.trans hmore); have HMS := hide hms; have HTM := hide htm; have HDD1 := hide hdd1; have HDD0 := hide hdd0; have HLst := hide hLst; have HD2 := hide hd2
  clear hmore hms htm hdd1 hdd0 hLst HMO0 hM hT hd2
  have hM := fun A c B m d w (h : Sl w 10 A L.length c (itemRows L)) (h2 : Sl w 10 B m d (itemRows MS)) => Match_some b bt A _ c L (b + L.length) T B m d _ w ⟨by omega, by omega⟩ ⟨by omega, by omega⟩ h g1 ⟨by omega, by omega⟩ ⟨by omega, by omega⟩ h2 f6 hmm
  have hlen2 : MS.length = ms.length := by rw [HMO.out, List.length_map]
  have hq : ∃ (F : Int) (Bq : Bool), (if MS = [] then (0 : Int) else b + L.length + 1) = F ∧ (F == b + L.length + 1) = Bq ∧ decide ((0 : Int) < (ms.length : Int)) = Bq ∧ decide (0 < ms.length) = Bq := by
    by_cases h : MS = []
    · have e1 : ((0 : Int) == b + L.length + 1) = false := by rw [beq_eq_false_iff_ne]; omega
      have e2 : ms.length = 0 := by rw [← hlen2, h]; rfl
      have e3 : decide ((0 : Int) < (ms.length : Int)) = false := by rw [decide_eq_false_iff_not]; omega
      exact ⟨0, false, if_pos h, e1, e3, by rw [decide_eq_false_iff_not]; omega⟩
    · have : 0 < MS.length := List.length_pos_iff.2 h
      have e3 : decide ((0 : Int) < (ms.length : Int)) = true := by rw [decide_eq_true_iff]; omega
      exact ⟨_, true, if_neg h, by simp, e3, by rw [decide_eq_true_iff]; omega⟩
  have HM := hM
  have HQ := hide hq; have HLEN := hide hlen2
  replace HM := hide HM
  clear hM f6 f7 g1 hmm hterms htimes hq hlen2
  have hfrom := From.refl w
  go_enter Try.func7, Try.ntmps7
  go_wp2_with fail
  refine (HL.out _ hS).mono ?_
  rintro e w1 ⟨A', c', rfl, hsl, hb1⟩
  have hS1 := hS.bl hb1
  have hm1 := hS2.bl hb1
  replace hfrom := hfrom.bl hb1
  have Bg := Blk.new w1 31 #[.int .i64 b, .int .i64 bt, .slice A' L.length c']
  replace hsl := hsl.al (.cells #[.int .i64 b, .int .i64 bt, .slice A' L.length c'] 31); replace hS1 := hS1.al (.cells #[.int .i64 b, .int .i64 bt, .slice A' L.length c'] 31); replace hm1 := hm1.al (.cells #[.int .i64 b, .int .i64 bt, .slice A' L.length c'] 31); replace hfrom := hfrom.al (.cells #[.int .i64 b, .int .i64 bt, .slice A' L.length c'] 31)
  (try clear cBg fBg); have cBg := Bg.cell; have fBg := Bg.frozen
  go_wp2_with fail
  refine (HLst.out _ _ _ hsl).mono ?_
  rintro e w2 ⟨rfl, hb2⟩
  replace Bg := Bg.bl hb2; replace hsl := hsl.bl hb2; replace hS1 := hS1.bl hb2; replace hm1 := hm1.bl hb2; replace hfrom := hfrom.bl hb2
  (try clear cBg fBg); have cBg := Bg.cell; have fBg := Bg.frozen
  go_wp2_with fail
  refine (items_any B m d more M _ hm1 HD2.out (by omega) (by omega)).mono ?_
  rintro e w3 ⟨v, rfl, hown, hb3⟩
  obtain ⟨A3, n3, c3, rfl⟩ : ∃ A n c, v = .slice A n c := by obtain ⟨A, c, e, _⟩ := hown.sl; exact ⟨A, _, c, e⟩
  rw [← HMS.out] at hown
  have hn3 : n3 = ms.length := by have := rows_len hown.sl'; omega
  subst hn3
  have hown' : Own w3 w2.heap.size 29 10 (.slice A3 ms.length c3) (itemRows (bumped dd ms 0)) := by rw [bumped_zero]; exact hown
  clear hown
  have Bg3 := Bg.bl hb3
  have hsl3 := hsl.bl hb3
  clear cBg fBg
  (try clear cBg3 fBg3); have cBg3 := Bg3.cell; have fBg3 := Bg3.frozen
  go_upto_if 36 with fail
  go_cut [12] (fun s wx => s = .int .i64 dd ∧ wx = w3)
  case first =>
    by_cases h0 : 0 < L.length
    · have hdd := HDD1.out h0
      obtain ⟨yb, yo, hA', hyb, ⟨_, j1, _⟩⟩ := hsl3.item (k := L.length - 1) (by omega)
      rw [← hdd] at j1
      clear hdd
      subst hA'
      have hp' : (0 : Int) < (L.length : Int) := by omega
      go_wp2_with fail
      go_meet
      exact ⟨rfl, rfl⟩
    · have hdd := HDD0.out h0
      have hle : ¬ (0 : Int) < (L.length : Int) := by omega
      subst hdd
      go_wp2_with fail
      go_meet
      exact ⟨rfl, rfl⟩
  case rest =>
    obtain ⟨rfl, rfl⟩ := hcut
    go_wp2_with fail
    go_loopw [14] (fun s wr => ∃ j : Nat, j ≤ ms.length ∧ s = .int .i64 j ∧ Own wr w2.heap.size 29 10 (.slice A3 ms.length c3) (itemRows (bumped dd ms j)) ∧ Below w2.heap.size w2 wr) (fun s _ => ms.length - (intOf s).toNat)
    case atStart => exact ⟨0, by omega, rfl, hown', hb3⟩
    case round =>
      obtain ⟨j, hj, rfl, hownr, hbr⟩ := hrel
      by_cases hlt : j < ms.length
      · obtain ⟨g, rfl, hg1, hg2, _, hgf, hgc⟩ := own_at hownr hlt
        have hst := own_bump hownr hlt
        have htm := HTM.out _ (List.getElem_mem hlt)
        generalize ms[j] = y at hgc hst htm
        have hj1 : (j : Int) < (ms.length : Int) := by omega
        have hyw : IntKind.i64.wrap (y.time + dd) = y.time + dd := IntWalk.i64_in _ (by omega)
        clear hown'
        go_wp2_with fail
        go_roundw
        case rel => exact ⟨j + 1, by omega, by go_num, hst, hbr.setCell hg1 _⟩
        case measure => simp [intOf]; omega
      · obtain rfl : j = ms.length := by omega
        rw [bumped_all] at hownr
        rw [← HMO.out] at hownr
        clear cBg3 fBg3 hown'
        replace Bg := Bg.bl hbr
        replace hsl := hsl.bl hbr
        replace hfrom := hfrom.bl hbr
        (try clear cBg fBg); have cBg := Bg.cell; have fBg := Bg.frozen
        go_wp2_with fail
        have hq := HQ.out
        obtain ⟨F, Bq, q1, q2, q3, q4⟩ := hq
        have hMlen := HLEN.out
        simp only [q1] at HM
        clear q1 HQ HLEN
        have hpl : IntKind.i64.wrap (b + (L.length : Int) + 1) = b + L.length + 1 := IntWalk.i64_in _ (by omega)
        refine (HM.out _ _ _ _ _ _ hsl hownr.sl').mono ?_
        rintro e w4 ⟨A4, n4, c4, rfl, hown4, hb4⟩
        have hs4 := hown4.sl'
        clear hown4
        replace Bg := Bg.bl hb4; replace hsl := hsl.bl hb4; replace hfrom := hfrom.bl hb4; replace hownr := hownr.bl hb4
        have hf4 := hfrom
        have X4 := Blk.new w4 31 #[.int .i64 b, .int .i64 bt, .slice A4 n4 c4]
        replace Bg := Bg.al (.cells #[.int .i64 b, .int .i64 bt, .slice A4 n4 c4] 31); replace hsl := hsl.al (.cells #[.int .i64 b, .int .i64 bt, .slice A4 n4 c4] 31); replace hfrom := hfrom.al (.cells #[.int .i64 b, .int .i64 bt, .slice A4 n4 c4] 31); replace hownr := hownr.al (.cells #[.int .i64 b, .int .i64 bt, .slice A4 n4 c4] 31); replace hs4 := hs4.al (.cells #[.int .i64 b, .int .i64 bt, .slice A4 n4 c4] 31)
        (try clear cBg fBg); have cBg := Bg.cell; have fBg := Bg.frozen; (try clear cX4 fX4); have cX4 := X4.cell; have fX4 := X4.frozen
        have hg4 : w1.heap.size < w4.heap.size := by have := hb4.size; have := hbr.size; have := hb2.size; simp at this; omega
        have hownS := hownr.sl'
        have W4s : (w4.alloc (.cells #[.int .i64 b, .int .i64 bt, .slice A4 n4 c4] 31)).heap.size = w4.heap.size + 1 := by simp
        cases Bq
        all_goals
          go_wp2_with fail
          go_region_held3 (fun w' => w'.cell? ⟨w1.heap.size, 0, none⟩ = some (.int .i64 b) ∧ w'.cell? ⟨w1.heap.size, 1, none⟩ = some (.int .i64 bt) ∧ w'.cell? ⟨w1.heap.size, 2, none⟩ = some (.slice A' L.length c') ∧ w'.cell? ⟨w4.heap.size, 0, none⟩ = some (.int .i64 b) ∧ w'.cell? ⟨w4.heap.size, 1, none⟩ = some (.int .i64 bt) ∧ w'.cell? ⟨w4.heap.size, 2, none⟩ = some (.slice A4 n4 c4)) (simp [go_sem, World.cell?_alloc_past, *])
            (first | ((refine step_pushes rfl _ _ _ (by rfl) Try.underlying23 item_info rfl (by decide) (by rfl) (Own.nil (base := w4.heap.size + 1)) (by rfl) hsl.drew (item_one _) (by simp [maxLen]; omega) (by simp; omega) (by simp) ?_; intro A5 n5 c5 w5 hown5 hb5; have lo5 : Below w4.heap.size w4 w5 := Below.trans (b := (w4.alloc (.cells #[.int .i64 b, .int .i64 bt, .slice A4 n4 c4] 31)).drew) (by repeat (first | (with_reducible exact Below.refl _ _) | (with_reducible assumption) | (with_reducible refine Below.drew ?_) | (with_reducible refine bdrewN ?_ _) | (with_reducible refine balloc ?_ _) | ((with_reducible refine bset ?_ ?_ _); rotate_left; (focus first | exact Nat.le_refl _ | (simp; done) | (simp; omega) | omega)) | (with_reducible refine bstep ?_ (by with_reducible assumption)) | (with_reducible refine Below.trans ?_ (by with_reducible assumption)))) (hb5.mono (by omega)); have Bg5 := Bg.drew.below hb5 (by omega); have X5 := X4.drew.below hb5 (by omega); have p05 : w5.cell? ⟨w1.heap.size, 0, none⟩ = some (.int .i64 b) := Bg5.cell 0; have p15 : w5.cell? ⟨w1.heap.size, 1, none⟩ = some (.int .i64 bt) := Bg5.cell 1; have p25 : w5.cell? ⟨w1.heap.size, 2, none⟩ = some (.slice A' L.length c') := Bg5.cell 2; have r05 : w5.cell? ⟨w4.heap.size, 0, none⟩ = some (.int .i64 b) := X5.cell 0; have r15 : w5.cell? ⟨w4.heap.size, 1, none⟩ = some (.int .i64 bt) := X5.cell 1; have r25 : w5.cell? ⟨w4.heap.size, 2, none⟩ = some (.slice A4 n4 c4) := X5.cell 2; skip)) | ((refine step_pushes rfl _ _ _ (by rfl) Try.underlying23 item_info rfl (by decide) (by rfl) hown5 (by rfl) (hownS.drew.lift hb5 (by simp)) (item_one _) (by simp only [List.nil_append, itemRows_length]; unfold maxLen; omega) (by simp only [List.nil_append, itemRows_length]; omega) (by have := hb5.size; simp at this; omega) ?_; intro A6 n6 c6 w6 hown6 hb6; have lo6 : Below w4.heap.size w4 w6 := lo5.trans (hb6.mono (by omega)); have Bg6 := Bg5.below hb6 (by omega); have X6 := X5.below hb6 (by omega); have p06 : w6.cell? ⟨w1.heap.size, 0, none⟩ = some (.int .i64 b) := Bg6.cell 0; have p16 : w6.cell? ⟨w1.heap.size, 1, none⟩ = some (.int .i64 bt) := Bg6.cell 1; have p26 : w6.cell? ⟨w1.heap.size, 2, none⟩ = some (.slice A' L.length c') := Bg6.cell 2; have r06 : w6.cell? ⟨w4.heap.size, 0, none⟩ = some (.int .i64 b) := X6.cell 0; have r16 : w6.cell? ⟨w4.heap.size, 1, none⟩ = some (.int .i64 bt) := X6.cell 1; have r26 : w6.cell? ⟨w4.heap.size, 2, none⟩ = some (.slice A4 n4 c4) := X6.cell 2; skip)) | (go_at_call 18; have hs46 := hs4.drew.lift (hb5.trans hb6) (by simp); have h6 := hown6.sl'; rw [show [] ++ itemRows L ++ itemRows MS = itemRows (L ++ MS) by simp [itemRows]] at h6; (with_reducible refine (sameLog_eq b bt _ _ _ _ _ _ _ _ _ hs46 h6 rfl).mono ?_); rintro e w7 ⟨rfl, hb7⟩; have Bg7 := Bg6.bl hb7; have X7 := X6.bl hb7; have lo7 : Below w4.heap.size w4 w7 := lo6.trans (hb7.mono lo6.size); have p07 : w7.cell? ⟨w1.heap.size, 0, none⟩ = some (.int .i64 b) := Bg7.cell 0; have p17 : w7.cell? ⟨w1.heap.size, 1, none⟩ = some (.int .i64 bt) := Bg7.cell 1; have p27 : w7.cell? ⟨w1.heap.size, 2, none⟩ = some (.slice A' L.length c') := Bg7.cell 2; have r07 : w7.cell? ⟨w4.heap.size, 0, none⟩ = some (.int .i64 b) := X7.cell 0; have r17 : w7.cell? ⟨w4.heap.size, 1, none⟩ = some (.int .i64 bt) := X7.cell 1; have r27 : w7.cell? ⟨w4.heap.size, 2, none⟩ = some (.slice A4 n4 c4) := X7.cell 2; skip))
          go_wp2_with fail
          go_ret
          exact ⟨rfl, hf4.out.trans (lo7.mono hf4.size)⟩
set_option maxRecDepth 100000 in
theorem matchMore_lifted (os : Os) (started : os.Started) (H : Type) (enc : TypeId × Value → H) :
  ReturnsInHanded {} Try.checked os 7 .any (Rows.matchMoreSpec.pre6 enc Try.prog Try.f7 Rows.matchMoreRow.domain false) (Rows.matchMoreSpec.post enc Try.prog Try.f7 false true false false) := by
  refine returnsInHanded_of_change (C := Try.checked) Try.own started (by kernel_rfl) Try.func7 (ChangeSpec.witness6 (enc := enc) (C := Try.checked) false ⟨#[], #[.slice none 0 0, .int .i64 0, .slice none 0 0], []⟩ 8 (by kernel_rfl) (by kernel_rfl) (by kernel_rfl) (by kernel_rfl)) ?_
  intro W base args ds gs before hval0 hW hcnd _
  have hval : ∀ (j : Nat) t v, Try.f7.params[j]? = some t → args[j]? = some v → Value.okWide Try.prog W .any base t v := hval0
  have hW' := hW
  obtain ⟨p, q, hA0, hV, rfl, hfz, hnd⟩ := hW
  have hA : DataW.TrodAll enc Try.prog W 0 (fun _ => true) true Try.f7.params.toList args.toList ds p := hA0
  rw [Try.params7] at hA hval
  obtain ⟨rfl, rfl⟩ := trodVars_none hV
  clear hA0 hval0 hcnd hV hfz hnd
  obtain ⟨v0, v1, v2, d0, d1, d2, p0, p1, p2, rfl, rfl, rfl, h0, h1, h2⟩ := trodAll_three hA
  obtain ⟨A, n, c, l, rfl, hd, hS⟩ := open_deeds (hval 0 37 v0 rfl rfl) h0
  obtain ⟨m1, rfl, rfl, rfl, w1⟩ := open_int Try.underlying3 (hval 1 3 v1 rfl rfl) h1
  obtain ⟨B, m, d, more, rfl, hd2, hS2⟩ := open_deeds (hval 2 37 v2 rfl rfl) h2
  refine (matchMore_walk A n c l m1 B m d more W hS hd (i64_bounds w1) hS2 hd2).mono fun e W' ⟨he, hb⟩ => ?_
  subst he
  exact ⟨_, rfl, post_law Try.laidOut hW' rfl (by kernel_rfl) rfl Try.underlying4 (fun _ => rfl) (fun _ => rfl) (fun _ => rfl) hb⟩
theorem matchMore_holds : Rows.MatchMoreSaid := OpenClaim.holds_of_wide 7 Try.f7 rfl rfl rfl rfl rfl rfl rfl ⟨rfl, rfl, rfl, rfl, rfl⟩ rfl rfl rfl rfl rfl (by kernel_rfl) Try.func7 (by kernel_rfl)
  (of_decide_eq_true (by kernel_rfl)) (by unfold Func.isWrapper; first | (rw [if_pos (by decide +kernel)]; kernel_rfl) | (rw [if_neg (by decide +kernel)]; exact ⟨rfl, rfl⟩))
  (fun os started H enc _ => matchMore_lifted os started H enc)
#print axioms matchMore_holds
end Go.Proofs.Ytaldmianlmgloab
