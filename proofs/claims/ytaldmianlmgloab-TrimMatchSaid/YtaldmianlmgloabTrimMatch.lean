/- rostrumkeep.TrimMatch returns true for every input and leaves its arguments as they were; no condition. -/
import Derived.Test.YtaldmianlmgloabMore
namespace Go.Proofs.Ytaldmianlmgloab
set_option linter.all false
open Go.ChangeShapes Go.WideShapes Go.ChangeAt Go.RowKit
theorem trim_match {b bt : Int} {L ms : List Itm} {k : Nat} (hg : checkLog b bt L = 0) (hk : k ≤ L.length) (h1 : checkLog (b + L.length) (lastOf b bt L).2 ms = 0) (h2 : checkLog b bt (L ++ ms) = 0) :
    (termOf b bt (L ++ ms) (b + k)).1 = (termOf b bt L (b + k)).1 ∧ checkLog (b + k) (termOf b bt L (b + k)).1 (L.drop k) = 0 ∧
    matchOf (b + k) (termOf b bt L (b + k)).1 (L.drop k) (b + L.length) (lastOf b bt L).2 ms = ⟨some (L.drop k ++ ms), true, if ms = [] then 0 else b + L.length + 1, 0⟩ := by
  have ht : (termOf b bt (L ++ ms) (b + k)).1 = (termOf b bt L (b + k)).1 := by
    rw [termOf_k (by simp; omega), termOf_k hk]
    cases k with
    | zero => rfl
    | succ k =>
      simp only [Nat.add_sub_cancel]
      rw [List.getElem?_append_left (by omega)]
  obtain ⟨c1, _, _, c4⟩ := trim_good hg hk
  have d := trim_good (k := k) h2 (by simp; omega)
  rw [ht, List.drop_append_of_le_length hk] at d
  refine ⟨ht, c1, ?_⟩
  have e : b + (L.length : Int) = b + k + ((L.drop k).length : Int) := by rw [List.length_drop]; omega
  rw [e] at h1 ⊢
  exact more_match (by rw [c4]) h1 d.1
set_option maxRecDepth 100000 in
set_option maxHeartbeats 8000000 in
theorem trimMatch_walk (A : Option Addr) (n c : Nat) (l : List DeedD) (base at_ : Int) (B : Option Addr) (m d : Nat) (more : List DeedD) (w : World) (hS : Sl w 8 A n c (deedRows l)) (hd : ∀ d ∈ l, d.ok) (hb : I64 base) (hat : I64 at_) (hS2 : Sl w 8 B m d (deedRows more)) (hd2 : ∀ d ∈ more, d.ok) :
    Calls Try.prog 8 #[.slice A n c, .int .i64 base, .int .i64 at_, .slice B m d] w fun e w' => e = .returned (.bool true) ∧ Below w.heap.size w w' := by
  have hterms := log_terms l base
  have htimes := log_times l base
  obtain ⟨b, bt, L, hG, -, -, hLe, HL⟩ := Log_good A n c l base hb hd
  rw [← hLe] at hterms htimes
  clear hd hLe
  obtain ⟨g1, g2, g3, g4, g5, g6⟩ := hG
  obtain ⟨f1, f2, f3, f4, f5, f6, f7⟩ := more_facts more g1 g5 g3 g6 hterms htimes
  have hLst := fun A c w (h : Sl w 10 A L.length c (itemRows L)) => Last_any b bt A _ c L w ⟨by omega, by omega⟩ ⟨by omega, by omega⟩ h g1
  rw [lastOf_fst] at hLst
  have r1 := picked_lo at_ (L.length + 1) (by omega)
  have r2 := picked_hi at_ (L.length + 1) (by omega)
  have hR := fun w => picked_any at_ (L.length + 1) w hat.1 hat.2 (by omega) (by omega)
  obtain ⟨k, hk⟩ := Int.eq_ofNat_of_zero_le r1
  rw [hk] at hR r2
  have hkl : k ≤ L.length := by omega
  have HR := hide hR; clear hR hk r1
  have hmore : moreOf b bt L more = (itemsOf more (max (lastOf b bt L).2 1)).map (later (lastTime L)) := rfl
  obtain ⟨MS, HMO0⟩ : ∃ MS, MS = moreOf b bt L more := ⟨_, rfl⟩
  rw [← HMO0] at f5 f6 f7
  have hmm := more_match rfl f6 f7
  obtain ⟨tm1, tm2, tm3⟩ := trim_match g1 hkl f6 f7
  generalize hT : (lastOf b bt L).2 = T at f1 f2 f6 hLst hmore hmm tm3
  obtain ⟨M, hM⟩ : ∃ M, M = max T 1 := ⟨_, rfl⟩
  rw [← hM] at hmore
  obtain ⟨ms, hms⟩ : ∃ ms, ms = itemsOf more M := ⟨_, rfl⟩
  rw [← hms] at hmore
  have htm : ∀ x ∈ ms, 0 ≤ x.time ∧ x.time ≤ 60 := by
    intro x hx
    rw [hms] at hx
    have hl : ((more.take 30).length : Int) ≤ 30 := by rw [List.length_take]; omega
    have := items_times _ _ _ x hx
    omega
  have hml : ms.length ≤ 30 := by rw [hms, itemsOf_length]; omega
  have hdd1 : ∀ h : 0 < L.length, lastTime L = (L[L.length - 1]'(by omega)).time := fun h => lastTime_pos h
  have hdd0 : ¬ 0 < L.length → lastTime L = 0 := by
    intro h
    obtain rfl := List.eq_nil_of_length_eq_zero (show L.length = 0 by omega)
    rfl
  generalize lastTime L = dd at hmore f3 f4 hdd1 hdd0
  have hif : (if T < 1 then (1 : Int) else T) = M := by rw [hM]; split <;> omega
  have hM1 : 0 ≤ M := by omega
  have hM2 : M ≤ 1099511627776 := by omega
  have HMO := hide (HMO0.trans hmore); have HMS := hide hms; have HTM := hide htm; have HDD1 := hide hdd1; have HDD0 := hide hdd0; have HLst := hide hLst; have HD2 := hide hd2
  clear hmore hms htm hdd1 hdd0 hLst HMO0 hM hT hd2
  have hlen2 : MS.length = ms.length := by rw [HMO.out, List.length_map]
  have hq : ∃ (F : Int) (Bq : Bool), (if MS = [] then (0 : Int) else b + L.length + 1) = F ∧ (F == b + L.length + 1) = Bq ∧ decide ((0 : Int) < (ms.length : Int)) = Bq ∧ decide (0 < ms.length) = Bq := by
    by_cases h : MS = []
    · have e1 : ((0 : Int) == b + L.length + 1) = false := by rw [beq_eq_false_iff_ne]; omega
      have e2 : ms.length = 0 := by rw [← hlen2, h]; rfl
      have e3 : decide ((0 : Int) < (ms.length : Int)) = false := by rw [decide_eq_false_iff_not]; omega
      exact ⟨0, false, if_pos h, e1, e3, by rw [decide_eq_false_iff_not]; omega⟩
    · have : 0 < MS.length := List.length_pos_iff.2 h
      have e3 : decide ((0 : Int) < (ms.length : Int)) = true := by rw [decide_eq_true_iff]; omega
      exact ⟨_, true, if_neg h, by simp, e3, by rw [decide_eq_true_iff]; omega⟩
  obtain ⟨F, Bq, q1, q2, q3, q4⟩ := hq
  rw [q1] at hmm tm3
  have tg := trim_good g1 hkl
  have hTr := fun A c w (h : Sl w 10 A L.length c (itemRows L)) => Trim_ok b bt A _ c L k w ⟨by omega, by omega⟩ ⟨by omega, by omega⟩ h g1 hkl
  have hTrb := fun A c w (h : Sl w 10 A L.length c (itemRows L)) => Trim_bad b bt A _ c L (b + L.length + 1) w ⟨by omega, by omega⟩ ⟨by omega, by omega⟩ h g1 ⟨by omega, by omega⟩ (by rw [termOf_gt (by omega) (by omega)]; decide)
  rw [termOf_gt (by omega) (by omega)] at hTrb
  have hTr2 := fun A n c w (h : Sl w 10 A n c (itemRows (L ++ MS))) => Trim_ok b bt A n c (L ++ MS) k w ⟨by omega, by omega⟩ ⟨by omega, by omega⟩ h f7 (by rw [List.length_append]; omega)
  rw [tm1, List.drop_append_of_le_length hkl] at hTr2
  generalize (termOf b bt L (b + k)).1 = TK at tg tm2 tm3 hTr hTr2
  have hM := fun A c B m d w (h : Sl w 10 A L.length c (itemRows L)) (h2 : Sl w 10 B m d (itemRows MS)) => Match_some b bt A _ c L (b + L.length) T B m d _ w ⟨by omega, by omega⟩ ⟨by omega, by omega⟩ h g1 ⟨by omega, by omega⟩ ⟨by omega, by omega⟩ h2 f6 hmm
  have hM2 := fun A n c B m d w (h : Sl w 10 A n c (itemRows (L.drop k))) (h2 : Sl w 10 B m d (itemRows MS)) => Match_some (b + k) TK A n c (L.drop k) (b + L.length) T B m d _ w ⟨by omega, by omega⟩ ⟨by omega, by omega⟩ h tm2 ⟨by omega, by omega⟩ ⟨by omega, by omega⟩ h2 f6 tm3
  simp only at hTrb
  have HM := hide hM; have HM2 := hide hM2; have HTr := hide hTr; have HTrb := hide hTrb; have HTr2 := hide hTr2
  clear hM hM2 hTr hTrb hTr2 f6 f7 g1 hmm hterms htimes hlen2 tm1 tm2 tm3 tg q1
  have hpl : IntKind.i64.wrap (b + (L.length : Int) + 1) = b + L.length + 1 := IntWalk.i64_in _ (by omega)
  have hbk : IntKind.i64.wrap (b + (k : Int)) = b + k := IntWalk.i64_in _ (by omega)
  have hfrom := From.refl w
  go_enter Try.func8, Try.ntmps8
  go_wp2_with fail
  refine (HL.out _ hS).mono ?_
  rintro e w1 ⟨A', c', rfl, hsl, hb1⟩
  have hS1 := hS.bl hb1
  have hm1 := hS2.bl hb1
  replace hfrom := hfrom.bl hb1
  have Bg := Blk.new w1 31 #[.int .i64 b, .int .i64 bt, .slice A' L.length c']
  replace hsl := hsl.al (.cells #[.int .i64 b, .int .i64 bt, .slice A' L.length c'] 31); replace hS1 := hS1.al (.cells #[.int .i64 b, .int .i64 bt, .slice A' L.length c'] 31); replace hm1 := hm1.al (.cells #[.int .i64 b, .int .i64 bt, .slice A' L.length c'] 31); replace hfrom := hfrom.al (.cells #[.int .i64 b, .int .i64 bt, .slice A' L.length c'] 31)
  (try clear cBg fBg); have cBg := Bg.cell; have fBg := Bg.frozen
  go_wp2_with fail
  refine (HR.out _).mono ?_
  rintro e w' ⟨rfl, rfl⟩
  go_wp2_with fail
  refine (HLst.out _ _ _ hsl).mono ?_
  rintro e w2 ⟨rfl, hb2⟩
  replace Bg := Bg.bl hb2; replace hsl := hsl.bl hb2; replace hS1 := hS1.bl hb2; replace hm1 := hm1.bl hb2; replace hfrom := hfrom.bl hb2
  (try clear cBg fBg); have cBg := Bg.cell; have fBg := Bg.frozen
  go_wp2_with fail
  refine (items_any B m d more M _ hm1 HD2.out (by omega) (by omega)).mono ?_
  rintro e w3 ⟨v, rfl, hown, hb3⟩
  obtain ⟨A3, n3, c3, rfl⟩ : ∃ A n c, v = .slice A n c := by obtain ⟨A, c, e, _⟩ := hown.sl; exact ⟨A, _, c, e⟩
  rw [← HMS.out] at hown
  have hn3 : n3 = ms.length := by have := rows_len hown.sl'; omega
  subst hn3
  have hown' : Own w3 w2.heap.size 29 10 (.slice A3 ms.length c3) (itemRows (bumped dd ms 0)) := by rw [bumped_zero]; exact hown
  clear hown
  have Bg3 := Bg.bl hb3
  have hsl3 := hsl.bl hb3
  clear cBg fBg
  (try clear cBg3 fBg3); have cBg3 := Bg3.cell; have fBg3 := Bg3.frozen
  go_upto_if 55 with fail
  go_cut [15] (fun s wx => s = .int .i64 dd ∧ wx = w3)
  case first =>
    by_cases h0 : 0 < L.length
    · have hdd := HDD1.out h0
      obtain ⟨yb, yo, hA', hyb, ⟨_, j1, _⟩⟩ := hsl3.item (k := L.length - 1) (by omega)
      rw [← hdd] at j1
      clear hdd
      subst hA'
      have hp' : (0 : Int) < (L.length : Int) := by omega
      go_wp2_with fail
      go_meet
      exact ⟨rfl, rfl⟩
    · have hdd := HDD0.out h0
      have hle : ¬ (0 : Int) < (L.length : Int) := by omega
      subst hdd
      go_wp2_with fail
      go_meet
      exact ⟨rfl, rfl⟩
  case rest =>
    obtain ⟨rfl, rfl⟩ := hcut
    go_wp2_with fail
    go_loopw [17] (fun s wr => ∃ j : Nat, j ≤ ms.length ∧ s = .int .i64 j ∧ Own wr w2.heap.size 29 10 (.slice A3 ms.length c3) (itemRows (bumped dd ms j)) ∧ Below w2.heap.size w2 wr) (fun s _ => ms.length - (intOf s).toNat)
    case atStart => exact ⟨0, by omega, rfl, hown', hb3⟩
    case round =>
      obtain ⟨j, hj, rfl, hownr, hbr⟩ := hrel
      by_cases hlt : j < ms.length
      · obtain ⟨g, rfl, hg1, hg2, _, hgf, hgc⟩ := own_at hownr hlt
        have hst := own_bump hownr hlt
        have htm := HTM.out _ (List.getElem_mem hlt)
        generalize ms[j] = y at hgc hst htm
        have hj1 : (j : Int) < (ms.length : Int) := by omega
        have hyw : IntKind.i64.wrap (y.time + dd) = y.time + dd := IntWalk.i64_in _ (by omega)
        clear hown'
        go_wp2_with fail
        go_roundw
        case rel => exact ⟨j + 1, by omega, by go_num, hst, hbr.setCell hg1 _⟩
        case measure => simp [intOf]; omega
      · obtain rfl : j = ms.length := by omega
        rw [bumped_all] at hownr
        rw [← HMO.out] at hownr
        clear cBg3 fBg3 hown'
        replace Bg := Bg.bl hbr
        replace hsl := hsl.bl hbr
        replace hfrom := hfrom.bl hbr
        (try clear cBg fBg); have cBg := Bg.cell; have fBg := Bg.frozen
        go_wp2_with fail
        have hownr' := hownr.sl'
        clear hownr
        refine (HTrb.out _ _ _ hsl).mono ?_
        rintro e w4 ⟨rfl, hb4⟩
        replace Bg := Bg.bl hb4; replace hsl := hsl.bl hb4; replace hfrom := hfrom.bl hb4; replace hownr' := hownr'.bl hb4
        replace Bg := Bg.al (.cells #[.int .i64 0, .int .i64 0, .slice none 0 0] 31); replace hsl := hsl.al (.cells #[.int .i64 0, .int .i64 0, .slice none 0 0] 31); replace hfrom := hfrom.al (.cells #[.int .i64 0, .int .i64 0, .slice none 0 0] 31); replace hownr' := hownr'.al (.cells #[.int .i64 0, .int .i64 0, .slice none 0 0] 31)
        (try clear cBg fBg); have cBg := Bg.cell; have fBg := Bg.frozen
        go_wp2_with fail
        refine (HTr.out _ _ _ hsl).mono ?_
        rintro e w5 ⟨v5, rfl, hown5, hb5⟩
        obtain ⟨A5, n5, c5, rfl⟩ : ∃ A n c, v5 = .slice A n c := by obtain ⟨A, c, e, _⟩ := hown5.sl; exact ⟨A, _, c, e⟩
        have hs5 := hown5.sl'
        clear hown5
        replace Bg := Bg.bl hb5; replace hsl := hsl.bl hb5; replace hfrom := hfrom.bl hb5; replace hownr' := hownr'.bl hb5
        have X5 := Blk.new w5 31 #[.int .i64 (b + k), .int .i64 TK, .slice A5 n5 c5]
        replace Bg := Bg.al (.cells #[.int .i64 (b + k), .int .i64 TK, .slice A5 n5 c5] 31); replace hsl := hsl.al (.cells #[.int .i64 (b + k), .int .i64 TK, .slice A5 n5 c5] 31); replace hfrom := hfrom.al (.cells #[.int .i64 (b + k), .int .i64 TK, .slice A5 n5 c5] 31); replace hownr' := hownr'.al (.cells #[.int .i64 (b + k), .int .i64 TK, .slice A5 n5 c5] 31); replace hs5 := hs5.al (.cells #[.int .i64 (b + k), .int .i64 TK, .slice A5 n5 c5] 31)
        (try clear cBg fBg); have cBg := Bg.cell; have fBg := Bg.frozen; (try clear cX5 fX5); have cX5 := X5.cell; have fX5 := X5.frozen
        go_wp2_with fail
        refine (HM2.out _ _ _ _ _ _ _ hs5 hownr').mono ?_
        rintro e w6 ⟨A6, n6, c6, rfl, hown6, hb6⟩
        have hs6 := hown6.sl'
        clear hown6 cX5 fX5
        replace Bg := Bg.bl hb6; replace hsl := hsl.bl hb6; replace hfrom := hfrom.bl hb6; replace hownr' := hownr'.bl hb6
        have X6 := Blk.new w6 31 #[.int .i64 (b + k), .int .i64 TK, .slice A6 n6 c6]
        replace Bg := Bg.al (.cells #[.int .i64 (b + k), .int .i64 TK, .slice A6 n6 c6] 31); replace hsl := hsl.al (.cells #[.int .i64 (b + k), .int .i64 TK, .slice A6 n6 c6] 31); replace hfrom := hfrom.al (.cells #[.int .i64 (b + k), .int .i64 TK, .slice A6 n6 c6] 31); replace hownr' := hownr'.al (.cells #[.int .i64 (b + k), .int .i64 TK, .slice A6 n6 c6] 31); replace hs6 := hs6.al (.cells #[.int .i64 (b + k), .int .i64 TK, .slice A6 n6 c6] 31)
        (try clear cBg fBg); have cBg := Bg.cell; have fBg := Bg.frozen
        go_wp2_with fail
        refine (HM.out _ _ _ _ _ _ hsl hownr').mono ?_
        rintro e w7 ⟨A7, n7, c7, rfl, hown7, hb7⟩
        have hs7 := hown7.sl'
        clear hown7
        replace Bg := Bg.bl hb7; replace hsl := hsl.bl hb7; replace hfrom := hfrom.bl hb7; replace hs6 := hs6.bl hb7; replace X6 := X6.bl hb7
        have X7 := Blk.new w7 31 #[.int .i64 b, .int .i64 bt, .slice A7 n7 c7]
        replace Bg := Bg.al (.cells #[.int .i64 b, .int .i64 bt, .slice A7 n7 c7] 31); replace hsl := hsl.al (.cells #[.int .i64 b, .int .i64 bt, .slice A7 n7 c7] 31); replace hfrom := hfrom.al (.cells #[.int .i64 b, .int .i64 bt, .slice A7 n7 c7] 31); replace hs7 := hs7.al (.cells #[.int .i64 b, .int .i64 bt, .slice A7 n7 c7] 31); replace hs6 := hs6.al (.cells #[.int .i64 b, .int .i64 bt, .slice A7 n7 c7] 31); replace X6 := X6.al (.cells #[.int .i64 b, .int .i64 bt, .slice A7 n7 c7] 31)
        (try clear cBg fBg); have cBg := Bg.cell; have fBg := Bg.frozen; (try clear cX7 fX7); have cX7 := X7.cell; have fX7 := X7.frozen
        go_wp2_with fail
        refine (HTr2.out _ _ _ _ hs7).mono ?_
        rintro e w8 ⟨v8, rfl, hown8, hb8⟩
        obtain ⟨A8, n8, c8, rfl⟩ : ∃ A n c, v8 = .slice A n c := by obtain ⟨A, c, e, _⟩ := hown8.sl; exact ⟨A, _, c, e⟩
        have hs8 := hown8.sl'
        clear hown8 cX7 fX7 cBg fBg
        replace hs6 := hs6.bl hb8; replace X6 := X6.bl hb8; replace hfrom := hfrom.bl hb8
        replace hs6 := hs6.al (.cells #[.int .i64 (b + k), .int .i64 TK, .slice A8 n8 c8] 31); replace X6 := X6.al (.cells #[.int .i64 (b + k), .int .i64 TK, .slice A8 n8 c8] 31); replace hfrom := hfrom.al (.cells #[.int .i64 (b + k), .int .i64 TK, .slice A8 n8 c8] 31); replace hs8 := hs8.al (.cells #[.int .i64 (b + k), .int .i64 TK, .slice A8 n8 c8] 31)
        (try clear cX6 fX6); have cX6 := X6.cell; have fX6 := X6.frozen
        go_wp2_with fail
        refine (sameLog_eq (b + k) TK _ _ _ _ _ _ _ _ _ hs6 hs8 rfl).mono ?_
        rintro e w9 ⟨rfl, hb9⟩
        go_wp2_with fail
        go_ret
        exact ⟨rfl, hfrom.out.trans (hb9.mono hfrom.size)⟩
set_option maxRecDepth 100000 in
theorem trimMatch_lifted (os : Os) (started : os.Started) (H : Type) (enc : TypeId × Value → H) :
  ReturnsInHanded {} Try.checked os 8 .any (Rows.trimMatchSpec.pre6 enc Try.prog Try.f8 Rows.trimMatchRow.domain false) (Rows.trimMatchSpec.post enc Try.prog Try.f8 false true false false) := by
  refine returnsInHanded_of_change (C := Try.checked) Try.own started (by kernel_rfl) Try.func8 (ChangeSpec.witness6 (enc := enc) (C := Try.checked) false ⟨#[], #[.slice none 0 0, .int .i64 0, .int .i64 0, .slice none 0 0], []⟩ 8 (by kernel_rfl) (by kernel_rfl) (by kernel_rfl) (by kernel_rfl)) ?_
  intro W base args ds gs before hval0 hW hcnd _
  have hval : ∀ (j : Nat) t v, Try.f8.params[j]? = some t → args[j]? = some v → Value.okWide Try.prog W .any base t v := hval0
  have hW' := hW
  obtain ⟨p, q, hA0, hV, rfl, hfz, hnd⟩ := hW
  have hA : DataW.TrodAll enc Try.prog W 0 (fun _ => true) true Try.f8.params.toList args.toList ds p := hA0
  rw [Try.params8] at hA hval
  obtain ⟨rfl, rfl⟩ := trodVars_none hV
  clear hA0 hval0 hcnd hV hfz hnd
  obtain ⟨v0, v1, v2, v3, d0, d1, d2, d3, p0, p1, p2, p3, rfl, rfl, rfl, h0, h1, h2, h3⟩ := trodAll_four hA
  obtain ⟨A, n, c, l, rfl, hd, hS⟩ := open_deeds (hval 0 37 v0 rfl rfl) h0
  obtain ⟨m1, rfl, rfl, rfl, w1⟩ := open_int Try.underlying3 (hval 1 3 v1 rfl rfl) h1
  obtain ⟨m2, rfl, rfl, rfl, w2⟩ := open_int Try.underlying3 (hval 2 3 v2 rfl rfl) h2
  obtain ⟨B, m, d, more, rfl, hd2, hS2⟩ := open_deeds (hval 3 37 v3 rfl rfl) h3
  refine (trimMatch_walk A n c l m1 m2 B m d more W hS hd (i64_bounds w1) (i64_bounds w2) hS2 hd2).mono fun e W' ⟨he, hb⟩ => ?_
  subst he
  exact ⟨_, rfl, post_law Try.laidOut hW' rfl (by kernel_rfl) rfl Try.underlying4 (fun _ => rfl) (fun _ => rfl) (fun _ => rfl) hb⟩
theorem trimMatch_holds : Rows.TrimMatchSaid := OpenClaim.holds_of_wide 8 Try.f8 rfl rfl rfl rfl rfl rfl rfl ⟨rfl, rfl, rfl, rfl, rfl⟩ rfl rfl rfl rfl rfl (by kernel_rfl) Try.func8 (by kernel_rfl)
  (of_decide_eq_true (by kernel_rfl)) (by unfold Func.isWrapper; first | (rw [if_pos (by decide +kernel)]; kernel_rfl) | (rw [if_neg (by decide +kernel)]; exact ⟨rfl, rfl⟩))
  (fun os started H enc _ => trimMatch_lifted os started H enc)
#print axioms trimMatch_holds
end Go.Proofs.Ytaldmianlmgloab
