/- rostrumkeep.MatchBelow returns true for every input and leaves its arguments as they were; no condition. -/
import Derived.Test.YtaldmianlmgloaaMatchL
import Derived.Test.YtaldmianlmgloaaMatchBad
namespace Go.Proofs.Ytaldmianlmgloaa
set_option linter.all false
open Go.ChangeShapes Go.WideShapes Go.ChangeAt Go.RowKit
theorem check_nop {t m : Int} (h1 : 1 ≤ t) (h2 : t ≤ 1048576) (h3 : 0 ≤ m) (h4 : m ≤ 1073741824) : checkItem (nopAt t m) = 0 := by
  unfold checkItem nopAt
  rw [if_neg (by simp; omega)]
  simp [Itm.zero, zeroCmd_call]
theorem chain_nops : ∀ (j : Nat) (t : Int) (L : List Itm), t ≤ 2 → chainOk 2 0 L = true → chainOk t 0 (List.replicate j (nopAt 2 0) ++ L) = true
  | 0, t, L, ht, h => by
    cases L with
    | nil => rfl
    | cons x L =>
      obtain ⟨h1, h2, h3, h4⟩ := chain_head h
      have a1 : decide (x.term < t) = false := by simp; omega
      have a2 : decide (x.time < 0) = false := by simp; omega
      simp only [List.replicate_zero, List.nil_append, chainOk, h1, a1, a2, h4]; rfl
  | j + 1, t, L, ht, h => by
    have a1 : decide ((nopAt 2 0).term < t) = false := by show decide ((2 : Int) < t) = false; simp; omega
    have a2 : decide ((nopAt 2 0).time < 0) = false := by simp [nopAt]
    have ih := chain_nops j 2 L (by omega) h
    rw [List.replicate_succ, List.cons_append]
    simp only [chainOk, check_nop (t := 2) (m := 0) (by omega) (by omega) (by omega) (by omega), a1, a2]
    simpa [nopAt] using ih
theorem below_ok {b : Int} {L : List Itm} {k j : Nat} {of : Int} (hg : checkLog b 2 L = 0) (hb : b < 12) (hk : b = k + j) (hj : 0 < j) (hl : L.length ≤ 30) (hof : (k = 0 ∧ of = 0) ∨ (0 < k ∧ of = 1)) :
    checkLog k of (List.replicate j (nopAt 2 0) ++ L) = 0 := by
  obtain ⟨g1, g2, g3, g4, g5, g6, g7⟩ := log_good hg
  refine checkLog_ok (by omega) (by omega) (by omega) (by omega) ?_ ?_ (chain_nops j of L (by omega) g7)
  · simp; omega
  · simp; omega
theorem below_match {b : Int} {L : List Itm} {k j : Nat} {of : Int} (hok : checkLog k of (List.replicate j (nopAt 2 0) ++ L) = 0) (hk : b = k + j) (hj : 0 < j) :
    matchOf b 2 L k of (List.replicate j (nopAt 2 0) ++ L) = ⟨some L, true, 0, 0⟩ := by
  rw [match_i (j := j) hok (by omega) hj (by simp)]
  rw [List.drop_left' (by simp)]
  exact tail_none (by rw [List.drop_zero]; exact fresh_self L)
set_option maxRecDepth 100000 in
set_option maxHeartbeats 8000000 in
theorem matchBelow_walk (A : Option Addr) (n c : Nat) (l : List DeedD) (base at_ : Int) (w : World) (hS : Sl w 8 A n c (deedRows l)) (hd : ∀ d ∈ l, d.ok) (hb : I64 base) (hat : I64 at_) :
    Calls Try.prog 13 #[.slice A n c, .int .i64 base, .int .i64 at_] w fun e w' => e = .returned (.bool true) ∧ Below w.heap.size w w' := by
  have q1 := picked_lo base 11 (by omega)
  have q2 := picked_hi base 11 (by omega)
  have hP := fun w => picked_any base 11 w hb.1 hb.2 (by omega) (by omega)
  generalize picked base 11 = p at q1 q2 hP
  have HP := hide hP; clear hP
  obtain ⟨b, bt, L, hG, hbe, hbt, -, HL⟩ := Log_good A n c l (1 + p) ⟨by omega, by omega⟩ hd
  clear hd
  obtain ⟨g1, g2, g3, g4, g5, g6⟩ := hG
  have hpk : picked (1 + p) 12 = 1 + p := by unfold picked; rw [if_neg (by omega)]; omega
  have hb1 : b = 1 + p := by rw [hbe]; unfold baseOf; exact hpk
  have hbt2 : bt = 2 := by rw [hbt]; unfold btOf; rw [hpk, if_neg (by simp; omega)]
  subst hbt2
  clear hpk hbe hbt
  have hpos : 1 ≤ b := by omega
  clear hb1
  have r1 := picked_lo at_ b (by omega)
  have r2 := picked_hi at_ b (by omega)
  have hR := fun w => picked_any at_ b w hat.1 hat.2 (by omega) (by omega)
  obtain ⟨k, hk⟩ := Int.eq_ofNat_of_zero_le r1
  rw [hk] at hR r2
  have HR := hide hR; clear hR hk r1
  obtain ⟨J, hJ⟩ : ∃ J : Nat, b = k + J := ⟨(b - k).toNat, by omega⟩
  have hJ0 : 0 < J := by omega
  have hof : ∃ of : Int, (k = 0 ∧ of = 0) ∨ (0 < k ∧ of = 1) := by
    by_cases h : k = 0
    · exact ⟨0, .inl ⟨h, rfl⟩⟩
    · exact ⟨1, .inr ⟨by omega, rfl⟩⟩
  obtain ⟨of, hof⟩ := hof
  have hok := below_ok g1 g3 hJ hJ0 g6 hof
  have hmo := below_match (b := b) hok hJ hJ0
  have hM := fun A c B m d w (h : Sl w 10 A L.length c (itemRows L)) (h2 : Sl w 10 B m d (itemRows (List.replicate J (nopAt 2 0) ++ L))) => Match_some b 2 A _ c L k of B m d _ w ⟨by omega, by omega⟩ ⟨by omega, by omega⟩ h g1 ⟨by omega, by omega⟩ ⟨by omega, by omega⟩ h2 hok hmo
  have HM := hide hM; have HOF := hide hof; have HJ := hide hJ
  clear hM hok hmo g1 hof
  have hkJ : (k : Int) + J = b := by omega
  have HkJ := hide hkJ
  clear hJ hkJ
  have hwp : IntKind.i64.wrap (1 + p) = 1 + p := IntWalk.i64_in _ (by omega)
  have hnop : (nopAt 2 0).cells = [.int .i64 2, .int .i64 0, .bool true, .int .i64 0, .int .i64 0, .int .i64 0, .string emp, .string emp, .string emp, .int .i64 0] := rfl
  have HN := hide hnop; clear hnop
  go_enter Try.func13, Try.ntmps13
  go_wp2_with fail
  refine (HP.out _).mono ?_
  rintro e w' ⟨rfl, rfl⟩
  go_wp2_with fail
  refine (HL.out _ hS).mono ?_
  rintro e w1 ⟨A', c', rfl, hsl, hb1⟩
  have hz1 : w.heap.size ≤ w1.heap.size := hb1.size
  have Bg := Blk.new w1 43 #[.int .i64 b, .int .i64 2, .slice A' L.length c']
  replace hsl := hsl.al (.cells #[.int .i64 b, .int .i64 2, .slice A' L.length c'] 43)
  (try clear cBg fBg); have cBg := Bg.cell; have fBg := Bg.frozen
  go_wp2_with fail
  refine (HR.out _).mono ?_
  rintro e w' ⟨rfl, rfl⟩
  go_wp2_with fail
  clear cBg fBg
  go_loopw [9, 10] (fun s9 s10 wr => ∃ j : Nat, j ≤ J ∧ s10 = .int .i64 ((k : Int) + j) ∧ (∃ A n c, s9 = .slice A n c) ∧ Own wr (w1.heap.size + 1) 48 10 s9 (itemRows (List.replicate j (nopAt 2 0))) ∧
      Below (w1.alloc (.cells #[.int .i64 b, .int .i64 2, .slice A' L.length c'] 43)).heap.size (w1.alloc (.cells #[.int .i64 b, .int .i64 2, .slice A' L.length c'] 43)) wr)
    (fun _ s10 _ => (b - intOf s10).toNat)
  case atStart => exact ⟨0, by omega, by simp, ⟨_, _, _, rfl⟩, Own.nil, Below.refl _ _⟩
  case round =>
    obtain ⟨j, hj, rfl, HA, hown, hbr⟩ := hrel
    obtain ⟨A2, n2, c2, rfl⟩ := HA
    have Br := Bg.bl hbr
    have hsr := hsl.bl hbr
    have hzr : w1.heap.size + 1 ≤ wr.heap.size := by have := hbr.size; simp at this; omega
    have hww : Below w.heap.size w wr := (Below.trans (by repeat (first | (with_reducible exact Below.refl _ _) | (with_reducible assumption) | (with_reducible refine Below.drew ?_) | (with_reducible refine bdrewN ?_ _) | (with_reducible refine balloc ?_ _) | ((with_reducible refine bset ?_ ?_ _); rotate_left; (focus first | exact Nat.le_refl _ | (simp; done) | (simp; omega) | omega)) | (with_reducible refine bstep ?_ (by with_reducible assumption)) | (with_reducible refine Below.trans ?_ (by with_reducible assumption)))) (hbr.mono (by simp; omega)) : Below w.heap.size w wr)
    (try clear cBr fBr); have cBr := Br.cell; have fBr := Br.frozen
    by_cases hlt : j < J
    · have hlt' : (k : Int) + j < b := by have := HkJ.out; omega
      go_wp2_with (at_builtin; refine wpList_push rfl _ _ _ rfl Try.underlying41 item_info rfl (by decide) (by rfl) hown rfl (by rfl) rfl (item_cells_one (nopAt 2 0)) ?_ ?_ ?_ ?_)
      · rw [itemRows_length, List.length_replicate]; unfold maxLen; omega
      · rw [itemRows_length, List.length_replicate]; omega
      · omega
      · intro v' w2 hown2 hb2 hz3
        have hown3 : Own w2 (w1.heap.size + 1) 48 10 v' (itemRows (List.replicate (j + 1) (nopAt 2 0))) := by
          rw [List.replicate_succ', itemRows_snoc]; exact hown2
        go_wp2_with fail
        go_roundw
        case rel => exact ⟨j + 1, by omega, by simp; omega, (by obtain ⟨A3, c3, e3, _⟩ := hown3.sl; exact ⟨A3, _, c3, e3⟩), hown3, hbr.trans (hb2.mono (by simp))⟩
        case measure => simp [intOf]; omega
    · obtain rfl : j = J := by omega
      have hge : ¬ ((k : Int) + j < b) := by have := HkJ.out; omega
      have hjb : (k : Int) + j = b := HkJ.out
      have hown0 : (itemRows (List.replicate j (nopAt 2 0))).length = j := by rw [itemRows_length, List.length_replicate]
      go_wp2_with (at_builtin; refine wpList_pushes rfl _ _ _ rfl Try.underlying41 item_info rfl (by decide) (by rfl) hown (by rfl) hsr (item_one _) ?_ ?_ (by omega) ?_)
      · unfold maxLen; omega
      · omega
      · intro A3 n3 c3 w3 hown3 hb3
        rw [show itemRows (List.replicate j (nopAt 2 0)) ++ itemRows L = itemRows (List.replicate j (nopAt 2 0) ++ L) by simp [itemRows]] at hown3
        have hbr3 : Below (w1.alloc (.cells #[.int .i64 b, .int .i64 2, .slice A' L.length c'] 43)).heap.size (w1.alloc (.cells #[.int .i64 b, .int .i64 2, .slice A' L.length c'] 43)) w3 := hbr.trans (hb3.mono (by simp))
        have hww3 : Below w.heap.size w w3 := (Below.trans (by repeat (first | (with_reducible exact Below.refl _ _) | (with_reducible assumption) | (with_reducible refine Below.drew ?_) | (with_reducible refine bdrewN ?_ _) | (with_reducible refine balloc ?_ _) | ((with_reducible refine bset ?_ ?_ _); rotate_left; (focus first | exact Nat.le_refl _ | (simp; done) | (simp; omega) | omega)) | (with_reducible refine bstep ?_ (by with_reducible assumption)) | (with_reducible refine Below.trans ?_ (by with_reducible assumption)))) (hbr3.mono (by simp; omega)) : Below w.heap.size w w3)
        have Br3 := Bg.bl hbr3
        have hsr3 := hsl.bl hbr3
        have hms := hown3.sl'
        have hn3 := rows_len hms
        clear hown0 cBr fBr hjb hge
        (try clear cBr3 fBr3); have cBr3 := Br3.cell; have fBr3 := Br3.frozen
        have HOF' := HOF.out
        have hk2 : ∃ B : Bool, ((k : Int) == 0) = B ∧ of = (if B = true then 0 else 1) := by
          rcases HOF' with ⟨h1, h2⟩ | ⟨h1, h2⟩
          · exact ⟨true, by simp [h1], by simp [h2]⟩
          · exact ⟨false, by simp; omega, by simp [h2]⟩
        obtain ⟨B, hkB, hoB⟩ := hk2
        clear HOF'
        cases B
        all_goals
          simp only [Bool.false_eq_true, if_false, if_true] at hoB
          subst hoB
          go_wp2_with fail
          refine (HM.out _ _ _ _ _ _ hsr3 hms).mono ?_
          rintro e w4 ⟨A4, n4, c4, rfl, hs4, hb4⟩
          have Br4 := Br3.bl hb4
          have hsr4 := hsr3.bl hb4
          have X4 := Blk.new w4 43 #[.int .i64 b, .int .i64 2, .slice A4 n4 c4]
          replace Br4 := Br4.al (.cells #[.int .i64 b, .int .i64 2, .slice A4 n4 c4] 43); replace hsr4 := hsr4.al (.cells #[.int .i64 b, .int .i64 2, .slice A4 n4 c4] 43); replace hs4 := hs4.al (.cells #[.int .i64 b, .int .i64 2, .slice A4 n4 c4] 43)
          clear cBr3 fBr3
          (try clear cBr4 fBr4); have cBr4 := Br4.cell; have fBr4 := Br4.frozen; (try clear cX4 fX4); have cX4 := X4.cell; have fX4 := X4.frozen
          go_wp2_with fail
          try go_quiet (fail)
          try go_wp2_with fail
          refine (sameLog_eq b 2 _ _ _ _ _ _ _ _ _ hs4 hsr4 rfl).mono ?_
          rintro e w5 ⟨rfl, hb5⟩
          go_wp2_with fail
          go_ret
          exact ⟨rfl, (by repeat (first | (with_reducible exact Below.refl _ _) | (with_reducible assumption) | (with_reducible refine Below.drew ?_) | (with_reducible refine bdrewN ?_ _) | (with_reducible refine balloc ?_ _) | ((with_reducible refine bset ?_ ?_ _); rotate_left; (focus first | exact Nat.le_refl _ | (simp; done) | (simp; omega) | omega)) | (with_reducible refine bstep ?_ (by with_reducible assumption)) | (with_reducible refine Below.trans ?_ (by with_reducible assumption))))⟩
set_option maxRecDepth 100000 in
theorem matchBelow_lifted (os : Os) (started : os.Started) (H : Type) (enc : TypeId × Value → H) :
  ReturnsInHanded {} Try.checked os 13 .any (Rows.matchBelowSpec.pre6 enc Try.prog Try.f13 Rows.matchBelowRow.domain false) (Rows.matchBelowSpec.post enc Try.prog Try.f13 false true false false) := by
  refine returnsInHanded_of_change (C := Try.checked) Try.own started (by kernel_rfl) Try.func13 (ChangeSpec.witness6 (enc := enc) (C := Try.checked) false ⟨#[], #[.slice none 0 0, .int .i64 0, .int .i64 0], []⟩ 8 (by kernel_rfl) (by kernel_rfl) (by kernel_rfl) (by kernel_rfl)) ?_
  intro W base args ds gs before hval0 hW hcnd _
  have hval : ∀ (j : Nat) t v, Try.f13.params[j]? = some t → args[j]? = some v → Value.okWide Try.prog W .any base t v := hval0
  have hW' := hW
  obtain ⟨p, q, hA0, hV, rfl, hfz, hnd⟩ := hW
  have hA : DataW.TrodAll enc Try.prog W 0 (fun _ => true) true Try.f13.params.toList args.toList ds p := hA0
  rw [Try.params13] at hA hval
  obtain ⟨rfl, rfl⟩ := trodVars_none hV
  clear hA0 hval0 hcnd hV hfz hnd
  obtain ⟨v0, v1, v2, d0, d1, d2, p0, p1, p2, rfl, rfl, rfl, h0, h1, h2⟩ := trodAll_three hA
  obtain ⟨A, n, c, l, rfl, hd, hS⟩ := open_deeds (hval 0 40 v0 rfl rfl) h0
  obtain ⟨m1, rfl, rfl, rfl, w1⟩ := open_int Try.underlying3 (hval 1 3 v1 rfl rfl) h1
  obtain ⟨m2, rfl, rfl, rfl, w2⟩ := open_int Try.underlying3 (hval 2 3 v2 rfl rfl) h2
  refine (matchBelow_walk A n c l m1 m2 W hS hd (i64_bounds w1) (i64_bounds w2)).mono fun e W' ⟨he, hb⟩ => ?_
  subst he
  exact ⟨_, rfl, post_law Try.laidOut hW' rfl (by kernel_rfl) rfl Try.underlying4 (fun _ => rfl) (fun _ => rfl) (fun _ => rfl) hb⟩
theorem matchBelow_holds : Rows.MatchBelowSaid := OpenClaim.holds_of_wide 13 Try.f13 rfl rfl rfl rfl rfl rfl rfl ⟨rfl, rfl, rfl, rfl, rfl⟩ rfl rfl rfl rfl rfl (by kernel_rfl) Try.func13 (by kernel_rfl)
  (of_decide_eq_true (by kernel_rfl)) (by unfold Func.isWrapper; first | (rw [if_pos (by decide +kernel)]; kernel_rfl) | (rw [if_neg (by decide +kernel)]; exact ⟨rfl, rfl⟩))
  (fun os started H enc _ => matchBelow_lifted os started H enc)
#print axioms matchBelow_holds
end Go.Proofs.Ytaldmianlmgloaa
