/- rostrumkeep.TimeRuns returns true for every input; no condition. -/
import Derived.Test.YtpdadlofgfdlpaaStoT
import Derived.Test.YtpdadlofgfdlpaaKeysApart
namespace Go.Proofs.Ytpdadlofgfdlpaa
set_option linter.all false
open Go.ChangeShapes Go.WideShapes Go.ChangeAt Go.RowKit
theorem alive_take {t : Int} {l : List En} {k : Nat} (hk : k < l.length) : alive t (l.take (k + 1)) = alive t (l.take k) ++ (if gone t l[k] = true then [] else [l[k]]) := by
  rw [List.take_succ_eq_append_getElem hk]
  unfold alive
  rw [List.filter_append]
  congr 1
  cases h : gone t l[k] <;> simp [h]
theorem ent_alive {now t : Int} {l : List En} {k : Nat} (ok : StOk now l) (h0 : now ≤ t) (h1 : t ≤ 1073741824) (hk : k < l.length) : entV (alive t l) l[k].key = if gone t l[k] = true then (zeroVa, 0, false) else (l[k].val, l[k].till, true) := by
  cases h : gone t l[k] with
  | false => exact entV_mem (alive_ok ok h0 h1).rise (alive_mem.2 ⟨List.getElem_mem hk, h⟩) rfl
  | true =>
    refine entV_none fun x hx e => ?_
    obtain ⟨hx1, hx2⟩ := alive_mem.1 hx
    have := key_one (rk_ne ok.rise) hx1 (List.getElem_mem hk) e
    rw [this, h] at hx2; cases hx2
set_option maxRecDepth 100000 in
set_option maxHeartbeats 8000000 in
theorem timeRuns_walk (A : Option Addr) (n c : Nat) (l : List StepD) (wt : Int) (w : World) (hS : Sl w 6 A n c (stepRows l)) (hd : ∀ d ∈ l, d.ok) (hw : I64 wt) :
    Calls Try.prog 14 #[.slice A n c, .int .i64 wt] w fun e w' => e = .returned (.bool true) ∧ Below w.heap.size w w' := by
  have hnl := step_len hS
  have hcm := hS.cm
  have hnc := hS.nc
  unfold maxLen at hcm
  subst hnl
  obtain ⟨J, hJ⟩ : ∃ J, J = min l.length 39 := ⟨_, rfl⟩
  have hJl : J ≤ l.length := by omega
  have hJ39 : J ≤ 39 := by omega
  have hif : min (l.length : Int) 39 = (J : Int) := by omega
  have hif2 : (if (39 : Int) < (l.length : Int) then (39 : Int) else (l.length : Int)) = (J : Int) := by split <;> omega
  have hS' := hS.take J hJl c (by omega) (Nat.le_refl _)
  have hst : (stepRows l).take J = stepRows (l.take J) := by simp [stepRows]
  rw [hst] at hS'
  have hsl := fun w => run_take Try.underlying55 step_size A l.length c J (by omega) w
  have hd' : ∀ d ∈ l.take J ++ [putStep], d.ok := fun d hm => by
    rcases List.mem_append.1 hm with hm | hm
    · exact hd d (List.mem_of_mem_take hm)
    · rw [List.mem_singleton] at hm; subst hm; exact putStep_ok
  have hlt : (l.take J).length = J := by rw [List.length_take]; omega
  have hF := fun A n c w (h : Sl w 6 A n c (stepRows (l.take J) ++ [putStep.cells])) => Store_any A n c (l.take J ++ [putStep]) w (step_app _ _ ▸ h) hd'
  obtain ⟨ok, hn, hpos⟩ := store_put (l.take J) (by omega)
  have hone := step_one (l.take J)
  have hrl : (stepRows (l.take J)).length = J := by simp [stepRows]; omega
  clear hst hJ hd
  generalize storeOf (l.take J ++ [putStep]) = s at *
  generalize stepRows (l.take J) = sr at *
  obtain ⟨now, es⟩ := s
  simp only at ok hn hpos
  have h0 := ok.now0
  have KF := hide hF
  clear hF hd' hlt
  have p0 := picked_lo wt 90 (by omega)
  have p1 := picked_hi wt 90 (by omega)
  have hp := fun w => picked_any wt 90 w hw.1 hw.2 (by omega) (by omega)
  generalize picked wt 90 = p at *
  have KP := hide hp
  have wp : IntKind.i64.wrap (now + p) = now + p := IntWalk.i64_in _ (by omega)
  obtain ⟨NE, hNE⟩ : ∃ NE, NE = es.length := ⟨_, rfl⟩
  have hap := apply_keys ok (show now ≤ now + p by omega) (by omega)
  have K1 := hide (Apply_may ok _ _ _ hap (by omega) (by omega))
  have oka := alive_ok ok (show now ≤ now + p by omega) (by omega)
  have KE0 := hide (fun key A n c w (h : St w A n c (alive (now + p) es)) => entry_val (now + p) A n c _ key w h (by have := oka.few; omega) oka.rise)
  have h12 : NE ≤ 12 := by have := ok.few; omega
  have hkl : ((alive (now + p) es).map En.key).length = (alive (now + p) es).length := List.length_map _
  have hfull : es.take NE = es := List.take_of_length_le (by omega)
  have hal : (alive (now + p) es).length ≤ 12 := oka.few
  have HNE := hide hNE; have HKL := hide hkl; have HFULL := hide hfull
  have HSP0 := hide (fun k (hk : k < es.length) => alive_take (t := now + p) hk)
  have HEN := hide (fun k (hk : k < es.length) => ent_alive (k := k) ok (show now ≤ now + p by omega) (by omega) hk)
  clear hap ok oka hNE hkl hfull hp hw
  go_enter Try.func14, Try.ntmps14
  go_wp2_with (at_builtin; refine wpList_pushes rfl _ _ _ rfl Try.underlying55 step_info rfl (by decide) (base := w.heap.size) (rows := []) rfl ?ho rfl ?hs hone ?h63 ?hby ?hba ?hk)
  try (case ho => exact Own.nil)
  try (case hs => exact hS')
  try (case h63 => first | (simp [maxLen]; omega) | (unfold maxLen; omega))
  try (case hby => first | omega | (simp; omega))
  try (case hba => simp)
  case hk =>
  intro P1 p1 r1 w1 O1 hb1
  try simp only [List.nil_append] at O1
  have hq1 := hb1.size
  
  go_wp2_with (at_builtin; refine wpList_pushes rfl _ _ _ rfl Try.underlying55 step_info rfl (by decide) (base := w.heap.size) (rows := sr) rfl ?ho2 rfl ?hs2 (one_step putStep) ?h632 ?hby2 ?hba2 ?hk2)
  try (case ho2 => exact O1.al _)
  try (case hs2 => exact Sl.of_blk (rows := [putStep.cells]) (Blk.new' _ _ _ (by simp)) rfl (by intro r hr; rw [List.mem_singleton] at hr; subst hr; rfl) rfl (by simp [maxLen]))
  try (case h632 => first | (simp [maxLen]; omega) | (unfold maxLen; omega))
  try (case hby2 => first | omega | (simp; omega))
  try (case hba2 => first | omega | (simp; omega))
  case hk2 =>
  intro P2 p2 r2 w2 O2 hb2
  replace KF := hide (KF.out _ _ _ w2 O2.sl')
  have q2 : Below w.heap.size w w2 := (by repeat (first | (with_reducible exact Below.refl _ _) | (with_reducible assumption) | (with_reducible refine Below.drew ?_) | (with_reducible refine bdrewN ?_ _) | (with_reducible refine balloc ?_ _) | ((with_reducible refine bset ?_ ?_ _); rotate_left; (focus first | exact Nat.le_refl _ | (simp; done) | (simp; omega) | omega)) | (with_reducible refine bstep ?_ (by with_reducible assumption)) | (with_reducible refine Below.trans ?_ (by with_reducible assumption))))
  have hq2 := q2.size
  clear O1 O2 hb1 hb2
  go_wp2_with fail
  refine KF.out.mono ?_
  rintro e w3 ⟨A1, n1, c1, rfl, M1, hb3⟩
  have q : Below w.heap.size w w3 := (by repeat (first | (with_reducible exact Below.refl _ _) | (with_reducible assumption) | (with_reducible refine Below.drew ?_) | (with_reducible refine bdrewN ?_ _) | (with_reducible refine balloc ?_ _) | ((with_reducible refine bset ?_ ?_ _); rotate_left; (focus first | exact Nat.le_refl _ | (simp; done) | (simp; omega) | omega)) | (with_reducible refine bstep ?_ (by with_reducible assumption)) | (with_reducible refine Below.trans ?_ (by with_reducible assumption))))
  clear hb3 q2 KF
  have D1 := Blk.new w3 25 #[.int .i64 (now), .slice A1 n1 c1]
  replace M1 := M1.al (.cells #[.int .i64 (now), .slice A1 n1 c1] 25)
  go_wp2_with fail
  refine (KP.out _).mono ?_
  rintro e w' ⟨rfl, rfl⟩
  (try clear cD1 fD1); have cD1 := D1.cell; have fD1 := D1.frozen
  go_wp2_with fail
  refine (K1.out _ _ _ _ M1).mono ?_; rintro e w4 ⟨A2, n2, c2, Y2, m2, d2, rfl, M2, L2, T2, hb2⟩; replace M1 := M1.bl hb2; replace D1 := D1.bl hb2; replace q : Below w.heap.size w w4 := (by repeat (first | (with_reducible exact Below.refl _ _) | (with_reducible assumption) | (with_reducible refine Below.drew ?_) | (with_reducible refine bdrewN ?_ _) | (with_reducible refine balloc ?_ _) | ((with_reducible refine bset ?_ ?_ _); rotate_left; (focus first | exact Nat.le_refl _ | (simp; done) | (simp; omega) | omega)) | (with_reducible refine bstep ?_ (by with_reducible assumption)) | (with_reducible refine Below.trans ?_ (by with_reducible assumption)))); clear hb2
  have D2 := Blk.new w4 25 #[.int .i64 ((now + p)), .slice A2 n2 c2]; replace M2 := M2.al (.cells #[.int .i64 ((now + p)), .slice A2 n2 c2] 25); replace L2 := L2.al (.cells #[.int .i64 ((now + p)), .slice A2 n2 c2] 25); replace M1 := M1.al (.cells #[.int .i64 ((now + p)), .slice A2 n2 c2] 25); replace D1 := D1.al (.cells #[.int .i64 ((now + p)), .slice A2 n2 c2] 25); have R2 : Blk ((w4.alloc (.cells #[.int .i64 ((now + p)), .slice A2 n2 c2] 25)).alloc (.cells #[.int .i64 (0), .string emp, .int .i64 (0), .slice Y2 m2 d2] 49)) (w4.heap.size + 1) 49 #[.int .i64 (0), .string emp, .int .i64 (0), .slice Y2 m2 d2] := Blk.new' _ _ _ (by simp); replace M2 := M2.al (.cells #[.int .i64 (0), .string emp, .int .i64 (0), .slice Y2 m2 d2] 49); replace L2 := L2.al (.cells #[.int .i64 (0), .string emp, .int .i64 (0), .slice Y2 m2 d2] 49); replace D2 := D2.al (.cells #[.int .i64 (0), .string emp, .int .i64 (0), .slice Y2 m2 d2] 49); replace M1 := M1.al (.cells #[.int .i64 (0), .string emp, .int .i64 (0), .slice Y2 m2 d2] 49); replace D1 := D1.al (.cells #[.int .i64 (0), .string emp, .int .i64 (0), .slice Y2 m2 d2] 49)
  clear T2 K1 KP
  obtain rfl : n1 = NE := by have := M1.sl.len; have := HNE.out; omega
  have hm2 : m2 = n2 := by have h1 : ((alive (now + p) es).map En.key).length = m2 := (by have := L2.len; simpa [strRows] using this); have h2 : (alive (now + p) es).length = n2 := M2.sl.len; have := HKL.out; omega
  obtain rfl := hm2
  have HM2 := hide (show (alive (now + p) es).length = m2 from M2.sl.len)
  clear L2
  go_wp2_with fail
  have q0 : Below w.heap.size w ((w4.alloc (.cells #[.int .i64 (now + p), .slice A2 m2 c2] 25)).alloc (.cells #[.int .i64 (0), .string emp, .int .i64 (0), .slice Y2 m2 d2] 49)) := (by repeat (first | (with_reducible exact Below.refl _ _) | (with_reducible assumption) | (with_reducible refine Below.drew ?_) | (with_reducible refine bdrewN ?_ _) | (with_reducible refine balloc ?_ _) | ((with_reducible refine bset ?_ ?_ _); rotate_left; (focus first | exact Nat.le_refl _ | (simp; done) | (simp; omega) | omega)) | (with_reducible refine bstep ?_ (by with_reducible assumption)) | (with_reducible refine Below.trans ?_ (by with_reducible assumption))))
  obtain ⟨W0, hW0⟩ : ∃ W0, W0 = (w4.alloc (.cells #[.int .i64 (now + p), .slice A2 m2 c2] 25)).alloc (.cells #[.int .i64 (0), .string emp, .int .i64 (0), .slice Y2 m2 d2] 49) := ⟨_, rfl⟩
  rw [← hW0] at M1 D1 M2 D2 R2 q0 ⊢
  clear hW0 q
  go_loopw [10, 11] (fun s10 s11 wr => ∃ k : Nat, k ≤ n1 ∧ s11 = .int .i64 (k : Int) ∧ ∃ C : Nat, s10 = .int .i64 (C : Int) ∧ C ≤ k ∧ Hid (C = (alive (now + p) (es.take k)).length) ∧ Below W0.heap.size W0 wr) (fun _ s11 _ => n1 - (intOf s11).toNat)
  case atStart => exact ⟨0, by omega, rfl, 0, rfl, by omega, hide rfl, Below.refl _ _⟩
  case round =>
    obtain ⟨k, hk, rfl, C, rfl, hCk, HC, hbr⟩ := hrel
    have Dr := D1.below' hbr; have D2r := D2.below' hbr; have Rr := R2.below' hbr
    by_cases hlt : k < n1
    · have hke : k < es.length := by have := HNE.out; omega
      obtain ⟨bb, oo, F1, f1, g1, F2, f2, g2, F3, f3, g3, rfl, hbb, E, N, -⟩ := (M1.bl hbr).sl.at_ hke
      have M2r := M2.bl hbr
      have hsp := HSP0.out k hke
      have hen := HEN.out k hke
      have KE := hide (fun A n c w h => KE0.out es[k].key A n c w h)
      have hgi := @gone_iff (now + p) es[k]
      generalize es[k] = x at E N hsp hen KE hgi
      obtain ⟨xk, ⟨vk, vt, vc, ps, is_, ss⟩, xt⟩ := x
      obtain ⟨e0, e1, e2, e3, e4, e5, e6, e7⟩ := E
      simp only at e0 e1 e2 e3 e7 KE hen hgi
      clear KE0 HSP0 HEN M1 M2 D1 D2 R2
      cases hg : gone (now + p) ⟨xk, ⟨vk, vt, vc, ps, is_, ss⟩, xt⟩
      · rw [hg] at hsp hen hgi
        rw [if_neg (by simp)] at hsp hen
        rw [hen] at KE
        have hst : xt = 0 ∨ now + p < xt := by
          have : ¬ (xt ≠ 0 ∧ xt ≤ now + p) := fun h => by have := hgi.2 h; cases this
          omega
        have HSP := hide hsp
        clear hsp hen hgi hg
        by_cases hx0 : xt = 0
        · subst hx0
          clear hst
          (try clear cDr fDr); have cDr := Dr.cell; have fDr := Dr.frozen; (try clear cD2r fD2r); have cD2r := D2r.cell; have fD2r := D2r.frozen; (try clear cRr fRr); have cRr := Rr.cell; have fRr := Rr.frozen
          have ld1 := Dr.lt
          have ld2 := D2r.lt
          go_wp2_with fail
          refine (KE.out _ _ _ _ (M2r.al _)).mono ?_
          rintro e w5 ⟨s5, B1, b1, d1, B2, b2, d2, B3, b3, d3, rfl, N5, hb5⟩
          have X := Blk.new wr 65 #[.string xk, .int .i64 vk, .string vt, .int .i64 vc, .slice F1 f1 g1, .slice F2 f2 g2, .slice F3 f3 g3, .int .i64 0]
          replace Dr := Dr.al (.cells #[.string xk, .int .i64 vk, .string vt, .int .i64 vc, .slice F1 f1 g1, .slice F2 f2 g2, .slice F3 f3 g3, .int .i64 0] 65); replace D2r := D2r.al (.cells #[.string xk, .int .i64 vk, .string vt, .int .i64 vc, .slice F1 f1 g1, .slice F2 f2 g2, .slice F3 f3 g3, .int .i64 0] 65); replace Rr := Rr.al (.cells #[.string xk, .int .i64 vk, .string vt, .int .i64 vc, .slice F1 f1 g1, .slice F2 f2 g2, .slice F3 f3 g3, .int .i64 0] 65); replace N := N.al (.cells #[.string xk, .int .i64 vk, .string vt, .int .i64 vc, .slice F1 f1 g1, .slice F2 f2 g2, .slice F3 f3 g3, .int .i64 0] 65)
          replace Dr := Dr.bl hb5; replace D2r := D2r.bl hb5; replace Rr := Rr.bl hb5; replace N := N.bl hb5; replace X := X.bl hb5
          have q5 : Below W0.heap.size W0 w5 := (by repeat (first | (with_reducible exact Below.refl _ _) | (with_reducible assumption) | (with_reducible refine Below.drew ?_) | (with_reducible refine bdrewN ?_ _) | (with_reducible refine balloc ?_ _) | ((with_reducible refine bset ?_ ?_ _); rotate_left; (focus first | exact Nat.le_refl _ | (simp; done) | (simp; omega) | omega)) | (with_reducible refine bstep ?_ (by with_reducible assumption)) | (with_reducible refine Below.trans ?_ (by with_reducible assumption))))
          clear hb5 KE M2r
          have Y := Blk.new w5 65 #[.string s5, .int .i64 vk, .string vt, .int .i64 vc, .slice B1 b1 d1, .slice B2 b2 d2, .slice B3 b3 d3, .int .i64 0]
          replace Dr := Dr.al (.cells #[.string s5, .int .i64 vk, .string vt, .int .i64 vc, .slice B1 b1 d1, .slice B2 b2 d2, .slice B3 b3 d3, .int .i64 0] 65); replace D2r := D2r.al (.cells #[.string s5, .int .i64 vk, .string vt, .int .i64 vc, .slice B1 b1 d1, .slice B2 b2 d2, .slice B3 b3 d3, .int .i64 0] 65); replace Rr := Rr.al (.cells #[.string s5, .int .i64 vk, .string vt, .int .i64 vc, .slice B1 b1 d1, .slice B2 b2 d2, .slice B3 b3 d3, .int .i64 0] 65); replace N := N.al (.cells #[.string s5, .int .i64 vk, .string vt, .int .i64 vc, .slice B1 b1 d1, .slice B2 b2 d2, .slice B3 b3 d3, .int .i64 0] 65); replace X := X.al (.cells #[.string s5, .int .i64 vk, .string vt, .int .i64 vc, .slice B1 b1 d1, .slice B2 b2 d2, .slice B3 b3 d3, .int .i64 0] 65); replace N5 := N5.al (.cells #[.string s5, .int .i64 vk, .string vt, .int .i64 vc, .slice B1 b1 d1, .slice B2 b2 d2, .slice B3 b3 d3, .int .i64 0] 65)
          (try clear cDr fDr); have cDr := Dr.cell; have fDr := Dr.frozen; (try clear cD2r fD2r); have cD2r := D2r.cell; have fD2r := D2r.frozen; (try clear cX fX); have cX := X.cell; have fX := X.frozen; (try clear cY fY); have cY := Y.cell; have fY := Y.frozen
          have lx1 := X.lt
          go_wp2_with fail
          refine (sameValue_eq ⟨_, _, _, _, _, _⟩ ⟨_, _, _, _, _, _⟩ _ _ _ _ _ _ _ _ _ _ _ _ _ _ _ _ _ _ _ N N5 rfl).mono ?_
          rintro e w6 ⟨rfl, hb6⟩
          replace q5 : Below W0.heap.size W0 w6 := (by repeat (first | (with_reducible exact Below.refl _ _) | (with_reducible assumption) | (with_reducible refine Below.drew ?_) | (with_reducible refine bdrewN ?_ _) | (with_reducible refine balloc ?_ _) | ((with_reducible refine bset ?_ ?_ _); rotate_left; (focus first | exact Nat.le_refl _ | (simp; done) | (simp; omega) | omega)) | (with_reducible refine bstep ?_ (by with_reducible assumption)) | (with_reducible refine Below.trans ?_ (by with_reducible assumption))))
          clear hb6
          go_wp2_with fail
          go_roundw
          case rel => exact ⟨k + 1, by omega, by go_num, C + 1, by go_num, by omega, hide (by rw [HSP.out, List.length_append, ← HC.out]; rfl), (by repeat (first | (with_reducible exact Below.refl _ _) | (with_reducible assumption) | (with_reducible refine Below.drew ?_) | (with_reducible refine bdrewN ?_ _) | (with_reducible refine balloc ?_ _) | ((with_reducible refine bset ?_ ?_ _); rotate_left; (focus first | exact Nat.le_refl _ | (simp; done) | (simp; omega) | omega)) | (with_reducible refine bstep ?_ (by with_reducible assumption)) | (with_reducible refine Below.trans ?_ (by with_reducible assumption))))⟩
          case measure => simp [intOf]; omega
        · have hx1 : (xt == 0) = false := by rw [beq_eq_false_iff_ne]; exact hx0
          have hx2 : now + p < xt := by omega
          clear hst
          (try clear cDr fDr); have cDr := Dr.cell; have fDr := Dr.frozen; (try clear cD2r fD2r); have cD2r := D2r.cell; have fD2r := D2r.frozen; (try clear cRr fRr); have cRr := Rr.cell; have fRr := Rr.frozen
          have ld1 := Dr.lt
          have ld2 := D2r.lt
          go_wp2_with fail
          refine (KE.out _ _ _ _ (M2r.al _)).mono ?_
          rintro e w5 ⟨s5, B1, b1, d1, B2, b2, d2, B3, b3, d3, rfl, N5, hb5⟩
          have X := Blk.new wr 65 #[.string xk, .int .i64 vk, .string vt, .int .i64 vc, .slice F1 f1 g1, .slice F2 f2 g2, .slice F3 f3 g3, .int .i64 xt]
          replace Dr := Dr.al (.cells #[.string xk, .int .i64 vk, .string vt, .int .i64 vc, .slice F1 f1 g1, .slice F2 f2 g2, .slice F3 f3 g3, .int .i64 xt] 65); replace D2r := D2r.al (.cells #[.string xk, .int .i64 vk, .string vt, .int .i64 vc, .slice F1 f1 g1, .slice F2 f2 g2, .slice F3 f3 g3, .int .i64 xt] 65); replace Rr := Rr.al (.cells #[.string xk, .int .i64 vk, .string vt, .int .i64 vc, .slice F1 f1 g1, .slice F2 f2 g2, .slice F3 f3 g3, .int .i64 xt] 65); replace N := N.al (.cells #[.string xk, .int .i64 vk, .string vt, .int .i64 vc, .slice F1 f1 g1, .slice F2 f2 g2, .slice F3 f3 g3, .int .i64 xt] 65)
          replace Dr := Dr.bl hb5; replace D2r := D2r.bl hb5; replace Rr := Rr.bl hb5; replace N := N.bl hb5; replace X := X.bl hb5
          have q5 : Below W0.heap.size W0 w5 := (by repeat (first | (with_reducible exact Below.refl _ _) | (with_reducible assumption) | (with_reducible refine Below.drew ?_) | (with_reducible refine bdrewN ?_ _) | (with_reducible refine balloc ?_ _) | ((with_reducible refine bset ?_ ?_ _); rotate_left; (focus first | exact Nat.le_refl _ | (simp; done) | (simp; omega) | omega)) | (with_reducible refine bstep ?_ (by with_reducible assumption)) | (with_reducible refine Below.trans ?_ (by with_reducible assumption))))
          clear hb5 KE M2r
          have Y := Blk.new w5 65 #[.string s5, .int .i64 vk, .string vt, .int .i64 vc, .slice B1 b1 d1, .slice B2 b2 d2, .slice B3 b3 d3, .int .i64 xt]
          replace Dr := Dr.al (.cells #[.string s5, .int .i64 vk, .string vt, .int .i64 vc, .slice B1 b1 d1, .slice B2 b2 d2, .slice B3 b3 d3, .int .i64 xt] 65); replace D2r := D2r.al (.cells #[.string s5, .int .i64 vk, .string vt, .int .i64 vc, .slice B1 b1 d1, .slice B2 b2 d2, .slice B3 b3 d3, .int .i64 xt] 65); replace Rr := Rr.al (.cells #[.string s5, .int .i64 vk, .string vt, .int .i64 vc, .slice B1 b1 d1, .slice B2 b2 d2, .slice B3 b3 d3, .int .i64 xt] 65); replace N := N.al (.cells #[.string s5, .int .i64 vk, .string vt, .int .i64 vc, .slice B1 b1 d1, .slice B2 b2 d2, .slice B3 b3 d3, .int .i64 xt] 65); replace X := X.al (.cells #[.string s5, .int .i64 vk, .string vt, .int .i64 vc, .slice B1 b1 d1, .slice B2 b2 d2, .slice B3 b3 d3, .int .i64 xt] 65); replace N5 := N5.al (.cells #[.string s5, .int .i64 vk, .string vt, .int .i64 vc, .slice B1 b1 d1, .slice B2 b2 d2, .slice B3 b3 d3, .int .i64 xt] 65)
          (try clear cDr fDr); have cDr := Dr.cell; have fDr := Dr.frozen; (try clear cD2r fD2r); have cD2r := D2r.cell; have fD2r := D2r.frozen; (try clear cX fX); have cX := X.cell; have fX := X.frozen; (try clear cY fY); have cY := Y.cell; have fY := Y.frozen
          have lx1 := X.lt
          go_wp2_with fail
          refine (sameValue_eq ⟨_, _, _, _, _, _⟩ ⟨_, _, _, _, _, _⟩ _ _ _ _ _ _ _ _ _ _ _ _ _ _ _ _ _ _ _ N N5 rfl).mono ?_
          rintro e w6 ⟨rfl, hb6⟩
          replace q5 : Below W0.heap.size W0 w6 := (by repeat (first | (with_reducible exact Below.refl _ _) | (with_reducible assumption) | (with_reducible refine Below.drew ?_) | (with_reducible refine bdrewN ?_ _) | (with_reducible refine balloc ?_ _) | ((with_reducible refine bset ?_ ?_ _); rotate_left; (focus first | exact Nat.le_refl _ | (simp; done) | (simp; omega) | omega)) | (with_reducible refine bstep ?_ (by with_reducible assumption)) | (with_reducible refine Below.trans ?_ (by with_reducible assumption))))
          clear hb6
          go_wp2_with fail
          go_roundw
          case rel => exact ⟨k + 1, by omega, by go_num, C + 1, by go_num, by omega, hide (by rw [HSP.out, List.length_append, ← HC.out]; rfl), (by repeat (first | (with_reducible exact Below.refl _ _) | (with_reducible assumption) | (with_reducible refine Below.drew ?_) | (with_reducible refine bdrewN ?_ _) | (with_reducible refine balloc ?_ _) | ((with_reducible refine bset ?_ ?_ _); rotate_left; (focus first | exact Nat.le_refl _ | (simp; done) | (simp; omega) | omega)) | (with_reducible refine bstep ?_ (by with_reducible assumption)) | (with_reducible refine Below.trans ?_ (by with_reducible assumption))))⟩
          case measure => simp [intOf]; omega
      · have hz : zeroVa = ⟨0, { data := #[] }, 0, [], [], []⟩ := rfl
        rw [hg] at hsp hen hgi
        rw [if_pos rfl] at hsp hen
        rw [hz] at hen
        rw [hen] at KE
        obtain ⟨hx0, hle⟩ := hgi.1 rfl
        have hx1 : (xt == 0) = false := by rw [beq_eq_false_iff_ne]; exact hx0
        have hx2 : ¬ now + p < xt := by omega
        have HSP := hide hsp
        clear hsp hen hgi hg hx0 hle
        (try clear cDr fDr); have cDr := Dr.cell; have fDr := Dr.frozen; (try clear cD2r fD2r); have cD2r := D2r.cell; have fD2r := D2r.frozen; (try clear cRr fRr); have cRr := Rr.cell; have fRr := Rr.frozen
        have ld1 := Dr.lt
        have ld2 := D2r.lt
        go_wp2_with fail
        refine (KE.out _ _ _ _ (M2r.al _)).mono ?_
        rintro e w5 ⟨s5, B1, b1, d1, B2, b2, d2, B3, b3, d3, rfl, N5, hb5⟩
        have X := Blk.new wr 65 #[.string xk, .int .i64 vk, .string vt, .int .i64 vc, .slice F1 f1 g1, .slice F2 f2 g2, .slice F3 f3 g3, .int .i64 xt]
        replace Dr := Dr.al (.cells #[.string xk, .int .i64 vk, .string vt, .int .i64 vc, .slice F1 f1 g1, .slice F2 f2 g2, .slice F3 f3 g3, .int .i64 xt] 65); replace D2r := D2r.al (.cells #[.string xk, .int .i64 vk, .string vt, .int .i64 vc, .slice F1 f1 g1, .slice F2 f2 g2, .slice F3 f3 g3, .int .i64 xt] 65); replace Rr := Rr.al (.cells #[.string xk, .int .i64 vk, .string vt, .int .i64 vc, .slice F1 f1 g1, .slice F2 f2 g2, .slice F3 f3 g3, .int .i64 xt] 65); replace N := N.al (.cells #[.string xk, .int .i64 vk, .string vt, .int .i64 vc, .slice F1 f1 g1, .slice F2 f2 g2, .slice F3 f3 g3, .int .i64 xt] 65)
        replace Dr := Dr.bl hb5; replace D2r := D2r.bl hb5; replace Rr := Rr.bl hb5; replace N := N.bl hb5; replace X := X.bl hb5
        have q5 : Below W0.heap.size W0 w5 := (by repeat (first | (with_reducible exact Below.refl _ _) | (with_reducible assumption) | (with_reducible refine Below.drew ?_) | (with_reducible refine bdrewN ?_ _) | (with_reducible refine balloc ?_ _) | ((with_reducible refine bset ?_ ?_ _); rotate_left; (focus first | exact Nat.le_refl _ | (simp; done) | (simp; omega) | omega)) | (with_reducible refine bstep ?_ (by with_reducible assumption)) | (with_reducible refine Below.trans ?_ (by with_reducible assumption))))
        clear hb5 KE M2r
        have Y := Blk.new w5 65 #[.string s5, .int .i64 0, .string { data := #[] }, .int .i64 0, .slice B1 b1 d1, .slice B2 b2 d2, .slice B3 b3 d3, .int .i64 0]
        replace Dr := Dr.al (.cells #[.string s5, .int .i64 0, .string { data := #[] }, .int .i64 0, .slice B1 b1 d1, .slice B2 b2 d2, .slice B3 b3 d3, .int .i64 0] 65); replace D2r := D2r.al (.cells #[.string s5, .int .i64 0, .string { data := #[] }, .int .i64 0, .slice B1 b1 d1, .slice B2 b2 d2, .slice B3 b3 d3, .int .i64 0] 65); replace Rr := Rr.al (.cells #[.string s5, .int .i64 0, .string { data := #[] }, .int .i64 0, .slice B1 b1 d1, .slice B2 b2 d2, .slice B3 b3 d3, .int .i64 0] 65); replace N := N.al (.cells #[.string s5, .int .i64 0, .string { data := #[] }, .int .i64 0, .slice B1 b1 d1, .slice B2 b2 d2, .slice B3 b3 d3, .int .i64 0] 65); replace X := X.al (.cells #[.string s5, .int .i64 0, .string { data := #[] }, .int .i64 0, .slice B1 b1 d1, .slice B2 b2 d2, .slice B3 b3 d3, .int .i64 0] 65); replace N5 := N5.al (.cells #[.string s5, .int .i64 0, .string { data := #[] }, .int .i64 0, .slice B1 b1 d1, .slice B2 b2 d2, .slice B3 b3 d3, .int .i64 0] 65)
        (try clear cDr fDr); have cDr := Dr.cell; have fDr := Dr.frozen; (try clear cD2r fD2r); have cD2r := D2r.cell; have fD2r := D2r.frozen; (try clear cX fX); have cX := X.cell; have fX := X.frozen; (try clear cY fY); have cY := Y.cell; have fY := Y.frozen
        have lx1 := X.lt
        go_wp2_with fail
        go_roundw
        case rel => exact ⟨k + 1, by omega, by go_num, C, rfl, by omega, hide (by rw [HSP.out, List.length_append, ← HC.out]; rfl), (by repeat (first | (with_reducible exact Below.refl _ _) | (with_reducible assumption) | (with_reducible refine Below.drew ?_) | (with_reducible refine bdrewN ?_ _) | (with_reducible refine balloc ?_ _) | ((with_reducible refine bset ?_ ?_ _); rotate_left; (focus first | exact Nat.le_refl _ | (simp; done) | (simp; omega) | omega)) | (with_reducible refine bstep ?_ (by with_reducible assumption)) | (with_reducible refine Below.trans ?_ (by with_reducible assumption))))⟩
        case measure => simp [intOf]; omega
    · obtain rfl : k = n1 := by omega
      obtain rfl : C = m2 := by have := HC.out; rw [HFULL.out] at this; have := HM2.out; omega
      (try clear cDr fDr); have cDr := Dr.cell; have fDr := Dr.frozen; (try clear cD2r fD2r); have cD2r := D2r.cell; have fD2r := D2r.frozen; (try clear cRr fRr); have cRr := Rr.cell; have fRr := Rr.frozen
      go_wp2_with fail
      go_ret
      exact ⟨rfl, (by repeat (first | (with_reducible exact Below.refl _ _) | (with_reducible assumption) | (with_reducible refine Below.drew ?_) | (with_reducible refine bdrewN ?_ _) | (with_reducible refine balloc ?_ _) | ((with_reducible refine bset ?_ ?_ _); rotate_left; (focus first | exact Nat.le_refl _ | (simp; done) | (simp; omega) | omega)) | (with_reducible refine bstep ?_ (by with_reducible assumption)) | (with_reducible refine Below.trans ?_ (by with_reducible assumption))))⟩
set_option maxRecDepth 100000 in
theorem timeRuns_lifted (os : Os) (started : os.Started) (H : Type) (enc : TypeId × Value → H) :
  ReturnsInHanded {} Try.checked os 14 .any (Rows.timeRunsSpec.pre6 enc Try.prog Try.f14 Rows.timeRunsRow.domain false) (Rows.timeRunsSpec.post enc Try.prog Try.f14 false true false false) := by
  refine returnsInHanded_of_change (C := Try.checked) Try.own started (by kernel_rfl) Try.func14 (ChangeSpec.witness6 (enc := enc) (C := Try.checked) false ⟨#[], #[.slice none 0 0, .int .i64 0], []⟩ 8 (by kernel_rfl) (by kernel_rfl) (by kernel_rfl) (by kernel_rfl)) ?_
  intro W base args ds gs before hval0 hW hcnd _
  have hval : ∀ (j : Nat) t v, Try.f14.params[j]? = some t → args[j]? = some v → Value.okWide Try.prog W .any base t v := hval0
  have hW' := hW
  obtain ⟨p, q, hA0, hV, rfl, hfz, hnd⟩ := hW
  have hA : DataW.TrodAll enc Try.prog W 0 (fun _ => true) true Try.f14.params.toList args.toList ds p := hA0
  rw [Try.params14] at hA hval
  obtain ⟨rfl, rfl⟩ := trodVars_none hV
  clear hA0 hval0 hcnd hV hfz hnd
  obtain ⟨v0, v1, d0, d1, p0, p1, rfl, rfl, rfl, h0, h1⟩ := trodAll_two hA
  obtain ⟨A, n, c, l, rfl, hd, hS⟩ := open_steps (hval 0 55 v0 rfl rfl) h0
  obtain ⟨k, rfl, rfl, rfl, w1⟩ := open_int Try.underlying3 (hval 1 3 v1 rfl rfl) h1
  refine (timeRuns_walk A n c l k W hS hd (i64_bounds w1)).mono fun e W' ⟨he, hb⟩ => ?_
  subst he
  exact ⟨_, rfl, post_law Try.laidOut hW' rfl (by kernel_rfl) rfl Try.underlying4 (fun _ => rfl) (fun _ => rfl) (fun _ => rfl) hb⟩
theorem timeRuns_holds : Rows.TimeRunsSaid := OpenClaim.holds_of_wide 14 Try.f14 rfl rfl rfl rfl rfl rfl rfl ⟨rfl, rfl, rfl, rfl, rfl⟩ rfl rfl rfl rfl rfl (by kernel_rfl) Try.func14 (by kernel_rfl)
  (of_decide_eq_true (by kernel_rfl)) (by unfold Func.isWrapper; first | (rw [if_pos (by decide +kernel)]; kernel_rfl) | (rw [if_neg (by decide +kernel)]; exact ⟨rfl, rfl⟩))
  (fun os started H enc _ => timeRuns_lifted os started H enc)
#print axioms timeRuns_holds
end Go.Proofs.Ytpdadlofgfdlpaa
