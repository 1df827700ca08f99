/- rostrumkeep.MatchNot returns true for every input and leaves its arguments as they were; no condition. -/
import Derived.Test.YtaldmianlmgloabMatchQ
import Derived.Test.YtaldmianlmgloabQuiet
namespace Go.Proofs.Ytaldmianlmgloab
set_option linter.all false
open Go.ChangeShapes Go.WideShapes Go.ChangeAt Go.RowKit
theorem match_at {b bt : Int} {L : List Itm} {k : Nat} {p : Int} (hg : checkLog b bt L = 0) (hb : b < 12) (hl : L.length ≤ 30) (hbt : bt ≤ 2) (ht : ∀ x ∈ L, x.term ≤ 32) (hk : k ≤ L.length) (p0 : 0 ≤ p) (p1 : p < 9) :
    ∃ F, matchOf b bt L (max (b + k) 1) ((termOf b bt L (b + k)).1 + 1 + p) [] = ⟨some L, F, 0, 0⟩ ∧ checkLog (max (b + k) 1) ((termOf b bt L (b + k)).1 + 1 + p) [] = 0 ∧ (b + k ≠ 0 → F = false) := by
  obtain ⟨g1, g2, g3, g4, g5, g6, g7⟩ := log_good hg
  have t2 := term_bound (k := k) (b := b) hbt ht hk
  have t1 := (trim_good hg hk).2.1
  by_cases h0 : b + k = 0
  · have hb0 : b = 0 := by omega
    have hk0 : k = 0 := by omega
    subst hb0; subst hk0
    have hm : max ((0 : Int) + (0 : Nat)) 1 = 1 := by omega
    rw [hm]
    obtain ⟨F, hF⟩ := match_first (bt := bt) (L := L) (of := (termOf 0 bt L (0 + ((0 : Nat) : Int))).1 + 1 + p) (by omega) (by omega)
    exact ⟨F, hF, check_none (by omega) (by omega) (by omega) (by omega), fun h => absurd rfl h⟩
  · have hm : max (b + (k : Int)) 1 = b + k := by omega
    rw [hm]
    exact ⟨false, match_none (by omega) (by omega) (by omega) (by omega) (by omega) (.inr (by omega)), check_none (by omega) (by omega) (by omega) (by omega), fun _ => rfl⟩
set_option maxRecDepth 100000 in
set_option maxHeartbeats 4000000 in
theorem matchNot_walk (A : Option Addr) (n c : Nat) (l : List DeedD) (base at_ nn : Int) (w : World) (hS : Sl w 8 A n c (deedRows l)) (hd : ∀ d ∈ l, d.ok) (hb : I64 base) (hat : I64 at_) (hnn : I64 nn) :
    Calls Try.prog 5 #[.slice A n c, .int .i64 base, .int .i64 at_, .int .i64 nn] w fun e w' => e = .returned (.bool true) ∧ Below w.heap.size w w' := by
  have hterms := log_terms l base
  obtain ⟨b, bt, L, hG, -, -, hLe, HL⟩ := Log_good A n c l base hb hd
  rw [← hLe] at hterms
  clear hd hLe
  obtain ⟨g1, g2, g3, g4, g5, g6⟩ := hG
  have r1 := picked_lo at_ (L.length + 1) (by omega)
  have r2 := picked_hi at_ (L.length + 1) (by omega)
  have hR := fun w => picked_any at_ (L.length + 1) w hat.1 hat.2 (by omega) (by omega)
  obtain ⟨k, hk⟩ := Int.eq_ofNat_of_zero_le r1
  rw [hk] at hR r2
  have hkl : k ≤ L.length := by omega
  have p0 := picked_lo nn 9 (by omega)
  have p1 := picked_hi nn 9 (by omega)
  have hP9 := fun w => picked_any nn 9 w hnn.1 hnn.2 (by omega) (by omega)
  generalize picked nn 9 = p at p0 p1 hP9
  have HR := hide hR; have HP9 := hide hP9
  clear hR hk r1 hP9
  obtain ⟨F, hF, hFok, hF0⟩ := match_at g1 g3 g6 g5 hterms hkl p0 p1
  have hT := fun A c w (h : Sl w 10 A L.length c (itemRows L)) => Term_any b bt A _ c L (b + k) w ⟨by omega, by omega⟩ ⟨by omega, by omega⟩ ⟨by omega, by omega⟩ h g1
  have hTe : termE b bt L (b + k) = ((termOf b bt L (b + k)).1, 0) := by rw [termE_in (by omega) (by omega), ← termOf_in (bt := bt) (base := b) hkl]
  rw [hTe] at hT
  obtain ⟨_, t2, t3, _⟩ := trim_good g1 hkl
  have t4 := term_bound (k := k) (b := b) g5 hterms hkl
  generalize (termOf b bt L (b + k)).1 = T at hF hFok hT t2 t3 t4
  have hok2 := check_none (p := b + L.length + 1 + p) (of := 5000) (by omega) (by omega) (by omega) (by omega)
  have hmo2 : matchOf b bt L (b + L.length + 1 + p) 5000 [] = ⟨some L, false, 0, 0⟩ := match_none (by omega) (by omega) (by omega) (by omega) (by omega) (.inl (by rw [termOf_gt (by omega) (by omega)]; decide))
  have hM := fun A c w (h : Sl w 10 A L.length c (itemRows L)) => Match_some b bt A _ c L (max (b + k) 1) (T + 1 + p) none 0 0 [] w ⟨by omega, by omega⟩ ⟨by omega, by omega⟩ h g1 ⟨by omega, by omega⟩ ⟨by omega, by omega⟩ (Sl.nil_ _ _) hFok hF
  have hM2 := fun A c w (h : Sl w 10 A L.length c (itemRows L)) => Match_some b bt A _ c L (b + L.length + 1 + p) 5000 none 0 0 [] w ⟨by omega, by omega⟩ ⟨by omega, by omega⟩ h g1 ⟨by omega, by omega⟩ ⟨by omega, by omega⟩ (Sl.nil_ _ _) hok2 hmo2
  have HM := hide hM; have HM2 := hide hM2; have HT := hide hT; have HF0 := hide hF0
  clear hM hM2 hT hok2 hmo2 hF hFok g1 hTe hterms hF0
  have hbk : IntKind.i64.wrap (b + (k : Int)) = b + k := IntWalk.i64_in _ (by omega)
  go_enter Try.func5, Try.ntmps5
  go_wp2_with fail
  refine (HL.out _ hS).mono ?_
  rintro e w1 ⟨A', c', rfl, hsl, hb1⟩
  have hz1 : w.heap.size ≤ w1.heap.size := hb1.size
  have Bg := Blk.new w1 31 #[.int .i64 b, .int .i64 bt, .slice A' L.length c']
  replace hsl := hsl.al (.cells #[.int .i64 b, .int .i64 bt, .slice A' L.length c'] 31)
  (try clear cBg fBg); have cBg := Bg.cell; have fBg := Bg.frozen
  go_wp2_with fail
  go_quiet ((go_at_call 13; exact quiet_same (HR.out _)))
  go_wp2_with fail
  refine (HT.out _ _ _ (hsl.drewN _)).mono ?_
  rintro e w2 ⟨rfl, hb2⟩
  replace Bg := (Bg.drewN nq).bl hb2
  replace hsl := (hsl.drewN nq).bl hb2
  clear cBg fBg
  have c0 : w2.cell? ⟨w1.heap.size, 0, none⟩ = some (.int .i64 b) := Bg.cell 0
  have c1 : w2.cell? ⟨w1.heap.size, 1, none⟩ = some (.int .i64 bt) := Bg.cell 1
  have c2 : w2.cell? ⟨w1.heap.size, 2, none⟩ = some (.slice A' L.length c') := Bg.cell 2
  have hg1 : w1.heap.size < w2.heap.size := Bg.lt
  have hT1 : IntKind.i64.wrap (T + 1) = T + 1 := IntWalk.i64_in _ (by omega)
  have hT2 : IntKind.i64.wrap (T + 1 + p) = T + 1 + p := IntWalk.i64_in _ (by omega)
  have hl1 : IntKind.i64.wrap (b + (L.length : Int)) = b + L.length := IntWalk.i64_in _ (by omega)
  have hl2 : IntKind.i64.wrap (b + (L.length : Int) + 1) = b + L.length + 1 := IntWalk.i64_in _ (by omega)
  have hl3 : IntKind.i64.wrap (b + (L.length : Int) + 1 + p) = b + L.length + 1 + p := IntWalk.i64_in _ (by omega)
  have hcase : ∃ (B : Bool) (M : Int), (if b + (k : Int) < 1 then (1 : Int) else b + k) = M ∧ max (b + (k : Int)) 1 = M ∧ ((b + (k : Int)) == 0) = B ∧ (B = false → F = false) := by
    by_cases h0 : b + (k : Int) < 1
    · exact ⟨true, 1, if_pos h0, by omega, by simp; omega, by simp⟩
    · exact ⟨false, _, if_neg h0, by omega, by simp; omega, fun _ => HF0.out (by omega)⟩
  obtain ⟨B, M, hif, hmax, hB, hBF⟩ := hcase
  rw [hmax] at HM
  have HBF := hide hBF
  clear hmax hBF
  go_upto_region 6 with fail
  go_cut [13, 14, 15, 16] (fun s0 s1 s2 s3 wx => ∃ x A3 n3 c3, s0 = .pointer (some ⟨x, 0, none⟩) ∧ s1 = .bool F ∧ s2 = .int .i64 0 ∧ s3 = .int .i64 0 ∧ Blk wx x 31 #[.int .i64 b, .int .i64 bt, .slice A3 n3 c3] ∧
    Sl wx 10 A3 n3 c3 (itemRows L) ∧ Below w2.heap.size w2 wx)
  case first =>
    go_region_held3 (fun w' => w'.cell? ⟨w1.heap.size, 0, none⟩ = some (.int .i64 b) ∧ w'.cell? ⟨w1.heap.size, 1, none⟩ = some (.int .i64 bt) ∧ w'.cell? ⟨w1.heap.size, 2, none⟩ = some (.slice A' L.length c')) (simp [go_sem, World.cell?_alloc_past, *])
      (first | (go_at_call 13; refine (HP9.out _).mono ?_; rintro e w' ⟨rfl, rfl⟩) | (go_at_call 14; (with_reducible refine (HM.out _ _ _ hsl.drew).mono ?_); rintro e w3 ⟨A3, n3, c3, rfl, hown3, hb3⟩; have Bg3 := Bg.drew.bl hb3; have hlow : Below w2.heap.size w2 w3 := Below.trans (by repeat (first | (with_reducible exact Below.refl _ _) | (with_reducible assumption) | (with_reducible refine Below.drew ?_) | (with_reducible refine bdrewN ?_ _) | (with_reducible refine balloc ?_ _) | ((with_reducible refine bset ?_ ?_ _); rotate_left; (focus first | exact Nat.le_refl _ | (simp; done) | (simp; omega) | omega)) | (with_reducible refine bstep ?_ (by with_reducible assumption)) | (with_reducible refine Below.trans ?_ (by with_reducible assumption)))) (hb3.mono (by simp)); have q0 : w3.cell? ⟨w1.heap.size, 0, none⟩ = some (.int .i64 b) := Bg3.cell 0; have q1 : w3.cell? ⟨w1.heap.size, 1, none⟩ = some (.int .i64 bt) := Bg3.cell 1; have q2 : w3.cell? ⟨w1.heap.size, 2, none⟩ = some (.slice A' L.length c') := Bg3.cell 2; have qf := Bg3.frozen; have hz3 : w1.heap.size < w3.heap.size := Bg3.lt) | (go_at_call 14; (with_reducible refine (HM.out _ _ _ (hsl.al (.cells #[.int .i64 0, .int .i64 0, .slice none 0 0] 31)).drew).mono ?_); rintro e w3 ⟨A3, n3, c3, rfl, hown3, hb3⟩; have Bg3 := (Bg.al (.cells #[.int .i64 0, .int .i64 0, .slice none 0 0] 31)).drew.bl hb3; have hlow : Below w2.heap.size w2 w3 := Below.trans (by repeat (first | (with_reducible exact Below.refl _ _) | (with_reducible assumption) | (with_reducible refine Below.drew ?_) | (with_reducible refine bdrewN ?_ _) | (with_reducible refine balloc ?_ _) | ((with_reducible refine bset ?_ ?_ _); rotate_left; (focus first | exact Nat.le_refl _ | (simp; done) | (simp; omega) | omega)) | (with_reducible refine bstep ?_ (by with_reducible assumption)) | (with_reducible refine Below.trans ?_ (by with_reducible assumption)))) (hb3.mono (by simp)); have q0 : w3.cell? ⟨w1.heap.size, 0, none⟩ = some (.int .i64 b) := Bg3.cell 0; have q1 : w3.cell? ⟨w1.heap.size, 1, none⟩ = some (.int .i64 bt) := Bg3.cell 1; have q2 : w3.cell? ⟨w1.heap.size, 2, none⟩ = some (.slice A' L.length c') := Bg3.cell 2; have qf := Bg3.frozen; have hz3 : w1.heap.size < w3.heap.size := Bg3.lt; have Z3 := (Blk.new w2 31 #[.int .i64 0, .int .i64 0, .slice none 0 0]).drew.bl hb3; have z0 := Z3.cell; have zf := Z3.frozen; have zl : w2.heap.size < w3.heap.size := Z3.lt))
    all_goals
      go_wp2_with fail
      go_meet
      refine ⟨_, A3, n3, c3, rfl, rfl, rfl, rfl, ?_, ?_, (by repeat (first | (with_reducible exact Below.refl _ _) | (with_reducible assumption) | (with_reducible refine Below.drew ?_) | (with_reducible refine bdrewN ?_ _) | (with_reducible refine balloc ?_ _) | ((with_reducible refine bset ?_ ?_ _); rotate_left; (focus first | exact Nat.le_refl _ | (simp; done) | (simp; omega) | omega)) | (with_reducible refine bstep ?_ (by with_reducible assumption)) | (with_reducible refine Below.trans ?_ (by with_reducible assumption))))⟩
      rotate_left
      · first | exact (hown3.alloc _).sl' | exact (((hown3.setCell (by simp) _).setCell (by simp) _).setCell (by simp) _).sl'
      · ((repeat' (first | (with_reducible assumption) | (with_reducible exact Blk.new _ _ _) | ((with_reducible refine Blk.new' _ _ _ ?_); focus (simp; done)) | (with_reducible refine Blk.set' (cs := ?_) ?_ ?_) | (with_reducible refine Blk.alloc ?_ _) | (with_reducible refine Blk.drew ?_) | (with_reducible refine Blk.drewN ?_ _) | (with_reducible refine Blk.below' ?_ (by with_reducible assumption)) | ((with_reducible refine Blk.far ?_ ?_ _); rotate_left; (focus first | (simp; done) | (simp; omega) | omega)))) <;> try rfl)
  case rest =>
    obtain ⟨x1, A3, n3, c3, rfl, rfl, rfl, rfl, X1, hs1, hbx⟩ := hcut
    clear c0 c1 c2
    replace Bg := Bg.bl hbx
    replace hsl := hsl.bl hbx
    have hg1 : w1.heap.size < wc.heap.size := Bg.lt
    have c0 : wc.cell? ⟨w1.heap.size, 0, none⟩ = some (.int .i64 b) := Bg.cell 0
    have c1 : wc.cell? ⟨w1.heap.size, 1, none⟩ = some (.int .i64 bt) := Bg.cell 1
    have c2 : wc.cell? ⟨w1.heap.size, 2, none⟩ = some (.slice A' L.length c') := Bg.cell 2
    go_upto_region 7 with fail
    go_cut [17, 18, 19, 20] (fun s0 s1 s2 s3 wx => ∃ x A3 n3 c3, s0 = .pointer (some ⟨x, 0, none⟩) ∧ s1 = .bool false ∧ s2 = .int .i64 0 ∧ s3 = .int .i64 0 ∧ Blk wx x 31 #[.int .i64 b, .int .i64 bt, .slice A3 n3 c3] ∧
      Sl wx 10 A3 n3 c3 (itemRows L) ∧ Below wc.heap.size wc wx)
    case first =>
      go_region_held3 (fun w' => w'.cell? ⟨w1.heap.size, 0, none⟩ = some (.int .i64 b) ∧ w'.cell? ⟨w1.heap.size, 1, none⟩ = some (.int .i64 bt) ∧ w'.cell? ⟨w1.heap.size, 2, none⟩ = some (.slice A' L.length c')) (simp [go_sem, World.cell?_alloc_past, *])
        (first | (go_at_call 13; refine (HP9.out _).mono ?_; rintro e w' ⟨rfl, rfl⟩) | (go_at_call 14; (with_reducible refine (HM2.out _ _ _ hsl.drew).mono ?_); rintro e w3 ⟨A3, n3, c3, rfl, hown3, hb3⟩; have Bg3 := Bg.drew.bl hb3; have hlow : Below wc.heap.size wc w3 := Below.trans (by repeat (first | (with_reducible exact Below.refl _ _) | (with_reducible assumption) | (with_reducible refine Below.drew ?_) | (with_reducible refine bdrewN ?_ _) | (with_reducible refine balloc ?_ _) | ((with_reducible refine bset ?_ ?_ _); rotate_left; (focus first | exact Nat.le_refl _ | (simp; done) | (simp; omega) | omega)) | (with_reducible refine bstep ?_ (by with_reducible assumption)) | (with_reducible refine Below.trans ?_ (by with_reducible assumption)))) (hb3.mono (by simp)); have q0 : w3.cell? ⟨w1.heap.size, 0, none⟩ = some (.int .i64 b) := Bg3.cell 0; have q1 : w3.cell? ⟨w1.heap.size, 1, none⟩ = some (.int .i64 bt) := Bg3.cell 1; have q2 : w3.cell? ⟨w1.heap.size, 2, none⟩ = some (.slice A' L.length c') := Bg3.cell 2; have qf := Bg3.frozen; have hz3 : w1.heap.size < w3.heap.size := Bg3.lt) | (go_at_call 14; (with_reducible refine (HM2.out _ _ _ (hsl.al (.cells #[.int .i64 0, .int .i64 0, .slice none 0 0] 31)).drew).mono ?_); rintro e w3 ⟨A3, n3, c3, rfl, hown3, hb3⟩; have Bg3 := (Bg.al (.cells #[.int .i64 0, .int .i64 0, .slice none 0 0] 31)).drew.bl hb3; have hlow : Below wc.heap.size wc w3 := Below.trans (by repeat (first | (with_reducible exact Below.refl _ _) | (with_reducible assumption) | (with_reducible refine Below.drew ?_) | (with_reducible refine bdrewN ?_ _) | (with_reducible refine balloc ?_ _) | ((with_reducible refine bset ?_ ?_ _); rotate_left; (focus first | exact Nat.le_refl _ | (simp; done) | (simp; omega) | omega)) | (with_reducible refine bstep ?_ (by with_reducible assumption)) | (with_reducible refine Below.trans ?_ (by with_reducible assumption)))) (hb3.mono (by simp)); have q0 : w3.cell? ⟨w1.heap.size, 0, none⟩ = some (.int .i64 b) := Bg3.cell 0; have q1 : w3.cell? ⟨w1.heap.size, 1, none⟩ = some (.int .i64 bt) := Bg3.cell 1; have q2 : w3.cell? ⟨w1.heap.size, 2, none⟩ = some (.slice A' L.length c') := Bg3.cell 2; have qf := Bg3.frozen; have hz3 : w1.heap.size < w3.heap.size := Bg3.lt; have Z3 := (Blk.new wc 31 #[.int .i64 0, .int .i64 0, .slice none 0 0]).drew.bl hb3; have z0 := Z3.cell; have zf := Z3.frozen; have zl : wc.heap.size < w3.heap.size := Z3.lt))
      all_goals
        go_wp2_with fail
        go_meet
        refine ⟨_, A3, n3, c3, rfl, rfl, rfl, rfl, ?_, ?_, (by repeat (first | (with_reducible exact Below.refl _ _) | (with_reducible assumption) | (with_reducible refine Below.drew ?_) | (with_reducible refine bdrewN ?_ _) | (with_reducible refine balloc ?_ _) | ((with_reducible refine bset ?_ ?_ _); rotate_left; (focus first | exact Nat.le_refl _ | (simp; done) | (simp; omega) | omega)) | (with_reducible refine bstep ?_ (by with_reducible assumption)) | (with_reducible refine Below.trans ?_ (by with_reducible assumption))))⟩
        rotate_left
        · first | exact (hown3.alloc _).sl' | exact (((hown3.setCell (by simp) _).setCell (by simp) _).setCell (by simp) _).sl'
        · ((repeat' (first | (with_reducible assumption) | (with_reducible exact Blk.new _ _ _) | ((with_reducible refine Blk.new' _ _ _ ?_); focus (simp; done)) | (with_reducible refine Blk.set' (cs := ?_) ?_ ?_) | (with_reducible refine Blk.alloc ?_ _) | (with_reducible refine Blk.drew ?_) | (with_reducible refine Blk.drewN ?_ _) | (with_reducible refine Blk.below' ?_ (by with_reducible assumption)) | ((with_reducible refine Blk.far ?_ ?_ _); rotate_left; (focus first | (simp; done) | (simp; omega) | omega)))) <;> try rfl)
    case rest =>
      obtain ⟨x2, A4, n4, c4, rfl, rfl, rfl, rfl, X2, hs2, hby⟩ := hcut
      rename_i wd
      clear c0 c1 c2
      replace Bg := Bg.bl hby; replace hsl := hsl.bl hby; replace X1 := X1.bl hby; replace hs1 := hs1.bl hby
      (try clear cBg fBg); have cBg := Bg.cell; have fBg := Bg.frozen; (try clear cX2 fX2); have cX2 := X2.cell; have fX2 := X2.frozen
      go_wp2_with fail
      refine (sameLog_eq b bt _ _ _ _ _ _ _ _ _ hs2 hsl rfl).mono ?_
      rintro e w5 ⟨rfl, hb5⟩
      replace Bg := Bg.bl hb5; replace hsl := hsl.bl hb5; replace X1 := X1.bl hb5; replace hs1 := hs1.bl hb5
      clear cX2 fX2
      (try clear cBg fBg); have cBg := Bg.cell; have fBg := Bg.frozen; (try clear cX1 fX1); have cX1 := X1.cell; have fX1 := X1.frozen
      have hBF := HBF.out
      clear HBF
      cases B
      · obtain rfl := hBF rfl
        clear hBF
        go_wp2_with fail
        refine (sameLog_eq b bt _ _ _ _ _ _ _ _ _ hs1 hsl rfl).mono ?_
        rintro e w6 ⟨rfl, hb6⟩
        go_wp2_with fail
        go_ret
        exact ⟨rfl, (by repeat (first | (with_reducible exact Below.refl _ _) | (with_reducible assumption) | (with_reducible refine Below.drew ?_) | (with_reducible refine bdrewN ?_ _) | (with_reducible refine balloc ?_ _) | ((with_reducible refine bset ?_ ?_ _); rotate_left; (focus first | exact Nat.le_refl _ | (simp; done) | (simp; omega) | omega)) | (with_reducible refine bstep ?_ (by with_reducible assumption)) | (with_reducible refine Below.trans ?_ (by with_reducible assumption))))⟩
      · clear hBF
        go_wp2_with fail
        refine (sameLog_eq b bt _ _ _ _ _ _ _ _ _ hs1 hsl rfl).mono ?_
        rintro e w6 ⟨rfl, hb6⟩
        go_wp2_with fail
        go_ret
        exact ⟨rfl, (by repeat (first | (with_reducible exact Below.refl _ _) | (with_reducible assumption) | (with_reducible refine Below.drew ?_) | (with_reducible refine bdrewN ?_ _) | (with_reducible refine balloc ?_ _) | ((with_reducible refine bset ?_ ?_ _); rotate_left; (focus first | exact Nat.le_refl _ | (simp; done) | (simp; omega) | omega)) | (with_reducible refine bstep ?_ (by with_reducible assumption)) | (with_reducible refine Below.trans ?_ (by with_reducible assumption))))⟩
set_option maxRecDepth 100000 in
theorem matchNot_lifted (os : Os) (started : os.Started) (H : Type) (enc : TypeId × Value → H) :
  ReturnsInHanded {} Try.checked os 5 .any (Rows.matchNotSpec.pre6 enc Try.prog Try.f5 Rows.matchNotRow.domain false) (Rows.matchNotSpec.post enc Try.prog Try.f5 false true false false) := by
  refine returnsInHanded_of_change (C := Try.checked) Try.own started (by kernel_rfl) Try.func5 (ChangeSpec.witness6 (enc := enc) (C := Try.checked) false ⟨#[], #[.slice none 0 0, .int .i64 0, .int .i64 0, .int .i64 0], []⟩ 8 (by kernel_rfl) (by kernel_rfl) (by kernel_rfl) (by kernel_rfl)) ?_
  intro W base args ds gs before hval0 hW hcnd _
  have hval : ∀ (j : Nat) t v, Try.f5.params[j]? = some t → args[j]? = some v → Value.okWide Try.prog W .any base t v := hval0
  have hW' := hW
  obtain ⟨p, q, hA0, hV, rfl, hfz, hnd⟩ := hW
  have hA : DataW.TrodAll enc Try.prog W 0 (fun _ => true) true Try.f5.params.toList args.toList ds p := hA0
  rw [Try.params5] at hA hval
  obtain ⟨rfl, rfl⟩ := trodVars_none hV
  clear hA0 hval0 hcnd hV hfz hnd
  obtain ⟨v0, v1, v2, v3, d0, d1, d2, d3, p0, p1, p2, p3, rfl, rfl, rfl, h0, h1, h2, h3⟩ := trodAll_four hA
  obtain ⟨A, n, c, l, rfl, hd, hS⟩ := open_deeds (hval 0 37 v0 rfl rfl) h0
  obtain ⟨m1, rfl, rfl, rfl, w1⟩ := open_int Try.underlying3 (hval 1 3 v1 rfl rfl) h1
  obtain ⟨m2, rfl, rfl, rfl, w2⟩ := open_int Try.underlying3 (hval 2 3 v2 rfl rfl) h2
  obtain ⟨m3, rfl, rfl, rfl, w3⟩ := open_int Try.underlying3 (hval 3 3 v3 rfl rfl) h3
  refine (matchNot_walk A n c l m1 m2 m3 W hS hd (i64_bounds w1) (i64_bounds w2) (i64_bounds w3)).mono fun e W' ⟨he, hb⟩ => ?_
  subst he
  exact ⟨_, rfl, post_law Try.laidOut hW' rfl (by kernel_rfl) rfl Try.underlying4 (fun _ => rfl) (fun _ => rfl) (fun _ => rfl) hb⟩
theorem matchNot_holds : Rows.MatchNotSaid := OpenClaim.holds_of_wide 5 Try.f5 rfl rfl rfl rfl rfl rfl rfl ⟨rfl, rfl, rfl, rfl, rfl⟩ rfl rfl rfl rfl rfl (by kernel_rfl) Try.func5 (by kernel_rfl)
  (of_decide_eq_true (by kernel_rfl)) (by unfold Func.isWrapper; first | (rw [if_pos (by decide +kernel)]; kernel_rfl) | (rw [if_neg (by decide +kernel)]; exact ⟨rfl, rfl⟩))
  (fun os started H enc _ => matchNot_lifted os started H enc)
#print axioms matchNot_holds
end Go.Proofs.Ytaldmianlmgloab
