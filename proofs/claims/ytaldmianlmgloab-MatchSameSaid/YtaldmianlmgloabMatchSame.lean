/- rostrumkeep.MatchSame returns true for every input and leaves its arguments as they were; no condition. -/
import Derived.Test.YtaldmianlmgloabMatchQ
namespace Go.Proofs.Ytaldmianlmgloab
set_option linter.all false
open Go.ChangeShapes Go.WideShapes Go.ChangeAt Go.RowKit
set_option maxRecDepth 100000 in
set_option maxHeartbeats 8000000 in
theorem matchSame_walk (A : Option Addr) (n c : Nat) (l : List DeedD) (base at_ nn : Int) (w : World) (hS : Sl w 8 A n c (deedRows l)) (hd : ∀ d ∈ l, d.ok) (hb : I64 base) (hat : I64 at_) (hnn : I64 nn) :
    Calls Try.prog 4 #[.slice A n c, .int .i64 base, .int .i64 at_, .int .i64 nn] w fun e w' => e = .returned (.bool true) ∧ Below w.heap.size w w' := by
  obtain ⟨b, bt, L, hG, -, -, -, HL⟩ := Log_good A n c l base hb hd
  clear hd
  obtain ⟨g1, g2, g3, g4, g5, g6⟩ := hG
  have r1 := picked_lo at_ (L.length + 1) (by omega)
  have r2 := picked_hi at_ (L.length + 1) (by omega)
  have hR := fun w => picked_any at_ (L.length + 1) w hat.1 hat.2 (by omega) (by omega)
  obtain ⟨k, hk⟩ := Int.eq_ofNat_of_zero_le r1
  rw [hk] at hR r2
  have hkl : k ≤ L.length := by omega
  have s1 := picked_lo nn (L.length - k + 1) (by omega)
  have s2 := picked_hi nn (L.length - k + 1) (by omega)
  have hR2 := fun w => picked_any nn (L.length - k + 1) w hnn.1 hnn.2 (by omega) (by omega)
  obtain ⟨q, hq⟩ := Int.eq_ofNat_of_zero_le s1
  rw [hq] at hR2 s2
  have HR := hide hR; have HR2 := hide hR2
  clear hR hR2 hk hq r1 s1
  obtain ⟨j, hj⟩ : ∃ j, j = k + q := ⟨_, rfl⟩
  have hjl : j ≤ L.length := by omega
  have hkj : k ≤ j := by omega
  obtain ⟨hok, hmo⟩ := match_same (b := b) (bt := bt) g1 hkj hjl
  have hT := fun A c w (h : Sl w 10 A L.length c (itemRows L)) => Term_any b bt A _ c L (b + k) w ⟨by omega, by omega⟩ ⟨by omega, by omega⟩ ⟨by omega, by omega⟩ h g1
  have hTe : termE b bt L (b + k) = ((termOf b bt L (b + k)).1, 0) := by rw [termE_in (by omega) (by omega), ← termOf_in (bt := bt) (base := b) hkl]
  rw [hTe] at hT
  have htl := trim_good g1 hkl
  obtain ⟨_, t2, t3, _⟩ := htl
  generalize (termOf b bt L (b + k)).1 = T at hok hmo hT t2 t3
  have hM := fun A c B m d w (h : Sl w 10 A L.length c (itemRows L)) (h2 : Sl w 10 B m d (itemRows ((L.take j).drop k))) => Match_some b bt A _ c L (b + k) T B m d _ w ⟨by omega, by omega⟩ ⟨by omega, by omega⟩ h g1 ⟨by omega, by omega⟩ ⟨by omega, by omega⟩ h2 hok hmo
  have HM := hide hM; have HT := hide hT; have HJ := hide hj
  clear hM hT hok hmo g1 hTe
  have hsum : IntKind.i64.wrap ((k : Int) + q) = (j : Int) := by rw [IntWalk.i64_in _ (by omega)]; omega
  have hkq : (k : Int) + q = j := by omega
  clear hj
  go_enter Try.func4, Try.ntmps4
  go_wp2_with fail
  refine (HL.out _ hS).mono ?_
  rintro e w1 ⟨A', c', rfl, hsl, hb1⟩
  have hz1 : w.heap.size ≤ w1.heap.size := hb1.size
  have hcm := hsl.cm
  have hnc := hsl.nc
  unfold maxLen at hcm
  have Bg := Blk.new w1 31 #[.int .i64 b, .int .i64 bt, .slice A' L.length c']
  replace hsl := hsl.al (.cells #[.int .i64 b, .int .i64 bt, .slice A' L.length c'] 31)
  (try clear cBg fBg); have cBg := Bg.cell; have fBg := Bg.frozen
  go_wp2_with fail
  refine (HR.out _).mono ?_
  rintro e w' ⟨rfl, rfl⟩
  go_wp2_with fail
  refine (HR2.out _).mono ?_
  rintro e w' ⟨rfl, rfl⟩
  go_wp2_with fail
  refine (HT.out _ _ _ hsl).mono ?_
  rintro e w2 ⟨rfl, hb2⟩
  replace Bg := Bg.bl hb2; replace hsl := hsl.bl hb2
  have c0 : w2.cell? ⟨w1.heap.size, 0, none⟩ = some (.int .i64 b) := Bg.cell 0
  have c1 : w2.cell? ⟨w1.heap.size, 1, none⟩ = some (.int .i64 bt) := Bg.cell 1
  have c2 : w2.cell? ⟨w1.heap.size, 2, none⟩ = some (.slice A' L.length c') := Bg.cell 2
  clear cBg fBg
  have hg1 : w1.heap.size < w2.heap.size := Bg.lt
  have hms := (hsl.take j hjl j (Nat.le_refl _) (by omega)).drop k hkj j (Nat.le_refl _) (Nat.le_refl _)
  rw [itemRows_take, itemRows_drop] at hms
  have i1 := fun w => run_cut3 Try.underlying23 item_size A' L.length c' k j j hkj (Nat.le_refl _) (by omega) w
  have hbk : IntKind.i64.wrap (b + (k : Int)) = b + k := IntWalk.i64_in _ (by omega)
  have b1 : (0 : Int) ≤ (k : Int) := by omega
  have b2 : (k : Int) ≤ (j : Int) := by omega
  have b3 : (j : Int) ≤ (c' : Int) := by omega
  go_wp2_with fail
  go_region_held3 (fun w' => w'.cell? ⟨w1.heap.size, 0, none⟩ = some (.int .i64 b) ∧ w'.cell? ⟨w1.heap.size, 1, none⟩ = some (.int .i64 bt) ∧ w'.cell? ⟨w1.heap.size, 2, none⟩ = some (.slice A' L.length c')) (simp [go_sem, World.cell?_alloc_past, *])
    (first | (go_at_call 14; refine (HM.out _ _ _ _ _ _ hsl.drew hms.drew).mono ?_; rintro e w3 ⟨A3, n3, c3, rfl, hown3, hb3⟩; have Bg3 := Bg.drew.bl hb3; have hlow : Below w2.heap.size w2 w3 := Below.trans (by repeat (first | (with_reducible exact Below.refl _ _) | (with_reducible assumption) | (with_reducible refine Below.drew ?_) | (with_reducible refine bdrewN ?_ _) | (with_reducible refine balloc ?_ _) | ((with_reducible refine bset ?_ ?_ _); rotate_left; (focus first | exact Nat.le_refl _ | (simp; done) | (simp; omega) | omega)) | (with_reducible refine bstep ?_ (by with_reducible assumption)) | (with_reducible refine Below.trans ?_ (by with_reducible assumption)))) (hb3.mono (by simp)); have q0 : w3.cell? ⟨w1.heap.size, 0, none⟩ = some (.int .i64 b) := Bg3.cell 0; have q1 : w3.cell? ⟨w1.heap.size, 1, none⟩ = some (.int .i64 bt) := Bg3.cell 1; have q2 : w3.cell? ⟨w1.heap.size, 2, none⟩ = some (.slice A' L.length c') := Bg3.cell 2; have qf := Bg3.frozen; have hz3 : w1.heap.size < w3.heap.size := Bg3.lt; skip) | (go_at_call 14; refine (HM.out _ _ _ _ _ _ (hsl.al (.cells #[.int .i64 0, .int .i64 0, .slice none 0 0] 31)).drew (hms.al (.cells #[.int .i64 0, .int .i64 0, .slice none 0 0] 31)).drew).mono ?_; rintro e w3 ⟨A3, n3, c3, rfl, hown3, hb3⟩; have Bg3 := (Bg.al (.cells #[.int .i64 0, .int .i64 0, .slice none 0 0] 31)).drew.bl hb3; have hlow : Below w2.heap.size w2 w3 := Below.trans (by repeat (first | (with_reducible exact Below.refl _ _) | (with_reducible assumption) | (with_reducible refine Below.drew ?_) | (with_reducible refine bdrewN ?_ _) | (with_reducible refine balloc ?_ _) | ((with_reducible refine bset ?_ ?_ _); rotate_left; (focus first | exact Nat.le_refl _ | (simp; done) | (simp; omega) | omega)) | (with_reducible refine bstep ?_ (by with_reducible assumption)) | (with_reducible refine Below.trans ?_ (by with_reducible assumption)))) (hb3.mono (by simp)); have q0 : w3.cell? ⟨w1.heap.size, 0, none⟩ = some (.int .i64 b) := Bg3.cell 0; have q1 : w3.cell? ⟨w1.heap.size, 1, none⟩ = some (.int .i64 bt) := Bg3.cell 1; have q2 : w3.cell? ⟨w1.heap.size, 2, none⟩ = some (.slice A' L.length c') := Bg3.cell 2; have qf := Bg3.frozen; have hz3 : w1.heap.size < w3.heap.size := Bg3.lt; have Z3 := (Blk.new w2 31 #[.int .i64 0, .int .i64 0, .slice none 0 0]).drew.bl hb3; have z0 := Z3.cell; have zf := Z3.frozen; have zl : w2.heap.size < w3.heap.size := Z3.lt))
  all_goals go_wp2_with fail
  all_goals try go_quiet (fail)
  all_goals try go_wp2_with fail
  all_goals refine (sameLog_eq b bt _ _ _ _ _ _ _ _ _ (by first | exact (hown3.alloc _).sl' | exact (((hown3.setCell (by simp) _).setCell (by simp) _).setCell (by simp) _).sl') (hsl.bl (by repeat (first | (with_reducible exact Below.refl _ _) | (with_reducible assumption) | (with_reducible refine Below.drew ?_) | (with_reducible refine bdrewN ?_ _) | (with_reducible refine balloc ?_ _) | ((with_reducible refine bset ?_ ?_ _); rotate_left; (focus first | exact Nat.le_refl _ | (simp; done) | (simp; omega) | omega)) | (with_reducible refine bstep ?_ (by with_reducible assumption)) | (with_reducible refine Below.trans ?_ (by with_reducible assumption))))) rfl).mono ?_
  all_goals rintro e w5 ⟨rfl, hb5⟩
  all_goals go_wp2_with fail
  all_goals go_ret
  all_goals exact ⟨rfl, (by repeat (first | (with_reducible exact Below.refl _ _) | (with_reducible assumption) | (with_reducible refine Below.drew ?_) | (with_reducible refine bdrewN ?_ _) | (with_reducible refine balloc ?_ _) | ((with_reducible refine bset ?_ ?_ _); rotate_left; (focus first | exact Nat.le_refl _ | (simp; done) | (simp; omega) | omega)) | (with_reducible refine bstep ?_ (by with_reducible assumption)) | (with_reducible refine Below.trans ?_ (by with_reducible assumption))))⟩
set_option maxRecDepth 100000 in
theorem matchSame_lifted (os : Os) (started : os.Started) (H : Type) (enc : TypeId × Value → H) :
  ReturnsInHanded {} Try.checked os 4 .any (Rows.matchSameSpec.pre6 enc Try.prog Try.f4 Rows.matchSameRow.domain false) (Rows.matchSameSpec.post enc Try.prog Try.f4 false true false false) := by
  refine returnsInHanded_of_change (C := Try.checked) Try.own started (by kernel_rfl) Try.func4 (ChangeSpec.witness6 (enc := enc) (C := Try.checked) false ⟨#[], #[.slice none 0 0, .int .i64 0, .int .i64 0, .int .i64 0], []⟩ 8 (by kernel_rfl) (by kernel_rfl) (by kernel_rfl) (by kernel_rfl)) ?_
  intro W base args ds gs before hval0 hW hcnd _
  have hval : ∀ (j : Nat) t v, Try.f4.params[j]? = some t → args[j]? = some v → Value.okWide Try.prog W .any base t v := hval0
  have hW' := hW
  obtain ⟨p, q, hA0, hV, rfl, hfz, hnd⟩ := hW
  have hA : DataW.TrodAll enc Try.prog W 0 (fun _ => true) true Try.f4.params.toList args.toList ds p := hA0
  rw [Try.params4] at hA hval
  obtain ⟨rfl, rfl⟩ := trodVars_none hV
  clear hA0 hval0 hcnd hV hfz hnd
  obtain ⟨v0, v1, v2, v3, d0, d1, d2, d3, p0, p1, p2, p3, rfl, rfl, rfl, h0, h1, h2, h3⟩ := trodAll_four hA
  obtain ⟨A, n, c, l, rfl, hd, hS⟩ := open_deeds (hval 0 37 v0 rfl rfl) h0
  obtain ⟨m1, rfl, rfl, rfl, w1⟩ := open_int Try.underlying3 (hval 1 3 v1 rfl rfl) h1
  obtain ⟨m2, rfl, rfl, rfl, w2⟩ := open_int Try.underlying3 (hval 2 3 v2 rfl rfl) h2
  obtain ⟨m3, rfl, rfl, rfl, w3⟩ := open_int Try.underlying3 (hval 3 3 v3 rfl rfl) h3
  refine (matchSame_walk A n c l m1 m2 m3 W hS hd (i64_bounds w1) (i64_bounds w2) (i64_bounds w3)).mono fun e W' ⟨he, hb⟩ => ?_
  subst he
  exact ⟨_, rfl, post_law Try.laidOut hW' rfl (by kernel_rfl) rfl Try.underlying4 (fun _ => rfl) (fun _ => rfl) (fun _ => rfl) hb⟩
theorem matchSame_holds : Rows.MatchSameSaid := OpenClaim.holds_of_wide 4 Try.f4 rfl rfl rfl rfl rfl rfl rfl ⟨rfl, rfl, rfl, rfl, rfl⟩ rfl rfl rfl rfl rfl (by kernel_rfl) Try.func4 (by kernel_rfl)
  (of_decide_eq_true (by kernel_rfl)) (by unfold Func.isWrapper; first | (rw [if_pos (by decide +kernel)]; kernel_rfl) | (rw [if_neg (by decide +kernel)]; exact ⟨rfl, rfl⟩))
  (fun os started H enc _ => matchSame_lifted os started H enc)
#print axioms matchSame_holds
end Go.Proofs.Ytaldmianlmgloab
