/- rostrumkeep.LastTold returns true for every input and leaves its arguments as they were; no condition. -/
import Derived.Test.YtaldmianlmgloaaLogPlain
import Derived.Test.YtaldmianlmgloaaLaw
namespace Go.Proofs.Ytaldmianlmgloaa
set_option linter.all false
open Go.ChangeShapes Go.WideShapes Go.ChangeAt Go.RowKit
theorem lastOf_fst (b bt : Int) (L : List Itm) : (lastOf b bt L).1 = b + L.length := by
  by_cases h : L = []
  · subst h; simp [lastOf_nil]
  · rw [lastOf_pos (List.length_pos_iff.2 h)]
theorem termOf_last (b bt : Int) (L : List Itm) : termOf b bt L (b + L.length) = ((lastOf b bt L).2, 0) := by
  by_cases h : L = []
  · subst h
    rw [lastOf_nil, show b + (([] : List Itm).length : Int) = b by simp, termOf_eq]
  · have hp := List.length_pos_iff.2 h
    rw [lastOf_pos hp, show b + (L.length : Int) = b + 1 + ((L.length - 1 : Nat) : Int) by omega, termOf_at (by omega)]
theorem termE_in {b bt : Int} {L : List Itm} {p : Int} (h0 : 0 ≤ p) (h1 : p ≤ 1048576) : termE b bt L p = termOf b bt L p := by
  unfold termE; rw [if_neg (by omega)]
theorem termE_past {b bt : Int} {L : List Itm} (h0 : 0 ≤ b) (h1 : b + L.length + 1 ≤ 1048576) : termE b bt L (b + L.length + 1) = (0, 5) := by
  rw [termE_in (by omega) h1, termOf_gt (by omega) (by omega)]
set_option maxHeartbeats 2000000 in
theorem lastTold_walk (A : Option Addr) (n c : Nat) (l : List DeedD) (base : Int) (w : World) (hS : Sl w 8 A n c (deedRows l)) (hd : ∀ d ∈ l, d.ok) (hb : I64 base) :
    Calls Try.prog 10 #[.slice A n c, .int .i64 base] w fun e w' => e = .returned (.bool true) ∧ Below w.heap.size w w' := by
  obtain ⟨b, bt, L, hG, -, -, -, HL⟩ := Log_good A n c l base hb hd
  clear hd
  obtain ⟨g1, g2, g3, g4, g5, g6⟩ := hG
  have hp1 : b + (L.length : Int) ≤ 42 := by omega
  have hLast := fun A c w (h : Sl w 10 A L.length c (itemRows L)) => Last_any b bt A _ c L w ⟨by omega, by omega⟩ ⟨by omega, by omega⟩ h g1
  have hT1 := fun A c w (h : Sl w 10 A L.length c (itemRows L)) => Term_any b bt A _ c L (b + L.length) w ⟨by omega, by omega⟩ ⟨by omega, by omega⟩ ⟨by omega, by omega⟩ h g1
  have hT2 := fun A c w (h : Sl w 10 A L.length c (itemRows L)) => Term_any b bt A _ c L (b + L.length + 1) w ⟨by omega, by omega⟩ ⟨by omega, by omega⟩ ⟨by omega, by omega⟩ h g1
  have hCk := fun A c w (h : Sl w 10 A L.length c (itemRows L)) => Check_any b bt A _ c L w ⟨by omega, by omega⟩ ⟨by omega, by omega⟩ h
  rw [termE_in (by omega) (by omega), termOf_last] at hT1
  rw [termE_past (by omega) (by omega)] at hT2
  rw [lastOf_fst] at hLast
  rw [g1] at hCk
  generalize (lastOf b bt L).2 = t at hT1 hLast
  simp only at hT1 hT2
  have HLast := hide hLast; have HT1 := hide hT1; have HT2 := hide hT2; have HCk := hide hCk
  clear hLast hT1 hT2 hCk g1
  go_enter Try.func10, Try.ntmps10
  go_wp2_with fail
  refine (HL.out _ hS).mono ?_
  rintro e w1 ⟨A', c', rfl, hsl, hb1⟩
  go_wp2_with fail
  have hsl1 := hsl.alloc (.cells #[.int .i64 b, .int .i64 bt, .slice A' L.length c'] 43)
  have B1 := Blk.new w1 43 #[.int .i64 b, .int .i64 bt, .slice A' L.length c']
  refine (HLast.out _ _ _ hsl1).mono ?_
  rintro e w2 ⟨rfl, hb2⟩
  have hsl2 := hsl1.below hb2
  have B2 := B1.below' hb2
  have c2 := B2.cell
  go_wp2_with fail
  refine (HT1.out _ _ _ hsl2).mono ?_
  rintro e w3 ⟨rfl, hb3⟩
  have hsl3 := hsl2.below hb3
  have B3 := B2.below' hb3
  have c3 := B3.cell
  clear c2
  go_wp2_with fail
  refine (HT2.out _ _ _ hsl3).mono ?_
  rintro e w4 ⟨rfl, hb4⟩
  have hsl4 := hsl3.below hb4
  have B4 := B3.below' hb4
  have c4 := B4.cell
  clear c3
  go_wp2_with fail
  refine (HCk.out _ _ _ hsl4).mono ?_
  rintro e w5 ⟨rfl, hb5⟩
  go_wp2_with fail
  go_ret
  exact ⟨rfl, (by repeat (first | (with_reducible exact Below.refl _ _) | (with_reducible assumption) | (with_reducible refine Below.drew ?_) | (with_reducible refine bdrewN ?_ _) | (with_reducible refine balloc ?_ _) | ((with_reducible refine bset ?_ ?_ _); rotate_left; (focus first | exact Nat.le_refl _ | (simp; done) | (simp; omega) | omega)) | (with_reducible refine bstep ?_ (by with_reducible assumption)) | (with_reducible refine Below.trans ?_ (by with_reducible assumption))))⟩
set_option maxRecDepth 100000 in
theorem lastTold_lifted (os : Os) (started : os.Started) (H : Type) (enc : TypeId × Value → H) :
  ReturnsInHanded {} Try.checked os 10 .any (Rows.lastToldSpec.pre6 enc Try.prog Try.f10 Rows.lastToldRow.domain false) (Rows.lastToldSpec.post enc Try.prog Try.f10 false true false false) := by
  refine returnsInHanded_of_change (C := Try.checked) Try.own started (by kernel_rfl) Try.func10 (ChangeSpec.witness6 (enc := enc) (C := Try.checked) false ⟨#[], #[.slice none 0 0, .int .i64 0], []⟩ 8 (by kernel_rfl) (by kernel_rfl) (by kernel_rfl) (by kernel_rfl)) ?_
  intro W base args ds gs before hval0 hW hcnd _
  have hval : ∀ (j : Nat) t v, Try.f10.params[j]? = some t → args[j]? = some v → Value.okWide Try.prog W .any base t v := hval0
  have hW' := hW
  obtain ⟨p, q, hA0, hV, rfl, hfz, hnd⟩ := hW
  have hA : DataW.TrodAll enc Try.prog W 0 (fun _ => true) true Try.f10.params.toList args.toList ds p := hA0
  rw [Try.params10] at hA hval
  obtain ⟨rfl, rfl⟩ := trodVars_none hV
  clear hA0 hval0 hcnd hV hfz hnd
  obtain ⟨v0, v1, d0, d1, p0, p1, rfl, rfl, rfl, h0, h1⟩ := trodAll_two hA
  obtain ⟨A, n, c, l, rfl, hd, hS⟩ := open_deeds (hval 0 40 v0 rfl rfl) h0
  obtain ⟨m, rfl, rfl, rfl, w1⟩ := open_int Try.underlying3 (hval 1 3 v1 rfl rfl) h1
  refine (lastTold_walk A n c l m W hS hd (i64_bounds w1)).mono fun e W' ⟨he, hb⟩ => ?_
  subst he
  exact ⟨_, rfl, post_law Try.laidOut hW' rfl (by kernel_rfl) rfl Try.underlying4 (fun _ => rfl) (fun _ => rfl) (fun _ => rfl) hb⟩
theorem lastTold_holds : Rows.LastToldSaid := OpenClaim.holds_of_wide 10 Try.f10 rfl rfl rfl rfl rfl rfl rfl ⟨rfl, rfl, rfl, rfl, rfl⟩ rfl rfl rfl rfl rfl (by kernel_rfl) Try.func10 (by kernel_rfl)
  (of_decide_eq_true (by kernel_rfl)) (by unfold Func.isWrapper; first | (rw [if_pos (by decide +kernel)]; kernel_rfl) | (rw [if_neg (by decide +kernel)]; exact ⟨rfl, rfl⟩))
  (fun os started H enc _ => lastTold_lifted os started H enc)
#print axioms lastTold_holds
end Go.Proofs.Ytaldmianlmgloaa
