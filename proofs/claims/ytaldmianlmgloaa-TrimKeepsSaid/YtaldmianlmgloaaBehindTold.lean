/- rostrumkeep.BehindTold returns true for every input and leaves its arguments as they were; no condition. -/
import Derived.Test.YtaldmianlmgloaaLastTold
namespace Go.Proofs.Ytaldmianlmgloaa
set_option linter.all false
open Go.ChangeShapes Go.WideShapes Go.ChangeAt Go.RowKit
theorem take_le {α : Type} {l : List α} {a b : Nat} (h : l.length ≤ a) (h2 : l.length ≤ b) : l.take a = l.take b := by
  rw [List.take_of_length_le h, List.take_of_length_le h2]
theorem sub_rows {w : World} {A : Option Addr} {c : Nat} {L : List Itm} (h : Sl w 10 A L.length c (itemRows L)) (k j : Nat) (hk : k ≤ j) (hj : j ≤ L.length) :
    Sl w 10 (cutA A c k 10) (j - k) (c - k) (itemRows ((L.drop k).take (j - k))) := by
  have h1 := h.drop k (by omega) c (Nat.le_refl _) h.nc
  rw [itemRows_drop] at h1
  have h2 := h1.take (j - k) (by omega) (c - k) (by have := h.nc; omega) (Nat.le_refl _)
  rw [itemRows_take] at h2
  exact h2
theorem sameItems_eq (A B : Option Addr) (n m c d : Nat) (a b : List Itm) (w : World) (ha : Sl w 10 A n c (itemRows a)) (hb : Sl w 10 B m d (itemRows b)) (he : a = b) :
    Calls Try.prog 29 #[.slice A n c, .slice B m d] w fun e w' => e = .returned (.bool true) ∧ Below w.heap.size w w' := by
  have := sameItems_any A B n m c d a b w ha hb
  rw [decide_eq_true he] at this
  exact this
set_option maxHeartbeats 4000000 in
theorem behindTold_walk (A : Option Addr) (n c : Nat) (l : List DeedD) (base at_ most : Int) (w : World) (hS : Sl w 8 A n c (deedRows l)) (hd : ∀ d ∈ l, d.ok) (hb : I64 base) (hat : I64 at_) (hmo : I64 most) :
    Calls Try.prog 11 #[.slice A n c, .int .i64 base, .int .i64 at_, .int .i64 most] w fun e w' => e = .returned (.bool true) ∧ Below w.heap.size w w' := by
  obtain ⟨b, bt, L, hG, -, -, -, HL⟩ := Log_good A n c l base hb hd
  clear hd
  obtain ⟨g1, g2, g3, g4, g5, g6⟩ := hG
  have hP := fun w => picked_any at_ (L.length + 1) w hat.1 hat.2 (by omega) (by omega)
  have p1 := picked_lo at_ (L.length + 1) (by omega)
  have p2 := picked_hi at_ (L.length + 1) (by omega)
  obtain ⟨k, hk⟩ := Int.eq_ofNat_of_zero_le p1
  rw [hk] at hP p2
  have hM := fun w => picked_any most 12 w hmo.1 hmo.2 (by omega) (by omega)
  have q1 := picked_lo most 12 (by omega)
  have q2 := picked_hi most 12 (by omega)
  obtain ⟨m, hm⟩ := Int.eq_ofNat_of_zero_le q1
  rw [hm] at hM q2
  clear hk hm p1 q1
  have hkl : k ≤ L.length := by omega
  have hB1 := fun A c w (h : Sl w 10 A L.length c (itemRows L)) => Behind_ok b bt A _ c L k m w ⟨by omega, by omega⟩ ⟨by omega, by omega⟩ h g1 hkl (by omega)
  have hB2 := fun A c w (h : Sl w 10 A L.length c (itemRows L)) => Behind_range b bt A _ c L b (-1) w ⟨by omega, by omega⟩ ⟨by omega, by omega⟩ h g1 (by omega)
  have hB3 := fun A c w (h : Sl w 10 A L.length c (itemRows L)) => Behind_none b bt A _ c L (b + L.length + 1) 1 w ⟨by omega, by omega⟩ ⟨by omega, by omega⟩ h g1 (by omega) (by omega) (by omega) (by rw [termOf_gt (by omega) (by omega)]; decide)
  rw [termOf_gt (by omega) (by omega)] at hB3
  simp only at hB3
  have HB1 := hide hB1; have HB2 := hide hB2; have HB3 := hide hB3; have HP := hide hP; have HM := hide hM
  clear hB1 hB2 hB3 hP hM g1
  go_enter Try.func11, Try.ntmps11
  go_wp2_with fail
  refine (HL.out _ hS).mono ?_
  rintro e w1 ⟨A', c', rfl, hsl, hb1⟩
  have hsl1 := hsl.alloc (.cells #[.int .i64 b, .int .i64 bt, .slice A' L.length c'] 43)
  have B1 := Blk.new w1 43 #[.int .i64 b, .int .i64 bt, .slice A' L.length c']
  have hnc := hsl.nc
  have hcm := hsl.cm
  unfold maxLen at hcm
  go_wp2_with fail
  refine (HP.out _).mono ?_
  rintro e w' ⟨rfl, rfl⟩
  go_wp2_with fail
  refine (HM.out _).mono ?_
  rintro e w' ⟨rfl, rfl⟩
  go_wp2_with fail
  refine (HB1.out _ _ _ hsl1).mono ?_
  rintro e w2 ⟨v, rfl, hown, hb2⟩
  obtain ⟨A2, c2, rfl, hx2⟩ := hown.sl
  have hsl2 := hsl1.below hb2
  have B2 := B1.below' hb2
  have c2' := B2.cell
  go_wp2_with fail
  refine (HB2.out _ _ _ hsl2).mono ?_
  rintro e w3 ⟨rfl, hb3⟩
  clear c2'
  have hx3 := hx2.below hb3
  have hsl3 := hsl2.below hb3
  have B3 := B2.below' hb3
  have c3' := B3.cell
  go_wp2_with fail
  refine (HB3.out _ _ _ hsl3).mono ?_
  rintro e w4 ⟨rfl, hb4⟩
  clear c3'
  have hx4 := hx3.below hb4
  have hsl4 := hsl3.below hb4
  have B4 := B3.below' hb4
  have c4' := B4.cell
  by_cases hkm : k + m ≤ L.length
  · have s1 := run_cut2 Try.underlying41 item_size A' L.length c' k (k + m) (by omega) (by omega)
    have hy : Sl w4 10 (cutA A' c' k 10) m (c' - k) (itemRows ((L.drop k).take m)) := by
      have := sub_rows hsl4 k (k + m) (by omega) (by omega)
      rwa [Nat.add_sub_cancel_left] at this
    have ekm : ((k + m : Nat) : Int) = (k : Int) + m := by omega
    rw [ekm] at s1
    go_wp2_with fail
    refine (sameItems_eq _ _ _ _ _ _ _ _ _ hx4 hy rfl).mono ?_
    rintro e w5 ⟨rfl, hb5⟩
    go_wp2_with fail
    go_ret
    exact ⟨rfl, (by repeat (first | (with_reducible exact Below.refl _ _) | (with_reducible assumption) | (with_reducible refine Below.drew ?_) | (with_reducible refine bdrewN ?_ _) | (with_reducible refine balloc ?_ _) | ((with_reducible refine bset ?_ ?_ _); rotate_left; (focus first | exact Nat.le_refl _ | (simp; done) | (simp; omega) | omega)) | (with_reducible refine bstep ?_ (by with_reducible assumption)) | (with_reducible refine Below.trans ?_ (by with_reducible assumption))))⟩
  · have s1 := run_cut2 Try.underlying41 item_size A' L.length c' k L.length (by omega) (by omega)
    have hy := sub_rows hsl4 k L.length (by omega) (by omega)
    go_wp2_with fail
    refine (sameItems_eq _ _ _ _ _ _ _ _ _ hx4 hy (take_le (by rw [List.length_drop]; omega) (by rw [List.length_drop]; omega))).mono ?_
    rintro e w5 ⟨rfl, hb5⟩
    go_wp2_with fail
    go_ret
    exact ⟨rfl, (by repeat (first | (with_reducible exact Below.refl _ _) | (with_reducible assumption) | (with_reducible refine Below.drew ?_) | (with_reducible refine bdrewN ?_ _) | (with_reducible refine balloc ?_ _) | ((with_reducible refine bset ?_ ?_ _); rotate_left; (focus first | exact Nat.le_refl _ | (simp; done) | (simp; omega) | omega)) | (with_reducible refine bstep ?_ (by with_reducible assumption)) | (with_reducible refine Below.trans ?_ (by with_reducible assumption))))⟩
set_option maxRecDepth 100000 in
theorem behindTold_lifted (os : Os) (started : os.Started) (H : Type) (enc : TypeId × Value → H) :
  ReturnsInHanded {} Try.checked os 11 .any (Rows.behindToldSpec.pre6 enc Try.prog Try.f11 Rows.behindToldRow.domain false) (Rows.behindToldSpec.post enc Try.prog Try.f11 false true false false) := by
  refine returnsInHanded_of_change (C := Try.checked) Try.own started (by kernel_rfl) Try.func11 (ChangeSpec.witness6 (enc := enc) (C := Try.checked) false ⟨#[], #[.slice none 0 0, .int .i64 0, .int .i64 0, .int .i64 0], []⟩ 8 (by kernel_rfl) (by kernel_rfl) (by kernel_rfl) (by kernel_rfl)) ?_
  intro W base args ds gs before hval0 hW hcnd _
  have hval : ∀ (j : Nat) t v, Try.f11.params[j]? = some t → args[j]? = some v → Value.okWide Try.prog W .any base t v := hval0
  have hW' := hW
  obtain ⟨p, q, hA0, hV, rfl, hfz, hnd⟩ := hW
  have hA : DataW.TrodAll enc Try.prog W 0 (fun _ => true) true Try.f11.params.toList args.toList ds p := hA0
  rw [Try.params11] at hA hval
  obtain ⟨rfl, rfl⟩ := trodVars_none hV
  clear hA0 hval0 hcnd hV hfz hnd
  obtain ⟨v0, v1, v2, v3, d0, d1, d2, d3, p0, p1, p2, p3, rfl, rfl, rfl, h0, h1, h2, h3⟩ := trodAll_four hA
  obtain ⟨A, n, c, l, rfl, hd, hS⟩ := open_deeds (hval 0 40 v0 rfl rfl) h0
  obtain ⟨m1, rfl, rfl, rfl, w1⟩ := open_int Try.underlying3 (hval 1 3 v1 rfl rfl) h1
  obtain ⟨m2, rfl, rfl, rfl, w2⟩ := open_int Try.underlying3 (hval 2 3 v2 rfl rfl) h2
  obtain ⟨m3, rfl, rfl, rfl, w3⟩ := open_int Try.underlying3 (hval 3 3 v3 rfl rfl) h3
  refine (behindTold_walk A n c l m1 m2 m3 W hS hd (i64_bounds w1) (i64_bounds w2) (i64_bounds w3)).mono fun e W' ⟨he, hb⟩ => ?_
  subst he
  exact ⟨_, rfl, post_law Try.laidOut hW' rfl (by kernel_rfl) rfl Try.underlying4 (fun _ => rfl) (fun _ => rfl) (fun _ => rfl) hb⟩
theorem behindTold_holds : Rows.BehindToldSaid := OpenClaim.holds_of_wide 11 Try.f11 rfl rfl rfl rfl rfl rfl rfl ⟨rfl, rfl, rfl, rfl, rfl⟩ rfl rfl rfl rfl rfl (by kernel_rfl) Try.func11 (by kernel_rfl)
  (of_decide_eq_true (by kernel_rfl)) (by unfold Func.isWrapper; first | (rw [if_pos (by decide +kernel)]; kernel_rfl) | (rw [if_neg (by decide +kernel)]; exact ⟨rfl, rfl⟩))
  (fun os started H enc _ => behindTold_lifted os started H enc)
#print axioms behindTold_holds
end Go.Proofs.Ytaldmianlmgloaa
