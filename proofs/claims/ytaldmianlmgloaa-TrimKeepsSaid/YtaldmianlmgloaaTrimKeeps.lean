/- rostrumkeep.TrimKeeps returns true for every input and leaves its arguments as they were; no condition. -/
import Derived.Test.YtaldmianlmgloaaTrimP
import Derived.Test.YtaldmianlmgloaaBehindTold
import Derived.Test.YtaldmianlmgloaaStill
namespace Go.Proofs.Ytaldmianlmgloaa
set_option linter.all false
open Go.ChangeShapes Go.WideShapes Go.ChangeAt Go.RowKit
set_option maxHeartbeats 4000000 in
theorem trimKeeps_walk (A : Option Addr) (n c : Nat) (l : List DeedD) (base at_ : Int) (w : World) (hS : Sl w 8 A n c (deedRows l)) (hd : ∀ d ∈ l, d.ok) (hb : I64 base) (hat : I64 at_) :
    Calls Try.prog 12 #[.slice A n c, .int .i64 base, .int .i64 at_] w fun e w' => e = .returned (.bool true) ∧ Below w.heap.size w w' := by
  obtain ⟨b, bt, L, hG, -, -, -, HL⟩ := Log_good A n c l base hb hd
  clear hd
  obtain ⟨g1, g2, g3, g4, g5, g6⟩ := hG
  have hP := fun w => picked_any at_ (L.length + 1) w hat.1 hat.2 (by omega) (by omega)
  have p1 := picked_lo at_ (L.length + 1) (by omega)
  have p2 := picked_hi at_ (L.length + 1) (by omega)
  obtain ⟨k, hk⟩ := Int.eq_ofNat_of_zero_le p1
  rw [hk] at hP p2
  clear hk p1
  have hkl : k ≤ L.length := by omega
  obtain ⟨t1, t2, t3, t4⟩ := trim_good g1 hkl
  have hTr := fun A c w (h : Sl w 10 A L.length c (itemRows L)) => Trim_ok b bt A _ c L k w ⟨by omega, by omega⟩ ⟨by omega, by omega⟩ h g1 hkl
  have hL1 := fun A c w (h : Sl w 10 A L.length c (itemRows L)) => Last_any b bt A _ c L w ⟨by omega, by omega⟩ ⟨by omega, by omega⟩ h g1
  generalize hT : (termOf b bt L (b + k)).1 = T at t1 t2 t3 t4 hTr
  clear hT
  have hL2 := fun A c n w (h : Sl w 10 A n c (itemRows (L.drop k))) => Last_any (b + k) T A _ c (L.drop k) w ⟨by omega, by omega⟩ ⟨by omega, by omega⟩ h t1
  rw [t4] at hL2
  have hlp := lastOf_place b bt L
  generalize lastOf b bt L = PT at hL1 hL2 hlp
  obtain ⟨p, t⟩ := PT
  have hlp : p = b + L.length := hlp
  subst hlp
  have hT2 := fun A c n w (h : Sl w 10 A n c (itemRows (L.drop k))) => Trim_bad (b + k) T A _ c (L.drop k) (b + k - 1) w ⟨by omega, by omega⟩ ⟨by omega, by omega⟩ h t1 ⟨by omega, by omega⟩ (by rw [termOf_lt (by omega)]; decide)
  rw [termOf_lt (by omega)] at hT2
  have hT3 := fun A c w (h : Sl w 10 A L.length c (itemRows L)) => Trim_bad b bt A _ c L (b + L.length + 1) w ⟨by omega, by omega⟩ ⟨by omega, by omega⟩ h g1 ⟨by omega, by omega⟩ (by rw [termOf_gt (by omega) (by omega)]; decide)
  rw [termOf_gt (by omega) (by omega)] at hT3
  try simp only at hT2
  try simp only at hT3
  have HP := hide hP; have HTr := hide hTr; have HL1 := hide hL1; have HL2 := hide hL2; have HT2 := hide hT2; have HT3 := hide hT3
  clear hP hTr hL1 hL2 hT2 hT3 g1 t1 t4
  go_enter Try.func12, Try.ntmps12
  go_wp2_with fail
  refine (HL.out _ hS).mono ?_
  rintro e w1 ⟨A', c', rfl, hsl, hb1⟩
  have hsl1 := hsl.alloc (.cells #[.int .i64 b, .int .i64 bt, .slice A' L.length c'] 43)
  have B1 := Blk.new w1 43 #[.int .i64 b, .int .i64 bt, .slice A' L.length c']
  have hnc := hsl.nc
  have hcm := hsl.cm
  unfold maxLen at hcm
  go_wp2_with fail
  refine (HP.out _).mono ?_
  rintro e w' ⟨rfl, rfl⟩
  go_wp2_with fail
  refine (HTr.out _ _ _ hsl1).mono ?_
  rintro e w2 ⟨v, rfl, hown, hb2⟩
  obtain ⟨A2, c2, rfl, hx2⟩ := hown.sl
  have hlen : (itemRows (L.drop k)).length = L.length - k := by simp [itemRows]
  rw [hlen] at hx2
  have hsl2 := (hsl1.below hb2).alloc (.cells #[.int .i64 (b + k), .int .i64 T, .slice A2 (itemRows (L.drop k)).length c2] 43)
  have B2 := (B1.below' hb2).alloc (.cells #[.int .i64 (b + k), .int .i64 T, .slice A2 (itemRows (L.drop k)).length c2] 43)
  have c2' := B2.cell
  have D2 := Blk.new w2 43 #[.int .i64 (b + k), .int .i64 T, .slice A2 (itemRows (L.drop k)).length c2]
  have hxs2 := hx2.alloc (.cells #[.int .i64 (b + k), .int .i64 T, .slice A2 (itemRows (L.drop k)).length c2] 43)
  have d2' := D2.cell
  have HLn := hide hlen
  clear hlen
  go_wp2_with fail
  refine (HL1.out _ _ _ hsl2).mono ?_
  rintro e w3 ⟨rfl, hb3⟩
  clear c2' d2'
  have hsl3 := hsl2.below hb3
  have hxs3 := hxs2.below hb3
  have B3 := B2.below' hb3
  have D3 := D2.below' hb3
  have c3' := B3.cell
  have d3' := D3.cell
  go_wp2_with fail
  refine (HL2.out _ _ _ _ (by rw [HLn.out]; exact hxs3)).mono ?_
  rintro e w4 ⟨rfl, hb4⟩
  clear c3' d3'
  have hsl4 := hsl3.below hb4
  have hxs4 := hxs3.below hb4
  have B4 := B3.below' hb4
  have D4 := D3.below' hb4
  have c4' := B4.cell
  have d4' := D4.cell
  go_wp2_with fail
  refine (HT2.out _ _ _ _ (by rw [HLn.out]; exact hxs4)).mono ?_
  rintro e w5 ⟨rfl, hb5⟩
  clear c4' d4'
  have hsl5 := (hsl4.below hb5).alloc (.cells #[.int .i64 0, .int .i64 0, .slice none 0 0] 43)
  have hxs5 := (hxs4.below hb5).alloc (.cells #[.int .i64 0, .int .i64 0, .slice none 0 0] 43)
  have B5 := (B4.below' hb5).alloc (.cells #[.int .i64 0, .int .i64 0, .slice none 0 0] 43)
  have D5 := (D4.below' hb5).alloc (.cells #[.int .i64 0, .int .i64 0, .slice none 0 0] 43)
  have c5' := B5.cell
  have d5' := D5.cell
  go_wp2_with fail
  refine (HT3.out _ _ _ hsl5).mono ?_
  rintro e w6 ⟨rfl, hb6⟩
  clear c5' d5'
  have hsl6 := (hsl5.below hb6).alloc (.cells #[.int .i64 0, .int .i64 0, .slice none 0 0] 43)
  have hxs6 := (hxs5.below hb6).alloc (.cells #[.int .i64 0, .int .i64 0, .slice none 0 0] 43)
  have B6 := (B5.below' hb6).alloc (.cells #[.int .i64 0, .int .i64 0, .slice none 0 0] 43)
  have D6 := (D5.below' hb6).alloc (.cells #[.int .i64 0, .int .i64 0, .slice none 0 0] 43)
  have c6' := B6.cell
  have d6' := D6.cell
  have s1 := run_cut Try.underlying41 item_size A' L.length c' k hkl
  go_wp2_with fail
  have hsum : IntKind.i64.wrap (b + (k : Int)) = b + k := IntWalk.i64_in _ (by omega)
  refine still_tail 44 (by kernel_rfl) (by kernel_rfl) ?_
  simp only [List.take_succ_cons, List.take_zero, List.drop_succ_cons, List.drop_zero]
  repeat still_step
  try refine wpStill_nil ?_
  go_wp2_with fail
  have hx7 : Sl (w6.alloc (.cells #[.int .i64 0, .int .i64 0, .slice none 0 0] 43)).drew 10 A2 (itemRows (L.drop k)).length c2 (itemRows (L.drop k)) := by rw [HLn.out]; exact hxs6.drew
  have hy7 := (hsl6.drop k hkl c' (Nat.le_refl _) hnc).drew
  rw [itemRows_drop] at hy7
  refine (sameItems_eq _ _ _ _ _ _ _ _ _ hx7 hy7 rfl).mono ?_
  rintro e w7 ⟨rfl, hb7⟩
  go_wp2_with fail
  go_ret
  exact ⟨rfl, (by repeat (first | (with_reducible exact Below.refl _ _) | (with_reducible assumption) | (with_reducible refine Below.drew ?_) | (with_reducible refine bdrewN ?_ _) | (with_reducible refine balloc ?_ _) | ((with_reducible refine bset ?_ ?_ _); rotate_left; (focus first | exact Nat.le_refl _ | (simp; done) | (simp; omega) | omega)) | (with_reducible refine bstep ?_ (by with_reducible assumption)) | (with_reducible refine Below.trans ?_ (by with_reducible assumption))))⟩
set_option maxRecDepth 100000 in
theorem trimKeeps_lifted (os : Os) (started : os.Started) (H : Type) (enc : TypeId × Value → H) :
  ReturnsInHanded {} Try.checked os 12 .any (Rows.trimKeepsSpec.pre6 enc Try.prog Try.f12 Rows.trimKeepsRow.domain false) (Rows.trimKeepsSpec.post enc Try.prog Try.f12 false true false false) := by
  refine returnsInHanded_of_change (C := Try.checked) Try.own started (by kernel_rfl) Try.func12 (ChangeSpec.witness6 (enc := enc) (C := Try.checked) false ⟨#[], #[.slice none 0 0, .int .i64 0, .int .i64 0], []⟩ 8 (by kernel_rfl) (by kernel_rfl) (by kernel_rfl) (by kernel_rfl)) ?_
  intro W base args ds gs before hval0 hW hcnd _
  have hval : ∀ (j : Nat) t v, Try.f12.params[j]? = some t → args[j]? = some v → Value.okWide Try.prog W .any base t v := hval0
  have hW' := hW
  obtain ⟨p, q, hA0, hV, rfl, hfz, hnd⟩ := hW
  have hA : DataW.TrodAll enc Try.prog W 0 (fun _ => true) true Try.f12.params.toList args.toList ds p := hA0
  rw [Try.params12] at hA hval
  obtain ⟨rfl, rfl⟩ := trodVars_none hV
  clear hA0 hval0 hcnd hV hfz hnd
  obtain ⟨v0, v1, v2, d0, d1, d2, p0, p1, p2, rfl, rfl, rfl, h0, h1, h2⟩ := trodAll_three hA
  obtain ⟨A, n, c, l, rfl, hd, hS⟩ := open_deeds (hval 0 40 v0 rfl rfl) h0
  obtain ⟨m1, rfl, rfl, rfl, w1⟩ := open_int Try.underlying3 (hval 1 3 v1 rfl rfl) h1
  obtain ⟨m2, rfl, rfl, rfl, w2⟩ := open_int Try.underlying3 (hval 2 3 v2 rfl rfl) h2
  refine (trimKeeps_walk A n c l m1 m2 W hS hd (i64_bounds w1) (i64_bounds w2)).mono fun e W' ⟨he, hb⟩ => ?_
  subst he
  exact ⟨_, rfl, post_law Try.laidOut hW' rfl (by kernel_rfl) rfl Try.underlying4 (fun _ => rfl) (fun _ => rfl) (fun _ => rfl) hb⟩
theorem trimKeeps_holds : Rows.TrimKeepsSaid := OpenClaim.holds_of_wide 12 Try.f12 rfl rfl rfl rfl rfl rfl rfl ⟨rfl, rfl, rfl, rfl, rfl⟩ rfl rfl rfl rfl rfl (by kernel_rfl) Try.func12 (by kernel_rfl)
  (of_decide_eq_true (by kernel_rfl)) (by unfold Func.isWrapper; first | (rw [if_pos (by decide +kernel)]; kernel_rfl) | (rw [if_neg (by decide +kernel)]; exact ⟨rfl, rfl⟩))
  (fun os started H enc _ => trimKeeps_lifted os started H enc)
#print axioms trimKeeps_holds
end Go.Proofs.Ytaldmianlmgloaa
