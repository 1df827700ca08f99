/- rostrumtop.TopRefused returns true for every input; client.nothing holds what its initialiser lays. -/
import Derived.Test.YtgdcofbnbiclmaaGreatDoorTopD
import Derived.Test.YtgdcofbnbiclmaaGreatDoorHeldG
import Derived.Test.YtgdcofbnbiclmaaGreatDoorBlkS
import Derived.Test.YtgdcofbnbiclmaaGreatDoorLaidT
namespace Go.Proofs.YtgdcofbnbiclmaaGreatDoor
set_option linter.all false
open Go.ChangeShapes Go.WideShapes Go.ChangeAt Go.RowKit
theorem out_size : (Tryz.prog.info? 32).map (·.size) = some 4 := by kernel_rfl
theorem act_size : (Tryz.prog.info? 40).map (·.size) = some 10 := by kernel_rfl
theorem act_one : ∀ (l : List ActD), ∀ r ∈ actRows l, ∀ u ∈ r, u.oneCell' = true := by
  intro l r hr u hu
  obtain ⟨x, _, rfl⟩ := List.mem_map.1 hr
  exact act_cells_one x u hu
theorem actRows_take (l : List ActD) (k : Nat) : (actRows l).take k = actRows (l.take k) := by simp [actRows]
theorem actRows_drop (l : List ActD) (k : Nat) : (actRows l).drop k = actRows (l.drop k) := by simp [actRows]
theorem actRows_app (a b : List ActD) : actRows (a ++ b) = actRows a ++ actRows b := by simp [actRows]
set_option maxHeartbeats 8000000 in
set_option maxRecDepth 100000 in
theorem topRefused_walk (A : Option Addr) (n c : Nat) (l : List GearD) (at_ : Int) (w : World) (hS : Sl w 8 A n c (gearRows l)) (hd : ∀ d ∈ l, d.ok) (hat : I64 at_) :
    Calls Tryz.prog 8 #[.slice A n c, .int .i64 at_] w fun e w' => e = .returned (.bool true) ∧ Below w.heap.size w w' := by
  have HA := hide (acts_any A n c l 20 (by omega) w hS hd)
  have hok := acts_ok l 20
  have hlen : (actsOf l 20).length ≤ 20 := by simp [actsOf]; omega
  generalize actsOf l 20 = L at *
  obtain ⟨k, hk⟩ := Int.eq_ofNat_of_zero_le (picked_lo at_ (L.length + 1) (by omega))
  have hk1 := picked_hi at_ (L.length + 1) (by omega)
  have HP := hide (fun w => Picked_any at_ (L.length + 1) w hat.1 hat.2 (by omega) (by omega))
  rw [hk] at HP hk1
  have hkl : k ≤ L.length := by omega
  have HBB := hide (bent_bad L k hok)
  clear hS hd hok hk hat
  have hw1 : IntKind.i64.wrap ((L.length : Int) + 1) = (L.length : Int) + 1 := IntWalk.i64_in _ (by omega)
  go_enter Tryz.func8, Tryz.ntmps8
  go_wp2_with fail
  refine HA.out.mono ?_
  rintro e w1 ⟨v, rfl, O1, b1⟩
  obtain ⟨A1, c1, rfl, S1⟩ := O1.sl
  rw [actRows_length] at S1 ⊢
  clear HA O1
  go_wp2_with fail
  refine (HP.out _).mono ?_
  rintro e w' ⟨rfl, rfl⟩
  have hc1 := S1.nc
  have s1 := fun w => run_take Tryz.underlying24 act_size A1 L.length c1 k (by omega) w
  have s2 := fun w => run_cut Tryz.underlying24 act_size A1 L.length c1 k (by omega) w
  have St := S1.take k hkl c1 (by omega) (Nat.le_refl _)
  have Sd := S1.drop k hkl c1 (Nat.le_refl _) hc1
  rw [actRows_take] at St
  rw [actRows_drop] at Sd
  clear HP S1
  go_upto_region 3 with fail
  refine wp_region_x (l := []) (S := fun _ => True) (by kernel_rfl) trivial (fun hS => ?_)
  obtain ⟨wd, hwd⟩ : ∃ wd, wd = w1.drew := ⟨_, rfl⟩
  have bd : Below w.heap.size w wd := by rw [hwd]; exact b1.drew
  have St' : Sl wd 10 A1 k c1 (actRows (L.take k)) := by rw [hwd]; exact St.drew
  have Sd' := Sd.drew
  rw [← hwd] at Sd' ⊢
  clear hwd St Sd b1
  refine wpAnyX_tq 0 ?_
  refine wpAnyX_tq 1 ?_
  refine wpAnyX_tq 2 ?_
  refine wpAnyX_tq 4 ?_
  refine wpAnyX_tq 7 ?_
  refine wpAnyX_tq 8 ?_
  refine wpAnyX_tq 9 ?_
  clear hS
  refine wpG_start1 (j := 5) (d := 26) (t := 40) (z := #[.int .i64 3, .int .i64 3, .int .i64 0, .int .i64 0, .int .i64 0, .int .i64 0, .string { data := #[] }, .string { data := #[] }, .string { data := #[] }, .int .i64 0]) (val := vsl 1) (C := fun a => a.tmps[25]?.getD undef = .agg #[.int .i64 3, .int .i64 3, .int .i64 0, .int .i64 0, .int .i64 0, .int .i64 0, .string { data := #[] }, .string { data := #[] }, .string { data := #[] }, .int .i64 0]) ⟨⟨_, rfl, rfl, rfl, fun a w h => ?al1⟩, vsl_inj 1⟩ (fun al1 => ?_)
  (case al1 => simp [go_sem, execOp, h, vsl])
  refine wpG_phase1 (base := wd.heap.size) al1 3 (f := 3) (fun b_ => #[true, true, true, false, true, b_, false, true, true, true, false, false]) (fun w' => Below wd.heap.size wd w') (x := undef) (fun _ _ => trivial) (fun w' o q => q.alloc q.size o) (fun w' q => q.size) (fun _ => rfl) (Below.refl _ wd) PendG.no ?_
  intro b_ x_ wa Ga hx K_ hK_
  (try simp only [vptr, vsl, Act.put, List.setIfInBounds_toArray, List.set_cons_zero, List.set_cons_succ, List.getElem_toArray, List.getElem_cons_zero, List.getElem_cons_succ])
  have ha := Ga.size
  have Sa := St'.below Ga
  go_wp2_with (at_builtin; refine wpList_pushes_g rfl _ _ _ rfl Tryz.underlying24 act_info rfl (by decide) (by rfl) (Own.nil (base := wd.heap.size)) (by rfl) Sa (act_one _) (by simp [maxLen]; omega) (by simp; omega) ha ?_; intro Ab nb cb wb Ob bb gb)
  have Gb := Ga.trans bb
  have hxb : PendG b_ wd.heap.size 40 #[.int .i64 3, .int .i64 3, .int .i64 0, .int .i64 0, .int .i64 0, .int .i64 0, .string { data := #[] }, .string { data := #[] }, .string { data := #[] }, .int .i64 0] (vsl 1) x_ wb := hx.grew gb (fun p _ _ => by simp [Value.ownBlock])
  refine hK_.out _ _ (Or.inr trivial) ?_
  clear hK_ K_ hx gb bb Ga Sa ha
  refine wpG_lay1 (base := wd.heap.size) al1 (f := 3) (fun b_ => #[true, true, true, true, true, b_, false, true, true, true, false, false]) (fun w' => Below wb.heap.size wb w') (x := x_) (fun _ _ => trivial) (fun w' o q => q.alloc q.size o) (fun w' q => Nat.le_trans Gb.size q.size) (fun _ => rfl) (Below.refl _ wb) hxb ?_
  clear hxb
  intro q_ wc Gc hq Bc
  (try simp only [vptr, vsl, Act.put, List.setIfInBounds_toArray, List.set_cons_zero, List.set_cons_succ, List.getElem_toArray, List.getElem_cons_zero, List.getElem_cons_succ])
  replace Ob := Ob.below Gc
  replace Gc := Gb.trans (Gc.mono Gb.size)
  clear Gb al1
  have S6 : Sl wc 10 (some ⟨q_, 0, none⟩) 1 1 (actRows [bareAct 3 3 0]) := Sl.of_blk Bc rfl (by intro r hr; simp [actRows] at hr; subst hr; rfl) rfl (by decide)
  have hl6 := Ob.sl'.len
  have hTk : ((actRows (L.take k)) : List (List Value)).length = k := by rw [actRows_length, List.length_take]; omega
  rw [List.nil_append] at hl6 Ob
  rw [hTk] at hl6
  subst hl6
  have hgc := Gc.size
  refine wpAnyX_oq 6 fun K hK => ?_
  go_wp2_with (at_builtin; refine wpList_pushes rfl _ _ _ rfl Tryz.underlying24 act_info rfl (by decide) (by rfl) Ob (by rfl) S6 (act_one _) (by rw [hTk]; unfold maxLen; omega) (by rw [hTk]; omega) hgc ?_; intro A6 n6 c6 w6 O6 b6)
  rw [← actRows_app] at O6
  have G6 := Gc.trans b6
  have Sd6 := Sd'.below G6
  refine hK.out _ _ (Or.inr trivial) (fun _ => ?_)
  clear hK K S6 Ob hgc Bc
  have hT6 : ((actRows (L.take k ++ [bareAct 3 3 0])) : List (List Value)).length = k + 1 := by rw [actRows_length, List.length_append, List.length_take]; simp; omega
  have hl6 := O6.sl'.len
  rw [hT6] at hl6
  subst hl6
  have hg6 := G6.size
  refine wpAnyX_oq 10 fun K hK => ?_
  go_wp2_with (at_builtin; refine wpList_pushes rfl _ _ _ rfl Tryz.underlying24 act_info rfl (by decide) (by rfl) O6 (by rfl) Sd6 (act_one _) (by rw [hT6]; unfold maxLen; omega) (by rw [hT6]; omega) hg6 ?_; intro A7 n7 c7 w7 O7 b7)
  rw [← actRows_app] at O7
  have G7 := G6.trans b7
  refine hK.out _ _ (Or.inr trivial) (fun hS => ?_)
  clear hK K Sd6 O6 hg6
  replace hS := hS.resolve_left (by decide)
  refine wpAnyX_ps 11 ?_
  clear hS
  refine wpAnyX_done (by kernel_rfl) ?_ _
  have hn7 : n7 = L.length + 1 := by rw [← O7.sl'.len, actRows_length]; simp; omega
  subst hn7
  have HR1 := hide (fun w h => Run_bad _ A7 (L.length + 1) c7 w h (by omega) 2 HBB.out (by omega))
  have q7 := bstep bd (G7.mono (Nat.le_refl _))
  unfold refusedV at HR1
  have HO7 := hide O7
  clear O7 b7 b6 G7 G6 Gc HBB
  go_wp2_with fail
  refine (HR1.out _ HO7.out.sl').mono ?_
  rintro e w8 ⟨rfl, b8⟩
  have q8 := bstep q7 b8
  have q9 : Below w.heap.size w (w8.alloc (.cells #[.slice none 0 0, .slice none 0 0, .slice none 0 0, .int .i64 0] 32)) := below_by
  clear b8 q7 HO7 HR1
  go_upto_region 5 with (refine wpList_sto rfl 32 _ _ rfl (cells := #[.slice none 0 0, .slice none 0 0, .slice none 0 0, .int .i64 0]) rfl rfl (Blk.new w8 _ _) rfl out_size (one_all rfl) ?_; intro w9 Z9 gr9 sz9)
  replace q9 := below_sto q9 gr9 q9.size (by have := q8.size; omega)
  clear gr9 sz9 q8
  obtain ⟨g8, hg8⟩ : ∃ g8, g8 = w8.heap.size := ⟨_, rfl⟩
  rw [← hg8] at Z9 ⊢
  clear hg8
  obtain ⟨zs, mk⟩ : ∃ zs : Array Value, ∀ w, (Instr.makeSlice 24 (.int .i64 3001) (.int .i64 3001)).run Tryz.prog w = .ok (.slice (some ⟨w.heap.size, 0, none⟩) 3001 3001) (w.alloc (.cells zs 40)) := ⟨_, make_var Tryz.underlying24 act_info 3001 (by omega) (by omega)⟩
  have ZA := Z9.alloc (.cells zs 40)
  have qA : Below w.heap.size w (w9.alloc (.cells zs 40)) := below_by
  clear q9 Z9
  go_wp2_with fail
  have HR2 := hide (fun A w => Run_size A 3001 3001 w (by omega) (by omega))
  unfold refusedV at HR2
  refine (HR2.out _ _).mono ?_
  rintro e w10 ⟨rfl, b10⟩
  replace ZA := ZA.below' b10
  replace qA := bstep qA b10
  clear b10 mk
  have qB : Below w.heap.size w (w10.alloc (.cells #[.slice none 0 0, .slice none 0 0, .slice none 0 0, .int .i64 0] 32)) := below_by
  have hzg := ZA.lt
  go_upto_region 6 with (refine wpList_sto rfl 32 _ _ rfl (cells := #[.slice none 0 0, .slice none 0 0, .slice none 0 0, .int .i64 0]) rfl rfl (Blk.new w10 _ _) rfl out_size (one_all rfl) ?_; intro w11 Z11 gr11 sz11)
  replace qB := below_sto qB gr11 qB.size (by have := qA.size; omega)
  replace ZA := blk_sto (ZA.alloc _) gr11 (by omega)
  clear gr11 sz11 Z11 qA
  have HR3 := hide (fun A c w h => Run_bad [bareAct 0 0 0] A 1 c w h (by omega) 3 (show firstBad [bareAct 0 0 0] = 3 by decide +kernel) (by omega))
  unfold refusedV at HR3
  have S12 : Sl (w11.alloc (.cells #[.int .i64 0, .int .i64 0, .int .i64 0, .int .i64 0, .int .i64 0, .int .i64 0, .string { data := #[] }, .string { data := #[] }, .string { data := #[] }, .int .i64 0] 40)) 10 (some ⟨w11.heap.size, 0, none⟩) 1 1 (actRows [bareAct 0 0 0]) := Sl.of_blk (Blk.new w11 _ _) rfl (by intro r hr; simp [actRows] at hr; subst hr; rfl) rfl (by decide)
  have q12 : Below w.heap.size w (w11.alloc (.cells #[.int .i64 0, .int .i64 0, .int .i64 0, .int .i64 0, .int .i64 0, .int .i64 0, .string { data := #[] }, .string { data := #[] }, .string { data := #[] }, .int .i64 0] 40)) := below_by
  replace ZA := ZA.alloc (.cells #[.int .i64 0, .int .i64 0, .int .i64 0, .int .i64 0, .int .i64 0, .int .i64 0, .string { data := #[] }, .string { data := #[] }, .string { data := #[] }, .int .i64 0] 40)
  clear qB HR2 hzg
  go_wp2_with fail
  refine (HR3.out _ _ _ S12).mono ?_
  rintro e w13 ⟨rfl, b13⟩
  replace ZA := ZA.below' b13
  replace q12 := bstep q12 b13
  have q13 : Below w.heap.size w (w13.alloc (.cells #[.slice none 0 0, .slice none 0 0, .slice none 0 0, .int .i64 0] 32)) := below_by
  have hzg := ZA.lt
  clear b13 HR3 S12
  go_upto_region 7 with (refine wpList_sto rfl 32 _ _ rfl (cells := #[.slice none 0 0, .slice none 0 0, .slice none 0 0, .int .i64 0]) rfl rfl (Blk.new w13 _ _) rfl out_size (one_all rfl) ?_; intro w14 Z14 gr14 sz14)
  replace q13 := below_sto q13 gr14 q13.size (by have := q12.size; omega)
  replace ZA := blk_sto (ZA.alloc _) gr14 (by omega)
  clear gr14 sz14 Z14 q12 hzg
  (try clear cZA fZA); have cZA := ZA.cell; have fZA := ZA.frozen
  go_wp2_with fail
  go_ret
  exact ⟨rfl, q13⟩
set_option maxRecDepth 100000 in
theorem topRefused_lifted (os : Os) (started : os.Started) (H : Type) (enc : TypeId × Value → H) :
  ReturnsInHanded {} Tryz.checked os 8 .any (fun w args => (Rows.topRefusedSpec.pre enc Tryz.prog Tryz.f8 [] false w args ∧ laidMetH Tryz.prog laidN w) ∧ sizedMet enc Tryz.prog Tryz.f8 (OpenSpec.ofChange Rows.topRefusedSpec) false w args) (Rows.topRefusedSpec.post enc Tryz.prog Tryz.f8 false true false false) := by
  refine returnsInHanded_of_change_and (C := Tryz.checked) (X := fun w _ => laidMetH Tryz.prog laidN w) (fun _ _ _ hh h => h.of_heap hh) Tryz.own started (by kernel_rfl) Tryz.func8 (ChangeSpec.witness_shaped (enc := enc) (C := Tryz.checked) (os := os) (X := fun w _ => laidMetH Tryz.prog laidN w) false (World.doorLaid Tryz.prog 14 os) #[.slice none 0 0, .int .i64 0] 8 rfl (World.shaped_of_RefB (by kernel_rfl) (by kernel_rfl)) (by kernel_rfl) (by kernel_rfl) (by kernel_rfl) (door_met os _)) ?_
  intro W base args ds gs before hval0 hW hcnd hsz0 hL _
  have hsz : (DataW.weightsEach Tryz.prog (Tryz.f8.params.toList ++ Rows.topRefusedSpec.plain.varTypes Tryz.prog) (ds ++ gs)).all (· ≤ reachBytes) = true := hsz0
  clear hsz0
  have hval : ∀ (j : Nat) t v, Tryz.f8.params[j]? = some t → args[j]? = some v → Value.okWide Tryz.prog W .any base t v := hval0
  have hW' := hW
  obtain ⟨p, q, hA0, hV, rfl, hfz, hnd⟩ := hW
  have hA : DataW.TrodAll enc Tryz.prog W 0 (fun _ => true) true Tryz.f8.params.toList args.toList ds p := hA0
  rw [Tryz.params8] at hA hval hsz
  obtain ⟨rfl, rfl⟩ := trodVars_none hV
  clear hA0 hval0 hcnd hV hfz hnd
  obtain ⟨v0, v1, d0, d1, p0, p1, rfl, rfl, rfl, h0, h1⟩ := trodAll_two hA
  obtain ⟨A, n, c, l, rfl, hd, hS⟩ := open_gears (hval 0 22 v0 rfl rfl) h0
  obtain ⟨x, rfl, rfl, rfl, hx⟩ := open_int Tryz.underlying3 (hval 1 3 v1 rfl rfl) h1
  refine (topRefused_walk A n c l x W hS hd (i64_bounds hx)).mono fun e W' ⟨he, hb⟩ => ?_
  subst he
  exact ⟨_, rfl, post_law Tryz.laidOut hW' rfl (by kernel_rfl) rfl Tryz.underlying4 (fun _ => rfl) (fun _ => rfl) (fun _ => rfl) hb⟩
set_option maxRecDepth 100000 in
theorem topRefused_f1 : (Rows.topRefusedRow.inPlace == Tryz.pinned.checked.prog.inPlace 8) = true := by kernel_rfl
set_option maxRecDepth 100000 in
theorem topRefused_f2 : (Rows.topRefusedRow.unfollowed == Tryz.pinned.checked.prog.unfollowed 8) = true := by kernel_rfl
set_option maxRecDepth 100000 in
theorem topRefused_f3 : (Rows.topRefusedRow.recurses == Tryz.pinned.checked.prog.recurses 8) = true := by kernel_rfl
set_option maxRecDepth 100000 in
theorem topRefused_f4 : (Rows.topRefusedRow.named == Tryz.pinned.checked.prog.varsNamed 8) = true := by kernel_rfl
set_option maxRecDepth 100000 in
theorem topRefused_facts : joinedFacts Tryz.pinned.checked.prog 8 Tryz.f8 Rows.topRefusedSpec Rows.topRefusedRow = true := by
  unfold joinedFacts
  rw [enterN, show (Rows.topRefusedRow.lifted == Tryz.pinned.checked.prog.liftsFinal) = true from liftsN, laidN1, laidN2, heardN, show (Rows.topRefusedRow.plainKeys == Tryz.pinned.checked.prog.plainKeys) = true from keysN, topRefused_f1, topRefused_f2, topRefused_f3, topRefused_f4]
  kernel_rfl
theorem topRefused_row : Rows.TopRefusedSaid := OpenClaim.holds_of_wide 8 Tryz.f8 rfl rfl rfl rfl rfl rfl rfl ⟨rfl, rfl, rfl, rfl, rfl⟩ rfl rfl rfl rfl rfl (by kernel_rfl) Tryz.func8 topRefused_facts
  (of_decide_eq_true (by kernel_rfl)) (by unfold Func.isWrapper; first | (rw [if_pos (by decide +kernel)]; kernel_rfl) | (rw [if_neg (by decide +kernel)]; exact ⟨rfl, rfl⟩))
  (fun os started H enc _ => topRefused_lifted os started H enc)
set_option maxRecDepth 100000 in
theorem topRefused_goes : false = Rows.topRefusedRow.goesBy Tryz.pinned.checked.prog := by kernel_rfl
set_option maxRecDepth 100000 in
theorem topRefused_looks : false = Tryz.pinned.checked.prog.looks [] := by kernel_rfl
set_option maxRecDepth 100000 in
theorem topRefused_holds : Rows.TopRefusedCardSaid :=
  Claim7.holds_tied_plain_at .later [] [.data] true Rows.topTrimCard.stood.harness false
    topRefused_row (fun _ h => by cases h) (by kernel_rfl) (fun _ h => by cases h) topRefused_row_tie rfl ⟨rfl, rfl⟩ mainN rfl
    (fun f fn hf hfn => by
      obtain rfl : f = 8 := Option.some.inj ((show Tryz.prog.funcNamed "rostrum/rostrumtop.TopRefused" = some 8 by kernel_rfl).symm.trans hf) |>.symm
      obtain rfl : fn = Tryz.f8 := (Option.some.inj (Tryz.func8.symm.trans hfn)).symm
      exact ⟨topRefused_looks, fun j t ht => by
        rw [Tryz.params8] at ht
        have hm := List.mem_of_getElem? (Array.getElem?_toList ▸ ht)
        simp only [List.mem_cons, List.not_mem_nil, or_false] at hm
        rcases hm with rfl | rfl <;> exact (show Tryz.prog.wantsStandIn _ = false by kernel_rfl)⟩)
    topRefused_goes
#print axioms topRefused_holds
end Go.Proofs.YtgdcofbnbiclmaaGreatDoor
