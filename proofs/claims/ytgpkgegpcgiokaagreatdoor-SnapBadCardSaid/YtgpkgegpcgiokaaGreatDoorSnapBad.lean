/- rostrumkeep.SnapBad returns true for every input; client.nothing holds what its initialiser lays. -/
import Derived.Test.YtgpkgegpcgiokaaGreatDoorSnapM
import Derived.Test.YtgpkgegpcgiokaaGreatDoorLaidN
namespace Go.Proofs.YtgpkgegpcgiokaaGreatDoor
set_option linter.all false
open Go.ChangeShapes Go.WideShapes Go.ChangeAt Go.RowKit
theorem cs_of {m : Mach} (hok : MachOk m) (i t nx r : Int) (hr : csM i t ⟨m.now, m.ents, nx, m.clis⟩ = r) (A B : Option Addr) (na ca nb cb : Nat) (w : World) (hE : St w A na ca m.ents) (hC : Ci w B nb cb m.clis) :
    Calls Tryz.prog 36 #[.agg #[.int .i64 i, .int .i64 t, .int .i64 m.now, .slice A na ca, .int .i64 nx, .slice B nb cb]] w fun e w' => e = .returned (.int .i64 r) ∧ Below w.heap.size w w' := by
  subst hr
  exact CheckSnap_any i t ⟨m.now, m.ents, nx, m.clis⟩ A B na ca nb cb w hE.sl hC.sl (by have := hE.sl.len; have := hok.sto.few; omega) (by have := hC.sl.len; have := hok.few; omega) (fun x hx => by obtain ⟨a, b, d⟩ := hok.sto.small x hx; exact ⟨by omega, by omega, by omega⟩) (fun x hx => by have := rep_to (hok.cli x hx).rep; exact ⟨by have := this.text; omega, by have := this.few; omega⟩)
theorem cl_of {m : Mach} (hok : MachOk m) (i t nx r : Int) (hr : csM i t ⟨m.now, m.ents, nx, m.clis⟩ = r) (A B : Option Addr) (na ca nb cb : Nat) (w : World) (hE : St w A na ca m.ents) (hC : Ci w B nb cb m.clis) :
    Calls Tryz.prog 37 #[.agg #[.int .i64 3, .int .i64 0, .int .i64 0, .int .i64 0, .int .i64 0, .int .i64 0, .bool false, .int .i64 0, .int .i64 0, .int .i64 0, .string { data := #[] }, .string { data := #[] }, .string { data := #[] }, .int .i64 0, .int .i64 i, .int .i64 t, .int .i64 m.now, .slice A na ca, .int .i64 nx, .slice B nb cb]] w fun e w' => e = .returned (.int .i64 r) ∧ Below w.heap.size w w' := by
  subst hr
  exact CheckLoad_any i t ⟨m.now, m.ents, nx, m.clis⟩ A B na ca nb cb w hE.sl hC.sl (by have := hE.sl.len; have := hok.sto.few; omega) (by have := hC.sl.len; have := hok.few; omega) (fun x hx => by obtain ⟨a, b, d⟩ := hok.sto.small x hx; exact ⟨by omega, by omega, by omega⟩) (fun x hx => by have := rep_to (hok.cli x hx).rep; exact ⟨by have := this.text; omega, by have := this.few; omega⟩)
set_option maxRecDepth 100000 in
set_option maxHeartbeats 16000000 in
theorem snapBad_walk (A : Option Addr) (n c : Nat) (l : List DeedD) (k : Int) (w : World) (hS : Sl w 8 A n c (deedRows l)) (hd : ∀ d ∈ l, d.ok) (hk : I64 k) (hN : Noth w) :
    Calls Tryz.prog 11 #[.slice A n c, .int .i64 k] w fun e w' => e = .returned (.bool true) ∧ Below w.heap.size w w' := by
  have hF := snap_any A n c l 3 3 w hS hd hN ⟨by decide, by decide⟩ ⟨by decide, by decide⟩
  have e1 : 1 + picked 3 40 = 4 := rfl
  have e2 : 1 + picked 3 5 = 4 := rfl
  rw [e1, e2] at hF
  have hok := (machOf_inv (l.take 8)).ok
  have p0 := picked_lo k 3 (by omega)
  have p1 := picked_hi k 3 (by omega)
  have hp := fun w => picked_any k 3 w hk.1 hk.2 (by omega) (by omega)
  generalize picked k 3 = p at *
  generalize machOf (l.take 8) = m at *
  have h0 := cs_of hok 4 4 m.next 0 (ok_mach hok)
  have h1 := cs_of hok 0 4 m.next 2 rfl
  have h2 := cs_of hok 4 1048577 m.next 2 rfl
  have hz : checkMach ⟨m.now, m.ents, 0, m.clis⟩ = 13 := by unfold checkMach; rw [if_pos (.inr (.inl (show (0 : Int) < 1 by decide)))]
  have h3 := cs_of hok 4 4 0 13 hz
  have i1 := cl_of hok 0 4 m.next 2 rfl
  have i2 := cl_of hok 4 1048577 m.next 2 rfl
  have i3 := cl_of hok 4 4 0 13 hz
  clear hz hok e1 e2 hd
  obtain ⟨now, ents, next, clis⟩ := m
  simp only at h0 h1 h2 h3 i1 i2 i3
  have HF := hide hF; have HP := hide hp
  have H0 := hide h0; have H1 := hide h1; have H2 := hide h2; have H3 := hide h3; have I1 := hide i1; have I2 := hide i2; have I3 := hide i3
  clear hF hp h0 h1 h2 h3 i1 i2 i3 hS
  go_enter Tryz.func11, Tryz.ntmps11
  go_wp2_with fail
  refine HF.out.mono ?_
  rintro e w1 ⟨A1, n1, c1, B1, k1, d1, rfl, S1, C1, q⟩
  clear HF
  simp only at S1 C1
  have D1 := Blk.new w1 63 #[.int .i64 4, .int .i64 4, .int .i64 now, .slice A1 n1 c1, .int .i64 next, .slice B1 k1 d1]
  replace S1 := S1.al (.cells #[.int .i64 4, .int .i64 4, .int .i64 now, .slice A1 n1 c1, .int .i64 next, .slice B1 k1 d1] 63); replace C1 := C1.al (.cells #[.int .i64 4, .int .i64 4, .int .i64 now, .slice A1 n1 c1, .int .i64 next, .slice B1 k1 d1] 63)
  have q1 : Below w.heap.size w (w1.alloc (.cells #[.int .i64 4, .int .i64 4, .int .i64 now, .slice A1 n1 c1, .int .i64 next, .slice B1 k1 d1] 63)) := below_by
  (try clear cD1 fD1); have cD1 := D1.cell; have fD1 := D1.frozen
  go_wp2_with fail
  refine (H0.out _ _ _ _ _ _ _ S1 C1).mono ?_
  rintro e w2 ⟨rfl, hb2⟩
  replace S1 := S1.bl hb2; replace C1 := C1.bl hb2; replace D1 := D1.bl hb2
  have q2 := bstep q1 hb2
  have hq := q.size
  clear q1 hb2 H0 cD1 fD1 q
  (try clear cD1 fD1); have cD1 := D1.cell; have fD1 := D1.frozen
  go_wp2_with fail
  refine (HP.out _).mono ?_
  rintro e w' ⟨rfl, rfl⟩
  clear HP
  obtain ⟨g, hg⟩ : ∃ g, g = w1.heap.size := ⟨_, rfl⟩
  rw [← hg] at D1 cD1 fD1 ⊢
  have hgq : w.heap.size ≤ g := by omega
  clear hg hq
  rcases (by omega : p = 0 ∨ p = 1 ∨ p = 2) with rfl | rfl | rfl
  · have gr := grown_setRow_cell w2 g 0 (.int .i64 0)
    have D2 := D1.set' (i := 0) (u := .int .i64 0) rfl
    have S2 := S1.grown D1 gr
    have C2 := C1.grown D1 gr
    have q3 := below_grow q2 gr q2.size hgq
    clear gr S1 C1 q2
    go_wp2_with fail
    refine (H1.out _ _ _ _ _ _ _ S2 C2).mono ?_
    rintro e w3 ⟨rfl, hb3⟩
    replace S2 := S2.bl hb3; replace C2 := C2.bl hb3; replace D2 := D2.bl hb3
    replace q3 := bstep q3 hb3
    clear hb3 D1 cD1 fD1
    (try clear cD2 fD2); have cD2 := D2.cell; have fD2 := D2.frozen
    go_wp2_with fail
    refine (I1.out _ _ _ _ _ _ _ S2 C2).mono ?_
    rintro e w4 ⟨rfl, hb4⟩
    replace q3 := bstep q3 hb4
    go_wp2_with fail
    go_ret
    exact ⟨rfl, q3⟩
  · have gr := grown_setRow_cell w2 g 1 (.int .i64 1048577)
    have D2 := D1.set' (i := 1) (u := .int .i64 1048577) rfl
    have S2 := S1.grown D1 gr
    have C2 := C1.grown D1 gr
    have q3 := below_grow q2 gr q2.size hgq
    clear gr S1 C1 q2
    go_wp2_with fail
    refine (H2.out _ _ _ _ _ _ _ S2 C2).mono ?_
    rintro e w3 ⟨rfl, hb3⟩
    replace S2 := S2.bl hb3; replace C2 := C2.bl hb3; replace D2 := D2.bl hb3
    replace q3 := bstep q3 hb3
    clear hb3 D1 cD1 fD1
    (try clear cD2 fD2); have cD2 := D2.cell; have fD2 := D2.frozen
    go_wp2_with fail
    refine (I2.out _ _ _ _ _ _ _ S2 C2).mono ?_
    rintro e w4 ⟨rfl, hb4⟩
    replace q3 := bstep q3 hb4
    go_wp2_with fail
    go_ret
    exact ⟨rfl, q3⟩
  · have gr := grown_setRow_cell w2 g 4 (.int .i64 0)
    have D2 := D1.set' (i := 4) (u := .int .i64 0) rfl
    have S2 := S1.grown D1 gr
    have C2 := C1.grown D1 gr
    have q3 := below_grow q2 gr q2.size hgq
    clear gr S1 C1 q2
    go_wp2_with fail
    refine (H3.out _ _ _ _ _ _ _ S2 C2).mono ?_
    rintro e w3 ⟨rfl, hb3⟩
    replace S2 := S2.bl hb3; replace C2 := C2.bl hb3; replace D2 := D2.bl hb3
    replace q3 := bstep q3 hb3
    clear hb3 D1 cD1 fD1
    (try clear cD2 fD2); have cD2 := D2.cell; have fD2 := D2.frozen
    go_wp2_with fail
    refine (I3.out _ _ _ _ _ _ _ S2 C2).mono ?_
    rintro e w4 ⟨rfl, hb4⟩
    replace q3 := bstep q3 hb4
    go_wp2_with fail
    go_ret
    exact ⟨rfl, q3⟩
set_option maxRecDepth 100000 in
theorem snapBad_lifted (os : Os) (started : os.Started) (H : Type) (enc : TypeId × Value → H) :
  ReturnsInHanded {} Tryz.checked os 11 .any (fun w args => (Rows.snapBadSpec.pre enc Tryz.prog Tryz.f11 [] false w args ∧ laidMetH Tryz.prog laidN w) ∧ sizedMet enc Tryz.prog Tryz.f11 (OpenSpec.ofChange Rows.snapBadSpec) false w args) (Rows.snapBadSpec.post enc Tryz.prog Tryz.f11 false true false false) := by
  refine returnsInHanded_of_change_and (C := Tryz.checked) (X := fun w _ => laidMetH Tryz.prog laidN w) (fun _ _ _ hh h => h.of_heap hh) Tryz.own started (by kernel_rfl) Tryz.func11 (ChangeSpec.witness_shaped (enc := enc) (C := Tryz.checked) (os := os) (X := fun w _ => laidMetH Tryz.prog laidN w) false (World.doorLaid Tryz.prog 14 os) #[.slice none 0 0, .int .i64 0] 8 rfl (World.shaped_of_RefB (by kernel_rfl) (by kernel_rfl)) (by kernel_rfl) (by kernel_rfl) (by kernel_rfl) (door_met os _)) ?_
  intro W base args ds gs before hval0 hW hcnd hsz0 hL _
  have hsz : (DataW.weightsEach Tryz.prog (Tryz.f11.params.toList ++ Rows.snapBadSpec.plain.varTypes Tryz.prog) (ds ++ gs)).all (· ≤ reachBytes) = true := hsz0
  clear hsz0
  have hval : ∀ (j : Nat) t v, Tryz.f11.params[j]? = some t → args[j]? = some v → Value.okWide Tryz.prog W .any base t v := hval0
  have hW' := hW
  obtain ⟨p, q, hA0, hV, rfl, hfz, hnd⟩ := hW
  have hA : DataW.TrodAll enc Tryz.prog W 0 (fun _ => true) true Tryz.f11.params.toList args.toList ds p := hA0
  rw [Tryz.params11] at hA hval hsz
  obtain ⟨rfl, rfl⟩ := trodVars_none hV
  clear hA0 hval0 hcnd hV hfz hnd
  have hN := noth_of_laid hL
  obtain ⟨v0, v1, d0, d1, p0, p1, rfl, rfl, rfl, h0, h1⟩ := trodAll_two hA
  obtain ⟨A, n, c, l, rfl, hd, hS⟩ := open_deeds (hval 0 22 v0 rfl rfl) h0
  obtain ⟨k, rfl, rfl, rfl, w1⟩ := open_int Tryz.underlying3 (hval 1 3 v1 rfl rfl) h1
  refine (snapBad_walk A n c l k W hS hd (i64_bounds w1) hN).mono fun e W' ⟨he, hb⟩ => ?_
  subst he
  exact ⟨_, rfl, post_law Tryz.laidOut hW' rfl (by kernel_rfl) rfl Tryz.underlying4 (fun _ => rfl) (fun _ => rfl) (fun _ => rfl) hb⟩
set_option maxRecDepth 100000 in
theorem snapBad_f1 : (Rows.snapBadRow.inPlace == Tryz.pinned.checked.prog.inPlace 11) = true := by kernel_rfl
set_option maxRecDepth 100000 in
theorem snapBad_f2 : (Rows.snapBadRow.unfollowed == Tryz.pinned.checked.prog.unfollowed 11) = true := by kernel_rfl
set_option maxRecDepth 100000 in
theorem snapBad_f3 : (Rows.snapBadRow.recurses == Tryz.pinned.checked.prog.recurses 11) = true := by kernel_rfl
set_option maxRecDepth 100000 in
theorem snapBad_f4 : (Rows.snapBadRow.named == Tryz.pinned.checked.prog.varsNamed 11) = true := by kernel_rfl
set_option maxRecDepth 100000 in
theorem snapBad_facts : joinedFacts Tryz.pinned.checked.prog 11 Tryz.f11 Rows.snapBadSpec Rows.snapBadRow = true := by
  unfold joinedFacts
  rw [enterN, show (Rows.snapBadRow.lifted == Tryz.pinned.checked.prog.liftsFinal) = true from liftsN, laidN1, laidN2, heardN, show (Rows.snapBadRow.plainKeys == Tryz.pinned.checked.prog.plainKeys) = true from keysN, snapBad_f1, snapBad_f2, snapBad_f3, snapBad_f4]
  kernel_rfl
theorem snapBad_row : Rows.SnapBadSaid := OpenClaim.holds_of_wide 11 Tryz.f11 rfl rfl rfl rfl rfl rfl rfl ⟨rfl, rfl, rfl, rfl, rfl⟩ rfl rfl rfl rfl rfl (by kernel_rfl) Tryz.func11 snapBad_facts
  (of_decide_eq_true (by kernel_rfl)) (by unfold Func.isWrapper; first | (rw [if_pos (by decide +kernel)]; kernel_rfl) | (rw [if_neg (by decide +kernel)]; exact ⟨rfl, rfl⟩))
  (fun os started H enc _ => snapBad_lifted os started H enc)
set_option maxRecDepth 100000 in
theorem snapBad_goes : false = Rows.snapBadRow.goesBy Tryz.pinned.checked.prog := by kernel_rfl
set_option maxRecDepth 100000 in
theorem snapBad_looks : false = Tryz.pinned.checked.prog.looks [] := by kernel_rfl
set_option maxRecDepth 100000 in
theorem snapBad_holds : Rows.SnapBadCardSaid :=
  Claim7.holds_tied_plain_at .later [] [.data] true Rows.machineMayCard.stood.harness false
    snapBad_row (fun _ h => by cases h) (by kernel_rfl) (fun _ h => by cases h) snapBad_row_tie rfl ⟨rfl, rfl⟩ mainN rfl
    (fun f fn hf hfn => by
      obtain rfl : f = 11 := Option.some.inj ((show Tryz.prog.funcNamed "rostrum/rostrumkeep.SnapBad" = some 11 by kernel_rfl).symm.trans hf) |>.symm
      obtain rfl : fn = Tryz.f11 := (Option.some.inj (Tryz.func11.symm.trans hfn)).symm
      exact ⟨snapBad_looks, fun j t ht => by
        rw [Tryz.params11] at ht
        have hm := List.mem_of_getElem? (Array.getElem?_toList ▸ ht)
        simp only [List.mem_cons, List.not_mem_nil, or_false] at hm
        rcases hm with rfl | rfl <;> exact (show Tryz.prog.wantsStandIn _ = false by kernel_rfl)⟩)
    snapBad_goes
#print axioms snapBad_holds
end Go.Proofs.YtgpkgegpcgiokaaGreatDoor
