import Derived.Test.YtgpkgegpcgiokaaGreatDoorQDecM
import Derived.Test.YtgpkgegpcgiokaaGreatDoorQMachE
import Derived.Test.YtgpkgegpcgiokaaGreatDoorQLaidN
namespace Go.Proofs.YtgpkgegpcgiokaaGreatDoor
set_option linter.all false
open Go.ChangeShapes Go.WideShapes Go.ChangeAt Go.RowKit
/-- Encode, and its bytes as a slice. -/
theorem Encode_own {m : Mach} (hok : MachOk m) (A B : Option Addr) (na ca nb cb : Nat) (w : World) (hE : St w A na ca m.ents) (hC : Ci w B nb cb m.clis) :
  Calls Tryz.prog 43 #[.agg #[.int .i64 m.now, .slice A na ca, .int .i64 m.next, .slice B nb cb]] w fun e w' => ∃ A n c, e = .returned (.tuple #[.slice A n c, .int .i64 0]) ∧ Own w' w.heap.size 5 1 (.slice A n c) (byteRows (encB m)) ∧ Below w.heap.size w w' := by
 refine (Encode_any hok A B na ca nb cb w hE hC).mono ?_
 rintro e w' ⟨A, n, c, h1, h2, h3⟩
 exact ⟨A, n, c, h1, Own.of_row h2 (Nat.le_refl _), h3⟩
set_option maxRecDepth 100000 in
set_option maxHeartbeats 16000000 in
theorem machineTorn_walk (A : Option Addr) (n c : Nat) (l : List DeedD) (k : Int) (w : World) (hS : Sl w 8 A n c (deedRows l)) (hd : ∀ d ∈ l, d.ok) (hk : I64 k) (hN : Noth w) :
  Calls Tryz.prog 14 #[.slice A n c, .int .i64 k] w fun e w' => e = .returned (.bool true) ∧ Below w.heap.size w w' := by
 have hF := Machine_any A n c l w hS hd hN
 have hok := (machOf_inv l).ok
 generalize machOf l = m at *
 have hE := fun A B na ca nb cb w' h1 h2 => Encode_own hok A B na ca nb cb w' h1 h2
 have hpos := encB_pos m
 have hlen := encB_in hok
 have r1 := picked_lo k (encB m).length (by omega)
 have r2 := picked_hi k (encB m).length (by omega)
 have hR := fun w => picked_any k (encB m).length w hk.1 hk.2 (by omega) (by omega)
 obtain ⟨p, hp⟩ := Int.eq_ofNat_of_zero_le r1
 rw [hp] at hR r2
 have hpl : p < (encB m).length := by omega
 have hD := fun A n c w (h : Sl w 1 A n c (byteRows ((encB m).take p))) => Decode_any A n c ((encB m).take p) w h ((u8s_mach hok).take p)
 rw [decM_torn hok hpl] at hD
 obtain ⟨now, ents, next, clis⟩ := m
 simp only at hE
 generalize encB ⟨now, ents, next, clis⟩ = bs at *
 have HF := hide hF; have HE := hide hE; have HR := hide hR; have HD := hide hD
 clear hF hE hR hD hok hp r1 hd hS
 go_enter Tryz.func14, Tryz.ntmps14
 go_wp2_with fail
 refine HF.out.mono ?_
 rintro e w1 ⟨A1, n1, c1, B1, k1, d1, rfl, S1, C1, q1⟩
 simp only at S1 C1
 go_wp2_with fail
 refine (HE.out _ _ _ _ _ _ _ S1 C1).mono ?_
 rintro e w2 ⟨A2, n2, c2, rfl, hown, hb2⟩
 have q2 := bstep q1 hb2
 have hsl := hown.sl'
 obtain rfl : bs.length = n2 := by rw [← hsl.len, byteRows_length]
 have hnc := hsl.nc
 clear S1 C1 q1 hb2 hown HF HE
 have hif : (if (bs.length : Int) < 1 then (1 : Int) else (bs.length : Int)) = (bs.length : Int) := if_neg (by omega)
 have hmx : max (bs.length : Int) 1 = (bs.length : Int) := by omega
 have s1 := fun w => run_take Tryz.underlying82 u8_size A2 bs.length c2 p (by omega) w
 have hsk := hsl.take p (by omega) c2 (by omega) (Nat.le_refl _)
 rw [byteRows_take] at hsk
 go_wp2_with fail
 refine (HR.out _).mono ?_
 rintro e w' ⟨rfl, rfl⟩
 go_wp2_with fail
 refine (HD.out _ _ _ _ hsk).mono ?_
 rintro e w3 ⟨A3, n3, c3, B3, k3, d3, rfl, S3, C3, hb3⟩
 go_wp2_with fail
 go_ret
 exact ⟨rfl, below_by⟩
set_option maxRecDepth 100000 in
theorem machineTorn_lifted (os : Os) (started : os.Started) (H : Type) (enc : TypeId × Value → H) :
 ReturnsInHanded {} Tryz.checked os 14 .any (fun w args => (Rows.machineTornSpec.pre enc Tryz.prog Tryz.f14 [] false w args ∧ laidMetH Tryz.prog laidN w) ∧ sizedMet enc Tryz.prog Tryz.f14 (OpenSpec.ofChange Rows.machineTornSpec) false w args) (Rows.machineTornSpec.post enc Tryz.prog Tryz.f14 false true false false) := by
 refine returnsInHanded_of_change_and (C := Tryz.checked) (X := fun w _ => laidMetH Tryz.prog laidN w) (fun _ _ _ hh h => h.of_heap hh) Tryz.own started (by kernel_rfl) Tryz.func14 (ChangeSpec.witness_shaped (enc := enc) (C := Tryz.checked) (os := os) (X := fun w _ => laidMetH Tryz.prog laidN w) false (World.doorLaid Tryz.prog 14 os) #[.slice none 0 0, .int .i64 0] 8 rfl (World.shaped_of_RefB (by kernel_rfl) (by kernel_rfl)) (by kernel_rfl) (by kernel_rfl) (by kernel_rfl) (door_met os _)) ?_
 intro W base args ds gs before hval0 hW hcnd hsz0 hL _
 have hsz : (DataW.weightsEach Tryz.prog (Tryz.f14.params.toList ++ Rows.machineTornSpec.plain.varTypes Tryz.prog) (ds ++ gs)).all (· ≤ reachBytes) = true := hsz0
 clear hsz0
 have hval : ∀ (j : Nat) t v, Tryz.f14.params[j]? = some t → args[j]? = some v → Value.okWide Tryz.prog W .any base t v := hval0
 have hW' := hW
 obtain ⟨p, q, hA0, hV, rfl, hfz, hnd⟩ := hW
 have hA : DataW.TrodAll enc Tryz.prog W 0 (fun _ => true) true Tryz.f14.params.toList args.toList ds p := hA0
 rw [Tryz.params14] at hA hval hsz
 obtain ⟨rfl, rfl⟩ := trodVars_none hV
 clear hA0 hval0 hcnd hV hfz hnd
 have hN := noth_of_laid hL
 obtain ⟨v0, v1, d0, d1, p0, p1, rfl, rfl, rfl, h0, h1⟩ := trodAll_two hA
 obtain ⟨A, n, c, l, rfl, hd, hS⟩ := open_deeds (hval 0 22 v0 rfl rfl) h0
 obtain ⟨m1, rfl, rfl, rfl, w1⟩ := open_int Tryz.underlying3 (hval 1 3 v1 rfl rfl) h1
 refine (machineTorn_walk A n c l m1 W hS hd (i64_bounds w1) hN).mono fun e W' ⟨he, hb⟩ => ?_
 subst he
 exact ⟨_, rfl, post_law Tryz.laidOut hW' rfl (by kernel_rfl) rfl Tryz.underlying4 (fun _ => rfl) (fun _ => rfl) (fun _ => rfl) hb⟩
set_option maxRecDepth 100000 in
theorem machineTorn_f1 : (Rows.machineTornRow.inPlace == Tryz.pinned.checked.prog.inPlace 14) = true := by kernel_rfl
set_option maxRecDepth 100000 in
theorem machineTorn_f2 : (Rows.machineTornRow.unfollowed == Tryz.pinned.checked.prog.unfollowed 14) = true := by kernel_rfl
set_option maxRecDepth 100000 in
theorem machineTorn_f3 : (Rows.machineTornRow.recurses == Tryz.pinned.checked.prog.recurses 14) = true := by kernel_rfl
set_option maxRecDepth 100000 in
theorem machineTorn_f4 : (Rows.machineTornRow.named == Tryz.pinned.checked.prog.varsNamed 14) = true := by kernel_rfl
set_option maxRecDepth 100000 in
theorem machineTorn_facts : joinedFacts Tryz.pinned.checked.prog 14 Tryz.f14 Rows.machineTornSpec Rows.machineTornRow = true := by
 unfold joinedFacts
 rw [enterN, show (Rows.machineTornRow.lifted == Tryz.pinned.checked.prog.liftsFinal) = true from liftsN, laidN1, laidN2, heardN, show (Rows.machineTornRow.plainKeys == Tryz.pinned.checked.prog.plainKeys) = true from keysN, machineTorn_f1, machineTorn_f2, machineTorn_f3, machineTorn_f4]
 kernel_rfl
theorem machineTorn_row : Rows.MachineTornSaid := OpenClaim.holds_of_wide 14 Tryz.f14 rfl rfl rfl rfl rfl rfl rfl ⟨rfl, rfl, rfl, rfl, rfl⟩ rfl rfl rfl rfl rfl (by kernel_rfl) Tryz.func14 machineTorn_facts
 (of_decide_eq_true (by kernel_rfl)) (by unfold Func.isWrapper; first | (rw [if_pos (by decide +kernel)]; kernel_rfl) | (rw [if_neg (by decide +kernel)]; exact ⟨rfl, rfl⟩))
 (fun os started H enc _ => machineTorn_lifted os started H enc)
set_option maxRecDepth 100000 in
theorem machineTorn_goes : false = Rows.machineTornRow.goesBy Tryz.pinned.checked.prog := by kernel_rfl
set_option maxRecDepth 100000 in
theorem machineTorn_looks : false = Tryz.pinned.checked.prog.looks [] := by kernel_rfl
set_option maxRecDepth 100000 in
theorem machineTorn_holds : Rows.MachineTornCardSaid :=
 Claim7.holds_tied_plain_at .later [] [.data] true Rows.machineMayCard.stood.harness false
  machineTorn_row (fun _ h => by cases h) (by kernel_rfl) (fun _ h => by cases h) machineTorn_row_tie rfl ⟨rfl, rfl⟩ mainN rfl
  (fun f fn hf hfn => by
   obtain rfl : f = 14 := Option.some.inj ((show Tryz.prog.funcNamed "rostrum/rostrumkeep.MachineTorn" = some 14 by kernel_rfl).symm.trans hf) |>.symm
   obtain rfl : fn = Tryz.f14 := (Option.some.inj (Tryz.func14.symm.trans hfn)).symm
   exact ⟨machineTorn_looks, fun j t ht => by
    rw [Tryz.params14] at ht
    have hm := List.mem_of_getElem? (Array.getElem?_toList ▸ ht)
    simp only [List.mem_cons, List.not_mem_nil, or_false] at hm
    rcases hm with rfl | rfl <;> exact (show Tryz.prog.wantsStandIn _ = false by kernel_rfl)⟩)
  machineTorn_goes
end Go.Proofs.YtgpkgegpcgiokaaGreatDoor

