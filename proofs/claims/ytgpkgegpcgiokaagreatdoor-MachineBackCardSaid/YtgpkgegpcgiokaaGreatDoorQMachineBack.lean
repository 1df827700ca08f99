/- rostrumkeep.MachineBack returns true for every input; client.nothing holds what its initialiser lays. -/
import Derived.Test.YtgpkgegpcgiokaaGreatDoorQMachineTorn
namespace Go.Proofs.YtgpkgegpcgiokaaGreatDoor
set_option linter.all false
open Go.ChangeShapes Go.WideShapes Go.ChangeAt Go.RowKit
set_option maxRecDepth 100000 in
set_option maxHeartbeats 16000000 in
theorem machineBack_walk (A : Option Addr) (n c : Nat) (l : List DeedD) (tail : Int) (w : World) (hS : Sl w 8 A n c (deedRows l)) (hd : ∀ d ∈ l, d.ok) (h0 : 0 ≤ tail) (h1 : tail < 256) (hN : Noth w) :
  Calls Tryz.prog 13 #[.slice A n c, .int .u8 tail] w fun e w' => e = .returned (.bool true) ∧ Below w.heap.size w w' := by
 have hF := Machine_any A n c l w hS hd hN
 have hok := (machOf_inv l).ok
 generalize machOf l = m at *
 have hE := fun A B na ca nb cb w' h1 h2 => Encode_own hok A B na ca nb cb w' h1 h2
 have hpos := encB_pos m
 have hlen := encB_in hok
 have hD := fun A n c w (h : Sl w 1 A n c (byteRows (encB m))) => Decode_any A n c (encB m) w h (u8s_mach hok)
 rw [decM_back hok] at hD
 have hD2 := fun A n c w (h : Sl w 1 A n c (byteRows (encB m ++ [u8 tail]))) => Decode_any A n c (encB m ++ [u8 tail]) w h ((u8s_mach hok).app (U8s.one h0 h1))
 rw [decM_tail hok, show zeroMach = ⟨0, [], 0, []⟩ from rfl] at hD2
 have hsm := fun A A' B B' n c n' c' k d k' d' w a1 a2 a3 a4 => sameMachine_eq m A A' B B' n c n' c' k d k' d' w a1 a2 a3 a4 (by have := hok.sto.few; omega) (by have := hok.few; omega)
 have hon := bytes_one_ (u8s_mach hok)
 obtain ⟨now, ents, next, clis⟩ := m
 simp only at hE hsm
 generalize encB ⟨now, ents, next, clis⟩ = bs at *
 have HF := hide hF; have HE := hide hE; have HD := hide hD; have HD2 := hide hD2; have HSM := hide hsm; have HON := hide hon
 clear hF hE hD hD2 hsm hon hok hd hS
 go_enter Tryz.func13, Tryz.ntmps13
 go_wp2_with fail
 refine HF.out.mono ?_
 rintro e w1 ⟨A1, n1, c1, B1, k1, d1, rfl, S1, C1, q1⟩
 simp only at S1 C1
 have M1 := Blk.new w1 32 #[.int .i64 now, .slice A1 n1 c1, .int .i64 next, .slice B1 k1 d1]
 have b1 : Below w1.heap.size w1 (w1.alloc (.cells #[.int .i64 now, .slice A1 n1 c1, .int .i64 next, .slice B1 k1 d1] 32)) := below_by
 replace S1 := S1.bl b1; replace C1 := C1.bl b1; replace q1 := bstep q1 b1
 clear b1 HF
 (try clear cM1 fM1); have cM1 := M1.cell; have fM1 := M1.frozen
 go_wp2_with fail
 refine (HE.out _ _ _ _ _ _ _ S1 C1).mono ?_
 rintro e w2 ⟨A2, n2, c2, rfl, hown, hb2⟩
 have hsl := hown.sl'
 obtain rfl : bs.length = n2 := by rw [← hsl.len, byteRows_length]
 have hnc := hsl.nc
 replace M1 := M1.bl hb2; replace S1 := S1.bl hb2; replace C1 := C1.bl hb2
 replace q1 := bstep q1 hb2
 clear hb2 hown HE cM1 fM1
 go_wp2_with fail
 refine (HD.out _ _ _ _ hsl).mono ?_
 rintro e w3 ⟨A3, n3, c3, B3, k3, d3, rfl, S3, C3, hb3⟩
 simp only at S3 C3
 have M3 := Blk.new w3 32 #[.int .i64 now, .slice A3 n3 c3, .int .i64 next, .slice B3 k3 d3]
 have b3 := bstep hb3 (show Below w3.heap.size w3 (w3.alloc (.cells #[.int .i64 now, .slice A3 n3 c3, .int .i64 next, .slice B3 k3 d3] 32)) from below_by)
 replace M1 := M1.bl b3; replace S1 := S1.bl b3; replace C1 := C1.bl b3
 replace hsl := hsl.below b3
 replace q1 := bstep q1 b3
 replace S3 := S3.al (.cells #[.int .i64 now, .slice A3 n3 c3, .int .i64 next, .slice B3 k3 d3] 32); replace C3 := C3.al (.cells #[.int .i64 now, .slice A3 n3 c3, .int .i64 next, .slice B3 k3 d3] 32)
 clear b3 hb3 HD
 go_upto_region 4 with fail
 obtain ⟨w4, hw4⟩ : ∃ w4, w4 = w3.alloc (.cells #[.int .i64 now, .slice A3 n3 c3, .int .i64 next, .slice B3 k3 d3] 32) := ⟨_, rfl⟩
 rw [← hw4] at M1 S1 C1 M3 S3 C3 hsl q1 ⊢
 have hm1 := M1.lt
 have hm3 := M3.lt
 clear hw4
 go_wp2_with (first
  | (at_builtin; refine wpList_pushes rfl _ _ _ rfl Tryz.underlying82 u8_info rfl (by decide) (by rfl) (Own.nil (base := w4.heap.size)) (by rfl) hsl HON.out (by simp [maxLen]; omega) (by simp; omega) (by simp) ?_; intro A5 n5 c5 w5 hown5 hb5)
  | (at_builtin; refine wpList_push rfl _ _ _ rfl Tryz.underlying82 u8_info rfl (by decide) (by rfl) hown5 rfl (by rfl) (row := #[.int .u8 tail]) rfl (by simp [Value.oneCell']) ?_ ?_ (by have := hb5.size; omega) ?_))
 ·simp [byteRows_length]; unfold maxLen; omega
 ·simp [byteRows_length]; omega
 intro v6 w6 hown6 hb6 hz6
 obtain ⟨A6, n6, c6, rfl⟩ := own_slice hown6
 have hs6 := hown6.sl'
 rw [show byteRows bs ++ [[Value.int IntKind.u8 tail]] = byteRows (bs ++ [u8 tail]) by simp [byteRows, u8]] at hs6
 have b6 : Below w4.heap.size w4 w6 := hb5.trans (hb6.mono (by omega))
 replace M1 := M1.bl b6; replace S1 := S1.bl b6; replace C1 := C1.bl b6; replace M3 := M3.bl b6; replace S3 := S3.bl b6; replace C3 := C3.bl b6
 replace q1 := bstep q1 b6
 clear hown5 hb5 hown6 hb6 hz6 b6
 go_wp2_with fail
 refine (HD2.out _ _ _ _ hs6).mono ?_
 rintro e w7 ⟨A7, n7, c7, B7, k7, d7, rfl, S7, C7, hb7⟩
 have b7 := bstep hb7 (show Below w7.heap.size w7 (w7.alloc (.cells #[.int .i64 0, .slice A7 n7 c7, .int .i64 0, .slice B7 k7 d7] 32)) from below_by)
 replace M1 := M1.bl b7; replace S1 := S1.bl b7; replace C1 := C1.bl b7; replace M3 := M3.bl b7; replace S3 := S3.bl b7; replace C3 := C3.bl b7
 replace q1 := bstep q1 b7
 clear b7 hb7 S7 C7 hs6 HD2
 go_upto_region 5 with fail
 obtain ⟨wz, hwz⟩ : ∃ wz, wz = w7.alloc (.cells #[.int .i64 0, .slice A7 n7 c7, .int .i64 0, .slice B7 k7 d7] 32) := ⟨_, rfl⟩
 rw [← hwz] at M1 S1 C1 M3 S3 C3 q1 ⊢
 clear hwz
 (try clear cM1 fM1); have cM1 := M1.cell; have fM1 := M1.frozen; (try clear cM3 fM3); have cM3 := M3.cell; have fM3 := M3.frozen
 go_wp2_with fail
 refine (HSM.out _ _ _ _ _ _ _ _ _ _ _ _ _ S1 S3 C1 C3).mono ?_
 rintro e w8 ⟨rfl, hb8⟩
 have q8 := bstep q1 hb8
 go_wp2_with fail
 go_ret
 exact ⟨rfl, q8⟩
set_option maxRecDepth 100000 in
theorem machineBack_lifted (os : Os) (started : os.Started) (H : Type) (enc : TypeId × Value → H) :
 ReturnsInHanded {} Tryz.checked os 13 .any (fun w args => (Rows.machineBackSpec.pre enc Tryz.prog Tryz.f13 [] false w args ∧ laidMetH Tryz.prog laidN w) ∧ sizedMet enc Tryz.prog Tryz.f13 (OpenSpec.ofChange Rows.machineBackSpec) false w args) (Rows.machineBackSpec.post enc Tryz.prog Tryz.f13 false true false false) := by
 refine returnsInHanded_of_change_and (C := Tryz.checked) (X := fun w _ => laidMetH Tryz.prog laidN w) (fun _ _ _ hh h => h.of_heap hh) Tryz.own started (by kernel_rfl) Tryz.func13 (ChangeSpec.witness_shaped (enc := enc) (C := Tryz.checked) (os := os) (X := fun w _ => laidMetH Tryz.prog laidN w) false (World.doorLaid Tryz.prog 14 os) #[.slice none 0 0, .int .u8 0] 8 rfl (World.shaped_of_RefB (by kernel_rfl) (by kernel_rfl)) (by kernel_rfl) (by kernel_rfl) (by kernel_rfl) (door_met os _)) ?_
 intro W base args ds gs before hval0 hW hcnd hsz0 hL _
 have hsz : (DataW.weightsEach Tryz.prog (Tryz.f13.params.toList ++ Rows.machineBackSpec.plain.varTypes Tryz.prog) (ds ++ gs)).all (· ≤ reachBytes) = true := hsz0
 clear hsz0
 have hval : ∀ (j : Nat) t v, Tryz.f13.params[j]? = some t → args[j]? = some v → Value.okWide Tryz.prog W .any base t v := hval0
 have hW' := hW
 obtain ⟨p, q, hA0, hV, rfl, hfz, hnd⟩ := hW
 have hA : DataW.TrodAll enc Tryz.prog W 0 (fun _ => true) true Tryz.f13.params.toList args.toList ds p := hA0
 rw [Tryz.params13] at hA hval hsz
 obtain ⟨rfl, rfl⟩ := trodVars_none hV
 clear hA0 hval0 hcnd hV hfz hnd
 have hN := noth_of_laid hL
 obtain ⟨v0, v1, d0, d1, p0, p1, rfl, rfl, rfl, h0, h1⟩ := trodAll_two hA
 obtain ⟨A, n, c, l, rfl, hd, hS⟩ := open_deeds (hval 0 22 v0 rfl rfl) h0
 obtain ⟨m1, rfl, rfl, rfl, w1⟩ := open_int Tryz.underlying5 (hval 1 5 v1 rfl rfl) h1
 have hb3 : 0 ≤ m1 ∧ m1 ≤ 255 := by simpa [Lit.wf, IntKind.min, IntKind.max, IntKind.signed, IntKind.bits] using w1
 refine (machineBack_walk A n c l m1 W hS hd hb3.1 (by omega) hN).mono fun e W' ⟨he, hb⟩ => ?_
 subst he
 exact ⟨_, rfl, post_law Tryz.laidOut hW' rfl (by kernel_rfl) rfl Tryz.underlying4 (fun _ => rfl) (fun _ => rfl) (fun _ => rfl) hb⟩
set_option maxRecDepth 100000 in
theorem machineBack_f1 : (Rows.machineBackRow.inPlace == Tryz.pinned.checked.prog.inPlace 13) = true := by kernel_rfl
set_option maxRecDepth 100000 in
theorem machineBack_f2 : (Rows.machineBackRow.unfollowed == Tryz.pinned.checked.prog.unfollowed 13) = true := by kernel_rfl
set_option maxRecDepth 100000 in
theorem machineBack_f3 : (Rows.machineBackRow.recurses == Tryz.pinned.checked.prog.recurses 13) = true := by kernel_rfl
set_option maxRecDepth 100000 in
theorem machineBack_f4 : (Rows.machineBackRow.named == Tryz.pinned.checked.prog.varsNamed 13) = true := by kernel_rfl
set_option maxRecDepth 100000 in
theorem machineBack_facts : joinedFacts Tryz.pinned.checked.prog 13 Tryz.f13 Rows.machineBackSpec Rows.machineBackRow = true := by
 unfold joinedFacts
 rw [enterN, show (Rows.machineBackRow.lifted == Tryz.pinned.checked.prog.liftsFinal) = true from liftsN, laidN1, laidN2, heardN, show (Rows.machineBackRow.plainKeys == Tryz.pinned.checked.prog.plainKeys) = true from keysN, machineBack_f1, machineBack_f2, machineBack_f3, machineBack_f4]
 kernel_rfl
theorem machineBack_row : Rows.MachineBackSaid := OpenClaim.holds_of_wide 13 Tryz.f13 rfl rfl rfl rfl rfl rfl rfl ⟨rfl, rfl, rfl, rfl, rfl⟩ rfl rfl rfl rfl rfl (by kernel_rfl) Tryz.func13 machineBack_facts
 (of_decide_eq_true (by kernel_rfl)) (by unfold Func.isWrapper; first | (rw [if_pos (by decide +kernel)]; kernel_rfl) | (rw [if_neg (by decide +kernel)]; exact ⟨rfl, rfl⟩))
 (fun os started H enc _ => machineBack_lifted os started H enc)
set_option maxRecDepth 100000 in
theorem machineBack_goes : false = Rows.machineBackRow.goesBy Tryz.pinned.checked.prog := by kernel_rfl
set_option maxRecDepth 100000 in
theorem machineBack_looks : false = Tryz.pinned.checked.prog.looks [] := by kernel_rfl
set_option maxRecDepth 100000 in
theorem machineBack_holds : Rows.MachineBackCardSaid :=
 Claim7.holds_tied_plain_at .later [] [.data] true Rows.machineMayCard.stood.harness false
  machineBack_row (fun _ h => by cases h) (by kernel_rfl) (fun _ h => by cases h) machineBack_row_tie rfl ⟨rfl, rfl⟩ mainN rfl
  (fun f fn hf hfn => by
   obtain rfl : f = 13 := Option.some.inj ((show Tryz.prog.funcNamed "rostrum/rostrumkeep.MachineBack" = some 13 by kernel_rfl).symm.trans hf) |>.symm
   obtain rfl : fn = Tryz.f13 := (Option.some.inj (Tryz.func13.symm.trans hfn)).symm
   exact ⟨machineBack_looks, fun j t ht => by
    rw [Tryz.params13] at ht
    have hm := List.mem_of_getElem? (Array.getElem?_toList ▸ ht)
    simp only [List.mem_cons, List.not_mem_nil, or_false] at hm
    rcases hm with rfl | rfl <;> exact (show Tryz.prog.wantsStandIn _ = false by kernel_rfl)⟩)
  machineBack_goes
#print axioms machineBack_holds
end Go.Proofs.YtgpkgegpcgiokaaGreatDoor

