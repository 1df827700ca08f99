/- rostrumkeep.PutStays returns true for every input; no condition. -/
import Derived.Test.YtpdadlofgfdlpaaStoE
import Derived.Test.YtpdadlofgfdlpaaOpen
namespace Go.Proofs.Ytpdadlofgfdlpaa
set_option linter.all false
open Go.ChangeShapes Go.WideShapes Go.ChangeAt Go.RowKit
set_option maxRecDepth 100000 in
set_option maxHeartbeats 8000000 in
theorem putStays_true (nn : Int) (w : World) (hn : I64 nn) :
    Calls Try.prog 9 #[.int .i64 nn, .bool true] w fun e w' => e = .returned (.bool true) ∧ Below w.heap.size w w' := by
  have hG : Good ⟨2, emp, 1, [], [], []⟩ := count_good (by omega) (by omega)
  have hk : 1 ≤ ({ data := #[97] } : ByteArray).size ∧ ({ data := #[97] } : ByteArray).size ≤ 12 := by decide
  have cx : ∀ n : Int, 1 ≤ n → n ≤ 90 → ccOf ⟨20, { data := #[97] }, { data := #[] }, { data := #[] }, n⟩ = 0 := fun n h1 h2 => cc_at (cc_lit (by omega) (by omega) (by rw [if_neg (by decide)]; rfl) (by rw [if_neg (by decide)]; rfl) (by rw [if_pos (by decide)]; omega)) (by omega) hk.1 hk.2
  have ca : ccOf ⟨3, { data := #[97] }, { data := #[] }, { data := #[] }, 1⟩ = 0 := cc_at (cc_lit (by omega) (by omega) (by rw [if_neg (by decide)]; rfl) (by rw [if_neg (by decide)]; rfl) (by rw [if_pos (by decide)]; omega)) (by omega) hk.1 hk.2
  have cp : ccOf ⟨1, { data := #[97] }, { data := #[] }, { data := #[] }, 0⟩ = 0 := cc_at (cc_lit (by omega) (by omega) (by rw [if_neg (by decide)]; rfl) (by rw [if_pos (by decide)]; decide) (by rw [if_neg (by decide)])) (by omega) hk.1 hk.2
  have d3 : doneVal ⟨2, emp, 1, [], [], []⟩ ⟨1, { data := #[97] }, { data := #[] }, { data := #[] }, 0⟩ = (⟨1, emp, 0, [], [], []⟩, toldR 0, 0) := done_put (.inr hG) cp rfl
  have hU : Good ⟨1, emp, 0, [], [], []⟩ := by
    have g1 := done_may (.inr hG) ⟨1, { data := #[97] }, { data := #[] }, { data := #[] }, 0⟩
    rw [d3] at g1
    rcases g1 with h | h
    · injection h with h; omega
    · exact h
  have p0 := picked_lo nn 90 (by omega)
  have p1 := picked_hi nn 90 (by omega)
  have hp := fun w => picked_any nn 90 w hn.1 hn.2 (by omega) (by omega)
  generalize picked nn 90 = a at *
  have wa : IntKind.i64.wrap (1 + a) = 1 + a := IntWalk.i64_in _ (by omega)
  obtain ⟨k, hka⟩ : ∃ k, k = 1 + a := ⟨_, rfl⟩
  have ha : a = k - 1 := by omega
  rw [← hka] at wa
  have ok0 : ∀ t, t = 0 ∨ (0 < t ∧ t ≤ 1073741824) → StOk 0 [⟨{ data := #[97] }, ⟨2, emp, 1, [], [], []⟩, t⟩] := fun t ht => one_ok hk hG (by omega) (by omega) ht
  have okU : ∀ t, t = 0 ∨ (0 < t ∧ t ≤ 1073741824) → StOk 0 [⟨{ data := #[97] }, ⟨1, emp, 0, [], [], []⟩, t⟩] := fun t ht => one_ok hk hU (by omega) (by omega) ht
  have a1 : applyS 0 [] 0 ⟨3, { data := #[97] }, { data := #[] }, { data := #[] }, 1⟩ = ((0, [⟨{ data := #[97] }, ⟨2, emp, 1, [], [], []⟩, 0⟩]), ⟨0, emp, 1, []⟩, 0) := by
    rw [apply_ok (nil_ok (by omega) (by omega)) (by omega) (by omega) ca, alive_none, do_first (c := ⟨3, { data := #[97] }, { data := #[] }, { data := #[] }, 1⟩) (by simp) (done_add0 ca rfl) (by simp) rfl]; rfl
  have a2 : applyS 0 [⟨{ data := #[97] }, ⟨2, emp, 1, [], [], []⟩, 0⟩] 0 ⟨20, { data := #[97] }, { data := #[] }, { data := #[] }, k⟩ = ((0, [⟨{ data := #[97] }, ⟨2, emp, 1, [], [], []⟩, k⟩]), ⟨0, emp, 0, []⟩, 0) := by
    rw [apply_ok (ok0 0 (.inl rfl)) (by omega) (by omega) (cx k (by omega) (by omega)), alive_self (ok0 0 (.inl rfl)), do_expire (c := ⟨20, { data := #[97] }, { data := #[] }, { data := #[] }, k⟩) rfl rfl (by show 1 ≤ k; omega) (by show k ≤ _; omega)]
    show ((0, [(⟨{ data := #[97] }, ⟨2, emp, 1, [], [], []⟩, 0 + k⟩ : En)]), _, _) = _
    rw [Int.zero_add]; rfl
  have a3 : applyS 0 [⟨{ data := #[97] }, ⟨2, emp, 1, [], [], []⟩, k⟩] 0 ⟨1, { data := #[97] }, { data := #[] }, { data := #[] }, 0⟩ = ((0, [⟨{ data := #[97] }, ⟨1, emp, 0, [], [], []⟩, 0⟩]), ⟨0, emp, 0, []⟩, 0) := by
    rw [apply_ok (ok0 k (.inr ⟨by omega, by omega⟩)) (by omega) (by omega) cp, alive_self (ok0 k (.inr ⟨by omega, by omega⟩)), do_one (c := ⟨1, { data := #[97] }, { data := #[] }, { data := #[] }, 0⟩) rfl (by simp) d3 (by simp) rfl]; rfl
  have a4 : applyS 0 [⟨{ data := #[97] }, ⟨1, emp, 0, [], [], []⟩, 0⟩] k ⟨22, { data := #[] }, { data := #[] }, { data := #[] }, 0⟩ = ((k, [⟨{ data := #[97] }, ⟨1, emp, 0, [], [], []⟩, 0⟩]), ⟨0, emp, 0, [{ data := #[97] }]⟩, 0) := by
    rw [apply_ok (okU 0 (.inl rfl)) (by omega) (by omega) cc_keys, alive_stays (by show ¬ ((0 : Int) ≠ 0 ∧ _); omega), do_keys rfl]; rfl
  have K1 := hide (fun w => Apply_may (nil_ok (now := 0) (by omega) (by omega)) _ _ _ a1 (by omega) (by omega) none 0 0 w (St.nil w))
  have K2 := hide (Apply_may (ok0 0 (.inl rfl)) _ _ _ a2 (by omega) (by omega))
  have K3 := hide (Apply_may (ok0 k (.inr ⟨by omega, by omega⟩)) _ _ _ a3 (by omega) (by omega))
  have K4 := hide (Apply_may (okU 0 (.inl rfl)) _ _ _ a4 (by omega) (by omega))
  have KE := hide (fun A n c w (h : St w A n c [⟨{ data := #[97] }, ⟨1, emp, 0, [], [], []⟩, 0⟩]) => entry_any k A n c [⟨{ data := #[97] }, ⟨1, emp, 0, [], [], []⟩, 0⟩] { data := #[97] } w h (by simp))
  have P := hide hp
  have hka' : 1 + a = k := hka.symm
  clear a1 a2 a3 a4 ok0 okU cx ca hp hG hU d3 hka ha cp
  go_enter Try.func9, Try.ntmps9
  go_wp2_with fail
  refine (P.out _).mono ?_
  rintro e w' ⟨rfl, rfl⟩
  have q : Below w.heap.size w w := Below.refl _ w
  go_wp2_with fail
  refine (K1.out _).mono ?_; rintro e w1 ⟨A1, n1, c1, Y1, m1, d1, rfl, M1, L1, T1, hb1⟩; skip; replace q : Below w.heap.size w w1 := (by repeat (first | (with_reducible exact Below.refl _ _) | (with_reducible assumption) | (with_reducible refine Below.drew ?_) | (with_reducible refine bdrewN ?_ _) | (with_reducible refine balloc ?_ _) | ((with_reducible refine bset ?_ ?_ _); rotate_left; (focus first | exact Nat.le_refl _ | (simp; done) | (simp; omega) | omega)) | (with_reducible refine bstep ?_ (by with_reducible assumption)) | (with_reducible refine Below.trans ?_ (by with_reducible assumption)))); clear hb1
  have q0 := q
  have D1 := Blk.new w1 25 #[.int .i64 (0), .slice A1 n1 c1]; replace M1 := M1.al (.cells #[.int .i64 (0), .slice A1 n1 c1] 25); replace L1 := L1.al (.cells #[.int .i64 (0), .slice A1 n1 c1] 25); have R1 : Blk ((w1.alloc (.cells #[.int .i64 (0), .slice A1 n1 c1] 25)).alloc (.cells #[.int .i64 (0), .string emp, .int .i64 (1), .slice Y1 m1 d1] 49)) (w1.heap.size + 1) 49 #[.int .i64 (0), .string emp, .int .i64 (1), .slice Y1 m1 d1] := Blk.new' _ _ _ (by simp); replace M1 := M1.al (.cells #[.int .i64 (0), .string emp, .int .i64 (1), .slice Y1 m1 d1] 49); replace L1 := L1.al (.cells #[.int .i64 (0), .string emp, .int .i64 (1), .slice Y1 m1 d1] 49); replace D1 := D1.al (.cells #[.int .i64 (0), .string emp, .int .i64 (1), .slice Y1 m1 d1] 49)
  clear R1 L1 T1
  (try clear cD1 fD1); have cD1 := D1.cell; have fD1 := D1.frozen
  go_wp2_with fail
  refine (K2.out _ _ _ _ M1).mono ?_; rintro e w2 ⟨A2, n2, c2, Y2, m2, d2, rfl, M2, L2, T2, hb2⟩; replace D1 := D1.bl hb2; replace q : Below w.heap.size w w2 := (by repeat (first | (with_reducible exact Below.refl _ _) | (with_reducible assumption) | (with_reducible refine Below.drew ?_) | (with_reducible refine bdrewN ?_ _) | (with_reducible refine balloc ?_ _) | ((with_reducible refine bset ?_ ?_ _); rotate_left; (focus first | exact Nat.le_refl _ | (simp; done) | (simp; omega) | omega)) | (with_reducible refine bstep ?_ (by with_reducible assumption)) | (with_reducible refine Below.trans ?_ (by with_reducible assumption)))); clear hb2
  (try clear cD1 fD1); have cD1 := D1.cell; have fD1 := D1.frozen
  obtain ⟨O2, gr2, hz2⟩ := whole_store (.int .i64 (0)) (.slice A2 n2 c2) D1; have q2 := below_grow q gr2 q.size (by have := q0.size; omega); replace M2 := M2.grown D1 gr2; clear L2 T2
  have l2 := D1.lt
  replace M2 := M2.al (.cells #[.int .i64 (0), .string emp, .int .i64 (0), .slice Y2 m2 d2] 49); replace O2 := O2.al (.cells #[.int .i64 (0), .string emp, .int .i64 (0), .slice Y2 m2 d2] 49)
  have C2 := Blk.new (((w2.setCell ⟨w1.heap.size, 0, none⟩ (.int .i64 0)).setCell ⟨w1.heap.size, 1, none⟩ (.slice A2 n2 c2)).alloc (.cells #[.int .i64 (0), .string emp, .int .i64 (0), .slice Y2 m2 d2] 49)) 46 #[.int .i64 1, .string { data := #[97] }, .string { data := #[] }, .string { data := #[] }, .int .i64 0]
  replace M2 := M2.al (.cells #[.int .i64 1, .string { data := #[97] }, .string { data := #[] }, .string { data := #[] }, .int .i64 0] 46); replace O2 := O2.al (.cells #[.int .i64 1, .string { data := #[97] }, .string { data := #[] }, .string { data := #[] }, .int .i64 0] 46)
  go_wp2_with fail
  refine (K3.out _ _ _ _ M2).mono ?_; rintro e w3 ⟨A3, n3, c3, Y3, m3, d3, rfl, M3, L3, T3, hb3⟩; replace O2 := O2.bl hb3; replace q : Below w.heap.size w w3 := (by repeat (first | (with_reducible exact Below.refl _ _) | (with_reducible assumption) | (with_reducible refine Below.drew ?_) | (with_reducible refine bdrewN ?_ _) | (with_reducible refine balloc ?_ _) | ((with_reducible refine bset ?_ ?_ _); rotate_left; (focus first | exact Nat.le_refl _ | (simp; done) | (simp; omega) | omega)) | (with_reducible refine bstep ?_ (by with_reducible assumption)) | (with_reducible refine Below.trans ?_ (by with_reducible assumption)))); clear hb3
  clear C2 D1 cD1 fD1 l2 gr2 hz2 M2 q2
  (try clear cO2 fO2); have cO2 := O2.cell; have fO2 := O2.frozen
  obtain ⟨O3, gr3, hz3⟩ := whole_store (.int .i64 (0)) (.slice A3 n3 c3) O2; have q3 := below_grow q gr3 q.size (by have := q0.size; omega); replace M3 := M3.grown O2 gr3; clear L3 T3
  have l3 := O2.lt
  have e3 := hide M3.sl.len
  replace M3 := M3.al (.cells #[.int .i64 (0), .string emp, .int .i64 (0), .slice Y3 m3 d3] 49); replace O3 := O3.al (.cells #[.int .i64 (0), .string emp, .int .i64 (0), .slice Y3 m3 d3] 49)
  go_wp2_with fail
  replace q := q3
  clear O2 cO2 fO2 l3 gr3 hz3 q3
  (try clear cO3 fO3); have cO3 := O3.cell; have fO3 := O3.frozen
  refine (K4.out _ _ _ _ M3).mono ?_; rintro e w4 ⟨A4, n4, c4, Y4, m4, d4, rfl, M4, L4, T4, hb4⟩; replace O3 := O3.bl hb4; replace q : Below w.heap.size w w4 := (by repeat (first | (with_reducible exact Below.refl _ _) | (with_reducible assumption) | (with_reducible refine Below.drew ?_) | (with_reducible refine bdrewN ?_ _) | (with_reducible refine balloc ?_ _) | ((with_reducible refine bset ?_ ?_ _); rotate_left; (focus first | exact Nat.le_refl _ | (simp; done) | (simp; omega) | omega)) | (with_reducible refine bstep ?_ (by with_reducible assumption)) | (with_reducible refine Below.trans ?_ (by with_reducible assumption)))); clear hb4
  clear M3
  have D4 := Blk.new w4 25 #[.int .i64 (k), .slice A4 n4 c4]; replace M4 := M4.al (.cells #[.int .i64 (k), .slice A4 n4 c4] 25); replace L4 := L4.al (.cells #[.int .i64 (k), .slice A4 n4 c4] 25); replace O3 := O3.al (.cells #[.int .i64 (k), .slice A4 n4 c4] 25); have R4 : Blk ((w4.alloc (.cells #[.int .i64 (k), .slice A4 n4 c4] 25)).alloc (.cells #[.int .i64 (0), .string emp, .int .i64 (0), .slice Y4 m4 d4] 49)) (w4.heap.size + 1) 49 #[.int .i64 (0), .string emp, .int .i64 (0), .slice Y4 m4 d4] := Blk.new' _ _ _ (by simp); replace M4 := M4.al (.cells #[.int .i64 (0), .string emp, .int .i64 (0), .slice Y4 m4 d4] 49); replace L4 := L4.al (.cells #[.int .i64 (0), .string emp, .int .i64 (0), .slice Y4 m4 d4] 49); replace D4 := D4.al (.cells #[.int .i64 (0), .string emp, .int .i64 (0), .slice Y4 m4 d4] 49); replace O3 := O3.al (.cells #[.int .i64 (0), .string emp, .int .i64 (0), .slice Y4 m4 d4] 49)
  clear R4 L4 T4
  (try clear cO3 fO3); have cO3 := O3.cell; have fO3 := O3.frozen; (try clear cD4 fD4); have cD4 := D4.cell; have fD4 := D4.frozen
  go_wp2_with fail
  refine (KE.out _ _ _ _ M4).mono ?_
  rintro e w5 ⟨hE, hb5⟩
  rcases hE with ⟨x, hx, hxk, A5, n5, c5, A6, n6, c6, A7, n7, c7, rfl, -, -⟩ | ⟨h, -⟩
  · rw [List.mem_singleton] at hx
    subst hx
    clear hxk
    have q5 : Below w.heap.size w w5 := (by repeat (first | (with_reducible exact Below.refl _ _) | (with_reducible assumption) | (with_reducible refine Below.drew ?_) | (with_reducible refine bdrewN ?_ _) | (with_reducible refine balloc ?_ _) | ((with_reducible refine bset ?_ ?_ _); rotate_left; (focus first | exact Nat.le_refl _ | (simp; done) | (simp; omega) | omega)) | (with_reducible refine bstep ?_ (by with_reducible assumption)) | (with_reducible refine Below.trans ?_ (by with_reducible assumption))))
    replace O3 := O3.bl hb5
    (try clear cO3 fO3); have cO3 := O3.cell; have fO3 := O3.frozen
    have l5 := O3.lt
    obtain rfl : n3 = 1 := e3.out.symm
    clear M4 D4 cD4 fD4 hb5 q e3
    go_wp2_with fail
    go_ret
    exact ⟨rfl, (by repeat (first | (with_reducible exact Below.refl _ _) | (with_reducible assumption) | (with_reducible refine Below.drew ?_) | (with_reducible refine bdrewN ?_ _) | (with_reducible refine balloc ?_ _) | ((with_reducible refine bset ?_ ?_ _); rotate_left; (focus first | exact Nat.le_refl _ | (simp; done) | (simp; omega) | omega)) | (with_reducible refine bstep ?_ (by with_reducible assumption)) | (with_reducible refine Below.trans ?_ (by with_reducible assumption))))⟩
  · exact absurd rfl (h _ (List.mem_singleton.2 rfl))
set_option maxRecDepth 100000 in
set_option maxHeartbeats 8000000 in
theorem putStays_false (nn : Int) (w : World) (hn : I64 nn) :
    Calls Try.prog 9 #[.int .i64 nn, .bool false] w fun e w' => e = .returned (.bool true) ∧ Below w.heap.size w w' := by
  have hG : Good ⟨2, emp, 1, [], [], []⟩ := count_good (by omega) (by omega)
  have hk : 1 ≤ ({ data := #[97] } : ByteArray).size ∧ ({ data := #[97] } : ByteArray).size ≤ 12 := by decide
  have cx : ∀ n : Int, 1 ≤ n → n ≤ 90 → ccOf ⟨20, { data := #[97] }, { data := #[] }, { data := #[] }, n⟩ = 0 := fun n h1 h2 => cc_at (cc_lit (by omega) (by omega) (by rw [if_neg (by decide)]; rfl) (by rw [if_neg (by decide)]; rfl) (by rw [if_pos (by decide)]; omega)) (by omega) hk.1 hk.2
  have ca : ccOf ⟨3, { data := #[97] }, { data := #[] }, { data := #[] }, 1⟩ = 0 := cc_at (cc_lit (by omega) (by omega) (by rw [if_neg (by decide)]; rfl) (by rw [if_neg (by decide)]; rfl) (by rw [if_pos (by decide)]; omega)) (by omega) hk.1 hk.2
  have d3 : doneVal ⟨2, emp, 1, [], [], []⟩ ⟨3, { data := #[97] }, { data := #[] }, { data := #[] }, 1⟩ = (⟨2, emp, 2, [], [], []⟩, toldR 2, 0) := by
    rw [done_add hG rfl ca rfl, if_pos (countOk_iff.2 ⟨by decide, by decide⟩)]; rfl
  have hU : Good ⟨2, emp, 2, [], [], []⟩ := count_good (by omega) (by omega)
  have p0 := picked_lo nn 90 (by omega)
  have p1 := picked_hi nn 90 (by omega)
  have hp := fun w => picked_any nn 90 w hn.1 hn.2 (by omega) (by omega)
  generalize picked nn 90 = a at *
  have wa : IntKind.i64.wrap (1 + a) = 1 + a := IntWalk.i64_in _ (by omega)
  obtain ⟨k, hka⟩ : ∃ k, k = 1 + a := ⟨_, rfl⟩
  have ha : a = k - 1 := by omega
  rw [← hka] at wa
  have ok0 : ∀ t, t = 0 ∨ (0 < t ∧ t ≤ 1073741824) → StOk 0 [⟨{ data := #[97] }, ⟨2, emp, 1, [], [], []⟩, t⟩] := fun t ht => one_ok hk hG (by omega) (by omega) ht
  have okU : ∀ t, t = 0 ∨ (0 < t ∧ t ≤ 1073741824) → StOk 0 [⟨{ data := #[97] }, ⟨2, emp, 2, [], [], []⟩, t⟩] := fun t ht => one_ok hk hU (by omega) (by omega) ht
  have a1 : applyS 0 [] 0 ⟨3, { data := #[97] }, { data := #[] }, { data := #[] }, 1⟩ = ((0, [⟨{ data := #[97] }, ⟨2, emp, 1, [], [], []⟩, 0⟩]), ⟨0, emp, 1, []⟩, 0) := by
    rw [apply_ok (nil_ok (by omega) (by omega)) (by omega) (by omega) ca, alive_none, do_first (c := ⟨3, { data := #[97] }, { data := #[] }, { data := #[] }, 1⟩) (by simp) (done_add0 ca rfl) (by simp) rfl]; rfl
  have a2 : applyS 0 [⟨{ data := #[97] }, ⟨2, emp, 1, [], [], []⟩, 0⟩] 0 ⟨20, { data := #[97] }, { data := #[] }, { data := #[] }, k⟩ = ((0, [⟨{ data := #[97] }, ⟨2, emp, 1, [], [], []⟩, k⟩]), ⟨0, emp, 0, []⟩, 0) := by
    rw [apply_ok (ok0 0 (.inl rfl)) (by omega) (by omega) (cx k (by omega) (by omega)), alive_self (ok0 0 (.inl rfl)), do_expire (c := ⟨20, { data := #[97] }, { data := #[] }, { data := #[] }, k⟩) rfl rfl (by show 1 ≤ k; omega) (by show k ≤ _; omega)]
    show ((0, [(⟨{ data := #[97] }, ⟨2, emp, 1, [], [], []⟩, 0 + k⟩ : En)]), _, _) = _
    rw [Int.zero_add]; rfl
  have a3 : applyS 0 [⟨{ data := #[97] }, ⟨2, emp, 1, [], [], []⟩, k⟩] 0 ⟨3, { data := #[97] }, { data := #[] }, { data := #[] }, 1⟩ = ((0, [⟨{ data := #[97] }, ⟨2, emp, 2, [], [], []⟩, k⟩]), ⟨0, emp, 2, []⟩, 0) := by
    rw [apply_ok (ok0 k (.inr ⟨by omega, by omega⟩)) (by omega) (by omega) ca, alive_self (ok0 k (.inr ⟨by omega, by omega⟩)), do_one (c := ⟨3, { data := #[97] }, { data := #[] }, { data := #[] }, 1⟩) rfl (by simp) d3 (by simp) rfl]; rfl
  have a4 : applyS 0 [⟨{ data := #[97] }, ⟨2, emp, 2, [], [], []⟩, k⟩] k ⟨22, { data := #[] }, { data := #[] }, { data := #[] }, 0⟩ = ((k, []), ⟨0, emp, 0, []⟩, 0) := by
    rw [apply_ok (okU k (.inr ⟨by omega, by omega⟩)) (by omega) (by omega) cc_keys, alive_goes (by show (k ≠ 0 ∧ k ≤ k); omega), do_keys rfl]; rfl
  have K1 := hide (fun w => Apply_may (nil_ok (now := 0) (by omega) (by omega)) _ _ _ a1 (by omega) (by omega) none 0 0 w (St.nil w))
  have K2 := hide (Apply_may (ok0 0 (.inl rfl)) _ _ _ a2 (by omega) (by omega))
  have K3 := hide (Apply_may (ok0 k (.inr ⟨by omega, by omega⟩)) _ _ _ a3 (by omega) (by omega))
  have K4 := hide (Apply_may (okU k (.inr ⟨by omega, by omega⟩)) _ _ _ a4 (by omega) (by omega))
  have KE := hide (fun A n c w (h : St w A n c []) => entry_any k A n c [] { data := #[97] } w h (by simp))
  have P := hide hp
  have hka' : 1 + a = k := hka.symm
  clear a1 a2 a3 a4 ok0 okU cx ca hp hG hU d3 hka ha 
  go_enter Try.func9, Try.ntmps9
  go_wp2_with fail
  refine (P.out _).mono ?_
  rintro e w' ⟨rfl, rfl⟩
  have q : Below w.heap.size w w := Below.refl _ w
  go_wp2_with fail
  refine (K1.out _).mono ?_; rintro e w1 ⟨A1, n1, c1, Y1, m1, d1, rfl, M1, L1, T1, hb1⟩; skip; replace q : Below w.heap.size w w1 := (by repeat (first | (with_reducible exact Below.refl _ _) | (with_reducible assumption) | (with_reducible refine Below.drew ?_) | (with_reducible refine bdrewN ?_ _) | (with_reducible refine balloc ?_ _) | ((with_reducible refine bset ?_ ?_ _); rotate_left; (focus first | exact Nat.le_refl _ | (simp; done) | (simp; omega) | omega)) | (with_reducible refine bstep ?_ (by with_reducible assumption)) | (with_reducible refine Below.trans ?_ (by with_reducible assumption)))); clear hb1
  have q0 := q
  have D1 := Blk.new w1 25 #[.int .i64 (0), .slice A1 n1 c1]; replace M1 := M1.al (.cells #[.int .i64 (0), .slice A1 n1 c1] 25); replace L1 := L1.al (.cells #[.int .i64 (0), .slice A1 n1 c1] 25); have R1 : Blk ((w1.alloc (.cells #[.int .i64 (0), .slice A1 n1 c1] 25)).alloc (.cells #[.int .i64 (0), .string emp, .int .i64 (1), .slice Y1 m1 d1] 49)) (w1.heap.size + 1) 49 #[.int .i64 (0), .string emp, .int .i64 (1), .slice Y1 m1 d1] := Blk.new' _ _ _ (by simp); replace M1 := M1.al (.cells #[.int .i64 (0), .string emp, .int .i64 (1), .slice Y1 m1 d1] 49); replace L1 := L1.al (.cells #[.int .i64 (0), .string emp, .int .i64 (1), .slice Y1 m1 d1] 49); replace D1 := D1.al (.cells #[.int .i64 (0), .string emp, .int .i64 (1), .slice Y1 m1 d1] 49)
  clear R1 L1 T1
  (try clear cD1 fD1); have cD1 := D1.cell; have fD1 := D1.frozen
  go_wp2_with fail
  refine (K2.out _ _ _ _ M1).mono ?_; rintro e w2 ⟨A2, n2, c2, Y2, m2, d2, rfl, M2, L2, T2, hb2⟩; replace D1 := D1.bl hb2; replace q : Below w.heap.size w w2 := (by repeat (first | (with_reducible exact Below.refl _ _) | (with_reducible assumption) | (with_reducible refine Below.drew ?_) | (with_reducible refine bdrewN ?_ _) | (with_reducible refine balloc ?_ _) | ((with_reducible refine bset ?_ ?_ _); rotate_left; (focus first | exact Nat.le_refl _ | (simp; done) | (simp; omega) | omega)) | (with_reducible refine bstep ?_ (by with_reducible assumption)) | (with_reducible refine Below.trans ?_ (by with_reducible assumption)))); clear hb2
  (try clear cD1 fD1); have cD1 := D1.cell; have fD1 := D1.frozen
  obtain ⟨O2, gr2, hz2⟩ := whole_store (.int .i64 (0)) (.slice A2 n2 c2) D1; have q2 := below_grow q gr2 q.size (by have := q0.size; omega); replace M2 := M2.grown D1 gr2; clear L2 T2
  have l2 := D1.lt
  replace M2 := M2.al (.cells #[.int .i64 (0), .string emp, .int .i64 (0), .slice Y2 m2 d2] 49); replace O2 := O2.al (.cells #[.int .i64 (0), .string emp, .int .i64 (0), .slice Y2 m2 d2] 49)
  have C2 := Blk.new (((w2.setCell ⟨w1.heap.size, 0, none⟩ (.int .i64 0)).setCell ⟨w1.heap.size, 1, none⟩ (.slice A2 n2 c2)).alloc (.cells #[.int .i64 (0), .string emp, .int .i64 (0), .slice Y2 m2 d2] 49)) 46 #[.int .i64 3, .string { data := #[97] }, .string { data := #[] }, .string { data := #[] }, .int .i64 1]
  replace M2 := M2.al (.cells #[.int .i64 3, .string { data := #[97] }, .string { data := #[] }, .string { data := #[] }, .int .i64 1] 46); replace O2 := O2.al (.cells #[.int .i64 3, .string { data := #[97] }, .string { data := #[] }, .string { data := #[] }, .int .i64 1] 46)
  go_wp2_with fail
  refine (K3.out _ _ _ _ M2).mono ?_; rintro e w3 ⟨A3, n3, c3, Y3, m3, d3, rfl, M3, L3, T3, hb3⟩; replace O2 := O2.bl hb3; replace q : Below w.heap.size w w3 := (by repeat (first | (with_reducible exact Below.refl _ _) | (with_reducible assumption) | (with_reducible refine Below.drew ?_) | (with_reducible refine bdrewN ?_ _) | (with_reducible refine balloc ?_ _) | ((with_reducible refine bset ?_ ?_ _); rotate_left; (focus first | exact Nat.le_refl _ | (simp; done) | (simp; omega) | omega)) | (with_reducible refine bstep ?_ (by with_reducible assumption)) | (with_reducible refine Below.trans ?_ (by with_reducible assumption)))); clear hb3
  clear C2 D1 cD1 fD1 l2 gr2 hz2 M2 q2
  (try clear cO2 fO2); have cO2 := O2.cell; have fO2 := O2.frozen
  obtain ⟨O3, gr3, hz3⟩ := whole_store (.int .i64 (0)) (.slice A3 n3 c3) O2; have q3 := below_grow q gr3 q.size (by have := q0.size; omega); replace M3 := M3.grown O2 gr3; clear L3 T3
  have l3 := O2.lt
  have e3 := hide M3.sl.len
  replace M3 := M3.al (.cells #[.int .i64 (0), .string emp, .int .i64 (2), .slice Y3 m3 d3] 49); replace O3 := O3.al (.cells #[.int .i64 (0), .string emp, .int .i64 (2), .slice Y3 m3 d3] 49)
  go_wp2_with fail
  replace q := q3
  clear O2 cO2 fO2 l3 gr3 hz3 q3
  (try clear cO3 fO3); have cO3 := O3.cell; have fO3 := O3.frozen
  refine (K4.out _ _ _ _ M3).mono ?_; rintro e w4 ⟨A4, n4, c4, Y4, m4, d4, rfl, M4, L4, T4, hb4⟩; replace O3 := O3.bl hb4; replace q : Below w.heap.size w w4 := (by repeat (first | (with_reducible exact Below.refl _ _) | (with_reducible assumption) | (with_reducible refine Below.drew ?_) | (with_reducible refine bdrewN ?_ _) | (with_reducible refine balloc ?_ _) | ((with_reducible refine bset ?_ ?_ _); rotate_left; (focus first | exact Nat.le_refl _ | (simp; done) | (simp; omega) | omega)) | (with_reducible refine bstep ?_ (by with_reducible assumption)) | (with_reducible refine Below.trans ?_ (by with_reducible assumption)))); clear hb4
  clear M3
  have D4 := Blk.new w4 25 #[.int .i64 (k), .slice A4 n4 c4]; replace M4 := M4.al (.cells #[.int .i64 (k), .slice A4 n4 c4] 25); replace L4 := L4.al (.cells #[.int .i64 (k), .slice A4 n4 c4] 25); replace O3 := O3.al (.cells #[.int .i64 (k), .slice A4 n4 c4] 25); have R4 : Blk ((w4.alloc (.cells #[.int .i64 (k), .slice A4 n4 c4] 25)).alloc (.cells #[.int .i64 (0), .string emp, .int .i64 (0), .slice Y4 m4 d4] 49)) (w4.heap.size + 1) 49 #[.int .i64 (0), .string emp, .int .i64 (0), .slice Y4 m4 d4] := Blk.new' _ _ _ (by simp); replace M4 := M4.al (.cells #[.int .i64 (0), .string emp, .int .i64 (0), .slice Y4 m4 d4] 49); replace L4 := L4.al (.cells #[.int .i64 (0), .string emp, .int .i64 (0), .slice Y4 m4 d4] 49); replace D4 := D4.al (.cells #[.int .i64 (0), .string emp, .int .i64 (0), .slice Y4 m4 d4] 49); replace O3 := O3.al (.cells #[.int .i64 (0), .string emp, .int .i64 (0), .slice Y4 m4 d4] 49)
  clear R4 L4 T4
  (try clear cO3 fO3); have cO3 := O3.cell; have fO3 := O3.frozen; (try clear cD4 fD4); have cD4 := D4.cell; have fD4 := D4.frozen
  go_wp2_with fail
  refine (KE.out _ _ _ _ M4).mono ?_
  rintro e w5 ⟨hE, hb5⟩
  rcases hE with ⟨x, hx, -⟩ | ⟨-, rfl⟩
  · cases hx
  · skip
    have q5 : Below w.heap.size w w5 := (by repeat (first | (with_reducible exact Below.refl _ _) | (with_reducible assumption) | (with_reducible refine Below.drew ?_) | (with_reducible refine bdrewN ?_ _) | (with_reducible refine balloc ?_ _) | ((with_reducible refine bset ?_ ?_ _); rotate_left; (focus first | exact Nat.le_refl _ | (simp; done) | (simp; omega) | omega)) | (with_reducible refine bstep ?_ (by with_reducible assumption)) | (with_reducible refine Below.trans ?_ (by with_reducible assumption))))
    replace O3 := O3.bl hb5
    (try clear cO3 fO3); have cO3 := O3.cell; have fO3 := O3.frozen
    have l5 := O3.lt
    obtain rfl : n3 = 1 := e3.out.symm
    clear M4 D4 cD4 fD4 hb5 q e3
    go_wp2_with fail
    go_ret
    exact ⟨rfl, (by repeat (first | (with_reducible exact Below.refl _ _) | (with_reducible assumption) | (with_reducible refine Below.drew ?_) | (with_reducible refine bdrewN ?_ _) | (with_reducible refine balloc ?_ _) | ((with_reducible refine bset ?_ ?_ _); rotate_left; (focus first | exact Nat.le_refl _ | (simp; done) | (simp; omega) | omega)) | (with_reducible refine bstep ?_ (by with_reducible assumption)) | (with_reducible refine Below.trans ?_ (by with_reducible assumption))))⟩
theorem putStays_walk (nn : Int) (b : Bool) (w : World) (hn : I64 nn) : Calls Try.prog 9 #[.int .i64 nn, .bool b] w fun e w' => e = .returned (.bool true) ∧ Below w.heap.size w w' := by
  cases b
  · exact putStays_false nn w hn
  · exact putStays_true nn w hn
set_option maxRecDepth 100000 in
theorem putStays_lifted (os : Os) (started : os.Started) (H : Type) (enc : TypeId × Value → H) :
  ReturnsInHanded {} Try.checked os 9 .any (Rows.putStaysSpec.pre6 enc Try.prog Try.f9 Rows.putStaysRow.domain false) (Rows.putStaysSpec.post enc Try.prog Try.f9 false true false false) := by
  refine returnsInHanded_of_change (C := Try.checked) Try.own started (by kernel_rfl) Try.func9 (ChangeSpec.witness6 (enc := enc) (C := Try.checked) false ⟨#[], #[.int .i64 0, .bool false], []⟩ 8 (by kernel_rfl) (by kernel_rfl) (by kernel_rfl) (by kernel_rfl)) ?_
  intro W base args ds gs before hval0 hW hcnd _
  have hval : ∀ (j : Nat) t v, Try.f9.params[j]? = some t → args[j]? = some v → Value.okWide Try.prog W .any base t v := hval0
  have hW' := hW
  obtain ⟨p, q, hA0, hV, rfl, hfz, hnd⟩ := hW
  have hA : DataW.TrodAll enc Try.prog W 0 (fun _ => true) true Try.f9.params.toList args.toList ds p := hA0
  rw [Try.params9] at hA hval
  obtain ⟨rfl, rfl⟩ := trodVars_none hV
  clear hA0 hval0 hcnd hV hfz hnd
  obtain ⟨v0, v1, d0, d1, p0, p1, rfl, rfl, rfl, h0, h1⟩ := trodAll_two hA
  obtain ⟨k, rfl, rfl, rfl, w1⟩ := open_int Try.underlying3 (hval 0 3 v0 rfl rfl) h0
  obtain ⟨b, rfl, rfl, rfl⟩ := open_bool Try.underlying4 (hval 1 4 v1 rfl rfl) h1
  refine (putStays_walk k b W (i64_bounds w1)).mono fun e W' ⟨he, hb⟩ => ?_
  subst he
  exact ⟨_, rfl, post_law Try.laidOut hW' rfl (by kernel_rfl) rfl Try.underlying4 (fun _ => rfl) (fun _ => rfl) (fun _ => rfl) hb⟩
theorem putStays_holds : Rows.PutStaysSaid := OpenClaim.holds_of_wide 9 Try.f9 rfl rfl rfl rfl rfl rfl rfl ⟨rfl, rfl, rfl, rfl, rfl⟩ rfl rfl rfl rfl rfl (by kernel_rfl) Try.func9 (by kernel_rfl)
  (of_decide_eq_true (by kernel_rfl)) (by unfold Func.isWrapper; first | (rw [if_pos (by decide +kernel)]; kernel_rfl) | (rw [if_neg (by decide +kernel)]; exact ⟨rfl, rfl⟩))
  (fun os started H enc _ => putStays_lifted os started H enc)
#print axioms putStays_holds
end Go.Proofs.Ytpdadlofgfdlpaa
