/- rostrumkeep.ExpireAgain returns true for every input; no condition. -/
import Derived.Test.YtpdadlofgfdlpaaStoL
import Derived.Test.YtpdadlofgfdlpaaOpen
namespace Go.Proofs.Ytpdadlofgfdlpaa
set_option linter.all false
open Go.ChangeShapes Go.WideShapes Go.ChangeAt Go.RowKit
set_option maxRecDepth 100000 in
set_option maxHeartbeats 8000000 in
theorem expireAgain_walk (nn mm : Int) (w : World) (hn : I64 nn) (hm : I64 mm) :
    Calls Try.prog 15 #[.int .i64 nn, .int .i64 mm] w fun e w' => e = .returned (.bool true) ∧ Below w.heap.size w w' := by
  have hG : Good ⟨4, emp, 0, [], [{ data := #[120] }], []⟩ := one_items (.inl rfl) (by decide)
  have hk : 1 ≤ ({ data := #[97] } : ByteArray).size ∧ ({ data := #[97] } : ByteArray).size ≤ 12 := by decide
  have cx : ∀ n : Int, 1 ≤ n → n ≤ 90 → ccOf ⟨20, { data := #[97] }, { data := #[] }, { data := #[] }, n⟩ = 0 := fun n h1 h2 => cc_at (cc_lit (by omega) (by omega) (by rw [if_neg (by decide)]; rfl) (by rw [if_neg (by decide)]; rfl) (by rw [if_pos (by decide)]; omega)) (by omega) hk.1 hk.2
  have cl : ccOf ⟨21, { data := #[97] }, { data := #[] }, { data := #[] }, 0⟩ = 0 := cc_at (cc_lit (by omega) (by omega) (by rw [if_neg (by decide)]; rfl) (by rw [if_neg (by decide)]; rfl) (by rw [if_neg (by decide)])) (by omega) hk.1 hk.2
  have cp : ccOf ⟨7, { data := #[97] }, { data := #[] }, { data := #[120] }, 0⟩ = 0 := cc_at (cc_lit (by omega) (by omega) (by rw [if_neg (by decide)]; rfl) (by rw [if_pos (by decide)]; decide) (by rw [if_neg (by decide)])) (by omega) hk.1 hk.2
  have p0 := picked_lo nn 90 (by omega)
  have p1 := picked_hi nn 90 (by omega)
  have q0 := picked_lo mm 90 (by omega)
  have q1 := picked_hi mm 90 (by omega)
  have hp := fun w => picked_any nn 90 w hn.1 hn.2 (by omega) (by omega)
  have hq := fun w => picked_any mm 90 w hm.1 hm.2 (by omega) (by omega)
  generalize picked nn 90 = a at *
  generalize picked mm 90 = b at *
  have wa : IntKind.i64.wrap (1 + a) = 1 + a := IntWalk.i64_in _ (by omega)
  have wb : IntKind.i64.wrap (1 + b) = 1 + b := IntWalk.i64_in _ (by omega)
  have w4 : IntKind.i64.wrap (4 + (1 + b)) = 4 + (1 + b) := IntWalk.i64_in _ (by omega)
  have w5 : IntKind.i64.wrap (5 + (1 + b)) = 5 + (1 + b) := IntWalk.i64_in _ (by omega)
  have ok : ∀ t, t = 0 ∨ (5 < t ∧ t ≤ 1073741824) → StOk 5 [⟨{ data := #[97] }, ⟨4, emp, 0, [], [{ data := #[120] }], []⟩, t⟩] := fun t ht => one_ok hk hG (by omega) (by omega) ht
  have a1 : applyS 0 [] 5 ⟨7, { data := #[97] }, { data := #[] }, { data := #[120] }, 0⟩ = ((5, [⟨{ data := #[97] }, ⟨4, emp, 0, [], [{ data := #[120] }], []⟩, 0⟩]), ⟨0, emp, 1, []⟩, 0) := by
    rw [apply_ok (nil_ok (by omega) (by omega)) (by omega) (by omega) cp, alive_none, do_first (c := ⟨7, { data := #[97] }, { data := #[] }, { data := #[120] }, 0⟩) (by simp) (done_list0 cp (.inl rfl)) (by simp) rfl]; rfl
  have a2 : ∀ t, t = 0 ∨ (5 < t ∧ t ≤ 1073741824) → applyS 5 [⟨{ data := #[97] }, ⟨4, emp, 0, [], [{ data := #[120] }], []⟩, t⟩] 5 ⟨21, { data := #[97] }, { data := #[] }, { data := #[] }, 0⟩ = ((5, [⟨{ data := #[97] }, ⟨4, emp, 0, [], [{ data := #[120] }], []⟩, t⟩]), ⟨0, emp, max (t - 5) 0, []⟩, 0) := fun t ht => by
    rw [apply_ok (ok t ht) (by omega) (by omega) cl, alive_self (ok t ht), do_life (c := ⟨21, { data := #[97] }, { data := #[] }, { data := #[] }, 0⟩) rfl rfl]; rfl
  have a3 : ∀ t n, t = 0 ∨ (5 < t ∧ t ≤ 1073741824) → 1 ≤ n → n ≤ 90 → applyS 5 [⟨{ data := #[97] }, ⟨4, emp, 0, [], [{ data := #[120] }], []⟩, t⟩] 5 ⟨20, { data := #[97] }, { data := #[] }, { data := #[] }, n⟩ = ((5, [⟨{ data := #[97] }, ⟨4, emp, 0, [], [{ data := #[120] }], []⟩, 5 + n⟩]), ⟨0, emp, 0, []⟩, 0) := fun t n ht h1 h2 => by
    rw [apply_ok (ok t ht) (by omega) (by omega) (cx n h1 h2), alive_self (ok t ht), do_expire (c := ⟨20, { data := #[97] }, { data := #[] }, { data := #[] }, n⟩) rfl rfl h1 (by show n ≤ _; omega)]; rfl
  have a4 : applyS 5 [⟨{ data := #[97] }, ⟨4, emp, 0, [], [{ data := #[120] }], []⟩, 5 + (1 + b)⟩] (4 + (1 + b)) ⟨22, { data := #[] }, { data := #[] }, { data := #[] }, 0⟩ = ((4 + (1 + b), [⟨{ data := #[97] }, ⟨4, emp, 0, [], [{ data := #[120] }], []⟩, 5 + (1 + b)⟩]), ⟨0, emp, 0, [{ data := #[97] }]⟩, 0) := by
    rw [apply_ok (ok _ (.inr ⟨by omega, by omega⟩)) (by omega) (by omega) cc_keys, alive_stays (by show ¬ (5 + (1 + b) ≠ 0 ∧ 5 + (1 + b) ≤ _); omega), do_keys rfl]; rfl
  have a5 : applyS 5 [⟨{ data := #[97] }, ⟨4, emp, 0, [], [{ data := #[120] }], []⟩, 5 + (1 + b)⟩] (5 + (1 + b)) ⟨22, { data := #[] }, { data := #[] }, { data := #[] }, 0⟩ = ((5 + (1 + b), []), ⟨0, emp, 0, []⟩, 0) := by
    rw [apply_ok (ok _ (.inr ⟨by omega, by omega⟩)) (by omega) (by omega) cc_keys, alive_goes (by show (5 + (1 + b) ≠ 0 ∧ 5 + (1 + b) ≤ _); omega), do_keys rfl]; rfl
  have k0 := a2 0 (.inl rfl)
  rw [show max ((0 : Int) - 5) 0 = 0 by omega] at k0
  have k2 := a2 (5 + (1 + b)) (.inr ⟨by omega, by omega⟩)
  rw [show max (5 + (1 + b) - 5) 0 = 1 + b by omega] at k2
  have K1 := hide (fun w => Apply_may (nil_ok (now := 0) (by omega) (by omega)) _ _ _ a1 (by omega) (by omega) none 0 0 w (St.nil w))
  have K2 := hide (Apply_may (ok 0 (.inl rfl)) _ _ _ k0 (by omega) (by omega))
  have K3 := hide (Apply_may (ok 0 (.inl rfl)) _ _ _ (a3 0 (1 + a) (.inl rfl) (by omega) (by omega)) (by omega) (by omega))
  have K4 := hide (Apply_may (ok (5 + (1 + a)) (.inr ⟨by omega, by omega⟩)) _ _ _ (a3 _ (1 + b) (.inr ⟨by omega, by omega⟩) (by omega) (by omega)) (by omega) (by omega))
  have K5 := hide (Apply_may (ok (5 + (1 + b)) (.inr ⟨by omega, by omega⟩)) _ _ _ k2 (by omega) (by omega))
  have K6 := hide (Apply_may (ok (5 + (1 + b)) (.inr ⟨by omega, by omega⟩)) _ _ _ a4 (by omega) (by omega))
  have K7 := hide (Apply_may (ok (5 + (1 + b)) (.inr ⟨by omega, by omega⟩)) _ _ _ a5 (by omega) (by omega))
  have P := hide hp; have Q := hide hq
  clear a1 a2 a3 a4 a5 k0 k2 ok cx cl cp hp hq hG
  go_enter Try.func15, Try.ntmps15
  go_wp2_with fail
  refine (P.out _).mono ?_
  rintro e w' ⟨rfl, rfl⟩
  go_wp2_with fail
  refine (Q.out _).mono ?_
  rintro e w' ⟨rfl, rfl⟩
  have q : Below w.heap.size w w := Below.refl _ w
  go_wp2_with fail
  refine (K1.out _).mono ?_; rintro e w1 ⟨A1, n1, c1, Y1, m1, d1, rfl, M1, L1, T1, hb1⟩; skip; replace q : Below w.heap.size w w1 := (by repeat (first | (with_reducible exact Below.refl _ _) | (with_reducible assumption) | (with_reducible refine Below.drew ?_) | (with_reducible refine bdrewN ?_ _) | (with_reducible refine balloc ?_ _) | ((with_reducible refine bset ?_ ?_ _); rotate_left; (focus first | exact Nat.le_refl _ | (simp; done) | (simp; omega) | omega)) | (with_reducible refine bstep ?_ (by with_reducible assumption)) | (with_reducible refine Below.trans ?_ (by with_reducible assumption)))); clear hb1
  have q0 := q
  have D1 := Blk.new w1 25 #[.int .i64 (5), .slice A1 n1 c1]; replace M1 := M1.al (.cells #[.int .i64 (5), .slice A1 n1 c1] 25); replace L1 := L1.al (.cells #[.int .i64 (5), .slice A1 n1 c1] 25); have R1 : Blk ((w1.alloc (.cells #[.int .i64 (5), .slice A1 n1 c1] 25)).alloc (.cells #[.int .i64 (0), .string emp, .int .i64 (1), .slice Y1 m1 d1] 49)) (w1.heap.size + 1) 49 #[.int .i64 (0), .string emp, .int .i64 (1), .slice Y1 m1 d1] := Blk.new' _ _ _ (by simp); replace M1 := M1.al (.cells #[.int .i64 (0), .string emp, .int .i64 (1), .slice Y1 m1 d1] 49); replace L1 := L1.al (.cells #[.int .i64 (0), .string emp, .int .i64 (1), .slice Y1 m1 d1] 49); replace D1 := D1.al (.cells #[.int .i64 (0), .string emp, .int .i64 (1), .slice Y1 m1 d1] 49)
  (try clear cD1 fD1); have cD1 := D1.cell; have fD1 := D1.frozen; (try clear cR1 fR1); have cR1 := R1.cell; have fR1 := R1.frozen
  go_wp2_with fail
  refine (K2.out _ _ _ _ M1).mono ?_; rintro e w2 ⟨A2, n2, c2, Y2, m2, d2, rfl, M2, L2, T2, hb2⟩; replace M1 := M1.bl hb2; replace D1 := D1.bl hb2; replace q : Below w.heap.size w w2 := (by repeat (first | (with_reducible exact Below.refl _ _) | (with_reducible assumption) | (with_reducible refine Below.drew ?_) | (with_reducible refine bdrewN ?_ _) | (with_reducible refine balloc ?_ _) | ((with_reducible refine bset ?_ ?_ _); rotate_left; (focus first | exact Nat.le_refl _ | (simp; done) | (simp; omega) | omega)) | (with_reducible refine bstep ?_ (by with_reducible assumption)) | (with_reducible refine Below.trans ?_ (by with_reducible assumption)))); clear hb2
  have D2 := Blk.new w2 25 #[.int .i64 (5), .slice A2 n2 c2]; replace M2 := M2.al (.cells #[.int .i64 (5), .slice A2 n2 c2] 25); replace L2 := L2.al (.cells #[.int .i64 (5), .slice A2 n2 c2] 25); replace M1 := M1.al (.cells #[.int .i64 (5), .slice A2 n2 c2] 25); replace D1 := D1.al (.cells #[.int .i64 (5), .slice A2 n2 c2] 25); have R2 : Blk ((w2.alloc (.cells #[.int .i64 (5), .slice A2 n2 c2] 25)).alloc (.cells #[.int .i64 (0), .string emp, .int .i64 (0), .slice Y2 m2 d2] 49)) (w2.heap.size + 1) 49 #[.int .i64 (0), .string emp, .int .i64 (0), .slice Y2 m2 d2] := Blk.new' _ _ _ (by simp); replace M2 := M2.al (.cells #[.int .i64 (0), .string emp, .int .i64 (0), .slice Y2 m2 d2] 49); replace L2 := L2.al (.cells #[.int .i64 (0), .string emp, .int .i64 (0), .slice Y2 m2 d2] 49); replace D2 := D2.al (.cells #[.int .i64 (0), .string emp, .int .i64 (0), .slice Y2 m2 d2] 49); replace M1 := M1.al (.cells #[.int .i64 (0), .string emp, .int .i64 (0), .slice Y2 m2 d2] 49); replace D1 := D1.al (.cells #[.int .i64 (0), .string emp, .int .i64 (0), .slice Y2 m2 d2] 49)
  (try clear cD1 fD1); have cD1 := D1.cell; have fD1 := D1.frozen; (try clear cR2 fR2); have cR2 := R2.cell; have fR2 := R2.frozen
  go_wp2_with fail
  refine (K3.out _ _ _ _ M1).mono ?_; rintro e w3 ⟨A3, n3, c3, Y3, m3, d3, rfl, M3, L3, T3, hb3⟩; replace D1 := D1.bl hb3; replace R2 := R2.bl hb3; replace q : Below w.heap.size w w3 := (by repeat (first | (with_reducible exact Below.refl _ _) | (with_reducible assumption) | (with_reducible refine Below.drew ?_) | (with_reducible refine bdrewN ?_ _) | (with_reducible refine balloc ?_ _) | ((with_reducible refine bset ?_ ?_ _); rotate_left; (focus first | exact Nat.le_refl _ | (simp; done) | (simp; omega) | omega)) | (with_reducible refine bstep ?_ (by with_reducible assumption)) | (with_reducible refine Below.trans ?_ (by with_reducible assumption)))); clear hb3
  (try clear cD1 fD1); have cD1 := D1.cell; have fD1 := D1.frozen
  clear cR2 fR2
  obtain ⟨O3, gr3, hz3⟩ := whole_store (.int .i64 (5)) (.slice A3 n3 c3) D1; have q3 := below_grow q gr3 q.size (by have := q0.size; omega); replace M3 := M3.grown D1 gr3; clear L3 T3
  have l3 := D1.lt
  replace R2 := grown_blk R2 gr3 (blk_ne R2 D1 (by decide))
  go_wp2_with fail
  replace q := q3
  replace M3 := M3.al (.cells #[.int .i64 (0), .string emp, .int .i64 (0), .slice Y3 m3 d3] 49); replace O3 := O3.al (.cells #[.int .i64 (0), .string emp, .int .i64 (0), .slice Y3 m3 d3] 49); replace R2 := R2.al (.cells #[.int .i64 (0), .string emp, .int .i64 (0), .slice Y3 m3 d3] 49)
  clear D1 cD1 fD1 l3 gr3 hz3 q3
  (try clear cO3 fO3); have cO3 := O3.cell; have fO3 := O3.frozen
  go_wp2_with fail
  refine (K4.out _ _ _ _ M3).mono ?_; rintro e w4_ ⟨A4, n4, c4, Y4, m4, d4, rfl, M4, L4, T4, hb4⟩; replace O3 := O3.bl hb4; replace R2 := R2.bl hb4; replace q : Below w.heap.size w w4_ := (by repeat (first | (with_reducible exact Below.refl _ _) | (with_reducible assumption) | (with_reducible refine Below.drew ?_) | (with_reducible refine bdrewN ?_ _) | (with_reducible refine balloc ?_ _) | ((with_reducible refine bset ?_ ?_ _); rotate_left; (focus first | exact Nat.le_refl _ | (simp; done) | (simp; omega) | omega)) | (with_reducible refine bstep ?_ (by with_reducible assumption)) | (with_reducible refine Below.trans ?_ (by with_reducible assumption)))); clear hb4
  (try clear cO3 fO3); have cO3 := O3.cell; have fO3 := O3.frozen
  obtain ⟨O4, gr4, hz4⟩ := whole_store (.int .i64 (5)) (.slice A4 n4 c4) O3; have q4 := below_grow q gr4 q.size (by have := q0.size; omega); replace M4 := M4.grown O3 gr4; clear L4 T4
  have l4 := O3.lt
  replace R2 := grown_blk R2 gr4 (blk_ne R2 O3 (by decide))
  go_wp2_with fail
  replace q := q4
  replace M4 := M4.al (.cells #[.int .i64 (0), .string emp, .int .i64 (0), .slice Y4 m4 d4] 49); replace O4 := O4.al (.cells #[.int .i64 (0), .string emp, .int .i64 (0), .slice Y4 m4 d4] 49); replace R2 := R2.al (.cells #[.int .i64 (0), .string emp, .int .i64 (0), .slice Y4 m4 d4] 49)
  clear O3 cO3 fO3 l4 gr4 hz4 q4
  (try clear cO4 fO4); have cO4 := O4.cell; have fO4 := O4.frozen
  go_wp2_with fail
  refine (K5.out _ _ _ _ M4).mono ?_; rintro e w5_ ⟨A5, n5, c5, Y5, m5, d5, rfl, M5, L5, T5, hb5⟩; replace M4 := M4.bl hb5; replace O4 := O4.bl hb5; replace R2 := R2.bl hb5; replace q : Below w.heap.size w w5_ := (by repeat (first | (with_reducible exact Below.refl _ _) | (with_reducible assumption) | (with_reducible refine Below.drew ?_) | (with_reducible refine bdrewN ?_ _) | (with_reducible refine balloc ?_ _) | ((with_reducible refine bset ?_ ?_ _); rotate_left; (focus first | exact Nat.le_refl _ | (simp; done) | (simp; omega) | omega)) | (with_reducible refine bstep ?_ (by with_reducible assumption)) | (with_reducible refine Below.trans ?_ (by with_reducible assumption)))); clear hb5
  have D5 := Blk.new w5_ 25 #[.int .i64 (5), .slice A5 n5 c5]; replace M5 := M5.al (.cells #[.int .i64 (5), .slice A5 n5 c5] 25); replace L5 := L5.al (.cells #[.int .i64 (5), .slice A5 n5 c5] 25); replace M4 := M4.al (.cells #[.int .i64 (5), .slice A5 n5 c5] 25); replace O4 := O4.al (.cells #[.int .i64 (5), .slice A5 n5 c5] 25); replace R2 := R2.al (.cells #[.int .i64 (5), .slice A5 n5 c5] 25); have R5 : Blk ((w5_.alloc (.cells #[.int .i64 (5), .slice A5 n5 c5] 25)).alloc (.cells #[.int .i64 (0), .string emp, .int .i64 (1 + b), .slice Y5 m5 d5] 49)) (w5_.heap.size + 1) 49 #[.int .i64 (0), .string emp, .int .i64 (1 + b), .slice Y5 m5 d5] := Blk.new' _ _ _ (by simp); replace M5 := M5.al (.cells #[.int .i64 (0), .string emp, .int .i64 (1 + b), .slice Y5 m5 d5] 49); replace L5 := L5.al (.cells #[.int .i64 (0), .string emp, .int .i64 (1 + b), .slice Y5 m5 d5] 49); replace D5 := D5.al (.cells #[.int .i64 (0), .string emp, .int .i64 (1 + b), .slice Y5 m5 d5] 49); replace M4 := M4.al (.cells #[.int .i64 (0), .string emp, .int .i64 (1 + b), .slice Y5 m5 d5] 49); replace O4 := O4.al (.cells #[.int .i64 (0), .string emp, .int .i64 (1 + b), .slice Y5 m5 d5] 49); replace R2 := R2.al (.cells #[.int .i64 (0), .string emp, .int .i64 (1 + b), .slice Y5 m5 d5] 49)
  (try clear cO4 fO4); have cO4 := O4.cell; have fO4 := O4.frozen; (try clear cR2 fR2); have cR2 := R2.cell; have fR2 := R2.frozen; (try clear cR5 fR5); have cR5 := R5.cell; have fR5 := R5.frozen
  clear M5 L5 T5 D5
  go_wp2_with fail
  refine (K6.out _ _ _ _ M4).mono ?_; rintro e w6_ ⟨A6, n6, c6, Y6, m6, d6, rfl, M6, L6, T6, hb6⟩; replace M4 := M4.bl hb6; replace O4 := O4.bl hb6; replace R2 := R2.bl hb6; replace R5 := R5.bl hb6; replace q : Below w.heap.size w w6_ := (by repeat (first | (with_reducible exact Below.refl _ _) | (with_reducible assumption) | (with_reducible refine Below.drew ?_) | (with_reducible refine bdrewN ?_ _) | (with_reducible refine balloc ?_ _) | ((with_reducible refine bset ?_ ?_ _); rotate_left; (focus first | exact Nat.le_refl _ | (simp; done) | (simp; omega) | omega)) | (with_reducible refine bstep ?_ (by with_reducible assumption)) | (with_reducible refine Below.trans ?_ (by with_reducible assumption)))); clear hb6
  have e6 := hide M6.sl.len
  have D6 := Blk.new w6_ 25 #[.int .i64 (4 + (1 + b)), .slice A6 n6 c6]; replace M6 := M6.al (.cells #[.int .i64 (4 + (1 + b)), .slice A6 n6 c6] 25); replace L6 := L6.al (.cells #[.int .i64 (4 + (1 + b)), .slice A6 n6 c6] 25); replace M4 := M4.al (.cells #[.int .i64 (4 + (1 + b)), .slice A6 n6 c6] 25); replace O4 := O4.al (.cells #[.int .i64 (4 + (1 + b)), .slice A6 n6 c6] 25); replace R2 := R2.al (.cells #[.int .i64 (4 + (1 + b)), .slice A6 n6 c6] 25); replace R5 := R5.al (.cells #[.int .i64 (4 + (1 + b)), .slice A6 n6 c6] 25); have R6 : Blk ((w6_.alloc (.cells #[.int .i64 (4 + (1 + b)), .slice A6 n6 c6] 25)).alloc (.cells #[.int .i64 (0), .string emp, .int .i64 (0), .slice Y6 m6 d6] 49)) (w6_.heap.size + 1) 49 #[.int .i64 (0), .string emp, .int .i64 (0), .slice Y6 m6 d6] := Blk.new' _ _ _ (by simp); replace M6 := M6.al (.cells #[.int .i64 (0), .string emp, .int .i64 (0), .slice Y6 m6 d6] 49); replace L6 := L6.al (.cells #[.int .i64 (0), .string emp, .int .i64 (0), .slice Y6 m6 d6] 49); replace D6 := D6.al (.cells #[.int .i64 (0), .string emp, .int .i64 (0), .slice Y6 m6 d6] 49); replace M4 := M4.al (.cells #[.int .i64 (0), .string emp, .int .i64 (0), .slice Y6 m6 d6] 49); replace O4 := O4.al (.cells #[.int .i64 (0), .string emp, .int .i64 (0), .slice Y6 m6 d6] 49); replace R2 := R2.al (.cells #[.int .i64 (0), .string emp, .int .i64 (0), .slice Y6 m6 d6] 49); replace R5 := R5.al (.cells #[.int .i64 (0), .string emp, .int .i64 (0), .slice Y6 m6 d6] 49)
  (try clear cO4 fO4); have cO4 := O4.cell; have fO4 := O4.frozen; (try clear cR2 fR2); have cR2 := R2.cell; have fR2 := R2.frozen; (try clear cR5 fR5); have cR5 := R5.cell; have fR5 := R5.frozen; (try clear cD6 fD6); have cD6 := D6.cell; have fD6 := D6.frozen
  clear M6 L6 T6 R6
  go_wp2_with fail
  refine (K7.out _ _ _ _ M4).mono ?_; rintro e w7_ ⟨A7, n7, c7, Y7, m7, d7, rfl, M7, L7, T7, hb7⟩; replace O4 := O4.bl hb7; replace R2 := R2.bl hb7; replace R5 := R5.bl hb7; replace D6 := D6.bl hb7; replace q : Below w.heap.size w w7_ := (by repeat (first | (with_reducible exact Below.refl _ _) | (with_reducible assumption) | (with_reducible refine Below.drew ?_) | (with_reducible refine bdrewN ?_ _) | (with_reducible refine balloc ?_ _) | ((with_reducible refine bset ?_ ?_ _); rotate_left; (focus first | exact Nat.le_refl _ | (simp; done) | (simp; omega) | omega)) | (with_reducible refine bstep ?_ (by with_reducible assumption)) | (with_reducible refine Below.trans ?_ (by with_reducible assumption)))); clear hb7
  have e7 := hide M7.sl.len
  have D7 := Blk.new w7_ 25 #[.int .i64 (5 + (1 + b)), .slice A7 n7 c7]; replace M7 := M7.al (.cells #[.int .i64 (5 + (1 + b)), .slice A7 n7 c7] 25); replace L7 := L7.al (.cells #[.int .i64 (5 + (1 + b)), .slice A7 n7 c7] 25); replace O4 := O4.al (.cells #[.int .i64 (5 + (1 + b)), .slice A7 n7 c7] 25); replace R2 := R2.al (.cells #[.int .i64 (5 + (1 + b)), .slice A7 n7 c7] 25); replace R5 := R5.al (.cells #[.int .i64 (5 + (1 + b)), .slice A7 n7 c7] 25); replace D6 := D6.al (.cells #[.int .i64 (5 + (1 + b)), .slice A7 n7 c7] 25); have R7 : Blk ((w7_.alloc (.cells #[.int .i64 (5 + (1 + b)), .slice A7 n7 c7] 25)).alloc (.cells #[.int .i64 (0), .string emp, .int .i64 (0), .slice Y7 m7 d7] 49)) (w7_.heap.size + 1) 49 #[.int .i64 (0), .string emp, .int .i64 (0), .slice Y7 m7 d7] := Blk.new' _ _ _ (by simp); replace M7 := M7.al (.cells #[.int .i64 (0), .string emp, .int .i64 (0), .slice Y7 m7 d7] 49); replace L7 := L7.al (.cells #[.int .i64 (0), .string emp, .int .i64 (0), .slice Y7 m7 d7] 49); replace D7 := D7.al (.cells #[.int .i64 (0), .string emp, .int .i64 (0), .slice Y7 m7 d7] 49); replace O4 := O4.al (.cells #[.int .i64 (0), .string emp, .int .i64 (0), .slice Y7 m7 d7] 49); replace R2 := R2.al (.cells #[.int .i64 (0), .string emp, .int .i64 (0), .slice Y7 m7 d7] 49); replace R5 := R5.al (.cells #[.int .i64 (0), .string emp, .int .i64 (0), .slice Y7 m7 d7] 49); replace D6 := D6.al (.cells #[.int .i64 (0), .string emp, .int .i64 (0), .slice Y7 m7 d7] 49)
  (try clear cO4 fO4); have cO4 := O4.cell; have fO4 := O4.frozen; (try clear cR2 fR2); have cR2 := R2.cell; have fR2 := R2.frozen; (try clear cR5 fR5); have cR5 := R5.cell; have fR5 := R5.frozen; (try clear cD6 fD6); have cD6 := D6.cell; have fD6 := D6.frozen; (try clear cD7 fD7); have cD7 := D7.cell; have fD7 := D7.frozen
  clear M7 L7 T7 R7
  obtain rfl : n6 = 1 := e6.out.symm
  obtain rfl : n7 = 0 := e7.out.symm
  clear e6 e7
  go_wp2_with fail
  go_ret
  exact ⟨rfl, (by repeat (first | (with_reducible exact Below.refl _ _) | (with_reducible assumption) | (with_reducible refine Below.drew ?_) | (with_reducible refine bdrewN ?_ _) | (with_reducible refine balloc ?_ _) | ((with_reducible refine bset ?_ ?_ _); rotate_left; (focus first | exact Nat.le_refl _ | (simp; done) | (simp; omega) | omega)) | (with_reducible refine bstep ?_ (by with_reducible assumption)) | (with_reducible refine Below.trans ?_ (by with_reducible assumption))))⟩
set_option maxRecDepth 100000 in
theorem expireAgain_lifted (os : Os) (started : os.Started) (H : Type) (enc : TypeId × Value → H) :
  ReturnsInHanded {} Try.checked os 15 .any (Rows.expireAgainSpec.pre6 enc Try.prog Try.f15 Rows.expireAgainRow.domain false) (Rows.expireAgainSpec.post enc Try.prog Try.f15 false true false false) := by
  refine returnsInHanded_of_change (C := Try.checked) Try.own started (by kernel_rfl) Try.func15 (ChangeSpec.witness6 (enc := enc) (C := Try.checked) false ⟨#[], #[.int .i64 0, .int .i64 0], []⟩ 8 (by kernel_rfl) (by kernel_rfl) (by kernel_rfl) (by kernel_rfl)) ?_
  intro W base args ds gs before hval0 hW hcnd _
  have hval : ∀ (j : Nat) t v, Try.f15.params[j]? = some t → args[j]? = some v → Value.okWide Try.prog W .any base t v := hval0
  have hW' := hW
  obtain ⟨p, q, hA0, hV, rfl, hfz, hnd⟩ := hW
  have hA : DataW.TrodAll enc Try.prog W 0 (fun _ => true) true Try.f15.params.toList args.toList ds p := hA0
  rw [Try.params15] at hA hval
  obtain ⟨rfl, rfl⟩ := trodVars_none hV
  clear hA0 hval0 hcnd hV hfz hnd
  obtain ⟨v0, v1, d0, d1, p0, p1, rfl, rfl, rfl, h0, h1⟩ := trodAll_two hA
  obtain ⟨k, rfl, rfl, rfl, w1⟩ := open_int Try.underlying3 (hval 0 3 v0 rfl rfl) h0
  obtain ⟨m, rfl, rfl, rfl, w2⟩ := open_int Try.underlying3 (hval 1 3 v1 rfl rfl) h1
  refine (expireAgain_walk k m W (i64_bounds w1) (i64_bounds w2)).mono fun e W' ⟨he, hb⟩ => ?_
  subst he
  exact ⟨_, rfl, post_law Try.laidOut hW' rfl (by kernel_rfl) rfl Try.underlying4 (fun _ => rfl) (fun _ => rfl) (fun _ => rfl) hb⟩
theorem expireAgain_holds : Rows.ExpireAgainSaid := OpenClaim.holds_of_wide 15 Try.f15 rfl rfl rfl rfl rfl rfl rfl ⟨rfl, rfl, rfl, rfl, rfl⟩ rfl rfl rfl rfl rfl (by kernel_rfl) Try.func15 (by kernel_rfl)
  (of_decide_eq_true (by kernel_rfl)) (by unfold Func.isWrapper; first | (rw [if_pos (by decide +kernel)]; kernel_rfl) | (rw [if_neg (by decide +kernel)]; exact ⟨rfl, rfl⟩))
  (fun os started H enc _ => expireAgain_lifted os started H enc)
#print axioms expireAgain_holds
end Go.Proofs.Ytpdadlofgfdlpaa
