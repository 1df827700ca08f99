/- rostrumkeep.DelOnce returns true for every input; no condition. -/
import Derived.Test.YtpdadlofgfdlpaaStoX
import Derived.Test.YtpdadlofgfdlpaaStoS
namespace Go.Proofs.Ytpdadlofgfdlpaa
set_option linter.all false
open Go.ChangeShapes Go.WideShapes Go.ChangeAt Go.RowKit
theorem cc_del {key : ByteArray} (h : key.size = 1) : ccOf ⟨19, key, { data := #[] }, { data := #[] }, 0⟩ = 0 :=
  cc_at (cc_lit (by omega) (by omega) (by rw [if_neg (by decide)]; rfl) (by rw [if_neg (by decide)]; rfl) (by rw [if_neg (by decide)])) (by omega) (by omega) (by omega)
theorem cc_all {key : ByteArray} (h : key.size = 1) : ccOf ⟨18, key, { data := #[] }, { data := #[] }, 0⟩ = 0 :=
  cc_at (cc_lit (by omega) (by omega) (by rw [if_neg (by decide)]; rfl) (by rw [if_neg (by decide)]; rfl) (by rw [if_neg (by decide)])) (by omega) (by omega) (by omega)
theorem do_del {now : Int} {l : List En} {c : Cmd} (hk : c.kind = 19) (h : keyHas c.key l = true) : doS now l c = (delRows l (keyAt c.key l), toldR 1) := by
  unfold doS
  rw [if_neg (by omega), if_pos hk, if_pos h]
theorem do_del_no {now : Int} {l : List En} {c : Cmd} (hk : c.kind = 19) (h : keyHas c.key l = false) : doS now l c = (l, toldR 0) := by
  unfold doS
  rw [if_neg (by omega), if_pos hk, if_neg (by rw [h]; simp)]
theorem do_none {now : Int} {l : List En} {c : Cmd} (hk : c.kind ≤ 18) (hc : ccOf c = 0) (hm : makesC c.kind = false) (h : keyHas c.key l = false) : doS now l c = (l, failR 5) := by
  unfold doS
  rw [if_neg (by omega), if_neg (by omega), if_neg (by omega), h]
  have ho : oldOf l (keyAt c.key l) false = zeroVa := rfl
  rw [ho, done_none hc hk hm]
  rfl
set_option maxRecDepth 100000 in
set_option maxHeartbeats 8000000 in
theorem delOnce_true (A : Option Addr) (n c : Nat) (l : List StepD) (key : Int) (w : World) (hS : Sl w 6 A n c (stepRows l)) (hd : ∀ d ∈ l, d.ok) (hk : I64 key) (hh : keyHas (some_ key) (storeOf l).2 = true) :
    Calls Try.prog 10 #[.slice A n c, .int .i64 key] w fun e w' => e = .returned (.bool true) ∧ Below w.heap.size w w' := by
  have hF := Store_any A n c l w hS hd
  have hT := fun w => some_any key w hk.1 hk.2
  have hks := some_size key
  have hok := storeOf_ok l
  generalize storeOf l = s at *
  obtain ⟨now, es⟩ := s
  obtain ⟨ok, hn⟩ := hok
  simp only at ok hn hh
  generalize some_ key = k at *
  have h0 := ok.now0
  obtain ⟨es1, h1, ok1, hh1⟩ : ∃ es1, applyS now es now ⟨19, k, { data := #[] }, { data := #[] }, 0⟩ = ((now, es1), ⟨0, emp, 1, []⟩, 0) ∧ StOk now es1 ∧ keyHas k es1 = false := by
    have e := apply_ok ok (Int.le_refl _) (by omega) (cc_del hks)
    rw [alive_self ok] at e
    rw [do_del rfl hh] at e
    exact ⟨_, e, ok.del _, del_has ok.rise hh⟩
  have h2 : applyS now es1 now ⟨19, k, { data := #[] }, { data := #[] }, 0⟩ = ((now, es1), ⟨0, emp, 0, []⟩, 0) := by
    rw [apply_ok ok1 (Int.le_refl _) (by omega) (cc_del hks), alive_self ok1, do_del_no rfl hh1]; rfl
  have h3 : applyS now es1 now ⟨18, k, { data := #[] }, { data := #[] }, 0⟩ = ((now, es1), ⟨5, emp, 0, []⟩, 0) := by
    rw [apply_ok ok1 (Int.le_refl _) (by omega) (cc_all hks), alive_self ok1, do_none (by simp) (cc_all hks) rfl hh1]; rfl
  have K1 := hide (Apply_may ok _ _ _ h1 (by omega) (by omega))
  have K2 := hide (Apply_may ok1 _ _ _ h2 (by omega) (by omega))
  have K3 := hide (Apply_may ok1 _ _ _ h3 (by omega) (by omega))
  have KE := hide (fun A n c w (h : St w A n c es) => entry_has now A n c es k w h (by have := ok.few; omega) ok.rise)
  rw [hh] at KE
  have KS := hide (fun A B n m c d w (ha : St w A n c es1) (hb : St w B m d es1) => sameStore_eq now A B n m c d es1 w ha hb (by have := ok1.few; omega))
  have KF := hide hF; have KT := hide hT
  clear hF hT h1 h2 h3 ok ok1 hh hh1 hd hS hk hn h0 hks
  go_enter Try.func10, Try.ntmps10
  go_wp2_with fail
  refine KF.out.mono ?_
  rintro e w1 ⟨A1, n1, c1, rfl, M1, q⟩
  have q0 := q
  have D1 := Blk.new w1 25 #[.int .i64 (now), .slice A1 n1 c1]
  replace M1 := M1.al (.cells #[.int .i64 (now), .slice A1 n1 c1] 25)
  go_wp2_with fail
  refine (KT.out _).mono ?_
  rintro e w2 ⟨rfl, hb2⟩
  replace M1 := M1.bl hb2; replace D1 := D1.bl hb2
  replace q : Below w.heap.size w w2 := (by repeat (first | (with_reducible exact Below.refl _ _) | (with_reducible assumption) | (with_reducible refine Below.drew ?_) | (with_reducible refine bdrewN ?_ _) | (with_reducible refine balloc ?_ _) | ((with_reducible refine bset ?_ ?_ _); rotate_left; (focus first | exact Nat.le_refl _ | (simp; done) | (simp; omega) | omega)) | (with_reducible refine bstep ?_ (by with_reducible assumption)) | (with_reducible refine Below.trans ?_ (by with_reducible assumption))))
  clear hb2
  (try clear cD1 fD1); have cD1 := D1.cell; have fD1 := D1.frozen
  go_wp2_with fail
  refine (KE.out _ _ _ _ M1).mono ?_
  rintro e w3 ⟨s0, s2, i1, i3, i7, B1, B2, B3, b1, d1, b2, d2, b3, d3, rfl, hb3⟩
  replace M1 := M1.bl hb3; replace D1 := D1.bl hb3
  replace q : Below w.heap.size w w3 := (by repeat (first | (with_reducible exact Below.refl _ _) | (with_reducible assumption) | (with_reducible refine Below.drew ?_) | (with_reducible refine bdrewN ?_ _) | (with_reducible refine balloc ?_ _) | ((with_reducible refine bset ?_ ?_ _); rotate_left; (focus first | exact Nat.le_refl _ | (simp; done) | (simp; omega) | omega)) | (with_reducible refine bstep ?_ (by with_reducible assumption)) | (with_reducible refine Below.trans ?_ (by with_reducible assumption))))
  clear hb3
  replace M1 := M1.al (.cells #[.string s0, .int .i64 i1, .string s2, .int .i64 i3, .slice B1 b1 d1, .slice B2 b2 d2, .slice B3 b3 d3, .int .i64 i7] 65); replace D1 := D1.al (.cells #[.string s0, .int .i64 i1, .string s2, .int .i64 i3, .slice B1 b1 d1, .slice B2 b2 d2, .slice B3 b3 d3, .int .i64 i7] 65)
  (try clear cD1 fD1); have cD1 := D1.cell; have fD1 := D1.frozen
  go_wp2_with fail
  refine (K1.out _ _ _ _ M1).mono ?_; rintro e w4 ⟨A2, n2, c2, Y2, m2, d2, rfl, M2, L2, T2, hb2⟩; replace D1 := D1.bl hb2; replace q : Below w.heap.size w w4 := (by repeat (first | (with_reducible exact Below.refl _ _) | (with_reducible assumption) | (with_reducible refine Below.drew ?_) | (with_reducible refine bdrewN ?_ _) | (with_reducible refine balloc ?_ _) | ((with_reducible refine bset ?_ ?_ _); rotate_left; (focus first | exact Nat.le_refl _ | (simp; done) | (simp; omega) | omega)) | (with_reducible refine bstep ?_ (by with_reducible assumption)) | (with_reducible refine Below.trans ?_ (by with_reducible assumption)))); clear hb2
  have D2 := Blk.new w4 25 #[.int .i64 (now), .slice A2 n2 c2]; replace M2 := M2.al (.cells #[.int .i64 (now), .slice A2 n2 c2] 25); replace L2 := L2.al (.cells #[.int .i64 (now), .slice A2 n2 c2] 25); replace D1 := D1.al (.cells #[.int .i64 (now), .slice A2 n2 c2] 25); have R2 : Blk ((w4.alloc (.cells #[.int .i64 (now), .slice A2 n2 c2] 25)).alloc (.cells #[.int .i64 (0), .string emp, .int .i64 (1), .slice Y2 m2 d2] 49)) (w4.heap.size + 1) 49 #[.int .i64 (0), .string emp, .int .i64 (1), .slice Y2 m2 d2] := Blk.new' _ _ _ (by simp); replace M2 := M2.al (.cells #[.int .i64 (0), .string emp, .int .i64 (1), .slice Y2 m2 d2] 49); replace L2 := L2.al (.cells #[.int .i64 (0), .string emp, .int .i64 (1), .slice Y2 m2 d2] 49); replace D2 := D2.al (.cells #[.int .i64 (0), .string emp, .int .i64 (1), .slice Y2 m2 d2] 49); replace D1 := D1.al (.cells #[.int .i64 (0), .string emp, .int .i64 (1), .slice Y2 m2 d2] 49)
  clear L2 T2
  (try clear cD1 fD1); have cD1 := D1.cell; have fD1 := D1.frozen; (try clear cD2 fD2); have cD2 := D2.cell; have fD2 := D2.frozen
  go_wp2_with fail
  refine (K2.out _ _ _ _ M2).mono ?_; rintro e w5 ⟨A3, n3, c3, Y3, m3, d3, rfl, M3, L3, T3, hb3⟩; replace M2 := M2.bl hb3; replace D1 := D1.bl hb3; replace D2 := D2.bl hb3; replace R2 := R2.bl hb3; replace q : Below w.heap.size w w5 := (by repeat (first | (with_reducible exact Below.refl _ _) | (with_reducible assumption) | (with_reducible refine Below.drew ?_) | (with_reducible refine bdrewN ?_ _) | (with_reducible refine balloc ?_ _) | ((with_reducible refine bset ?_ ?_ _); rotate_left; (focus first | exact Nat.le_refl _ | (simp; done) | (simp; omega) | omega)) | (with_reducible refine bstep ?_ (by with_reducible assumption)) | (with_reducible refine Below.trans ?_ (by with_reducible assumption)))); clear hb3
  have D3 := Blk.new w5 25 #[.int .i64 (now), .slice A3 n3 c3]; replace M3 := M3.al (.cells #[.int .i64 (now), .slice A3 n3 c3] 25); replace L3 := L3.al (.cells #[.int .i64 (now), .slice A3 n3 c3] 25); replace M2 := M2.al (.cells #[.int .i64 (now), .slice A3 n3 c3] 25); replace D1 := D1.al (.cells #[.int .i64 (now), .slice A3 n3 c3] 25); replace D2 := D2.al (.cells #[.int .i64 (now), .slice A3 n3 c3] 25); replace R2 := R2.al (.cells #[.int .i64 (now), .slice A3 n3 c3] 25); have R3 : Blk ((w5.alloc (.cells #[.int .i64 (now), .slice A3 n3 c3] 25)).alloc (.cells #[.int .i64 (0), .string emp, .int .i64 (0), .slice Y3 m3 d3] 49)) (w5.heap.size + 1) 49 #[.int .i64 (0), .string emp, .int .i64 (0), .slice Y3 m3 d3] := Blk.new' _ _ _ (by simp); replace M3 := M3.al (.cells #[.int .i64 (0), .string emp, .int .i64 (0), .slice Y3 m3 d3] 49); replace L3 := L3.al (.cells #[.int .i64 (0), .string emp, .int .i64 (0), .slice Y3 m3 d3] 49); replace D3 := D3.al (.cells #[.int .i64 (0), .string emp, .int .i64 (0), .slice Y3 m3 d3] 49); replace M2 := M2.al (.cells #[.int .i64 (0), .string emp, .int .i64 (0), .slice Y3 m3 d3] 49); replace D1 := D1.al (.cells #[.int .i64 (0), .string emp, .int .i64 (0), .slice Y3 m3 d3] 49); replace D2 := D2.al (.cells #[.int .i64 (0), .string emp, .int .i64 (0), .slice Y3 m3 d3] 49); replace R2 := R2.al (.cells #[.int .i64 (0), .string emp, .int .i64 (0), .slice Y3 m3 d3] 49)
  clear L3 T3
  (try clear cD1 fD1); have cD1 := D1.cell; have fD1 := D1.frozen; (try clear cD2 fD2); have cD2 := D2.cell; have fD2 := D2.frozen
  go_wp2_with fail
  refine (K3.out _ _ _ _ M2).mono ?_; rintro e w6 ⟨A4, n4, c4, Y4, m4, d4, rfl, M4, L4, T4, hb4⟩; replace M2 := M2.bl hb4; replace M3 := M3.bl hb4; replace D2 := D2.bl hb4; replace R2 := R2.bl hb4; replace D3 := D3.bl hb4; replace R3 := R3.bl hb4; replace q : Below w.heap.size w w6 := (by repeat (first | (with_reducible exact Below.refl _ _) | (with_reducible assumption) | (with_reducible refine Below.drew ?_) | (with_reducible refine bdrewN ?_ _) | (with_reducible refine balloc ?_ _) | ((with_reducible refine bset ?_ ?_ _); rotate_left; (focus first | exact Nat.le_refl _ | (simp; done) | (simp; omega) | omega)) | (with_reducible refine bstep ?_ (by with_reducible assumption)) | (with_reducible refine Below.trans ?_ (by with_reducible assumption)))); clear hb4
  clear D1 cD1 fD1
  have D4 := Blk.new w6 25 #[.int .i64 (now), .slice A4 n4 c4]; replace M4 := M4.al (.cells #[.int .i64 (now), .slice A4 n4 c4] 25); replace L4 := L4.al (.cells #[.int .i64 (now), .slice A4 n4 c4] 25); replace M2 := M2.al (.cells #[.int .i64 (now), .slice A4 n4 c4] 25); replace M3 := M3.al (.cells #[.int .i64 (now), .slice A4 n4 c4] 25); replace D2 := D2.al (.cells #[.int .i64 (now), .slice A4 n4 c4] 25); replace R2 := R2.al (.cells #[.int .i64 (now), .slice A4 n4 c4] 25); replace D3 := D3.al (.cells #[.int .i64 (now), .slice A4 n4 c4] 25); replace R3 := R3.al (.cells #[.int .i64 (now), .slice A4 n4 c4] 25); have R4 : Blk ((w6.alloc (.cells #[.int .i64 (now), .slice A4 n4 c4] 25)).alloc (.cells #[.int .i64 (5), .string emp, .int .i64 (0), .slice Y4 m4 d4] 49)) (w6.heap.size + 1) 49 #[.int .i64 (5), .string emp, .int .i64 (0), .slice Y4 m4 d4] := Blk.new' _ _ _ (by simp); replace M4 := M4.al (.cells #[.int .i64 (5), .string emp, .int .i64 (0), .slice Y4 m4 d4] 49); replace L4 := L4.al (.cells #[.int .i64 (5), .string emp, .int .i64 (0), .slice Y4 m4 d4] 49); replace D4 := D4.al (.cells #[.int .i64 (5), .string emp, .int .i64 (0), .slice Y4 m4 d4] 49); replace M2 := M2.al (.cells #[.int .i64 (5), .string emp, .int .i64 (0), .slice Y4 m4 d4] 49); replace M3 := M3.al (.cells #[.int .i64 (5), .string emp, .int .i64 (0), .slice Y4 m4 d4] 49); replace D2 := D2.al (.cells #[.int .i64 (5), .string emp, .int .i64 (0), .slice Y4 m4 d4] 49); replace R2 := R2.al (.cells #[.int .i64 (5), .string emp, .int .i64 (0), .slice Y4 m4 d4] 49); replace D3 := D3.al (.cells #[.int .i64 (5), .string emp, .int .i64 (0), .slice Y4 m4 d4] 49); replace R3 := R3.al (.cells #[.int .i64 (5), .string emp, .int .i64 (0), .slice Y4 m4 d4] 49)
  clear L4 T4 D4 M4
  (try clear cD2 fD2); have cD2 := D2.cell; have fD2 := D2.frozen; (try clear cD3 fD3); have cD3 := D3.cell; have fD3 := D3.frozen; (try clear cR2 fR2); have cR2 := R2.cell; have fR2 := R2.frozen; (try clear cR3 fR3); have cR3 := R3.cell; have fR3 := R3.frozen; (try clear cR4 fR4); have cR4 := R4.cell; have fR4 := R4.frozen
  go_wp2_with fail
  refine (KS.out _ _ _ _ _ _ _ M2 M3).mono ?_
  rintro e w7 ⟨rfl, hb7⟩
  go_wp2_with fail
  go_ret
  exact ⟨rfl, (by repeat (first | (with_reducible exact Below.refl _ _) | (with_reducible assumption) | (with_reducible refine Below.drew ?_) | (with_reducible refine bdrewN ?_ _) | (with_reducible refine balloc ?_ _) | ((with_reducible refine bset ?_ ?_ _); rotate_left; (focus first | exact Nat.le_refl _ | (simp; done) | (simp; omega) | omega)) | (with_reducible refine bstep ?_ (by with_reducible assumption)) | (with_reducible refine Below.trans ?_ (by with_reducible assumption))))⟩
set_option maxRecDepth 100000 in
set_option maxHeartbeats 8000000 in
theorem delOnce_false (A : Option Addr) (n c : Nat) (l : List StepD) (key : Int) (w : World) (hS : Sl w 6 A n c (stepRows l)) (hd : ∀ d ∈ l, d.ok) (hk : I64 key) (hh : keyHas (some_ key) (storeOf l).2 = false) :
    Calls Try.prog 10 #[.slice A n c, .int .i64 key] w fun e w' => e = .returned (.bool true) ∧ Below w.heap.size w w' := by
  have hF := Store_any A n c l w hS hd
  have hT := fun w => some_any key w hk.1 hk.2
  have hks := some_size key
  have hok := storeOf_ok l
  generalize storeOf l = s at *
  obtain ⟨now, es⟩ := s
  obtain ⟨ok, hn⟩ := hok
  simp only at ok hn hh
  generalize some_ key = k at *
  have h0 := ok.now0
  obtain ⟨es1, h1, ok1, hh1⟩ : ∃ es1, applyS now es now ⟨19, k, { data := #[] }, { data := #[] }, 0⟩ = ((now, es1), ⟨0, emp, 0, []⟩, 0) ∧ StOk now es1 ∧ keyHas k es1 = false := by
    have e := apply_ok ok (Int.le_refl _) (by omega) (cc_del hks)
    rw [alive_self ok] at e
    rw [do_del_no rfl hh] at e
    exact ⟨_, e, ok, hh⟩
  have h2 : applyS now es1 now ⟨19, k, { data := #[] }, { data := #[] }, 0⟩ = ((now, es1), ⟨0, emp, 0, []⟩, 0) := by
    rw [apply_ok ok1 (Int.le_refl _) (by omega) (cc_del hks), alive_self ok1, do_del_no rfl hh1]; rfl
  have h3 : applyS now es1 now ⟨18, k, { data := #[] }, { data := #[] }, 0⟩ = ((now, es1), ⟨5, emp, 0, []⟩, 0) := by
    rw [apply_ok ok1 (Int.le_refl _) (by omega) (cc_all hks), alive_self ok1, do_none (by simp) (cc_all hks) rfl hh1]; rfl
  have K1 := hide (Apply_may ok _ _ _ h1 (by omega) (by omega))
  have K2 := hide (Apply_may ok1 _ _ _ h2 (by omega) (by omega))
  have K3 := hide (Apply_may ok1 _ _ _ h3 (by omega) (by omega))
  have KE := hide (fun A n c w (h : St w A n c es) => entry_has now A n c es k w h (by have := ok.few; omega) ok.rise)
  rw [hh] at KE
  have KS := hide (fun A B n m c d w (ha : St w A n c es1) (hb : St w B m d es1) => sameStore_eq now A B n m c d es1 w ha hb (by have := ok1.few; omega))
  have KF := hide hF; have KT := hide hT
  clear hF hT h1 h2 h3 ok ok1 hh hh1 hd hS hk hn h0 hks
  go_enter Try.func10, Try.ntmps10
  go_wp2_with fail
  refine KF.out.mono ?_
  rintro e w1 ⟨A1, n1, c1, rfl, M1, q⟩
  have q0 := q
  have D1 := Blk.new w1 25 #[.int .i64 (now), .slice A1 n1 c1]
  replace M1 := M1.al (.cells #[.int .i64 (now), .slice A1 n1 c1] 25)
  go_wp2_with fail
  refine (KT.out _).mono ?_
  rintro e w2 ⟨rfl, hb2⟩
  replace M1 := M1.bl hb2; replace D1 := D1.bl hb2
  replace q : Below w.heap.size w w2 := (by repeat (first | (with_reducible exact Below.refl _ _) | (with_reducible assumption) | (with_reducible refine Below.drew ?_) | (with_reducible refine bdrewN ?_ _) | (with_reducible refine balloc ?_ _) | ((with_reducible refine bset ?_ ?_ _); rotate_left; (focus first | exact Nat.le_refl _ | (simp; done) | (simp; omega) | omega)) | (with_reducible refine bstep ?_ (by with_reducible assumption)) | (with_reducible refine Below.trans ?_ (by with_reducible assumption))))
  clear hb2
  (try clear cD1 fD1); have cD1 := D1.cell; have fD1 := D1.frozen
  go_wp2_with fail
  refine (KE.out _ _ _ _ M1).mono ?_
  rintro e w3 ⟨s0, s2, i1, i3, i7, B1, B2, B3, b1, d1, b2, d2, b3, d3, rfl, hb3⟩
  replace M1 := M1.bl hb3; replace D1 := D1.bl hb3
  replace q : Below w.heap.size w w3 := (by repeat (first | (with_reducible exact Below.refl _ _) | (with_reducible assumption) | (with_reducible refine Below.drew ?_) | (with_reducible refine bdrewN ?_ _) | (with_reducible refine balloc ?_ _) | ((with_reducible refine bset ?_ ?_ _); rotate_left; (focus first | exact Nat.le_refl _ | (simp; done) | (simp; omega) | omega)) | (with_reducible refine bstep ?_ (by with_reducible assumption)) | (with_reducible refine Below.trans ?_ (by with_reducible assumption))))
  clear hb3
  replace M1 := M1.al (.cells #[.string s0, .int .i64 i1, .string s2, .int .i64 i3, .slice B1 b1 d1, .slice B2 b2 d2, .slice B3 b3 d3, .int .i64 i7] 65); replace D1 := D1.al (.cells #[.string s0, .int .i64 i1, .string s2, .int .i64 i3, .slice B1 b1 d1, .slice B2 b2 d2, .slice B3 b3 d3, .int .i64 i7] 65)
  (try clear cD1 fD1); have cD1 := D1.cell; have fD1 := D1.frozen
  go_wp2_with fail
  refine (K1.out _ _ _ _ M1).mono ?_; rintro e w4 ⟨A2, n2, c2, Y2, m2, d2, rfl, M2, L2, T2, hb2⟩; replace D1 := D1.bl hb2; replace q : Below w.heap.size w w4 := (by repeat (first | (with_reducible exact Below.refl _ _) | (with_reducible assumption) | (with_reducible refine Below.drew ?_) | (with_reducible refine bdrewN ?_ _) | (with_reducible refine balloc ?_ _) | ((with_reducible refine bset ?_ ?_ _); rotate_left; (focus first | exact Nat.le_refl _ | (simp; done) | (simp; omega) | omega)) | (with_reducible refine bstep ?_ (by with_reducible assumption)) | (with_reducible refine Below.trans ?_ (by with_reducible assumption)))); clear hb2
  have D2 := Blk.new w4 25 #[.int .i64 (now), .slice A2 n2 c2]; replace M2 := M2.al (.cells #[.int .i64 (now), .slice A2 n2 c2] 25); replace L2 := L2.al (.cells #[.int .i64 (now), .slice A2 n2 c2] 25); replace D1 := D1.al (.cells #[.int .i64 (now), .slice A2 n2 c2] 25); have R2 : Blk ((w4.alloc (.cells #[.int .i64 (now), .slice A2 n2 c2] 25)).alloc (.cells #[.int .i64 (0), .string emp, .int .i64 (0), .slice Y2 m2 d2] 49)) (w4.heap.size + 1) 49 #[.int .i64 (0), .string emp, .int .i64 (0), .slice Y2 m2 d2] := Blk.new' _ _ _ (by simp); replace M2 := M2.al (.cells #[.int .i64 (0), .string emp, .int .i64 (0), .slice Y2 m2 d2] 49); replace L2 := L2.al (.cells #[.int .i64 (0), .string emp, .int .i64 (0), .slice Y2 m2 d2] 49); replace D2 := D2.al (.cells #[.int .i64 (0), .string emp, .int .i64 (0), .slice Y2 m2 d2] 49); replace D1 := D1.al (.cells #[.int .i64 (0), .string emp, .int .i64 (0), .slice Y2 m2 d2] 49)
  clear L2 T2
  (try clear cD1 fD1); have cD1 := D1.cell; have fD1 := D1.frozen; (try clear cD2 fD2); have cD2 := D2.cell; have fD2 := D2.frozen
  go_wp2_with fail
  refine (K2.out _ _ _ _ M2).mono ?_; rintro e w5 ⟨A3, n3, c3, Y3, m3, d3, rfl, M3, L3, T3, hb3⟩; replace M2 := M2.bl hb3; replace D1 := D1.bl hb3; replace D2 := D2.bl hb3; replace R2 := R2.bl hb3; replace q : Below w.heap.size w w5 := (by repeat (first | (with_reducible exact Below.refl _ _) | (with_reducible assumption) | (with_reducible refine Below.drew ?_) | (with_reducible refine bdrewN ?_ _) | (with_reducible refine balloc ?_ _) | ((with_reducible refine bset ?_ ?_ _); rotate_left; (focus first | exact Nat.le_refl _ | (simp; done) | (simp; omega) | omega)) | (with_reducible refine bstep ?_ (by with_reducible assumption)) | (with_reducible refine Below.trans ?_ (by with_reducible assumption)))); clear hb3
  have D3 := Blk.new w5 25 #[.int .i64 (now), .slice A3 n3 c3]; replace M3 := M3.al (.cells #[.int .i64 (now), .slice A3 n3 c3] 25); replace L3 := L3.al (.cells #[.int .i64 (now), .slice A3 n3 c3] 25); replace M2 := M2.al (.cells #[.int .i64 (now), .slice A3 n3 c3] 25); replace D1 := D1.al (.cells #[.int .i64 (now), .slice A3 n3 c3] 25); replace D2 := D2.al (.cells #[.int .i64 (now), .slice A3 n3 c3] 25); replace R2 := R2.al (.cells #[.int .i64 (now), .slice A3 n3 c3] 25); have R3 : Blk ((w5.alloc (.cells #[.int .i64 (now), .slice A3 n3 c3] 25)).alloc (.cells #[.int .i64 (0), .string emp, .int .i64 (0), .slice Y3 m3 d3] 49)) (w5.heap.size + 1) 49 #[.int .i64 (0), .string emp, .int .i64 (0), .slice Y3 m3 d3] := Blk.new' _ _ _ (by simp); replace M3 := M3.al (.cells #[.int .i64 (0), .string emp, .int .i64 (0), .slice Y3 m3 d3] 49); replace L3 := L3.al (.cells #[.int .i64 (0), .string emp, .int .i64 (0), .slice Y3 m3 d3] 49); replace D3 := D3.al (.cells #[.int .i64 (0), .string emp, .int .i64 (0), .slice Y3 m3 d3] 49); replace M2 := M2.al (.cells #[.int .i64 (0), .string emp, .int .i64 (0), .slice Y3 m3 d3] 49); replace D1 := D1.al (.cells #[.int .i64 (0), .string emp, .int .i64 (0), .slice Y3 m3 d3] 49); replace D2 := D2.al (.cells #[.int .i64 (0), .string emp, .int .i64 (0), .slice Y3 m3 d3] 49); replace R2 := R2.al (.cells #[.int .i64 (0), .string emp, .int .i64 (0), .slice Y3 m3 d3] 49)
  clear L3 T3
  (try clear cD1 fD1); have cD1 := D1.cell; have fD1 := D1.frozen; (try clear cD2 fD2); have cD2 := D2.cell; have fD2 := D2.frozen
  go_wp2_with fail
  refine (K3.out _ _ _ _ M2).mono ?_; rintro e w6 ⟨A4, n4, c4, Y4, m4, d4, rfl, M4, L4, T4, hb4⟩; replace M2 := M2.bl hb4; replace M3 := M3.bl hb4; replace D2 := D2.bl hb4; replace R2 := R2.bl hb4; replace D3 := D3.bl hb4; replace R3 := R3.bl hb4; replace q : Below w.heap.size w w6 := (by repeat (first | (with_reducible exact Below.refl _ _) | (with_reducible assumption) | (with_reducible refine Below.drew ?_) | (with_reducible refine bdrewN ?_ _) | (with_reducible refine balloc ?_ _) | ((with_reducible refine bset ?_ ?_ _); rotate_left; (focus first | exact Nat.le_refl _ | (simp; done) | (simp; omega) | omega)) | (with_reducible refine bstep ?_ (by with_reducible assumption)) | (with_reducible refine Below.trans ?_ (by with_reducible assumption)))); clear hb4
  clear D1 cD1 fD1
  have D4 := Blk.new w6 25 #[.int .i64 (now), .slice A4 n4 c4]; replace M4 := M4.al (.cells #[.int .i64 (now), .slice A4 n4 c4] 25); replace L4 := L4.al (.cells #[.int .i64 (now), .slice A4 n4 c4] 25); replace M2 := M2.al (.cells #[.int .i64 (now), .slice A4 n4 c4] 25); replace M3 := M3.al (.cells #[.int .i64 (now), .slice A4 n4 c4] 25); replace D2 := D2.al (.cells #[.int .i64 (now), .slice A4 n4 c4] 25); replace R2 := R2.al (.cells #[.int .i64 (now), .slice A4 n4 c4] 25); replace D3 := D3.al (.cells #[.int .i64 (now), .slice A4 n4 c4] 25); replace R3 := R3.al (.cells #[.int .i64 (now), .slice A4 n4 c4] 25); have R4 : Blk ((w6.alloc (.cells #[.int .i64 (now), .slice A4 n4 c4] 25)).alloc (.cells #[.int .i64 (5), .string emp, .int .i64 (0), .slice Y4 m4 d4] 49)) (w6.heap.size + 1) 49 #[.int .i64 (5), .string emp, .int .i64 (0), .slice Y4 m4 d4] := Blk.new' _ _ _ (by simp); replace M4 := M4.al (.cells #[.int .i64 (5), .string emp, .int .i64 (0), .slice Y4 m4 d4] 49); replace L4 := L4.al (.cells #[.int .i64 (5), .string emp, .int .i64 (0), .slice Y4 m4 d4] 49); replace D4 := D4.al (.cells #[.int .i64 (5), .string emp, .int .i64 (0), .slice Y4 m4 d4] 49); replace M2 := M2.al (.cells #[.int .i64 (5), .string emp, .int .i64 (0), .slice Y4 m4 d4] 49); replace M3 := M3.al (.cells #[.int .i64 (5), .string emp, .int .i64 (0), .slice Y4 m4 d4] 49); replace D2 := D2.al (.cells #[.int .i64 (5), .string emp, .int .i64 (0), .slice Y4 m4 d4] 49); replace R2 := R2.al (.cells #[.int .i64 (5), .string emp, .int .i64 (0), .slice Y4 m4 d4] 49); replace D3 := D3.al (.cells #[.int .i64 (5), .string emp, .int .i64 (0), .slice Y4 m4 d4] 49); replace R3 := R3.al (.cells #[.int .i64 (5), .string emp, .int .i64 (0), .slice Y4 m4 d4] 49)
  clear L4 T4 D4 M4
  (try clear cD2 fD2); have cD2 := D2.cell; have fD2 := D2.frozen; (try clear cD3 fD3); have cD3 := D3.cell; have fD3 := D3.frozen; (try clear cR2 fR2); have cR2 := R2.cell; have fR2 := R2.frozen; (try clear cR3 fR3); have cR3 := R3.cell; have fR3 := R3.frozen; (try clear cR4 fR4); have cR4 := R4.cell; have fR4 := R4.frozen
  go_wp2_with fail
  refine (KS.out _ _ _ _ _ _ _ M2 M3).mono ?_
  rintro e w7 ⟨rfl, hb7⟩
  go_wp2_with fail
  go_ret
  exact ⟨rfl, (by repeat (first | (with_reducible exact Below.refl _ _) | (with_reducible assumption) | (with_reducible refine Below.drew ?_) | (with_reducible refine bdrewN ?_ _) | (with_reducible refine balloc ?_ _) | ((with_reducible refine bset ?_ ?_ _); rotate_left; (focus first | exact Nat.le_refl _ | (simp; done) | (simp; omega) | omega)) | (with_reducible refine bstep ?_ (by with_reducible assumption)) | (with_reducible refine Below.trans ?_ (by with_reducible assumption))))⟩
theorem delOnce_walk (A : Option Addr) (n c : Nat) (l : List StepD) (key : Int) (w : World) (hS : Sl w 6 A n c (stepRows l)) (hd : ∀ d ∈ l, d.ok) (hk : I64 key) :
    Calls Try.prog 10 #[.slice A n c, .int .i64 key] w fun e w' => e = .returned (.bool true) ∧ Below w.heap.size w w' := by
  cases hh : keyHas (some_ key) (storeOf l).2
  · exact delOnce_false A n c l key w hS hd hk hh
  · exact delOnce_true A n c l key w hS hd hk hh
set_option maxRecDepth 100000 in
theorem delOnce_lifted (os : Os) (started : os.Started) (H : Type) (enc : TypeId × Value → H) :
  ReturnsInHanded {} Try.checked os 10 .any (Rows.delOnceSpec.pre6 enc Try.prog Try.f10 Rows.delOnceRow.domain false) (Rows.delOnceSpec.post enc Try.prog Try.f10 false true false false) := by
  refine returnsInHanded_of_change (C := Try.checked) Try.own started (by kernel_rfl) Try.func10 (ChangeSpec.witness6 (enc := enc) (C := Try.checked) false ⟨#[], #[.slice none 0 0, .int .i64 0], []⟩ 8 (by kernel_rfl) (by kernel_rfl) (by kernel_rfl) (by kernel_rfl)) ?_
  intro W base args ds gs before hval0 hW hcnd _
  have hval : ∀ (j : Nat) t v, Try.f10.params[j]? = some t → args[j]? = some v → Value.okWide Try.prog W .any base t v := hval0
  have hW' := hW
  obtain ⟨p, q, hA0, hV, rfl, hfz, hnd⟩ := hW
  have hA : DataW.TrodAll enc Try.prog W 0 (fun _ => true) true Try.f10.params.toList args.toList ds p := hA0
  rw [Try.params10] at hA hval
  obtain ⟨rfl, rfl⟩ := trodVars_none hV
  clear hA0 hval0 hcnd hV hfz hnd
  obtain ⟨v0, v1, d0, d1, p0, p1, rfl, rfl, rfl, h0, h1⟩ := trodAll_two hA
  obtain ⟨A, n, c, l, rfl, hd, hS⟩ := open_steps (hval 0 55 v0 rfl rfl) h0
  obtain ⟨k, rfl, rfl, rfl, w1⟩ := open_int Try.underlying3 (hval 1 3 v1 rfl rfl) h1
  refine (delOnce_walk A n c l k W hS hd (i64_bounds w1)).mono fun e W' ⟨he, hb⟩ => ?_
  subst he
  exact ⟨_, rfl, post_law Try.laidOut hW' rfl (by kernel_rfl) rfl Try.underlying4 (fun _ => rfl) (fun _ => rfl) (fun _ => rfl) hb⟩
theorem delOnce_holds : Rows.DelOnceSaid := OpenClaim.holds_of_wide 10 Try.f10 rfl rfl rfl rfl rfl rfl rfl ⟨rfl, rfl, rfl, rfl, rfl⟩ rfl rfl rfl rfl rfl (by kernel_rfl) Try.func10 (by kernel_rfl)
  (of_decide_eq_true (by kernel_rfl)) (by unfold Func.isWrapper; first | (rw [if_pos (by decide +kernel)]; kernel_rfl) | (rw [if_neg (by decide +kernel)]; exact ⟨rfl, rfl⟩))
  (fun os started H enc _ => delOnce_lifted os started H enc)
#print axioms delOnce_holds
end Go.Proofs.Ytpdadlofgfdlpaa
