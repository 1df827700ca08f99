/- rostrumkeep.AsValue returns true for every input; no condition. -/
import Derived.Test.YtpdadlofgfdlpaaAsP
namespace Go.Proofs.Ytpdadlofgfdlpaa
set_option linter.all false
open Go.ChangeShapes Go.WideShapes Go.ChangeAt Go.RowKit
set_option maxRecDepth 100000 in
set_option maxHeartbeats 60000000 in
theorem asValue_low (A : Option Addr) (n c : Nat) (l : List StepD) (x : StepD) (w : World) (hS : Sl w 6 A n c (stepRows l)) (hd : ∀ d ∈ l, d.ok) (hx : x.ok) (hk : (cmdD x.raw).kind ≤ 18) :
    Calls Try.prog 7 #[.slice A n c, .agg #[.int .i64 x.raw.kind, .int .i64 x.raw.key, .int .i64 x.raw.field, .int .i64 x.raw.n, .string x.raw.text, .int .i64 x.wait]] w fun e w' => e = .returned (.bool true) ∧ Below w.heap.size w w' := by
  have hF := fun w' (hb : Below w.heap.size w w') => Store_any A n c l w' (hS.below hb) hd
  have hmk := fun w => CommandS_any x.raw hx.1 w
  have hok := storeOf_ok l
  generalize storeOf l = s at *
  obtain ⟨now, es⟩ := s
  obtain ⟨ok, hn⟩ := hok
  simp only at ok hn
  have h0 := ok.now0
  have ca : ccOf ⟨1, { data := #[97] }, { data := #[] }, { data := #[] }, 0⟩ = 0 := cc_at (cc_lit (by omega) (by omega) (by rw [if_neg (by decide)]; rfl) (by rw [if_pos (by decide)]; decide) (by rw [if_neg (by decide)])) (by omega) (by decide) (by decide)
  have a0 : applyS 0 [] 0 ⟨1, { data := #[97] }, { data := #[] }, { data := #[] }, 0⟩ = ((0, [⟨{ data := #[97] }, ⟨1, { data := #[] }, 0, [], [], []⟩, 0⟩]), ⟨0, emp, 0, []⟩, 0) := by
    rw [apply_ok (nil_ok (by omega) (by omega)) (by omega) (by omega) ca, alive_none, do_first (c := ⟨1, { data := #[97] }, { data := #[] }, { data := #[] }, 0⟩) (by simp) (done_put (.inl rfl) ca rfl) (by simp) rfl]; rfl
  have hcc : ccOf (cmdD x.raw) = 0 := cmd_ok _ _ _ _ _
  have hkk : ((cmdD x.raw)).kind ≤ 18 := hk
  obtain ⟨e1, e2⟩ := as_plan ok hcc hkk
  have hmay := old_may ok (keyAt ((cmdD x.raw)).key es) (keyHas ((cmdD x.raw)).key es)
  obtain ⟨t0, hev⟩ := entV_old (c := (cmdD x.raw)) ok.rise
  have hde := done_e hmay hcc hkk
  have hap : applyS now es now (cmdD x.raw) = ((now, (doS now es (cmdD x.raw)).1), (doS now es (cmdD x.raw)).2, 0) := by
    rw [apply_ok ok (Int.le_refl _) (by omega) hcc, alive_self ok]
  have ok1 := doS_ok ok hcc
  have hD1 := Apply_may ok _ _ _ hap h0 (by omega)
  have hDo := fun A1 A2 A3 n1 c1 n2 c2 n3 c3 w h => Do_may _ (cmdD x.raw) hmay A1 A2 A3 n1 c1 n2 c2 n3 c3 w h
  have hE1 := fun A n c w (h : St w A n c es) => entry_val now A n c es ((cmdD x.raw)).key w h (by have := ok.few; omega) ok.rise
  rw [hev] at hE1
  have hE2 := fun A n c w (h : St w A n c (doS now es (cmdD x.raw)).1) => entry_val now A n c (doS now es (cmdD x.raw)).1 ((cmdD x.raw)).key w h (by have := ok1.few; omega) ok1.rise
  have K0 := hide (fun w => Apply_may (nil_ok (now := 0) (by omega) (by omega)) _ _ _ a0 (by omega) (by omega) none 0 0 w (St.nil w))
  clear a0 ca hev hap ok1 hmay ok hS hd hx
  generalize doS now es (cmdD x.raw) = R at *
  generalize keyHas ((cmdD x.raw)).key es = b at *
  generalize oldOf es (keyAt ((cmdD x.raw)).key es) b = v0 at *
  generalize doneVal v0 (cmdD x.raw) = D at *
  generalize entV R.1 ((cmdD x.raw)).key = E2 at *
  obtain ⟨es', RE⟩ := R
  obtain ⟨⟨rk, ry, rf, rr, rx⟩, rw_⟩ := x
  simp only at hmk hk hD1 hDo hE1 hE2 hkk e1 e2 hde ⊢
  generalize hcm : cmdD ⟨rk, ry, rf, rr, rx⟩ = cm at *
  clear hcm hcc hkk
  obtain ⟨ck, cy, cf, ct, cn⟩ := cm
  simp only at hk hD1 hDo hE1 hE2
  obtain ⟨⟨dk, dt, dc, dps, dis, dss⟩, ⟨wc, wt, wn, wl⟩, de⟩ := D
  simp only at hde
  subst hde
  obtain ⟨rc, rt, rn, rl⟩ := RE
  obtain ⟨⟨vk, vt, vc, ps, is_, ss⟩, tl, bl⟩ := E2
  obtain ⟨ok_, ot, oc, ops, ois, oss⟩ := v0
  simp only [cmdV] at hmk hD1 hDo hE1 hE2 e1 e2
  have HX := hide (And.intro e1 e2)
  have KF := hide hF; have KC := hide hmk; have K1 := hide hD1; have KD := hide hDo; have KE := hide hE1; have KE2 := hide hE2
  clear hF hmk hD1 hDo hE1 hE2 e1 e2
  have X0 := Blk.new w 57 #[.int .i64 rk, .int .i64 ry, .int .i64 rf, .int .i64 rr, .string rx, .int .i64 rw_]
  have q : Below w.heap.size w (w.alloc (.cells #[.int .i64 rk, .int .i64 ry, .int .i64 rf, .int .i64 rr, .string rx, .int .i64 rw_] 57)) := (by repeat (first | (with_reducible exact Below.refl _ _) | (with_reducible assumption) | (with_reducible refine Below.drew ?_) | (with_reducible refine bdrewN ?_ _) | (with_reducible refine balloc ?_ _) | ((with_reducible refine bset ?_ ?_ _); rotate_left; (focus first | exact Nat.le_refl _ | (simp; done) | (simp; omega) | omega)) | (with_reducible refine bstep ?_ (by with_reducible assumption)) | (with_reducible refine Below.trans ?_ (by with_reducible assumption))))
  go_enter Try.func7, Try.ntmps7
  go_wp2_with fail
  refine (K0.out _).mono ?_; rintro e w7 ⟨A7, n7, c7, Y7, m7, d7, rfl, M7, L7, T7, hb7⟩; replace X0 := X0.bl hb7; replace q : Below w.heap.size w w7 := (by repeat (first | (with_reducible exact Below.refl _ _) | (with_reducible assumption) | (with_reducible refine Below.drew ?_) | (with_reducible refine bdrewN ?_ _) | (with_reducible refine balloc ?_ _) | ((with_reducible refine bset ?_ ?_ _); rotate_left; (focus first | exact Nat.le_refl _ | (simp; done) | (simp; omega) | omega)) | (with_reducible refine bstep ?_ (by with_reducible assumption)) | (with_reducible refine Below.trans ?_ (by with_reducible assumption)))); clear hb7
  have z7 := hide M7.sl.len
  have D7 := Blk.new w7 25 #[.int .i64 (0), .slice A7 n7 c7]; replace M7 := M7.al (.cells #[.int .i64 (0), .slice A7 n7 c7] 25); replace L7 := L7.al (.cells #[.int .i64 (0), .slice A7 n7 c7] 25); replace X0 := X0.al (.cells #[.int .i64 (0), .slice A7 n7 c7] 25); have R7 : Blk ((w7.alloc (.cells #[.int .i64 (0), .slice A7 n7 c7] 25)).alloc (.cells #[.int .i64 (0), .string emp, .int .i64 (0), .slice Y7 m7 d7] 49)) (w7.heap.size + 1) 49 #[.int .i64 (0), .string emp, .int .i64 (0), .slice Y7 m7 d7] := Blk.new' _ _ _ (by simp); replace M7 := M7.al (.cells #[.int .i64 (0), .string emp, .int .i64 (0), .slice Y7 m7 d7] 49); replace L7 := L7.al (.cells #[.int .i64 (0), .string emp, .int .i64 (0), .slice Y7 m7 d7] 49); replace D7 := D7.al (.cells #[.int .i64 (0), .string emp, .int .i64 (0), .slice Y7 m7 d7] 49); replace X0 := X0.al (.cells #[.int .i64 (0), .string emp, .int .i64 (0), .slice Y7 m7 d7] 49)
  clear M7 L7 T7 R7
  obtain rfl : n7 = 1 := z7.out.symm
  (try clear cD7 fD7); have cD7 := D7.cell; have fD7 := D7.frozen
  go_wp2_with fail
  refine (KF.out _ (by repeat (first | (with_reducible exact Below.refl _ _) | (with_reducible assumption) | (with_reducible refine Below.drew ?_) | (with_reducible refine bdrewN ?_ _) | (with_reducible refine balloc ?_ _) | ((with_reducible refine bset ?_ ?_ _); rotate_left; (focus first | exact Nat.le_refl _ | (simp; done) | (simp; omega) | omega)) | (with_reducible refine bstep ?_ (by with_reducible assumption)) | (with_reducible refine Below.trans ?_ (by with_reducible assumption))))).mono ?_
  rintro e w1 ⟨A1, n1, c1, rfl, M1, hb1⟩
  replace X0 := X0.bl hb1
  replace q : Below w.heap.size w w1 := (by repeat (first | (with_reducible exact Below.refl _ _) | (with_reducible assumption) | (with_reducible refine Below.drew ?_) | (with_reducible refine bdrewN ?_ _) | (with_reducible refine balloc ?_ _) | ((with_reducible refine bset ?_ ?_ _); rotate_left; (focus first | exact Nat.le_refl _ | (simp; done) | (simp; omega) | omega)) | (with_reducible refine bstep ?_ (by with_reducible assumption)) | (with_reducible refine Below.trans ?_ (by with_reducible assumption))))
  clear hb1 D7 cD7 fD7
  have z1 := hide M1.sl.len
  have D1 := Blk.new w1 25 #[.int .i64 (now), .slice A1 n1 c1]
  replace M1 := M1.al (.cells #[.int .i64 (now), .slice A1 n1 c1] 25); replace X0 := X0.al (.cells #[.int .i64 (now), .slice A1 n1 c1] 25)
  (try clear cX0 fX0); have cX0 := X0.cell; have fX0 := X0.frozen
  go_wp2_with fail
  refine (KC.out _).mono ?_
  rintro e w2 ⟨rfl, hb2⟩
  replace M1 := M1.bl hb2; replace D1 := D1.bl hb2
  replace q : Below w.heap.size w w2 := (by repeat (first | (with_reducible exact Below.refl _ _) | (with_reducible assumption) | (with_reducible refine Below.drew ?_) | (with_reducible refine bdrewN ?_ _) | (with_reducible refine balloc ?_ _) | ((with_reducible refine bset ?_ ?_ _); rotate_left; (focus first | exact Nat.le_refl _ | (simp; done) | (simp; omega) | omega)) | (with_reducible refine bstep ?_ (by with_reducible assumption)) | (with_reducible refine Below.trans ?_ (by with_reducible assumption))))
  clear hb2 X0 cX0 fX0
  have C1 := Blk.new w2 46 #[.int .i64 ck, .string cy, .string cf, .string ct, .int .i64 cn]
  replace M1 := M1.al (.cells #[.int .i64 ck, .string cy, .string cf, .string ct, .int .i64 cn] 46); replace D1 := D1.al (.cells #[.int .i64 ck, .string cy, .string cf, .string ct, .int .i64 cn] 46)
  have hk' : ¬ (18 < ck) := by omega
  (try clear cD1 fD1); have cD1 := D1.cell; have fD1 := D1.frozen; (try clear cC1 fC1); have cC1 := C1.cell; have fC1 := C1.frozen
  go_wp2_with fail
  refine (KE.out _ _ _ _ M1).mono ?_
  rintro e w5 ⟨s5, B1, b1, d1, B2, b2, d2, B3, b3, d3, rfl, N5, hb5⟩
  replace M1 := M1.bl hb5; replace D1 := D1.bl hb5; replace C1 := C1.bl hb5
  replace q : Below w.heap.size w w5 := (by repeat (first | (with_reducible exact Below.refl _ _) | (with_reducible assumption) | (with_reducible refine Below.drew ?_) | (with_reducible refine bdrewN ?_ _) | (with_reducible refine balloc ?_ _) | ((with_reducible refine bset ?_ ?_ _); rotate_left; (focus first | exact Nat.le_refl _ | (simp; done) | (simp; omega) | omega)) | (with_reducible refine bstep ?_ (by with_reducible assumption)) | (with_reducible refine Below.trans ?_ (by with_reducible assumption))))
  clear hb5
  have E5 := Blk.new w5 65 #[.string s5, .int .i64 ok_, .string ot, .int .i64 oc, .slice B1 b1 d1, .slice B2 b2 d2, .slice B3 b3 d3, .int .i64 t0]
  replace M1 := M1.al (.cells #[.string s5, .int .i64 ok_, .string ot, .int .i64 oc, .slice B1 b1 d1, .slice B2 b2 d2, .slice B3 b3 d3, .int .i64 t0] 65); replace D1 := D1.al (.cells #[.string s5, .int .i64 ok_, .string ot, .int .i64 oc, .slice B1 b1 d1, .slice B2 b2 d2, .slice B3 b3 d3, .int .i64 t0] 65); replace C1 := C1.al (.cells #[.string s5, .int .i64 ok_, .string ot, .int .i64 oc, .slice B1 b1 d1, .slice B2 b2 d2, .slice B3 b3 d3, .int .i64 t0] 65); replace N5 := N5.al (.cells #[.string s5, .int .i64 ok_, .string ot, .int .i64 oc, .slice B1 b1 d1, .slice B2 b2 d2, .slice B3 b3 d3, .int .i64 t0] 65)
  (try clear cC1 fC1); have cC1 := C1.cell; have fC1 := C1.frozen
  go_wp2_with fail
  refine (KD.out _ _ _ _ _ _ _ _ _ _ N5).mono ?_; rintro e w6 ⟨B16, m16, e16, B26, m26, e26, B36, m36, e36, B46, m46, e46, rfl, M6, L6, T6, hb6⟩; replace M1 := M1.bl hb6; replace D1 := D1.bl hb6; replace C1 := C1.bl hb6; replace q : Below w.heap.size w w6 := (by repeat (first | (with_reducible exact Below.refl _ _) | (with_reducible assumption) | (with_reducible refine Below.drew ?_) | (with_reducible refine bdrewN ?_ _) | (with_reducible refine balloc ?_ _) | ((with_reducible refine bset ?_ ?_ _); rotate_left; (focus first | exact Nat.le_refl _ | (simp; done) | (simp; omega) | omega)) | (with_reducible refine bstep ?_ (by with_reducible assumption)) | (with_reducible refine Below.trans ?_ (by with_reducible assumption)))); clear hb6
  have D6 := Blk.new w6 40 #[.int .i64 dk, .string dt, .int .i64 dc, .slice B16 m16 e16, .slice B26 m26 e26, .slice B36 m36 e36]; replace M6 := M6.al (.cells #[.int .i64 dk, .string dt, .int .i64 dc, .slice B16 m16 e16, .slice B26 m26 e26, .slice B36 m36 e36] 40); replace L6 := L6.al (.cells #[.int .i64 dk, .string dt, .int .i64 dc, .slice B16 m16 e16, .slice B26 m26 e26, .slice B36 m36 e36] 40); replace M1 := M1.al (.cells #[.int .i64 dk, .string dt, .int .i64 dc, .slice B16 m16 e16, .slice B26 m26 e26, .slice B36 m36 e36] 40); replace D1 := D1.al (.cells #[.int .i64 dk, .string dt, .int .i64 dc, .slice B16 m16 e16, .slice B26 m26 e26, .slice B36 m36 e36] 40); replace C1 := C1.al (.cells #[.int .i64 dk, .string dt, .int .i64 dc, .slice B16 m16 e16, .slice B26 m26 e26, .slice B36 m36 e36] 40); have R6 : Blk ((w6.alloc (.cells #[.int .i64 dk, .string dt, .int .i64 dc, .slice B16 m16 e16, .slice B26 m26 e26, .slice B36 m36 e36] 40)).alloc (.cells #[.int .i64 wc, .string wt, .int .i64 wn, .slice B46 m46 e46] 49)) (w6.heap.size + 1) 49 #[.int .i64 wc, .string wt, .int .i64 wn, .slice B46 m46 e46] := Blk.new' _ _ _ (by simp); replace M6 := M6.al (.cells #[.int .i64 wc, .string wt, .int .i64 wn, .slice B46 m46 e46] 49); replace L6 := L6.al (.cells #[.int .i64 wc, .string wt, .int .i64 wn, .slice B46 m46 e46] 49); replace D6 := D6.al (.cells #[.int .i64 wc, .string wt, .int .i64 wn, .slice B46 m46 e46] 49); replace M1 := M1.al (.cells #[.int .i64 wc, .string wt, .int .i64 wn, .slice B46 m46 e46] 49); replace D1 := D1.al (.cells #[.int .i64 wc, .string wt, .int .i64 wn, .slice B46 m46 e46] 49); replace C1 := C1.al (.cells #[.int .i64 wc, .string wt, .int .i64 wn, .slice B46 m46 e46] 49)
  clear E5 N5
  (try clear cD1 fD1); have cD1 := D1.cell; have fD1 := D1.frozen; (try clear cC1 fC1); have cC1 := C1.cell; have fC1 := C1.frozen
  go_wp2_with fail
  refine (K1.out _ _ _ _ M1).mono ?_; rintro e w8 ⟨A8, n8, c8, Y8, m8, d8, rfl, M8, L8, T8, hb8⟩; replace D1 := D1.bl hb8; replace C1 := C1.bl hb8; replace M6 := M6.bl hb8; replace L6 := L6.bl hb8; replace D6 := D6.bl hb8; replace R6 := R6.bl hb8; replace q : Below w.heap.size w w8 := (by repeat (first | (with_reducible exact Below.refl _ _) | (with_reducible assumption) | (with_reducible refine Below.drew ?_) | (with_reducible refine bdrewN ?_ _) | (with_reducible refine balloc ?_ _) | ((with_reducible refine bset ?_ ?_ _); rotate_left; (focus first | exact Nat.le_refl _ | (simp; done) | (simp; omega) | omega)) | (with_reducible refine bstep ?_ (by with_reducible assumption)) | (with_reducible refine Below.trans ?_ (by with_reducible assumption)))); clear hb8
  have D8 := Blk.new w8 25 #[.int .i64 (now), .slice A8 n8 c8]; replace M8 := M8.al (.cells #[.int .i64 (now), .slice A8 n8 c8] 25); replace L8 := L8.al (.cells #[.int .i64 (now), .slice A8 n8 c8] 25); replace D1 := D1.al (.cells #[.int .i64 (now), .slice A8 n8 c8] 25); replace C1 := C1.al (.cells #[.int .i64 (now), .slice A8 n8 c8] 25); replace M6 := M6.al (.cells #[.int .i64 (now), .slice A8 n8 c8] 25); replace L6 := L6.al (.cells #[.int .i64 (now), .slice A8 n8 c8] 25); replace D6 := D6.al (.cells #[.int .i64 (now), .slice A8 n8 c8] 25); replace R6 := R6.al (.cells #[.int .i64 (now), .slice A8 n8 c8] 25); have R8 : Blk ((w8.alloc (.cells #[.int .i64 (now), .slice A8 n8 c8] 25)).alloc (.cells #[.int .i64 (rc), .string rt, .int .i64 (rn), .slice Y8 m8 d8] 49)) (w8.heap.size + 1) 49 #[.int .i64 (rc), .string rt, .int .i64 (rn), .slice Y8 m8 d8] := Blk.new' _ _ _ (by simp); replace M8 := M8.al (.cells #[.int .i64 (rc), .string rt, .int .i64 (rn), .slice Y8 m8 d8] 49); replace L8 := L8.al (.cells #[.int .i64 (rc), .string rt, .int .i64 (rn), .slice Y8 m8 d8] 49); replace D8 := D8.al (.cells #[.int .i64 (rc), .string rt, .int .i64 (rn), .slice Y8 m8 d8] 49); replace D1 := D1.al (.cells #[.int .i64 (rc), .string rt, .int .i64 (rn), .slice Y8 m8 d8] 49); replace C1 := C1.al (.cells #[.int .i64 (rc), .string rt, .int .i64 (rn), .slice Y8 m8 d8] 49); replace M6 := M6.al (.cells #[.int .i64 (rc), .string rt, .int .i64 (rn), .slice Y8 m8 d8] 49); replace L6 := L6.al (.cells #[.int .i64 (rc), .string rt, .int .i64 (rn), .slice Y8 m8 d8] 49); replace D6 := D6.al (.cells #[.int .i64 (rc), .string rt, .int .i64 (rn), .slice Y8 m8 d8] 49); replace R6 := R6.al (.cells #[.int .i64 (rc), .string rt, .int .i64 (rn), .slice Y8 m8 d8] 49)
  clear M1 T8
  (try clear cC1 fC1); have cC1 := C1.cell; have fC1 := C1.frozen; (try clear cD8 fD8); have cD8 := D8.cell; have fD8 := D8.frozen
  go_wp2_with fail
  refine (KE2.out _ _ _ _ M8).mono ?_
  rintro e w9 ⟨s6, F1, f1, g1, F2, f2, g2, F3, f3, g3, rfl, N9, hb9⟩
  replace D1 := D1.bl hb9; replace C1 := C1.bl hb9; replace M6 := M6.bl hb9; replace L6 := L6.bl hb9; replace D6 := D6.bl hb9; replace R6 := R6.bl hb9; replace L8 := L8.bl hb9; replace R8 := R8.bl hb9
  replace q : Below w.heap.size w w9 := (by repeat (first | (with_reducible exact Below.refl _ _) | (with_reducible assumption) | (with_reducible refine Below.drew ?_) | (with_reducible refine bdrewN ?_ _) | (with_reducible refine balloc ?_ _) | ((with_reducible refine bset ?_ ?_ _); rotate_left; (focus first | exact Nat.le_refl _ | (simp; done) | (simp; omega) | omega)) | (with_reducible refine bstep ?_ (by with_reducible assumption)) | (with_reducible refine Below.trans ?_ (by with_reducible assumption))))
  clear hb9 M8 D8 cD8 fD8 C1 cC1 fC1
  have E9 := Blk.new w9 65 #[.string s6, .int .i64 vk, .string vt, .int .i64 vc, .slice F1 f1 g1, .slice F2 f2 g2, .slice F3 f3 g3, .int .i64 tl]
  replace D1 := D1.al (.cells #[.string s6, .int .i64 vk, .string vt, .int .i64 vc, .slice F1 f1 g1, .slice F2 f2 g2, .slice F3 f3 g3, .int .i64 tl] 65); replace M6 := M6.al (.cells #[.string s6, .int .i64 vk, .string vt, .int .i64 vc, .slice F1 f1 g1, .slice F2 f2 g2, .slice F3 f3 g3, .int .i64 tl] 65); replace L6 := L6.al (.cells #[.string s6, .int .i64 vk, .string vt, .int .i64 vc, .slice F1 f1 g1, .slice F2 f2 g2, .slice F3 f3 g3, .int .i64 tl] 65); replace D6 := D6.al (.cells #[.string s6, .int .i64 vk, .string vt, .int .i64 vc, .slice F1 f1 g1, .slice F2 f2 g2, .slice F3 f3 g3, .int .i64 tl] 65); replace R6 := R6.al (.cells #[.string s6, .int .i64 vk, .string vt, .int .i64 vc, .slice F1 f1 g1, .slice F2 f2 g2, .slice F3 f3 g3, .int .i64 tl] 65); replace L8 := L8.al (.cells #[.string s6, .int .i64 vk, .string vt, .int .i64 vc, .slice F1 f1 g1, .slice F2 f2 g2, .slice F3 f3 g3, .int .i64 tl] 65); replace R8 := R8.al (.cells #[.string s6, .int .i64 vk, .string vt, .int .i64 vc, .slice F1 f1 g1, .slice F2 f2 g2, .slice F3 f3 g3, .int .i64 tl] 65); replace N9 := N9.al (.cells #[.string s6, .int .i64 vk, .string vt, .int .i64 vc, .slice F1 f1 g1, .slice F2 f2 g2, .slice F3 f3 g3, .int .i64 tl] 65)
  obtain ⟨x1, x2⟩ := HX.out
  obtain ⟨bb, hbb, hb2, hb3⟩ : ∃ bb, decide (dk ≠ 0) = bb ∧ (dk == 0) = !bb ∧ (dk != 0) = bb := ⟨_, rfl, by by_cases h : dk = 0 <;> simp [h], by by_cases h : dk = 0 <;> simp [h]⟩
  cases b with
  | true =>
    obtain ⟨hr, t9, hv⟩ := x2 (by simp)
    clear HX x1 x2 KF KC K0 K1 KD KE KE2
    injection hr with r1 r2 r3 r4
    subst r1; subst r2; subst r3; subst r4
    rw [hbb] at hv
    injection hv with v1 v2
    injection v1 with i1 i2 i3 i4 i5 i6
    injection v2 with i7 i8
    subst i1; subst i2; subst i3; subst i4; subst i5; subst i6; subst i7; subst i8
    cases bl
    all_goals
      simp only [Bool.not_false, Bool.not_true] at hb2
      (try clear cD1 fD1); have cD1 := D1.cell; have fD1 := D1.frozen; (try clear cE9 fE9); have cE9 := E9.cell; have fE9 := E9.frozen; (try clear cD6 fD6); have cD6 := D6.cell; have fD6 := D6.frozen; (try clear cR6 fR6); have cR6 := R6.cell; have fR6 := R6.frozen; (try clear cR8 fR8); have cR8 := R8.cell; have fR8 := R8.frozen
      go_wp2_with fail
      refine (sameReply_eq ⟨_, _, _, _⟩ ⟨_, _, _, _⟩ _ _ _ _ _ _ _ L8 L6 rfl).mono ?_
      rintro e wA ⟨rfl, hbA⟩
      replace E9 := E9.bl hbA; replace D6 := D6.bl hbA; replace M6 := M6.bl hbA; replace N9 := N9.bl hbA
      (try clear cE9 fE9); have cE9 := E9.cell; have fE9 := E9.frozen; (try clear cD6 fD6); have cD6 := D6.cell; have fD6 := D6.frozen
      go_wp2_with fail
      refine (sameValue_eq ⟨_, _, _, _, _, _⟩ ⟨_, _, _, _, _, _⟩ _ _ _ _ _ _ _ _ _ _ _ _ _ _ _ _ _ _ _ N9 M6 rfl).mono ?_
      rintro e wB ⟨rfl, hbB⟩
      go_wp2_with fail
      go_ret
      exact ⟨rfl, (by repeat (first | (with_reducible exact Below.refl _ _) | (with_reducible assumption) | (with_reducible refine Below.drew ?_) | (with_reducible refine bdrewN ?_ _) | (with_reducible refine balloc ?_ _) | ((with_reducible refine bset ?_ ?_ _); rotate_left; (focus first | exact Nat.le_refl _ | (simp; done) | (simp; omega) | omega)) | (with_reducible refine bstep ?_ (by with_reducible assumption)) | (with_reducible refine Below.trans ?_ (by with_reducible assumption))))⟩
  | false =>
    by_cases hl : es.length = 12
    · have hx1 := x1 ⟨rfl, hl⟩
      obtain rfl : n1 = 12 := by rw [← z1.out]; exact hl
      clear HX x1 x2 KF KC K0 K1 KD KE KE2 z1 hl hbb hb2 hb3
      (try clear cD1 fD1); have cD1 := D1.cell; have fD1 := D1.frozen; (try clear cE9 fE9); have cE9 := E9.cell; have fE9 := E9.frozen; (try clear cD6 fD6); have cD6 := D6.cell; have fD6 := D6.frozen; (try clear cR6 fR6); have cR6 := R6.cell; have fR6 := R6.frozen; (try clear cR8 fR8); have cR8 := R8.cell; have fR8 := R8.frozen
      rcases hx1 with rfl | rfl
      · go_wp2_with fail
        go_ret
        exact ⟨rfl, (by repeat (first | (with_reducible exact Below.refl _ _) | (with_reducible assumption) | (with_reducible refine Below.drew ?_) | (with_reducible refine bdrewN ?_ _) | (with_reducible refine balloc ?_ _) | ((with_reducible refine bset ?_ ?_ _); rotate_left; (focus first | exact Nat.le_refl _ | (simp; done) | (simp; omega) | omega)) | (with_reducible refine bstep ?_ (by with_reducible assumption)) | (with_reducible refine Below.trans ?_ (by with_reducible assumption))))⟩
      · cases h6 : (rc == 6)
        · go_wp2_with fail
          go_ret
          exact ⟨rfl, (by repeat (first | (with_reducible exact Below.refl _ _) | (with_reducible assumption) | (with_reducible refine Below.drew ?_) | (with_reducible refine bdrewN ?_ _) | (with_reducible refine balloc ?_ _) | ((with_reducible refine bset ?_ ?_ _); rotate_left; (focus first | exact Nat.le_refl _ | (simp; done) | (simp; omega) | omega)) | (with_reducible refine bstep ?_ (by with_reducible assumption)) | (with_reducible refine Below.trans ?_ (by with_reducible assumption))))⟩
        · go_wp2_with fail
          go_ret
          exact ⟨rfl, (by repeat (first | (with_reducible exact Below.refl _ _) | (with_reducible assumption) | (with_reducible refine Below.drew ?_) | (with_reducible refine bdrewN ?_ _) | (with_reducible refine balloc ?_ _) | ((with_reducible refine bset ?_ ?_ _); rotate_left; (focus first | exact Nat.le_refl _ | (simp; done) | (simp; omega) | omega)) | (with_reducible refine bstep ?_ (by with_reducible assumption)) | (with_reducible refine Below.trans ?_ (by with_reducible assumption))))⟩
    · have hn1 : ¬ ((n1 : Int) = 12) := by have := z1.out; omega
      obtain ⟨hr, t9, hv⟩ := x2 (fun h => hl h.2)
      clear HX x1 x2 KF KC K0 K1 KD KE KE2
      injection hr with r1 r2 r3 r4
      subst r1; subst r2; subst r3; subst r4
      rw [hbb] at hv
      injection hv with v1 v2
      injection v1 with i1 i2 i3 i4 i5 i6
      injection v2 with i7 i8
      subst i1; subst i2; subst i3; subst i4; subst i5; subst i6; subst i7; subst i8
      cases bl
      all_goals
        simp only [Bool.not_false, Bool.not_true] at hb2
        (try clear cD1 fD1); have cD1 := D1.cell; have fD1 := D1.frozen; (try clear cE9 fE9); have cE9 := E9.cell; have fE9 := E9.frozen; (try clear cD6 fD6); have cD6 := D6.cell; have fD6 := D6.frozen; (try clear cR6 fR6); have cR6 := R6.cell; have fR6 := R6.frozen; (try clear cR8 fR8); have cR8 := R8.cell; have fR8 := R8.frozen
        go_wp2_with fail
        refine (sameReply_eq ⟨_, _, _, _⟩ ⟨_, _, _, _⟩ _ _ _ _ _ _ _ L8 L6 rfl).mono ?_
        rintro e wA ⟨rfl, hbA⟩
        replace E9 := E9.bl hbA; replace D6 := D6.bl hbA; replace M6 := M6.bl hbA; replace N9 := N9.bl hbA
        (try clear cE9 fE9); have cE9 := E9.cell; have fE9 := E9.frozen; (try clear cD6 fD6); have cD6 := D6.cell; have fD6 := D6.frozen
        go_wp2_with fail
        refine (sameValue_eq ⟨_, _, _, _, _, _⟩ ⟨_, _, _, _, _, _⟩ _ _ _ _ _ _ _ _ _ _ _ _ _ _ _ _ _ _ _ N9 M6 rfl).mono ?_
        rintro e wB ⟨rfl, hbB⟩
        go_wp2_with fail
        go_ret
        exact ⟨rfl, (by repeat (first | (with_reducible exact Below.refl _ _) | (with_reducible assumption) | (with_reducible refine Below.drew ?_) | (with_reducible refine bdrewN ?_ _) | (with_reducible refine balloc ?_ _) | ((with_reducible refine bset ?_ ?_ _); rotate_left; (focus first | exact Nat.le_refl _ | (simp; done) | (simp; omega) | omega)) | (with_reducible refine bstep ?_ (by with_reducible assumption)) | (with_reducible refine Below.trans ?_ (by with_reducible assumption))))⟩
set_option maxRecDepth 100000 in
set_option maxHeartbeats 60000000 in
theorem asValue_over (A : Option Addr) (n c : Nat) (l : List StepD) (x : StepD) (w : World) (hS : Sl w 6 A n c (stepRows l)) (hd : ∀ d ∈ l, d.ok) (hx : x.ok) (hk : 18 < (cmdD x.raw).kind) :
    Calls Try.prog 7 #[.slice A n c, .agg #[.int .i64 x.raw.kind, .int .i64 x.raw.key, .int .i64 x.raw.field, .int .i64 x.raw.n, .string x.raw.text, .int .i64 x.wait]] w fun e w' => e = .returned (.bool true) ∧ Below w.heap.size w w' := by
  have hF := fun w' (hb : Below w.heap.size w w') => Store_any A n c l w' (hS.below hb) hd
  have hmk := fun w => CommandS_any x.raw hx.1 w
  have hok := storeOf_ok l
  generalize storeOf l = s at *
  obtain ⟨now, es⟩ := s
  obtain ⟨ok, hn⟩ := hok
  simp only at ok hn
  have h0 := ok.now0
  have ca : ccOf ⟨1, { data := #[97] }, { data := #[] }, { data := #[] }, 0⟩ = 0 := cc_at (cc_lit (by omega) (by omega) (by rw [if_neg (by decide)]; rfl) (by rw [if_pos (by decide)]; decide) (by rw [if_neg (by decide)])) (by omega) (by decide) (by decide)
  have a0 : applyS 0 [] 0 ⟨1, { data := #[97] }, { data := #[] }, { data := #[] }, 0⟩ = ((0, [⟨{ data := #[97] }, ⟨1, { data := #[] }, 0, [], [], []⟩, 0⟩]), ⟨0, emp, 0, []⟩, 0) := by
    rw [apply_ok (nil_ok (by omega) (by omega)) (by omega) (by omega) ca, alive_none, do_first (c := ⟨1, { data := #[97] }, { data := #[] }, { data := #[] }, 0⟩) (by simp) (done_put (.inl rfl) ca rfl) (by simp) rfl]; rfl
  have hcc : ccOf (⟨7, { data := #[97] }, { data := #[] }, { data := #[120] }, 0⟩ : Cmd) = 0 := cc_at (cc_lit (by omega) (by omega) (by rw [if_neg (by decide)]; rfl) (by rw [if_pos (by decide)]; decide) (by rw [if_neg (by decide)])) (by omega) (by decide) (by decide)
  have hkk : ((⟨7, { data := #[97] }, { data := #[] }, { data := #[120] }, 0⟩ : Cmd)).kind ≤ 18 := by simp
  obtain ⟨e1, e2⟩ := as_plan ok hcc hkk
  have hmay := old_may ok (keyAt ((⟨7, { data := #[97] }, { data := #[] }, { data := #[120] }, 0⟩ : Cmd)).key es) (keyHas ((⟨7, { data := #[97] }, { data := #[] }, { data := #[120] }, 0⟩ : Cmd)).key es)
  obtain ⟨t0, hev⟩ := entV_old (c := (⟨7, { data := #[97] }, { data := #[] }, { data := #[120] }, 0⟩ : Cmd)) ok.rise
  have hde := done_e hmay hcc hkk
  have hap : applyS now es now (⟨7, { data := #[97] }, { data := #[] }, { data := #[120] }, 0⟩ : Cmd) = ((now, (doS now es (⟨7, { data := #[97] }, { data := #[] }, { data := #[120] }, 0⟩ : Cmd)).1), (doS now es (⟨7, { data := #[97] }, { data := #[] }, { data := #[120] }, 0⟩ : Cmd)).2, 0) := by
    rw [apply_ok ok (Int.le_refl _) (by omega) hcc, alive_self ok]
  have ok1 := doS_ok ok hcc
  have hD1 := Apply_may ok _ _ _ hap h0 (by omega)
  have hDo := fun A1 A2 A3 n1 c1 n2 c2 n3 c3 w h => Do_may _ (⟨7, { data := #[97] }, { data := #[] }, { data := #[120] }, 0⟩ : Cmd) hmay A1 A2 A3 n1 c1 n2 c2 n3 c3 w h
  have hE1 := fun A n c w (h : St w A n c es) => entry_val now A n c es ((⟨7, { data := #[97] }, { data := #[] }, { data := #[120] }, 0⟩ : Cmd)).key w h (by have := ok.few; omega) ok.rise
  rw [hev] at hE1
  have hE2 := fun A n c w (h : St w A n c (doS now es (⟨7, { data := #[97] }, { data := #[] }, { data := #[120] }, 0⟩ : Cmd)).1) => entry_val now A n c (doS now es (⟨7, { data := #[97] }, { data := #[] }, { data := #[120] }, 0⟩ : Cmd)).1 ((⟨7, { data := #[97] }, { data := #[] }, { data := #[120] }, 0⟩ : Cmd)).key w h (by have := ok1.few; omega) ok1.rise
  have K0 := hide (fun w => Apply_may (nil_ok (now := 0) (by omega) (by omega)) _ _ _ a0 (by omega) (by omega) none 0 0 w (St.nil w))
  clear a0 ca hev hap ok1 hmay ok hS hd hx
  generalize doS now es (⟨7, { data := #[97] }, { data := #[] }, { data := #[120] }, 0⟩ : Cmd) = R at *
  generalize keyHas ((⟨7, { data := #[97] }, { data := #[] }, { data := #[120] }, 0⟩ : Cmd)).key es = b at *
  generalize oldOf es (keyAt ((⟨7, { data := #[97] }, { data := #[] }, { data := #[120] }, 0⟩ : Cmd)).key es) b = v0 at *
  generalize doneVal v0 (⟨7, { data := #[97] }, { data := #[] }, { data := #[120] }, 0⟩ : Cmd) = D at *
  generalize entV R.1 ((⟨7, { data := #[97] }, { data := #[] }, { data := #[120] }, 0⟩ : Cmd)).key = E2 at *
  obtain ⟨es', RE⟩ := R
  obtain ⟨⟨rk, ry, rf, rr, rx⟩, rw_⟩ := x
  simp only at hmk hk hD1 hDo hE1 hE2 hkk e1 e2 hde ⊢
  generalize hcm : cmdD ⟨rk, ry, rf, rr, rx⟩ = cm at *
  clear hcm hcc hkk
  obtain ⟨ck, cy, cf, ct, cn⟩ := cm
  simp only at hk hD1 hDo hE1 hE2
  obtain ⟨⟨dk, dt, dc, dps, dis, dss⟩, ⟨wc, wt, wn, wl⟩, de⟩ := D
  simp only at hde
  subst hde
  obtain ⟨rc, rt, rn, rl⟩ := RE
  obtain ⟨⟨vk, vt, vc, ps, is_, ss⟩, tl, bl⟩ := E2
  obtain ⟨ok_, ot, oc, ops, ois, oss⟩ := v0
  simp only [cmdV] at hmk hD1 hDo hE1 hE2 e1 e2
  have HX := hide (And.intro e1 e2)
  have KF := hide hF; have KC := hide hmk; have K1 := hide hD1; have KD := hide hDo; have KE := hide hE1; have KE2 := hide hE2
  clear hF hmk hD1 hDo hE1 hE2 e1 e2
  have X0 := Blk.new w 57 #[.int .i64 rk, .int .i64 ry, .int .i64 rf, .int .i64 rr, .string rx, .int .i64 rw_]
  have q : Below w.heap.size w (w.alloc (.cells #[.int .i64 rk, .int .i64 ry, .int .i64 rf, .int .i64 rr, .string rx, .int .i64 rw_] 57)) := (by repeat (first | (with_reducible exact Below.refl _ _) | (with_reducible assumption) | (with_reducible refine Below.drew ?_) | (with_reducible refine bdrewN ?_ _) | (with_reducible refine balloc ?_ _) | ((with_reducible refine bset ?_ ?_ _); rotate_left; (focus first | exact Nat.le_refl _ | (simp; done) | (simp; omega) | omega)) | (with_reducible refine bstep ?_ (by with_reducible assumption)) | (with_reducible refine Below.trans ?_ (by with_reducible assumption))))
  go_enter Try.func7, Try.ntmps7
  go_wp2_with fail
  refine (K0.out _).mono ?_; rintro e w7 ⟨A7, n7, c7, Y7, m7, d7, rfl, M7, L7, T7, hb7⟩; replace X0 := X0.bl hb7; replace q : Below w.heap.size w w7 := (by repeat (first | (with_reducible exact Below.refl _ _) | (with_reducible assumption) | (with_reducible refine Below.drew ?_) | (with_reducible refine bdrewN ?_ _) | (with_reducible refine balloc ?_ _) | ((with_reducible refine bset ?_ ?_ _); rotate_left; (focus first | exact Nat.le_refl _ | (simp; done) | (simp; omega) | omega)) | (with_reducible refine bstep ?_ (by with_reducible assumption)) | (with_reducible refine Below.trans ?_ (by with_reducible assumption)))); clear hb7
  have z7 := hide M7.sl.len
  have D7 := Blk.new w7 25 #[.int .i64 (0), .slice A7 n7 c7]; replace M7 := M7.al (.cells #[.int .i64 (0), .slice A7 n7 c7] 25); replace L7 := L7.al (.cells #[.int .i64 (0), .slice A7 n7 c7] 25); replace X0 := X0.al (.cells #[.int .i64 (0), .slice A7 n7 c7] 25); have R7 : Blk ((w7.alloc (.cells #[.int .i64 (0), .slice A7 n7 c7] 25)).alloc (.cells #[.int .i64 (0), .string emp, .int .i64 (0), .slice Y7 m7 d7] 49)) (w7.heap.size + 1) 49 #[.int .i64 (0), .string emp, .int .i64 (0), .slice Y7 m7 d7] := Blk.new' _ _ _ (by simp); replace M7 := M7.al (.cells #[.int .i64 (0), .string emp, .int .i64 (0), .slice Y7 m7 d7] 49); replace L7 := L7.al (.cells #[.int .i64 (0), .string emp, .int .i64 (0), .slice Y7 m7 d7] 49); replace D7 := D7.al (.cells #[.int .i64 (0), .string emp, .int .i64 (0), .slice Y7 m7 d7] 49); replace X0 := X0.al (.cells #[.int .i64 (0), .string emp, .int .i64 (0), .slice Y7 m7 d7] 49)
  clear M7 L7 T7 R7
  obtain rfl : n7 = 1 := z7.out.symm
  (try clear cD7 fD7); have cD7 := D7.cell; have fD7 := D7.frozen
  go_wp2_with fail
  refine (KF.out _ (by repeat (first | (with_reducible exact Below.refl _ _) | (with_reducible assumption) | (with_reducible refine Below.drew ?_) | (with_reducible refine bdrewN ?_ _) | (with_reducible refine balloc ?_ _) | ((with_reducible refine bset ?_ ?_ _); rotate_left; (focus first | exact Nat.le_refl _ | (simp; done) | (simp; omega) | omega)) | (with_reducible refine bstep ?_ (by with_reducible assumption)) | (with_reducible refine Below.trans ?_ (by with_reducible assumption))))).mono ?_
  rintro e w1 ⟨A1, n1, c1, rfl, M1, hb1⟩
  replace X0 := X0.bl hb1
  replace q : Below w.heap.size w w1 := (by repeat (first | (with_reducible exact Below.refl _ _) | (with_reducible assumption) | (with_reducible refine Below.drew ?_) | (with_reducible refine bdrewN ?_ _) | (with_reducible refine balloc ?_ _) | ((with_reducible refine bset ?_ ?_ _); rotate_left; (focus first | exact Nat.le_refl _ | (simp; done) | (simp; omega) | omega)) | (with_reducible refine bstep ?_ (by with_reducible assumption)) | (with_reducible refine Below.trans ?_ (by with_reducible assumption))))
  clear hb1 D7 cD7 fD7
  have z1 := hide M1.sl.len
  have D1 := Blk.new w1 25 #[.int .i64 (now), .slice A1 n1 c1]
  replace M1 := M1.al (.cells #[.int .i64 (now), .slice A1 n1 c1] 25); replace X0 := X0.al (.cells #[.int .i64 (now), .slice A1 n1 c1] 25)
  (try clear cX0 fX0); have cX0 := X0.cell; have fX0 := X0.frozen
  go_wp2_with fail
  refine (KC.out _).mono ?_
  rintro e w2 ⟨rfl, hb2⟩
  replace M1 := M1.bl hb2; replace D1 := D1.bl hb2
  replace q : Below w.heap.size w w2 := (by repeat (first | (with_reducible exact Below.refl _ _) | (with_reducible assumption) | (with_reducible refine Below.drew ?_) | (with_reducible refine bdrewN ?_ _) | (with_reducible refine balloc ?_ _) | ((with_reducible refine bset ?_ ?_ _); rotate_left; (focus first | exact Nat.le_refl _ | (simp; done) | (simp; omega) | omega)) | (with_reducible refine bstep ?_ (by with_reducible assumption)) | (with_reducible refine Below.trans ?_ (by with_reducible assumption))))
  clear hb2 X0 cX0 fX0
  have C1 := Blk.new w2 46 #[.int .i64 7, .string { data := #[97] }, .string { data := #[] }, .string { data := #[120] }, .int .i64 0]
  replace M1 := M1.al (.cells #[.int .i64 7, .string { data := #[97] }, .string { data := #[] }, .string { data := #[120] }, .int .i64 0] 46); replace D1 := D1.al (.cells #[.int .i64 7, .string { data := #[97] }, .string { data := #[] }, .string { data := #[120] }, .int .i64 0] 46)
  have hk' : 18 < ck := by omega
  (try clear cD1 fD1); have cD1 := D1.cell; have fD1 := D1.frozen; (try clear cC1 fC1); have cC1 := C1.cell; have fC1 := C1.frozen
  go_wp2_with fail
  refine (KE.out _ _ _ _ M1).mono ?_
  rintro e w5 ⟨s5, B1, b1, d1, B2, b2, d2, B3, b3, d3, rfl, N5, hb5⟩
  replace M1 := M1.bl hb5; replace D1 := D1.bl hb5; replace C1 := C1.bl hb5
  replace q : Below w.heap.size w w5 := (by repeat (first | (with_reducible exact Below.refl _ _) | (with_reducible assumption) | (with_reducible refine Below.drew ?_) | (with_reducible refine bdrewN ?_ _) | (with_reducible refine balloc ?_ _) | ((with_reducible refine bset ?_ ?_ _); rotate_left; (focus first | exact Nat.le_refl _ | (simp; done) | (simp; omega) | omega)) | (with_reducible refine bstep ?_ (by with_reducible assumption)) | (with_reducible refine Below.trans ?_ (by with_reducible assumption))))
  clear hb5
  have E5 := Blk.new w5 65 #[.string s5, .int .i64 ok_, .string ot, .int .i64 oc, .slice B1 b1 d1, .slice B2 b2 d2, .slice B3 b3 d3, .int .i64 t0]
  replace M1 := M1.al (.cells #[.string s5, .int .i64 ok_, .string ot, .int .i64 oc, .slice B1 b1 d1, .slice B2 b2 d2, .slice B3 b3 d3, .int .i64 t0] 65); replace D1 := D1.al (.cells #[.string s5, .int .i64 ok_, .string ot, .int .i64 oc, .slice B1 b1 d1, .slice B2 b2 d2, .slice B3 b3 d3, .int .i64 t0] 65); replace C1 := C1.al (.cells #[.string s5, .int .i64 ok_, .string ot, .int .i64 oc, .slice B1 b1 d1, .slice B2 b2 d2, .slice B3 b3 d3, .int .i64 t0] 65); replace N5 := N5.al (.cells #[.string s5, .int .i64 ok_, .string ot, .int .i64 oc, .slice B1 b1 d1, .slice B2 b2 d2, .slice B3 b3 d3, .int .i64 t0] 65)
  (try clear cC1 fC1); have cC1 := C1.cell; have fC1 := C1.frozen
  go_wp2_with fail
  refine (KD.out _ _ _ _ _ _ _ _ _ _ N5).mono ?_; rintro e w6 ⟨B16, m16, e16, B26, m26, e26, B36, m36, e36, B46, m46, e46, rfl, M6, L6, T6, hb6⟩; replace M1 := M1.bl hb6; replace D1 := D1.bl hb6; replace C1 := C1.bl hb6; replace q : Below w.heap.size w w6 := (by repeat (first | (with_reducible exact Below.refl _ _) | (with_reducible assumption) | (with_reducible refine Below.drew ?_) | (with_reducible refine bdrewN ?_ _) | (with_reducible refine balloc ?_ _) | ((with_reducible refine bset ?_ ?_ _); rotate_left; (focus first | exact Nat.le_refl _ | (simp; done) | (simp; omega) | omega)) | (with_reducible refine bstep ?_ (by with_reducible assumption)) | (with_reducible refine Below.trans ?_ (by with_reducible assumption)))); clear hb6
  have D6 := Blk.new w6 40 #[.int .i64 dk, .string dt, .int .i64 dc, .slice B16 m16 e16, .slice B26 m26 e26, .slice B36 m36 e36]; replace M6 := M6.al (.cells #[.int .i64 dk, .string dt, .int .i64 dc, .slice B16 m16 e16, .slice B26 m26 e26, .slice B36 m36 e36] 40); replace L6 := L6.al (.cells #[.int .i64 dk, .string dt, .int .i64 dc, .slice B16 m16 e16, .slice B26 m26 e26, .slice B36 m36 e36] 40); replace M1 := M1.al (.cells #[.int .i64 dk, .string dt, .int .i64 dc, .slice B16 m16 e16, .slice B26 m26 e26, .slice B36 m36 e36] 40); replace D1 := D1.al (.cells #[.int .i64 dk, .string dt, .int .i64 dc, .slice B16 m16 e16, .slice B26 m26 e26, .slice B36 m36 e36] 40); replace C1 := C1.al (.cells #[.int .i64 dk, .string dt, .int .i64 dc, .slice B16 m16 e16, .slice B26 m26 e26, .slice B36 m36 e36] 40); have R6 : Blk ((w6.alloc (.cells #[.int .i64 dk, .string dt, .int .i64 dc, .slice B16 m16 e16, .slice B26 m26 e26, .slice B36 m36 e36] 40)).alloc (.cells #[.int .i64 wc, .string wt, .int .i64 wn, .slice B46 m46 e46] 49)) (w6.heap.size + 1) 49 #[.int .i64 wc, .string wt, .int .i64 wn, .slice B46 m46 e46] := Blk.new' _ _ _ (by simp); replace M6 := M6.al (.cells #[.int .i64 wc, .string wt, .int .i64 wn, .slice B46 m46 e46] 49); replace L6 := L6.al (.cells #[.int .i64 wc, .string wt, .int .i64 wn, .slice B46 m46 e46] 49); replace D6 := D6.al (.cells #[.int .i64 wc, .string wt, .int .i64 wn, .slice B46 m46 e46] 49); replace M1 := M1.al (.cells #[.int .i64 wc, .string wt, .int .i64 wn, .slice B46 m46 e46] 49); replace D1 := D1.al (.cells #[.int .i64 wc, .string wt, .int .i64 wn, .slice B46 m46 e46] 49); replace C1 := C1.al (.cells #[.int .i64 wc, .string wt, .int .i64 wn, .slice B46 m46 e46] 49)
  clear E5 N5
  (try clear cD1 fD1); have cD1 := D1.cell; have fD1 := D1.frozen; (try clear cC1 fC1); have cC1 := C1.cell; have fC1 := C1.frozen
  go_wp2_with fail
  refine (K1.out _ _ _ _ M1).mono ?_; rintro e w8 ⟨A8, n8, c8, Y8, m8, d8, rfl, M8, L8, T8, hb8⟩; replace D1 := D1.bl hb8; replace C1 := C1.bl hb8; replace M6 := M6.bl hb8; replace L6 := L6.bl hb8; replace D6 := D6.bl hb8; replace R6 := R6.bl hb8; replace q : Below w.heap.size w w8 := (by repeat (first | (with_reducible exact Below.refl _ _) | (with_reducible assumption) | (with_reducible refine Below.drew ?_) | (with_reducible refine bdrewN ?_ _) | (with_reducible refine balloc ?_ _) | ((with_reducible refine bset ?_ ?_ _); rotate_left; (focus first | exact Nat.le_refl _ | (simp; done) | (simp; omega) | omega)) | (with_reducible refine bstep ?_ (by with_reducible assumption)) | (with_reducible refine Below.trans ?_ (by with_reducible assumption)))); clear hb8
  have D8 := Blk.new w8 25 #[.int .i64 (now), .slice A8 n8 c8]; replace M8 := M8.al (.cells #[.int .i64 (now), .slice A8 n8 c8] 25); replace L8 := L8.al (.cells #[.int .i64 (now), .slice A8 n8 c8] 25); replace D1 := D1.al (.cells #[.int .i64 (now), .slice A8 n8 c8] 25); replace C1 := C1.al (.cells #[.int .i64 (now), .slice A8 n8 c8] 25); replace M6 := M6.al (.cells #[.int .i64 (now), .slice A8 n8 c8] 25); replace L6 := L6.al (.cells #[.int .i64 (now), .slice A8 n8 c8] 25); replace D6 := D6.al (.cells #[.int .i64 (now), .slice A8 n8 c8] 25); replace R6 := R6.al (.cells #[.int .i64 (now), .slice A8 n8 c8] 25); have R8 : Blk ((w8.alloc (.cells #[.int .i64 (now), .slice A8 n8 c8] 25)).alloc (.cells #[.int .i64 (rc), .string rt, .int .i64 (rn), .slice Y8 m8 d8] 49)) (w8.heap.size + 1) 49 #[.int .i64 (rc), .string rt, .int .i64 (rn), .slice Y8 m8 d8] := Blk.new' _ _ _ (by simp); replace M8 := M8.al (.cells #[.int .i64 (rc), .string rt, .int .i64 (rn), .slice Y8 m8 d8] 49); replace L8 := L8.al (.cells #[.int .i64 (rc), .string rt, .int .i64 (rn), .slice Y8 m8 d8] 49); replace D8 := D8.al (.cells #[.int .i64 (rc), .string rt, .int .i64 (rn), .slice Y8 m8 d8] 49); replace D1 := D1.al (.cells #[.int .i64 (rc), .string rt, .int .i64 (rn), .slice Y8 m8 d8] 49); replace C1 := C1.al (.cells #[.int .i64 (rc), .string rt, .int .i64 (rn), .slice Y8 m8 d8] 49); replace M6 := M6.al (.cells #[.int .i64 (rc), .string rt, .int .i64 (rn), .slice Y8 m8 d8] 49); replace L6 := L6.al (.cells #[.int .i64 (rc), .string rt, .int .i64 (rn), .slice Y8 m8 d8] 49); replace D6 := D6.al (.cells #[.int .i64 (rc), .string rt, .int .i64 (rn), .slice Y8 m8 d8] 49); replace R6 := R6.al (.cells #[.int .i64 (rc), .string rt, .int .i64 (rn), .slice Y8 m8 d8] 49)
  clear M1 T8
  (try clear cC1 fC1); have cC1 := C1.cell; have fC1 := C1.frozen; (try clear cD8 fD8); have cD8 := D8.cell; have fD8 := D8.frozen
  go_wp2_with fail
  refine (KE2.out _ _ _ _ M8).mono ?_
  rintro e w9 ⟨s6, F1, f1, g1, F2, f2, g2, F3, f3, g3, rfl, N9, hb9⟩
  replace D1 := D1.bl hb9; replace C1 := C1.bl hb9; replace M6 := M6.bl hb9; replace L6 := L6.bl hb9; replace D6 := D6.bl hb9; replace R6 := R6.bl hb9; replace L8 := L8.bl hb9; replace R8 := R8.bl hb9
  replace q : Below w.heap.size w w9 := (by repeat (first | (with_reducible exact Below.refl _ _) | (with_reducible assumption) | (with_reducible refine Below.drew ?_) | (with_reducible refine bdrewN ?_ _) | (with_reducible refine balloc ?_ _) | ((with_reducible refine bset ?_ ?_ _); rotate_left; (focus first | exact Nat.le_refl _ | (simp; done) | (simp; omega) | omega)) | (with_reducible refine bstep ?_ (by with_reducible assumption)) | (with_reducible refine Below.trans ?_ (by with_reducible assumption))))
  clear hb9 M8 D8 cD8 fD8 C1 cC1 fC1
  have E9 := Blk.new w9 65 #[.string s6, .int .i64 vk, .string vt, .int .i64 vc, .slice F1 f1 g1, .slice F2 f2 g2, .slice F3 f3 g3, .int .i64 tl]
  replace D1 := D1.al (.cells #[.string s6, .int .i64 vk, .string vt, .int .i64 vc, .slice F1 f1 g1, .slice F2 f2 g2, .slice F3 f3 g3, .int .i64 tl] 65); replace M6 := M6.al (.cells #[.string s6, .int .i64 vk, .string vt, .int .i64 vc, .slice F1 f1 g1, .slice F2 f2 g2, .slice F3 f3 g3, .int .i64 tl] 65); replace L6 := L6.al (.cells #[.string s6, .int .i64 vk, .string vt, .int .i64 vc, .slice F1 f1 g1, .slice F2 f2 g2, .slice F3 f3 g3, .int .i64 tl] 65); replace D6 := D6.al (.cells #[.string s6, .int .i64 vk, .string vt, .int .i64 vc, .slice F1 f1 g1, .slice F2 f2 g2, .slice F3 f3 g3, .int .i64 tl] 65); replace R6 := R6.al (.cells #[.string s6, .int .i64 vk, .string vt, .int .i64 vc, .slice F1 f1 g1, .slice F2 f2 g2, .slice F3 f3 g3, .int .i64 tl] 65); replace L8 := L8.al (.cells #[.string s6, .int .i64 vk, .string vt, .int .i64 vc, .slice F1 f1 g1, .slice F2 f2 g2, .slice F3 f3 g3, .int .i64 tl] 65); replace R8 := R8.al (.cells #[.string s6, .int .i64 vk, .string vt, .int .i64 vc, .slice F1 f1 g1, .slice F2 f2 g2, .slice F3 f3 g3, .int .i64 tl] 65); replace N9 := N9.al (.cells #[.string s6, .int .i64 vk, .string vt, .int .i64 vc, .slice F1 f1 g1, .slice F2 f2 g2, .slice F3 f3 g3, .int .i64 tl] 65)
  obtain ⟨x1, x2⟩ := HX.out
  obtain ⟨bb, hbb, hb2, hb3⟩ : ∃ bb, decide (dk ≠ 0) = bb ∧ (dk == 0) = !bb ∧ (dk != 0) = bb := ⟨_, rfl, by by_cases h : dk = 0 <;> simp [h], by by_cases h : dk = 0 <;> simp [h]⟩
  cases b with
  | true =>
    obtain ⟨hr, t9, hv⟩ := x2 (by simp)
    clear HX x1 x2 KF KC K0 K1 KD KE KE2
    injection hr with r1 r2 r3 r4
    subst r1; subst r2; subst r3; subst r4
    rw [hbb] at hv
    injection hv with v1 v2
    injection v1 with i1 i2 i3 i4 i5 i6
    injection v2 with i7 i8
    subst i1; subst i2; subst i3; subst i4; subst i5; subst i6; subst i7; subst i8
    cases bl
    all_goals
      simp only [Bool.not_false, Bool.not_true] at hb2
      (try clear cD1 fD1); have cD1 := D1.cell; have fD1 := D1.frozen; (try clear cE9 fE9); have cE9 := E9.cell; have fE9 := E9.frozen; (try clear cD6 fD6); have cD6 := D6.cell; have fD6 := D6.frozen; (try clear cR6 fR6); have cR6 := R6.cell; have fR6 := R6.frozen; (try clear cR8 fR8); have cR8 := R8.cell; have fR8 := R8.frozen
      go_wp2_with fail
      refine (sameReply_eq ⟨_, _, _, _⟩ ⟨_, _, _, _⟩ _ _ _ _ _ _ _ L8 L6 rfl).mono ?_
      rintro e wA ⟨rfl, hbA⟩
      replace E9 := E9.bl hbA; replace D6 := D6.bl hbA; replace M6 := M6.bl hbA; replace N9 := N9.bl hbA
      (try clear cE9 fE9); have cE9 := E9.cell; have fE9 := E9.frozen; (try clear cD6 fD6); have cD6 := D6.cell; have fD6 := D6.frozen
      go_wp2_with fail
      refine (sameValue_eq ⟨_, _, _, _, _, _⟩ ⟨_, _, _, _, _, _⟩ _ _ _ _ _ _ _ _ _ _ _ _ _ _ _ _ _ _ _ N9 M6 rfl).mono ?_
      rintro e wB ⟨rfl, hbB⟩
      go_wp2_with fail
      go_ret
      exact ⟨rfl, (by repeat (first | (with_reducible exact Below.refl _ _) | (with_reducible assumption) | (with_reducible refine Below.drew ?_) | (with_reducible refine bdrewN ?_ _) | (with_reducible refine balloc ?_ _) | ((with_reducible refine bset ?_ ?_ _); rotate_left; (focus first | exact Nat.le_refl _ | (simp; done) | (simp; omega) | omega)) | (with_reducible refine bstep ?_ (by with_reducible assumption)) | (with_reducible refine Below.trans ?_ (by with_reducible assumption))))⟩
  | false =>
    by_cases hl : es.length = 12
    · have hx1 := x1 ⟨rfl, hl⟩
      obtain rfl : n1 = 12 := by rw [← z1.out]; exact hl
      clear HX x1 x2 KF KC K0 K1 KD KE KE2 z1 hl hbb hb2 hb3
      (try clear cD1 fD1); have cD1 := D1.cell; have fD1 := D1.frozen; (try clear cE9 fE9); have cE9 := E9.cell; have fE9 := E9.frozen; (try clear cD6 fD6); have cD6 := D6.cell; have fD6 := D6.frozen; (try clear cR6 fR6); have cR6 := R6.cell; have fR6 := R6.frozen; (try clear cR8 fR8); have cR8 := R8.cell; have fR8 := R8.frozen
      rcases hx1 with rfl | rfl
      · go_wp2_with fail
        go_ret
        exact ⟨rfl, (by repeat (first | (with_reducible exact Below.refl _ _) | (with_reducible assumption) | (with_reducible refine Below.drew ?_) | (with_reducible refine bdrewN ?_ _) | (with_reducible refine balloc ?_ _) | ((with_reducible refine bset ?_ ?_ _); rotate_left; (focus first | exact Nat.le_refl _ | (simp; done) | (simp; omega) | omega)) | (with_reducible refine bstep ?_ (by with_reducible assumption)) | (with_reducible refine Below.trans ?_ (by with_reducible assumption))))⟩
      · cases h6 : (rc == 6)
        · go_wp2_with fail
          go_ret
          exact ⟨rfl, (by repeat (first | (with_reducible exact Below.refl _ _) | (with_reducible assumption) | (with_reducible refine Below.drew ?_) | (with_reducible refine bdrewN ?_ _) | (with_reducible refine balloc ?_ _) | ((with_reducible refine bset ?_ ?_ _); rotate_left; (focus first | exact Nat.le_refl _ | (simp; done) | (simp; omega) | omega)) | (with_reducible refine bstep ?_ (by with_reducible assumption)) | (with_reducible refine Below.trans ?_ (by with_reducible assumption))))⟩
        · go_wp2_with fail
          go_ret
          exact ⟨rfl, (by repeat (first | (with_reducible exact Below.refl _ _) | (with_reducible assumption) | (with_reducible refine Below.drew ?_) | (with_reducible refine bdrewN ?_ _) | (with_reducible refine balloc ?_ _) | ((with_reducible refine bset ?_ ?_ _); rotate_left; (focus first | exact Nat.le_refl _ | (simp; done) | (simp; omega) | omega)) | (with_reducible refine bstep ?_ (by with_reducible assumption)) | (with_reducible refine Below.trans ?_ (by with_reducible assumption))))⟩
    · have hn1 : ¬ ((n1 : Int) = 12) := by have := z1.out; omega
      obtain ⟨hr, t9, hv⟩ := x2 (fun h => hl h.2)
      clear HX x1 x2 KF KC K0 K1 KD KE KE2
      injection hr with r1 r2 r3 r4
      subst r1; subst r2; subst r3; subst r4
      rw [hbb] at hv
      injection hv with v1 v2
      injection v1 with i1 i2 i3 i4 i5 i6
      injection v2 with i7 i8
      subst i1; subst i2; subst i3; subst i4; subst i5; subst i6; subst i7; subst i8
      cases bl
      all_goals
        simp only [Bool.not_false, Bool.not_true] at hb2
        (try clear cD1 fD1); have cD1 := D1.cell; have fD1 := D1.frozen; (try clear cE9 fE9); have cE9 := E9.cell; have fE9 := E9.frozen; (try clear cD6 fD6); have cD6 := D6.cell; have fD6 := D6.frozen; (try clear cR6 fR6); have cR6 := R6.cell; have fR6 := R6.frozen; (try clear cR8 fR8); have cR8 := R8.cell; have fR8 := R8.frozen
        go_wp2_with fail
        refine (sameReply_eq ⟨_, _, _, _⟩ ⟨_, _, _, _⟩ _ _ _ _ _ _ _ L8 L6 rfl).mono ?_
        rintro e wA ⟨rfl, hbA⟩
        replace E9 := E9.bl hbA; replace D6 := D6.bl hbA; replace M6 := M6.bl hbA; replace N9 := N9.bl hbA
        (try clear cE9 fE9); have cE9 := E9.cell; have fE9 := E9.frozen; (try clear cD6 fD6); have cD6 := D6.cell; have fD6 := D6.frozen
        go_wp2_with fail
        refine (sameValue_eq ⟨_, _, _, _, _, _⟩ ⟨_, _, _, _, _, _⟩ _ _ _ _ _ _ _ _ _ _ _ _ _ _ _ _ _ _ _ N9 M6 rfl).mono ?_
        rintro e wB ⟨rfl, hbB⟩
        go_wp2_with fail
        go_ret
        exact ⟨rfl, (by repeat (first | (with_reducible exact Below.refl _ _) | (with_reducible assumption) | (with_reducible refine Below.drew ?_) | (with_reducible refine bdrewN ?_ _) | (with_reducible refine balloc ?_ _) | ((with_reducible refine bset ?_ ?_ _); rotate_left; (focus first | exact Nat.le_refl _ | (simp; done) | (simp; omega) | omega)) | (with_reducible refine bstep ?_ (by with_reducible assumption)) | (with_reducible refine Below.trans ?_ (by with_reducible assumption))))⟩
theorem asValue_walk (A : Option Addr) (n c : Nat) (l : List StepD) (x : StepD) (w : World) (hS : Sl w 6 A n c (stepRows l)) (hd : ∀ d ∈ l, d.ok) (hx : x.ok) :
    Calls Try.prog 7 #[.slice A n c, .agg #[.int .i64 x.raw.kind, .int .i64 x.raw.key, .int .i64 x.raw.field, .int .i64 x.raw.n, .string x.raw.text, .int .i64 x.wait]] w fun e w' => e = .returned (.bool true) ∧ Below w.heap.size w w' := by
  by_cases h : (cmdD x.raw).kind ≤ 18
  · exact asValue_low A n c l x w hS hd hx h
  · exact asValue_over A n c l x w hS hd hx (by omega)
set_option maxRecDepth 100000 in
theorem asValue_lifted (os : Os) (started : os.Started) (H : Type) (enc : TypeId × Value → H) :
  ReturnsInHanded {} Try.checked os 7 .any (Rows.asValueSpec.pre6 enc Try.prog Try.f7 Rows.asValueRow.domain false) (Rows.asValueSpec.post enc Try.prog Try.f7 false true false false) := by
  refine returnsInHanded_of_change (C := Try.checked) Try.own started (by kernel_rfl) Try.func7 (ChangeSpec.witness6 (enc := enc) (C := Try.checked) false ⟨#[], #[.slice none 0 0, .agg #[.int .i64 0, .int .i64 0, .int .i64 0, .int .i64 0, .string ByteArray.empty, .int .i64 0]], []⟩ 8 (by kernel_rfl) (by kernel_rfl) (by kernel_rfl) (by kernel_rfl)) ?_
  intro W base args ds gs before hval0 hW hcnd _
  have hval : ∀ (j : Nat) t v, Try.f7.params[j]? = some t → args[j]? = some v → Value.okWide Try.prog W .any base t v := hval0
  have hW' := hW
  obtain ⟨p, q, hA0, hV, rfl, hfz, hnd⟩ := hW
  have hA : DataW.TrodAll enc Try.prog W 0 (fun _ => true) true Try.f7.params.toList args.toList ds p := hA0
  rw [Try.params7] at hA hval
  obtain ⟨rfl, rfl⟩ := trodVars_none hV
  clear hA0 hval0 hcnd hV hfz hnd
  obtain ⟨v0, v1, d0, d1, p0, p1, rfl, rfl, rfl, h0, h1⟩ := trodAll_two hA
  obtain ⟨A, n, c, l, rfl, hd, hS⟩ := open_steps (hval 0 55 v0 rfl rfl) h0
  obtain ⟨x, rfl, hx⟩ := open_step (hval 1 57 v1 rfl rfl) h1
  refine (asValue_walk A n c l x W hS hd hx).mono fun e W' ⟨he, hb⟩ => ?_
  subst he
  exact ⟨_, rfl, post_law Try.laidOut hW' rfl (by kernel_rfl) rfl Try.underlying4 (fun _ => rfl) (fun _ => rfl) (fun _ => rfl) hb⟩
theorem asValue_holds : Rows.AsValueSaid := OpenClaim.holds_of_wide 7 Try.f7 rfl rfl rfl rfl rfl rfl rfl ⟨rfl, rfl, rfl, rfl, rfl⟩ rfl rfl rfl rfl rfl (by kernel_rfl) Try.func7 (by kernel_rfl)
  (of_decide_eq_true (by kernel_rfl)) (by unfold Func.isWrapper; first | (rw [if_pos (by decide +kernel)]; kernel_rfl) | (rw [if_neg (by decide +kernel)]; exact ⟨rfl, rfl⟩))
  (fun os started H enc _ => asValue_lifted os started H enc)
#print axioms asValue_holds
end Go.Proofs.Ytpdadlofgfdlpaa
