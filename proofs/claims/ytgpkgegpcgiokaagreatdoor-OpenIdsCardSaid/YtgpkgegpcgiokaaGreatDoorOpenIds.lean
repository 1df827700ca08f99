/- rostrumkeep.OpenIds returns true for every input; client.nothing holds what its initialiser lays. -/
import Derived.Test.YtgpkgegpcgiokaaGreatDoorMachE
import Derived.Test.YtgpkgegpcgiokaaGreatDoorLaidN
import Derived.Test.YtgpkgegpcgiokaaGreatDoorMachL
namespace Go.Proofs.YtgpkgegpcgiokaaGreatDoor
set_option linter.all false
open Go.ChangeShapes Go.WideShapes Go.ChangeAt Go.RowKit
set_option maxRecDepth 100000 in
set_option maxHeartbeats 16000000 in
theorem openIds_walk (A : Option Addr) (n c : Nat) (l : List DeedD) (w : World) (hS : Sl w 8 A n c (deedRows l)) (hd : ∀ d ∈ l, d.ok) (hN : Noth w) :
    Calls Tryz.prog 5 #[.slice A n c] w fun e w' => e = .returned (.bool true) ∧ Below w.heap.size w w' := by
  have HF := hide (fun w' (hb : Below w.heap.size w w') => Machine_any A n c l w' (hS.below hb) hd (hN.bl hb))
  have hinv := machOf_inv l
  generalize machOf l = m at *
  have hok := hinv.ok
  have hx := open_inv hinv (by omega)
  obtain ⟨-, -, -, -, -, e1, r1⟩ := open_last hinv (by omega)
  obtain ⟨i, hi, hil, e3, -, e2, r2⟩ := open_last hx (by omega)
  have hnw : (openM m).1.now = m.now := (open_keeps m).1
  have hy := (open_inv hx (by omega)).ok
  have hDo := fun A1 n1 c1 B1 k1 d1 w' hE hC hN => DoM_any hok zeroCall_ m.now _ (apply_now hok zero_cc) (by have := hok.sto.now0; omega) (by have := hok.sto.now1; omega) A1 B1 n1 c1 k1 d1 w' hE hC hN
  have ha := apply_now hx.ok zero_cc
  rw [hnw] at ha
  have hDo2 := fun A1 n1 c1 B1 k1 d1 w' hE hC hN => DoM_any hx.ok zeroCall_ m.now _ ha (by have := hok.sto.now0; omega) (by have := hok.sto.now1; omega) A1 B1 n1 c1 k1 d1 w' hE hC hN
  have z1 : doM m zeroCall_ = openM m := doM_open _ _ _
  have z2 : doM (openM m).1 zeroCall_ = openM (openM m).1 := doM_open _ _ _
  rw [z1, r1] at hDo
  rw [z2, r2, e1] at hDo2
  have hidn := fun x hx => (hok.cli x hx).idn
  have hy4 := hy.few
  have hm4 := hok.few
  have hnx := hinv.next
  have hnx1 := hok.next1
  clear ha z1 z2 r1 r2 hy hx hok hinv
  generalize (openM (openM m).1).1 = y at *
  generalize (openM m).1 = x at *
  obtain ⟨now, ents, next, clis⟩ := m
  obtain ⟨xnow, xents, xnext, xclis⟩ := x
  obtain ⟨ynow, yents, ynext, yclis⟩ := y
  simp only at e1 e2 e3 hi hil hnw hidn hy4 hm4 hnx hnx1 hDo hDo2
  subst e1; subst hnw
  have hq1 : toldR next = ⟨0, { data := #[] }, next, []⟩ := rfl
  have hq2 : toldR (next + 1) = ⟨0, { data := #[] }, next + 1, []⟩ := rfl
  rw [hq1] at hDo
  rw [hq2] at hDo2
  have hzc : zeroCall_.client = 0 ∧ zeroCall_.seq = 0 ∧ zeroCall_.cmd.kind = 0 ∧ zeroCall_.cmd.key = { data := #[] } ∧ zeroCall_.cmd.field = { data := #[] } ∧ zeroCall_.cmd.text = { data := #[] } ∧ zeroCall_.cmd.n = 0 := ⟨rfl, rfl, rfl, rfl, rfl, rfl, rfl⟩
  obtain ⟨z1, z2, z3, z4, z5, z6, z7⟩ := hzc
  rw [z1, z2, z3, z4, z5, z6, z7] at hDo hDo2
  have HDO := hide hDo; have HD2 := hide hDo2; have HID := hide hidn
  clear hDo hDo2 hidn hd z1 z2 z3 z4 z5 z6 z7 hq1 hq2 e2
  go_enter Tryz.func5, Tryz.ntmps5
  go_wp2_with fail
  refine (HF.out _ (Below.refl _ w)).mono ?_
  rintro e w1 ⟨A1, n1, c1, B1, k1, d1, rfl, S1, C1, hb1⟩
  have q : Below w.heap.size w w1 := below_by
  clear hb1 HF
  have D1 := Blk.new w1 32 #[.int .i64 (xnow), .slice A1 n1 c1, .int .i64 (next), .slice B1 k1 d1]; replace S1 := S1.al (.cells #[.int .i64 (xnow), .slice A1 n1 c1, .int .i64 (next), .slice B1 k1 d1] 32); replace C1 := C1.al (.cells #[.int .i64 (xnow), .slice A1 n1 c1, .int .i64 (next), .slice B1 k1 d1] 32)
  (try clear cD1 fD1); have cD1 := D1.cell; have fD1 := D1.frozen
  go_wp2_with fail
  refine (HDO.out _ _ _ _ _ _ _ S1 C1 (hN.bl below_by)).mono ?_; rintro e w2 ⟨A2, n2, c2, B2, k2, d2, Y2, m2, o2, rfl, S2, C2, T2, hb2⟩; replace S1 := S1.bl hb2; replace C1 := C1.bl hb2; replace D1 := D1.bl hb2; replace q : Below w.heap.size w w2 := below_by; clear hb2
  have D2 := Blk.new w2 32 #[.int .i64 (xnow), .slice A2 n2 c2, .int .i64 ((next + 1)), .slice B2 k2 d2]; replace S2 := S2.al (.cells #[.int .i64 (xnow), .slice A2 n2 c2, .int .i64 ((next + 1)), .slice B2 k2 d2] 32); replace C2 := C2.al (.cells #[.int .i64 (xnow), .slice A2 n2 c2, .int .i64 ((next + 1)), .slice B2 k2 d2] 32); replace T2 := T2.al (.cells #[.int .i64 (xnow), .slice A2 n2 c2, .int .i64 ((next + 1)), .slice B2 k2 d2] 32); replace S1 := S1.al (.cells #[.int .i64 (xnow), .slice A2 n2 c2, .int .i64 ((next + 1)), .slice B2 k2 d2] 32); replace C1 := C1.al (.cells #[.int .i64 (xnow), .slice A2 n2 c2, .int .i64 ((next + 1)), .slice B2 k2 d2] 32); replace D1 := D1.al (.cells #[.int .i64 (xnow), .slice A2 n2 c2, .int .i64 ((next + 1)), .slice B2 k2 d2] 32); have R2 : Blk ((w2.alloc (.cells #[.int .i64 (xnow), .slice A2 n2 c2, .int .i64 ((next + 1)), .slice B2 k2 d2] 32)).alloc (.cells #[.int .i64 (0), .string { data := #[] }, .int .i64 (next), .slice Y2 m2 o2] 37)) (w2.heap.size + 1) 37 #[.int .i64 (0), .string { data := #[] }, .int .i64 (next), .slice Y2 m2 o2] := Blk.new' _ _ _ (by simp); replace S2 := S2.al (.cells #[.int .i64 (0), .string { data := #[] }, .int .i64 (next), .slice Y2 m2 o2] 37); replace C2 := C2.al (.cells #[.int .i64 (0), .string { data := #[] }, .int .i64 (next), .slice Y2 m2 o2] 37); replace T2 := T2.al (.cells #[.int .i64 (0), .string { data := #[] }, .int .i64 (next), .slice Y2 m2 o2] 37); replace D2 := D2.al (.cells #[.int .i64 (0), .string { data := #[] }, .int .i64 (next), .slice Y2 m2 o2] 37); replace S1 := S1.al (.cells #[.int .i64 (0), .string { data := #[] }, .int .i64 (next), .slice Y2 m2 o2] 37); replace C1 := C1.al (.cells #[.int .i64 (0), .string { data := #[] }, .int .i64 (next), .slice Y2 m2 o2] 37); replace D1 := D1.al (.cells #[.int .i64 (0), .string { data := #[] }, .int .i64 (next), .slice Y2 m2 o2] 37)
  clear HDO
  have q2 : Below w.heap.size w ((w2.alloc (.cells #[.int .i64 (xnow), .slice A2 n2 c2, .int .i64 ((next + 1)), .slice B2 k2 d2] 32)).alloc (.cells #[.int .i64 (0), .string { data := #[] }, .int .i64 (next), .slice Y2 m2 o2] 37)) := below_by
  clear q cD1 fD1
  go_wp2_with fail
  obtain ⟨W, hW⟩ : ∃ W, W = ((w2.alloc (.cells #[.int .i64 (xnow), .slice A2 n2 c2, .int .i64 ((next + 1)), .slice B2 k2 d2] 32)).alloc (.cells #[.int .i64 (0), .string { data := #[] }, .int .i64 (next), .slice Y2 m2 o2] 37)) := ⟨_, rfl⟩
  rw [← hW] at S1 C1 D1 S2 C2 T2 D2 R2 q2 ⊢
  clear hW
  have hk1 := C1.sl.len
  go_loopw [7] (fun s7 wr => ∃ k : Nat, k ≤ k1 ∧ s7 = .int .i64 (k : Int) ∧ Below W.heap.size W wr) (fun s7 _ => k1 - (intOf s7).toNat)
  case atStart => exact ⟨0, by omega, rfl, Below.refl _ _⟩
  case round =>
    obtain ⟨k, hk, rfl, hbr⟩ := hrel
    have Dr := D1.below' hbr; have D2r := D2.below' hbr; have R2r := R2.below' hbr
    have hl1 := Dr.lt; have hl2 := D2r.lt; have hl3 := R2r.lt
    by_cases hlt : k < k1
    · have hkl : k < clis.length := by omega
      obtain ⟨b, off, Y, mm, d, rfl, hbb, ⟨i0, i1, i2, i3, i4, i5, i6⟩, -⟩ := (C1.bl hbr).sl.at_ hkl
      have hid := HID.out _ (List.getElem_mem hkl)
      generalize clis[k] = x at i0 hid
      obtain ⟨xi, xs, xt, xr⟩ := x
      simp only at i0 hid
      clear i1 i2 i3 i4 i5 i6
      have hz1 : (0 : Int) ≤ (k : Int) := by omega
      have hz2 : (k : Int) < (k1 : Int) := by omega
      have hd1 : decide (next ≤ xi) = false := by simp; omega
      (try clear cDr fDr); have cDr := Dr.cell; have fDr := Dr.frozen; (try clear cR2r fR2r); have cR2r := R2r.cell; have fR2r := R2r.frozen
      go_upto_region 6 with fail
      go_quiet (fail)
      go_wp2_with fail
      go_roundw
      case rel => exact ⟨k + 1, by omega, by go_num, below_by⟩
      case measure => simp [intOf]; omega
    · obtain rfl : k = k1 := by omega
      have qr := bstep q2 hbr
      have N9 := hN.bl qr
      have S9 := S2.bl hbr
      have C9 := C2.bl hbr
      clear S1 C1 D1 S2 C2 D2 R2 T2 hbr q2
      (try clear cDr fDr); have cDr := Dr.cell; have fDr := Dr.frozen; (try clear cD2r fD2r); have cD2r := D2r.cell; have fD2r := D2r.frozen; (try clear cR2r fR2r); have cR2r := R2r.cell; have fR2r := R2r.frozen
      go_wp2_with fail
      refine (HD2.out _ _ _ _ _ _ wr S9 C9 N9).mono ?_
      rintro e w3 ⟨A3, n3, c3, B3, k3, d3, Y3, m3, o3, rfl, S3, C3, T3, hb3⟩
      replace Dr := Dr.bl hb3; replace D2r := D2r.bl hb3; replace R2r := R2r.bl hb3
      have q : Below w.heap.size w w3 := bstep qr hb3
      clear hb3 HD2 qr S3 T3 S9 C9 N9 cDr fDr cD2r fD2r cR2r fR2r
      have hk3 : yclis.length = k3 := C3.sl.len
      have D3 := Blk.new w3 32 #[.int .i64 (ynow), .slice A3 n3 c3, .int .i64 (ynext), .slice B3 k3 d3]
      replace C3 := C3.al (.cells #[.int .i64 (ynow), .slice A3 n3 c3, .int .i64 (ynext), .slice B3 k3 d3] 32); replace Dr := Dr.al (.cells #[.int .i64 (ynow), .slice A3 n3 c3, .int .i64 (ynext), .slice B3 k3 d3] 32); replace D2r := D2r.al (.cells #[.int .i64 (ynow), .slice A3 n3 c3, .int .i64 (ynext), .slice B3 k3 d3] 32); replace R2r := R2r.al (.cells #[.int .i64 (ynow), .slice A3 n3 c3, .int .i64 (ynext), .slice B3 k3 d3] 32)
      have R3 : Blk ((w3.alloc (.cells #[.int .i64 (ynow), .slice A3 n3 c3, .int .i64 (ynext), .slice B3 k3 d3] 32)).alloc (.cells #[.int .i64 (0), .string { data := #[] }, .int .i64 ((next + 1)), .slice Y3 m3 o3] 37)) (w3.heap.size + 1) 37 #[.int .i64 (0), .string { data := #[] }, .int .i64 ((next + 1)), .slice Y3 m3 o3] := Blk.new' _ _ _ (by simp)
      replace C3 := C3.al (.cells #[.int .i64 (0), .string { data := #[] }, .int .i64 ((next + 1)), .slice Y3 m3 o3] 37); replace D3 := D3.al (.cells #[.int .i64 (0), .string { data := #[] }, .int .i64 ((next + 1)), .slice Y3 m3 o3] 37); replace Dr := Dr.al (.cells #[.int .i64 (0), .string { data := #[] }, .int .i64 ((next + 1)), .slice Y3 m3 o3] 37); replace D2r := D2r.al (.cells #[.int .i64 (0), .string { data := #[] }, .int .i64 ((next + 1)), .slice Y3 m3 o3] 37); replace R2r := R2r.al (.cells #[.int .i64 (0), .string { data := #[] }, .int .i64 ((next + 1)), .slice Y3 m3 o3] 37)
      have q9 : Below w.heap.size w ((w3.alloc (.cells #[.int .i64 (ynow), .slice A3 n3 c3, .int .i64 (ynext), .slice B3 k3 d3] 32)).alloc (.cells #[.int .i64 (0), .string { data := #[] }, .int .i64 ((next + 1)), .slice Y3 m3 o3] 37)) := below_by
      go_wp2_with fail
      obtain ⟨V, hV⟩ : ∃ V, V = ((w3.alloc (.cells #[.int .i64 (ynow), .slice A3 n3 c3, .int .i64 (ynext), .slice B3 k3 d3] 32)).alloc (.cells #[.int .i64 (0), .string { data := #[] }, .int .i64 ((next + 1)), .slice Y3 m3 o3] 37)) := ⟨_, rfl⟩
      rw [← hV] at C3 D3 R3 Dr D2r R2r q9 ⊢
      clear hV
      obtain ⟨b, off, Y, mm, d, rfl, hbb, ⟨i0, -, -, -, -, -, -⟩, -⟩ := C3.sl.at_ hi
      rw [e3] at i0
      have hl1 := Dr.lt; have hl2 := D2r.lt; have hl3 := R2r.lt
      have hw1 : IntKind.i64.wrap (next + 1) = next + 1 := IntWalk.i64_in _ (by omega)
      have hw2 : IntKind.i64.wrap ((k3 : Int) - 1) = (i : Int) := by rw [IntWalk.i64_in _ (by omega)]; omega
      have hz1 : (0 : Int) ≤ (i : Int) := by omega
      have hz2 : (i : Int) < (k3 : Int) := by omega
      have hz3 : (0 : Int) < (k3 : Int) := by omega
      have hz4 : decide ((0 : Int) < (k3 : Int)) = true := decide_eq_true hz3
      have hz7 : decide (0 < k3) = true := decide_eq_true (by omega)
      have hz6 : (k3 : Int) ≤ 4 := by omega
      have hz5 : decide ((k3 : Int) ≤ 4) = true := decide_eq_true hz6
      (try clear cD3 fD3); have cD3 := D3.cell; have fD3 := D3.frozen
      go_upto_region 10 with fail
      refine wp_region_x (l := []) (S := fun w' => w'.cell? ⟨w2.heap.size + 1, 2, none⟩ = some (.int .i64 next) ∧ w'.cell? ⟨w1.heap.size, 2, none⟩ = some (.int .i64 next) ∧ w'.cell? ⟨w3.heap.size + 1, 2, none⟩ = some (.int .i64 (next + 1)) ∧ w'.cell? ⟨w2.heap.size, 2, none⟩ = some (.int .i64 (next + 1)) ∧ w'.cell? ⟨w3.heap.size, 3, none⟩ = some (.slice (some ⟨b, off, none⟩) k3 d3) ∧ w'.cell? ⟨b, off + i * 7, none⟩ = some (.int .i64 (next + 1))) (by kernel_rfl) ⟨R2r.drew.cell 2, Dr.drew.cell 2, R3.drew.cell 2, D2r.drew.cell 2, D3.drew.cell 3, i0⟩ (fun hS => ?_)
      refine wpAnyX_tk (i := 0) (v := ?xv0z) rfl (Or.inl ⟨by rfl, ?xh0z⟩) ?xr0z; (case xh0z => (intro w hSw; (try dsimp only at hSw); go_simp; (try with_reducible rfl))); (try simp only [Act.put, List.setIfInBounds_toArray, List.set_cons_zero, List.set_cons_succ, List.getElem_toArray, List.getElem_cons_zero, List.getElem_cons_succ])
      refine wpAnyX_tk (i := 1) (v := ?xv1z) rfl (Or.inl ⟨by rfl, ?xh1z⟩) ?xr1z; (case xh1z => (intro w hSw; (try dsimp only at hSw); go_simp; (try with_reducible rfl))); (try simp only [Act.put, List.setIfInBounds_toArray, List.set_cons_zero, List.set_cons_succ, List.getElem_toArray, List.getElem_cons_zero, List.getElem_cons_succ])
      refine wpAnyX_tk (i := 2) (v := ?xv2z) rfl (Or.inl ⟨by rfl, ?xh2z⟩) ?xr2z; (case xh2z => (intro w hSw; (try dsimp only at hSw); go_simp; (try with_reducible rfl))); (try simp only [Act.put, List.setIfInBounds_toArray, List.set_cons_zero, List.set_cons_succ, List.getElem_toArray, List.getElem_cons_zero, List.getElem_cons_succ])
      refine wpAnyX_tk (i := 3) (v := ?xv3z) rfl (Or.inl ⟨by rfl, ?xh3z⟩) ?xr3z; (case xh3z => (intro w hSw; (try dsimp only at hSw); go_simp; (try with_reducible rfl))); (try simp only [Act.put, List.setIfInBounds_toArray, List.set_cons_zero, List.set_cons_succ, List.getElem_toArray, List.getElem_cons_zero, List.getElem_cons_succ])
      refine wpAnyX_tk (i := 4) (v := ?xv4z) rfl (Or.inl ⟨by rfl, ?xh4z⟩) ?xr4z; (case xh4z => (intro w hSw; (try dsimp only at hSw); go_simp; (try with_reducible rfl))); (try simp only [Act.put, List.setIfInBounds_toArray, List.set_cons_zero, List.set_cons_succ, List.getElem_toArray, List.getElem_cons_zero, List.getElem_cons_succ])
      refine wpAnyX_tk (i := 5) (v := ?xv5z) rfl (Or.inl ⟨by rfl, ?xh5z⟩) ?xr5z; (case xh5z => (intro w hSw; (try dsimp only at hSw); go_simp; (try with_reducible rfl))); (try simp only [Act.put, List.setIfInBounds_toArray, List.set_cons_zero, List.set_cons_succ, List.getElem_toArray, List.getElem_cons_zero, List.getElem_cons_succ])
      refine wpAnyX_tk (i := 6) (v := ?xv6z) rfl (Or.inl ⟨by rfl, ?xh6z⟩) ?xr6z; (case xh6z => (intro w hSw; (try dsimp only at hSw); go_simp; (try with_reducible rfl))); (try simp only [Act.put, List.setIfInBounds_toArray, List.set_cons_zero, List.set_cons_succ, List.getElem_toArray, List.getElem_cons_zero, List.getElem_cons_succ])
      refine wpAnyX_tk (i := 7) (v := ?xv7z) rfl (Or.inl ⟨by rfl, ?xh7z⟩) ?xr7z; (case xh7z => (intro w hSw; (try dsimp only at hSw); go_simp; (try with_reducible rfl))); (try simp only [Act.put, List.setIfInBounds_toArray, List.set_cons_zero, List.set_cons_succ, List.getElem_toArray, List.getElem_cons_zero, List.getElem_cons_succ])
      refine wpAnyX_tk (i := 8) (v := ?xv8z) rfl (Or.inl ⟨by rfl, ?xh8z⟩) ?xr8z; (case xh8z => (intro w hSw; (try dsimp only at hSw); go_simp; (try with_reducible rfl))); (try simp only [Act.put, List.setIfInBounds_toArray, List.set_cons_zero, List.set_cons_succ, List.getElem_toArray, List.getElem_cons_zero, List.getElem_cons_succ])
      refine wpAnyX_tk (i := 9) (v := ?xv9z) rfl (Or.inl ⟨by rfl, ?xh9z⟩) ?xr9z; (case xh9z => (intro w hSw; (try dsimp only at hSw); go_simp; (try with_reducible rfl))); (try simp only [Act.put, List.setIfInBounds_toArray, List.set_cons_zero, List.set_cons_succ, List.getElem_toArray, List.getElem_cons_zero, List.getElem_cons_succ])
      refine wpAnyX_tk (i := 10) (v := ?xv10z) rfl (Or.inl ⟨by rfl, ?xh10z⟩) ?xr10z; (case xh10z => (intro w hSw; (try dsimp only at hSw); go_simp; (try with_reducible rfl))); (try simp only [Act.put, List.setIfInBounds_toArray, List.set_cons_zero, List.set_cons_succ, List.getElem_toArray, List.getElem_cons_zero, List.getElem_cons_succ])
      refine wpAnyX_tk (i := 11) (v := ?xv11z) rfl (Or.inl ⟨by rfl, ?xh11z⟩) ?xr11z; (case xh11z => (intro w hSw; (try dsimp only at hSw); go_simp; (try with_reducible rfl))); (try simp only [Act.put, List.setIfInBounds_toArray, List.set_cons_zero, List.set_cons_succ, List.getElem_toArray, List.getElem_cons_zero, List.getElem_cons_succ])
      refine wpAnyX_tk (i := 12) (v := ?xv12z) rfl (Or.inl ⟨by rfl, ?xh12z⟩) ?xr12z; (case xh12z => (intro w hSw; (try dsimp only at hSw); go_simp; (try with_reducible rfl))); (try simp only [Act.put, List.setIfInBounds_toArray, List.set_cons_zero, List.set_cons_succ, List.getElem_toArray, List.getElem_cons_zero, List.getElem_cons_succ])
      refine wpAnyX_tk (i := 13) (v := ?xv13z) rfl (Or.inl ⟨by rfl, ?xh13z⟩) ?xr13z; (case xh13z => (intro w hSw; (try dsimp only at hSw); go_simp; (try with_reducible rfl))); (try simp only [Act.put, List.setIfInBounds_toArray, List.set_cons_zero, List.set_cons_succ, List.getElem_toArray, List.getElem_cons_zero, List.getElem_cons_succ])
      refine wpAnyX_tk (i := 14) (v := ?xv14z) rfl (Or.inl ⟨by rfl, ?xh14z⟩) ?xr14z; (case xh14z => (intro w hSw; (try dsimp only at hSw); go_simp; (try with_reducible rfl))); (try simp only [Act.put, List.setIfInBounds_toArray, List.set_cons_zero, List.set_cons_succ, List.getElem_toArray, List.getElem_cons_zero, List.getElem_cons_succ])
      refine wpAnyX_tk (i := 15) (v := ?xv15z) rfl (Or.inl ⟨by rfl, ?xh15z⟩) ?xr15z; (case xh15z => (intro w hSw; (try dsimp only at hSw); go_simp; (try with_reducible rfl))); (try simp only [Act.put, List.setIfInBounds_toArray, List.set_cons_zero, List.set_cons_succ, List.getElem_toArray, List.getElem_cons_zero, List.getElem_cons_succ])
      refine wpAnyX_tk (i := 16) (v := ?xv16z) rfl (Or.inl ⟨by rfl, ?xh16z⟩) ?xr16z; (case xh16z => (intro w hSw; (try dsimp only at hSw); go_simp; (try with_reducible rfl))); (try simp only [Act.put, List.setIfInBounds_toArray, List.set_cons_zero, List.set_cons_succ, List.getElem_toArray, List.getElem_cons_zero, List.getElem_cons_succ])
      refine wpAnyX_tk (i := 17) (v := ?xv17z) rfl (Or.inl ⟨by rfl, ?xh17z⟩) ?xr17z; (case xh17z => (intro w hSw; (try dsimp only at hSw); go_simp; (try with_reducible rfl))); (try simp only [Act.put, List.setIfInBounds_toArray, List.set_cons_zero, List.set_cons_succ, List.getElem_toArray, List.getElem_cons_zero, List.getElem_cons_succ])
      refine wpAnyX_tk (i := 18) (v := ?xv18z) rfl (Or.inl ⟨by rfl, ?xh18z⟩) ?xr18z; (case xh18z => (intro w hSw; (try dsimp only at hSw); go_simp; (try with_reducible rfl))); (try simp only [Act.put, List.setIfInBounds_toArray, List.set_cons_zero, List.set_cons_succ, List.getElem_toArray, List.getElem_cons_zero, List.getElem_cons_succ])
      refine wpAnyX_tk (i := 19) (v := ?xv19z) rfl (Or.inl ⟨by rfl, ?xh19z⟩) ?xr19z; (case xh19z => (intro w hSw; (try dsimp only at hSw); go_simp; (try with_reducible rfl))); (try simp only [Act.put, List.setIfInBounds_toArray, List.set_cons_zero, List.set_cons_succ, List.getElem_toArray, List.getElem_cons_zero, List.getElem_cons_succ])
      refine wpAnyX_tk (i := 20) (v := ?xv20z) rfl (Or.inl ⟨by rfl, ?xh20z⟩) ?xr20z; (case xh20z => (intro w hSw; (try dsimp only at hSw); go_simp; (try with_reducible rfl))); (try simp only [Act.put, List.setIfInBounds_toArray, List.set_cons_zero, List.set_cons_succ, List.getElem_toArray, List.getElem_cons_zero, List.getElem_cons_succ])
      refine wpAnyX_tk (i := 21) (v := ?xv21z) rfl (Or.inl ⟨by rfl, ?xh21z⟩) ?xr21z; (case xh21z => (intro w hSw; (try dsimp only at hSw); go_simp; (try with_reducible rfl))); (try simp only [Act.put, List.setIfInBounds_toArray, List.set_cons_zero, List.set_cons_succ, List.getElem_toArray, List.getElem_cons_zero, List.getElem_cons_succ])
      refine wpAnyX_tk (i := 22) (v := ?xv22z) rfl (Or.inl ⟨by rfl, ?xh22z⟩) ?xr22z; (case xh22z => (intro w hSw; (try dsimp only at hSw); go_simp; (try with_reducible rfl))); (try simp only [Act.put, List.setIfInBounds_toArray, List.set_cons_zero, List.set_cons_succ, List.getElem_toArray, List.getElem_cons_zero, List.getElem_cons_succ])
      refine wpAnyX_tk (i := 23) (v := ?xv23z) rfl (Or.inl ⟨by rfl, ?xh23z⟩) ?xr23z; (case xh23z => (intro w hSw; (try dsimp only at hSw); go_simp; (try with_reducible rfl))); (try simp only [Act.put, List.setIfInBounds_toArray, List.set_cons_zero, List.set_cons_succ, List.getElem_toArray, List.getElem_cons_zero, List.getElem_cons_succ])
      refine wpAnyX_tk (i := 24) (v := ?xv24z) rfl (Or.inl ⟨by rfl, ?xh24z⟩) ?xr24z; (case xh24z => (intro w hSw; (try dsimp only at hSw); go_simp; (try with_reducible rfl))); (try simp only [Act.put, List.setIfInBounds_toArray, List.set_cons_zero, List.set_cons_succ, List.getElem_toArray, List.getElem_cons_zero, List.getElem_cons_succ])
      refine wpAnyX_tk (i := 25) (v := ?xv25z) rfl (Or.inl ⟨by rfl, ?xh25z⟩) ?xr25z; (case xh25z => (intro w hSw; (try dsimp only at hSw); go_simp; (try with_reducible rfl))); (try simp only [Act.put, List.setIfInBounds_toArray, List.set_cons_zero, List.set_cons_succ, List.getElem_toArray, List.getElem_cons_zero, List.getElem_cons_succ])
      refine wpAnyX_tk (i := 26) (v := ?xv26z) rfl (Or.inl ⟨by rfl, ?xh26z⟩) ?xr26z; (case xh26z => (intro w hSw; (try dsimp only at hSw); go_simp; (try with_reducible rfl))); (try simp only [Act.put, List.setIfInBounds_toArray, List.set_cons_zero, List.set_cons_succ, List.getElem_toArray, List.getElem_cons_zero, List.getElem_cons_succ])
      refine wpAnyX_tk (i := 27) (v := ?xv27z) rfl (Or.inl ⟨by rfl, ?xh27z⟩) ?xr27z; (case xh27z => (intro w hSw; (try dsimp only at hSw); go_simp; (try with_reducible rfl))); (try simp only [Act.put, List.setIfInBounds_toArray, List.set_cons_zero, List.set_cons_succ, List.getElem_toArray, List.getElem_cons_zero, List.getElem_cons_succ])
      refine wpAnyX_tk (i := 28) (v := ?xv28z) rfl (Or.inl ⟨by rfl, ?xh28z⟩) ?xr28z; (case xh28z => (intro w hSw; (try dsimp only at hSw); go_simp; (try with_reducible rfl))); (try simp only [Act.put, List.setIfInBounds_toArray, List.set_cons_zero, List.set_cons_succ, List.getElem_toArray, List.getElem_cons_zero, List.getElem_cons_succ])
      refine wpAnyX_tk (i := 29) (v := ?xv29z) rfl (Or.inl ⟨by rfl, ?xh29z⟩) ?xr29z; (case xh29z => (intro w hSw; (try dsimp only at hSw); go_simp; (try with_reducible rfl))); (try simp only [Act.put, List.setIfInBounds_toArray, List.set_cons_zero, List.set_cons_succ, List.getElem_toArray, List.getElem_cons_zero, List.getElem_cons_succ])
      refine wpAnyX_tk (i := 30) (v := ?xv30z) rfl (Or.inl ⟨by rfl, ?xh30z⟩) ?xr30z; (case xh30z => (intro w hSw; (try dsimp only at hSw); go_simp; (try with_reducible rfl))); (try simp only [Act.put, List.setIfInBounds_toArray, List.set_cons_zero, List.set_cons_succ, List.getElem_toArray, List.getElem_cons_zero, List.getElem_cons_succ])
      refine wpAnyX_tk (i := 31) (v := ?xv31z) rfl (Or.inl ⟨by rfl, ?xh31z⟩) ?xr31z; (case xh31z => (intro w hSw; (try dsimp only at hSw); go_simp; (try with_reducible rfl))); (try simp only [Act.put, List.setIfInBounds_toArray, List.set_cons_zero, List.set_cons_succ, List.getElem_toArray, List.getElem_cons_zero, List.getElem_cons_succ])
      refine wpAnyX_tk (i := 32) (v := ?xv32z) rfl (Or.inl ⟨by rfl, ?xh32z⟩) ?xr32z; (case xh32z => (intro w hSw; (try dsimp only at hSw); go_simp; (try with_reducible rfl))); (try simp only [Act.put, List.setIfInBounds_toArray, List.set_cons_zero, List.set_cons_succ, List.getElem_toArray, List.getElem_cons_zero, List.getElem_cons_succ])
      refine wpAnyX_tk (i := 33) (v := ?xv33z) rfl (Or.inl ⟨by rfl, ?xh33z⟩) ?xr33z; (case xh33z => (intro w hSw; (try dsimp only at hSw); go_simp; (try with_reducible rfl))); (try simp only [Act.put, List.setIfInBounds_toArray, List.set_cons_zero, List.set_cons_succ, List.getElem_toArray, List.getElem_cons_zero, List.getElem_cons_succ])
      refine wpAnyX_tk (i := 34) (v := ?xv34z) rfl (Or.inl ⟨by rfl, ?xh34z⟩) ?xr34z; (case xh34z => (intro w hSw; (try dsimp only at hSw); go_simp; (try with_reducible rfl))); (try simp only [Act.put, List.setIfInBounds_toArray, List.set_cons_zero, List.set_cons_succ, List.getElem_toArray, List.getElem_cons_zero, List.getElem_cons_succ])
      refine wpAnyX_tk (i := 35) (v := ?xv35z) rfl (Or.inl ⟨by rfl, ?xh35z⟩) ?xr35z; (case xh35z => (intro w hSw; (try dsimp only at hSw); go_simp; (try with_reducible rfl))); (try simp only [Act.put, List.setIfInBounds_toArray, List.set_cons_zero, List.set_cons_succ, List.getElem_toArray, List.getElem_cons_zero, List.getElem_cons_succ])
      refine wpAnyX_tk (i := 36) (v := ?xv36z) rfl (Or.inl ⟨by rfl, ?xh36z⟩) ?xr36z; (case xh36z => (intro w hSw; (try dsimp only at hSw); go_simp; (try with_reducible rfl))); (try simp only [Act.put, List.setIfInBounds_toArray, List.set_cons_zero, List.set_cons_succ, List.getElem_toArray, List.getElem_cons_zero, List.getElem_cons_succ])
      refine wpAnyX_tk (i := 37) (v := ?xv37z) rfl (Or.inl ⟨by rfl, ?xh37z⟩) ?xr37z; (case xh37z => (intro w hSw; (try dsimp only at hSw); go_simp; (try with_reducible rfl))); (try simp only [Act.put, List.setIfInBounds_toArray, List.set_cons_zero, List.set_cons_succ, List.getElem_toArray, List.getElem_cons_zero, List.getElem_cons_succ])
      refine wpAnyX_tk (i := 38) (v := ?xv38z) rfl (Or.inl ⟨by rfl, ?xh38z⟩) ?xr38z; (case xh38z => (intro w hSw; (try dsimp only at hSw); go_simp; (try with_reducible rfl))); (try simp only [Act.put, List.setIfInBounds_toArray, List.set_cons_zero, List.set_cons_succ, List.getElem_toArray, List.getElem_cons_zero, List.getElem_cons_succ])
      refine wpAnyX_tk (i := 39) (v := ?xv39z) rfl (Or.inl ⟨by rfl, ?xh39z⟩) ?xr39z; (case xh39z => (intro w hSw; (try dsimp only at hSw); go_simp; (try with_reducible rfl))); (try simp only [Act.put, List.setIfInBounds_toArray, List.set_cons_zero, List.set_cons_succ, List.getElem_toArray, List.getElem_cons_zero, List.getElem_cons_succ])
      refine wpAnyX_tk (i := 40) (v := ?xv40z) rfl (Or.inl ⟨by rfl, ?xh40z⟩) ?xr40z; (case xh40z => (intro w hSw; (try dsimp only at hSw); go_simp; (try with_reducible rfl))); (try simp only [Act.put, List.setIfInBounds_toArray, List.set_cons_zero, List.set_cons_succ, List.getElem_toArray, List.getElem_cons_zero, List.getElem_cons_succ])
      refine wpAnyX_tk (i := 41) (v := ?xv41z) rfl (Or.inl ⟨by rfl, ?xh41z⟩) ?xr41z; (case xh41z => (intro w hSw; (try dsimp only at hSw); go_simp; (try with_reducible rfl))); (try simp only [Act.put, List.setIfInBounds_toArray, List.set_cons_zero, List.set_cons_succ, List.getElem_toArray, List.getElem_cons_zero, List.getElem_cons_succ])
      refine wpAnyX_tk (i := 42) (v := ?xv42z) rfl (Or.inl ⟨by rfl, ?xh42z⟩) ?xr42z; (case xh42z => (intro w hSw; (try dsimp only at hSw); go_simp; (try with_reducible rfl))); (try simp only [Act.put, List.setIfInBounds_toArray, List.set_cons_zero, List.set_cons_succ, List.getElem_toArray, List.getElem_cons_zero, List.getElem_cons_succ])
      refine wpAnyX_tk (i := 43) (v := ?xv43z) rfl (Or.inl ⟨by rfl, ?xh43z⟩) ?xr43z; (case xh43z => (intro w hSw; (try dsimp only at hSw); go_simp; (try with_reducible rfl))); (try simp only [Act.put, List.setIfInBounds_toArray, List.set_cons_zero, List.set_cons_succ, List.getElem_toArray, List.getElem_cons_zero, List.getElem_cons_succ])
      refine wpAnyX_tk (i := 44) (v := ?xv44z) rfl (Or.inl ⟨by rfl, ?xh44z⟩) ?xr44z; (case xh44z => (intro w hSw; (try dsimp only at hSw); go_simp; (try with_reducible rfl))); (try simp only [Act.put, List.setIfInBounds_toArray, List.set_cons_zero, List.set_cons_succ, List.getElem_toArray, List.getElem_cons_zero, List.getElem_cons_succ])
      refine wpAnyX_tk (i := 45) (v := ?xv45z) rfl (Or.inl ⟨by rfl, ?xh45z⟩) ?xr45z; (case xh45z => (intro w hSw; (try dsimp only at hSw); go_simp; (try with_reducible rfl))); (try simp only [Act.put, List.setIfInBounds_toArray, List.set_cons_zero, List.set_cons_succ, List.getElem_toArray, List.getElem_cons_zero, List.getElem_cons_succ])
      refine wpAnyX_tk (i := 46) (v := ?xv46z) rfl (Or.inl ⟨by rfl, ?xh46z⟩) ?xr46z; (case xh46z => (intro w hSw; (try dsimp only at hSw); go_simp; (try with_reducible rfl))); (try simp only [Act.put, List.setIfInBounds_toArray, List.set_cons_zero, List.set_cons_succ, List.getElem_toArray, List.getElem_cons_zero, List.getElem_cons_succ])
      refine wpAnyX_tk (i := 47) (v := ?xv47z) rfl (Or.inl ⟨by rfl, ?xh47z⟩) ?xr47z; (case xh47z => (intro w hSw; (try dsimp only at hSw); go_simp; (try with_reducible rfl))); (try simp only [Act.put, List.setIfInBounds_toArray, List.set_cons_zero, List.set_cons_succ, List.getElem_toArray, List.getElem_cons_zero, List.getElem_cons_succ])
      refine wpAnyX_tk (i := 48) (v := ?xv48z) rfl (Or.inl ⟨by rfl, ?xh48z⟩) ?xr48z; (case xh48z => (intro w hSw; (try dsimp only at hSw); go_simp; (try with_reducible rfl))); (try simp only [Act.put, List.setIfInBounds_toArray, List.set_cons_zero, List.set_cons_succ, List.getElem_toArray, List.getElem_cons_zero, List.getElem_cons_succ])
      refine wpAnyX_pure (i := 49) (v := ?xv49z) rfl (by kernel_rfl) (Or.inl ⟨by rfl, ?xh49z⟩) (Or.inr (by assumption)) ?xr49z; (case xh49z => (intro w; go_simp; (try with_reducible rfl))); (try simp only [Act.put, List.setIfInBounds_toArray, List.set_cons_zero, List.set_cons_succ, List.getElem_toArray, List.getElem_cons_zero, List.getElem_cons_succ])
      clear hS
      refine wpAnyX_done (by kernel_rfl) ?_ _
      go_wp2_with fail
      go_ret
      exact ⟨rfl, q9.drew⟩
set_option maxRecDepth 100000 in
theorem openIds_lifted (os : Os) (started : os.Started) (H : Type) (enc : TypeId × Value → H) :
  ReturnsInHanded {} Tryz.checked os 5 .any (fun w args => (Rows.openIdsSpec.pre enc Tryz.prog Tryz.f5 [] false w args ∧ laidMetH Tryz.prog laidN w) ∧ sizedMet enc Tryz.prog Tryz.f5 (OpenSpec.ofChange Rows.openIdsSpec) false w args) (Rows.openIdsSpec.post enc Tryz.prog Tryz.f5 false true false false) := by
  refine returnsInHanded_of_change_and (C := Tryz.checked) (X := fun w _ => laidMetH Tryz.prog laidN w) (fun _ _ _ hh h => h.of_heap hh) Tryz.own started (by kernel_rfl) Tryz.func5 (ChangeSpec.witness_shaped (enc := enc) (C := Tryz.checked) (os := os) (X := fun w _ => laidMetH Tryz.prog laidN w) false (World.doorLaid Tryz.prog 14 os) #[.slice none 0 0] 8 rfl (World.shaped_of_RefB (by kernel_rfl) (by kernel_rfl)) (by kernel_rfl) (by kernel_rfl) (by kernel_rfl) (door_met os _)) ?_
  intro W base args ds gs before hval0 hW hcnd hsz0 hL _
  have hsz : (DataW.weightsEach Tryz.prog (Tryz.f5.params.toList ++ Rows.openIdsSpec.plain.varTypes Tryz.prog) (ds ++ gs)).all (· ≤ reachBytes) = true := hsz0
  clear hsz0
  have hval : ∀ (j : Nat) t v, Tryz.f5.params[j]? = some t → args[j]? = some v → Value.okWide Tryz.prog W .any base t v := hval0
  have hW' := hW
  obtain ⟨p, q, hA0, hV, rfl, hfz, hnd⟩ := hW
  have hA : DataW.TrodAll enc Tryz.prog W 0 (fun _ => true) true Tryz.f5.params.toList args.toList ds p := hA0
  rw [Tryz.params5] at hA hval hsz
  obtain ⟨rfl, rfl⟩ := trodVars_none hV
  clear hA0 hval0 hcnd hV hfz hnd
  have hN := noth_of_laid hL
  obtain ⟨v0, d0, rfl, rfl, h0⟩ := trodAll_one hA
  obtain ⟨A, n, c, l, rfl, hd, hS⟩ := open_deeds (hval 0 22 v0 rfl rfl) h0
  refine (openIds_walk A n c l W hS hd hN).mono fun e W' ⟨he, hb⟩ => ?_
  subst he
  exact ⟨_, rfl, post_law Tryz.laidOut hW' rfl (by kernel_rfl) rfl Tryz.underlying4 (fun _ => rfl) (fun _ => rfl) (fun _ => rfl) hb⟩
set_option maxRecDepth 100000 in
theorem openIds_f1 : (Rows.openIdsRow.inPlace == Tryz.pinned.checked.prog.inPlace 5) = true := by kernel_rfl
set_option maxRecDepth 100000 in
theorem openIds_f2 : (Rows.openIdsRow.unfollowed == Tryz.pinned.checked.prog.unfollowed 5) = true := by kernel_rfl
set_option maxRecDepth 100000 in
theorem openIds_f3 : (Rows.openIdsRow.recurses == Tryz.pinned.checked.prog.recurses 5) = true := by kernel_rfl
set_option maxRecDepth 100000 in
theorem openIds_f4 : (Rows.openIdsRow.named == Tryz.pinned.checked.prog.varsNamed 5) = true := by kernel_rfl
set_option maxRecDepth 100000 in
theorem openIds_facts : joinedFacts Tryz.pinned.checked.prog 5 Tryz.f5 Rows.openIdsSpec Rows.openIdsRow = true := by
  unfold joinedFacts
  rw [enterN, show (Rows.openIdsRow.lifted == Tryz.pinned.checked.prog.liftsFinal) = true from liftsN, laidN1, laidN2, heardN, show (Rows.openIdsRow.plainKeys == Tryz.pinned.checked.prog.plainKeys) = true from keysN, openIds_f1, openIds_f2, openIds_f3, openIds_f4]
  kernel_rfl
theorem openIds_row : Rows.OpenIdsSaid := OpenClaim.holds_of_wide 5 Tryz.f5 rfl rfl rfl rfl rfl rfl rfl ⟨rfl, rfl, rfl, rfl, rfl⟩ rfl rfl rfl rfl rfl (by kernel_rfl) Tryz.func5 openIds_facts
  (of_decide_eq_true (by kernel_rfl)) (by unfold Func.isWrapper; first | (rw [if_pos (by decide +kernel)]; kernel_rfl) | (rw [if_neg (by decide +kernel)]; exact ⟨rfl, rfl⟩))
  (fun os started H enc _ => openIds_lifted os started H enc)
set_option maxRecDepth 100000 in
theorem openIds_goes : false = Rows.openIdsRow.goesBy Tryz.pinned.checked.prog := by kernel_rfl
set_option maxRecDepth 100000 in
theorem openIds_looks : false = Tryz.pinned.checked.prog.looks [] := by kernel_rfl
set_option maxRecDepth 100000 in
theorem openIds_holds : Rows.OpenIdsCardSaid :=
  Claim7.holds_tied_plain_at .later [] [.data] true Rows.machineMayCard.stood.harness false
    openIds_row (fun _ h => by cases h) (by kernel_rfl) (fun _ h => by cases h) openIds_row_tie rfl ⟨rfl, rfl⟩ mainN rfl
    (fun f fn hf hfn => by
      obtain rfl : f = 5 := Option.some.inj ((show Tryz.prog.funcNamed "rostrum/rostrumkeep.OpenIds" = some 5 by kernel_rfl).symm.trans hf) |>.symm
      obtain rfl : fn = Tryz.f5 := (Option.some.inj (Tryz.func5.symm.trans hfn)).symm
      exact ⟨openIds_looks, fun j t ht => by
        rw [Tryz.params5] at ht
        have hm := List.mem_of_getElem? (Array.getElem?_toList ▸ ht)
        simp only [List.mem_cons, List.not_mem_nil, or_false] at hm
        rcases hm with rfl <;> exact (show Tryz.prog.wantsStandIn _ = false by kernel_rfl)⟩)
    openIds_goes
#print axioms openIds_holds
end Go.Proofs.YtgpkgegpcgiokaaGreatDoor
