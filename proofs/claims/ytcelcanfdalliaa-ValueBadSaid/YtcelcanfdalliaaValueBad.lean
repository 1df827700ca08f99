/- rostrumkeep.ValueBad returns true for every input and leaves its arguments as they were; no condition. -/
import Derived.Test.YtcelcanfdalliaaValLaw
import Derived.Test.YtcelcanfdalliaaDonQ
namespace Go.Proofs.Ytcelcanfdalliaa
set_option linter.all false
open Go.ChangeShapes Go.WideShapes Go.ChangeAt Go.RowKit
/-- Do, and Check, at a value that may not be. -/
theorem Do_bad (v : Va) (c : Cmd) {k : Int} (h : checkValue v = k) (hk : k ≠ 0) (h0 : v.kind ≠ 0) (s1 : v.pairs.length ≤ 20) (s2 : v.items.length ≤ 20) (s3 : v.scores.length ≤ 20) (A1 A2 A3 : Option Addr) (n1 c1 n2 c2 n3 c3 : Nat) (w : World) (hN : VSl w v A1 n1 c1 A2 n2 c2 A3 n3 c3) :
    Calls Try.prog 24 #[.agg #[.int .i64 v.kind, .string v.text, .int .i64 v.count, .slice A1 n1 c1, .slice A2 n2 c2, .slice A3 n3 c3], .agg #[.int .i64 c.kind, .string c.key, .string c.field, .string c.text, .int .i64 c.n]] w (DonePost (zeroVa, zeroRe, k) w) := by
  have e1 := hN.n1_; have e2 := hN.n2_; have e3 := hN.n3_
  have := Do_any v c A1 A2 A3 n1 c1 n2 c2 n3 c3 w hN (by omega) (by omega) (by omega)
  rwa [bad_done (by rw [h]; exact hk) h0, h] at this
theorem Check_bad (v : Va) {k : Int} (h : checkValue v = k) (s1 : v.pairs.length ≤ 20) (s2 : v.items.length ≤ 20) (s3 : v.scores.length ≤ 20) (A1 A2 A3 : Option Addr) (n1 c1 n2 c2 n3 c3 : Nat) (w : World) (hN : VSl w v A1 n1 c1 A2 n2 c2 A3 n3 c3) :
    Calls Try.prog 22 #[.agg #[.int .i64 v.kind, .string v.text, .int .i64 v.count, .slice A1 n1 c1, .slice A2 n2 c2, .slice A3 n3 c3]] w fun e w' => e = .returned (.int .i64 k) ∧ Below w.heap.size w w' := by
  have e1 := hN.n1_; have e2 := hN.n2_; have e3 := hN.n3_
  have := Check_val v A1 A2 A3 n1 c1 n2 c2 n3 c3 w hN (by omega) (by omega) (by omega)
  rwa [h] at this
set_option maxRecDepth 100000 in
set_option maxHeartbeats 8000000 in
theorem valueBad_walk (kind : Int) (A : Option Addr) (n c : Nat) (l : List RawD) (which : Int) (w : World) (hS : Sl w 5 A n c (rawRows l)) (hd : ∀ d ∈ l, d.ok) (hk : I64 kind) (hwh : I64 which) (hz : (n + 1) * 48 ≤ 140737488355328) :
    Calls Try.prog 16 #[.int .i64 kind, .slice A n c, .int .i64 which] w fun e w' => e = .returned (.bool true) ∧ Below w.heap.size w w' := by
  have p1 := picked_lo kind 4 (by omega)
  have p2 := picked_hi kind 4 (by omega)
  have hR := fun w => picked_any kind 4 w hk.1 hk.2 (by omega) (by omega)
  generalize picked kind 4 = p at *
  have r1 := picked_lo which 4 (by omega)
  have r2 := picked_hi which 4 (by omega)
  have hR2 := fun w => picked_any which 4 w hwh.1 hwh.2 (by omega) (by omega)
  generalize picked which 4 = pp at *
  have hF := fun w h => full_any (2 + p) A n c l w h hd ⟨by omega, by omega⟩ hz
  obtain ⟨hG, hGk⟩ := fullOf_good (2 + p) l
  rw [kindV_two p1 p2] at hGk
  generalize fullOf (2 + p) l = V at *
  have hp : pp = 0 ∨ pp = 1 ∨ pp = 2 ∨ pp = 3 := by omega
  have hsz := may_sizes (.inr hG)
  have hK := fun A1 A2 A3 n1 c1 n2 c2 n3 c3 w h => Check_good V hG A1 A2 A3 n1 c1 n2 c2 n3 c3 w h
  have b0 : checkValue { V with text := { data := #[120] } } = 8 := text_bad hG (by omega) (by simp [Lib.toList_data])
  have b1 : checkValue { V with count := 1 } = 8 := count_bad hG (by omega)
  have b2 : checkValue { V with kind := 7 } = 3 := kind_bad
  have k1 := hG.k1
  obtain ⟨vk, vt, vc, ps, is_, ss⟩ := V
  simp only at hsz b0 b1 b2 k1 hK
  obtain ⟨s1, s2, s3⟩ := hsz
  have hw : IntKind.i64.wrap (2 + p) = 2 + p := IntWalk.i64_in _ (by omega)
  have HF := hide hF; have HR := hide hR; have HR2 := hide hR2; have HK := hide hK
  clear hF hR hR2 hK hG hGk hd
  go_enter Try.func16, Try.ntmps16
  go_wp2_with fail
  refine (HR.out _).mono ?_
  rintro e w' ⟨rfl, rfl⟩
  go_wp2_with fail
  refine (HF.out _ hS).mono ?_
  rintro e w1 ⟨B10, m10, e10, B20, m20, e20, B30, m30, e30, rfl, M0, TT, hb0⟩
  have q : Below w.heap.size w w1 := (by repeat (first | (with_reducible exact Below.refl _ _) | (with_reducible assumption) | (with_reducible refine Below.drew ?_) | (with_reducible refine bdrewN ?_ _) | (with_reducible refine balloc ?_ _) | ((with_reducible refine bset ?_ ?_ _); rotate_left; (focus first | exact Nat.le_refl _ | (simp; done) | (simp; omega) | omega)) | (with_reducible refine bstep ?_ (by with_reducible assumption)) | (with_reducible refine Below.trans ?_ (by with_reducible assumption))))
  clear hb0
  have D0 := Blk.new w1 29 #[.int .i64 vk, .string vt, .int .i64 vc, .slice B10 m10 e10, .slice B20 m20 e20, .slice B30 m30 e30]; replace M0 := M0.al (.cells #[.int .i64 vk, .string vt, .int .i64 vc, .slice B10 m10 e10, .slice B20 m20 e20, .slice B30 m30 e30] 29)
  have hq1 : w.heap.size ≤ w1.heap.size := q.size
  replace TT := And.intro (TT.1.bl ((Below.refl _ w1).alloc (Nat.le_refl _) (.cells #[.int .i64 vk, .string vt, .int .i64 vc, .slice B10 m10 e10, .slice B20 m20 e20, .slice B30 m30 e30] 29))) (And.intro (TT.2.1.bl ((Below.refl _ w1).alloc (Nat.le_refl _) (.cells #[.int .i64 vk, .string vt, .int .i64 vc, .slice B10 m10 e10, .slice B20 m20 e20, .slice B30 m30 e30] 29))) (TT.2.2.bl ((Below.refl _ w1).alloc (Nat.le_refl _) (.cells #[.int .i64 vk, .string vt, .int .i64 vc, .slice B10 m10 e10, .slice B20 m20 e20, .slice B30 m30 e30] 29))))
  (try clear cD0 fD0); have cD0 := D0.cell; have fD0 := D0.frozen
  go_wp2_with fail
  refine (HK.out _ _ _ _ _ _ _ _ _ _ M0).mono ?_
  rintro e w2 ⟨rfl, hb2⟩
  replace D0 := D0.bl hb2; replace M0 := M0.bl hb2
  replace TT := And.intro (TT.1.bl hb2) (And.intro (TT.2.1.bl hb2) (TT.2.2.bl hb2))
  replace q : Below w.heap.size w w2 := (by repeat (first | (with_reducible exact Below.refl _ _) | (with_reducible assumption) | (with_reducible refine Below.drew ?_) | (with_reducible refine bdrewN ?_ _) | (with_reducible refine balloc ?_ _) | ((with_reducible refine bset ?_ ?_ _); rotate_left; (focus first | exact Nat.le_refl _ | (simp; done) | (simp; omega) | omega)) | (with_reducible refine bstep ?_ (by with_reducible assumption)) | (with_reducible refine Below.trans ?_ (by with_reducible assumption))))
  clear hb2 cD0 fD0
  go_wp2_with fail
  refine (HR2.out _).mono ?_
  rintro e w' ⟨rfl, rfl⟩
  (try clear cD0 fD0); have cD0 := D0.cell; have fD0 := D0.frozen
  rcases hp with rfl | rfl | rfl | rfl
  · have D1 := D0.set' (i := 1) (u := .string { data := #[120] }) rfl
    have M1 : VSl (w2.setCell ⟨w1.heap.size, 1, none⟩ (Value.string { data := #[120] })) ⟨vk, { data := #[120] }, vc, ps, is_, ss⟩ B10 m10 e10 B20 m20 e20 B30 m30 e30 := by
      have := grown_vsl M0 TT D0 (grown_setRow_cell w2 w1.heap.size 1 (.string { data := #[120] }))
      exact ⟨this.p, this.i, this.s⟩
    have q1 : Below w.heap.size w (w2.setCell ⟨w1.heap.size, 1, none⟩ (Value.string { data := #[120] })) := (by repeat (first | (with_reducible exact Below.refl _ _) | (with_reducible assumption) | (with_reducible refine Below.drew ?_) | (with_reducible refine bdrewN ?_ _) | (with_reducible refine balloc ?_ _) | ((with_reducible refine bset ?_ ?_ _); rotate_left; (focus first | exact Nat.le_refl _ | (simp; done) | (simp; omega) | omega)) | (with_reducible refine bstep ?_ (by with_reducible assumption)) | (with_reducible refine Below.trans ?_ (by with_reducible assumption))))
    have hD := fun A1 A2 A3 n1 c1 n2 c2 n3 c3 w h => Do_bad ⟨vk, { data := #[120] }, vc, ps, is_, ss⟩ ⟨17, { data := #[107] }, { data := #[] }, { data := #[] }, 0⟩ b0 (by omega) (by simp; try omega) s1 s2 s3 A1 A2 A3 n1 c1 n2 c2 n3 c3 w h
    have hC := fun A1 A2 A3 n1 c1 n2 c2 n3 c3 w h => Check_bad ⟨vk, { data := #[120] }, vc, ps, is_, ss⟩ b0 s1 s2 s3 A1 A2 A3 n1 c1 n2 c2 n3 c3 w h
    simp only [zeroVa, zeroRe, emp] at hD hC
    have HD := hide hD; have HC := hide hC
    clear hD hC b0 b1 b2
    go_wp2_with fail
    clear cD0 fD0
    generalize w2.setCell ⟨w1.heap.size, 1, none⟩ (Value.string { data := #[120] }) = W at *
    replace q := q1
    refine (HD.out _ _ _ _ _ _ _ _ _ _ M1).mono ?_; rintro e w3 ⟨B12, m12, e12, B22, m22, e22, B32, m32, e32, B42, m42, e42, rfl, M2, L2, T2, hb2⟩; replace D1 := D1.bl hb2; replace M1 := M1.bl hb2; replace q : Below w.heap.size w w3 := (by repeat (first | (with_reducible exact Below.refl _ _) | (with_reducible assumption) | (with_reducible refine Below.drew ?_) | (with_reducible refine bdrewN ?_ _) | (with_reducible refine balloc ?_ _) | ((with_reducible refine bset ?_ ?_ _); rotate_left; (focus first | exact Nat.le_refl _ | (simp; done) | (simp; omega) | omega)) | (with_reducible refine bstep ?_ (by with_reducible assumption)) | (with_reducible refine Below.trans ?_ (by with_reducible assumption)))); clear hb2
    have D2 := Blk.new w3 29 #[.int .i64 0, .string { data := #[] }, .int .i64 0, .slice B12 m12 e12, .slice B22 m22 e22, .slice B32 m32 e32]; replace M2 := M2.al (.cells #[.int .i64 0, .string { data := #[] }, .int .i64 0, .slice B12 m12 e12, .slice B22 m22 e22, .slice B32 m32 e32] 29); replace L2 := L2.al (.cells #[.int .i64 0, .string { data := #[] }, .int .i64 0, .slice B12 m12 e12, .slice B22 m22 e22, .slice B32 m32 e32] 29); replace D1 := D1.al (.cells #[.int .i64 0, .string { data := #[] }, .int .i64 0, .slice B12 m12 e12, .slice B22 m22 e22, .slice B32 m32 e32] 29); replace M1 := M1.al (.cells #[.int .i64 0, .string { data := #[] }, .int .i64 0, .slice B12 m12 e12, .slice B22 m22 e22, .slice B32 m32 e32] 29); have R2 : Blk ((w3.alloc (.cells #[.int .i64 0, .string { data := #[] }, .int .i64 0, .slice B12 m12 e12, .slice B22 m22 e22, .slice B32 m32 e32] 29)).alloc (.cells #[.int .i64 0, .string { data := #[] }, .int .i64 0, .slice B42 m42 e42] 37)) (w3.heap.size + 1) 37 #[.int .i64 0, .string { data := #[] }, .int .i64 0, .slice B42 m42 e42] := Blk.new' _ _ _ (by simp); replace M2 := M2.al (.cells #[.int .i64 0, .string { data := #[] }, .int .i64 0, .slice B42 m42 e42] 37); replace L2 := L2.al (.cells #[.int .i64 0, .string { data := #[] }, .int .i64 0, .slice B42 m42 e42] 37); replace D2 := D2.al (.cells #[.int .i64 0, .string { data := #[] }, .int .i64 0, .slice B42 m42 e42] 37); replace D1 := D1.al (.cells #[.int .i64 0, .string { data := #[] }, .int .i64 0, .slice B42 m42 e42] 37); replace M1 := M1.al (.cells #[.int .i64 0, .string { data := #[] }, .int .i64 0, .slice B42 m42 e42] 37)
    clear D2 R2 L2 M2 T2
    (try clear cD1 fD1); have cD1 := D1.cell; have fD1 := D1.frozen
    go_wp2_with fail
    refine (HC.out _ _ _ _ _ _ _ _ _ _ M1).mono ?_
    rintro e w4 ⟨rfl, hb4⟩
    go_wp2_with fail
    go_ret
    exact ⟨rfl, (by repeat (first | (with_reducible exact Below.refl _ _) | (with_reducible assumption) | (with_reducible refine Below.drew ?_) | (with_reducible refine bdrewN ?_ _) | (with_reducible refine balloc ?_ _) | ((with_reducible refine bset ?_ ?_ _); rotate_left; (focus first | exact Nat.le_refl _ | (simp; done) | (simp; omega) | omega)) | (with_reducible refine bstep ?_ (by with_reducible assumption)) | (with_reducible refine Below.trans ?_ (by with_reducible assumption))))⟩
  · have D1 := D0.set' (i := 2) (u := .int .i64 1) rfl
    have M1 : VSl (w2.setCell ⟨w1.heap.size, 2, none⟩ (Value.int .i64 1)) ⟨vk, vt, 1, ps, is_, ss⟩ B10 m10 e10 B20 m20 e20 B30 m30 e30 := by
      have := grown_vsl M0 TT D0 (grown_setRow_cell w2 w1.heap.size 2 (.int .i64 1))
      exact ⟨this.p, this.i, this.s⟩
    have q1 : Below w.heap.size w (w2.setCell ⟨w1.heap.size, 2, none⟩ (Value.int .i64 1)) := (by repeat (first | (with_reducible exact Below.refl _ _) | (with_reducible assumption) | (with_reducible refine Below.drew ?_) | (with_reducible refine bdrewN ?_ _) | (with_reducible refine balloc ?_ _) | ((with_reducible refine bset ?_ ?_ _); rotate_left; (focus first | exact Nat.le_refl _ | (simp; done) | (simp; omega) | omega)) | (with_reducible refine bstep ?_ (by with_reducible assumption)) | (with_reducible refine Below.trans ?_ (by with_reducible assumption))))
    have hD := fun A1 A2 A3 n1 c1 n2 c2 n3 c3 w h => Do_bad ⟨vk, vt, 1, ps, is_, ss⟩ ⟨17, { data := #[107] }, { data := #[] }, { data := #[] }, 0⟩ b1 (by omega) (by simp; try omega) s1 s2 s3 A1 A2 A3 n1 c1 n2 c2 n3 c3 w h
    have hC := fun A1 A2 A3 n1 c1 n2 c2 n3 c3 w h => Check_bad ⟨vk, vt, 1, ps, is_, ss⟩ b1 s1 s2 s3 A1 A2 A3 n1 c1 n2 c2 n3 c3 w h
    simp only [zeroVa, zeroRe, emp] at hD hC
    have HD := hide hD; have HC := hide hC
    clear hD hC b0 b1 b2
    go_wp2_with fail
    clear cD0 fD0
    generalize w2.setCell ⟨w1.heap.size, 2, none⟩ (Value.int .i64 1) = W at *
    replace q := q1
    refine (HD.out _ _ _ _ _ _ _ _ _ _ M1).mono ?_; rintro e w3 ⟨B12, m12, e12, B22, m22, e22, B32, m32, e32, B42, m42, e42, rfl, M2, L2, T2, hb2⟩; replace D1 := D1.bl hb2; replace M1 := M1.bl hb2; replace q : Below w.heap.size w w3 := (by repeat (first | (with_reducible exact Below.refl _ _) | (with_reducible assumption) | (with_reducible refine Below.drew ?_) | (with_reducible refine bdrewN ?_ _) | (with_reducible refine balloc ?_ _) | ((with_reducible refine bset ?_ ?_ _); rotate_left; (focus first | exact Nat.le_refl _ | (simp; done) | (simp; omega) | omega)) | (with_reducible refine bstep ?_ (by with_reducible assumption)) | (with_reducible refine Below.trans ?_ (by with_reducible assumption)))); clear hb2
    have D2 := Blk.new w3 29 #[.int .i64 0, .string { data := #[] }, .int .i64 0, .slice B12 m12 e12, .slice B22 m22 e22, .slice B32 m32 e32]; replace M2 := M2.al (.cells #[.int .i64 0, .string { data := #[] }, .int .i64 0, .slice B12 m12 e12, .slice B22 m22 e22, .slice B32 m32 e32] 29); replace L2 := L2.al (.cells #[.int .i64 0, .string { data := #[] }, .int .i64 0, .slice B12 m12 e12, .slice B22 m22 e22, .slice B32 m32 e32] 29); replace D1 := D1.al (.cells #[.int .i64 0, .string { data := #[] }, .int .i64 0, .slice B12 m12 e12, .slice B22 m22 e22, .slice B32 m32 e32] 29); replace M1 := M1.al (.cells #[.int .i64 0, .string { data := #[] }, .int .i64 0, .slice B12 m12 e12, .slice B22 m22 e22, .slice B32 m32 e32] 29); have R2 : Blk ((w3.alloc (.cells #[.int .i64 0, .string { data := #[] }, .int .i64 0, .slice B12 m12 e12, .slice B22 m22 e22, .slice B32 m32 e32] 29)).alloc (.cells #[.int .i64 0, .string { data := #[] }, .int .i64 0, .slice B42 m42 e42] 37)) (w3.heap.size + 1) 37 #[.int .i64 0, .string { data := #[] }, .int .i64 0, .slice B42 m42 e42] := Blk.new' _ _ _ (by simp); replace M2 := M2.al (.cells #[.int .i64 0, .string { data := #[] }, .int .i64 0, .slice B42 m42 e42] 37); replace L2 := L2.al (.cells #[.int .i64 0, .string { data := #[] }, .int .i64 0, .slice B42 m42 e42] 37); replace D2 := D2.al (.cells #[.int .i64 0, .string { data := #[] }, .int .i64 0, .slice B42 m42 e42] 37); replace D1 := D1.al (.cells #[.int .i64 0, .string { data := #[] }, .int .i64 0, .slice B42 m42 e42] 37); replace M1 := M1.al (.cells #[.int .i64 0, .string { data := #[] }, .int .i64 0, .slice B42 m42 e42] 37)
    clear D2 R2 L2 M2 T2
    (try clear cD1 fD1); have cD1 := D1.cell; have fD1 := D1.frozen
    go_wp2_with fail
    refine (HC.out _ _ _ _ _ _ _ _ _ _ M1).mono ?_
    rintro e w4 ⟨rfl, hb4⟩
    go_wp2_with fail
    go_ret
    exact ⟨rfl, (by repeat (first | (with_reducible exact Below.refl _ _) | (with_reducible assumption) | (with_reducible refine Below.drew ?_) | (with_reducible refine bdrewN ?_ _) | (with_reducible refine balloc ?_ _) | ((with_reducible refine bset ?_ ?_ _); rotate_left; (focus first | exact Nat.le_refl _ | (simp; done) | (simp; omega) | omega)) | (with_reducible refine bstep ?_ (by with_reducible assumption)) | (with_reducible refine Below.trans ?_ (by with_reducible assumption))))⟩
  · have D1 := D0.set' (i := 0) (u := .int .i64 7) rfl
    have M1 : VSl (w2.setCell ⟨w1.heap.size, 0, none⟩ (Value.int .i64 7)) ⟨7, vt, vc, ps, is_, ss⟩ B10 m10 e10 B20 m20 e20 B30 m30 e30 := by
      have := grown_vsl M0 TT D0 (grown_setRow_cell w2 w1.heap.size 0 (.int .i64 7))
      exact ⟨this.p, this.i, this.s⟩
    have q1 : Below w.heap.size w (w2.setCell ⟨w1.heap.size, 0, none⟩ (Value.int .i64 7)) := (by repeat (first | (with_reducible exact Below.refl _ _) | (with_reducible assumption) | (with_reducible refine Below.drew ?_) | (with_reducible refine bdrewN ?_ _) | (with_reducible refine balloc ?_ _) | ((with_reducible refine bset ?_ ?_ _); rotate_left; (focus first | exact Nat.le_refl _ | (simp; done) | (simp; omega) | omega)) | (with_reducible refine bstep ?_ (by with_reducible assumption)) | (with_reducible refine Below.trans ?_ (by with_reducible assumption))))
    have hD := fun A1 A2 A3 n1 c1 n2 c2 n3 c3 w h => Do_bad ⟨7, vt, vc, ps, is_, ss⟩ ⟨17, { data := #[107] }, { data := #[] }, { data := #[] }, 0⟩ b2 (by omega) (by simp; try omega) s1 s2 s3 A1 A2 A3 n1 c1 n2 c2 n3 c3 w h
    have hC := fun A1 A2 A3 n1 c1 n2 c2 n3 c3 w h => Check_bad ⟨7, vt, vc, ps, is_, ss⟩ b2 s1 s2 s3 A1 A2 A3 n1 c1 n2 c2 n3 c3 w h
    simp only [zeroVa, zeroRe, emp] at hD hC
    have HD := hide hD; have HC := hide hC
    clear hD hC b0 b1 b2
    go_wp2_with fail
    clear cD0 fD0
    generalize w2.setCell ⟨w1.heap.size, 0, none⟩ (Value.int .i64 7) = W at *
    replace q := q1
    refine (HD.out _ _ _ _ _ _ _ _ _ _ M1).mono ?_; rintro e w3 ⟨B12, m12, e12, B22, m22, e22, B32, m32, e32, B42, m42, e42, rfl, M2, L2, T2, hb2⟩; replace D1 := D1.bl hb2; replace M1 := M1.bl hb2; replace q : Below w.heap.size w w3 := (by repeat (first | (with_reducible exact Below.refl _ _) | (with_reducible assumption) | (with_reducible refine Below.drew ?_) | (with_reducible refine bdrewN ?_ _) | (with_reducible refine balloc ?_ _) | ((with_reducible refine bset ?_ ?_ _); rotate_left; (focus first | exact Nat.le_refl _ | (simp; done) | (simp; omega) | omega)) | (with_reducible refine bstep ?_ (by with_reducible assumption)) | (with_reducible refine Below.trans ?_ (by with_reducible assumption)))); clear hb2
    have D2 := Blk.new w3 29 #[.int .i64 0, .string { data := #[] }, .int .i64 0, .slice B12 m12 e12, .slice B22 m22 e22, .slice B32 m32 e32]; replace M2 := M2.al (.cells #[.int .i64 0, .string { data := #[] }, .int .i64 0, .slice B12 m12 e12, .slice B22 m22 e22, .slice B32 m32 e32] 29); replace L2 := L2.al (.cells #[.int .i64 0, .string { data := #[] }, .int .i64 0, .slice B12 m12 e12, .slice B22 m22 e22, .slice B32 m32 e32] 29); replace D1 := D1.al (.cells #[.int .i64 0, .string { data := #[] }, .int .i64 0, .slice B12 m12 e12, .slice B22 m22 e22, .slice B32 m32 e32] 29); replace M1 := M1.al (.cells #[.int .i64 0, .string { data := #[] }, .int .i64 0, .slice B12 m12 e12, .slice B22 m22 e22, .slice B32 m32 e32] 29); have R2 : Blk ((w3.alloc (.cells #[.int .i64 0, .string { data := #[] }, .int .i64 0, .slice B12 m12 e12, .slice B22 m22 e22, .slice B32 m32 e32] 29)).alloc (.cells #[.int .i64 0, .string { data := #[] }, .int .i64 0, .slice B42 m42 e42] 37)) (w3.heap.size + 1) 37 #[.int .i64 0, .string { data := #[] }, .int .i64 0, .slice B42 m42 e42] := Blk.new' _ _ _ (by simp); replace M2 := M2.al (.cells #[.int .i64 0, .string { data := #[] }, .int .i64 0, .slice B42 m42 e42] 37); replace L2 := L2.al (.cells #[.int .i64 0, .string { data := #[] }, .int .i64 0, .slice B42 m42 e42] 37); replace D2 := D2.al (.cells #[.int .i64 0, .string { data := #[] }, .int .i64 0, .slice B42 m42 e42] 37); replace D1 := D1.al (.cells #[.int .i64 0, .string { data := #[] }, .int .i64 0, .slice B42 m42 e42] 37); replace M1 := M1.al (.cells #[.int .i64 0, .string { data := #[] }, .int .i64 0, .slice B42 m42 e42] 37)
    clear D2 R2 L2 M2 T2
    (try clear cD1 fD1); have cD1 := D1.cell; have fD1 := D1.frozen
    go_wp2_with fail
    refine (HC.out _ _ _ _ _ _ _ _ _ _ M1).mono ?_
    rintro e w4 ⟨rfl, hb4⟩
    go_wp2_with fail
    go_ret
    exact ⟨rfl, (by repeat (first | (with_reducible exact Below.refl _ _) | (with_reducible assumption) | (with_reducible refine Below.drew ?_) | (with_reducible refine bdrewN ?_ _) | (with_reducible refine balloc ?_ _) | ((with_reducible refine bset ?_ ?_ _); rotate_left; (focus first | exact Nat.le_refl _ | (simp; done) | (simp; omega) | omega)) | (with_reducible refine bstep ?_ (by with_reducible assumption)) | (with_reducible refine Below.trans ?_ (by with_reducible assumption))))⟩
  · have hlt12 := D0.lt
    obtain ⟨D9, gr, sz⟩ := whole_value (Value.int .i64 5) (Value.string { data := #[] }) (Value.int .i64 0) (Value.slice none 0 0) (Value.slice (some ⟨w2.heap.size, 0, none⟩) 2 2) (Value.slice none 0 0) D0
    have D1 := D9.al (.cells #[.string { data := #[98] }, .string { data := #[97] }] 9)
    have B : Blk (((((((w2.setCell ⟨w1.heap.size, 0, none⟩ (Value.int .i64 5)).setCell ⟨w1.heap.size, 1, none⟩ (Value.string { data := #[] })).setCell ⟨w1.heap.size, 2, none⟩ (Value.int .i64 0)).setCell ⟨w1.heap.size, 3, none⟩ (Value.slice none 0 0)).setCell ⟨w1.heap.size, 4, none⟩ (Value.slice (some ⟨w2.heap.size, 0, none⟩) 2 2)).setCell ⟨w1.heap.size, 5, none⟩ (Value.slice none 0 0)).alloc (.cells #[.string { data := #[98] }, .string { data := #[97] }] 9)) w2.heap.size 9 #[.string { data := #[98] }, .string { data := #[97] }] := Blk.new' _ _ _ (by simp)
    have hI : Sl (((((((w2.setCell ⟨w1.heap.size, 0, none⟩ (Value.int .i64 5)).setCell ⟨w1.heap.size, 1, none⟩ (Value.string { data := #[] })).setCell ⟨w1.heap.size, 2, none⟩ (Value.int .i64 0)).setCell ⟨w1.heap.size, 3, none⟩ (Value.slice none 0 0)).setCell ⟨w1.heap.size, 4, none⟩ (Value.slice (some ⟨w2.heap.size, 0, none⟩) 2 2)).setCell ⟨w1.heap.size, 5, none⟩ (Value.slice none 0 0)).alloc (.cells #[.string { data := #[98] }, .string { data := #[97] }] 9)) 1 (some ⟨w2.heap.size, 0, none⟩) 2 2 (strRows [{ data := #[98] }, { data := #[97] }]) := Sl.of_blk B rfl (by intro r hr; simp [strRows] at hr; rcases hr with rfl | rfl <;> rfl) rfl (by simp [maxLen])
    have M1 : VSl (((((((w2.setCell ⟨w1.heap.size, 0, none⟩ (Value.int .i64 5)).setCell ⟨w1.heap.size, 1, none⟩ (Value.string { data := #[] })).setCell ⟨w1.heap.size, 2, none⟩ (Value.int .i64 0)).setCell ⟨w1.heap.size, 3, none⟩ (Value.slice none 0 0)).setCell ⟨w1.heap.size, 4, none⟩ (Value.slice (some ⟨w2.heap.size, 0, none⟩) 2 2)).setCell ⟨w1.heap.size, 5, none⟩ (Value.slice none 0 0)).alloc (.cells #[.string { data := #[98] }, .string { data := #[97] }] 9)) ⟨5, { data := #[] }, 0, [], [{ data := #[98] }, { data := #[97] }], []⟩ none 0 0 (some ⟨w2.heap.size, 0, none⟩) 2 2 none 0 0 := ⟨Sl.nil_ _ _, hI, Sl.nil_ _ _⟩
    have q1 : Below w.heap.size w (((((((w2.setCell ⟨w1.heap.size, 0, none⟩ (Value.int .i64 5)).setCell ⟨w1.heap.size, 1, none⟩ (Value.string { data := #[] })).setCell ⟨w1.heap.size, 2, none⟩ (Value.int .i64 0)).setCell ⟨w1.heap.size, 3, none⟩ (Value.slice none 0 0)).setCell ⟨w1.heap.size, 4, none⟩ (Value.slice (some ⟨w2.heap.size, 0, none⟩) 2 2)).setCell ⟨w1.heap.size, 5, none⟩ (Value.slice none 0 0)).alloc (.cells #[.string { data := #[98] }, .string { data := #[97] }] 9)) := (by repeat (first | (with_reducible exact Below.refl _ _) | (with_reducible assumption) | (with_reducible refine Below.drew ?_) | (with_reducible refine bdrewN ?_ _) | (with_reducible refine balloc ?_ _) | ((with_reducible refine bset ?_ ?_ _); rotate_left; (focus first | exact Nat.le_refl _ | (simp; done) | (simp; omega) | omega)) | (with_reducible refine bstep ?_ (by with_reducible assumption)) | (with_reducible refine Below.trans ?_ (by with_reducible assumption))))
    have hD := fun A1 A2 A3 n1 c1 n2 c2 n3 c3 w h => Do_bad ⟨5, { data := #[] }, 0, [], [{ data := #[98] }, { data := #[97] }], []⟩ ⟨17, { data := #[107] }, { data := #[] }, { data := #[] }, 0⟩ order_bad (by omega) (by simp) (by simp) (by simp) (by simp) A1 A2 A3 n1 c1 n2 c2 n3 c3 w h
    have hC := fun A1 A2 A3 n1 c1 n2 c2 n3 c3 w h => Check_bad ⟨5, { data := #[] }, 0, [], [{ data := #[98] }, { data := #[97] }], []⟩ order_bad (by simp) (by simp) (by simp) A1 A2 A3 n1 c1 n2 c2 n3 c3 w h
    simp only [zeroVa, zeroRe, emp] at hD hC
    have HD := hide hD; have HC := hide hC
    clear hD hC b0 b1 b2 hI gr sz B
    go_wp2_with fail
    clear cD0 fD0 D9
    generalize (((((((w2.setCell ⟨w1.heap.size, 0, none⟩ (Value.int .i64 5)).setCell ⟨w1.heap.size, 1, none⟩ (Value.string { data := #[] })).setCell ⟨w1.heap.size, 2, none⟩ (Value.int .i64 0)).setCell ⟨w1.heap.size, 3, none⟩ (Value.slice none 0 0)).setCell ⟨w1.heap.size, 4, none⟩ (Value.slice (some ⟨w2.heap.size, 0, none⟩) 2 2)).setCell ⟨w1.heap.size, 5, none⟩ (Value.slice none 0 0)).alloc (.cells #[.string { data := #[98] }, .string { data := #[97] }] 9)) = W at *
    generalize w2.heap.size = g2 at *
    replace q := q1
    refine (HD.out _ _ _ _ _ _ _ _ _ _ M1).mono ?_; rintro e w3 ⟨B12, m12, e12, B22, m22, e22, B32, m32, e32, B42, m42, e42, rfl, M2, L2, T2, hb2⟩; replace D1 := D1.bl hb2; replace M1 := M1.bl hb2; replace q : Below w.heap.size w w3 := (by repeat (first | (with_reducible exact Below.refl _ _) | (with_reducible assumption) | (with_reducible refine Below.drew ?_) | (with_reducible refine bdrewN ?_ _) | (with_reducible refine balloc ?_ _) | ((with_reducible refine bset ?_ ?_ _); rotate_left; (focus first | exact Nat.le_refl _ | (simp; done) | (simp; omega) | omega)) | (with_reducible refine bstep ?_ (by with_reducible assumption)) | (with_reducible refine Below.trans ?_ (by with_reducible assumption)))); clear hb2
    have D2 := Blk.new w3 29 #[.int .i64 0, .string { data := #[] }, .int .i64 0, .slice B12 m12 e12, .slice B22 m22 e22, .slice B32 m32 e32]; replace M2 := M2.al (.cells #[.int .i64 0, .string { data := #[] }, .int .i64 0, .slice B12 m12 e12, .slice B22 m22 e22, .slice B32 m32 e32] 29); replace L2 := L2.al (.cells #[.int .i64 0, .string { data := #[] }, .int .i64 0, .slice B12 m12 e12, .slice B22 m22 e22, .slice B32 m32 e32] 29); replace D1 := D1.al (.cells #[.int .i64 0, .string { data := #[] }, .int .i64 0, .slice B12 m12 e12, .slice B22 m22 e22, .slice B32 m32 e32] 29); replace M1 := M1.al (.cells #[.int .i64 0, .string { data := #[] }, .int .i64 0, .slice B12 m12 e12, .slice B22 m22 e22, .slice B32 m32 e32] 29); have R2 : Blk ((w3.alloc (.cells #[.int .i64 0, .string { data := #[] }, .int .i64 0, .slice B12 m12 e12, .slice B22 m22 e22, .slice B32 m32 e32] 29)).alloc (.cells #[.int .i64 0, .string { data := #[] }, .int .i64 0, .slice B42 m42 e42] 37)) (w3.heap.size + 1) 37 #[.int .i64 0, .string { data := #[] }, .int .i64 0, .slice B42 m42 e42] := Blk.new' _ _ _ (by simp); replace M2 := M2.al (.cells #[.int .i64 0, .string { data := #[] }, .int .i64 0, .slice B42 m42 e42] 37); replace L2 := L2.al (.cells #[.int .i64 0, .string { data := #[] }, .int .i64 0, .slice B42 m42 e42] 37); replace D2 := D2.al (.cells #[.int .i64 0, .string { data := #[] }, .int .i64 0, .slice B42 m42 e42] 37); replace D1 := D1.al (.cells #[.int .i64 0, .string { data := #[] }, .int .i64 0, .slice B42 m42 e42] 37); replace M1 := M1.al (.cells #[.int .i64 0, .string { data := #[] }, .int .i64 0, .slice B42 m42 e42] 37)
    clear D2 R2 L2 M2 T2
    (try clear cD1 fD1); have cD1 := D1.cell; have fD1 := D1.frozen
    go_wp2_with fail
    refine (HC.out _ _ _ _ _ _ _ _ _ _ M1).mono ?_
    rintro e w4 ⟨rfl, hb4⟩
    go_wp2_with fail
    go_ret
    exact ⟨rfl, (by repeat (first | (with_reducible exact Below.refl _ _) | (with_reducible assumption) | (with_reducible refine Below.drew ?_) | (with_reducible refine bdrewN ?_ _) | (with_reducible refine balloc ?_ _) | ((with_reducible refine bset ?_ ?_ _); rotate_left; (focus first | exact Nat.le_refl _ | (simp; done) | (simp; omega) | omega)) | (with_reducible refine bstep ?_ (by with_reducible assumption)) | (with_reducible refine Below.trans ?_ (by with_reducible assumption))))⟩
set_option maxRecDepth 100000 in
theorem valueBad_lifted (os : Os) (started : os.Started) (H : Type) (enc : TypeId × Value → H) :
  ReturnsInHanded {} Try.checked os 16 .any (Rows.valueBadSpec.pre6 enc Try.prog Try.f16 Rows.valueBadRow.domain false) (Rows.valueBadSpec.post enc Try.prog Try.f16 false true false false) := by
  refine returnsInHanded_of_change_sized (C := Try.checked) Try.own started (by kernel_rfl) Try.func16 (ChangeSpec.witness6 (enc := enc) (C := Try.checked) false ⟨#[], #[.int .i64 0, .slice none 0 0, .int .i64 0], []⟩ 8 (by kernel_rfl) (by kernel_rfl) (by kernel_rfl) (by kernel_rfl)) ?_
  intro W base args ds gs before hval0 hW hcnd hsz0 _
  have hsz : (DataW.weightsEach Try.prog (Try.f16.params.toList ++ Rows.valueBadSpec.plain.varTypes Try.prog) (ds ++ gs)).all (· ≤ reachBytes) = true := hsz0
  clear hsz0
  have hval : ∀ (j : Nat) t v, Try.f16.params[j]? = some t → args[j]? = some v → Value.okWide Try.prog W .any base t v := hval0
  have hW' := hW
  obtain ⟨p, q, hA0, hV, rfl, hfz, hnd⟩ := hW
  have hA : DataW.TrodAll enc Try.prog W 0 (fun _ => true) true Try.f16.params.toList args.toList ds p := hA0
  rw [Try.params16] at hA hval hsz
  obtain ⟨rfl, rfl⟩ := trodVars_none hV
  clear hA0 hval0 hcnd hV hfz hnd
  obtain ⟨v0, v1, v2, d0, d1, d2, p0, p1, p2, rfl, rfl, rfl, h0, h1, h2⟩ := trodAll_three hA
  obtain ⟨k, rfl, rfl, rfl, w1⟩ := open_int Try.underlying3 (hval 0 3 v0 rfl rfl) h0
  obtain ⟨A, n, c, l, rfl, hd, hS⟩ := open_raws (hval 1 22 v1 rfl rfl) h1
  obtain ⟨m, rfl, rfl, rfl, w2⟩ := open_int Try.underlying3 (hval 2 3 v2 rfl rfl) h2
  refine (valueBad_walk k A n c l m W hS hd (i64_bounds w1) (i64_bounds w2) (raw_reach (j := 1) h1 hsz rfl rfl)).mono fun e W' ⟨he, hb⟩ => ?_
  subst he
  exact ⟨_, rfl, post_law Try.laidOut hW' rfl (by kernel_rfl) rfl Try.underlying4 (fun _ => rfl) (fun _ => rfl) (fun _ => rfl) hb⟩
theorem valueBad_holds : Rows.ValueBadSaid := OpenClaim.holds_of_wide 16 Try.f16 rfl rfl rfl rfl rfl rfl rfl ⟨rfl, rfl, rfl, rfl, rfl⟩ rfl rfl rfl rfl rfl (by kernel_rfl) Try.func16 (by kernel_rfl)
  (of_decide_eq_true (by kernel_rfl)) (by unfold Func.isWrapper; first | (rw [if_pos (by decide +kernel)]; kernel_rfl) | (rw [if_neg (by decide +kernel)]; exact ⟨rfl, rfl⟩))
  (fun os started H enc _ => valueBad_lifted os started H enc)
#print axioms valueBad_holds
end Go.Proofs.Ytcelcanfdalliaa
