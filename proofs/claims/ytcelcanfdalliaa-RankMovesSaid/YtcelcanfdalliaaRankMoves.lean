/- rostrumkeep.RankMoves returns true for every input and leaves its arguments as they were; no condition. -/
import Derived.Test.YtcelcanfdalliaaValLaw
import Derived.Test.YtcelcanfdalliaaDonQ
namespace Go.Proofs.Ytcelcanfdalliaa
set_option linter.all false
open Go.ChangeShapes Go.WideShapes Go.ChangeAt Go.RowKit
def seen (q i : Nat) : Int := if q < i then 1 else 0
theorem seen_next {q i : Nat} (h : i ≠ q) : seen q (i + 1) = seen q i := by unfold seen; by_cases h1 : q < i; rw [if_pos h1, if_pos (by omega)]; rw [if_neg h1, if_neg (by omega)]
set_option maxRecDepth 100000 in
set_option maxHeartbeats 8000000 in
theorem rankMoves_walk (A : Option Addr) (n c : Nat) (l : List RawD) (at_ nn : Int) (w : World) (hS : Sl w 5 A n c (rawRows l)) (hd : ∀ d ∈ l, d.ok) (hat : I64 at_) (hnn : I64 nn) (hz : (n + 1) * 48 ≤ 140737488355328) :
    Calls Try.prog 10 #[.slice A n c, .int .i64 at_, .int .i64 nn] w fun e w' => e = .returned (.bool true) ∧ Below w.heap.size w w' := by
  have hF := fun w h => full_any 5 A n c l w h hd ⟨by omega, by omega⟩ hz
  obtain ⟨hG, hGk⟩ := fullOf_good 5 l
  rw [kindV_five] at hGk
  generalize fullOf 5 l = V at *
  obtain ⟨-, f1, f20⟩ := rank_forms hG hGk
  have r1 := picked_lo at_ V.scores.length (by omega)
  have r2 := picked_hi at_ V.scores.length (by omega)
  have hR := fun w => picked_any at_ V.scores.length w hat.1 hat.2 (by omega) (by omega)
  obtain ⟨j, hj⟩ := Int.eq_ofNat_of_zero_le r1
  rw [hj] at hR r2
  have hjl : j < V.scores.length := by omega
  have s1 := picked_lo nn 1000 (by omega)
  have s2 := picked_hi nn 1000 (by omega)
  have hR2 := fun w => picked_any nn 1000 w hnn.1 hnn.2 (by omega) (by omega)
  generalize picked nn 1000 = kk at *
  obtain ⟨U, X, qq, hq, hU, hUk, hUl, hXl, d1, d2, hun⟩ := rank_moves hG hGk hjl (k := kk - 500) (by omega) (by omega)
  have hD1 := fun A1 A2 A3 n1 c1 n2 c2 n3 c3 w h => Do_may V ⟨14, { data := #[107] }, { data := #[] }, V.scores[j].member, kk - 500⟩ (.inr hG) A1 A2 A3 n1 c1 n2 c2 n3 c3 w h
  have hD2 := fun A1 A2 A3 n1 c1 n2 c2 n3 c3 w h => Do_may U ⟨15, { data := #[107] }, { data := #[] }, V.scores[j].member, 0⟩ (.inr hU) A1 A2 A3 n1 c1 n2 c2 n3 c3 w h
  rw [d1] at hD1
  rw [d2] at hD2
  have hsj : ∀ (b o : Nat) (wx : World), ScAt wx b o V.scores[j] → wx.cell? ⟨b, o, none⟩ = some (.string V.scores[j].member) := fun b o wx h => h.c0
  generalize hm : V.scores[j].member = m at *
  obtain ⟨vk, vt, vc, ps, is_, ss⟩ := V
  obtain ⟨uk, ut, uc, ups, uis, uss⟩ := U
  obtain ⟨xk, xt, xc, xps, xis, xss⟩ := X
  simp only [toldR, emp] at hD1 hD2 hun hq hUl hXl f1 f20 r2 hR hjl hsj
  have hw1 : IntKind.i64.wrap (kk - 500) = kk - 500 := IntWalk.i64_in _ (by omega)
  generalize hk5 : kk - 500 = k5 at *
  have hjl' : j < ss.length := hjl
  have HF := hide hF; have HR2 := hide hR2; have HD1 := hide hD1; have HD2 := hide hD2; have HUN := hide hun; have HSJ := hide hsj
  clear hF hR2 hD1 hD2 hG hGk hU hUk d1 d2 hd hun hm hsj
  have hw1' : IntKind.i64.wrap (kk - 500) = k5 := by rw [hk5]; exact hw1
  go_enter Try.func10, Try.ntmps10
  go_wp2_with fail
  refine (HF.out _ hS).mono ?_; rintro e w1 ⟨B10, m10, e10, B20, m20, e20, B30, m30, e30, rfl, M0, T0, hb0⟩; skip; have q : Below w.heap.size w w1 := (by repeat (first | (with_reducible exact Below.refl _ _) | (with_reducible assumption) | (with_reducible refine Below.drew ?_) | (with_reducible refine bdrewN ?_ _) | (with_reducible refine balloc ?_ _) | ((with_reducible refine bset ?_ ?_ _); rotate_left; (focus first | exact Nat.le_refl _ | (simp; done) | (simp; omega) | omega)) | (with_reducible refine bstep ?_ (by with_reducible assumption)) | (with_reducible refine Below.trans ?_ (by with_reducible assumption)))); clear hb0 T0
  have hm30 : ss.length = m30 := M0.n3_
  rw [hm30] at f1 f20 hUl hXl r2 hjl
  have HL := hide hm30
  have D0 := Blk.new w1 29 #[.int .i64 vk, .string vt, .int .i64 vc, .slice B10 m10 e10, .slice B20 m20 e20, .slice B30 m30 e30]; replace M0 := M0.al (.cells #[.int .i64 vk, .string vt, .int .i64 vc, .slice B10 m10 e10, .slice B20 m20 e20, .slice B30 m30 e30] 29)
  replace q : Below w.heap.size w (w1.alloc (.cells #[.int .i64 vk, .string vt, .int .i64 vc, .slice B10 m10 e10, .slice B20 m20 e20, .slice B30 m30 e30] 29)) := (by repeat (first | (with_reducible exact Below.refl _ _) | (with_reducible assumption) | (with_reducible refine Below.drew ?_) | (with_reducible refine bdrewN ?_ _) | (with_reducible refine balloc ?_ _) | ((with_reducible refine bset ?_ ?_ _); rotate_left; (focus first | exact Nat.le_refl _ | (simp; done) | (simp; omega) | omega)) | (with_reducible refine bstep ?_ (by with_reducible assumption)) | (with_reducible refine Below.trans ?_ (by with_reducible assumption))))
  have hlen0 : ((m30 : Int) == 0) = false := by rw [beq_eq_false_iff_ne]; omega
  have hjm : (j : Int) < (m30 : Int) := by omega
  have hj0 : (0 : Int) ≤ (j : Int) := by omega
  rw [hm30] at hR
  clear hm30
  obtain ⟨b, off, rfl, hbb, hsc⟩ := M0.s.seg.score (k := j) hjl'
  have hcW := HSJ.out _ _ _ hsc
  clear hsc HSJ
  (try clear cD0 fD0); have cD0 := D0.cell; have fD0 := D0.frozen
  go_wp2_with fail
  go_quiet ((go_at_call 28; exact quiet_same (hR _)))
  have Dn := D0.drewN nq
  have Mn : VSl _ _ _ _ _ _ _ _ _ _ _ := ⟨M0.p.drewN nq, M0.i.drewN nq, M0.s.drewN nq⟩
  have qn : Below w.heap.size w ((w1.alloc (.cells #[.int .i64 vk, .string vt, .int .i64 vc, .slice B10 m10 e10, .slice B20 m20 e20, .slice (some ⟨b, off, none⟩) m30 e30] 29)).drewN nq) := (by repeat (first | (with_reducible exact Below.refl _ _) | (with_reducible assumption) | (with_reducible refine Below.drew ?_) | (with_reducible refine bdrewN ?_ _) | (with_reducible refine balloc ?_ _) | ((with_reducible refine bset ?_ ?_ _); rotate_left; (focus first | exact Nat.le_refl _ | (simp; done) | (simp; omega) | omega)) | (with_reducible refine bstep ?_ (by with_reducible assumption)) | (with_reducible refine Below.trans ?_ (by with_reducible assumption))))
  generalize (w1.alloc (.cells #[.int .i64 vk, .string vt, .int .i64 vc, .slice B10 m10 e10, .slice B20 m20 e20, .slice (some ⟨b, off, none⟩) m30 e30] 29)).drewN nq = W at Dn Mn qn ⊢
  clear D0 M0 q hcW cD0 fD0 hR
  have D0 := Dn; have M0 := Mn; have q := qn
  clear Dn Mn qn
  go_wp2_with fail
  refine (HR2.out _).mono ?_
  rintro e w' ⟨rfl, rfl⟩
  (try clear cD0 fD0); have cD0 := D0.cell; have fD0 := D0.frozen
  go_wp2_with fail
  refine (HD1.out _ _ _ _ _ _ _ _ _ _ M0).mono ?_; rintro e w2 ⟨B11, m11, e11, B21, m21, e21, B31, m31, e31, B41, m41, e41, rfl, M1, L1, T1, hb1⟩; replace D0 := D0.bl hb1; replace M0 := M0.bl hb1; replace q : Below w.heap.size w w2 := (by repeat (first | (with_reducible exact Below.refl _ _) | (with_reducible assumption) | (with_reducible refine Below.drew ?_) | (with_reducible refine bdrewN ?_ _) | (with_reducible refine balloc ?_ _) | ((with_reducible refine bset ?_ ?_ _); rotate_left; (focus first | exact Nat.le_refl _ | (simp; done) | (simp; omega) | omega)) | (with_reducible refine bstep ?_ (by with_reducible assumption)) | (with_reducible refine Below.trans ?_ (by with_reducible assumption)))); clear hb1
  have D1 := Blk.new w2 29 #[.int .i64 uk, .string ut, .int .i64 uc, .slice B11 m11 e11, .slice B21 m21 e21, .slice B31 m31 e31]; replace M1 := M1.al (.cells #[.int .i64 uk, .string ut, .int .i64 uc, .slice B11 m11 e11, .slice B21 m21 e21, .slice B31 m31 e31] 29); replace L1 := L1.al (.cells #[.int .i64 uk, .string ut, .int .i64 uc, .slice B11 m11 e11, .slice B21 m21 e21, .slice B31 m31 e31] 29); replace D0 := D0.al (.cells #[.int .i64 uk, .string ut, .int .i64 uc, .slice B11 m11 e11, .slice B21 m21 e21, .slice B31 m31 e31] 29); replace M0 := M0.al (.cells #[.int .i64 uk, .string ut, .int .i64 uc, .slice B11 m11 e11, .slice B21 m21 e21, .slice B31 m31 e31] 29); have R1 : Blk ((w2.alloc (.cells #[.int .i64 uk, .string ut, .int .i64 uc, .slice B11 m11 e11, .slice B21 m21 e21, .slice B31 m31 e31] 29)).alloc (.cells #[.int .i64 0, .string { data := #[] }, .int .i64 0, .slice B41 m41 e41] 37)) (w2.heap.size + 1) 37 #[.int .i64 0, .string { data := #[] }, .int .i64 0, .slice B41 m41 e41] := Blk.new' _ _ _ (by simp); replace M1 := M1.al (.cells #[.int .i64 0, .string { data := #[] }, .int .i64 0, .slice B41 m41 e41] 37); replace L1 := L1.al (.cells #[.int .i64 0, .string { data := #[] }, .int .i64 0, .slice B41 m41 e41] 37); replace D1 := D1.al (.cells #[.int .i64 0, .string { data := #[] }, .int .i64 0, .slice B41 m41 e41] 37); replace D0 := D0.al (.cells #[.int .i64 0, .string { data := #[] }, .int .i64 0, .slice B41 m41 e41] 37); replace M0 := M0.al (.cells #[.int .i64 0, .string { data := #[] }, .int .i64 0, .slice B41 m41 e41] 37)
  clear cD0 fD0 L1 T1
  have hm31 : uss.length = m31 := M1.n3_
  have HL1 := hide hm31
  rw [hm31] at hUl hq
  subst hUl
  clear hm31
  go_wp2_with fail
  generalize hW2 : (w2.alloc (.cells #[.int .i64 uk, .string ut, .int .i64 uc, .slice B11 m11 e11, .slice B21 m21 e21, .slice B31 m31 e31] 29)).alloc (.cells #[.int .i64 0, .string { data := #[] }, .int .i64 0, .slice B41 m41 e41] 37) = W2 at *
  have qW : Below w.heap.size w W2 := by rw [← hW2]; exact (by repeat (first | (with_reducible exact Below.refl _ _) | (with_reducible assumption) | (with_reducible refine Below.drew ?_) | (with_reducible refine bdrewN ?_ _) | (with_reducible refine balloc ?_ _) | ((with_reducible refine bset ?_ ?_ _); rotate_left; (focus first | exact Nat.le_refl _ | (simp; done) | (simp; omega) | omega)) | (with_reducible refine bstep ?_ (by with_reducible assumption)) | (with_reducible refine Below.trans ?_ (by with_reducible assumption))))
  clear hW2 q
  generalize w2.heap.size = g2 at *
  go_loopw [13, 14] (fun s13 s14 wr => ∃ i : Nat, i ≤ m31 ∧ s14 = .int .i64 i ∧ s13 = .int .i64 (seen qq i) ∧ Below W2.heap.size W2 wr) (fun _ s14 _ => m31 - (intOf s14).toNat)
  case atStart => exact ⟨0, by omega, rfl, rfl, Below.refl _ _⟩
  case round =>
    obtain ⟨i, hi, rfl, rfl, hbr⟩ := hrel
    have Dr := D1.bl hbr; have Mr := M1.bl hbr
    have hgr := Dr.lt
    by_cases hlt : i < m31
    · have hlt' : (i : Int) < (m31 : Int) := by omega
      have hi0 : (0 : Int) ≤ (i : Int) := by omega
      obtain ⟨b', off', rfl, hbb', ⟨i0, i1⟩⟩ := Mr.s.seg.score (k := i) (by rw [HL1.out]; exact hlt)
      obtain ⟨hy, hn⟩ := HUN.out i (by rw [HL1.out]; exact hlt)
      generalize (uss[i]'(by rw [HL1.out]; exact hlt)) = x at i0 i1 hy hn
      obtain ⟨xm, xn⟩ := x
      simp only at i0 i1 hy hn
      (try clear cDr fDr); have cDr := Dr.cell; have fDr := Dr.frozen
      by_cases hiq : i = qq
      · obtain ⟨rfl, rfl⟩ := hy hiq
        have e1 : seen qq i = 0 := by unfold seen; rw [if_neg (by omega)]
        have e2 : seen qq (i + 1) = 1 := by unfold seen; rw [if_pos (by omega)]
        clear hy hn hiq
        rw [e1]
        go_wp2_with fail
        go_roundw
        case rel => exact ⟨i + 1, by omega, by go_num, by rw [e2], (by repeat (first | (with_reducible exact Below.refl _ _) | (with_reducible assumption) | (with_reducible refine Below.drew ?_) | (with_reducible refine bdrewN ?_ _) | (with_reducible refine balloc ?_ _) | ((with_reducible refine bset ?_ ?_ _); rotate_left; (focus first | exact Nat.le_refl _ | (simp; done) | (simp; omega) | omega)) | (with_reducible refine bstep ?_ (by with_reducible assumption)) | (with_reducible refine Below.trans ?_ (by with_reducible assumption))))⟩
        case measure => simp [intOf]; omega
      · have hne : (xm.toList == m.toList) = false := by
          cases he : (xm.toList == m.toList) with
          | false => rfl
          | true => exact absurd (eqb_iff.1 he) (hn hiq)
        have e2 := seen_next hiq
        generalize seen qq i = sn at *
        clear hy hn
        go_wp2_with fail
        go_roundw
        case rel => exact ⟨i + 1, by omega, by go_num, by rw [e2], (by repeat (first | (with_reducible exact Below.refl _ _) | (with_reducible assumption) | (with_reducible refine Below.drew ?_) | (with_reducible refine bdrewN ?_ _) | (with_reducible refine balloc ?_ _) | ((with_reducible refine bset ?_ ?_ _); rotate_left; (focus first | exact Nat.le_refl _ | (simp; done) | (simp; omega) | omega)) | (with_reducible refine bstep ?_ (by with_reducible assumption)) | (with_reducible refine Below.trans ?_ (by with_reducible assumption))))⟩
        case measure => simp [intOf]; omega
    · obtain rfl : i = m31 := by omega
      have e1 : seen qq i = 1 := by unfold seen; rw [if_pos hq]
      rw [e1]
      have D0r := D0.bl hbr; have R1r := R1.bl hbr
      have hge : ¬ (i : Int) < (i : Int) := by omega
      (try clear cDr fDr); have cDr := Dr.cell; have fDr := Dr.frozen
      have q : Below w.heap.size w wr := bstep qW hbr
      go_wp2_with fail
      refine (HD2.out _ _ _ _ _ _ _ _ _ _ Mr).mono ?_; rintro e w4 ⟨B12, m12, e12, B22, m22, e22, B32, m32, e32, B42, m42, e42, rfl, M2, L2, T2, hb2⟩; replace Dr := Dr.bl hb2; replace D0r := D0r.bl hb2; replace R1r := R1r.bl hb2; replace q : Below w.heap.size w w4 := (by repeat (first | (with_reducible exact Below.refl _ _) | (with_reducible assumption) | (with_reducible refine Below.drew ?_) | (with_reducible refine bdrewN ?_ _) | (with_reducible refine balloc ?_ _) | ((with_reducible refine bset ?_ ?_ _); rotate_left; (focus first | exact Nat.le_refl _ | (simp; done) | (simp; omega) | omega)) | (with_reducible refine bstep ?_ (by with_reducible assumption)) | (with_reducible refine Below.trans ?_ (by with_reducible assumption)))); clear hb2
      have D2 := Blk.new w4 29 #[.int .i64 xk, .string xt, .int .i64 xc, .slice B12 m12 e12, .slice B22 m22 e22, .slice B32 m32 e32]; replace M2 := M2.al (.cells #[.int .i64 xk, .string xt, .int .i64 xc, .slice B12 m12 e12, .slice B22 m22 e22, .slice B32 m32 e32] 29); replace L2 := L2.al (.cells #[.int .i64 xk, .string xt, .int .i64 xc, .slice B12 m12 e12, .slice B22 m22 e22, .slice B32 m32 e32] 29); replace Dr := Dr.al (.cells #[.int .i64 xk, .string xt, .int .i64 xc, .slice B12 m12 e12, .slice B22 m22 e22, .slice B32 m32 e32] 29); replace D0r := D0r.al (.cells #[.int .i64 xk, .string xt, .int .i64 xc, .slice B12 m12 e12, .slice B22 m22 e22, .slice B32 m32 e32] 29); replace R1r := R1r.al (.cells #[.int .i64 xk, .string xt, .int .i64 xc, .slice B12 m12 e12, .slice B22 m22 e22, .slice B32 m32 e32] 29); have R2 : Blk ((w4.alloc (.cells #[.int .i64 xk, .string xt, .int .i64 xc, .slice B12 m12 e12, .slice B22 m22 e22, .slice B32 m32 e32] 29)).alloc (.cells #[.int .i64 0, .string { data := #[] }, .int .i64 1, .slice B42 m42 e42] 37)) (w4.heap.size + 1) 37 #[.int .i64 0, .string { data := #[] }, .int .i64 1, .slice B42 m42 e42] := Blk.new' _ _ _ (by simp); replace M2 := M2.al (.cells #[.int .i64 0, .string { data := #[] }, .int .i64 1, .slice B42 m42 e42] 37); replace L2 := L2.al (.cells #[.int .i64 0, .string { data := #[] }, .int .i64 1, .slice B42 m42 e42] 37); replace D2 := D2.al (.cells #[.int .i64 0, .string { data := #[] }, .int .i64 1, .slice B42 m42 e42] 37); replace Dr := Dr.al (.cells #[.int .i64 0, .string { data := #[] }, .int .i64 1, .slice B42 m42 e42] 37); replace D0r := D0r.al (.cells #[.int .i64 0, .string { data := #[] }, .int .i64 1, .slice B42 m42 e42] 37); replace R1r := R1r.al (.cells #[.int .i64 0, .string { data := #[] }, .int .i64 1, .slice B42 m42 e42] 37)
      clear cDr fDr
      have hm32 : xss.length = m32 := M2.n3_
      rw [hm32] at hXl
      have hw3 : IntKind.i64.wrap ((i : Int) - 1) = (m32 : Int) := by rw [IntWalk.i64_in _ (by omega)]; omega
      (try clear cDr fDr); have cDr := Dr.cell; have fDr := Dr.frozen; (try clear cD0r fD0r); have cD0r := D0r.cell; have fD0r := D0r.frozen; (try clear cR1r fR1r); have cR1r := R1r.cell; have fR1r := R1r.frozen; (try clear cD2 fD2); have cD2 := D2.cell; have fD2 := D2.frozen; (try clear cR2 fR2); have cR2 := R2.cell; have fR2 := R2.frozen
      go_wp2_with fail
      go_ret
      exact ⟨ret_bool (by simp), (by repeat (first | (with_reducible exact Below.refl _ _) | (with_reducible assumption) | (with_reducible refine Below.drew ?_) | (with_reducible refine bdrewN ?_ _) | (with_reducible refine balloc ?_ _) | ((with_reducible refine bset ?_ ?_ _); rotate_left; (focus first | exact Nat.le_refl _ | (simp; done) | (simp; omega) | omega)) | (with_reducible refine bstep ?_ (by with_reducible assumption)) | (with_reducible refine Below.trans ?_ (by with_reducible assumption))))⟩
set_option maxRecDepth 100000 in
theorem rankMoves_lifted (os : Os) (started : os.Started) (H : Type) (enc : TypeId × Value → H) :
  ReturnsInHanded {} Try.checked os 10 .any (Rows.rankMovesSpec.pre6 enc Try.prog Try.f10 Rows.rankMovesRow.domain false) (Rows.rankMovesSpec.post enc Try.prog Try.f10 false true false false) := by
  refine returnsInHanded_of_change_sized (C := Try.checked) Try.own started (by kernel_rfl) Try.func10 (ChangeSpec.witness6 (enc := enc) (C := Try.checked) false ⟨#[], #[.slice none 0 0, .int .i64 0, .int .i64 0], []⟩ 8 (by kernel_rfl) (by kernel_rfl) (by kernel_rfl) (by kernel_rfl)) ?_
  intro W base args ds gs before hval0 hW hcnd hsz0 _
  have hsz : (DataW.weightsEach Try.prog (Try.f10.params.toList ++ Rows.rankMovesSpec.plain.varTypes Try.prog) (ds ++ gs)).all (· ≤ reachBytes) = true := hsz0
  clear hsz0
  have hval : ∀ (j : Nat) t v, Try.f10.params[j]? = some t → args[j]? = some v → Value.okWide Try.prog W .any base t v := hval0
  have hW' := hW
  obtain ⟨p, q, hA0, hV, rfl, hfz, hnd⟩ := hW
  have hA : DataW.TrodAll enc Try.prog W 0 (fun _ => true) true Try.f10.params.toList args.toList ds p := hA0
  rw [Try.params10] at hA hval hsz
  obtain ⟨rfl, rfl⟩ := trodVars_none hV
  clear hA0 hval0 hcnd hV hfz hnd
  obtain ⟨v0, v1, v2, d0, d1, d2, p0, p1, p2, rfl, rfl, rfl, h0, h1, h2⟩ := trodAll_three hA
  obtain ⟨A, n, c, l, rfl, hd, hS⟩ := open_raws (hval 0 22 v0 rfl rfl) h0
  obtain ⟨k, rfl, rfl, rfl, w1⟩ := open_int Try.underlying3 (hval 1 3 v1 rfl rfl) h1
  obtain ⟨m, rfl, rfl, rfl, w2⟩ := open_int Try.underlying3 (hval 2 3 v2 rfl rfl) h2
  refine (rankMoves_walk A n c l k m W hS hd (i64_bounds w1) (i64_bounds w2) (raw_reach (j := 0) h0 hsz rfl rfl)).mono fun e W' ⟨he, hb⟩ => ?_
  subst he
  exact ⟨_, rfl, post_law Try.laidOut hW' rfl (by kernel_rfl) rfl Try.underlying4 (fun _ => rfl) (fun _ => rfl) (fun _ => rfl) hb⟩
theorem rankMoves_holds : Rows.RankMovesSaid := OpenClaim.holds_of_wide 10 Try.f10 rfl rfl rfl rfl rfl rfl rfl ⟨rfl, rfl, rfl, rfl, rfl⟩ rfl rfl rfl rfl rfl (by kernel_rfl) Try.func10 (by kernel_rfl)
  (of_decide_eq_true (by kernel_rfl)) (by unfold Func.isWrapper; first | (rw [if_pos (by decide +kernel)]; kernel_rfl) | (rw [if_neg (by decide +kernel)]; exact ⟨rfl, rfl⟩))
  (fun os started H enc _ => rankMoves_lifted os started H enc)
#print axioms rankMoves_holds
end Go.Proofs.Ytcelcanfdalliaa
