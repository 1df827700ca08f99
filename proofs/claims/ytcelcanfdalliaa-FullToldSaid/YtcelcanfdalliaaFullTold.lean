/- rostrumkeep.FullTold returns true for every input and leaves its arguments as they were; no condition. -/
import Derived.Test.YtcelcanfdalliaaValLaw
import Derived.Test.YtcelcanfdalliaaFullP
namespace Go.Proofs.Ytcelcanfdalliaa
set_option linter.all false
open Go.ChangeShapes Go.WideShapes Go.ChangeAt Go.RowKit
theorem two_string (a b : Int) (w : World) : (convert 60 9 (.slice (some ⟨w.heap.size, 0, none⟩) 2 2)).run Try.prog (w.alloc (.cells (#[Value.int .u8 a, Value.int .u8 b]) 5)) =
    .ok (.string (strOfNums [a, b])) (w.alloc (.cells (#[Value.int .u8 a, Value.int .u8 b]) 5)) :=
  run_convert_bytes_arg _ _ _ Try.underlying60 Try.underlying5 _ 0 2 2 _ rfl (fun i hi => by
    have h : i = 0 ∨ i = 1 := by omega
    rcases h with rfl | rfl
    · exact World.cell?_alloc_new w _ _ 0
    · exact World.cell?_alloc_new w _ _ 1) _ Try.underlying9
set_option maxRecDepth 100000 in
set_option maxHeartbeats 8000000 in
theorem fullTold_walk (kind nn : Int) (w : World) (hk : I64 kind) (hnn : I64 nn) :
    Calls Try.prog 13 #[.int .i64 kind, .int .i64 nn] w fun e w' => e = .returned (.bool true) ∧ Below w.heap.size w w' := by
  have p1 := picked_lo kind 4 (by omega)
  have p2 := picked_hi kind 4 (by omega)
  have hR := fun w => picked_any kind 4 w hk.1 hk.2 (by omega) (by omega)
  generalize picked kind 4 = p at *
  have r1 := picked_lo nn 40 (by omega)
  have r2 := picked_hi nn 40 (by omega)
  have hR2 := fun w => picked_any nn 40 w hnn.1 hnn.2 (by omega) (by omega)
  obtain ⟨m, hm⟩ := Int.eq_ofNat_of_zero_le r1
  rw [hm] at hR2 r2
  clear hm r1
  have hM := fun w => maker_any (2 + p) ⟨0, 0, 0, 0, emp⟩ w ⟨by omega, by omega⟩ (by unfold RawD.ok I64 maxLen; simp [emp, ByteArray.size])
  rw [full_maker p1 p2] at hM
  have hw : IntKind.i64.wrap (2 + p) = 2 + p := IntWalk.i64_in _ (by omega)
  have hcv := fun (i : Nat) w => two_string (97 + (i : Int) % 26) (97 + (i : Int) / 26) w
  simp only [cmdV, emp] at hM
  have HR := hide hR; have HR2 := hide hR2; have HM := hide hM; have HCV := hide hcv
  clear hR hR2 hM hcv
  have V0 := Blk.new w 29 #[.int .i64 0, .string { data := #[] }, .int .i64 0, .slice none 0 0, .slice none 0 0, .slice none 0 0]
  go_enter Try.func13, Try.ntmps13
  go_wp2_with fail
  refine (HR.out _).mono ?_
  rintro e w' ⟨rfl, rfl⟩
  go_wp2_with fail
  refine (HR2.out _).mono ?_
  rintro e w' ⟨rfl, rfl⟩
  go_wp2_with fail
  go_loopw [8] (fun s8 wr => ∃ i : Nat, i ≤ m ∧ s8 = .int .i64 i ∧ ∃ (vk : Int) (vt : ByteArray) (vc : Int) (ps : List Pr) (is_ : List ByteArray) (ss : List Sc) (A1 : Option Addr) (n1 c1 : Nat) (A2 : Option Addr) (n2 c2 : Nat) (A3 : Option Addr) (n3 c3 : Nat),
      Blk wr w.heap.size 29 #[.int .i64 vk, .string vt, .int .i64 vc, .slice A1 n1 c1, .slice A2 n2 c2, .slice A3 n3 c3] ∧ VSl wr ⟨vk, vt, vc, ps, is_, ss⟩ A1 n1 c1 A2 n2 c2 A3 n3 c3 ∧ (Tp wr A1 50 ∧ Tp wr A2 9 ∧ Tp wr A3 56) ∧
      Hid (FullV p i ⟨vk, vt, vc, ps, is_, ss⟩) ∧ Below w.heap.size w wr)
    (fun s8 _ => m - (intOf s8).toNat)
  case atStart => exact ⟨0, by omega, rfl, _, _, _, [], [], [], _, _, _, _, _, _, _, _, _, V0, nil_vsl, ⟨Tp.none_, Tp.none_, Tp.none_⟩, full_zero p, (by repeat (first | (with_reducible exact Below.refl _ _) | (with_reducible assumption) | (with_reducible refine Below.drew ?_) | (with_reducible refine bdrewN ?_ _) | (with_reducible refine balloc ?_ _) | ((with_reducible refine bset ?_ ?_ _); rotate_left; (focus first | exact Nat.le_refl _ | (simp; done) | (simp; omega) | omega)) | (with_reducible refine bstep ?_ (by with_reducible assumption)) | (with_reducible refine Below.trans ?_ (by with_reducible assumption))))⟩
  case round =>
    obtain ⟨i, hi, rfl, vk, vt, vc, ps, is_, ss, A1, n1, c1, A2, n2, c2, A3, n3, c3, V, N, T, HV, hbr⟩ := hrel
    clear V0
    have hbs := hbr.size
    have hv1 := V.lt
    by_cases hlt : i < m
    · have hlt' : (i : Int) < (m : Int) := by omega
      obtain ⟨s1, s2, s3, s4⟩ := full_step p1 p2 (show i < 40 by omega) HV.out
      have hDo := fun w h => Do_may ⟨vk, vt, vc, ps, is_, ss⟩ (fullC p i) HV.out.may' A1 A2 A3 n1 c1 n2 c2 n3 c3 w h
      generalize doneVal ⟨vk, vt, vc, ps, is_, ss⟩ (fullC p i) = D at *
      obtain ⟨⟨dk, dt, dc, dps, dis, dss⟩, ⟨rc, rt, rn, rl⟩, de⟩ := D
      simp only [fullC, emp] at s1 s2 s3 s4 hDo
      subst s1
      have htx : tx i = strOfNums [97 + (i : Int) % 26, 97 + (i : Int) / 26] := by unfold tx; rw [Int.natCast_emod, Int.natCast_ediv]; rfl
      have hcv := HCV.out i
      rw [← htx] at hcv
      clear htx
      generalize tx i = t at *
      generalize some_ 0 = key at *
      have HS4 := hide s4
      have hcode : (rc = 6 ∧ (20 : Int) ≤ i) ∨ (¬ rc = 6 ∧ (rc == 6) = false ∧ ¬ (20 : Int) ≤ i) := by
        by_cases h20 : i < 20
        · rw [s2 h20]; right; exact ⟨by omega, by decide, by omega⟩
        · rw [s3 (by omega)]; left; exact ⟨rfl, by omega⟩
      clear s2 s3 s4
      have hi0 : (0 : Int) ≤ (i : Int) := by omega
      (try clear cV fV); have cV := V.cell; have fV := V.frozen
      go_wp2_with fail
      refine (HM.out _).mono ?_
      rintro e w2 ⟨rfl, hb2⟩
      have q : Below w.heap.size w w2 := (by repeat (first | (with_reducible exact Below.refl _ _) | (with_reducible assumption) | (with_reducible refine Below.drew ?_) | (with_reducible refine bdrewN ?_ _) | (with_reducible refine balloc ?_ _) | ((with_reducible refine bset ?_ ?_ _); rotate_left; (focus first | exact Nat.le_refl _ | (simp; done) | (simp; omega) | omega)) | (with_reducible refine bstep ?_ (by with_reducible assumption)) | (with_reducible refine Below.trans ?_ (by with_reducible assumption))))
      have V2 := (V.alloc (.cells #[.int .u8 (97 + (i : Int) % 26), .int .u8 (97 + (i : Int) / 26)] 5)).below' hb2
      have N2 := (N.al (.cells #[.int .u8 (97 + (i : Int) % 26), .int .u8 (97 + (i : Int) / 26)] 5)).bl hb2
      clear hb2 cV fV hcv
      by_cases hp0 : p = 0
      · have hk4 : makeK (2 + p) = 4 := by rw [hp0]; rfl
        have h03 : ¬ p = 3 := by omega
        rw [hk4] at hDo ⊢
        simp only [if_pos hp0, if_neg h03] at hDo ⊢
        have HDO := hide hDo
        clear hDo hk4 h03 hp0
        have V3 := V2.alloc (.cells #[.int .i64 4, .string key, .string t, .string t, .int .i64 0] 34)
        have N3 := N2.al (.cells #[.int .i64 4, .string key, .string t, .string t, .int .i64 0] 34)
        have C3 := Blk.new w2 34 #[.int .i64 4, .string key, .string t, .string t, .int .i64 0]
        have hz2 := V2.lt
        (try clear cV3 fV3); have cV3 := V3.cell; have fV3 := V3.frozen; (try clear cC3 fC3); have cC3 := C3.cell; have fC3 := C3.frozen
        go_wp2_with fail
        refine (HDO.out _ N3).mono ?_; rintro e w4 ⟨B14, m14, e14, B24, m24, e24, B34, m34, e34, B44, m44, e44, rfl, M4, L4, T4, hb4⟩; replace V3 := V3.bl hb4; replace q : Below w.heap.size w w4 := (by repeat (first | (with_reducible exact Below.refl _ _) | (with_reducible assumption) | (with_reducible refine Below.drew ?_) | (with_reducible refine bdrewN ?_ _) | (with_reducible refine balloc ?_ _) | ((with_reducible refine bset ?_ ?_ _); rotate_left; (focus first | exact Nat.le_refl _ | (simp; done) | (simp; omega) | omega)) | (with_reducible refine bstep ?_ (by with_reducible assumption)) | (with_reducible refine Below.trans ?_ (by with_reducible assumption)))); clear hb4
        have D4 := Blk.new w4 29 #[.int .i64 dk, .string dt, .int .i64 dc, .slice B14 m14 e14, .slice B24 m24 e24, .slice B34 m34 e34]; replace M4 := M4.al (.cells #[.int .i64 dk, .string dt, .int .i64 dc, .slice B14 m14 e14, .slice B24 m24 e24, .slice B34 m34 e34] 29); replace L4 := L4.al (.cells #[.int .i64 dk, .string dt, .int .i64 dc, .slice B14 m14 e14, .slice B24 m24 e24, .slice B34 m34 e34] 29); replace V3 := V3.al (.cells #[.int .i64 dk, .string dt, .int .i64 dc, .slice B14 m14 e14, .slice B24 m24 e24, .slice B34 m34 e34] 29); have R4 : Blk ((w4.alloc (.cells #[.int .i64 dk, .string dt, .int .i64 dc, .slice B14 m14 e14, .slice B24 m24 e24, .slice B34 m34 e34] 29)).alloc (.cells #[.int .i64 rc, .string rt, .int .i64 rn, .slice B44 m44 e44] 37)) (w4.heap.size + 1) 37 #[.int .i64 rc, .string rt, .int .i64 rn, .slice B44 m44 e44] := Blk.new' _ _ _ (by simp); replace M4 := M4.al (.cells #[.int .i64 rc, .string rt, .int .i64 rn, .slice B44 m44 e44] 37); replace L4 := L4.al (.cells #[.int .i64 rc, .string rt, .int .i64 rn, .slice B44 m44 e44] 37); replace D4 := D4.al (.cells #[.int .i64 rc, .string rt, .int .i64 rn, .slice B44 m44 e44] 37); replace V3 := V3.al (.cells #[.int .i64 rc, .string rt, .int .i64 rn, .slice B44 m44 e44] 37)
        have bx : Below w4.heap.size w4 ((w4.alloc (.cells #[.int .i64 dk, .string dt, .int .i64 dc, .slice B14 m14 e14, .slice B24 m24 e24, .slice B34 m34 e34] 29)).alloc (.cells #[.int .i64 rc, .string rt, .int .i64 rn, .slice B44 m44 e44] 37)) := (by repeat (first | (with_reducible exact Below.refl _ _) | (with_reducible assumption) | (with_reducible refine Below.drew ?_) | (with_reducible refine bdrewN ?_ _) | (with_reducible refine balloc ?_ _) | ((with_reducible refine bset ?_ ?_ _); rotate_left; (focus first | exact Nat.le_refl _ | (simp; done) | (simp; omega) | omega)) | (with_reducible refine bstep ?_ (by with_reducible assumption)) | (with_reducible refine Below.trans ?_ (by with_reducible assumption))))
        have TT := And.intro (T4.1.bl bx) (And.intro (T4.2.1.bl bx) (T4.2.2.1.bl bx))
        have q9 : Below w.heap.size w ((w4.alloc (.cells #[.int .i64 dk, .string dt, .int .i64 dc, .slice B14 m14 e14, .slice B24 m24 e24, .slice B34 m34 e34] 29)).alloc (.cells #[.int .i64 rc, .string rt, .int .i64 rn, .slice B44 m44 e44] 37)) := (by repeat (first | (with_reducible exact Below.refl _ _) | (with_reducible assumption) | (with_reducible refine Below.drew ?_) | (with_reducible refine bdrewN ?_ _) | (with_reducible refine balloc ?_ _) | ((with_reducible refine bset ?_ ?_ _); rotate_left; (focus first | exact Nat.le_refl _ | (simp; done) | (simp; omega) | omega)) | (with_reducible refine bstep ?_ (by with_reducible assumption)) | (with_reducible refine Below.trans ?_ (by with_reducible assumption))))
        clear cV3 fV3 cC3 fC3 T4 bx C3
        (try clear cD4 fD4); have cD4 := D4.cell; have fD4 := D4.frozen; (try clear cR4 fR4); have cR4 := R4.cell; have fR4 := R4.frozen; (try clear cV3 fV3); have cV3 := V3.cell; have fV3 := V3.frozen
        obtain ⟨h6, h20⟩ | ⟨h6, h6b, h20⟩ := hcode
        · subst h6
          go_wp2_with fail
          go_roundw
          case rel =>
            obtain ⟨V9, gr9, sz9⟩ := whole_value (Value.int .i64 dk) (Value.string dt) (Value.int .i64 dc) (Value.slice B14 m14 e14) (Value.slice B24 m24 e24) (Value.slice B34 m34 e34) V3
            exact ⟨i + 1, by omega, by go_num, _, _, _, _, _, _, _, _, _, _, _, _, _, _, _, V9, grown_vsl M4 TT V3 gr9, ⟨grown_tp TT.1 V3 gr9, grown_tp TT.2.1 V3 gr9, grown_tp TT.2.2 V3 gr9⟩, HS4, below_grow q9 gr9 (by have := q9.size; omega) (by omega)⟩
          case measure => simp [intOf]; omega
        · skip
          go_wp2_with fail
          go_roundw
          case rel =>
            obtain ⟨V9, gr9, sz9⟩ := whole_value (Value.int .i64 dk) (Value.string dt) (Value.int .i64 dc) (Value.slice B14 m14 e14) (Value.slice B24 m24 e24) (Value.slice B34 m34 e34) V3
            exact ⟨i + 1, by omega, by go_num, _, _, _, _, _, _, _, _, _, _, _, _, _, _, _, V9, grown_vsl M4 TT V3 gr9, ⟨grown_tp TT.1 V3 gr9, grown_tp TT.2.1 V3 gr9, grown_tp TT.2.2 V3 gr9⟩, HS4, below_grow q9 gr9 (by have := q9.size; omega) (by omega)⟩
          case measure => simp [intOf]; omega
      · have hck : (makeK (2 + p) == 4) = false := by rw [beq_eq_false_iff_ne]; unfold makeK; (repeat' split) <;> omega
        simp only [if_neg hp0] at hDo ⊢
        generalize makeK (2 + p) = ck at *
        generalize (if p = 3 then (-6 : Int) else 0) = cn at *
        have HDO := hide hDo
        clear hDo hp0
        have V3 := V2.alloc (.cells #[.int .i64 ck, .string key, .string { data := #[] }, .string t, .int .i64 cn] 34)
        have N3 := N2.al (.cells #[.int .i64 ck, .string key, .string { data := #[] }, .string t, .int .i64 cn] 34)
        have C3 := Blk.new w2 34 #[.int .i64 ck, .string key, .string { data := #[] }, .string t, .int .i64 cn]
        have hz2 := V2.lt
        (try clear cV3 fV3); have cV3 := V3.cell; have fV3 := V3.frozen; (try clear cC3 fC3); have cC3 := C3.cell; have fC3 := C3.frozen
        go_wp2_with fail
        refine (HDO.out _ N3).mono ?_; rintro e w4 ⟨B14, m14, e14, B24, m24, e24, B34, m34, e34, B44, m44, e44, rfl, M4, L4, T4, hb4⟩; replace V3 := V3.bl hb4; replace q : Below w.heap.size w w4 := (by repeat (first | (with_reducible exact Below.refl _ _) | (with_reducible assumption) | (with_reducible refine Below.drew ?_) | (with_reducible refine bdrewN ?_ _) | (with_reducible refine balloc ?_ _) | ((with_reducible refine bset ?_ ?_ _); rotate_left; (focus first | exact Nat.le_refl _ | (simp; done) | (simp; omega) | omega)) | (with_reducible refine bstep ?_ (by with_reducible assumption)) | (with_reducible refine Below.trans ?_ (by with_reducible assumption)))); clear hb4
        have D4 := Blk.new w4 29 #[.int .i64 dk, .string dt, .int .i64 dc, .slice B14 m14 e14, .slice B24 m24 e24, .slice B34 m34 e34]; replace M4 := M4.al (.cells #[.int .i64 dk, .string dt, .int .i64 dc, .slice B14 m14 e14, .slice B24 m24 e24, .slice B34 m34 e34] 29); replace L4 := L4.al (.cells #[.int .i64 dk, .string dt, .int .i64 dc, .slice B14 m14 e14, .slice B24 m24 e24, .slice B34 m34 e34] 29); replace V3 := V3.al (.cells #[.int .i64 dk, .string dt, .int .i64 dc, .slice B14 m14 e14, .slice B24 m24 e24, .slice B34 m34 e34] 29); have R4 : Blk ((w4.alloc (.cells #[.int .i64 dk, .string dt, .int .i64 dc, .slice B14 m14 e14, .slice B24 m24 e24, .slice B34 m34 e34] 29)).alloc (.cells #[.int .i64 rc, .string rt, .int .i64 rn, .slice B44 m44 e44] 37)) (w4.heap.size + 1) 37 #[.int .i64 rc, .string rt, .int .i64 rn, .slice B44 m44 e44] := Blk.new' _ _ _ (by simp); replace M4 := M4.al (.cells #[.int .i64 rc, .string rt, .int .i64 rn, .slice B44 m44 e44] 37); replace L4 := L4.al (.cells #[.int .i64 rc, .string rt, .int .i64 rn, .slice B44 m44 e44] 37); replace D4 := D4.al (.cells #[.int .i64 rc, .string rt, .int .i64 rn, .slice B44 m44 e44] 37); replace V3 := V3.al (.cells #[.int .i64 rc, .string rt, .int .i64 rn, .slice B44 m44 e44] 37)
        have bx : Below w4.heap.size w4 ((w4.alloc (.cells #[.int .i64 dk, .string dt, .int .i64 dc, .slice B14 m14 e14, .slice B24 m24 e24, .slice B34 m34 e34] 29)).alloc (.cells #[.int .i64 rc, .string rt, .int .i64 rn, .slice B44 m44 e44] 37)) := (by repeat (first | (with_reducible exact Below.refl _ _) | (with_reducible assumption) | (with_reducible refine Below.drew ?_) | (with_reducible refine bdrewN ?_ _) | (with_reducible refine balloc ?_ _) | ((with_reducible refine bset ?_ ?_ _); rotate_left; (focus first | exact Nat.le_refl _ | (simp; done) | (simp; omega) | omega)) | (with_reducible refine bstep ?_ (by with_reducible assumption)) | (with_reducible refine Below.trans ?_ (by with_reducible assumption))))
        have TT := And.intro (T4.1.bl bx) (And.intro (T4.2.1.bl bx) (T4.2.2.1.bl bx))
        have q9 : Below w.heap.size w ((w4.alloc (.cells #[.int .i64 dk, .string dt, .int .i64 dc, .slice B14 m14 e14, .slice B24 m24 e24, .slice B34 m34 e34] 29)).alloc (.cells #[.int .i64 rc, .string rt, .int .i64 rn, .slice B44 m44 e44] 37)) := (by repeat (first | (with_reducible exact Below.refl _ _) | (with_reducible assumption) | (with_reducible refine Below.drew ?_) | (with_reducible refine bdrewN ?_ _) | (with_reducible refine balloc ?_ _) | ((with_reducible refine bset ?_ ?_ _); rotate_left; (focus first | exact Nat.le_refl _ | (simp; done) | (simp; omega) | omega)) | (with_reducible refine bstep ?_ (by with_reducible assumption)) | (with_reducible refine Below.trans ?_ (by with_reducible assumption))))
        clear cV3 fV3 cC3 fC3 T4 bx C3
        (try clear cD4 fD4); have cD4 := D4.cell; have fD4 := D4.frozen; (try clear cR4 fR4); have cR4 := R4.cell; have fR4 := R4.frozen; (try clear cV3 fV3); have cV3 := V3.cell; have fV3 := V3.frozen
        obtain ⟨h6, h20⟩ | ⟨h6, h6b, h20⟩ := hcode
        · subst h6
          go_wp2_with fail
          go_roundw
          case rel =>
            obtain ⟨V9, gr9, sz9⟩ := whole_value (Value.int .i64 dk) (Value.string dt) (Value.int .i64 dc) (Value.slice B14 m14 e14) (Value.slice B24 m24 e24) (Value.slice B34 m34 e34) V3
            exact ⟨i + 1, by omega, by go_num, _, _, _, _, _, _, _, _, _, _, _, _, _, _, _, V9, grown_vsl M4 TT V3 gr9, ⟨grown_tp TT.1 V3 gr9, grown_tp TT.2.1 V3 gr9, grown_tp TT.2.2 V3 gr9⟩, HS4, below_grow q9 gr9 (by have := q9.size; omega) (by omega)⟩
          case measure => simp [intOf]; omega
        · skip
          go_wp2_with fail
          go_roundw
          case rel =>
            obtain ⟨V9, gr9, sz9⟩ := whole_value (Value.int .i64 dk) (Value.string dt) (Value.int .i64 dc) (Value.slice B14 m14 e14) (Value.slice B24 m24 e24) (Value.slice B34 m34 e34) V3
            exact ⟨i + 1, by omega, by go_num, _, _, _, _, _, _, _, _, _, _, _, _, _, _, _, V9, grown_vsl M4 TT V3 gr9, ⟨grown_tp TT.1 V3 gr9, grown_tp TT.2.1 V3 gr9, grown_tp TT.2.2 V3 gr9⟩, HS4, below_grow q9 gr9 (by have := q9.size; omega) (by omega)⟩
          case measure => simp [intOf]; omega
    · obtain rfl : i = m := by omega
      have hge : ¬ (i : Int) < (i : Int) := by omega
      have hc : ccOf ⟨17, { data := #[107] }, { data := #[] }, { data := #[] }, 0⟩ = 0 := cc_lit (by decide) (by decide) rfl rfl rfl
      have hsz := HV.out.size
      have q : Below w.heap.size w wr := hbr
      clear HM HCV HR HR2
      rcases HV.out.may with ⟨h0, hz⟩ | ⟨h1, hg, hgk⟩
      · have hDo := fun w h => Do_may zeroVa ⟨17, { data := #[107] }, { data := #[] }, { data := #[] }, 0⟩ (.inl rfl) A1 A2 A3 n1 c1 n2 c2 n3 c3 w h
        rw [done_none hc (by decide) rfl] at hDo
        simp only [failR, emp, zeroVa, Va.mk.injEq] at hDo hz
        obtain ⟨rfl, rfl, rfl, rfl, rfl, rfl⟩ := hz
        have HDO := hide hDo
        have hi0 : ((i : Int) == 0) = true := by subst h0; rfl
        clear hDo h0 hc hsz HV
        (try clear cV fV); have cV := V.cell; have fV := V.frozen
        go_wp2_with fail
        refine (HDO.out _ N).mono ?_; rintro e w5 ⟨B15, m15, e15, B25, m25, e25, B35, m35, e35, B45, m45, e45, rfl, M5, L5, T5, hb5⟩; replace V := V.bl hb5; replace q : Below w.heap.size w w5 := (by repeat (first | (with_reducible exact Below.refl _ _) | (with_reducible assumption) | (with_reducible refine Below.drew ?_) | (with_reducible refine bdrewN ?_ _) | (with_reducible refine balloc ?_ _) | ((with_reducible refine bset ?_ ?_ _); rotate_left; (focus first | exact Nat.le_refl _ | (simp; done) | (simp; omega) | omega)) | (with_reducible refine bstep ?_ (by with_reducible assumption)) | (with_reducible refine Below.trans ?_ (by with_reducible assumption)))); clear hb5
        have D5 := Blk.new w5 29 #[.int .i64 0, .string { data := #[] }, .int .i64 0, .slice B15 m15 e15, .slice B25 m25 e25, .slice B35 m35 e35]; replace M5 := M5.al (.cells #[.int .i64 0, .string { data := #[] }, .int .i64 0, .slice B15 m15 e15, .slice B25 m25 e25, .slice B35 m35 e35] 29); replace L5 := L5.al (.cells #[.int .i64 0, .string { data := #[] }, .int .i64 0, .slice B15 m15 e15, .slice B25 m25 e25, .slice B35 m35 e35] 29); replace V := V.al (.cells #[.int .i64 0, .string { data := #[] }, .int .i64 0, .slice B15 m15 e15, .slice B25 m25 e25, .slice B35 m35 e35] 29); have R5 : Blk ((w5.alloc (.cells #[.int .i64 0, .string { data := #[] }, .int .i64 0, .slice B15 m15 e15, .slice B25 m25 e25, .slice B35 m35 e35] 29)).alloc (.cells #[.int .i64 5, .string { data := #[] }, .int .i64 0, .slice B45 m45 e45] 37)) (w5.heap.size + 1) 37 #[.int .i64 5, .string { data := #[] }, .int .i64 0, .slice B45 m45 e45] := Blk.new' _ _ _ (by simp); replace M5 := M5.al (.cells #[.int .i64 5, .string { data := #[] }, .int .i64 0, .slice B45 m45 e45] 37); replace L5 := L5.al (.cells #[.int .i64 5, .string { data := #[] }, .int .i64 0, .slice B45 m45 e45] 37); replace D5 := D5.al (.cells #[.int .i64 5, .string { data := #[] }, .int .i64 0, .slice B45 m45 e45] 37); replace V := V.al (.cells #[.int .i64 5, .string { data := #[] }, .int .i64 0, .slice B45 m45 e45] 37)
        clear cV fV
        (try clear cD5 fD5); have cD5 := D5.cell; have fD5 := D5.frozen; (try clear cR5 fR5); have cR5 := R5.cell; have fR5 := R5.frozen
        go_wp2_with fail
        go_ret
        exact ⟨rfl, (by repeat (first | (with_reducible exact Below.refl _ _) | (with_reducible assumption) | (with_reducible refine Below.drew ?_) | (with_reducible refine bdrewN ?_ _) | (with_reducible refine balloc ?_ _) | ((with_reducible refine bset ?_ ?_ _); rotate_left; (focus first | exact Nat.le_refl _ | (simp; done) | (simp; omega) | omega)) | (with_reducible refine bstep ?_ (by with_reducible assumption)) | (with_reducible refine Below.trans ?_ (by with_reducible assumption))))⟩
      · have hDo := fun w h => Do_may ⟨vk, vt, vc, ps, is_, ss⟩ ⟨17, { data := #[107] }, { data := #[] }, { data := #[] }, 0⟩ HV.out.may' A1 A2 A3 n1 c1 n2 c2 n3 c3 w h
        rw [done_len hg (by rw [hgk]; omega) hc rfl, hsz] at hDo
        simp only [toldR, emp] at hDo
        have HDO := hide hDo
        have hi0 : ((i : Int) == 0) = false := by rw [beq_eq_false_iff_ne]; omega
        clear hDo h1 hc hsz HV hg hgk
        have hmn : ((min i 20 : Nat) : Int) = min (i : Int) 20 := by omega
        (try clear cV fV); have cV := V.cell; have fV := V.frozen
        go_wp2_with fail
        refine (HDO.out _ N).mono ?_; rintro e w6 ⟨B16, m16, e16, B26, m26, e26, B36, m36, e36, B46, m46, e46, rfl, M6, L6, T6, hb6⟩; replace V := V.bl hb6; replace q : Below w.heap.size w w6 := (by repeat (first | (with_reducible exact Below.refl _ _) | (with_reducible assumption) | (with_reducible refine Below.drew ?_) | (with_reducible refine bdrewN ?_ _) | (with_reducible refine balloc ?_ _) | ((with_reducible refine bset ?_ ?_ _); rotate_left; (focus first | exact Nat.le_refl _ | (simp; done) | (simp; omega) | omega)) | (with_reducible refine bstep ?_ (by with_reducible assumption)) | (with_reducible refine Below.trans ?_ (by with_reducible assumption)))); clear hb6
        have D6 := Blk.new w6 29 #[.int .i64 vk, .string vt, .int .i64 vc, .slice B16 m16 e16, .slice B26 m26 e26, .slice B36 m36 e36]; replace M6 := M6.al (.cells #[.int .i64 vk, .string vt, .int .i64 vc, .slice B16 m16 e16, .slice B26 m26 e26, .slice B36 m36 e36] 29); replace L6 := L6.al (.cells #[.int .i64 vk, .string vt, .int .i64 vc, .slice B16 m16 e16, .slice B26 m26 e26, .slice B36 m36 e36] 29); replace V := V.al (.cells #[.int .i64 vk, .string vt, .int .i64 vc, .slice B16 m16 e16, .slice B26 m26 e26, .slice B36 m36 e36] 29); have R6 : Blk ((w6.alloc (.cells #[.int .i64 vk, .string vt, .int .i64 vc, .slice B16 m16 e16, .slice B26 m26 e26, .slice B36 m36 e36] 29)).alloc (.cells #[.int .i64 0, .string { data := #[] }, .int .i64 ((min i 20 : Nat) : Int), .slice B46 m46 e46] 37)) (w6.heap.size + 1) 37 #[.int .i64 0, .string { data := #[] }, .int .i64 ((min i 20 : Nat) : Int), .slice B46 m46 e46] := Blk.new' _ _ _ (by simp); replace M6 := M6.al (.cells #[.int .i64 0, .string { data := #[] }, .int .i64 ((min i 20 : Nat) : Int), .slice B46 m46 e46] 37); replace L6 := L6.al (.cells #[.int .i64 0, .string { data := #[] }, .int .i64 ((min i 20 : Nat) : Int), .slice B46 m46 e46] 37); replace D6 := D6.al (.cells #[.int .i64 0, .string { data := #[] }, .int .i64 ((min i 20 : Nat) : Int), .slice B46 m46 e46] 37); replace V := V.al (.cells #[.int .i64 0, .string { data := #[] }, .int .i64 ((min i 20 : Nat) : Int), .slice B46 m46 e46] 37)
        clear cV fV
        (try clear cD6 fD6); have cD6 := D6.cell; have fD6 := D6.frozen; (try clear cR6 fR6); have cR6 := R6.cell; have fR6 := R6.frozen
        go_wp2_with fail

        go_ret
        exact ⟨rfl, (by repeat (first | (with_reducible exact Below.refl _ _) | (with_reducible assumption) | (with_reducible refine Below.drew ?_) | (with_reducible refine bdrewN ?_ _) | (with_reducible refine balloc ?_ _) | ((with_reducible refine bset ?_ ?_ _); rotate_left; (focus first | exact Nat.le_refl _ | (simp; done) | (simp; omega) | omega)) | (with_reducible refine bstep ?_ (by with_reducible assumption)) | (with_reducible refine Below.trans ?_ (by with_reducible assumption))))⟩
set_option maxRecDepth 100000 in
theorem fullTold_lifted (os : Os) (started : os.Started) (H : Type) (enc : TypeId × Value → H) :
  ReturnsInHanded {} Try.checked os 13 .any (Rows.fullToldSpec.pre6 enc Try.prog Try.f13 Rows.fullToldRow.domain false) (Rows.fullToldSpec.post enc Try.prog Try.f13 false true false false) := by
  refine returnsInHanded_of_change (C := Try.checked) Try.own started (by kernel_rfl) Try.func13 (ChangeSpec.witness6 (enc := enc) (C := Try.checked) false ⟨#[], #[.int .i64 0, .int .i64 0], []⟩ 8 (by kernel_rfl) (by kernel_rfl) (by kernel_rfl) (by kernel_rfl)) ?_
  intro W base args ds gs before hval0 hW hcnd _
  have hval : ∀ (j : Nat) t v, Try.f13.params[j]? = some t → args[j]? = some v → Value.okWide Try.prog W .any base t v := hval0
  have hW' := hW
  obtain ⟨p, q, hA0, hV, rfl, hfz, hnd⟩ := hW
  have hA : DataW.TrodAll enc Try.prog W 0 (fun _ => true) true Try.f13.params.toList args.toList ds p := hA0
  rw [Try.params13] at hA hval
  obtain ⟨rfl, rfl⟩ := trodVars_none hV
  clear hA0 hval0 hcnd hV hfz hnd
  obtain ⟨v0, v1, d0, d1, p0, p1, rfl, rfl, rfl, h0, h1⟩ := trodAll_two hA
  obtain ⟨k, rfl, rfl, rfl, w1⟩ := open_int Try.underlying3 (hval 0 3 v0 rfl rfl) h0
  obtain ⟨m, rfl, rfl, rfl, w2⟩ := open_int Try.underlying3 (hval 1 3 v1 rfl rfl) h1
  refine (fullTold_walk k m W (i64_bounds w1) (i64_bounds w2)).mono fun e W' ⟨he, hb⟩ => ?_
  subst he
  exact ⟨_, rfl, post_law Try.laidOut hW' rfl (by kernel_rfl) rfl Try.underlying4 (fun _ => rfl) (fun _ => rfl) (fun _ => rfl) hb⟩
theorem fullTold_holds : Rows.FullToldSaid := OpenClaim.holds_of_wide 13 Try.f13 rfl rfl rfl rfl rfl rfl rfl ⟨rfl, rfl, rfl, rfl, rfl⟩ rfl rfl rfl rfl rfl (by kernel_rfl) Try.func13 (by kernel_rfl)
  (of_decide_eq_true (by kernel_rfl)) (by unfold Func.isWrapper; first | (rw [if_pos (by decide +kernel)]; kernel_rfl) | (rw [if_neg (by decide +kernel)]; exact ⟨rfl, rfl⟩))
  (fun os started H enc _ => fullTold_lifted os started H enc)
#print axioms fullTold_holds
end Go.Proofs.Ytcelcanfdalliaa
