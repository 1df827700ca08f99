/- rostrumkeep.AddSum returns true for every input and leaves its arguments as they were; no condition. -/
import Derived.Test.YtcelcanfdalliaaValLaw
import Derived.Test.YtcelcanfdalliaaDonQ
import Derived.Test.YtcelcanfdalliaaAllocs
namespace Go.Proofs.Ytcelcanfdalliaa
set_option linter.all false
open Go.ChangeShapes Go.WideShapes Go.ChangeAt Go.RowKit
def intRows (l : List Int) : List (List Value) := l.map fun n => [.int .i64 n]
theorem fits_int {l : List Value} (h : Fits [.int .i64] l) : ∃ n : Int, l = [.int .i64 n] ∧ I64 n := by
  obtain ⟨_, _, rfl, ⟨a, rfl, ha⟩, h_1⟩ := fits_cons h
  obtain rfl := fits_nil h_1
  exact ⟨a, rfl, i64_bounds ha⟩
theorem Seg.int {w : World} {A : Option Addr} {l : List Int} (h : Seg w 1 A (intRows l)) {i : Nat} (hi : i < l.length) :
    ∃ b off, A = some ⟨b, off, none⟩ ∧ b < w.heap.size ∧ w.cell? ⟨b, off + i, none⟩ = some (.int .i64 l[i]) := by
  obtain ⟨b, off, e, hb, hc⟩ := h.at_ (i := i) (by simpa [intRows] using hi)
  exact ⟨b, off, e, hb, by simpa [intRows] using hc 0 (.int .i64 l[i]) (by simp [intRows])⟩
section
variable {H : Type} {enc : TypeId × Value → H} {w : World} {base : Nat} {spare : Nat → Bool} {held : Bool} {v : Value} {d : DataW H} {p : List MemPlace}
set_option maxRecDepth 100000 in
theorem i64_atoms : atoms Try.prog 1 3 = some [.int .i64] := by kernel_rfl
set_option maxRecDepth 100000 in
theorem open_i64s {r : Reach} {b0 : Nat} (hv : Value.okWide Try.prog w r b0 44 v) (h : DataW.Trod enc Try.prog w base spare held 44 v d p) :
    ∃ A n c, ∃ l : List Int, v = .slice A n c ∧ (∀ x ∈ l, I64 x) ∧ Sl w 1 A n c (intRows l) := by
  obtain ⟨a0, len, cap, rfl⟩ := okWide_slice Try.underlying44 hv
  obtain ⟨fuel, hf⟩ := h
  obtain ⟨A, n, c, rows, he, h3, h4⟩ := seg_of_slice 1 Try.underlying44 i64_atoms (by kernel_rfl) (by decide) hf
  obtain ⟨l, rfl, hl⟩ := rows_map fits_int rows h3
  exact ⟨A, n, c, l, he, hl, h4⟩
end
/-- The count's state in the loop: none yet, or the sum. -/
def SumV (vk sum : Int) : Prop := (vk = 0 ∧ sum = 0) ∨ (vk = 2 ∧ -1099511627776 ≤ sum ∧ sum ≤ 1099511627776)
theorem sum_may {vk sum : Int} (h : SumV vk sum) : May ⟨vk, emp, sum, [], [], []⟩ := by
  rcases h with ⟨rfl, rfl⟩ | ⟨rfl, h1, h2⟩
  · exact .inl rfl
  · exact .inr (count_good h1 h2)
theorem sum_done {vk sum k : Int} (h : SumV vk sum) (k1 : -549755813888 < k) (k2 : k < 549755813888) :
    (-1099511627776 ≤ sum + k ∧ sum + k ≤ 1099511627776 ∧ SumV 2 (sum + k) ∧ doneVal ⟨vk, emp, sum, [], [], []⟩ ⟨3, { data := #[107] }, { data := #[] }, { data := #[] }, k⟩ = (⟨2, emp, sum + k, [], [], []⟩, toldR (sum + k), 0)) ∨
    (¬ (-1099511627776 ≤ sum + k ∧ sum + k ≤ 1099511627776) ∧ doneVal ⟨vk, emp, sum, [], [], []⟩ ⟨3, { data := #[107] }, { data := #[] }, { data := #[] }, k⟩ = (⟨vk, emp, sum, [], [], []⟩, failR 7, 0)) := by
  rcases h with ⟨rfl, rfl⟩ | ⟨rfl, h1, h2⟩
  · refine .inl ⟨by omega, by omega, .inr ⟨rfl, by omega, by omega⟩, ?_⟩
    rw [Int.zero_add]
    exact add_first (by omega) (by omega)
  · by_cases ho : -1099511627776 ≤ sum + k ∧ sum + k ≤ 1099511627776
    · exact .inl ⟨ho.1, ho.2, .inr ⟨rfl, ho.1, ho.2⟩, by rw [add_next (by omega) (by omega) h1 h2, if_pos ho]⟩
    · exact .inr ⟨ho, by rw [add_next (by omega) (by omega) h1 h2, if_neg ho]⟩
set_option maxRecDepth 100000 in
set_option maxHeartbeats 8000000 in
theorem addSum_walk (A : Option Addr) (n c : Nat) (l : List Int) (nn : Int) (w : World) (hS : Sl w 1 A n c (intRows l)) (hd : ∀ d ∈ l, I64 d) (hnn : I64 nn) :
    Calls Try.prog 5 #[.slice A n c, .int .i64 nn] w fun e w' => e = .returned (.bool true) ∧ Below w.heap.size w w' := by
  have hn : l.length = n := by have := hS.len; simpa [intRows] using this
  subst hn
  have hlm := hS.nc
  have hlm' := hS.cm
  unfold maxLen at hlm'
  have p1 := picked_lo nn 99 (by omega)
  have p2 := picked_hi nn 99 (by omega)
  have hR := fun w => picked_any nn 99 w hnn.1 hnn.2 (by omega) (by omega)
  generalize picked nn 99 = pk at *
  have hB1 := fun w => Do_may zeroVa ⟨3, { data := #[107] }, { data := #[] }, { data := #[] }, 1099511627776⟩ (.inl rfl) none none none 0 0 0 0 0 0 w nil_vsl
  rw [add_first (by omega) (by omega)] at hB1
  have hB2 := fun A1 A2 A3 n1 c1 n2 c2 n3 c3 w h => Do_may ⟨2, emp, 1099511627776, [], [], []⟩ ⟨3, { data := #[107] }, { data := #[] }, { data := #[] }, 1 + pk⟩ (.inr (count_good (by omega) (by omega))) A1 A2 A3 n1 c1 n2 c2 n3 c3 w h
  rw [add_next (by omega) (by omega) (by omega) (by omega), if_neg (by omega)] at hB2
  simp only [toldR, failR, emp, zeroVa] at hB1 hB2
  have hw1 : IntKind.i64.wrap (1 + pk) = 1 + pk := IntWalk.i64_in _ (by omega)
  have HR := hide hR; have HB1 := hide hB1; have HB2 := hide hB2; have HD := hide hd
  clear hR hB1 hB2 hd
  have V0 := Blk.new w 29 #[.int .i64 0, .string { data := #[] }, .int .i64 0, .slice none 0 0, .slice none 0 0, .slice none 0 0]
  go_enter Try.func5, Try.ntmps5
  go_wp2_with fail
  go_loopw [6, 7] (fun s6 s7 wr => ∃ k : Nat, k ≤ l.length ∧ k ≤ 20 ∧ s7 = .int .i64 k ∧ ∃ (vk sum : Int) (A1 : Option Addr) (n1 c1 : Nat) (A2 : Option Addr) (n2 c2 : Nat) (A3 : Option Addr) (n3 c3 : Nat), s6 = .int .i64 sum ∧
      Blk wr w.heap.size 29 #[.int .i64 vk, .string { data := #[] }, .int .i64 sum, .slice A1 n1 c1, .slice A2 n2 c2, .slice A3 n3 c3] ∧ VSl wr ⟨vk, emp, sum, [], [], []⟩ A1 n1 c1 A2 n2 c2 A3 n3 c3 ∧ (Tp wr A1 50 ∧ Tp wr A2 9 ∧ Tp wr A3 56) ∧ Hid (SumV vk sum) ∧ Below w.heap.size w wr)
    (fun _ s7 _ => l.length - (intOf s7).toNat)
  case atStart => exact ⟨0, by omega, by omega, rfl, 0, 0, none, 0, 0, none, 0, 0, none, 0, 0, rfl, V0, nil_vsl, ⟨Tp.none_, Tp.none_, Tp.none_⟩, .inl ⟨rfl, rfl⟩, (by repeat (first | (with_reducible exact Below.refl _ _) | (with_reducible assumption) | (with_reducible refine Below.drew ?_) | (with_reducible refine bdrewN ?_ _) | (with_reducible refine balloc ?_ _) | ((with_reducible refine bset ?_ ?_ _); rotate_left; (focus first | exact Nat.le_refl _ | (simp; done) | (simp; omega) | omega)) | (with_reducible refine bstep ?_ (by with_reducible assumption)) | (with_reducible refine Below.trans ?_ (by with_reducible assumption))))⟩
  case round =>
    obtain ⟨k, hk, hk20, rfl, vk, sum, A1, n1, c1, A2, n2, c2, A3, n3, c3, rfl, Vr, N, T, HV, hbr⟩ := hrel
    clear V0
    have hbs := hbr.size
    have hvl := Vr.lt
    by_cases hlt : k < l.length ∧ k < 20
    · obtain ⟨hlt, hlt20⟩ := hlt
      obtain ⟨b, off, rfl, hbb, i0⟩ := (hS.below hbr).seg.int hlt
      generalize l[k] = x at i0
      have t1 := tmod_lt x 549755813888 (by omega)
      have hdo := sum_done HV.out t1.1 t1.2
      have hDo := fun w h => Do_may ⟨vk, emp, sum, [], [], []⟩ ⟨3, { data := #[107] }, { data := #[] }, { data := #[] }, x.tmod 549755813888⟩ (sum_may HV.out) A1 A2 A3 n1 c1 n2 c2 n3 c3 w h
      have hv := HV.out
      unfold SumV at hv
      have hsum : -1099511627776 ≤ sum ∧ sum ≤ 1099511627776 := by omega
      (try clear cVr fVr); have cVr := Vr.cell; have fVr := Vr.frozen
      have hk0 : (0 : Int) ≤ (k : Int) := by omega
      have hkl : (k : Int) < (l.length : Int) := by omega
      rcases hdo with ⟨o1, o2, hsv, hdo⟩ | ⟨ho, hdo⟩
      · rw [hdo] at hDo
        simp only [toldR, emp] at hDo
        have HDO := hide hDo; have HSV := hide hsv
        clear hDo hsv hdo hv
        generalize hkk : x.tmod 549755813888 = kk at *
        have hw2 : IntKind.i64.wrap (sum + kk) = sum + kk := IntWalk.i64_in _ (by omega)
        have hno : decide (1099511627776 < sum + kk) = false := by rw [decide_eq_false_iff_not]; omega
        have hno2 : decide (sum + kk < -1099511627776) = false := by rw [decide_eq_false_iff_not]; omega
        go_wp2_with fail
        have q := hbr
        refine (HDO.out _ N).mono ?_; rintro e w4 ⟨B14, m14, e14, B24, m24, e24, B34, m34, e34, B44, m44, e44, rfl, M4, L4, T4, hb4⟩; replace Vr := Vr.bl hb4; replace q : Below w.heap.size w w4 := (by repeat (first | (with_reducible exact Below.refl _ _) | (with_reducible assumption) | (with_reducible refine Below.drew ?_) | (with_reducible refine bdrewN ?_ _) | (with_reducible refine balloc ?_ _) | ((with_reducible refine bset ?_ ?_ _); rotate_left; (focus first | exact Nat.le_refl _ | (simp; done) | (simp; omega) | omega)) | (with_reducible refine bstep ?_ (by with_reducible assumption)) | (with_reducible refine Below.trans ?_ (by with_reducible assumption)))); clear hb4
        have D4 := Blk.new w4 29 #[.int .i64 2, .string { data := #[] }, .int .i64 (sum + kk), .slice B14 m14 e14, .slice B24 m24 e24, .slice B34 m34 e34]; replace M4 := M4.al (.cells #[.int .i64 2, .string { data := #[] }, .int .i64 (sum + kk), .slice B14 m14 e14, .slice B24 m24 e24, .slice B34 m34 e34] 29); replace L4 := L4.al (.cells #[.int .i64 2, .string { data := #[] }, .int .i64 (sum + kk), .slice B14 m14 e14, .slice B24 m24 e24, .slice B34 m34 e34] 29); replace Vr := Vr.al (.cells #[.int .i64 2, .string { data := #[] }, .int .i64 (sum + kk), .slice B14 m14 e14, .slice B24 m24 e24, .slice B34 m34 e34] 29); have R4 : Blk ((w4.alloc (.cells #[.int .i64 2, .string { data := #[] }, .int .i64 (sum + kk), .slice B14 m14 e14, .slice B24 m24 e24, .slice B34 m34 e34] 29)).alloc (.cells #[.int .i64 0, .string { data := #[] }, .int .i64 (sum + kk), .slice B44 m44 e44] 37)) (w4.heap.size + 1) 37 #[.int .i64 0, .string { data := #[] }, .int .i64 (sum + kk), .slice B44 m44 e44] := Blk.new' _ _ _ (by simp); replace M4 := M4.al (.cells #[.int .i64 0, .string { data := #[] }, .int .i64 (sum + kk), .slice B44 m44 e44] 37); replace L4 := L4.al (.cells #[.int .i64 0, .string { data := #[] }, .int .i64 (sum + kk), .slice B44 m44 e44] 37); replace D4 := D4.al (.cells #[.int .i64 0, .string { data := #[] }, .int .i64 (sum + kk), .slice B44 m44 e44] 37); replace Vr := Vr.al (.cells #[.int .i64 0, .string { data := #[] }, .int .i64 (sum + kk), .slice B44 m44 e44] 37)
        have bx : Below w4.heap.size w4 ((w4.alloc (.cells #[.int .i64 2, .string { data := #[] }, .int .i64 (sum + kk), .slice B14 m14 e14, .slice B24 m24 e24, .slice B34 m34 e34] 29)).alloc (.cells #[.int .i64 0, .string { data := #[] }, .int .i64 (sum + kk), .slice B44 m44 e44] 37)) := (by repeat (first | (with_reducible exact Below.refl _ _) | (with_reducible assumption) | (with_reducible refine Below.drew ?_) | (with_reducible refine bdrewN ?_ _) | (with_reducible refine balloc ?_ _) | ((with_reducible refine bset ?_ ?_ _); rotate_left; (focus first | exact Nat.le_refl _ | (simp; done) | (simp; omega) | omega)) | (with_reducible refine bstep ?_ (by with_reducible assumption)) | (with_reducible refine Below.trans ?_ (by with_reducible assumption))))
        have TT := And.intro (T4.1.bl bx) (And.intro (T4.2.1.bl bx) (T4.2.2.1.bl bx))
        have q9 : Below w.heap.size w ((w4.alloc (.cells #[.int .i64 2, .string { data := #[] }, .int .i64 (sum + kk), .slice B14 m14 e14, .slice B24 m24 e24, .slice B34 m34 e34] 29)).alloc (.cells #[.int .i64 0, .string { data := #[] }, .int .i64 (sum + kk), .slice B44 m44 e44] 37)) := (by repeat (first | (with_reducible exact Below.refl _ _) | (with_reducible assumption) | (with_reducible refine Below.drew ?_) | (with_reducible refine bdrewN ?_ _) | (with_reducible refine balloc ?_ _) | ((with_reducible refine bset ?_ ?_ _); rotate_left; (focus first | exact Nat.le_refl _ | (simp; done) | (simp; omega) | omega)) | (with_reducible refine bstep ?_ (by with_reducible assumption)) | (with_reducible refine Below.trans ?_ (by with_reducible assumption))))
        clear cVr fVr T4 bx
        (try clear cD4 fD4); have cD4 := D4.cell; have fD4 := D4.frozen; (try clear cR4 fR4); have cR4 := R4.cell; have fR4 := R4.frozen; (try clear cVr fVr); have cVr := Vr.cell; have fVr := Vr.frozen
        go_wp2_with fail
        go_roundw
        case rel =>
          obtain ⟨V9, gr9, sz9⟩ := whole_value (Value.int .i64 2) (Value.string { data := #[] }) (Value.int .i64 (sum + kk)) (Value.slice B14 m14 e14) (Value.slice B24 m24 e24) (Value.slice B34 m34 e34) Vr
          exact ⟨k + 1, by omega, by omega, by go_num, _, _, _, _, _, _, _, _, _, _, _, rfl, V9, grown_vsl M4 TT Vr gr9, ⟨grown_tp TT.1 Vr gr9, grown_tp TT.2.1 Vr gr9, grown_tp TT.2.2 Vr gr9⟩, HSV, below_grow q9 gr9 (by have := q9.size; omega) (by omega)⟩
        case measure => simp [intOf]; omega
      · rw [hdo] at hDo
        simp only [failR, emp] at hDo
        have HDO := hide hDo
        clear hDo hdo hv
        generalize hkk : x.tmod 549755813888 = kk at *
        have hw2 : IntKind.i64.wrap (sum + kk) = sum + kk := IntWalk.i64_in _ (by omega)
        go_wp2_with fail
        have hov : 1099511627776 < sum + kk ∨ (¬ 1099511627776 < sum + kk ∧ sum + kk < -1099511627776) := by omega
        rcases hov with h1 | ⟨h1, h2⟩
        · have d1 : decide (1099511627776 < sum + kk) = true := decide_eq_true h1
          clear h1
          have q := hbr
          refine (HDO.out _ N).mono ?_; rintro e w4 ⟨B14, m14, e14, B24, m24, e24, B34, m34, e34, B44, m44, e44, rfl, M4, L4, T4, hb4⟩; replace Vr := Vr.bl hb4; replace q : Below w.heap.size w w4 := (by repeat (first | (with_reducible exact Below.refl _ _) | (with_reducible assumption) | (with_reducible refine Below.drew ?_) | (with_reducible refine bdrewN ?_ _) | (with_reducible refine balloc ?_ _) | ((with_reducible refine bset ?_ ?_ _); rotate_left; (focus first | exact Nat.le_refl _ | (simp; done) | (simp; omega) | omega)) | (with_reducible refine bstep ?_ (by with_reducible assumption)) | (with_reducible refine Below.trans ?_ (by with_reducible assumption)))); clear hb4
          have D4 := Blk.new w4 29 #[.int .i64 vk, .string { data := #[] }, .int .i64 sum, .slice B14 m14 e14, .slice B24 m24 e24, .slice B34 m34 e34]; replace M4 := M4.al (.cells #[.int .i64 vk, .string { data := #[] }, .int .i64 sum, .slice B14 m14 e14, .slice B24 m24 e24, .slice B34 m34 e34] 29); replace L4 := L4.al (.cells #[.int .i64 vk, .string { data := #[] }, .int .i64 sum, .slice B14 m14 e14, .slice B24 m24 e24, .slice B34 m34 e34] 29); replace Vr := Vr.al (.cells #[.int .i64 vk, .string { data := #[] }, .int .i64 sum, .slice B14 m14 e14, .slice B24 m24 e24, .slice B34 m34 e34] 29); have R4 : Blk ((w4.alloc (.cells #[.int .i64 vk, .string { data := #[] }, .int .i64 sum, .slice B14 m14 e14, .slice B24 m24 e24, .slice B34 m34 e34] 29)).alloc (.cells #[.int .i64 7, .string { data := #[] }, .int .i64 0, .slice B44 m44 e44] 37)) (w4.heap.size + 1) 37 #[.int .i64 7, .string { data := #[] }, .int .i64 0, .slice B44 m44 e44] := Blk.new' _ _ _ (by simp); replace M4 := M4.al (.cells #[.int .i64 7, .string { data := #[] }, .int .i64 0, .slice B44 m44 e44] 37); replace L4 := L4.al (.cells #[.int .i64 7, .string { data := #[] }, .int .i64 0, .slice B44 m44 e44] 37); replace D4 := D4.al (.cells #[.int .i64 7, .string { data := #[] }, .int .i64 0, .slice B44 m44 e44] 37); replace Vr := Vr.al (.cells #[.int .i64 7, .string { data := #[] }, .int .i64 0, .slice B44 m44 e44] 37)
          have bx : Below w4.heap.size w4 ((w4.alloc (.cells #[.int .i64 vk, .string { data := #[] }, .int .i64 sum, .slice B14 m14 e14, .slice B24 m24 e24, .slice B34 m34 e34] 29)).alloc (.cells #[.int .i64 7, .string { data := #[] }, .int .i64 0, .slice B44 m44 e44] 37)) := (by repeat (first | (with_reducible exact Below.refl _ _) | (with_reducible assumption) | (with_reducible refine Below.drew ?_) | (with_reducible refine bdrewN ?_ _) | (with_reducible refine balloc ?_ _) | ((with_reducible refine bset ?_ ?_ _); rotate_left; (focus first | exact Nat.le_refl _ | (simp; done) | (simp; omega) | omega)) | (with_reducible refine bstep ?_ (by with_reducible assumption)) | (with_reducible refine Below.trans ?_ (by with_reducible assumption))))
          have TT := And.intro (T4.1.bl bx) (And.intro (T4.2.1.bl bx) (T4.2.2.1.bl bx))
          have q9 : Below w.heap.size w ((w4.alloc (.cells #[.int .i64 vk, .string { data := #[] }, .int .i64 sum, .slice B14 m14 e14, .slice B24 m24 e24, .slice B34 m34 e34] 29)).alloc (.cells #[.int .i64 7, .string { data := #[] }, .int .i64 0, .slice B44 m44 e44] 37)) := (by repeat (first | (with_reducible exact Below.refl _ _) | (with_reducible assumption) | (with_reducible refine Below.drew ?_) | (with_reducible refine bdrewN ?_ _) | (with_reducible refine balloc ?_ _) | ((with_reducible refine bset ?_ ?_ _); rotate_left; (focus first | exact Nat.le_refl _ | (simp; done) | (simp; omega) | omega)) | (with_reducible refine bstep ?_ (by with_reducible assumption)) | (with_reducible refine Below.trans ?_ (by with_reducible assumption))))
          clear cVr fVr T4 bx
          (try clear cD4 fD4); have cD4 := D4.cell; have fD4 := D4.frozen; (try clear cR4 fR4); have cR4 := R4.cell; have fR4 := R4.frozen; (try clear cVr fVr); have cVr := Vr.cell; have fVr := Vr.frozen
          go_wp2_with fail
          go_roundw
          case rel =>
            obtain ⟨V9, gr9, sz9⟩ := whole_value (Value.int .i64 vk) (Value.string { data := #[] }) (Value.int .i64 sum) (Value.slice B14 m14 e14) (Value.slice B24 m24 e24) (Value.slice B34 m34 e34) Vr
            exact ⟨k + 1, by omega, by omega, by go_num, _, _, _, _, _, _, _, _, _, _, _, rfl, V9, grown_vsl M4 TT Vr gr9, ⟨grown_tp TT.1 Vr gr9, grown_tp TT.2.1 Vr gr9, grown_tp TT.2.2 Vr gr9⟩, HV, below_grow q9 gr9 (by have := q9.size; omega) (by omega)⟩
          case measure => simp [intOf]; omega
        · have d1 : decide (1099511627776 < sum + kk) = false := by rw [decide_eq_false_iff_not]; exact h1
          have d2 : decide (sum + kk < -1099511627776) = true := decide_eq_true h2
          clear h1 h2
          have q := hbr
          refine (HDO.out _ N).mono ?_; rintro e w4 ⟨B14, m14, e14, B24, m24, e24, B34, m34, e34, B44, m44, e44, rfl, M4, L4, T4, hb4⟩; replace Vr := Vr.bl hb4; replace q : Below w.heap.size w w4 := (by repeat (first | (with_reducible exact Below.refl _ _) | (with_reducible assumption) | (with_reducible refine Below.drew ?_) | (with_reducible refine bdrewN ?_ _) | (with_reducible refine balloc ?_ _) | ((with_reducible refine bset ?_ ?_ _); rotate_left; (focus first | exact Nat.le_refl _ | (simp; done) | (simp; omega) | omega)) | (with_reducible refine bstep ?_ (by with_reducible assumption)) | (with_reducible refine Below.trans ?_ (by with_reducible assumption)))); clear hb4
          have D4 := Blk.new w4 29 #[.int .i64 vk, .string { data := #[] }, .int .i64 sum, .slice B14 m14 e14, .slice B24 m24 e24, .slice B34 m34 e34]; replace M4 := M4.al (.cells #[.int .i64 vk, .string { data := #[] }, .int .i64 sum, .slice B14 m14 e14, .slice B24 m24 e24, .slice B34 m34 e34] 29); replace L4 := L4.al (.cells #[.int .i64 vk, .string { data := #[] }, .int .i64 sum, .slice B14 m14 e14, .slice B24 m24 e24, .slice B34 m34 e34] 29); replace Vr := Vr.al (.cells #[.int .i64 vk, .string { data := #[] }, .int .i64 sum, .slice B14 m14 e14, .slice B24 m24 e24, .slice B34 m34 e34] 29); have R4 : Blk ((w4.alloc (.cells #[.int .i64 vk, .string { data := #[] }, .int .i64 sum, .slice B14 m14 e14, .slice B24 m24 e24, .slice B34 m34 e34] 29)).alloc (.cells #[.int .i64 7, .string { data := #[] }, .int .i64 0, .slice B44 m44 e44] 37)) (w4.heap.size + 1) 37 #[.int .i64 7, .string { data := #[] }, .int .i64 0, .slice B44 m44 e44] := Blk.new' _ _ _ (by simp); replace M4 := M4.al (.cells #[.int .i64 7, .string { data := #[] }, .int .i64 0, .slice B44 m44 e44] 37); replace L4 := L4.al (.cells #[.int .i64 7, .string { data := #[] }, .int .i64 0, .slice B44 m44 e44] 37); replace D4 := D4.al (.cells #[.int .i64 7, .string { data := #[] }, .int .i64 0, .slice B44 m44 e44] 37); replace Vr := Vr.al (.cells #[.int .i64 7, .string { data := #[] }, .int .i64 0, .slice B44 m44 e44] 37)
          have bx : Below w4.heap.size w4 ((w4.alloc (.cells #[.int .i64 vk, .string { data := #[] }, .int .i64 sum, .slice B14 m14 e14, .slice B24 m24 e24, .slice B34 m34 e34] 29)).alloc (.cells #[.int .i64 7, .string { data := #[] }, .int .i64 0, .slice B44 m44 e44] 37)) := (by repeat (first | (with_reducible exact Below.refl _ _) | (with_reducible assumption) | (with_reducible refine Below.drew ?_) | (with_reducible refine bdrewN ?_ _) | (with_reducible refine balloc ?_ _) | ((with_reducible refine bset ?_ ?_ _); rotate_left; (focus first | exact Nat.le_refl _ | (simp; done) | (simp; omega) | omega)) | (with_reducible refine bstep ?_ (by with_reducible assumption)) | (with_reducible refine Below.trans ?_ (by with_reducible assumption))))
          have TT := And.intro (T4.1.bl bx) (And.intro (T4.2.1.bl bx) (T4.2.2.1.bl bx))
          have q9 : Below w.heap.size w ((w4.alloc (.cells #[.int .i64 vk, .string { data := #[] }, .int .i64 sum, .slice B14 m14 e14, .slice B24 m24 e24, .slice B34 m34 e34] 29)).alloc (.cells #[.int .i64 7, .string { data := #[] }, .int .i64 0, .slice B44 m44 e44] 37)) := (by repeat (first | (with_reducible exact Below.refl _ _) | (with_reducible assumption) | (with_reducible refine Below.drew ?_) | (with_reducible refine bdrewN ?_ _) | (with_reducible refine balloc ?_ _) | ((with_reducible refine bset ?_ ?_ _); rotate_left; (focus first | exact Nat.le_refl _ | (simp; done) | (simp; omega) | omega)) | (with_reducible refine bstep ?_ (by with_reducible assumption)) | (with_reducible refine Below.trans ?_ (by with_reducible assumption))))
          clear cVr fVr T4 bx
          (try clear cD4 fD4); have cD4 := D4.cell; have fD4 := D4.frozen; (try clear cR4 fR4); have cR4 := R4.cell; have fR4 := R4.frozen; (try clear cVr fVr); have cVr := Vr.cell; have fVr := Vr.frozen
          go_wp2_with fail
          go_roundw
          case rel =>
            obtain ⟨V9, gr9, sz9⟩ := whole_value (Value.int .i64 vk) (Value.string { data := #[] }) (Value.int .i64 sum) (Value.slice B14 m14 e14) (Value.slice B24 m24 e24) (Value.slice B34 m34 e34) Vr
            exact ⟨k + 1, by omega, by omega, by go_num, _, _, _, _, _, _, _, _, _, _, _, rfl, V9, grown_vsl M4 TT Vr gr9, ⟨grown_tp TT.1 Vr gr9, grown_tp TT.2.1 Vr gr9, grown_tp TT.2.2 Vr gr9⟩, HV, below_grow q9 gr9 (by have := q9.size; omega) (by omega)⟩
          case measure => simp [intOf]; omega
    · (try clear cVr fVr); have cVr := Vr.cell; have fVr := Vr.frozen
      have q := hbr
      by_cases hkl : (k : Int) < (l.length : Int)
      · have hk20' : ¬ ((k : Int) < 20) := by omega
        go_wp2_with fail
        refine (HB1.out _).mono ?_; rintro e w4 ⟨B1b, m1b, e1b, B2b, m2b, e2b, B3b, m3b, e3b, B4b, m4b, e4b, rfl, Mb, Lb, Tb, hbb⟩; replace Vr := Vr.bl hbb; replace q : Below w.heap.size w w4 := (by repeat (first | (with_reducible exact Below.refl _ _) | (with_reducible assumption) | (with_reducible refine Below.drew ?_) | (with_reducible refine bdrewN ?_ _) | (with_reducible refine balloc ?_ _) | ((with_reducible refine bset ?_ ?_ _); rotate_left; (focus first | exact Nat.le_refl _ | (simp; done) | (simp; omega) | omega)) | (with_reducible refine bstep ?_ (by with_reducible assumption)) | (with_reducible refine Below.trans ?_ (by with_reducible assumption)))); clear hbb
        have Db := Blk.new w4 29 #[.int .i64 2, .string { data := #[] }, .int .i64 1099511627776, .slice B1b m1b e1b, .slice B2b m2b e2b, .slice B3b m3b e3b]; replace Mb := Mb.al (.cells #[.int .i64 2, .string { data := #[] }, .int .i64 1099511627776, .slice B1b m1b e1b, .slice B2b m2b e2b, .slice B3b m3b e3b] 29); replace Lb := Lb.al (.cells #[.int .i64 2, .string { data := #[] }, .int .i64 1099511627776, .slice B1b m1b e1b, .slice B2b m2b e2b, .slice B3b m3b e3b] 29); replace Vr := Vr.al (.cells #[.int .i64 2, .string { data := #[] }, .int .i64 1099511627776, .slice B1b m1b e1b, .slice B2b m2b e2b, .slice B3b m3b e3b] 29); have Rb : Blk ((w4.alloc (.cells #[.int .i64 2, .string { data := #[] }, .int .i64 1099511627776, .slice B1b m1b e1b, .slice B2b m2b e2b, .slice B3b m3b e3b] 29)).alloc (.cells #[.int .i64 0, .string { data := #[] }, .int .i64 1099511627776, .slice B4b m4b e4b] 37)) (w4.heap.size + 1) 37 #[.int .i64 0, .string { data := #[] }, .int .i64 1099511627776, .slice B4b m4b e4b] := Blk.new' _ _ _ (by simp); replace Mb := Mb.al (.cells #[.int .i64 0, .string { data := #[] }, .int .i64 1099511627776, .slice B4b m4b e4b] 37); replace Lb := Lb.al (.cells #[.int .i64 0, .string { data := #[] }, .int .i64 1099511627776, .slice B4b m4b e4b] 37); replace Db := Db.al (.cells #[.int .i64 0, .string { data := #[] }, .int .i64 1099511627776, .slice B4b m4b e4b] 37); replace Vr := Vr.al (.cells #[.int .i64 0, .string { data := #[] }, .int .i64 1099511627776, .slice B4b m4b e4b] 37)
        clear cVr fVr Tb Lb Rb
        have hVl := Vr.lt
        (try clear cDb fDb); have cDb := Db.cell; have fDb := Db.frozen
        go_wp2_with fail
        generalize hW : (w4.alloc (.cells #[.int .i64 2, .string { data := #[] }, .int .i64 1099511627776, .slice B1b m1b e1b, .slice B2b m2b e2b, .slice B3b m3b e3b] 29)).alloc (.cells #[.int .i64 0, .string { data := #[] }, .int .i64 1099511627776, .slice B4b m4b e4b] 37) = W at *
        have q0 : Below w.heap.size w W := by rw [← hW]; exact (by repeat (first | (with_reducible exact Below.refl _ _) | (with_reducible assumption) | (with_reducible refine Below.drew ?_) | (with_reducible refine bdrewN ?_ _) | (with_reducible refine balloc ?_ _) | ((with_reducible refine bset ?_ ?_ _); rotate_left; (focus first | exact Nat.le_refl _ | (simp; done) | (simp; omega) | omega)) | (with_reducible refine bstep ?_ (by with_reducible assumption)) | (with_reducible refine Below.trans ?_ (by with_reducible assumption))))
        generalize w4.heap.size = gb at *
        clear hW q
        have hgb := Db.lt
        have hsG : ∀ w', Below W.heap.size W w' → (w'.cell? ⟨gb, 0, none⟩ = some (.int .i64 2) ∧ w'.cell? ⟨gb, 1, none⟩ = some (.string { data := #[] }) ∧ w'.cell? ⟨gb, 2, none⟩ = some (.int .i64 1099511627776) ∧ w'.cell? ⟨gb, 3, none⟩ = some (.slice B1b m1b e1b) ∧ w'.cell? ⟨gb, 4, none⟩ = some (.slice B2b m2b e2b) ∧ w'.cell? ⟨gb, 5, none⟩ = some (.slice B3b m3b e3b)) := fun w' q => by
          have V' := Db.below' q
          exact ⟨V'.cell 0, V'.cell 1, V'.cell 2, V'.cell 3, V'.cell 4, V'.cell 5⟩
        refine wp_region_x (l := []) (S := fun w' => w'.cell? ⟨gb, 0, none⟩ = some (.int .i64 2) ∧ w'.cell? ⟨gb, 1, none⟩ = some (.string { data := #[] }) ∧ w'.cell? ⟨gb, 2, none⟩ = some (.int .i64 1099511627776) ∧ w'.cell? ⟨gb, 3, none⟩ = some (.slice B1b m1b e1b) ∧ w'.cell? ⟨gb, 4, none⟩ = some (.slice B2b m2b e2b) ∧ w'.cell? ⟨gb, 5, none⟩ = some (.slice B3b m3b e3b)) (by kernel_rfl) (hsG _ (Below.refl _ W).drew) (fun hS => ?_)
        refine wpAnyX_take (i := 0) (v := ?xv0a) rfl (by kernel_rfl) (by kernel_rfl) (by kernel_rfl) (by kernel_rfl) (fun _ _ _ h => h) (Or.inl ⟨by rfl, ?xh0a⟩) (by assumption) ?xr0a; (case xh0a => (intro w hSw; (try dsimp only at hSw); go_simp; (try with_reducible rfl))); (try simp only [Act.put, List.setIfInBounds_toArray, List.set_cons_zero, List.set_cons_succ, List.getElem_toArray, List.getElem_cons_zero, List.getElem_cons_succ])
        refine wpAnyX_take (i := 1) (v := ?xv1a) rfl (by kernel_rfl) (by kernel_rfl) (by kernel_rfl) (by kernel_rfl) (fun _ _ _ h => h) (Or.inl ⟨by rfl, ?xh1a⟩) (by assumption) ?xr1a; (case xh1a => (intro w hSw; (try dsimp only at hSw); go_simp; (try with_reducible rfl))); (try simp only [Act.put, List.setIfInBounds_toArray, List.set_cons_zero, List.set_cons_succ, List.getElem_toArray, List.getElem_cons_zero, List.getElem_cons_succ])
        have HSG := hide hsG
        clear hsG hS cDb fDb
        refine wpX_start (n := 11 + left2 false false) (listed := (fun b_ c_ => #[true, true, false, false, false, false, false, false, false, false, b_, c_, false, false, false]) false false) (j1 := 10) (d1 := 16) (t1 := 29) (z1 := #[.int .i64 0, .string { data := #[] }, .int .i64 0, .slice none 0 0, .slice none 0 0, .slice none 0 0]) (j2 := 11) (d2 := 17) (t2 := 37) (z2 := #[.int .i64 0, .string { data := #[] }, .int .i64 0, .slice none 0 0]) ?al1a ?al2a ?alna ?alla (fun al1 al2 => ?alra); (case al1a => exact ⟨⟨_, rfl, rfl, rfl, fun a w => by simp [go_sem, execOp]⟩⟩); (case al2a => exact ⟨⟨_, rfl, rfl, rfl, fun a w => by simp [go_sem, execOp]⟩⟩); (case alna => kernel_rfl); (case alla => kernel_rfl)
        refine' wpX_phase0 (f := 10) (i := 2) (L := (fun b_ c_ => #[true, true, false, false, false, false, false, false, false, false, b_, c_, false, false, false])) (L' := (fun b_ c_ => #[true, true, true, false, false, false, false, false, false, false, b_, c_, false, false, false])) (base := W.heap.size) (G := (fun w' => Below W.heap.size W w')) (x := undef) (y := undef) al1 al2 ?an2a ?al2a ?aa2a ?ar2a ?ai2a ?ag2a ?ae12a ?ae22a ?ae32a ?ap12a ?ap22a HSG.out (fun w' o q => q.alloc q.size o) (fun w' q => q.size) ?aw2a ?am2a; (case an2a => rfl); (case al2a => rfl); (case aa2a => rfl); (case ar2a => kernel_rfl); (case ai2a => rfl); (case ag2a => rfl); (case ae12a => (intros; rfl)); (case ae22a => (intros; rfl)); (case ae32a => (intros; rfl)); (case ap12a => (intros; rfl)); (case ap22a => (intros; rfl))
        (case aw2a => exact (Below.refl _ W).drew)
        intro b_ c_ x_ y_ wp1 hG_ hx_ hy_ hxy_ K_ hK_; (try simp only [Act.put, List.setIfInBounds_toArray, List.set_cons_zero, List.set_cons_succ, List.getElem_toArray, List.getElem_cons_zero, List.getElem_cons_succ])
        go_wp2_with fail
        refine (HR.out _).mono ?_
        rintro e wq1 ⟨rfl, rfl⟩
        have hbp : Below wp1.heap.size wp1 wp1 := Below.refl _ _
        go_wp2_with fail
        have qp : Below W.heap.size W wp1 := bstep hG_ hbp
        have hSp := HSG.out _ qp
        refine hK_.out _ _ (Or.inr hSp) ?_
        clear hK_ K_ hG_
        refine' wpX_take' (f := 9) (i := 3) (v := ?xv3a) (L := (fun b_ c_ => #[true, true, true, false, false, false, false, false, false, false, b_, c_, false, false, false])) (L' := (fun b_ c_ => #[true, true, true, true, false, false, false, false, false, false, b_, c_, false, false, false])) ?tan3a ?tal3a rfl (by kernel_rfl) ?tar3a (by kernel_rfl) ?tae33a (fun _ _ _ h => h) (Or.inl ⟨by rfl, ?xh3a⟩) ?taw3a ?xr3a; (case tan3a => rfl); (case tal3a => rfl); (case tar3a => kernel_rfl); (case tae33a => (intros; rfl)); (case taw3a => assumption); (case xh3a => (intro w hSw; (try dsimp only at hSw); go_simp; (try with_reducible rfl))); (try simp only [Act.put, List.setIfInBounds_toArray, List.set_cons_zero, List.set_cons_succ, List.getElem_toArray, List.getElem_cons_zero, List.getElem_cons_succ])
        refine' wpX_take' (f := 8) (i := 4) (v := ?xv4a) (L := (fun b_ c_ => #[true, true, true, true, false, false, false, false, false, false, b_, c_, false, false, false])) (L' := (fun b_ c_ => #[true, true, true, true, true, false, false, false, false, false, b_, c_, false, false, false])) ?tan4a ?tal4a rfl (by kernel_rfl) ?tar4a (by kernel_rfl) ?tae34a (fun _ _ _ h => h) (Or.inl ⟨by rfl, ?xh4a⟩) ?taw4a ?xr4a; (case tan4a => rfl); (case tal4a => rfl); (case tar4a => kernel_rfl); (case tae34a => (intros; rfl)); (case taw4a => assumption); (case xh4a => (intro w hSw; (try dsimp only at hSw); go_simp; (try with_reducible rfl))); (try simp only [Act.put, List.setIfInBounds_toArray, List.set_cons_zero, List.set_cons_succ, List.getElem_toArray, List.getElem_cons_zero, List.getElem_cons_succ])
        refine' wpX_phase' (f := 7) (i := 5) (L := (fun b_ c_ => #[true, true, true, true, true, false, false, false, false, false, b_, c_, false, false, false])) (L' := (fun b_ c_ => #[true, true, true, true, true, true, false, false, false, false, b_, c_, false, false, false])) (base := W.heap.size) (G := (fun w' => Below W.heap.size W w')) (b := b_) (c := c_) (x := x_) (y := y_) al1 al2 ?an5a ?al5a ?aa5a ?ar5a ?ai5a ?ag5a ?ae15a ?ae25a ?ae35a ?ap15a ?ap25a HSG.out (fun w' o q => q.alloc q.size o) (fun w' q => q.size) ?aw5a (hx_.bl hbp) (hy_.bl hbp) hxy_ ?am5a; (case an5a => rfl); (case al5a => rfl); (case aa5a => rfl); (case ar5a => kernel_rfl); (case ai5a => rfl); (case ag5a => rfl); (case ae15a => (intros; rfl)); (case ae25a => (intros; rfl)); (case ae35a => (intros; rfl)); (case ap15a => (intros; rfl)); (case ap25a => (intros; rfl))
        (case aw5a => exact qp)
        clear hx_ hy_ hxy_ x_ y_ b_ c_ hbp
        intro b_ c_ x_ y_ wp2 hG_ hx_ hy_ hxy_ K_ hK_; (try simp only [Act.put, List.setIfInBounds_toArray, List.set_cons_zero, List.set_cons_succ, List.getElem_toArray, List.getElem_cons_zero, List.getElem_cons_succ])
        go_wp2_with fail
        refine (HB2.out _ _ _ _ _ _ _ _ _ _ (Mb.bl hG_)).mono ?_
        rintro e wq2 ⟨B1, m1, e1, B2, m2, e2, B3, m3, e3, B4, m4, e4, rfl, N6, L6, T6, hbp⟩
        go_wp2_with fail
        have qp : Below W.heap.size W wq2 := bstep hG_ hbp
        have hSp := HSG.out _ qp
        refine hK_.out _ _ (Or.inr hSp) ?_
        clear hK_ K_ hG_
        refine' wpX_take' (f := 6) (i := 6) (v := ?xv6a) (L := (fun b_ c_ => #[true, true, true, true, true, true, false, false, false, false, b_, c_, false, false, false])) (L' := (fun b_ c_ => #[true, true, true, true, true, true, true, false, false, false, b_, c_, false, false, false])) ?tan6a ?tal6a rfl (by kernel_rfl) ?tar6a (by kernel_rfl) ?tae36a (fun _ _ _ h => h) (Or.inl ⟨by rfl, ?xh6a⟩) ?taw6a ?xr6a; (case tan6a => rfl); (case tal6a => rfl); (case tar6a => kernel_rfl); (case tae36a => (intros; rfl)); (case taw6a => assumption); (case xh6a => (intro w hSw; (try dsimp only at hSw); go_simp; (try with_reducible rfl))); (try simp only [Act.put, List.setIfInBounds_toArray, List.set_cons_zero, List.set_cons_succ, List.getElem_toArray, List.getElem_cons_zero, List.getElem_cons_succ])
        refine' wpX_take' (f := 5) (i := 7) (v := ?xv7a) (L := (fun b_ c_ => #[true, true, true, true, true, true, true, false, false, false, b_, c_, false, false, false])) (L' := (fun b_ c_ => #[true, true, true, true, true, true, true, true, false, false, b_, c_, false, false, false])) ?tan7a ?tal7a rfl (by kernel_rfl) ?tar7a (by kernel_rfl) ?tae37a (fun _ _ _ h => h) (Or.inl ⟨by rfl, ?xh7a⟩) ?taw7a ?xr7a; (case tan7a => rfl); (case tal7a => rfl); (case tar7a => kernel_rfl); (case tae37a => (intros; rfl)); (case taw7a => assumption); (case xh7a => (intro w hSw; (try dsimp only at hSw); go_simp; (try with_reducible rfl))); (try simp only [Act.put, List.setIfInBounds_toArray, List.set_cons_zero, List.set_cons_succ, List.getElem_toArray, List.getElem_cons_zero, List.getElem_cons_succ])
        refine' wpX_take' (f := 4) (i := 8) (v := ?xv8a) (L := (fun b_ c_ => #[true, true, true, true, true, true, true, true, false, false, b_, c_, false, false, false])) (L' := (fun b_ c_ => #[true, true, true, true, true, true, true, true, true, false, b_, c_, false, false, false])) ?tan8a ?tal8a rfl (by kernel_rfl) ?tar8a (by kernel_rfl) ?tae38a (fun _ _ _ h => h) (Or.inl ⟨by rfl, ?xh8a⟩) ?taw8a ?xr8a; (case tan8a => rfl); (case tal8a => rfl); (case tar8a => kernel_rfl); (case tae38a => (intros; rfl)); (case taw8a => assumption); (case xh8a => (intro w hSw; (try dsimp only at hSw); go_simp; (try with_reducible rfl))); (try simp only [Act.put, List.setIfInBounds_toArray, List.set_cons_zero, List.set_cons_succ, List.getElem_toArray, List.getElem_cons_zero, List.getElem_cons_succ])
        refine' wpX_take' (f := 3) (i := 9) (v := ?xv9a) (L := (fun b_ c_ => #[true, true, true, true, true, true, true, true, true, false, b_, c_, false, false, false])) (L' := (fun b_ c_ => #[true, true, true, true, true, true, true, true, true, true, b_, c_, false, false, false])) ?tan9a ?tal9a rfl (by kernel_rfl) ?tar9a (by kernel_rfl) ?tae39a (fun _ _ _ h => h) (Or.inl ⟨by rfl, ?xh9a⟩) ?taw9a ?xr9a; (case tan9a => rfl); (case tal9a => rfl); (case tar9a => kernel_rfl); (case tae39a => (intros; rfl)); (case taw9a => assumption); (case xh9a => (intro w hSw; (try dsimp only at hSw); go_simp; (try with_reducible rfl))); (try simp only [Act.put, List.setIfInBounds_toArray, List.set_cons_zero, List.set_cons_succ, List.getElem_toArray, List.getElem_cons_zero, List.getElem_cons_succ])
        refine' wpX_lay' (f := 3) (L := (fun b_ c_ => #[true, true, true, true, true, true, true, true, true, true, b_, c_, false, false, false])) (base := W.heap.size) (G := (fun w' => Below wq2.heap.size wq2 w')) (b := b_) (c := c_) (x := x_) (y := y_) al1 al2 ?anLa ?alLa ?aaLa ?arLa ?ae1La ?ae2La ?ap1La ?ap2La (fun w' q => HSG.out w' (bstep qp q)) (fun w' o q => q.alloc q.size o) (fun w' q => Nat.le_trans qp.size q.size) ?awLa (hx_.bl hbp) (hy_.bl hbp) hxy_ ?amLa; (case anLa => rfl); (case alLa => rfl); (case aaLa => rfl); (case arLa => kernel_rfl); (case ae1La => (intros; rfl)); (case ae2La => (intros; rfl)); (case ap1La => (intros; rfl)); (case ap2La => (intros; rfl))
        (case awLa => exact Below.refl _ wq2)
        clear hx_ hy_ hxy_ x_ y_ b_ c_ hSp
        intro g1 g2 w7 hb7 hg1 G1 hg2 G2 hgg
        have q7 : Below W.heap.size W w7 := bstep qp hb7
        clear al1 al2
        (try clear cG1 fG1); have cG1 := G1.cell; have fG1 := G1.frozen
        refine wpAnyX_one (i := 12) (by kernel_rfl) rfl (by rfl) (fun K hK => ?_); (try simp only [List.getElem_toArray, List.getElem_cons_zero, List.getElem_cons_succ])
        go_wp2_with fail
        refine hK.out _ _ (Or.inr (HSG.out _ (below_set (below_set (below_set (below_set (below_set (below_set q7 hg1 0 _) hg1 1 _) hg1 2 _) hg1 3 _) hg1 4 _) hg1 5 _))) (fun hS => ?_)
        clear hK K hS cG1 fG1
        have F0 := G2.far (p := ⟨g1, 0, none⟩) (by simpa using hgg.symm) (.int .i64 2)
        have F1 := F0.far (p := ⟨g1, 1, none⟩) (by simpa using hgg.symm) (.string { data := #[] })
        have F2 := F1.far (p := ⟨g1, 2, none⟩) (by simpa using hgg.symm) (.int .i64 1099511627776)
        have F3 := F2.far (p := ⟨g1, 3, none⟩) (by simpa using hgg.symm) (.slice B1 m1 e1)
        have F4 := F3.far (p := ⟨g1, 4, none⟩) (by simpa using hgg.symm) (.slice B2 m2 e2)
        have F5 := F4.far (p := ⟨g1, 5, none⟩) (by simpa using hgg.symm) (.slice B3 m3 e3)
        (try clear cF5 fF5); have cF5 := F5.cell; have fF5 := F5.frozen
        refine wpAnyX_one (i := 13) (by kernel_rfl) rfl (by rfl) (fun K hK => ?_); (try simp only [List.getElem_toArray, List.getElem_cons_zero, List.getElem_cons_succ])
        go_wp2_with fail
        refine hK.out _ _ (Or.inr (HSG.out _ (below_set (below_set (below_set (below_set (below_set (below_set (below_set (below_set (below_set (below_set q7 hg1 0 _) hg1 1 _) hg1 2 _) hg1 3 _) hg1 4 _) hg1 5 _) hg2 0 _) hg2 1 _) hg2 2 _) hg2 3 _))) (fun hS => ?_)
        replace hS := hS.resolve_left (by decide)
        clear hK K cF5 fF5
        refine wpAnyX_pure (i := 14) (v := ?xv14a) rfl (by kernel_rfl) (Or.inl ⟨by rfl, ?xh14a⟩) (Or.inr (by assumption)) ?xr14a; (case xh14a => (intro w; go_simp; (try with_reducible rfl))); (try simp only [Act.put, List.setIfInBounds_toArray, List.set_cons_zero, List.set_cons_succ, List.getElem_toArray, List.getElem_cons_zero, List.getElem_cons_succ])
        clear hS
        refine wpAnyX_done (by kernel_rfl) ?_ _
        clear F0 F1 F2 F3 F4 F5
        obtain ⟨X1, gr1, sz1⟩ := whole_value (Value.int .i64 2) (Value.string { data := #[] }) (Value.int .i64 1099511627776) (Value.slice B1 m1 e1) (Value.slice B2 m2 e2) (Value.slice B3 m3 e3) G1
        have Y1 := grown_blk G2 gr1 hgg.symm
        obtain ⟨X2, gr2, sz2⟩ := whole_reply (Value.int .i64 7) (Value.string { data := #[] }) (Value.int .i64 0) (Value.slice B4 m4 e4) Y1
        have X1' := grown_blk X1 gr2 hgg
        have q8 := below_grow (below_grow q7 gr1 q7.size hg1) gr2 (by rw [sz1]; exact q7.size) hg2
        have Vr8 := grown_blk (grown_blk (Vr.below' q7) gr1 (by omega)) gr2 (by omega)
        obtain ⟨w8, hw8⟩ : ∃ w8, w8 = ((((((((((w7.setCell ⟨g1, 0, none⟩ (Value.int .i64 2)).setCell ⟨g1, 1, none⟩ (Value.string { data := #[] })).setCell ⟨g1, 2, none⟩ (Value.int .i64 1099511627776)).setCell ⟨g1, 3, none⟩ (Value.slice B1 m1 e1)).setCell ⟨g1, 4, none⟩ (Value.slice B2 m2 e2)).setCell ⟨g1, 5, none⟩ (Value.slice B3 m3 e3)).setCell ⟨g2, 0, none⟩ (Value.int .i64 7)).setCell ⟨g2, 1, none⟩ (Value.string { data := #[] })).setCell ⟨g2, 2, none⟩ (Value.int .i64 0)).setCell ⟨g2, 3, none⟩ (Value.slice B4 m4 e4)) := ⟨_, rfl⟩
        rw [← hw8] at q8 X1' X2 Vr8 ⊢
        clear hw8 gr1 gr2 sz1 sz2 Y1 X1 G1 G2 q7 hb7
        have X1 := X1'
        clear X1'
        clear X1
        (try clear cX2 fX2); have cX2 := X2.cell; have fX2 := X2.frozen; (try clear cVr8 fVr8); have cVr8 := Vr8.cell; have fVr8 := Vr8.frozen
        go_wp2_with fail
        go_ret
        exact ⟨rfl, bstep q0 q8⟩
      · skip
        go_wp2_with fail
        refine (HB1.out _).mono ?_; rintro e w4 ⟨B1b, m1b, e1b, B2b, m2b, e2b, B3b, m3b, e3b, B4b, m4b, e4b, rfl, Mb, Lb, Tb, hbb⟩; replace Vr := Vr.bl hbb; replace q : Below w.heap.size w w4 := (by repeat (first | (with_reducible exact Below.refl _ _) | (with_reducible assumption) | (with_reducible refine Below.drew ?_) | (with_reducible refine bdrewN ?_ _) | (with_reducible refine balloc ?_ _) | ((with_reducible refine bset ?_ ?_ _); rotate_left; (focus first | exact Nat.le_refl _ | (simp; done) | (simp; omega) | omega)) | (with_reducible refine bstep ?_ (by with_reducible assumption)) | (with_reducible refine Below.trans ?_ (by with_reducible assumption)))); clear hbb
        have Db := Blk.new w4 29 #[.int .i64 2, .string { data := #[] }, .int .i64 1099511627776, .slice B1b m1b e1b, .slice B2b m2b e2b, .slice B3b m3b e3b]; replace Mb := Mb.al (.cells #[.int .i64 2, .string { data := #[] }, .int .i64 1099511627776, .slice B1b m1b e1b, .slice B2b m2b e2b, .slice B3b m3b e3b] 29); replace Lb := Lb.al (.cells #[.int .i64 2, .string { data := #[] }, .int .i64 1099511627776, .slice B1b m1b e1b, .slice B2b m2b e2b, .slice B3b m3b e3b] 29); replace Vr := Vr.al (.cells #[.int .i64 2, .string { data := #[] }, .int .i64 1099511627776, .slice B1b m1b e1b, .slice B2b m2b e2b, .slice B3b m3b e3b] 29); have Rb : Blk ((w4.alloc (.cells #[.int .i64 2, .string { data := #[] }, .int .i64 1099511627776, .slice B1b m1b e1b, .slice B2b m2b e2b, .slice B3b m3b e3b] 29)).alloc (.cells #[.int .i64 0, .string { data := #[] }, .int .i64 1099511627776, .slice B4b m4b e4b] 37)) (w4.heap.size + 1) 37 #[.int .i64 0, .string { data := #[] }, .int .i64 1099511627776, .slice B4b m4b e4b] := Blk.new' _ _ _ (by simp); replace Mb := Mb.al (.cells #[.int .i64 0, .string { data := #[] }, .int .i64 1099511627776, .slice B4b m4b e4b] 37); replace Lb := Lb.al (.cells #[.int .i64 0, .string { data := #[] }, .int .i64 1099511627776, .slice B4b m4b e4b] 37); replace Db := Db.al (.cells #[.int .i64 0, .string { data := #[] }, .int .i64 1099511627776, .slice B4b m4b e4b] 37); replace Vr := Vr.al (.cells #[.int .i64 0, .string { data := #[] }, .int .i64 1099511627776, .slice B4b m4b e4b] 37)
        clear cVr fVr Tb Lb Rb
        have hVl := Vr.lt
        (try clear cDb fDb); have cDb := Db.cell; have fDb := Db.frozen
        go_wp2_with fail
        generalize hW : (w4.alloc (.cells #[.int .i64 2, .string { data := #[] }, .int .i64 1099511627776, .slice B1b m1b e1b, .slice B2b m2b e2b, .slice B3b m3b e3b] 29)).alloc (.cells #[.int .i64 0, .string { data := #[] }, .int .i64 1099511627776, .slice B4b m4b e4b] 37) = W at *
        have q0 : Below w.heap.size w W := by rw [← hW]; exact (by repeat (first | (with_reducible exact Below.refl _ _) | (with_reducible assumption) | (with_reducible refine Below.drew ?_) | (with_reducible refine bdrewN ?_ _) | (with_reducible refine balloc ?_ _) | ((with_reducible refine bset ?_ ?_ _); rotate_left; (focus first | exact Nat.le_refl _ | (simp; done) | (simp; omega) | omega)) | (with_reducible refine bstep ?_ (by with_reducible assumption)) | (with_reducible refine Below.trans ?_ (by with_reducible assumption))))
        generalize w4.heap.size = gb at *
        clear hW q
        have hgb := Db.lt
        have hsG : ∀ w', Below W.heap.size W w' → (w'.cell? ⟨gb, 0, none⟩ = some (.int .i64 2) ∧ w'.cell? ⟨gb, 1, none⟩ = some (.string { data := #[] }) ∧ w'.cell? ⟨gb, 2, none⟩ = some (.int .i64 1099511627776) ∧ w'.cell? ⟨gb, 3, none⟩ = some (.slice B1b m1b e1b) ∧ w'.cell? ⟨gb, 4, none⟩ = some (.slice B2b m2b e2b) ∧ w'.cell? ⟨gb, 5, none⟩ = some (.slice B3b m3b e3b)) := fun w' q => by
          have V' := Db.below' q
          exact ⟨V'.cell 0, V'.cell 1, V'.cell 2, V'.cell 3, V'.cell 4, V'.cell 5⟩
        refine wp_region_x (l := []) (S := fun w' => w'.cell? ⟨gb, 0, none⟩ = some (.int .i64 2) ∧ w'.cell? ⟨gb, 1, none⟩ = some (.string { data := #[] }) ∧ w'.cell? ⟨gb, 2, none⟩ = some (.int .i64 1099511627776) ∧ w'.cell? ⟨gb, 3, none⟩ = some (.slice B1b m1b e1b) ∧ w'.cell? ⟨gb, 4, none⟩ = some (.slice B2b m2b e2b) ∧ w'.cell? ⟨gb, 5, none⟩ = some (.slice B3b m3b e3b)) (by kernel_rfl) (hsG _ (Below.refl _ W).drew) (fun hS => ?_)
        refine wpAnyX_take (i := 0) (v := ?xv0b) rfl (by kernel_rfl) (by kernel_rfl) (by kernel_rfl) (by kernel_rfl) (fun _ _ _ h => h) (Or.inl ⟨by rfl, ?xh0b⟩) (by assumption) ?xr0b; (case xh0b => (intro w hSw; (try dsimp only at hSw); go_simp; (try with_reducible rfl))); (try simp only [Act.put, List.setIfInBounds_toArray, List.set_cons_zero, List.set_cons_succ, List.getElem_toArray, List.getElem_cons_zero, List.getElem_cons_succ])
        refine wpAnyX_take (i := 1) (v := ?xv1b) rfl (by kernel_rfl) (by kernel_rfl) (by kernel_rfl) (by kernel_rfl) (fun _ _ _ h => h) (Or.inl ⟨by rfl, ?xh1b⟩) (by assumption) ?xr1b; (case xh1b => (intro w hSw; (try dsimp only at hSw); go_simp; (try with_reducible rfl))); (try simp only [Act.put, List.setIfInBounds_toArray, List.set_cons_zero, List.set_cons_succ, List.getElem_toArray, List.getElem_cons_zero, List.getElem_cons_succ])
        have HSG := hide hsG
        clear hsG hS cDb fDb
        refine wpX_start (n := 11 + left2 false false) (listed := (fun b_ c_ => #[true, true, false, false, false, false, false, false, false, false, b_, c_, false, false, false]) false false) (j1 := 10) (d1 := 16) (t1 := 29) (z1 := #[.int .i64 0, .string { data := #[] }, .int .i64 0, .slice none 0 0, .slice none 0 0, .slice none 0 0]) (j2 := 11) (d2 := 17) (t2 := 37) (z2 := #[.int .i64 0, .string { data := #[] }, .int .i64 0, .slice none 0 0]) ?al1b ?al2b ?alnb ?allb (fun al1 al2 => ?alrb); (case al1b => exact ⟨⟨_, rfl, rfl, rfl, fun a w => by simp [go_sem, execOp]⟩⟩); (case al2b => exact ⟨⟨_, rfl, rfl, rfl, fun a w => by simp [go_sem, execOp]⟩⟩); (case alnb => kernel_rfl); (case allb => kernel_rfl)
        refine' wpX_phase0 (f := 10) (i := 2) (L := (fun b_ c_ => #[true, true, false, false, false, false, false, false, false, false, b_, c_, false, false, false])) (L' := (fun b_ c_ => #[true, true, true, false, false, false, false, false, false, false, b_, c_, false, false, false])) (base := W.heap.size) (G := (fun w' => Below W.heap.size W w')) (x := undef) (y := undef) al1 al2 ?an2b ?al2b ?aa2b ?ar2b ?ai2b ?ag2b ?ae12b ?ae22b ?ae32b ?ap12b ?ap22b HSG.out (fun w' o q => q.alloc q.size o) (fun w' q => q.size) ?aw2b ?am2b; (case an2b => rfl); (case al2b => rfl); (case aa2b => rfl); (case ar2b => kernel_rfl); (case ai2b => rfl); (case ag2b => rfl); (case ae12b => (intros; rfl)); (case ae22b => (intros; rfl)); (case ae32b => (intros; rfl)); (case ap12b => (intros; rfl)); (case ap22b => (intros; rfl))
        (case aw2b => exact (Below.refl _ W).drew)
        intro b_ c_ x_ y_ wp1 hG_ hx_ hy_ hxy_ K_ hK_; (try simp only [Act.put, List.setIfInBounds_toArray, List.set_cons_zero, List.set_cons_succ, List.getElem_toArray, List.getElem_cons_zero, List.getElem_cons_succ])
        go_wp2_with fail
        refine (HR.out _).mono ?_
        rintro e wq1 ⟨rfl, rfl⟩
        have hbp : Below wp1.heap.size wp1 wp1 := Below.refl _ _
        go_wp2_with fail
        have qp : Below W.heap.size W wp1 := bstep hG_ hbp
        have hSp := HSG.out _ qp
        refine hK_.out _ _ (Or.inr hSp) ?_
        clear hK_ K_ hG_
        refine' wpX_take' (f := 9) (i := 3) (v := ?xv3b) (L := (fun b_ c_ => #[true, true, true, false, false, false, false, false, false, false, b_, c_, false, false, false])) (L' := (fun b_ c_ => #[true, true, true, true, false, false, false, false, false, false, b_, c_, false, false, false])) ?tan3b ?tal3b rfl (by kernel_rfl) ?tar3b (by kernel_rfl) ?tae33b (fun _ _ _ h => h) (Or.inl ⟨by rfl, ?xh3b⟩) ?taw3b ?xr3b; (case tan3b => rfl); (case tal3b => rfl); (case tar3b => kernel_rfl); (case tae33b => (intros; rfl)); (case taw3b => assumption); (case xh3b => (intro w hSw; (try dsimp only at hSw); go_simp; (try with_reducible rfl))); (try simp only [Act.put, List.setIfInBounds_toArray, List.set_cons_zero, List.set_cons_succ, List.getElem_toArray, List.getElem_cons_zero, List.getElem_cons_succ])
        refine' wpX_take' (f := 8) (i := 4) (v := ?xv4b) (L := (fun b_ c_ => #[true, true, true, true, false, false, false, false, false, false, b_, c_, false, false, false])) (L' := (fun b_ c_ => #[true, true, true, true, true, false, false, false, false, false, b_, c_, false, false, false])) ?tan4b ?tal4b rfl (by kernel_rfl) ?tar4b (by kernel_rfl) ?tae34b (fun _ _ _ h => h) (Or.inl ⟨by rfl, ?xh4b⟩) ?taw4b ?xr4b; (case tan4b => rfl); (case tal4b => rfl); (case tar4b => kernel_rfl); (case tae34b => (intros; rfl)); (case taw4b => assumption); (case xh4b => (intro w hSw; (try dsimp only at hSw); go_simp; (try with_reducible rfl))); (try simp only [Act.put, List.setIfInBounds_toArray, List.set_cons_zero, List.set_cons_succ, List.getElem_toArray, List.getElem_cons_zero, List.getElem_cons_succ])
        refine' wpX_phase' (f := 7) (i := 5) (L := (fun b_ c_ => #[true, true, true, true, true, false, false, false, false, false, b_, c_, false, false, false])) (L' := (fun b_ c_ => #[true, true, true, true, true, true, false, false, false, false, b_, c_, false, false, false])) (base := W.heap.size) (G := (fun w' => Below W.heap.size W w')) (b := b_) (c := c_) (x := x_) (y := y_) al1 al2 ?an5b ?al5b ?aa5b ?ar5b ?ai5b ?ag5b ?ae15b ?ae25b ?ae35b ?ap15b ?ap25b HSG.out (fun w' o q => q.alloc q.size o) (fun w' q => q.size) ?aw5b (hx_.bl hbp) (hy_.bl hbp) hxy_ ?am5b; (case an5b => rfl); (case al5b => rfl); (case aa5b => rfl); (case ar5b => kernel_rfl); (case ai5b => rfl); (case ag5b => rfl); (case ae15b => (intros; rfl)); (case ae25b => (intros; rfl)); (case ae35b => (intros; rfl)); (case ap15b => (intros; rfl)); (case ap25b => (intros; rfl))
        (case aw5b => exact qp)
        clear hx_ hy_ hxy_ x_ y_ b_ c_ hbp
        intro b_ c_ x_ y_ wp2 hG_ hx_ hy_ hxy_ K_ hK_; (try simp only [Act.put, List.setIfInBounds_toArray, List.set_cons_zero, List.set_cons_succ, List.getElem_toArray, List.getElem_cons_zero, List.getElem_cons_succ])
        go_wp2_with fail
        refine (HB2.out _ _ _ _ _ _ _ _ _ _ (Mb.bl hG_)).mono ?_
        rintro e wq2 ⟨B1, m1, e1, B2, m2, e2, B3, m3, e3, B4, m4, e4, rfl, N6, L6, T6, hbp⟩
        go_wp2_with fail
        have qp : Below W.heap.size W wq2 := bstep hG_ hbp
        have hSp := HSG.out _ qp
        refine hK_.out _ _ (Or.inr hSp) ?_
        clear hK_ K_ hG_
        refine' wpX_take' (f := 6) (i := 6) (v := ?xv6b) (L := (fun b_ c_ => #[true, true, true, true, true, true, false, false, false, false, b_, c_, false, false, false])) (L' := (fun b_ c_ => #[true, true, true, true, true, true, true, false, false, false, b_, c_, false, false, false])) ?tan6b ?tal6b rfl (by kernel_rfl) ?tar6b (by kernel_rfl) ?tae36b (fun _ _ _ h => h) (Or.inl ⟨by rfl, ?xh6b⟩) ?taw6b ?xr6b; (case tan6b => rfl); (case tal6b => rfl); (case tar6b => kernel_rfl); (case tae36b => (intros; rfl)); (case taw6b => assumption); (case xh6b => (intro w hSw; (try dsimp only at hSw); go_simp; (try with_reducible rfl))); (try simp only [Act.put, List.setIfInBounds_toArray, List.set_cons_zero, List.set_cons_succ, List.getElem_toArray, List.getElem_cons_zero, List.getElem_cons_succ])
        refine' wpX_take' (f := 5) (i := 7) (v := ?xv7b) (L := (fun b_ c_ => #[true, true, true, true, true, true, true, false, false, false, b_, c_, false, false, false])) (L' := (fun b_ c_ => #[true, true, true, true, true, true, true, true, false, false, b_, c_, false, false, false])) ?tan7b ?tal7b rfl (by kernel_rfl) ?tar7b (by kernel_rfl) ?tae37b (fun _ _ _ h => h) (Or.inl ⟨by rfl, ?xh7b⟩) ?taw7b ?xr7b; (case tan7b => rfl); (case tal7b => rfl); (case tar7b => kernel_rfl); (case tae37b => (intros; rfl)); (case taw7b => assumption); (case xh7b => (intro w hSw; (try dsimp only at hSw); go_simp; (try with_reducible rfl))); (try simp only [Act.put, List.setIfInBounds_toArray, List.set_cons_zero, List.set_cons_succ, List.getElem_toArray, List.getElem_cons_zero, List.getElem_cons_succ])
        refine' wpX_take' (f := 4) (i := 8) (v := ?xv8b) (L := (fun b_ c_ => #[true, true, true, true, true, true, true, true, false, false, b_, c_, false, false, false])) (L' := (fun b_ c_ => #[true, true, true, true, true, true, true, true, true, false, b_, c_, false, false, false])) ?tan8b ?tal8b rfl (by kernel_rfl) ?tar8b (by kernel_rfl) ?tae38b (fun _ _ _ h => h) (Or.inl ⟨by rfl, ?xh8b⟩) ?taw8b ?xr8b; (case tan8b => rfl); (case tal8b => rfl); (case tar8b => kernel_rfl); (case tae38b => (intros; rfl)); (case taw8b => assumption); (case xh8b => (intro w hSw; (try dsimp only at hSw); go_simp; (try with_reducible rfl))); (try simp only [Act.put, List.setIfInBounds_toArray, List.set_cons_zero, List.set_cons_succ, List.getElem_toArray, List.getElem_cons_zero, List.getElem_cons_succ])
        refine' wpX_take' (f := 3) (i := 9) (v := ?xv9b) (L := (fun b_ c_ => #[true, true, true, true, true, true, true, true, true, false, b_, c_, false, false, false])) (L' := (fun b_ c_ => #[true, true, true, true, true, true, true, true, true, true, b_, c_, false, false, false])) ?tan9b ?tal9b rfl (by kernel_rfl) ?tar9b (by kernel_rfl) ?tae39b (fun _ _ _ h => h) (Or.inl ⟨by rfl, ?xh9b⟩) ?taw9b ?xr9b; (case tan9b => rfl); (case tal9b => rfl); (case tar9b => kernel_rfl); (case tae39b => (intros; rfl)); (case taw9b => assumption); (case xh9b => (intro w hSw; (try dsimp only at hSw); go_simp; (try with_reducible rfl))); (try simp only [Act.put, List.setIfInBounds_toArray, List.set_cons_zero, List.set_cons_succ, List.getElem_toArray, List.getElem_cons_zero, List.getElem_cons_succ])
        refine' wpX_lay' (f := 3) (L := (fun b_ c_ => #[true, true, true, true, true, true, true, true, true, true, b_, c_, false, false, false])) (base := W.heap.size) (G := (fun w' => Below wq2.heap.size wq2 w')) (b := b_) (c := c_) (x := x_) (y := y_) al1 al2 ?anLb ?alLb ?aaLb ?arLb ?ae1Lb ?ae2Lb ?ap1Lb ?ap2Lb (fun w' q => HSG.out w' (bstep qp q)) (fun w' o q => q.alloc q.size o) (fun w' q => Nat.le_trans qp.size q.size) ?awLb (hx_.bl hbp) (hy_.bl hbp) hxy_ ?amLb; (case anLb => rfl); (case alLb => rfl); (case aaLb => rfl); (case arLb => kernel_rfl); (case ae1Lb => (intros; rfl)); (case ae2Lb => (intros; rfl)); (case ap1Lb => (intros; rfl)); (case ap2Lb => (intros; rfl))
        (case awLb => exact Below.refl _ wq2)
        clear hx_ hy_ hxy_ x_ y_ b_ c_ hSp
        intro g1 g2 w7 hb7 hg1 G1 hg2 G2 hgg
        have q7 : Below W.heap.size W w7 := bstep qp hb7
        clear al1 al2
        (try clear cG1 fG1); have cG1 := G1.cell; have fG1 := G1.frozen
        refine wpAnyX_one (i := 12) (by kernel_rfl) rfl (by rfl) (fun K hK => ?_); (try simp only [List.getElem_toArray, List.getElem_cons_zero, List.getElem_cons_succ])
        go_wp2_with fail
        refine hK.out _ _ (Or.inr (HSG.out _ (below_set (below_set (below_set (below_set (below_set (below_set q7 hg1 0 _) hg1 1 _) hg1 2 _) hg1 3 _) hg1 4 _) hg1 5 _))) (fun hS => ?_)
        clear hK K hS cG1 fG1
        have F0 := G2.far (p := ⟨g1, 0, none⟩) (by simpa using hgg.symm) (.int .i64 2)
        have F1 := F0.far (p := ⟨g1, 1, none⟩) (by simpa using hgg.symm) (.string { data := #[] })
        have F2 := F1.far (p := ⟨g1, 2, none⟩) (by simpa using hgg.symm) (.int .i64 1099511627776)
        have F3 := F2.far (p := ⟨g1, 3, none⟩) (by simpa using hgg.symm) (.slice B1 m1 e1)
        have F4 := F3.far (p := ⟨g1, 4, none⟩) (by simpa using hgg.symm) (.slice B2 m2 e2)
        have F5 := F4.far (p := ⟨g1, 5, none⟩) (by simpa using hgg.symm) (.slice B3 m3 e3)
        (try clear cF5 fF5); have cF5 := F5.cell; have fF5 := F5.frozen
        refine wpAnyX_one (i := 13) (by kernel_rfl) rfl (by rfl) (fun K hK => ?_); (try simp only [List.getElem_toArray, List.getElem_cons_zero, List.getElem_cons_succ])
        go_wp2_with fail
        refine hK.out _ _ (Or.inr (HSG.out _ (below_set (below_set (below_set (below_set (below_set (below_set (below_set (below_set (below_set (below_set q7 hg1 0 _) hg1 1 _) hg1 2 _) hg1 3 _) hg1 4 _) hg1 5 _) hg2 0 _) hg2 1 _) hg2 2 _) hg2 3 _))) (fun hS => ?_)
        replace hS := hS.resolve_left (by decide)
        clear hK K cF5 fF5
        refine wpAnyX_pure (i := 14) (v := ?xv14b) rfl (by kernel_rfl) (Or.inl ⟨by rfl, ?xh14b⟩) (Or.inr (by assumption)) ?xr14b; (case xh14b => (intro w; go_simp; (try with_reducible rfl))); (try simp only [Act.put, List.setIfInBounds_toArray, List.set_cons_zero, List.set_cons_succ, List.getElem_toArray, List.getElem_cons_zero, List.getElem_cons_succ])
        clear hS
        refine wpAnyX_done (by kernel_rfl) ?_ _
        clear F0 F1 F2 F3 F4 F5
        obtain ⟨X1, gr1, sz1⟩ := whole_value (Value.int .i64 2) (Value.string { data := #[] }) (Value.int .i64 1099511627776) (Value.slice B1 m1 e1) (Value.slice B2 m2 e2) (Value.slice B3 m3 e3) G1
        have Y1 := grown_blk G2 gr1 hgg.symm
        obtain ⟨X2, gr2, sz2⟩ := whole_reply (Value.int .i64 7) (Value.string { data := #[] }) (Value.int .i64 0) (Value.slice B4 m4 e4) Y1
        have X1' := grown_blk X1 gr2 hgg
        have q8 := below_grow (below_grow q7 gr1 q7.size hg1) gr2 (by rw [sz1]; exact q7.size) hg2
        have Vr8 := grown_blk (grown_blk (Vr.below' q7) gr1 (by omega)) gr2 (by omega)
        obtain ⟨w8, hw8⟩ : ∃ w8, w8 = ((((((((((w7.setCell ⟨g1, 0, none⟩ (Value.int .i64 2)).setCell ⟨g1, 1, none⟩ (Value.string { data := #[] })).setCell ⟨g1, 2, none⟩ (Value.int .i64 1099511627776)).setCell ⟨g1, 3, none⟩ (Value.slice B1 m1 e1)).setCell ⟨g1, 4, none⟩ (Value.slice B2 m2 e2)).setCell ⟨g1, 5, none⟩ (Value.slice B3 m3 e3)).setCell ⟨g2, 0, none⟩ (Value.int .i64 7)).setCell ⟨g2, 1, none⟩ (Value.string { data := #[] })).setCell ⟨g2, 2, none⟩ (Value.int .i64 0)).setCell ⟨g2, 3, none⟩ (Value.slice B4 m4 e4)) := ⟨_, rfl⟩
        rw [← hw8] at q8 X1' X2 Vr8 ⊢
        clear hw8 gr1 gr2 sz1 sz2 Y1 X1 G1 G2 q7 hb7
        have X1 := X1'
        clear X1'
        clear X1
        (try clear cX2 fX2); have cX2 := X2.cell; have fX2 := X2.frozen; (try clear cVr8 fVr8); have cVr8 := Vr8.cell; have fVr8 := Vr8.frozen
        go_wp2_with fail
        go_ret
        exact ⟨rfl, bstep q0 q8⟩
set_option maxRecDepth 100000 in
theorem addSum_lifted (os : Os) (started : os.Started) (H : Type) (enc : TypeId × Value → H) :
  ReturnsInHanded {} Try.checked os 5 .any (Rows.addSumSpec.pre6 enc Try.prog Try.f5 Rows.addSumRow.domain false) (Rows.addSumSpec.post enc Try.prog Try.f5 false true false false) := by
  refine returnsInHanded_of_change (C := Try.checked) Try.own started (by kernel_rfl) Try.func5 (ChangeSpec.witness6 (enc := enc) (C := Try.checked) false ⟨#[], #[.slice none 0 0, .int .i64 0], []⟩ 8 (by kernel_rfl) (by kernel_rfl) (by kernel_rfl) (by kernel_rfl)) ?_
  intro W base args ds gs before hval0 hW hcnd _
  have hval : ∀ (j : Nat) t v, Try.f5.params[j]? = some t → args[j]? = some v → Value.okWide Try.prog W .any base t v := hval0
  have hW' := hW
  obtain ⟨p, q, hA0, hV, rfl, hfz, hnd⟩ := hW
  have hA : DataW.TrodAll enc Try.prog W 0 (fun _ => true) true Try.f5.params.toList args.toList ds p := hA0
  rw [Try.params5] at hA hval
  obtain ⟨rfl, rfl⟩ := trodVars_none hV
  clear hA0 hval0 hcnd hV hfz hnd
  obtain ⟨v0, v1, d0, d1, p0, p1, rfl, rfl, rfl, h0, h1⟩ := trodAll_two hA
  obtain ⟨A, n, c, l, rfl, hd, hS⟩ := open_i64s (hval 0 44 v0 rfl rfl) h0
  obtain ⟨k, rfl, rfl, rfl, w1⟩ := open_int Try.underlying3 (hval 1 3 v1 rfl rfl) h1
  refine (addSum_walk A n c l k W hS hd (i64_bounds w1)).mono fun e W' ⟨he, hb⟩ => ?_
  subst he
  exact ⟨_, rfl, post_law Try.laidOut hW' rfl (by kernel_rfl) rfl Try.underlying4 (fun _ => rfl) (fun _ => rfl) (fun _ => rfl) hb⟩
theorem addSum_holds : Rows.AddSumSaid := OpenClaim.holds_of_wide 5 Try.f5 rfl rfl rfl rfl rfl rfl rfl ⟨rfl, rfl, rfl, rfl, rfl⟩ rfl rfl rfl rfl rfl (by kernel_rfl) Try.func5 (by kernel_rfl)
  (of_decide_eq_true (by kernel_rfl)) (by unfold Func.isWrapper; first | (rw [if_pos (by decide +kernel)]; kernel_rfl) | (rw [if_neg (by decide +kernel)]; exact ⟨rfl, rfl⟩))
  (fun os started H enc _ => addSum_lifted os started H enc)
#print axioms addSum_holds
end Go.Proofs.Ytcelcanfdalliaa
