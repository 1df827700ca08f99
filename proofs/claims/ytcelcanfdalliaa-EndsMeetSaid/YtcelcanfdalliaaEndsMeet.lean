/- rostrumkeep.EndsMeet returns true for every input and leaves its arguments as they were; no condition. -/
import Derived.Test.YtcelcanfdalliaaValLaw
import Derived.Test.YtcelcanfdalliaaDonR
import Derived.Test.YtcelcanfdalliaaSlice
namespace Go.Proofs.Ytcelcanfdalliaa
set_option linter.all false
open Go.ChangeShapes Go.WideShapes Go.ChangeAt Go.RowKit
/-- What is put at an end, and taken from there. -/
theorem ends_meet {V : Va} {t : ByteArray} (h : Good V) (hv : V.kind = 4) (hl : V.items.length < 20) (ht : t.size ≤ 20) (front : Bool) :
    ∃ U : Va, Good U ∧ doneVal V ⟨if front = true then 8 else 7, { data := #[107] }, { data := #[] }, t, 0⟩ = (U, toldR (V.items.length + 1), 0) ∧
      doneVal U ⟨if front = true then 10 else 9, { data := #[107] }, { data := #[] }, { data := #[] }, 0⟩ = (V, textR t, 0) := by
  have hs := list_size h hv
  have hmay : ∀ c, May (doneVal V c).1 := fun c => done_may (.inr h) c
  cases front with
  | true =>
    have c1 : ccOf ⟨8, { data := #[107] }, { data := #[] }, t, 0⟩ = 0 := cc_lit (by omega) (by omega) (by rw [if_neg (by decide)]; rfl) (by rw [if_pos (by decide)]; exact ht) (by rw [if_neg (by decide)])
    have c2 : ccOf ⟨10, { data := #[107] }, { data := #[] }, { data := #[] }, 0⟩ = 0 := cc_lit (by omega) (by omega) (by rw [if_neg (by decide)]; rfl) (by rw [if_neg (by decide)]; rfl) (by rw [if_neg (by decide)])
    have e1 := done_front h hv hl c1 rfl
    have hU := hmay ⟨8, { data := #[107] }, { data := #[] }, t, 0⟩
    rw [e1] at hU
    have hG : Good { V with items := t :: V.items } := by
      rcases hU with hU | hU
      · exfalso; have := congrArg Va.kind hU; simp only [hv] at this; exact absurd this (by decide)
      · exact hU
    refine ⟨_, hG, e1, ?_⟩
    have e2 := done_shift hG hv c2 rfl
    rw [if_neg (by simp only [List.length_cons]; omega)] at e2
    simpa using e2
  | false =>
    have c1 : ccOf ⟨7, { data := #[107] }, { data := #[] }, t, 0⟩ = 0 := cc_lit (by omega) (by omega) (by rw [if_neg (by decide)]; rfl) (by rw [if_pos (by decide)]; exact ht) (by rw [if_neg (by decide)])
    have c2 : ccOf ⟨9, { data := #[107] }, { data := #[] }, { data := #[] }, 0⟩ = 0 := cc_lit (by omega) (by omega) (by rw [if_neg (by decide)]; rfl) (by rw [if_neg (by decide)]; rfl) (by rw [if_neg (by decide)])
    have e1 := done_push h hv hl c1 rfl
    have hU := hmay ⟨7, { data := #[107] }, { data := #[] }, t, 0⟩
    rw [e1] at hU
    have hG : Good { V with items := V.items ++ [t] } := by
      rcases hU with hU | hU
      · exfalso; have := congrArg Va.kind hU; simp only [hv] at this; exact absurd this (by decide)
      · exact hU
    refine ⟨_, hG, e1, ?_⟩
    have e2 := done_pop hG hv c2 rfl
    rw [if_neg (by simp only [List.length_append, List.length_singleton]; omega)] at e2
    simpa using e2
set_option maxRecDepth 100000 in
set_option maxHeartbeats 8000000 in
theorem endsMeet_walk (A : Option Addr) (n c : Nat) (l : List RawD) (s : ByteArray) (front : Bool) (w : World) (hS : Sl w 5 A n c (rawRows l)) (hd : ∀ d ∈ l, d.ok) (hs : s.size ≤ maxLen) :
    Calls Try.prog 19 #[.slice A n c, .string s, .bool front] w fun e w' => e = .returned (.bool true) ∧ Below w.heap.size w w' := by
  have hn := raw_len hS
  have hcm := hS.cm
  have hnc := hS.nc
  unfold maxLen at hcm
  subst hn
  obtain ⟨J, hJ⟩ : ∃ J, J = min l.length 15 := ⟨_, rfl⟩
  have hJl : J ≤ l.length := by omega
  have hif : min (l.length : Int) 15 = (J : Int) := by omega
  have hS' := hS.take J hJl c (by omega) (Nat.le_refl _)
  rw [rawRows_take] at hS'
  have hsl := fun w => run_take Try.underlying22 raw_size A l.length c J (by omega) w
  have hd' : ∀ d ∈ l.take J, d.ok := fun d hm => hd d (List.mem_of_mem_take hm)
  have hF := fun w h => full_any 3 A J c (l.take J) w h hd' ⟨by omega, by omega⟩ (by omega)
  obtain ⟨hG, hGk⟩ := fullOf_good 3 (l.take J)
  have hi := fullOf_items 3 (l.take J)
  have hk4 : kindV 3 = 4 := by decide
  rw [hk4] at hGk
  have hT := fun w => cut_any s 9 w hs (by omega) (by omega)
  have hts := cut_size s 9
  have e9 : (9 : Int).toNat = 9 := rfl
  rw [e9] at hT
  rw [List.length_take] at hi
  generalize fullOf 3 (l.take J) = V at *
  generalize cut_ s 9 = t at *
  obtain ⟨U, hU, d1, d2⟩ := ends_meet hG hGk (by omega) (by omega) (t := t) front
  have hl := list_size hG hGk
  have hD1 := fun A1 A2 A3 n1 c1 n2 c2 n3 c3 w h => Do_may V ⟨if front = true then 8 else 7, { data := #[107] }, { data := #[] }, t, 0⟩ (.inr hG) A1 A2 A3 n1 c1 n2 c2 n3 c3 w h
  have hD2 := fun A1 A2 A3 n1 c1 n2 c2 n3 c3 w h => Do_may U ⟨if front = true then 10 else 9, { data := #[107] }, { data := #[] }, { data := #[] }, 0⟩ (.inr hU) A1 A2 A3 n1 c1 n2 c2 n3 c3 w h
  rw [d1] at hD1
  rw [d2] at hD2
  obtain ⟨vk, vt, vc, ps, is_, ss⟩ := V
  obtain ⟨uk, ut, uc, ups, uis, uss⟩ := U
  simp only [toldR, textR, emp] at hD1 hD2 hl
  obtain ⟨sz, hsz⟩ : ∃ sz, sz = is_.length := ⟨_, rfl⟩
  rw [← hsz] at hD1 hl
  have hpos : (0 : Int) < (sz : Int) := by omega
  have HF := hide hF; have HT := hide hT; have HD1 := hide hD1; have HD2 := hide hD2; have HSZ := hide hsz; have HJ := hide hJ
  clear hF hT hD1 hD2 hG hGk hU d1 d2 hd hd' hsz hi hJ
  go_enter Try.func19, Try.ntmps19
  go_wp2_with fail
  refine (HF.out _ hS').mono ?_; rintro e w1 ⟨B10, m10, e10, B20, m20, e20, B30, m30, e30, rfl, M0, T0, hb0⟩; skip; have q : Below w.heap.size w w1 := (by repeat (first | (with_reducible exact Below.refl _ _) | (with_reducible assumption) | (with_reducible refine Below.drew ?_) | (with_reducible refine bdrewN ?_ _) | (with_reducible refine balloc ?_ _) | ((with_reducible refine bset ?_ ?_ _); rotate_left; (focus first | exact Nat.le_refl _ | (simp; done) | (simp; omega) | omega)) | (with_reducible refine bstep ?_ (by with_reducible assumption)) | (with_reducible refine Below.trans ?_ (by with_reducible assumption)))); clear hb0 T0
  have hm : m20 = sz := by rw [HSZ.out]; exact M0.n2_.symm
  subst hm
  have D0 := Blk.new w1 29 #[.int .i64 vk, .string vt, .int .i64 vc, .slice B10 m10 e10, .slice B20 m20 e20, .slice B30 m30 e30]; replace M0 := M0.al (.cells #[.int .i64 vk, .string vt, .int .i64 vc, .slice B10 m10 e10, .slice B20 m20 e20, .slice B30 m30 e30] 29)
  (try clear cD0 fD0); have cD0 := D0.cell; have fD0 := D0.frozen
  clear hif hsl
  go_wp2_with fail
  refine (HT.out _).mono ?_
  rintro e w' ⟨rfl, rfl⟩
  cases front with
  | true =>
    simp only [if_true] at HD1 HD2
    go_wp2_with fail
    refine (HD1.out _ _ _ _ _ _ _ _ _ _ M0).mono ?_; rintro e w2 ⟨B11, m11, e11, B21, m21, e21, B31, m31, e31, B41, m41, e41, rfl, M1, L1, T1, hb1⟩; replace D0 := D0.bl hb1; replace M0 := M0.bl hb1; replace q : Below w.heap.size w w2 := (by repeat (first | (with_reducible exact Below.refl _ _) | (with_reducible assumption) | (with_reducible refine Below.drew ?_) | (with_reducible refine bdrewN ?_ _) | (with_reducible refine balloc ?_ _) | ((with_reducible refine bset ?_ ?_ _); rotate_left; (focus first | exact Nat.le_refl _ | (simp; done) | (simp; omega) | omega)) | (with_reducible refine bstep ?_ (by with_reducible assumption)) | (with_reducible refine Below.trans ?_ (by with_reducible assumption)))); clear hb1
    have D1 := Blk.new w2 29 #[.int .i64 uk, .string ut, .int .i64 uc, .slice B11 m11 e11, .slice B21 m21 e21, .slice B31 m31 e31]; replace M1 := M1.al (.cells #[.int .i64 uk, .string ut, .int .i64 uc, .slice B11 m11 e11, .slice B21 m21 e21, .slice B31 m31 e31] 29); replace L1 := L1.al (.cells #[.int .i64 uk, .string ut, .int .i64 uc, .slice B11 m11 e11, .slice B21 m21 e21, .slice B31 m31 e31] 29); replace D0 := D0.al (.cells #[.int .i64 uk, .string ut, .int .i64 uc, .slice B11 m11 e11, .slice B21 m21 e21, .slice B31 m31 e31] 29); replace M0 := M0.al (.cells #[.int .i64 uk, .string ut, .int .i64 uc, .slice B11 m11 e11, .slice B21 m21 e21, .slice B31 m31 e31] 29); have R1 : Blk ((w2.alloc (.cells #[.int .i64 uk, .string ut, .int .i64 uc, .slice B11 m11 e11, .slice B21 m21 e21, .slice B31 m31 e31] 29)).alloc (.cells #[.int .i64 0, .string { data := #[] }, .int .i64 ((m20 : Int) + 1), .slice B41 m41 e41] 37)) (w2.heap.size + 1) 37 #[.int .i64 0, .string { data := #[] }, .int .i64 ((m20 : Int) + 1), .slice B41 m41 e41] := Blk.new' _ _ _ (by simp); replace M1 := M1.al (.cells #[.int .i64 0, .string { data := #[] }, .int .i64 ((m20 : Int) + 1), .slice B41 m41 e41] 37); replace L1 := L1.al (.cells #[.int .i64 0, .string { data := #[] }, .int .i64 ((m20 : Int) + 1), .slice B41 m41 e41] 37); replace D1 := D1.al (.cells #[.int .i64 0, .string { data := #[] }, .int .i64 ((m20 : Int) + 1), .slice B41 m41 e41] 37); replace D0 := D0.al (.cells #[.int .i64 0, .string { data := #[] }, .int .i64 ((m20 : Int) + 1), .slice B41 m41 e41] 37); replace M0 := M0.al (.cells #[.int .i64 0, .string { data := #[] }, .int .i64 ((m20 : Int) + 1), .slice B41 m41 e41] 37)
    clear cD0 fD0 T1 L1
    (try clear cD1 fD1); have cD1 := D1.cell; have fD1 := D1.frozen
    go_wp2_with fail
    refine (HD2.out _ _ _ _ _ _ _ _ _ _ M1).mono ?_; rintro e w3 ⟨B12, m12, e12, B22, m22, e22, B32, m32, e32, B42, m42, e42, rfl, M2, L2, T2, hb2⟩; replace D0 := D0.bl hb2; replace M0 := M0.bl hb2; replace R1 := R1.bl hb2; replace q : Below w.heap.size w w3 := (by repeat (first | (with_reducible exact Below.refl _ _) | (with_reducible assumption) | (with_reducible refine Below.drew ?_) | (with_reducible refine bdrewN ?_ _) | (with_reducible refine balloc ?_ _) | ((with_reducible refine bset ?_ ?_ _); rotate_left; (focus first | exact Nat.le_refl _ | (simp; done) | (simp; omega) | omega)) | (with_reducible refine bstep ?_ (by with_reducible assumption)) | (with_reducible refine Below.trans ?_ (by with_reducible assumption)))); clear hb2
    have D2 := Blk.new w3 29 #[.int .i64 vk, .string vt, .int .i64 vc, .slice B12 m12 e12, .slice B22 m22 e22, .slice B32 m32 e32]; replace M2 := M2.al (.cells #[.int .i64 vk, .string vt, .int .i64 vc, .slice B12 m12 e12, .slice B22 m22 e22, .slice B32 m32 e32] 29); replace L2 := L2.al (.cells #[.int .i64 vk, .string vt, .int .i64 vc, .slice B12 m12 e12, .slice B22 m22 e22, .slice B32 m32 e32] 29); replace D0 := D0.al (.cells #[.int .i64 vk, .string vt, .int .i64 vc, .slice B12 m12 e12, .slice B22 m22 e22, .slice B32 m32 e32] 29); replace M0 := M0.al (.cells #[.int .i64 vk, .string vt, .int .i64 vc, .slice B12 m12 e12, .slice B22 m22 e22, .slice B32 m32 e32] 29); replace R1 := R1.al (.cells #[.int .i64 vk, .string vt, .int .i64 vc, .slice B12 m12 e12, .slice B22 m22 e22, .slice B32 m32 e32] 29); have R2 : Blk ((w3.alloc (.cells #[.int .i64 vk, .string vt, .int .i64 vc, .slice B12 m12 e12, .slice B22 m22 e22, .slice B32 m32 e32] 29)).alloc (.cells #[.int .i64 0, .string t, .int .i64 0, .slice B42 m42 e42] 37)) (w3.heap.size + 1) 37 #[.int .i64 0, .string t, .int .i64 0, .slice B42 m42 e42] := Blk.new' _ _ _ (by simp); replace M2 := M2.al (.cells #[.int .i64 0, .string t, .int .i64 0, .slice B42 m42 e42] 37); replace L2 := L2.al (.cells #[.int .i64 0, .string t, .int .i64 0, .slice B42 m42 e42] 37); replace D2 := D2.al (.cells #[.int .i64 0, .string t, .int .i64 0, .slice B42 m42 e42] 37); replace D0 := D0.al (.cells #[.int .i64 0, .string t, .int .i64 0, .slice B42 m42 e42] 37); replace M0 := M0.al (.cells #[.int .i64 0, .string t, .int .i64 0, .slice B42 m42 e42] 37); replace R1 := R1.al (.cells #[.int .i64 0, .string t, .int .i64 0, .slice B42 m42 e42] 37)
    clear cD1 fD1 T2 L2
    (try clear cD0 fD0); have cD0 := D0.cell; have fD0 := D0.frozen; (try clear cR1 fR1); have cR1 := R1.cell; have fR1 := R1.frozen; (try clear cD2 fD2); have cD2 := D2.cell; have fD2 := D2.frozen; (try clear cR2 fR2); have cR2 := R2.cell; have fR2 := R2.frozen
    go_wp2_with fail
    refine (sameValue_eq ⟨vk, vt, vc, ps, is_, ss⟩ ⟨vk, vt, vc, ps, is_, ss⟩ _ _ _ _ _ _ _ _ _ _ _ _ _ _ _ _ _ _ _ M0 M2 rfl).mono ?_
    rintro e w5 ⟨rfl, hb5⟩
    replace D0 := D0.bl hb5
    clear cD0 fD0 cR1 fR1 cD2 fD2 cR2 fR2
    (try clear cD0 fD0); have cD0 := D0.cell; have fD0 := D0.frozen
    go_wp2_with fail
    go_ret
    exact ⟨ret_bool (by simp; omega), (by repeat (first | (with_reducible exact Below.refl _ _) | (with_reducible assumption) | (with_reducible refine Below.drew ?_) | (with_reducible refine bdrewN ?_ _) | (with_reducible refine balloc ?_ _) | ((with_reducible refine bset ?_ ?_ _); rotate_left; (focus first | exact Nat.le_refl _ | (simp; done) | (simp; omega) | omega)) | (with_reducible refine bstep ?_ (by with_reducible assumption)) | (with_reducible refine Below.trans ?_ (by with_reducible assumption))))⟩
  | false =>
    simp only [Bool.false_eq_true, if_false] at HD1 HD2
    go_wp2_with fail
    refine (HD1.out _ _ _ _ _ _ _ _ _ _ M0).mono ?_; rintro e w2 ⟨B11, m11, e11, B21, m21, e21, B31, m31, e31, B41, m41, e41, rfl, M1, L1, T1, hb1⟩; replace D0 := D0.bl hb1; replace M0 := M0.bl hb1; replace q : Below w.heap.size w w2 := (by repeat (first | (with_reducible exact Below.refl _ _) | (with_reducible assumption) | (with_reducible refine Below.drew ?_) | (with_reducible refine bdrewN ?_ _) | (with_reducible refine balloc ?_ _) | ((with_reducible refine bset ?_ ?_ _); rotate_left; (focus first | exact Nat.le_refl _ | (simp; done) | (simp; omega) | omega)) | (with_reducible refine bstep ?_ (by with_reducible assumption)) | (with_reducible refine Below.trans ?_ (by with_reducible assumption)))); clear hb1
    have D1 := Blk.new w2 29 #[.int .i64 uk, .string ut, .int .i64 uc, .slice B11 m11 e11, .slice B21 m21 e21, .slice B31 m31 e31]; replace M1 := M1.al (.cells #[.int .i64 uk, .string ut, .int .i64 uc, .slice B11 m11 e11, .slice B21 m21 e21, .slice B31 m31 e31] 29); replace L1 := L1.al (.cells #[.int .i64 uk, .string ut, .int .i64 uc, .slice B11 m11 e11, .slice B21 m21 e21, .slice B31 m31 e31] 29); replace D0 := D0.al (.cells #[.int .i64 uk, .string ut, .int .i64 uc, .slice B11 m11 e11, .slice B21 m21 e21, .slice B31 m31 e31] 29); replace M0 := M0.al (.cells #[.int .i64 uk, .string ut, .int .i64 uc, .slice B11 m11 e11, .slice B21 m21 e21, .slice B31 m31 e31] 29); have R1 : Blk ((w2.alloc (.cells #[.int .i64 uk, .string ut, .int .i64 uc, .slice B11 m11 e11, .slice B21 m21 e21, .slice B31 m31 e31] 29)).alloc (.cells #[.int .i64 0, .string { data := #[] }, .int .i64 ((m20 : Int) + 1), .slice B41 m41 e41] 37)) (w2.heap.size + 1) 37 #[.int .i64 0, .string { data := #[] }, .int .i64 ((m20 : Int) + 1), .slice B41 m41 e41] := Blk.new' _ _ _ (by simp); replace M1 := M1.al (.cells #[.int .i64 0, .string { data := #[] }, .int .i64 ((m20 : Int) + 1), .slice B41 m41 e41] 37); replace L1 := L1.al (.cells #[.int .i64 0, .string { data := #[] }, .int .i64 ((m20 : Int) + 1), .slice B41 m41 e41] 37); replace D1 := D1.al (.cells #[.int .i64 0, .string { data := #[] }, .int .i64 ((m20 : Int) + 1), .slice B41 m41 e41] 37); replace D0 := D0.al (.cells #[.int .i64 0, .string { data := #[] }, .int .i64 ((m20 : Int) + 1), .slice B41 m41 e41] 37); replace M0 := M0.al (.cells #[.int .i64 0, .string { data := #[] }, .int .i64 ((m20 : Int) + 1), .slice B41 m41 e41] 37)
    clear cD0 fD0 T1 L1
    (try clear cD1 fD1); have cD1 := D1.cell; have fD1 := D1.frozen
    go_wp2_with fail
    refine (HD2.out _ _ _ _ _ _ _ _ _ _ M1).mono ?_; rintro e w3 ⟨B12, m12, e12, B22, m22, e22, B32, m32, e32, B42, m42, e42, rfl, M2, L2, T2, hb2⟩; replace D0 := D0.bl hb2; replace M0 := M0.bl hb2; replace R1 := R1.bl hb2; replace q : Below w.heap.size w w3 := (by repeat (first | (with_reducible exact Below.refl _ _) | (with_reducible assumption) | (with_reducible refine Below.drew ?_) | (with_reducible refine bdrewN ?_ _) | (with_reducible refine balloc ?_ _) | ((with_reducible refine bset ?_ ?_ _); rotate_left; (focus first | exact Nat.le_refl _ | (simp; done) | (simp; omega) | omega)) | (with_reducible refine bstep ?_ (by with_reducible assumption)) | (with_reducible refine Below.trans ?_ (by with_reducible assumption)))); clear hb2
    have D2 := Blk.new w3 29 #[.int .i64 vk, .string vt, .int .i64 vc, .slice B12 m12 e12, .slice B22 m22 e22, .slice B32 m32 e32]; replace M2 := M2.al (.cells #[.int .i64 vk, .string vt, .int .i64 vc, .slice B12 m12 e12, .slice B22 m22 e22, .slice B32 m32 e32] 29); replace L2 := L2.al (.cells #[.int .i64 vk, .string vt, .int .i64 vc, .slice B12 m12 e12, .slice B22 m22 e22, .slice B32 m32 e32] 29); replace D0 := D0.al (.cells #[.int .i64 vk, .string vt, .int .i64 vc, .slice B12 m12 e12, .slice B22 m22 e22, .slice B32 m32 e32] 29); replace M0 := M0.al (.cells #[.int .i64 vk, .string vt, .int .i64 vc, .slice B12 m12 e12, .slice B22 m22 e22, .slice B32 m32 e32] 29); replace R1 := R1.al (.cells #[.int .i64 vk, .string vt, .int .i64 vc, .slice B12 m12 e12, .slice B22 m22 e22, .slice B32 m32 e32] 29); have R2 : Blk ((w3.alloc (.cells #[.int .i64 vk, .string vt, .int .i64 vc, .slice B12 m12 e12, .slice B22 m22 e22, .slice B32 m32 e32] 29)).alloc (.cells #[.int .i64 0, .string t, .int .i64 0, .slice B42 m42 e42] 37)) (w3.heap.size + 1) 37 #[.int .i64 0, .string t, .int .i64 0, .slice B42 m42 e42] := Blk.new' _ _ _ (by simp); replace M2 := M2.al (.cells #[.int .i64 0, .string t, .int .i64 0, .slice B42 m42 e42] 37); replace L2 := L2.al (.cells #[.int .i64 0, .string t, .int .i64 0, .slice B42 m42 e42] 37); replace D2 := D2.al (.cells #[.int .i64 0, .string t, .int .i64 0, .slice B42 m42 e42] 37); replace D0 := D0.al (.cells #[.int .i64 0, .string t, .int .i64 0, .slice B42 m42 e42] 37); replace M0 := M0.al (.cells #[.int .i64 0, .string t, .int .i64 0, .slice B42 m42 e42] 37); replace R1 := R1.al (.cells #[.int .i64 0, .string t, .int .i64 0, .slice B42 m42 e42] 37)
    clear cD1 fD1 T2 L2
    (try clear cD0 fD0); have cD0 := D0.cell; have fD0 := D0.frozen; (try clear cR1 fR1); have cR1 := R1.cell; have fR1 := R1.frozen; (try clear cD2 fD2); have cD2 := D2.cell; have fD2 := D2.frozen; (try clear cR2 fR2); have cR2 := R2.cell; have fR2 := R2.frozen
    go_wp2_with fail
    refine (sameValue_eq ⟨vk, vt, vc, ps, is_, ss⟩ ⟨vk, vt, vc, ps, is_, ss⟩ _ _ _ _ _ _ _ _ _ _ _ _ _ _ _ _ _ _ _ M0 M2 rfl).mono ?_
    rintro e w5 ⟨rfl, hb5⟩
    replace D0 := D0.bl hb5
    clear cD0 fD0 cR1 fR1 cD2 fD2 cR2 fR2
    (try clear cD0 fD0); have cD0 := D0.cell; have fD0 := D0.frozen
    go_wp2_with fail
    go_ret
    exact ⟨ret_bool (by simp; omega), (by repeat (first | (with_reducible exact Below.refl _ _) | (with_reducible assumption) | (with_reducible refine Below.drew ?_) | (with_reducible refine bdrewN ?_ _) | (with_reducible refine balloc ?_ _) | ((with_reducible refine bset ?_ ?_ _); rotate_left; (focus first | exact Nat.le_refl _ | (simp; done) | (simp; omega) | omega)) | (with_reducible refine bstep ?_ (by with_reducible assumption)) | (with_reducible refine Below.trans ?_ (by with_reducible assumption))))⟩
set_option maxRecDepth 100000 in
theorem endsMeet_lifted (os : Os) (started : os.Started) (H : Type) (enc : TypeId × Value → H) :
  ReturnsInHanded {} Try.checked os 19 .any (Rows.endsMeetSpec.pre6 enc Try.prog Try.f19 Rows.endsMeetRow.domain false) (Rows.endsMeetSpec.post enc Try.prog Try.f19 false true false false) := by
  refine returnsInHanded_of_change (C := Try.checked) Try.own started (by kernel_rfl) Try.func19 (ChangeSpec.witness6 (enc := enc) (C := Try.checked) false ⟨#[], #[.slice none 0 0, .string ByteArray.empty, .bool false], []⟩ 8 (by kernel_rfl) (by kernel_rfl) (by kernel_rfl) (by kernel_rfl)) ?_
  intro W base args ds gs before hval0 hW hcnd _
  have hval : ∀ (j : Nat) t v, Try.f19.params[j]? = some t → args[j]? = some v → Value.okWide Try.prog W .any base t v := hval0
  have hW' := hW
  obtain ⟨p, q, hA0, hV, rfl, hfz, hnd⟩ := hW
  have hA : DataW.TrodAll enc Try.prog W 0 (fun _ => true) true Try.f19.params.toList args.toList ds p := hA0
  rw [Try.params19] at hA hval
  obtain ⟨rfl, rfl⟩ := trodVars_none hV
  clear hA0 hval0 hcnd hV hfz hnd
  obtain ⟨v0, v1, v2, d0, d1, d2, p0, p1, p2, rfl, rfl, rfl, h0, h1, h2⟩ := trodAll_three hA
  obtain ⟨A, n, c, l, rfl, hd, hS⟩ := open_raws (hval 0 22 v0 rfl rfl) h0
  obtain ⟨s, rfl, rfl, rfl, hs⟩ := Go.ChangeMaps.open_string Try.underlying9 (hval 1 9 v1 rfl rfl) h1
  obtain ⟨b, rfl, rfl, rfl⟩ := open_bool Try.underlying4 (hval 2 4 v2 rfl rfl) h2
  refine (endsMeet_walk A n c l s b W hS hd hs).mono fun e W' ⟨he, hb⟩ => ?_
  subst he
  exact ⟨_, rfl, post_law Try.laidOut hW' rfl (by kernel_rfl) rfl Try.underlying4 (fun _ => rfl) (fun _ => rfl) (fun _ => rfl) hb⟩
theorem endsMeet_holds : Rows.EndsMeetSaid := OpenClaim.holds_of_wide 19 Try.f19 rfl rfl rfl rfl rfl rfl rfl ⟨rfl, rfl, rfl, rfl, rfl⟩ rfl rfl rfl rfl rfl (by kernel_rfl) Try.func19 (by kernel_rfl)
  (of_decide_eq_true (by kernel_rfl)) (by unfold Func.isWrapper; first | (rw [if_pos (by decide +kernel)]; kernel_rfl) | (rw [if_neg (by decide +kernel)]; exact ⟨rfl, rfl⟩))
  (fun os started H enc _ => endsMeet_lifted os started H enc)
#print axioms endsMeet_holds
end Go.Proofs.Ytcelcanfdalliaa
