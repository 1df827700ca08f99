/- rostrumkeep.PutGet returns true for every input and leaves its arguments as they were; no condition. -/
import Derived.Test.YtcelcanfdalliaaValLaw
import Derived.Test.YtcelcanfdalliaaDonQ
namespace Go.Proofs.Ytcelcanfdalliaa
set_option linter.all false
open Go.ChangeShapes Go.WideShapes Go.ChangeAt Go.RowKit
set_option maxRecDepth 100000 in
set_option maxHeartbeats 8000000 in
theorem putGet_walk (kind : Int) (A : Option Addr) (n c : Nat) (l : List RawD) (s : ByteArray) (w : World) (hS : Sl w 5 A n c (rawRows l)) (hd : ∀ d ∈ l, d.ok) (hk : I64 kind) (hs : s.size ≤ maxLen) :
    Calls Try.prog 4 #[.int .i64 kind, .slice A n c, .string s] w fun e w' => e = .returned (.bool true) ∧ Below w.heap.size w w' := by
  have hF := fun w h => Value_any kind A n c l w h hd hk
  have hG := valueOf_may kind l
  have hT := fun w => cut_any s 20 w hs (by omega) (by omega)
  have hts := cut_size s 20
  have e20 : (20 : Int).toNat = 20 := rfl
  rw [e20] at hT
  generalize valueOf kind l = V at *
  generalize cut_ s 20 = t at *
  have c1 : ccOf ⟨1, { data := #[107] }, { data := #[] }, t, 0⟩ = 0 := cc_lit (by omega) (by omega) (by rw [if_neg (by decide)]; rfl) (by rw [if_pos (by decide)]; exact hts) (by rw [if_neg (by decide)])
  have c2 : ccOf ⟨2, { data := #[107] }, { data := #[] }, { data := #[] }, 0⟩ = 0 := cc_lit (by omega) (by omega) (by rw [if_neg (by decide)]; rfl) (by rw [if_neg (by decide)]; rfl) (by rw [if_neg (by decide)])
  have hD1 := fun A1 A2 A3 n1 c1 n2 c2 n3 c3 w h => Do_may V ⟨1, { data := #[107] }, { data := #[] }, t, 0⟩ hG A1 A2 A3 n1 c1 n2 c2 n3 c3 w h
  have g1 := done_may hG ⟨1, { data := #[107] }, { data := #[] }, t, 0⟩
  rw [done_put hG c1 rfl] at hD1 g1
  have hG2 : Good ⟨1, t, 0, [], [], []⟩ := by
    rcases g1 with h | h
    · injection h with h; omega
    · exact h
  have hD2 := fun A1 A2 A3 n1 c1 n2 c2 n3 c3 w h => Do_may ⟨1, t, 0, [], [], []⟩ ⟨2, { data := #[107] }, { data := #[] }, { data := #[] }, 0⟩ (.inr hG2) A1 A2 A3 n1 c1 n2 c2 n3 c3 w h
  rw [done_get hG2 rfl c2 rfl] at hD2
  obtain ⟨vk, vt, vc, ps, is_, ss⟩ := V
  simp only [toldR, textR, emp] at hD1 hD2
  have HF := hide hF; have HT := hide hT; have HD1 := hide hD1; have HD2 := hide hD2
  clear hF hT hD1 hD2 hG hG2 c1 c2 g1 hd
  go_enter Try.func4, Try.ntmps4
  go_wp2_with fail
  refine (HT.out _).mono ?_
  rintro e w' ⟨rfl, rfl⟩
  go_wp2_with fail
  refine (HF.out _ hS).mono ?_; rintro e w1 ⟨B10, m10, e10, B20, m20, e20, B30, m30, e30, rfl, M0, T0, hb0⟩; skip; have q : Below w.heap.size w w1 := (by repeat (first | (with_reducible exact Below.refl _ _) | (with_reducible assumption) | (with_reducible refine Below.drew ?_) | (with_reducible refine bdrewN ?_ _) | (with_reducible refine balloc ?_ _) | ((with_reducible refine bset ?_ ?_ _); rotate_left; (focus first | exact Nat.le_refl _ | (simp; done) | (simp; omega) | omega)) | (with_reducible refine bstep ?_ (by with_reducible assumption)) | (with_reducible refine Below.trans ?_ (by with_reducible assumption)))); clear hb0 T0
  go_wp2_with fail
  refine (HD1.out _ _ _ _ _ _ _ _ _ _ M0).mono ?_; rintro e w2 ⟨B11, m11, e11, B21, m21, e21, B31, m31, e31, B41, m41, e41, rfl, M1, L1, T1, hb1⟩; skip; replace q : Below w.heap.size w w2 := (by repeat (first | (with_reducible exact Below.refl _ _) | (with_reducible assumption) | (with_reducible refine Below.drew ?_) | (with_reducible refine bdrewN ?_ _) | (with_reducible refine balloc ?_ _) | ((with_reducible refine bset ?_ ?_ _); rotate_left; (focus first | exact Nat.le_refl _ | (simp; done) | (simp; omega) | omega)) | (with_reducible refine bstep ?_ (by with_reducible assumption)) | (with_reducible refine Below.trans ?_ (by with_reducible assumption)))); clear hb1
  have D1 := Blk.new w2 29 #[.int .i64 1, .string t, .int .i64 0, .slice B11 m11 e11, .slice B21 m21 e21, .slice B31 m31 e31]; replace M1 := M1.al (.cells #[.int .i64 1, .string t, .int .i64 0, .slice B11 m11 e11, .slice B21 m21 e21, .slice B31 m31 e31] 29); replace L1 := L1.al (.cells #[.int .i64 1, .string t, .int .i64 0, .slice B11 m11 e11, .slice B21 m21 e21, .slice B31 m31 e31] 29); have R1 : Blk ((w2.alloc (.cells #[.int .i64 1, .string t, .int .i64 0, .slice B11 m11 e11, .slice B21 m21 e21, .slice B31 m31 e31] 29)).alloc (.cells #[.int .i64 0, .string { data := #[] }, .int .i64 0, .slice B41 m41 e41] 37)) (w2.heap.size + 1) 37 #[.int .i64 0, .string { data := #[] }, .int .i64 0, .slice B41 m41 e41] := Blk.new' _ _ _ (by simp); replace M1 := M1.al (.cells #[.int .i64 0, .string { data := #[] }, .int .i64 0, .slice B41 m41 e41] 37); replace L1 := L1.al (.cells #[.int .i64 0, .string { data := #[] }, .int .i64 0, .slice B41 m41 e41] 37); replace D1 := D1.al (.cells #[.int .i64 0, .string { data := #[] }, .int .i64 0, .slice B41 m41 e41] 37)
  clear M0
  (try clear cD1 fD1); have cD1 := D1.cell; have fD1 := D1.frozen; (try clear cR1 fR1); have cR1 := R1.cell; have fR1 := R1.frozen
  go_wp2_with fail
  refine (HD2.out _ _ _ _ _ _ _ _ _ _ M1).mono ?_; rintro e w3 ⟨B12, m12, e12, B22, m22, e22, B32, m32, e32, B42, m42, e42, rfl, M2, L2, T2, hb2⟩; replace D1 := D1.bl hb2; replace R1 := R1.bl hb2; replace M1 := M1.bl hb2; replace q : Below w.heap.size w w3 := (by repeat (first | (with_reducible exact Below.refl _ _) | (with_reducible assumption) | (with_reducible refine Below.drew ?_) | (with_reducible refine bdrewN ?_ _) | (with_reducible refine balloc ?_ _) | ((with_reducible refine bset ?_ ?_ _); rotate_left; (focus first | exact Nat.le_refl _ | (simp; done) | (simp; omega) | omega)) | (with_reducible refine bstep ?_ (by with_reducible assumption)) | (with_reducible refine Below.trans ?_ (by with_reducible assumption)))); clear hb2
  have D2 := Blk.new w3 29 #[.int .i64 1, .string t, .int .i64 0, .slice B12 m12 e12, .slice B22 m22 e22, .slice B32 m32 e32]; replace M2 := M2.al (.cells #[.int .i64 1, .string t, .int .i64 0, .slice B12 m12 e12, .slice B22 m22 e22, .slice B32 m32 e32] 29); replace L2 := L2.al (.cells #[.int .i64 1, .string t, .int .i64 0, .slice B12 m12 e12, .slice B22 m22 e22, .slice B32 m32 e32] 29); replace D1 := D1.al (.cells #[.int .i64 1, .string t, .int .i64 0, .slice B12 m12 e12, .slice B22 m22 e22, .slice B32 m32 e32] 29); replace R1 := R1.al (.cells #[.int .i64 1, .string t, .int .i64 0, .slice B12 m12 e12, .slice B22 m22 e22, .slice B32 m32 e32] 29); replace M1 := M1.al (.cells #[.int .i64 1, .string t, .int .i64 0, .slice B12 m12 e12, .slice B22 m22 e22, .slice B32 m32 e32] 29); have R2 : Blk ((w3.alloc (.cells #[.int .i64 1, .string t, .int .i64 0, .slice B12 m12 e12, .slice B22 m22 e22, .slice B32 m32 e32] 29)).alloc (.cells #[.int .i64 0, .string t, .int .i64 0, .slice B42 m42 e42] 37)) (w3.heap.size + 1) 37 #[.int .i64 0, .string t, .int .i64 0, .slice B42 m42 e42] := Blk.new' _ _ _ (by simp); replace M2 := M2.al (.cells #[.int .i64 0, .string t, .int .i64 0, .slice B42 m42 e42] 37); replace L2 := L2.al (.cells #[.int .i64 0, .string t, .int .i64 0, .slice B42 m42 e42] 37); replace D2 := D2.al (.cells #[.int .i64 0, .string t, .int .i64 0, .slice B42 m42 e42] 37); replace D1 := D1.al (.cells #[.int .i64 0, .string t, .int .i64 0, .slice B42 m42 e42] 37); replace R1 := R1.al (.cells #[.int .i64 0, .string t, .int .i64 0, .slice B42 m42 e42] 37); replace M1 := M1.al (.cells #[.int .i64 0, .string t, .int .i64 0, .slice B42 m42 e42] 37)
  clear cD1 fD1 cR1 fR1
  (try clear cD1 fD1); have cD1 := D1.cell; have fD1 := D1.frozen; (try clear cR1 fR1); have cR1 := R1.cell; have fR1 := R1.frozen; (try clear cD2 fD2); have cD2 := D2.cell; have fD2 := D2.frozen; (try clear cR2 fR2); have cR2 := R2.cell; have fR2 := R2.frozen
  go_wp2_with fail
  refine (sameValue_eq ⟨1, t, 0, [], [], []⟩ ⟨1, t, 0, [], [], []⟩ _ _ _ _ _ _ _ _ _ _ _ _ _ _ _ _ _ _ _ M1 M2 rfl).mono ?_
  rintro e w5 ⟨rfl, hb5⟩
  go_wp2_with fail
  go_ret
  exact ⟨rfl, (by repeat (first | (with_reducible exact Below.refl _ _) | (with_reducible assumption) | (with_reducible refine Below.drew ?_) | (with_reducible refine bdrewN ?_ _) | (with_reducible refine balloc ?_ _) | ((with_reducible refine bset ?_ ?_ _); rotate_left; (focus first | exact Nat.le_refl _ | (simp; done) | (simp; omega) | omega)) | (with_reducible refine bstep ?_ (by with_reducible assumption)) | (with_reducible refine Below.trans ?_ (by with_reducible assumption))))⟩
set_option maxRecDepth 100000 in
theorem putGet_lifted (os : Os) (started : os.Started) (H : Type) (enc : TypeId × Value → H) :
  ReturnsInHanded {} Try.checked os 4 .any (Rows.putGetSpec.pre6 enc Try.prog Try.f4 Rows.putGetRow.domain false) (Rows.putGetSpec.post enc Try.prog Try.f4 false true false false) := by
  refine returnsInHanded_of_change (C := Try.checked) Try.own started (by kernel_rfl) Try.func4 (ChangeSpec.witness6 (enc := enc) (C := Try.checked) false ⟨#[], #[.int .i64 0, .slice none 0 0, .string ByteArray.empty], []⟩ 8 (by kernel_rfl) (by kernel_rfl) (by kernel_rfl) (by kernel_rfl)) ?_
  intro W base args ds gs before hval0 hW hcnd _
  have hval : ∀ (j : Nat) t v, Try.f4.params[j]? = some t → args[j]? = some v → Value.okWide Try.prog W .any base t v := hval0
  have hW' := hW
  obtain ⟨p, q, hA0, hV, rfl, hfz, hnd⟩ := hW
  have hA : DataW.TrodAll enc Try.prog W 0 (fun _ => true) true Try.f4.params.toList args.toList ds p := hA0
  rw [Try.params4] at hA hval
  obtain ⟨rfl, rfl⟩ := trodVars_none hV
  clear hA0 hval0 hcnd hV hfz hnd
  obtain ⟨v0, v1, v2, d0, d1, d2, p0, p1, p2, rfl, rfl, rfl, h0, h1, h2⟩ := trodAll_three hA
  obtain ⟨k, rfl, rfl, rfl, w1⟩ := open_int Try.underlying3 (hval 0 3 v0 rfl rfl) h0
  obtain ⟨A, n, c, l, rfl, hd, hS⟩ := open_raws (hval 1 22 v1 rfl rfl) h1
  obtain ⟨s, rfl, rfl, rfl, hs⟩ := Go.ChangeMaps.open_string Try.underlying9 (hval 2 9 v2 rfl rfl) h2
  refine (putGet_walk k A n c l s W hS hd (i64_bounds w1) hs).mono fun e W' ⟨he, hb⟩ => ?_
  subst he
  exact ⟨_, rfl, post_law Try.laidOut hW' rfl (by kernel_rfl) rfl Try.underlying4 (fun _ => rfl) (fun _ => rfl) (fun _ => rfl) hb⟩
theorem putGet_holds : Rows.PutGetSaid := OpenClaim.holds_of_wide 4 Try.f4 rfl rfl rfl rfl rfl rfl rfl ⟨rfl, rfl, rfl, rfl, rfl⟩ rfl rfl rfl rfl rfl (by kernel_rfl) Try.func4 (by kernel_rfl)
  (of_decide_eq_true (by kernel_rfl)) (by unfold Func.isWrapper; first | (rw [if_pos (by decide +kernel)]; kernel_rfl) | (rw [if_neg (by decide +kernel)]; exact ⟨rfl, rfl⟩))
  (fun os started H enc _ => putGet_lifted os started H enc)
#print axioms putGet_holds
end Go.Proofs.Ytcelcanfdalliaa
