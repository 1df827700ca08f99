/- rostrumkeep.LenAll returns true for every input and leaves its arguments as they were; no condition. -/
import Derived.Test.YtcelcanfdalliaaValLaw
import Derived.Test.YtcelcanfdalliaaDonQ
namespace Go.Proofs.Ytcelcanfdalliaa
set_option linter.all false
open Go.ChangeShapes Go.WideShapes Go.ChangeAt Go.RowKit
set_option maxRecDepth 100000 in
set_option maxHeartbeats 8000000 in
theorem lenAll_walk (kind : Int) (A : Option Addr) (n c : Nat) (l : List RawD) (w : World) (hS : Sl w 5 A n c (rawRows l)) (hd : ∀ d ∈ l, d.ok) (hk : I64 kind) (hz : (n + 1) * 48 ≤ 140737488355328) :
    Calls Try.prog 15 #[.int .i64 kind, .slice A n c] w fun e w' => e = .returned (.bool true) ∧ Below w.heap.size w w' := by
  have p1 := picked_lo kind 4 (by omega)
  have p2 := picked_hi kind 4 (by omega)
  have hR := fun w => picked_any kind 4 w hk.1 hk.2 (by omega) (by omega)
  generalize picked kind 4 = p at *
  have hF := fun w h => full_any (2 + p) A n c l w h hd ⟨by omega, by omega⟩ hz
  obtain ⟨hG, hGk⟩ := fullOf_good (2 + p) l
  rw [kindV_two p1 p2] at hGk
  generalize fullOf (2 + p) l = V at *
  have c1 : ccOf ⟨17, { data := #[107] }, { data := #[] }, { data := #[] }, 0⟩ = 0 := cc_lit (by omega) (by omega) (by rw [if_neg (by decide)]; rfl) (by rw [if_neg (by decide)]; rfl) (by rw [if_neg (by decide)])
  have c2 : ccOf ⟨18, { data := #[107] }, { data := #[] }, { data := #[] }, 0⟩ = 0 := cc_lit (by omega) (by omega) (by rw [if_neg (by decide)]; rfl) (by rw [if_neg (by decide)]; rfl) (by rw [if_neg (by decide)])
  have hD1 := fun A1 A2 A3 n1 c1 n2 c2 n3 c3 w h => Do_may V ⟨17, { data := #[107] }, { data := #[] }, { data := #[] }, 0⟩ (.inr hG) A1 A2 A3 n1 c1 n2 c2 n3 c3 w h
  have hD2 := fun A1 A2 A3 n1 c1 n2 c2 n3 c3 w h => Do_may V ⟨18, { data := #[107] }, { data := #[] }, { data := #[] }, 0⟩ (.inr hG) A1 A2 A3 n1 c1 n2 c2 n3 c3 w h
  rw [done_len hG (by omega) c1 rfl] at hD1
  rw [done_all hG (by omega) c2 rfl] at hD2
  have hsz := good_size hG (by omega)
  have hal := allOf_length V
  generalize allOf V = al at *
  generalize V.size = sz at *
  obtain ⟨vk, vt, vc, ps, is_, ss⟩ := V
  simp only [toldR, emp] at hD1 hD2
  have hw : IntKind.i64.wrap (2 + p) = 2 + p := IntWalk.i64_in _ (by omega)
  have hpos : (0 : Int) < (sz : Int) := by omega
  have HF := hide hF; have HR := hide hR; have HD1 := hide hD1; have HD2 := hide hD2; have HAL := hide hal
  clear hF hR hD1 hD2 hG hGk c1 c2 hd hal
  go_enter Try.func15, Try.ntmps15
  go_wp2_with fail
  refine (HR.out _).mono ?_
  rintro e w' ⟨rfl, rfl⟩
  go_wp2_with fail
  refine (HF.out _ hS).mono ?_; rintro e w1 ⟨B10, m10, e10, B20, m20, e20, B30, m30, e30, rfl, M0, T0, hb0⟩; skip; have q : Below w.heap.size w w1 := (by repeat (first | (with_reducible exact Below.refl _ _) | (with_reducible assumption) | (with_reducible refine Below.drew ?_) | (with_reducible refine bdrewN ?_ _) | (with_reducible refine balloc ?_ _) | ((with_reducible refine bset ?_ ?_ _); rotate_left; (focus first | exact Nat.le_refl _ | (simp; done) | (simp; omega) | omega)) | (with_reducible refine bstep ?_ (by with_reducible assumption)) | (with_reducible refine Below.trans ?_ (by with_reducible assumption)))); clear hb0 T0
  have D0 := Blk.new w1 29 #[.int .i64 vk, .string vt, .int .i64 vc, .slice B10 m10 e10, .slice B20 m20 e20, .slice B30 m30 e30]; replace M0 := M0.al (.cells #[.int .i64 vk, .string vt, .int .i64 vc, .slice B10 m10 e10, .slice B20 m20 e20, .slice B30 m30 e30] 29)
  (try clear cD0 fD0); have cD0 := D0.cell; have fD0 := D0.frozen
  go_wp2_with fail
  refine (HD1.out _ _ _ _ _ _ _ _ _ _ M0).mono ?_; rintro e w2 ⟨B11, m11, e11, B21, m21, e21, B31, m31, e31, B41, m41, e41, rfl, M1, L1, T1, hb1⟩; replace D0 := D0.bl hb1; replace M0 := M0.bl hb1; replace q : Below w.heap.size w w2 := (by repeat (first | (with_reducible exact Below.refl _ _) | (with_reducible assumption) | (with_reducible refine Below.drew ?_) | (with_reducible refine bdrewN ?_ _) | (with_reducible refine balloc ?_ _) | ((with_reducible refine bset ?_ ?_ _); rotate_left; (focus first | exact Nat.le_refl _ | (simp; done) | (simp; omega) | omega)) | (with_reducible refine bstep ?_ (by with_reducible assumption)) | (with_reducible refine Below.trans ?_ (by with_reducible assumption)))); clear hb1
  have D1 := Blk.new w2 29 #[.int .i64 vk, .string vt, .int .i64 vc, .slice B11 m11 e11, .slice B21 m21 e21, .slice B31 m31 e31]; replace M1 := M1.al (.cells #[.int .i64 vk, .string vt, .int .i64 vc, .slice B11 m11 e11, .slice B21 m21 e21, .slice B31 m31 e31] 29); replace L1 := L1.al (.cells #[.int .i64 vk, .string vt, .int .i64 vc, .slice B11 m11 e11, .slice B21 m21 e21, .slice B31 m31 e31] 29); replace D0 := D0.al (.cells #[.int .i64 vk, .string vt, .int .i64 vc, .slice B11 m11 e11, .slice B21 m21 e21, .slice B31 m31 e31] 29); replace M0 := M0.al (.cells #[.int .i64 vk, .string vt, .int .i64 vc, .slice B11 m11 e11, .slice B21 m21 e21, .slice B31 m31 e31] 29); have R1 : Blk ((w2.alloc (.cells #[.int .i64 vk, .string vt, .int .i64 vc, .slice B11 m11 e11, .slice B21 m21 e21, .slice B31 m31 e31] 29)).alloc (.cells #[.int .i64 0, .string { data := #[] }, .int .i64 (sz : Int), .slice B41 m41 e41] 37)) (w2.heap.size + 1) 37 #[.int .i64 0, .string { data := #[] }, .int .i64 (sz : Int), .slice B41 m41 e41] := Blk.new' _ _ _ (by simp); replace M1 := M1.al (.cells #[.int .i64 0, .string { data := #[] }, .int .i64 (sz : Int), .slice B41 m41 e41] 37); replace L1 := L1.al (.cells #[.int .i64 0, .string { data := #[] }, .int .i64 (sz : Int), .slice B41 m41 e41] 37); replace D1 := D1.al (.cells #[.int .i64 0, .string { data := #[] }, .int .i64 (sz : Int), .slice B41 m41 e41] 37); replace D0 := D0.al (.cells #[.int .i64 0, .string { data := #[] }, .int .i64 (sz : Int), .slice B41 m41 e41] 37); replace M0 := M0.al (.cells #[.int .i64 0, .string { data := #[] }, .int .i64 (sz : Int), .slice B41 m41 e41] 37)
  clear cD0 fD0
  (try clear cD0 fD0); have cD0 := D0.cell; have fD0 := D0.frozen
  go_wp2_with fail
  refine (HD2.out _ _ _ _ _ _ _ _ _ _ M0).mono ?_; rintro e w3 ⟨B12, m12, e12, B22, m22, e22, B32, m32, e32, B42, m42, e42, rfl, M2, L2, T2, hb2⟩; replace D0 := D0.bl hb2; replace M0 := M0.bl hb2; replace M1 := M1.bl hb2; replace D1 := D1.bl hb2; replace R1 := R1.bl hb2; replace q : Below w.heap.size w w3 := (by repeat (first | (with_reducible exact Below.refl _ _) | (with_reducible assumption) | (with_reducible refine Below.drew ?_) | (with_reducible refine bdrewN ?_ _) | (with_reducible refine balloc ?_ _) | ((with_reducible refine bset ?_ ?_ _); rotate_left; (focus first | exact Nat.le_refl _ | (simp; done) | (simp; omega) | omega)) | (with_reducible refine bstep ?_ (by with_reducible assumption)) | (with_reducible refine Below.trans ?_ (by with_reducible assumption)))); clear hb2
  have D2 := Blk.new w3 29 #[.int .i64 vk, .string vt, .int .i64 vc, .slice B12 m12 e12, .slice B22 m22 e22, .slice B32 m32 e32]; replace M2 := M2.al (.cells #[.int .i64 vk, .string vt, .int .i64 vc, .slice B12 m12 e12, .slice B22 m22 e22, .slice B32 m32 e32] 29); replace L2 := L2.al (.cells #[.int .i64 vk, .string vt, .int .i64 vc, .slice B12 m12 e12, .slice B22 m22 e22, .slice B32 m32 e32] 29); replace D0 := D0.al (.cells #[.int .i64 vk, .string vt, .int .i64 vc, .slice B12 m12 e12, .slice B22 m22 e22, .slice B32 m32 e32] 29); replace M0 := M0.al (.cells #[.int .i64 vk, .string vt, .int .i64 vc, .slice B12 m12 e12, .slice B22 m22 e22, .slice B32 m32 e32] 29); replace M1 := M1.al (.cells #[.int .i64 vk, .string vt, .int .i64 vc, .slice B12 m12 e12, .slice B22 m22 e22, .slice B32 m32 e32] 29); replace D1 := D1.al (.cells #[.int .i64 vk, .string vt, .int .i64 vc, .slice B12 m12 e12, .slice B22 m22 e22, .slice B32 m32 e32] 29); replace R1 := R1.al (.cells #[.int .i64 vk, .string vt, .int .i64 vc, .slice B12 m12 e12, .slice B22 m22 e22, .slice B32 m32 e32] 29); have R2 : Blk ((w3.alloc (.cells #[.int .i64 vk, .string vt, .int .i64 vc, .slice B12 m12 e12, .slice B22 m22 e22, .slice B32 m32 e32] 29)).alloc (.cells #[.int .i64 0, .string { data := #[] }, .int .i64 0, .slice B42 m42 e42] 37)) (w3.heap.size + 1) 37 #[.int .i64 0, .string { data := #[] }, .int .i64 0, .slice B42 m42 e42] := Blk.new' _ _ _ (by simp); replace M2 := M2.al (.cells #[.int .i64 0, .string { data := #[] }, .int .i64 0, .slice B42 m42 e42] 37); replace L2 := L2.al (.cells #[.int .i64 0, .string { data := #[] }, .int .i64 0, .slice B42 m42 e42] 37); replace D2 := D2.al (.cells #[.int .i64 0, .string { data := #[] }, .int .i64 0, .slice B42 m42 e42] 37); replace D0 := D0.al (.cells #[.int .i64 0, .string { data := #[] }, .int .i64 0, .slice B42 m42 e42] 37); replace M0 := M0.al (.cells #[.int .i64 0, .string { data := #[] }, .int .i64 0, .slice B42 m42 e42] 37); replace M1 := M1.al (.cells #[.int .i64 0, .string { data := #[] }, .int .i64 0, .slice B42 m42 e42] 37); replace D1 := D1.al (.cells #[.int .i64 0, .string { data := #[] }, .int .i64 0, .slice B42 m42 e42] 37); replace R1 := R1.al (.cells #[.int .i64 0, .string { data := #[] }, .int .i64 0, .slice B42 m42 e42] 37)
  clear cD0 fD0
  have hlen : m42 = sz := by have := L2.len; rw [← HAL.out]; simpa [strRows] using this.symm
  subst hlen
  (try clear cD0 fD0); have cD0 := D0.cell; have fD0 := D0.frozen; (try clear cD1 fD1); have cD1 := D1.cell; have fD1 := D1.frozen; (try clear cR1 fR1); have cR1 := R1.cell; have fR1 := R1.frozen; (try clear cD2 fD2); have cD2 := D2.cell; have fD2 := D2.frozen; (try clear cR2 fR2); have cR2 := R2.cell; have fR2 := R2.frozen
  go_wp2_with fail
  refine (sameValue_eq ⟨vk, vt, vc, ps, is_, ss⟩ ⟨vk, vt, vc, ps, is_, ss⟩ _ _ _ _ _ _ _ _ _ _ _ _ _ _ _ _ _ _ _ M0 M1 rfl).mono ?_
  rintro e w5 ⟨rfl, hb5⟩
  replace D0 := D0.bl hb5; replace D2 := D2.bl hb5; replace M0 := M0.bl hb5; replace M2 := M2.bl hb5
  clear cD0 fD0 cD1 fD1 cR1 fR1 cD2 fD2 cR2 fR2
  (try clear cD0 fD0); have cD0 := D0.cell; have fD0 := D0.frozen; (try clear cD2 fD2); have cD2 := D2.cell; have fD2 := D2.frozen
  go_wp2_with fail
  refine (sameValue_eq ⟨vk, vt, vc, ps, is_, ss⟩ ⟨vk, vt, vc, ps, is_, ss⟩ _ _ _ _ _ _ _ _ _ _ _ _ _ _ _ _ _ _ _ M0 M2 rfl).mono ?_
  rintro e w6 ⟨rfl, hb6⟩
  go_wp2_with fail
  go_ret
  exact ⟨rfl, (by repeat (first | (with_reducible exact Below.refl _ _) | (with_reducible assumption) | (with_reducible refine Below.drew ?_) | (with_reducible refine bdrewN ?_ _) | (with_reducible refine balloc ?_ _) | ((with_reducible refine bset ?_ ?_ _); rotate_left; (focus first | exact Nat.le_refl _ | (simp; done) | (simp; omega) | omega)) | (with_reducible refine bstep ?_ (by with_reducible assumption)) | (with_reducible refine Below.trans ?_ (by with_reducible assumption))))⟩
set_option maxRecDepth 100000 in
theorem lenAll_lifted (os : Os) (started : os.Started) (H : Type) (enc : TypeId × Value → H) :
  ReturnsInHanded {} Try.checked os 15 .any (Rows.lenAllSpec.pre6 enc Try.prog Try.f15 Rows.lenAllRow.domain false) (Rows.lenAllSpec.post enc Try.prog Try.f15 false true false false) := by
  refine returnsInHanded_of_change_sized (C := Try.checked) Try.own started (by kernel_rfl) Try.func15 (ChangeSpec.witness6 (enc := enc) (C := Try.checked) false ⟨#[], #[.int .i64 0, .slice none 0 0], []⟩ 8 (by kernel_rfl) (by kernel_rfl) (by kernel_rfl) (by kernel_rfl)) ?_
  intro W base args ds gs before hval0 hW hcnd hsz0 _
  have hsz : (DataW.weightsEach Try.prog (Try.f15.params.toList ++ Rows.lenAllSpec.plain.varTypes Try.prog) (ds ++ gs)).all (· ≤ reachBytes) = true := hsz0
  clear hsz0
  have hval : ∀ (j : Nat) t v, Try.f15.params[j]? = some t → args[j]? = some v → Value.okWide Try.prog W .any base t v := hval0
  have hW' := hW
  obtain ⟨p, q, hA0, hV, rfl, hfz, hnd⟩ := hW
  have hA : DataW.TrodAll enc Try.prog W 0 (fun _ => true) true Try.f15.params.toList args.toList ds p := hA0
  rw [Try.params15] at hA hval hsz
  obtain ⟨rfl, rfl⟩ := trodVars_none hV
  clear hA0 hval0 hcnd hV hfz hnd
  obtain ⟨v0, v1, d0, d1, p0, p1, rfl, rfl, rfl, h0, h1⟩ := trodAll_two hA
  obtain ⟨k, rfl, rfl, rfl, w1⟩ := open_int Try.underlying3 (hval 0 3 v0 rfl rfl) h0
  obtain ⟨A, n, c, l, rfl, hd, hS⟩ := open_raws (hval 1 22 v1 rfl rfl) h1
  refine (lenAll_walk k A n c l W hS hd (i64_bounds w1) (raw_reach (j := 1) h1 hsz rfl rfl)).mono fun e W' ⟨he, hb⟩ => ?_
  subst he
  exact ⟨_, rfl, post_law Try.laidOut hW' rfl (by kernel_rfl) rfl Try.underlying4 (fun _ => rfl) (fun _ => rfl) (fun _ => rfl) hb⟩
theorem lenAll_holds : Rows.LenAllSaid := OpenClaim.holds_of_wide 15 Try.f15 rfl rfl rfl rfl rfl rfl rfl ⟨rfl, rfl, rfl, rfl, rfl⟩ rfl rfl rfl rfl rfl (by kernel_rfl) Try.func15 (by kernel_rfl)
  (of_decide_eq_true (by kernel_rfl)) (by unfold Func.isWrapper; first | (rw [if_pos (by decide +kernel)]; kernel_rfl) | (rw [if_neg (by decide +kernel)]; exact ⟨rfl, rfl⟩))
  (fun os started H enc _ => lenAll_lifted os started H enc)
#print axioms lenAll_holds
end Go.Proofs.Ytcelcanfdalliaa
