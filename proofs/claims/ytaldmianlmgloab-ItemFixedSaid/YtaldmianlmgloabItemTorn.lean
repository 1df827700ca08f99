/- rostrumkeep.ItemTorn returns true for every input and leaves its arguments as they were; no condition. -/
import Derived.Test.YtaldmianlmgloabDecP2
import Derived.Test.YtaldmianlmgloabPushes
namespace Go.Proofs.Ytaldmianlmgloab
set_option linter.all false
open Go.ChangeShapes Go.WideShapes Go.ChangeAt Go.RowKit Go.Lib
theorem item_len {x : Itm} (h : checkItem x = 0) : (itemBytes x).length ≤ 140 := by
  have := callBytes_length (client := x.client) (seq := x.seq) (item_fits h).cmd
  unfold itemBytes
  split <;> simp only [List.length_append, num8_length, List.length_singleton] <;> omega
set_option maxHeartbeats 4000000 in
theorem itemTorn_walk (a : DeedD) (t at_ : Int) (w : World) (ha : a.ok) (ht : I64 t) (hat : I64 at_) :
    Calls Try.prog 11 #[.agg a.cells.toArray, .int .i64 t, .int .i64 at_] w fun e w' => e = .returned (.bool true) ∧ Below w.heap.size w w' := by
  have hX := fun w => Item_any a ha t 5 w ht ⟨by omega, by omega⟩
  have kx := check_itemOf a t 5
  generalize itemOf a t 5 = x at hX kx
  have hE := fun w => EncodeItem_ok x w kx
  have hpos := itemBytes_pos x
  have hlen := item_len kx
  have ux := u8s_item kx
  have r1 := picked_lo at_ (itemBytes x).length (by omega)
  have r2 := picked_hi at_ (itemBytes x).length (by omega)
  have hR := fun w => picked_any at_ (itemBytes x).length w hat.1 hat.2 (by omega) (by omega)
  obtain ⟨k, hk⟩ := Int.eq_ofNat_of_zero_le r1
  rw [hk] at hR r2
  have hkl : k < (itemBytes x).length := by omega
  have hD := fun A n c w (h : Sl w 1 A n c (byteRows ((itemBytes x).take k))) => DecodeItem_any A n c ((itemBytes x).take k) w h (ux.take k) (by rw [List.length_take]; omega)
  rw [item_torn kx hkl] at hD
  generalize itemBytes x = bs at hE hpos hlen hR r2 hkl hD
  simp only [Itm.cells, DeedD.cells] at hX
  unfold DecPost DecV at hD
  simp only [zeroItm] at hD
  have HX := hide hX; have HE := hide hE; have HR := hide hR; have HD := hide hD
  clear hX hE hR hD kx ha hk r1 ux
  obtain ⟨a1, a2, a3, ⟨a4, a5, a6, a7, a8⟩⟩ := a
  simp only [DeedD.cells] at *
  go_enter Try.func11, Try.ntmps11
  go_wp2_with fail
  refine (HX.out _).mono ?_
  rintro e w1 ⟨rfl, hb1⟩
  go_wp2_with fail
  refine (HE.out _).mono ?_
  rintro e w2 ⟨A, n, c, rfl, hown, hb2⟩
  have hsl := hown.sl'
  obtain rfl : bs.length = n := by rw [← hsl.len, byteRows_length]
  have hnc := hsl.nc
  have hif : (if (bs.length : Int) < 1 then (1 : Int) else (bs.length : Int)) = (bs.length : Int) := if_neg (by omega)
  have s1 := fun w => run_take Try.underlying57 u8_size A bs.length c k (by omega) w
  have hsk := hsl.take k (by omega) c (by omega) (Nat.le_refl _)
  rw [byteRows_take] at hsk
  go_wp2_with fail
  refine (HR.out _).mono ?_
  rintro e w' ⟨rfl, rfl⟩
  go_wp2_with fail
  refine (HD.out _ _ _ _ hsk).mono ?_
  rintro e w3 ⟨rfl, hb3⟩
  go_wp2_with fail
  go_ret
  exact ⟨rfl, (by repeat (first | (with_reducible exact Below.refl _ _) | (with_reducible assumption) | (with_reducible refine Below.drew ?_) | (with_reducible refine bdrewN ?_ _) | (with_reducible refine balloc ?_ _) | ((with_reducible refine bset ?_ ?_ _); rotate_left; (focus first | exact Nat.le_refl _ | (simp; done) | (simp; omega) | omega)) | (with_reducible refine bstep ?_ (by with_reducible assumption)) | (with_reducible refine Below.trans ?_ (by with_reducible assumption))))⟩
set_option maxRecDepth 100000 in
theorem itemTorn_lifted (os : Os) (started : os.Started) (H : Type) (enc : TypeId × Value → H) :
  ReturnsInHanded {} Try.checked os 11 .any (Rows.itemTornSpec.pre6 enc Try.prog Try.f11 Rows.itemTornRow.domain false) (Rows.itemTornSpec.post enc Try.prog Try.f11 false true false false) := by
  refine returnsInHanded_of_change (C := Try.checked) Try.own started (by kernel_rfl) Try.func11 (ChangeSpec.witness6 (enc := enc) (C := Try.checked) false ⟨#[], #[.agg #[.int .i64 0, .int .i64 0, .int .i64 0, .int .i64 0, .int .i64 0, .int .i64 0, .int .i64 0, .string ByteArray.empty], .int .i64 0, .int .i64 0], []⟩ 8 (by kernel_rfl) (by kernel_rfl) (by kernel_rfl) (by kernel_rfl)) ?_
  intro W base args ds gs before hval0 hW hcnd _
  have hval : ∀ (j : Nat) t v, Try.f11.params[j]? = some t → args[j]? = some v → Value.okWide Try.prog W .any base t v := hval0
  have hW' := hW
  obtain ⟨p, q, hA0, hV, rfl, hfz, hnd⟩ := hW
  have hA : DataW.TrodAll enc Try.prog W 0 (fun _ => true) true Try.f11.params.toList args.toList ds p := hA0
  rw [Try.params11] at hA hval
  obtain ⟨rfl, rfl⟩ := trodVars_none hV
  clear hA0 hval0 hcnd hV hfz hnd
  obtain ⟨v0, v1, v2, d0, d1, d2, p0, p1, p2, rfl, rfl, rfl, h0, h1, h2⟩ := trodAll_three hA
  obtain ⟨a, rfl, ha⟩ := open_deed (hval 0 46 v0 rfl rfl) h0
  obtain ⟨m1, rfl, rfl, rfl, w1⟩ := open_int Try.underlying3 (hval 1 3 v1 rfl rfl) h1
  obtain ⟨m2, rfl, rfl, rfl, w2⟩ := open_int Try.underlying3 (hval 2 3 v2 rfl rfl) h2
  refine (itemTorn_walk a m1 m2 W ha (i64_bounds w1) (i64_bounds w2)).mono fun e W' ⟨he, hb⟩ => ?_
  subst he
  exact ⟨_, rfl, post_law Try.laidOut hW' rfl (by kernel_rfl) rfl Try.underlying4 (fun _ => rfl) (fun _ => rfl) (fun _ => rfl) hb⟩
theorem itemTorn_holds : Rows.ItemTornSaid := OpenClaim.holds_of_wide 11 Try.f11 rfl rfl rfl rfl rfl rfl rfl ⟨rfl, rfl, rfl, rfl, rfl⟩ rfl rfl rfl rfl rfl (by kernel_rfl) Try.func11 (by kernel_rfl)
  (of_decide_eq_true (by kernel_rfl)) (by unfold Func.isWrapper; first | (rw [if_pos (by decide +kernel)]; kernel_rfl) | (rw [if_neg (by decide +kernel)]; exact ⟨rfl, rfl⟩))
  (fun os started H enc _ => itemTorn_lifted os started H enc)
#print axioms itemTorn_holds
end Go.Proofs.Ytaldmianlmgloab
