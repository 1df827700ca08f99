/- rostrumkeep.ItemBad returns true for every input and leaves its arguments as they were; no condition. -/
import Derived.Test.YtaldmianlmgloaaLawItems
namespace Go.Proofs.Ytaldmianlmgloaa
set_option linter.all false
open Go.ChangeShapes Go.WideShapes Go.ChangeAt Go.RowKit
theorem bad_item0 {x : Itm} (h : checkItem x = 0) : checkItem { x with term := 0 } = 2 := by
  unfold checkItem; rw [if_pos (by simp)]
theorem bad_item1 {x : Itm} (h : checkItem x = 0) : checkItem { x with time := -1 } = 2 := by
  unfold checkItem; rw [if_pos (by simp)]
theorem bad_item2 {x : Itm} (h : checkItem x = 0) : checkItem { x with time := 1073741825 } = 2 := by
  unfold checkItem; rw [if_pos (by simp)]
theorem bad_item3 {x : Itm} (h : checkItem x = 0) : checkItem { x with nop := true, client := 0, seq := 1, cmd := zeroCmd } = 8 := by
  have h1 := checkItem_ok h
  unfold checkItem; rw [if_neg (by simp only; omega)]
  simp [Itm.zero, zeroCall]
set_option maxHeartbeats 4000000 in
theorem itemBad_walk (a : DeedD) (which : Int) (w : World) (ha : a.ok) (hu : I64 which) :
    Calls Try.prog 9 #[.agg a.cells.toArray, .int .i64 which] w fun e w' => e = .returned (.bool true) ∧ Below w.heap.size w w' := by
  have hX := fun w => Item_any a ha 3 3 w ⟨by omega, by omega⟩ ⟨by omega, by omega⟩
  have kx := check_itemOf a 3 3
  generalize itemOf a 3 3 = x at hX kx
  have hCx := fun w => CheckItem_any x w
  rw [kx] at hCx
  have HCx := hide hCx; clear hCx
  obtain ⟨a1, a2, a3, ⟨a4, a5, a6, a7, a8⟩⟩ := a
  simp only [DeedD.cells] at *
  have hP := fun w => picked_any which 4 w hu.1 hu.2 (by omega) (by omega)
  have p1 := picked_lo which 4 (by omega)
  have p2 := picked_hi which 4 (by omega)
  have hp : picked which 4 = 0 ∨ picked which 4 = 1 ∨ picked which 4 = 2 ∨ picked which 4 = 3 := by omega
  clear p1 p2 ha hu
  generalize picked which 4 = p at hP hp
  have HP := hide hP; clear hP
  rcases hp with rfl | rfl | rfl | rfl
  · have kb : checkItem { x with term := 0 } = 2 := bad_item0 kx
    have hC := fun w => CheckItem_any { x with term := 0 } w
    have hE := fun w => EncodeItem_bad { x with term := 0 } w (by rw [kb]; decide)
    rw [kb] at hC hE
    try simp only at hC hE
    have HC := hide hC; have HE := hide hE
    clear hC hE kb kx
    simp only [Itm.cells] at hX
    have HX := hide hX; clear hX
    go_enter Try.func9, Try.ntmps9
    go_wp2_with fail
    refine (HX.out _).mono ?_
    rintro e w1 ⟨rfl, hb1⟩
    have hz1 : w.heap.size ≤ w1.heap.size := by have := hb1.size; simp at this; omega
    have X1 := Blk.new w1 48 #[.int .i64 x.term, .int .i64 x.time, .bool x.nop, .int .i64 x.client, .int .i64 x.seq, .int .i64 x.cmd.kind, .string x.cmd.key, .string x.cmd.field, .string x.cmd.text, .int .i64 x.cmd.n]
    go_wp2_with fail
    refine (HCx.out _).mono ?_
    rintro e w2 ⟨rfl, hb2⟩
    replace X1 := X1.bl hb2
    (try clear cX1 fX1); have cX1 := X1.cell; have fX1 := X1.frozen
    go_wp2_with fail
    refine (HP.out _).mono ?_
    rintro e w' ⟨rfl, rfl⟩
    have X2 : Blk _ _ _ _ := (X1.set' (i := 0) (u := .int .i64 0) (cs' := #[.int .i64 0, .int .i64 x.time, .bool x.nop, .int .i64 x.client, .int .i64 x.seq, .int .i64 x.cmd.kind, .string x.cmd.key, .string x.cmd.field, .string x.cmd.text, .int .i64 x.cmd.n]) rfl)
    (try clear cX2 fX2); have cX2 := X2.cell; have fX2 := X2.frozen
    go_wp2_with fail
    refine (HE.out _).mono ?_
    rintro e w3 ⟨rfl, hb3⟩
    replace X2 := X2.bl hb3
    (try clear cX2 fX2); have cX2 := X2.cell; have fX2 := X2.frozen
    go_wp2_with fail
    refine (HC.out _).mono ?_
    rintro e w4 ⟨rfl, hb4⟩
    go_wp2_with fail
    go_ret
    exact ⟨rfl, (by repeat (first | (with_reducible exact Below.refl _ _) | (with_reducible assumption) | (with_reducible refine Below.drew ?_) | (with_reducible refine bdrewN ?_ _) | (with_reducible refine balloc ?_ _) | ((with_reducible refine bset ?_ ?_ _); rotate_left; (focus first | exact Nat.le_refl _ | (simp; done) | (simp; omega) | omega)) | (with_reducible refine bstep ?_ (by with_reducible assumption)) | (with_reducible refine Below.trans ?_ (by with_reducible assumption))))⟩
  · have kb : checkItem { x with time := -1 } = 2 := bad_item1 kx
    have hC := fun w => CheckItem_any { x with time := -1 } w
    have hE := fun w => EncodeItem_bad { x with time := -1 } w (by rw [kb]; decide)
    rw [kb] at hC hE
    try simp only at hC hE
    have HC := hide hC; have HE := hide hE
    clear hC hE kb kx
    simp only [Itm.cells] at hX
    have HX := hide hX; clear hX
    go_enter Try.func9, Try.ntmps9
    go_wp2_with fail
    refine (HX.out _).mono ?_
    rintro e w1 ⟨rfl, hb1⟩
    have hz1 : w.heap.size ≤ w1.heap.size := by have := hb1.size; simp at this; omega
    have X1 := Blk.new w1 48 #[.int .i64 x.term, .int .i64 x.time, .bool x.nop, .int .i64 x.client, .int .i64 x.seq, .int .i64 x.cmd.kind, .string x.cmd.key, .string x.cmd.field, .string x.cmd.text, .int .i64 x.cmd.n]
    go_wp2_with fail
    refine (HCx.out _).mono ?_
    rintro e w2 ⟨rfl, hb2⟩
    replace X1 := X1.bl hb2
    (try clear cX1 fX1); have cX1 := X1.cell; have fX1 := X1.frozen
    go_wp2_with fail
    refine (HP.out _).mono ?_
    rintro e w' ⟨rfl, rfl⟩
    have X2 : Blk _ _ _ _ := (X1.set' (i := 1) (u := .int .i64 (-1)) (cs' := #[.int .i64 x.term, .int .i64 (-1), .bool x.nop, .int .i64 x.client, .int .i64 x.seq, .int .i64 x.cmd.kind, .string x.cmd.key, .string x.cmd.field, .string x.cmd.text, .int .i64 x.cmd.n]) rfl)
    (try clear cX2 fX2); have cX2 := X2.cell; have fX2 := X2.frozen
    go_wp2_with fail
    refine (HE.out _).mono ?_
    rintro e w3 ⟨rfl, hb3⟩
    replace X2 := X2.bl hb3
    (try clear cX2 fX2); have cX2 := X2.cell; have fX2 := X2.frozen
    go_wp2_with fail
    refine (HC.out _).mono ?_
    rintro e w4 ⟨rfl, hb4⟩
    go_wp2_with fail
    go_ret
    exact ⟨rfl, (by repeat (first | (with_reducible exact Below.refl _ _) | (with_reducible assumption) | (with_reducible refine Below.drew ?_) | (with_reducible refine bdrewN ?_ _) | (with_reducible refine balloc ?_ _) | ((with_reducible refine bset ?_ ?_ _); rotate_left; (focus first | exact Nat.le_refl _ | (simp; done) | (simp; omega) | omega)) | (with_reducible refine bstep ?_ (by with_reducible assumption)) | (with_reducible refine Below.trans ?_ (by with_reducible assumption))))⟩
  · have kb : checkItem { x with time := 1073741825 } = 2 := bad_item2 kx
    have hC := fun w => CheckItem_any { x with time := 1073741825 } w
    have hE := fun w => EncodeItem_bad { x with time := 1073741825 } w (by rw [kb]; decide)
    rw [kb] at hC hE
    try simp only at hC hE
    have HC := hide hC; have HE := hide hE
    clear hC hE kb kx
    simp only [Itm.cells] at hX
    have HX := hide hX; clear hX
    go_enter Try.func9, Try.ntmps9
    go_wp2_with fail
    refine (HX.out _).mono ?_
    rintro e w1 ⟨rfl, hb1⟩
    have hz1 : w.heap.size ≤ w1.heap.size := by have := hb1.size; simp at this; omega
    have X1 := Blk.new w1 48 #[.int .i64 x.term, .int .i64 x.time, .bool x.nop, .int .i64 x.client, .int .i64 x.seq, .int .i64 x.cmd.kind, .string x.cmd.key, .string x.cmd.field, .string x.cmd.text, .int .i64 x.cmd.n]
    go_wp2_with fail
    refine (HCx.out _).mono ?_
    rintro e w2 ⟨rfl, hb2⟩
    replace X1 := X1.bl hb2
    (try clear cX1 fX1); have cX1 := X1.cell; have fX1 := X1.frozen
    go_wp2_with fail
    refine (HP.out _).mono ?_
    rintro e w' ⟨rfl, rfl⟩
    have X2 : Blk _ _ _ _ := (X1.set' (i := 1) (u := .int .i64 1073741825) (cs' := #[.int .i64 x.term, .int .i64 1073741825, .bool x.nop, .int .i64 x.client, .int .i64 x.seq, .int .i64 x.cmd.kind, .string x.cmd.key, .string x.cmd.field, .string x.cmd.text, .int .i64 x.cmd.n]) rfl)
    (try clear cX2 fX2); have cX2 := X2.cell; have fX2 := X2.frozen
    go_wp2_with fail
    refine (HE.out _).mono ?_
    rintro e w3 ⟨rfl, hb3⟩
    replace X2 := X2.bl hb3
    (try clear cX2 fX2); have cX2 := X2.cell; have fX2 := X2.frozen
    go_wp2_with fail
    refine (HC.out _).mono ?_
    rintro e w4 ⟨rfl, hb4⟩
    go_wp2_with fail
    go_ret
    exact ⟨rfl, (by repeat (first | (with_reducible exact Below.refl _ _) | (with_reducible assumption) | (with_reducible refine Below.drew ?_) | (with_reducible refine bdrewN ?_ _) | (with_reducible refine balloc ?_ _) | ((with_reducible refine bset ?_ ?_ _); rotate_left; (focus first | exact Nat.le_refl _ | (simp; done) | (simp; omega) | omega)) | (with_reducible refine bstep ?_ (by with_reducible assumption)) | (with_reducible refine Below.trans ?_ (by with_reducible assumption))))⟩
  · have kb : checkItem { x with nop := true, client := 0, seq := 1, cmd := zeroCmd } = 8 := bad_item3 kx
    have hC := fun w => CheckItem_any { x with nop := true, client := 0, seq := 1, cmd := zeroCmd } w
    have hE := fun w => EncodeItem_bad { x with nop := true, client := 0, seq := 1, cmd := zeroCmd } w (by rw [kb]; decide)
    rw [kb] at hC hE
    simp only [zeroCmd] at hC hE
    have HC := hide hC; have HE := hide hE
    clear hC hE kb kx
    simp only [Itm.cells] at hX
    have HX := hide hX; clear hX
    go_enter Try.func9, Try.ntmps9
    go_wp2_with fail
    refine (HX.out _).mono ?_
    rintro e w1 ⟨rfl, hb1⟩
    have hz1 : w.heap.size ≤ w1.heap.size := by have := hb1.size; simp at this; omega
    have X1 := Blk.new w1 48 #[.int .i64 x.term, .int .i64 x.time, .bool x.nop, .int .i64 x.client, .int .i64 x.seq, .int .i64 x.cmd.kind, .string x.cmd.key, .string x.cmd.field, .string x.cmd.text, .int .i64 x.cmd.n]
    go_wp2_with fail
    refine (HCx.out _).mono ?_
    rintro e w2 ⟨rfl, hb2⟩
    replace X1 := X1.bl hb2
    (try clear cX1 fX1); have cX1 := X1.cell; have fX1 := X1.frozen
    go_wp2_with fail
    refine (HP.out _).mono ?_
    rintro e w' ⟨rfl, rfl⟩
    have X2 : Blk _ _ _ _ := Blk.set' (i := 9) (u := .int .i64 0) (cs' := #[.int .i64 x.term, .int .i64 x.time, .bool true, .int .i64 0, .int .i64 1, .int .i64 0, .string emp, .string emp, .string emp, .int .i64 0]) (Blk.set' (i := 8) (u := .string emp) (cs' := #[.int .i64 x.term, .int .i64 x.time, .bool true, .int .i64 0, .int .i64 1, .int .i64 0, .string emp, .string emp, .string emp, .int .i64 x.cmd.n]) (Blk.set' (i := 7) (u := .string emp) (cs' := #[.int .i64 x.term, .int .i64 x.time, .bool true, .int .i64 0, .int .i64 1, .int .i64 0, .string emp, .string emp, .string x.cmd.text, .int .i64 x.cmd.n]) (Blk.set' (i := 6) (u := .string emp) (cs' := #[.int .i64 x.term, .int .i64 x.time, .bool true, .int .i64 0, .int .i64 1, .int .i64 0, .string emp, .string x.cmd.field, .string x.cmd.text, .int .i64 x.cmd.n]) (Blk.set' (i := 5) (u := .int .i64 0) (cs' := #[.int .i64 x.term, .int .i64 x.time, .bool true, .int .i64 0, .int .i64 1, .int .i64 0, .string x.cmd.key, .string x.cmd.field, .string x.cmd.text, .int .i64 x.cmd.n]) (Blk.set' (i := 4) (u := .int .i64 1) (cs' := #[.int .i64 x.term, .int .i64 x.time, .bool true, .int .i64 0, .int .i64 1, .int .i64 x.cmd.kind, .string x.cmd.key, .string x.cmd.field, .string x.cmd.text, .int .i64 x.cmd.n]) (Blk.set' (i := 3) (u := .int .i64 0) (cs' := #[.int .i64 x.term, .int .i64 x.time, .bool true, .int .i64 0, .int .i64 x.seq, .int .i64 x.cmd.kind, .string x.cmd.key, .string x.cmd.field, .string x.cmd.text, .int .i64 x.cmd.n]) (X1.set' (i := 2) (u := .bool true) (cs' := #[.int .i64 x.term, .int .i64 x.time, .bool true, .int .i64 x.client, .int .i64 x.seq, .int .i64 x.cmd.kind, .string x.cmd.key, .string x.cmd.field, .string x.cmd.text, .int .i64 x.cmd.n]) rfl) rfl) rfl) rfl) rfl) rfl) rfl) rfl
    (try clear cX2 fX2); have cX2 := X2.cell; have fX2 := X2.frozen
    go_wp2_with fail
    refine (HE.out _).mono ?_
    rintro e w3 ⟨rfl, hb3⟩
    replace X2 := X2.bl hb3
    (try clear cX2 fX2); have cX2 := X2.cell; have fX2 := X2.frozen
    go_wp2_with fail
    refine (HC.out _).mono ?_
    rintro e w4 ⟨rfl, hb4⟩
    go_wp2_with fail
    go_ret
    exact ⟨rfl, (by repeat (first | (with_reducible exact Below.refl _ _) | (with_reducible assumption) | (with_reducible refine Below.drew ?_) | (with_reducible refine bdrewN ?_ _) | (with_reducible refine balloc ?_ _) | ((with_reducible refine bset ?_ ?_ _); rotate_left; (focus first | exact Nat.le_refl _ | (simp; done) | (simp; omega) | omega)) | (with_reducible refine bstep ?_ (by with_reducible assumption)) | (with_reducible refine Below.trans ?_ (by with_reducible assumption))))⟩
set_option maxRecDepth 100000 in
theorem itemBad_lifted (os : Os) (started : os.Started) (H : Type) (enc : TypeId × Value → H) :
  ReturnsInHanded {} Try.checked os 9 .any (Rows.itemBadSpec.pre6 enc Try.prog Try.f9 Rows.itemBadRow.domain false) (Rows.itemBadSpec.post enc Try.prog Try.f9 false true false false) := by
  refine returnsInHanded_of_change (C := Try.checked) Try.own started (by kernel_rfl) Try.func9 (ChangeSpec.witness6 (enc := enc) (C := Try.checked) false ⟨#[], #[.agg #[.int .i64 0, .int .i64 0, .int .i64 0, .int .i64 0, .int .i64 0, .int .i64 0, .int .i64 0, .string ByteArray.empty], .int .i64 0], []⟩ 8 (by kernel_rfl) (by kernel_rfl) (by kernel_rfl) (by kernel_rfl)) ?_
  intro W base args ds gs before hval0 hW hcnd _
  have hval : ∀ (j : Nat) t v, Try.f9.params[j]? = some t → args[j]? = some v → Value.okWide Try.prog W .any base t v := hval0
  have hW' := hW
  obtain ⟨p, q, hA0, hV, rfl, hfz, hnd⟩ := hW
  have hA : DataW.TrodAll enc Try.prog W 0 (fun _ => true) true Try.f9.params.toList args.toList ds p := hA0
  rw [Try.params9] at hA hval
  obtain ⟨rfl, rfl⟩ := trodVars_none hV
  clear hA0 hval0 hcnd hV hfz hnd
  obtain ⟨v0, v1, d0, d1, p0, p1, rfl, rfl, rfl, h0, h1⟩ := trodAll_two hA
  obtain ⟨a, rfl, ha⟩ := open_deed (hval 0 56 v0 rfl rfl) h0
  obtain ⟨m1, rfl, rfl, rfl, w1⟩ := open_int Try.underlying3 (hval 1 3 v1 rfl rfl) h1
  refine (itemBad_walk a m1 W ha (i64_bounds w1)).mono fun e W' ⟨he, hb⟩ => ?_
  subst he
  exact ⟨_, rfl, post_law Try.laidOut hW' rfl (by kernel_rfl) rfl Try.underlying4 (fun _ => rfl) (fun _ => rfl) (fun _ => rfl) hb⟩
theorem itemBad_holds : Rows.ItemBadSaid := OpenClaim.holds_of_wide 9 Try.f9 rfl rfl rfl rfl rfl rfl rfl ⟨rfl, rfl, rfl, rfl, rfl⟩ rfl rfl rfl rfl rfl (by kernel_rfl) Try.func9 (by kernel_rfl)
  (of_decide_eq_true (by kernel_rfl)) (by unfold Func.isWrapper; first | (rw [if_pos (by decide +kernel)]; kernel_rfl) | (rw [if_neg (by decide +kernel)]; exact ⟨rfl, rfl⟩))
  (fun os started H enc _ => itemBad_lifted os started H enc)
#print axioms itemBad_holds
end Go.Proofs.Ytaldmianlmgloaa
