/- rostrumkeep.ItemBack returns true for every input and leaves its arguments as they were; no condition. -/
import Derived.Test.YtaldmianlmgloabItemTorn
namespace Go.Proofs.Ytaldmianlmgloab
set_option linter.all false
open Go.ChangeShapes Go.WideShapes Go.ChangeAt Go.RowKit Go.Lib
theorem item_is (x : Itm) (w : World) : (binOp .eql 29 (.agg #[.int .i64 x.term, .int .i64 x.time, .bool x.nop, .int .i64 x.client, .int .i64 x.seq, .int .i64 x.cmd.kind, .string x.cmd.key, .string x.cmd.field, .string x.cmd.text, .int .i64 x.cmd.n]) (.agg #[.int .i64 x.term, .int .i64 x.time, .bool x.nop, .int .i64 x.client, .int .i64 x.seq, .int .i64 x.cmd.kind, .string x.cmd.key, .string x.cmd.field, .string x.cmd.text, .int .i64 x.cmd.n])).run Try.prog w = .ok (.bool true) w := by simp [go_sem]
theorem byteRows_snoc (l : List Value) (v : Value) : byteRows l ++ [[v]] = byteRows (l ++ [v]) := by simp [byteRows]
theorem bytes_one {l : List Value} (h : U8s l) : ∀ r ∈ byteRows l, ∀ u ∈ r, u.oneCell' = true := by
  intro r hr u hu
  obtain ⟨v, hv, rfl⟩ := List.mem_map.1 hr
  rw [List.mem_singleton] at hu
  subst hu
  obtain ⟨n, rfl, _⟩ := h _ hv
  rfl
set_option maxHeartbeats 4000000 in
theorem itemBack_walk (a : DeedD) (t m : Int) (tail : Int) (w : World) (ha : a.ok) (ht : I64 t) (hm : I64 m) (h0 : 0 ≤ tail) (h1 : tail < 256) :
    Calls Try.prog 9 #[.agg a.cells.toArray, .int .i64 t, .int .i64 m, .int .u8 tail] w fun e w' => e = .returned (.bool true) ∧ Below w.heap.size w w' := by
  have hX := fun w => Item_any a ha t m w ht hm
  have kx := check_itemOf a t m
  generalize itemOf a t m = x at hX kx
  have hE := fun w => EncodeItem_ok x w kx
  have hlen := item_len kx
  have ux := u8s_item kx
  have hCk := fun w => CheckItem_any x w
  rw [kx] at hCk
  have hD := fun A n c w (h : Sl w 1 A n c (byteRows (itemBytes x))) => DecodeItem_any A n c (itemBytes x) w h ux (by omega)
  rw [decode_back kx] at hD
  have hD2 := fun A n c w (h : Sl w 1 A n c (byteRows (itemBytes x ++ [u8 tail]))) => DecodeItem_any A n c (itemBytes x ++ [u8 tail]) w h (ux.app (U8s.one h0 h1)) (by rw [List.length_append, List.length_singleton]; omega)
  rw [decode_tail kx] at hD2
  generalize itemBytes x = bs at hE hlen hD hD2 ux
  have hon := bytes_one ux
  simp only [Itm.cells, DeedD.cells] at hX
  unfold DecPost DecV at hD hD2
  simp only [zeroItm] at hD hD2
  have hI := item_is x
  have HX := hide hX; have HE := hide hE; have HD := hide hD; have HD2 := hide hD2; have HC := hide hCk; have HON := hide hon
  clear hX hE hD hD2 kx ha ux hCk hon
  obtain ⟨a1, a2, a3, ⟨a4, a5, a6, a7, a8⟩⟩ := a
  simp only [DeedD.cells] at *
  go_enter Try.func9, Try.ntmps9
  go_wp2_with fail
  refine (HX.out _).mono ?_
  rintro e w1 ⟨rfl, hb1⟩
  have hz1 : w.heap.size ≤ w1.heap.size := by have := hb1.size; simp at this; omega
  have X := Blk.new w1 29 #[.int .i64 x.term, .int .i64 x.time, .bool x.nop, .int .i64 x.client, .int .i64 x.seq, .int .i64 x.cmd.kind, .string x.cmd.key, .string x.cmd.field, .string x.cmd.text, .int .i64 x.cmd.n]
  (try clear cX fX); have cX := X.cell; have fX := X.frozen
  go_wp2_with fail
  refine (HE.out _).mono ?_
  rintro e w2 ⟨A, n, c, rfl, hown, hb2⟩
  replace X := X.bl hb2
  have hsl := hown.sl'
  obtain rfl : bs.length = n := by rw [← hsl.len, byteRows_length]
  have hnc := hsl.nc
  clear cX fX
  go_wp2_with fail
  refine (HD.out _ _ _ _ hsl).mono ?_
  rintro e w3 ⟨rfl, hb3⟩
  replace X := X.bl hb3; replace hsl := hsl.bl hb3
  have hw13 : w1.heap.size < w3.heap.size := X.lt
  have Y := Blk.new w3 29 #[.int .i64 x.term, .int .i64 x.time, .bool x.nop, .int .i64 x.client, .int .i64 x.seq, .int .i64 x.cmd.kind, .string x.cmd.key, .string x.cmd.field, .string x.cmd.text, .int .i64 x.cmd.n]
  replace X := X.al (.cells #[.int .i64 x.term, .int .i64 x.time, .bool x.nop, .int .i64 x.client, .int .i64 x.seq, .int .i64 x.cmd.kind, .string x.cmd.key, .string x.cmd.field, .string x.cmd.text, .int .i64 x.cmd.n] 29); replace hsl := hsl.al (.cells #[.int .i64 x.term, .int .i64 x.time, .bool x.nop, .int .i64 x.client, .int .i64 x.seq, .int .i64 x.cmd.kind, .string x.cmd.key, .string x.cmd.field, .string x.cmd.text, .int .i64 x.cmd.n] 29)
  have hlow : Below w.heap.size w (w3.alloc (.cells #[.int .i64 x.term, .int .i64 x.time, .bool x.nop, .int .i64 x.client, .int .i64 x.seq, .int .i64 x.cmd.kind, .string x.cmd.key, .string x.cmd.field, .string x.cmd.text, .int .i64 x.cmd.n] 29)) := (by repeat (first | (with_reducible exact Below.refl _ _) | (with_reducible assumption) | (with_reducible refine Below.drew ?_) | (with_reducible refine bdrewN ?_ _) | (with_reducible refine balloc ?_ _) | ((with_reducible refine bset ?_ ?_ _); rotate_left; (focus first | exact Nat.le_refl _ | (simp; done) | (simp; omega) | omega)) | (with_reducible refine bstep ?_ (by with_reducible assumption)) | (with_reducible refine Below.trans ?_ (by with_reducible assumption))))
  go_wp2_with (first
    | (at_builtin; refine wpList_pushes rfl _ _ _ rfl Try.underlying57 u8_info rfl (by decide) (by rfl) (Own.nil (base := w3.heap.size + 1)) (by rfl) hsl HON.out (by simp [maxLen]; omega) (by simp; omega) (by simp) ?_; intro A5 n5 c5 w5 hown5 hb5; have X5 := X.below hb5 (by omega); have Y5 := Y.below hb5 (by omega))
    | (at_builtin; refine wpList_push rfl _ _ _ rfl Try.underlying57 u8_info rfl (by decide) (by rfl) hown5 rfl (by rfl) (row := #[.int .u8 tail]) rfl (by simp [Value.oneCell']) ?_ ?_ (by have := hb5.size; simp at this; omega) ?_))
  · simp [byteRows_length]; unfold maxLen; omega
  · simp [byteRows_length]; omega
  intro v6 w6 hown6 hb6 hz6
  obtain ⟨A6, n6, c6, rfl⟩ : ∃ A n c, v6 = .slice A n c := by obtain ⟨A, c, e, _⟩ := hown6.sl; exact ⟨A, _, c, e⟩
  have hs6 := hown6.sl'
  rw [show byteRows bs ++ [[Value.int IntKind.u8 tail]] = byteRows (bs ++ [u8 tail]) by simp [byteRows, u8]] at hs6
  have X6 := X5.below hb6 (by omega)
  have Y6 := Y5.below hb6 (by omega)
  go_wp2_with fail
  refine (HD2.out _ _ _ _ hs6).mono ?_
  rintro e w7 ⟨rfl, hb7⟩
  have X7 := X6.bl hb7
  have Y7 := Y6.bl hb7
  have hx7 : w1.heap.size < w7.heap.size := X7.lt
  have hy7 : w3.heap.size < w7.heap.size := Y7.lt
  (try clear cX7 fX7); have cX7 := X7.cell; have fX7 := X7.frozen; (try clear cY7 fY7); have cY7 := Y7.cell; have fY7 := Y7.frozen
  go_wp2_with fail
  refine (HC.out _).mono ?_
  rintro e w8 ⟨rfl, hb8⟩
  go_wp2_with fail
  go_ret
  have hlow6 : Below w.heap.size w w6 := hlow.trans ((hb5.trans hb6).mono (by omega))
  exact ⟨rfl, (by repeat (first | (with_reducible exact Below.refl _ _) | (with_reducible assumption) | (with_reducible refine Below.drew ?_) | (with_reducible refine bdrewN ?_ _) | (with_reducible refine balloc ?_ _) | ((with_reducible refine bset ?_ ?_ _); rotate_left; (focus first | exact Nat.le_refl _ | (simp; done) | (simp; omega) | omega)) | (with_reducible refine bstep ?_ (by with_reducible assumption)) | (with_reducible refine Below.trans ?_ (by with_reducible assumption))))⟩
set_option maxRecDepth 100000 in
theorem itemBack_lifted (os : Os) (started : os.Started) (H : Type) (enc : TypeId × Value → H) :
  ReturnsInHanded {} Try.checked os 9 .any (Rows.itemBackSpec.pre6 enc Try.prog Try.f9 Rows.itemBackRow.domain false) (Rows.itemBackSpec.post enc Try.prog Try.f9 false true false false) := by
  refine returnsInHanded_of_change (C := Try.checked) Try.own started (by kernel_rfl) Try.func9 (ChangeSpec.witness6 (enc := enc) (C := Try.checked) false ⟨#[], #[.agg #[.int .i64 0, .int .i64 0, .int .i64 0, .int .i64 0, .int .i64 0, .int .i64 0, .int .i64 0, .string ByteArray.empty], .int .i64 0, .int .i64 0, .int .u8 0], []⟩ 8 (by kernel_rfl) (by kernel_rfl) (by kernel_rfl) (by kernel_rfl)) ?_
  intro W base args ds gs before hval0 hW hcnd _
  have hval : ∀ (j : Nat) t v, Try.f9.params[j]? = some t → args[j]? = some v → Value.okWide Try.prog W .any base t v := hval0
  have hW' := hW
  obtain ⟨p, q, hA0, hV, rfl, hfz, hnd⟩ := hW
  have hA : DataW.TrodAll enc Try.prog W 0 (fun _ => true) true Try.f9.params.toList args.toList ds p := hA0
  rw [Try.params9] at hA hval
  obtain ⟨rfl, rfl⟩ := trodVars_none hV
  clear hA0 hval0 hcnd hV hfz hnd
  obtain ⟨v0, v1, v2, v3, d0, d1, d2, d3, p0, p1, p2, p3, rfl, rfl, rfl, h0, h1, h2, h3⟩ := trodAll_four hA
  obtain ⟨a, rfl, ha⟩ := open_deed (hval 0 46 v0 rfl rfl) h0
  obtain ⟨m1, rfl, rfl, rfl, w1⟩ := open_int Try.underlying3 (hval 1 3 v1 rfl rfl) h1
  obtain ⟨m2, rfl, rfl, rfl, w2⟩ := open_int Try.underlying3 (hval 2 3 v2 rfl rfl) h2
  obtain ⟨m3, rfl, rfl, rfl, w3⟩ := open_int Try.underlying5 (hval 3 5 v3 rfl rfl) h3
  have hb3 : 0 ≤ m3 ∧ m3 ≤ 255 := by simpa [Lit.wf, IntKind.min, IntKind.max, IntKind.signed, IntKind.bits] using w3
  refine (itemBack_walk a m1 m2 m3 W ha (i64_bounds w1) (i64_bounds w2) hb3.1 (by omega)).mono fun e W' ⟨he, hb⟩ => ?_
  subst he
  exact ⟨_, rfl, post_law Try.laidOut hW' rfl (by kernel_rfl) rfl Try.underlying4 (fun _ => rfl) (fun _ => rfl) (fun _ => rfl) hb⟩
theorem itemBack_holds : Rows.ItemBackSaid := OpenClaim.holds_of_wide 9 Try.f9 rfl rfl rfl rfl rfl rfl rfl ⟨rfl, rfl, rfl, rfl, rfl⟩ rfl rfl rfl rfl rfl (by kernel_rfl) Try.func9 (by kernel_rfl)
  (of_decide_eq_true (by kernel_rfl)) (by unfold Func.isWrapper; first | (rw [if_pos (by decide +kernel)]; kernel_rfl) | (rw [if_neg (by decide +kernel)]; exact ⟨rfl, rfl⟩))
  (fun os started H enc _ => itemBack_lifted os started H enc)
#print axioms itemBack_holds
end Go.Proofs.Ytaldmianlmgloab
