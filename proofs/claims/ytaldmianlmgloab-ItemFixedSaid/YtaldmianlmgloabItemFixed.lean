/- rostrumkeep.ItemFixed returns true for every input and leaves its arguments as they were; no condition. -/
import Derived.Test.YtaldmianlmgloabFixP
import Derived.Test.YtaldmianlmgloabItemBack
import Derived.SizedLaws
namespace Go.Proofs.Ytaldmianlmgloab
set_option linter.all false
open Go.ChangeShapes Go.WideShapes Go.ChangeAt Go.RowKit Go.Lib
theorem fits_u8 {l : List Value} (h : Fits [.int .u8] l) : ∃ n : Int, l = [.int .u8 n] ∧ 0 ≤ n ∧ n < 256 := by
  obtain ⟨_, _, rfl, ⟨a, rfl, ha⟩, h1⟩ := fits_cons h
  obtain rfl := fits_nil h1
  have hb : 0 ≤ a ∧ a ≤ 255 := by simpa [Lit.wf, IntKind.min, IntKind.max, IntKind.signed, IntKind.bits] using ha
  exact ⟨a, rfl, hb.1, by omega⟩
theorem bytes_rows : ∀ rows : List (List Value), (∀ r ∈ rows, Fits [.int .u8] r) → ∃ l, rows = byteRows l ∧ U8s l
  | [], _ => ⟨[], rfl, by intro u hu; simp at hu⟩
  | r :: rows, h => by
    obtain ⟨n, rfl, n0, n1⟩ := fits_u8 (h r (by simp))
    obtain ⟨l, rfl, hl⟩ := bytes_rows rows fun r hr => h r (by simp [hr])
    refine ⟨.int .u8 n :: l, rfl, ?_⟩
    intro u hu
    rcases List.mem_cons.1 hu with rfl | hu
    · exact ⟨n, rfl, n0, n1⟩
    · exact hl u hu
section
variable {H : Type} {enc : TypeId × Value → H} {w : World} {base : Nat} {spare : Nat → Bool} {held : Bool} {v : Value} {d : DataW H} {p : List MemPlace}
set_option maxRecDepth 100000 in
theorem u8_atoms : atoms Try.prog 1 5 = some [.int .u8] := by kernel_rfl
set_option maxRecDepth 100000 in
theorem open_bytes {r : Reach} {b0 : Nat} (hv : Value.okWide Try.prog w r b0 57 v) (h : DataW.Trod enc Try.prog w base spare held 57 v d p) :
    ∃ A n c, ∃ l : List Value, v = .slice A n c ∧ U8s l ∧ Sl w 1 A n c (byteRows l) := by
  obtain ⟨a0, len, cap, rfl⟩ := okWide_slice Try.underlying57 hv
  obtain ⟨fuel, hf⟩ := h
  obtain ⟨A, n, c, rows, he, h3, h4⟩ := seg_of_slice 1 Try.underlying57 u8_atoms (by kernel_rfl) (by decide) hf
  obtain ⟨l, rfl, hl⟩ := bytes_rows rows h3
  exact ⟨A, n, c, l, he, hl, h4⟩
theorem slice_len {P : Program} {t e : TypeId} {A : Option Addr} {n c : Nat} (hu : P.underlying t = some (.slice e)) (h : DataW.Trod enc P w base spare held t (.slice A n c) d p) : n = 0 ∨ ∃ elems rest, d = .slice elems rest ∧ elems.length = n := by
  obtain ⟨fuel, hf⟩ := h
  rcases DataW.trod_slice hu hf with ⟨hv, _⟩ | ⟨a, len, cap, elems, rest, k, _, hv, hx, _, _, _, hl, _⟩
  · simp [Value.cells] at hv
    exact .inl hv.2.1
  · simp [Value.cells] at hv
    injection hx with hx _
    exact .inr ⟨_, _, hx, by rw [List.length_map, hl, hv.2.1]⟩
end
theorem bytes8 : Try.prog.bytesOf 5 = 1 := by kernel_rfl
theorem zero_is (w : World) : (binOp .eql 29 (.agg #[.int .i64 0, .int .i64 0, .bool false, .int .i64 0, .int .i64 0, .int .i64 0, .string { data := #[] }, .string { data := #[] }, .string { data := #[] }, .int .i64 0]) (.agg #[.int .i64 0, .int .i64 0, .bool false, .int .i64 0, .int .i64 0, .int .i64 0, .string { data := #[] }, .string { data := #[] }, .string { data := #[] }, .int .i64 0])).run Try.prog w = .ok (.bool true) w := by simp [go_sem]
set_option maxHeartbeats 4000000 in
theorem itemFixed_walk (A : Option Addr) (n c : Nat) (l : List Value) (w : World) (hS : Sl w 1 A n c (byteRows l)) (hu : U8s l) (hreach : n ≤ 140737488351232) :
    Calls Try.prog 10 #[.slice A n c] w fun e w' => e = .returned (.bool true) ∧ Below w.heap.size w w' := by
  have hm : l.length = n := by rw [← hS.len, byteRows_length]
  have hcm := hS.cm
  have hnc := hS.nc
  unfold maxLen at hcm
  have key : ∃ r : Itm × Int, (∀ A n c w, Sl w 1 A n c (byteRows l) → Calls Try.prog 25 #[.slice A n c] w (DecPost r w)) ∧ (r.2 = 0 → checkItem r.1 = 0 ∧ itemBytes r.1 = l) ∧ (r.2 ≠ 0 → r.1 = zeroItm) := by
    by_cases hl : l.length ≤ 20000
    · exact ⟨decodeOf l, fun A n c w h => DecodeItem_any A n c l w h hu hl, decode_fix hu, decode_bad⟩
    · refine ⟨(zeroItm, 1), fun A n c w h => ?_, by simp, fun _ => rfl⟩
      have h2 := h.len
      rw [byteRows_length] at h2
      exact DecodeItem_long A n c w (by omega) (by omega)
  obtain ⟨⟨x, en⟩, hD, hx0, hx1⟩ := key
  simp only at hD hx0 hx1
  unfold DecPost DecV at hD
  have hDn := fun w => DecodeItem_any none 0 0 [] w (Sl.nil_ _ _) (fun u hu => by simp at hu) (by simp)
  rw [decode_none] at hDn
  unfold DecPost DecV at hDn
  simp only [zeroItm, zeroCmd, emp] at hDn
  have hon := bytes_one hu
  have HD := hide hD; have HDn := hide hDn; have HON := hide hon; have HU := hide hu; have HM := hide hm
  clear hD hDn hon hu
  by_cases he : en = 0
  · obtain ⟨kx, kb⟩ := hx0 he
    have hE := fun w => EncodeItem_ok x w kx
    rw [kb] at hE
    have HE := hide hE
    clear hE kx kb hx1 hx0
    subst he
    go_enter Try.func10, Try.ntmps10
    go_wp2_with (at_builtin; refine wpList_pushes rfl _ _ _ rfl Try.underlying57 u8_info rfl (by decide) (by rfl) (Own.nil (base := w.heap.size)) (by rfl) hS HON.out (by simp [maxLen]; omega) (by simp; omega) (by simp) ?_; intro A5 n5 c5 w5 hown5 hb5)
    rw [List.nil_append] at hown5
    refine (HD.out _ _ _ _ hown5.sl').mono ?_
    rintro e w6 ⟨rfl, hb6⟩
    have X := Blk.new w6 29 #[.int .i64 x.term, .int .i64 x.time, .bool x.nop, .int .i64 x.client, .int .i64 x.seq, .int .i64 x.cmd.kind, .string x.cmd.key, .string x.cmd.field, .string x.cmd.text, .int .i64 x.cmd.n]
    (try clear cX fX); have cX := X.cell; have fX := X.frozen
    go_wp2_with fail
    refine (HE.out _).mono ?_
    rintro e w7 ⟨A7, n7, c7, rfl, hown7, hb7⟩
    have hlow : Below w.heap.size w w7 := bstep (b := w6.alloc (.cells #[.int .i64 x.term, .int .i64 x.time, .bool x.nop, .int .i64 x.client, .int .i64 x.seq, .int .i64 x.cmd.kind, .string x.cmd.key, .string x.cmd.field, .string x.cmd.text, .int .i64 x.cmd.n] 29)) (by repeat (first | (with_reducible exact Below.refl _ _) | (with_reducible assumption) | (with_reducible refine Below.drew ?_) | (with_reducible refine bdrewN ?_ _) | (with_reducible refine balloc ?_ _) | ((with_reducible refine bset ?_ ?_ _); rotate_left; (focus first | exact Nat.le_refl _ | (simp; done) | (simp; omega) | omega)) | (with_reducible refine bstep ?_ (by with_reducible assumption)) | (with_reducible refine Below.trans ?_ (by with_reducible assumption)))) hb7
    have q1 := run_str Try.underlying57 Try.underlying5 Try.underlying9 hown7.sl' HU.out
    have q2 := run_str Try.underlying57 Try.underlying5 Try.underlying9 (hS.below hlow) HU.out
    go_wp2_with fail
    go_ret
    exact ⟨rfl, (by repeat (first | (with_reducible exact Below.refl _ _) | (with_reducible assumption) | (with_reducible refine Below.drew ?_) | (with_reducible refine bdrewN ?_ _) | (with_reducible refine balloc ?_ _) | ((with_reducible refine bset ?_ ?_ _); rotate_left; (focus first | exact Nat.le_refl _ | (simp; done) | (simp; omega) | omega)) | (with_reducible refine bstep ?_ (by with_reducible assumption)) | (with_reducible refine Below.trans ?_ (by with_reducible assumption))))⟩
  · obtain rfl := hx1 he
    have hk : (en == 0) = false := by simpa using he
    simp only [zeroItm, zeroCmd, emp] at HD
    clear hx0 hx1 he
    have hz := zero_is
    go_enter Try.func10, Try.ntmps10
    go_wp2_with (at_builtin; refine wpList_pushes rfl _ _ _ rfl Try.underlying57 u8_info rfl (by decide) (by rfl) (Own.nil (base := w.heap.size)) (by rfl) hS HON.out (by simp [maxLen]; omega) (by simp; omega) (by simp) ?_; intro A5 n5 c5 w5 hown5 hb5)
    rw [List.nil_append] at hown5
    refine (HD.out _ _ _ _ hown5.sl').mono ?_
    rintro e w6 ⟨rfl, hb6⟩
    have X := Blk.new w6 29 #[.int .i64 0, .int .i64 0, .bool false, .int .i64 0, .int .i64 0, .int .i64 0, .string { data := #[] }, .string { data := #[] }, .string { data := #[] }, .int .i64 0]
    go_wp2_with fail
    refine (HDn.out _).mono ?_
    rintro e w7 ⟨rfl, hb7⟩
    replace X := X.bl hb7
    have hx7 : w6.heap.size < w7.heap.size := X.lt
    (try clear cX fX); have cX := X.cell; have fX := X.frozen
    have hlow : Below w.heap.size w w7 := bstep (b := w6.alloc (.cells #[.int .i64 0, .int .i64 0, .bool false, .int .i64 0, .int .i64 0, .int .i64 0, .string { data := #[] }, .string { data := #[] }, .string { data := #[] }, .int .i64 0] 29)) (by repeat (first | (with_reducible exact Below.refl _ _) | (with_reducible assumption) | (with_reducible refine Below.drew ?_) | (with_reducible refine bdrewN ?_ _) | (with_reducible refine balloc ?_ _) | ((with_reducible refine bset ?_ ?_ _); rotate_left; (focus first | exact Nat.le_refl _ | (simp; done) | (simp; omega) | omega)) | (with_reducible refine bstep ?_ (by with_reducible assumption)) | (with_reducible refine Below.trans ?_ (by with_reducible assumption)))) hb7
    go_wp2_with fail
    go_ret
    exact ⟨rfl, (by repeat (first | (with_reducible exact Below.refl _ _) | (with_reducible assumption) | (with_reducible refine Below.drew ?_) | (with_reducible refine bdrewN ?_ _) | (with_reducible refine balloc ?_ _) | ((with_reducible refine bset ?_ ?_ _); rotate_left; (focus first | exact Nat.le_refl _ | (simp; done) | (simp; omega) | omega)) | (with_reducible refine bstep ?_ (by with_reducible assumption)) | (with_reducible refine Below.trans ?_ (by with_reducible assumption))))⟩
set_option maxRecDepth 100000 in
theorem itemFixed_lifted (os : Os) (started : os.Started) (H : Type) (enc : TypeId × Value → H) :
  ReturnsInHanded {} Try.checked os 10 .any (Rows.itemFixedSpec.pre6 enc Try.prog Try.f10 Rows.itemFixedRow.domain false) (Rows.itemFixedSpec.post enc Try.prog Try.f10 false true false false) := by
  refine returnsInHanded_of_change_sized (C := Try.checked) Try.own started (by kernel_rfl) Try.func10 (ChangeSpec.witness6 (enc := enc) (C := Try.checked) false ⟨#[], #[.slice none 0 0], []⟩ 8 (by kernel_rfl) (by kernel_rfl) (by kernel_rfl) (by kernel_rfl)) ?_
  intro W base args ds gs before hval0 hW hcnd hsz0 _
  have hsz : (DataW.weightsEach Try.prog (Try.f10.params.toList ++ Rows.itemFixedSpec.plain.varTypes Try.prog) (ds ++ gs)).all (· ≤ reachBytes) = true := hsz0
  clear hsz0
  have hval : ∀ (j : Nat) t v, Try.f10.params[j]? = some t → args[j]? = some v → Value.okWide Try.prog W .any base t v := hval0
  have hW' := hW
  obtain ⟨p, q, hA0, hV, rfl, hfz, hnd⟩ := hW
  have hA : DataW.TrodAll enc Try.prog W 0 (fun _ => true) true Try.f10.params.toList args.toList ds p := hA0
  rw [Try.params10] at hA hval hsz
  obtain ⟨rfl, rfl⟩ := trodVars_none hV
  clear hA0 hval0 hcnd hV hfz hnd
  obtain ⟨v0, d0, rfl, rfl, h0⟩ := trodAll_one hA
  obtain ⟨A, n, c, l, rfl, hu, hS⟩ := open_bytes (hval 0 57 v0 rfl rfl) h0
  have hreach : n ≤ 140737488351232 := by
    rcases slice_len Try.underlying57 h0 with h | ⟨elems, rest, rfl, h⟩
    · omega
    · have := sized_slice hsz (j := 0) (t := 57) (e := 5) rfl rfl Try.underlying57
      rw [bytes8] at this
      simp only [reachBytes] at this
      omega
  refine (itemFixed_walk A n c l W hS hu hreach).mono fun e W' ⟨he, hb⟩ => ?_
  subst he
  exact ⟨_, rfl, post_law Try.laidOut hW' rfl (by kernel_rfl) rfl Try.underlying4 (fun _ => rfl) (fun _ => rfl) (fun _ => rfl) hb⟩
theorem itemFixed_holds : Rows.ItemFixedSaid := OpenClaim.holds_of_wide 10 Try.f10 rfl rfl rfl rfl rfl rfl rfl ⟨rfl, rfl, rfl, rfl, rfl⟩ rfl rfl rfl rfl rfl (by kernel_rfl) Try.func10 (by kernel_rfl)
  (of_decide_eq_true (by kernel_rfl)) (by unfold Func.isWrapper; first | (rw [if_pos (by decide +kernel)]; kernel_rfl) | (rw [if_neg (by decide +kernel)]; exact ⟨rfl, rfl⟩))
  (fun os started H enc _ => itemFixed_lifted os started H enc)
#print axioms itemFixed_holds
end Go.Proofs.Ytaldmianlmgloab
