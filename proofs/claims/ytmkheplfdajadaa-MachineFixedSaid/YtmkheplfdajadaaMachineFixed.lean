/- rostrumkeep.MachineFixed returns true for every input and leaves its arguments as they were; no condition. -/
import Derived.Test.YtmkheplfdajadaaDecM
import Derived.SizedLaws
namespace Go.Proofs.Ytmkheplfdajadaa
set_option linter.all false
open Go.ChangeShapes Go.WideShapes Go.ChangeAt Go.RowKit Go.Lib
theorem fits_u8 {l : List Value} (h : Fits [.int .u8] l) : ∃ n : Int, l = [.int .u8 n] ∧ 0 ≤ n ∧ n < 256 := by
  obtain ⟨_, _, rfl, ⟨a, rfl, ha⟩, h1⟩ := fits_cons h
  obtain rfl := fits_nil h1
  have hb : 0 ≤ a ∧ a ≤ 255 := by simpa [Lit.wf, IntKind.min, IntKind.max, IntKind.signed, IntKind.bits] using ha
  exact ⟨a, rfl, hb.1, by omega⟩
theorem bytes_rows : ∀ rows : List (List Value), (∀ r ∈ rows, Fits [.int .u8] r) → ∃ l, rows = byteRows l ∧ U8s l
  | [], _ => ⟨[], rfl, by intro u hu; simp at hu⟩
  | r :: rows, h => by
    obtain ⟨n, rfl, n0, n1⟩ := fits_u8 (h r (by simp))
    obtain ⟨l, rfl, hl⟩ := bytes_rows rows fun r hr => h r (by simp [hr])
    refine ⟨.int .u8 n :: l, rfl, ?_⟩
    intro u hu
    rcases List.mem_cons.1 hu with rfl | hu
    · exact ⟨n, rfl, n0, n1⟩
    · exact hl u hu
section
variable {H : Type} {enc : TypeId × Value → H} {w : World} {base : Nat} {spare : Nat → Bool} {held : Bool} {v : Value} {d : DataW H} {p : List MemPlace}
set_option maxRecDepth 100000 in
theorem u8_atoms : atoms Try.prog 1 5 = some [.int .u8] := by kernel_rfl
set_option maxRecDepth 100000 in
theorem open_bytes {r : Reach} {b0 : Nat} (hv : Value.okWide Try.prog w r b0 33 v) (h : DataW.Trod enc Try.prog w base spare held 33 v d p) :
    ∃ A n c, ∃ l : List Value, v = .slice A n c ∧ U8s l ∧ Sl w 1 A n c (byteRows l) := by
  obtain ⟨a0, len, cap, rfl⟩ := okWide_slice Try.underlying33 hv
  obtain ⟨fuel, hf⟩ := h
  obtain ⟨A, n, c, rows, he, h3, h4⟩ := seg_of_slice 1 Try.underlying33 u8_atoms (by kernel_rfl) (by decide) hf
  obtain ⟨l, rfl, hl⟩ := bytes_rows rows h3
  exact ⟨A, n, c, l, he, hl, h4⟩
theorem slice_len {P : Program} {t e : TypeId} {A : Option Addr} {n c : Nat} (hu : P.underlying t = some (.slice e)) (h : DataW.Trod enc P w base spare held t (.slice A n c) d p) : n = 0 ∨ ∃ elems rest, d = .slice elems rest ∧ elems.length = n := by
  obtain ⟨fuel, hf⟩ := h
  rcases DataW.trod_slice hu hf with ⟨hv, _⟩ | ⟨a, len, cap, elems, rest, k, _, hv, hx, _, _, _, hl, _⟩
  · simp [Value.cells] at hv
    exact .inl hv.2.1
  · simp [Value.cells] at hv
    injection hx with hx _
    exact .inr ⟨_, _, hx, by rw [List.length_map, hl, hv.2.1]⟩
end
theorem bytes8 : Try.prog.bytesOf 5 = 1 := by kernel_rfl
set_option maxHeartbeats 4000000 in
theorem machineFixed_walk (A : Option Addr) (n c : Nat) (l : List Value) (w : World) (hS : Sl w 1 A n c (byteRows l)) (hu : U8s l) (hreach : n ≤ 140737488351232) :
    Calls Try.prog 4 #[.slice A n c] w fun e w' => e = .returned (.bool true) ∧ Below w.heap.size w w' := by
  have hm : l.length = n := by rw [← hS.len, byteRows_length]
  have hcm := hS.cm
  have hnc := hS.nc
  unfold maxLen at hcm
  have hD := fun A n c w (h : Sl w 1 A n c (byteRows l)) => Decode_any A n c l w h hu
  have hx0 : (decM l).2 = 0 → MachOk (decM l).1 ∧ encB (decM l).1 = l := decM_ok hu
  have hx1 : (decM l).2 ≠ 0 → (decM l).1 = zeroMach := decM_bad
  obtain ⟨⟨m, en⟩, hr⟩ : ∃ r, r = decM l := ⟨_, rfl⟩
  rw [← hr] at hD hx0 hx1
  clear hr
  simp only at hx0 hx1
  have hDn := fun w => Decode_any none 0 0 [] w (Sl.nil_ _ _) (fun u hu => by simp at hu)
  rw [decM_none] at hDn
  unfold DecMPost at hD hDn
  have hon := bytes_one_ hu
  by_cases he : en = 0
  · obtain ⟨hok, kb⟩ := hx0 he
    have hE := fun A B na ca nb cb w' h1 h2 => Encode_own hok A B na ca nb cb w' h1 h2
    rw [kb] at hE
    obtain ⟨now, ents, next, clis⟩ := m
    simp only at hD hE
    have HD := hide hD; have HE := hide hE; have HON := hide hon; have HU := hide hu; have HM := hide hm
    clear hD hDn hon hu hE hok kb hx0 hx1 hm
    subst he
    go_enter Try.func4, Try.ntmps4
    go_wp2_with (at_builtin; refine wpList_pushes rfl _ _ _ rfl Try.underlying33 u8_info rfl (by decide) (by rfl) (Own.nil (base := w.heap.size)) (by rfl) hS HON.out (by simp [maxLen]; omega) (by simp; omega) (by simp) ?_; intro A5 n5 c5 w5 hown5 hb5)
    rw [List.nil_append] at hown5
    refine (HD.out _ _ _ _ hown5.sl').mono ?_
    rintro e w6 ⟨A6, n6, c6, B6, k6, d6, rfl, S6, C6, hb6⟩
    have M6 := Blk.new w6 46 #[.int .i64 now, .slice A6 n6 c6, .int .i64 next, .slice B6 k6 d6]
    have b6 := bstep hb6 (show Below w6.heap.size w6 (w6.alloc (.cells #[.int .i64 now, .slice A6 n6 c6, .int .i64 next, .slice B6 k6 d6] 46)) from below_by)
    have q6 : Below w.heap.size w (w6.alloc (.cells #[.int .i64 now, .slice A6 n6 c6, .int .i64 next, .slice B6 k6 d6] 46)) := bstep hb5 b6
    replace S6 := S6.al (.cells #[.int .i64 now, .slice A6 n6 c6, .int .i64 next, .slice B6 k6 d6] 46); replace C6 := C6.al (.cells #[.int .i64 now, .slice A6 n6 c6, .int .i64 next, .slice B6 k6 d6] 46)
    clear b6 hb6 hown5 hb5 HD
    (try clear cM6 fM6); have cM6 := M6.cell; have fM6 := M6.frozen
    go_wp2_with fail
    refine (HE.out _ _ _ _ _ _ _ S6 C6).mono ?_
    rintro e w7 ⟨A7, n7, c7, rfl, hown7, hb7⟩
    have q7 := bstep q6 hb7
    have q1 := run_str Try.underlying33 Try.underlying5 Try.underlying9 hown7.sl' HU.out
    have q2 := run_str Try.underlying33 Try.underlying5 Try.underlying9 (hS.below q7) HU.out
    clear M6 S6 C6 q6 hb7 cM6 fM6
    go_wp2_with fail
    go_ret
    exact ⟨rfl, q7⟩
  · obtain rfl := hx1 he
    have hk : (en == 0) = false := by simpa using he
    simp only [show zeroMach = ⟨0, [], 0, []⟩ from rfl] at hD hDn
    have HD := hide hD; have HDn := hide hDn; have HON := hide hon; have HM := hide hm
    clear hD hDn hon hx0 hx1 hm he
    go_enter Try.func4, Try.ntmps4
    go_wp2_with (at_builtin; refine wpList_pushes rfl _ _ _ rfl Try.underlying33 u8_info rfl (by decide) (by rfl) (Own.nil (base := w.heap.size)) (by rfl) hS HON.out (by simp [maxLen]; omega) (by simp; omega) (by simp) ?_; intro A5 n5 c5 w5 hown5 hb5)
    rw [List.nil_append] at hown5
    refine (HD.out _ _ _ _ hown5.sl').mono ?_
    rintro e w6 ⟨A6, n6, c6, B6, k6, d6, rfl, S6, C6, hb6⟩
    have M6 := Blk.new w6 46 #[.int .i64 0, .slice A6 n6 c6, .int .i64 0, .slice B6 k6 d6]
    have b6 := bstep hb6 (show Below w6.heap.size w6 (w6.alloc (.cells #[.int .i64 0, .slice A6 n6 c6, .int .i64 0, .slice B6 k6 d6] 46)) from below_by)
    have q6 : Below w.heap.size w (w6.alloc (.cells #[.int .i64 0, .slice A6 n6 c6, .int .i64 0, .slice B6 k6 d6] 46)) := bstep hb5 b6
    clear b6 hb6 hown5 hb5 HD S6 C6
    go_wp2_with fail
    refine (HDn.out _).mono ?_
    rintro e w7 ⟨A7, n7, c7, B7, k7, d7, rfl, S7, C7, hb7⟩
    replace M6 := M6.below' hb7
    have q7 := bstep q6 hb7
    have hx7 := M6.lt
    clear hb7 S7 C7 q6
    (try clear cM6 fM6); have cM6 := M6.cell; have fM6 := M6.frozen
    go_wp2_with fail
    go_ret
    exact ⟨rfl, below_by⟩
set_option maxRecDepth 100000 in
theorem machineFixed_lifted (os : Os) (started : os.Started) (H : Type) (enc : TypeId × Value → H) :
  ReturnsInHanded {} Try.checked os 4 .any (Rows.machineFixedSpec.pre6 enc Try.prog Try.f4 Rows.machineFixedRow.domain false) (Rows.machineFixedSpec.post enc Try.prog Try.f4 false true false false) := by
  refine returnsInHanded_of_change_sized (C := Try.checked) Try.own started (by kernel_rfl) Try.func4 (ChangeSpec.witness6 (enc := enc) (C := Try.checked) false ⟨#[], #[.slice none 0 0], []⟩ 8 (by kernel_rfl) (by kernel_rfl) (by kernel_rfl) (by kernel_rfl)) ?_
  intro W base args ds gs before hval0 hW hcnd hsz0 _
  have hsz : (DataW.weightsEach Try.prog (Try.f4.params.toList ++ Rows.machineFixedSpec.plain.varTypes Try.prog) (ds ++ gs)).all (· ≤ reachBytes) = true := hsz0
  clear hsz0
  have hval : ∀ (j : Nat) t v, Try.f4.params[j]? = some t → args[j]? = some v → Value.okWide Try.prog W .any base t v := hval0
  have hW' := hW
  obtain ⟨p, q, hA0, hV, rfl, hfz, hnd⟩ := hW
  have hA : DataW.TrodAll enc Try.prog W 0 (fun _ => true) true Try.f4.params.toList args.toList ds p := hA0
  rw [Try.params4] at hA hval hsz
  obtain ⟨rfl, rfl⟩ := trodVars_none hV
  clear hA0 hval0 hcnd hV hfz hnd
  obtain ⟨v0, d0, rfl, rfl, h0⟩ := trodAll_one hA
  obtain ⟨A, n, c, l, rfl, hu, hS⟩ := open_bytes (hval 0 33 v0 rfl rfl) h0
  have hreach : n ≤ 140737488351232 := by
    rcases slice_len Try.underlying33 h0 with h | ⟨elems, rest, rfl, h⟩
    · omega
    · have := sized_slice hsz (j := 0) (t := 33) (e := 5) rfl rfl Try.underlying33
      rw [bytes8] at this
      simp only [reachBytes] at this
      omega
  refine (machineFixed_walk A n c l W hS hu hreach).mono fun e W' ⟨he, hb⟩ => ?_
  subst he
  exact ⟨_, rfl, post_law Try.laidOut hW' rfl (by kernel_rfl) rfl Try.underlying4 (fun _ => rfl) (fun _ => rfl) (fun _ => rfl) hb⟩
theorem machineFixed_holds : Rows.MachineFixedSaid := OpenClaim.holds_of_wide 4 Try.f4 rfl rfl rfl rfl rfl rfl rfl ⟨rfl, rfl, rfl, rfl, rfl⟩ rfl rfl rfl rfl rfl (by kernel_rfl) Try.func4 (by kernel_rfl)
  (of_decide_eq_true (by kernel_rfl)) (by unfold Func.isWrapper; first | (rw [if_pos (by decide +kernel)]; kernel_rfl) | (rw [if_neg (by decide +kernel)]; exact ⟨rfl, rfl⟩))
  (fun os started H enc _ => machineFixed_lifted os started H enc)
#print axioms machineFixed_holds
end Go.Proofs.Ytmkheplfdajadaa
