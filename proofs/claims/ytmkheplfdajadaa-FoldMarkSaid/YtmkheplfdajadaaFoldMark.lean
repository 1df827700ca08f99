/- rostrumkeep.FoldMark returns true for every input and leaves its arguments as they were; no condition. -/
import Derived.Test.YtmkheplfdajadaaFoldLines
namespace Go.Proofs.Ytmkheplfdajadaa
set_option linter.all false
open Go.ChangeShapes Go.WideShapes Go.ChangeAt Go.RowKit
def intRows (l : List Int) : List (List Value) := l.map fun n => [.int .i64 n]
theorem fits_int {l : List Value} (h : Fits [.int .i64] l) : ∃ n : Int, l = [.int .i64 n] ∧ I64 n := by
  obtain ⟨_, _, rfl, ⟨a, rfl, ha⟩, h_1⟩ := fits_cons h
  obtain rfl := fits_nil h_1
  exact ⟨a, rfl, i64_bounds ha⟩
theorem Seg.int {w : World} {A : Option Addr} {l : List Int} (h : Seg w 1 A (intRows l)) {i : Nat} (hi : i < l.length) :
    ∃ b off, A = some ⟨b, off, none⟩ ∧ b < w.heap.size ∧ w.cell? ⟨b, off + i, none⟩ = some (.int .i64 l[i]) := by
  obtain ⟨b, off, e, hb, hc⟩ := h.at_ (i := i) (by simpa [intRows] using hi)
  exact ⟨b, off, e, hb, by simpa [intRows] using hc 0 (.int .i64 l[i]) (by simp [intRows])⟩
section
variable {H : Type} {enc : TypeId × Value → H} {w : World} {base : Nat} {spare : Nat → Bool} {held : Bool} {v : Value} {d : DataW H} {p : List MemPlace}
set_option maxRecDepth 100000 in
theorem i64_atoms : atoms Try.prog 1 3 = some [.int .i64] := by kernel_rfl
set_option maxRecDepth 100000 in
theorem open_i64s {r : Reach} {b0 : Nat} (hv : Value.okWide Try.prog w r b0 70 v) (h : DataW.Trod enc Try.prog w base spare held 70 v d p) :
    ∃ A n c, ∃ l : List Int, v = .slice A n c ∧ (∀ x ∈ l, I64 x) ∧ Sl w 1 A n c (intRows l) := by
  obtain ⟨a0, len, cap, rfl⟩ := okWide_slice Try.underlying70 hv
  obtain ⟨fuel, hf⟩ := h
  obtain ⟨A, n, c, rows, he, h3, h4⟩ := seg_of_slice 1 Try.underlying70 i64_atoms (by kernel_rfl) (by decide) hf
  obtain ⟨l, rfl, hl⟩ := rows_map fits_int rows h3
  exact ⟨A, n, c, l, he, hl, h4⟩
end
def markOf (v : Int) : Int × Int := (1 + picked v 500, picked v 4 - 1)
def lastM (l : List (Int × Int)) : Int × Int := l.getLast?.getD (0, -1)
theorem lastM_snoc (l : List (Int × Int)) (p : Int × Int) : lastM (l ++ [p]) = p := by simp [lastM]
def markRows (l : List (Int × Int)) : List (List Value) := l.map fun p => markCells p.1 p.2
theorem markRows_snoc (l : List (Int × Int)) (p : Int × Int) : markRows (l ++ [p]) = markRows l ++ [markCells p.1 p.2] := by simp [markRows]
theorem marks_recs {w : World} {A : Option Addr} {n c : Nat} {l : List (Int × Int)} (h : Sl w 20 A n c (markRows l)) : Recs w A n c (l.map fun p => .mark p.1 p.2) (markRows l) :=
  ⟨h, by simp [markRows], fun k h1 h2 => by simp only [markRows, List.getElem_map]; rfl⟩
theorem marks_ok (l : List Int) : ∀ r ∈ (l.map markOf).map (fun p => RK.mark p.1 p.2), r.Ok := by
  intro r hr
  obtain ⟨p, hp, rfl⟩ := List.mem_map.1 hr
  obtain ⟨v, _, rfl⟩ := List.mem_map.1 hp
  have a0 := picked_lo v 500 (by omega); have a1 := picked_hi v 500 (by omega)
  have b0 := picked_lo v 4 (by omega); have b1 := picked_hi v 4 (by omega)
  exact ⟨number_iff.2 ⟨by simp [markOf]; omega, by simp [markOf]; omega⟩, by simp [markOf]; omega, by simp [markOf]; omega⟩
set_option maxHeartbeats 16000000 in
set_option maxRecDepth 100000 in
theorem foldMark_walk (A : Option Addr) (n c : Nat) (l : List Int) (w : World) (hS : Sl w 1 A n c (intRows l)) (hd : ∀ x ∈ l, I64 x) :
    Calls Try.prog 7 #[.slice A n c] w fun e w' => e = .returned (.bool true) ∧ Below w.heap.size w w' := by
  have hn : l.length = n := by have := hS.len; simpa [intRows] using this
  subst hn
  have hlm := hS.nc
  have hlm' := hS.cm
  unfold maxLen at hlm'
  have HD := hide hd
  clear hd
  go_enter Try.func7, Try.ntmps7
  go_wp2_with fail
  go_loopw [3, 4, 5, 6] (fun s3 s4 s5 s6 wr => ∃ k : Nat, k ≤ l.length ∧ k ≤ 20 ∧ s6 = .int .i64 (k : Int) ∧ ∃ tt ww : Int, s4 = .int .i64 tt ∧ s5 = .int .i64 ww ∧ Hid (lastM ((l.take k).map markOf) = (tt, ww)) ∧ Own wr w.heap.size 58 20 s3 (markRows ((l.take k).map markOf)) ∧ Below w.heap.size w wr) (fun _ _ _ s6 _ => l.length - (intOf s6).toNat)
  case atStart => exact ⟨0, by omega, by omega, rfl, 0, -1, rfl, rfl, hide rfl, Own.nil, below_by⟩
  case round =>
    obtain ⟨k, hk, hk20, rfl, tt, ww, rfl, rfl, HT, O, q⟩ := hrel
    have hqs := q.size
    by_cases hlt : k < l.length ∧ k < 20
    · obtain ⟨hlt, hlt20⟩ := hlt
      obtain ⟨b, off, rfl, hb, hc⟩ := (hS.below q).seg.int hlt
      have hx := HD.out l[k] (List.getElem_mem hlt)
      have a0 := picked_lo l[k] 500 (by omega); have a1 := picked_hi l[k] 500 (by omega)
      have b0 := picked_lo l[k] 4 (by omega); have b1 := picked_hi l[k] 4 (by omega)
      have HPA := hide (fun w => picked_any l[k] 500 w hx.1 hx.2 (by omega) (by omega))
      have HPB := hide (fun w => picked_any l[k] 4 w hx.1 hx.2 (by omega) (by omega))
      have hsn := hide (show (l.take (k + 1)).map markOf = (l.take k).map markOf ++ [markOf l[k]] by rw [List.take_succ_eq_append_getElem hlt, List.map_append]; rfl)
      have hlen := hide (show (markRows ((l.take k).map markOf)).length = k by simp [markRows]; omega)
      have HM := hide (show markOf l[k] = (1 + picked l[k] 500, picked l[k] 4 - 1) from rfl)
      clear hx
      generalize markOf l[k] = mk at *
      generalize picked l[k] 500 = pa at *
      generalize picked l[k] 4 = pb at *
      generalize l[k] = v at *
      go_wp2_with fail
      refine (HPA.out _).mono ?_
      rintro e w' ⟨rfl, rfl⟩
      go_wp2_with fail
      refine (HPB.out _).mono ?_
      rintro e w' ⟨rfl, rfl⟩
      go_wp2_with (first
        | (at_builtin; refine wpList_push rfl _ _ _ rfl Try.underlying54 rec_info rfl (by decide) (by rfl) O rfl (by rfl) (row := #[.int .i64 1, .int .i64 (1 + pa), .int .i64 (pb - 1), .int .i64 0, .int .i64 0, .int .i64 0, .bool false, .int .i64 0, .int .i64 0, .int .i64 0, .string { data := #[] }, .string { data := #[] }, .string { data := #[] }, .int .i64 0, .int .i64 0, .int .i64 0, .int .i64 0, .slice none 0 0, .int .i64 0, .slice none 0 0]) rfl (all_one rfl) ?_ ?_ hqs ?_))
      · rw [hlen.out]; unfold maxLen; omega
      · rw [hlen.out]; omega
      intro v5 w5 O5 b5 hz5
      replace O5 : Own w5 w.heap.size 58 20 v5 (markRows ((l.take (k + 1)).map markOf)) := by
        rw [hsn.out, HM.out, markRows_snoc]
        simp only [List.map_take] at O5 ⊢
        exact O5
      have HT5 := hide (show lastM ((l.take (k + 1)).map markOf) = (1 + pa, pb - 1) by rw [hsn.out, HM.out]; exact lastM_snoc _ _)
      go_wp2_with fail
      go_roundw
      case rel => exact ⟨k + 1, by omega, by omega, by go_num, 1 + pa, pb - 1, rfl, rfl, HT5, O5, q.trans b5⟩
      case measure => simp [intOf]; omega
    · have HF := hide (fun A n c w h => Fold_any (((l.take k).map markOf).map fun p => .mark p.1 p.2) (marks_ok _) A n c (markRows ((l.take k).map markOf)) w h)
      rw [fold_marks] at HF
      unfold FoldPost at HF
      simp only [newDk, newMach] at HF
      have HT2 : ((l.take k).map markOf).getLast?.getD (0, -1) = (tt, ww) := HT.out
      rw [HT2] at HF
      simp only at HF
      clear HT HT2
      obtain ⟨A4, n4, c4, rfl⟩ := own_slice O
      have hR := marks_recs O.sl'
      clear O
      by_cases hl2 : k < l.length
      · have hl3 : ¬ (k < 20) := fun h => hlt ⟨hl2, h⟩
        clear hlt
        go_wp2_with fail
        refine (HF.out _ _ _ _ hR).mono ?_
        rintro e w2 ⟨h, -, b2⟩
        obtain ⟨A2, n2, c2, B2, k2, d2, I2, m2, e2, rfl, -, -, hI⟩ := h trivial
        have hm2 : 0 = m2 := hI.len
        subst hm2
        have ba : Below w2.heap.size w2 (w2.alloc (.cells #[.int .i64 0, .int .i64 0, .int .i64 0, .int .i64 0, .int .i64 0, .slice none 0 0, .int .i64 0, .slice none 0 0, .int .i64 0, .int .i64 0, .slice none 0 0] 62)) := below_by
        go_upto_region 11 with (refine wpList_store_blk rfl 62 _ _ rfl (cells := #[.int .i64 tt, .int .i64 ww, .int .i64 0, .int .i64 0, .int .i64 0, .slice A2 n2 c2, .int .i64 1, .slice B2 k2 d2, .int .i64 0, .int .i64 0, .slice I2 0 e2]) rfl rfl (Blk.new w2 _ _) rfl disk_size (all_one rfl) ?_; intro w3 Z3 gr3 sz3)
        have b23 : Below w2.heap.size w2 w3 := below_grow ba gr3 (by simp) (Nat.le_refl _)
        have q3 := bstep q (bstep b2 b23)
        have hz3 := Z3.lt
        clear b23 gr3 sz3 ba b2 hI
        (try clear cZ3 fZ3); have cZ3 := Z3.cell; have fZ3 := Z3.frozen
        go_wp2_with fail
        go_ret
        exact ⟨rfl, q3⟩
      · clear hlt
        go_wp2_with fail
        refine (HF.out _ _ _ _ hR).mono ?_
        rintro e w2 ⟨h, -, b2⟩
        obtain ⟨A2, n2, c2, B2, k2, d2, I2, m2, e2, rfl, -, -, hI⟩ := h trivial
        have hm2 : 0 = m2 := hI.len
        subst hm2
        have ba : Below w2.heap.size w2 (w2.alloc (.cells #[.int .i64 0, .int .i64 0, .int .i64 0, .int .i64 0, .int .i64 0, .slice none 0 0, .int .i64 0, .slice none 0 0, .int .i64 0, .int .i64 0, .slice none 0 0] 62)) := below_by
        go_upto_region 11 with (refine wpList_store_blk rfl 62 _ _ rfl (cells := #[.int .i64 tt, .int .i64 ww, .int .i64 0, .int .i64 0, .int .i64 0, .slice A2 n2 c2, .int .i64 1, .slice B2 k2 d2, .int .i64 0, .int .i64 0, .slice I2 0 e2]) rfl rfl (Blk.new w2 _ _) rfl disk_size (all_one rfl) ?_; intro w3 Z3 gr3 sz3)
        have b23 : Below w2.heap.size w2 w3 := below_grow ba gr3 (by simp) (Nat.le_refl _)
        have q3 := bstep q (bstep b2 b23)
        have hz3 := Z3.lt
        clear b23 gr3 sz3 ba b2 hI
        (try clear cZ3 fZ3); have cZ3 := Z3.cell; have fZ3 := Z3.frozen
        go_wp2_with fail
        go_ret
        exact ⟨rfl, q3⟩
set_option maxRecDepth 100000 in
theorem foldMark_lifted (os : Os) (started : os.Started) (H : Type) (enc : TypeId × Value → H) :
  ReturnsInHanded {} Try.checked os 7 .any (Rows.foldMarkSpec.pre6 enc Try.prog Try.f7 Rows.foldMarkRow.domain false) (Rows.foldMarkSpec.post enc Try.prog Try.f7 false true false false) := by
  refine returnsInHanded_of_change (C := Try.checked) Try.own started (by kernel_rfl) Try.func7 (ChangeSpec.witness6 (enc := enc) (C := Try.checked) false ⟨#[], #[.slice none 0 0], []⟩ 8 (by kernel_rfl) (by kernel_rfl) (by kernel_rfl) (by kernel_rfl)) ?_
  intro W base args ds gs before hval0 hW hcnd _
  have hval : ∀ (j : Nat) t v, Try.f7.params[j]? = some t → args[j]? = some v → Value.okWide Try.prog W .any base t v := hval0
  have hW' := hW
  obtain ⟨p, q, hA0, hV, rfl, hfz, hnd⟩ := hW
  have hA : DataW.TrodAll enc Try.prog W 0 (fun _ => true) true Try.f7.params.toList args.toList ds p := hA0
  rw [Try.params7] at hA hval
  obtain ⟨rfl, rfl⟩ := trodVars_none hV
  clear hA0 hval0 hcnd hV hfz hnd
  obtain ⟨v0, d0, rfl, rfl, h0⟩ := trodAll_one hA
  obtain ⟨A, n, c, l, rfl, hd, hS⟩ := open_i64s (hval 0 70 v0 rfl rfl) h0
  refine (foldMark_walk A n c l W hS hd).mono fun e W' ⟨he, hb⟩ => ?_
  subst he
  exact ⟨_, rfl, post_law Try.laidOut hW' rfl (by kernel_rfl) rfl Try.underlying4 (fun _ => rfl) (fun _ => rfl) (fun _ => rfl) hb⟩
theorem foldMark_holds : Rows.FoldMarkSaid := OpenClaim.holds_of_wide 7 Try.f7 rfl rfl rfl rfl rfl rfl rfl ⟨rfl, rfl, rfl, rfl, rfl⟩ rfl rfl rfl rfl rfl (by kernel_rfl) Try.func7 (by kernel_rfl)
  (of_decide_eq_true (by kernel_rfl)) (by unfold Func.isWrapper; first | (rw [if_pos (by decide +kernel)]; kernel_rfl) | (rw [if_neg (by decide +kernel)]; exact ⟨rfl, rfl⟩))
  (fun os started H enc _ => foldMark_lifted os started H enc)
#print axioms foldMark_holds
end Go.Proofs.Ytmkheplfdajadaa
