/- rostrumkeep.FoldLines returns true for every input and leaves its arguments as they were; no condition. -/
import Derived.Test.YtmkheplfdajadaaTapG
namespace Go.Proofs.Ytmkheplfdajadaa
set_option linter.all false
open Go.ChangeShapes Go.WideShapes Go.ChangeAt Go.RowKit
/-- Records of items as memory holds them. -/
def lineRows : Int → List Itm → List (List Value)
  | _, [] => []
  | i, x :: l => lineCells i x :: lineRows (i + 1) l
theorem lineRows_len : ∀ (l : List Itm) (i : Int), (lineRows i l).length = l.length
  | [], _ => rfl
  | x :: l, i => by simp [lineRows, lineRows_len l]
theorem lineRows_snoc : ∀ (l : List Itm) (i : Int) (x : Itm), lineRows i (l ++ [x]) = lineRows i l ++ [lineCells (i + l.length) x]
  | [], i, x => by simp [lineRows]
  | y :: l, i, x => by
    simp only [List.cons_append, lineRows, lineRows_snoc l (i + 1) x, List.length_cons]
    rw [show i + 1 + (l.length : Int) = i + ((l.length + 1 : Nat) : Int) by omega]
theorem lineRows_at : ∀ (l : List Itm) (i : Int) (k : Nat) (hk : k < l.length), (lineRows i l)[k]? = some (lineCells (i + k) l[k])
  | x :: l, i, 0, _ => by simp [lineRows]
  | x :: l, i, k + 1, hk => by
    have := lineRows_at l (i + 1) k (by simpa using hk)
    simp only [lineRows, List.getElem?_cons_succ, this, List.getElem_cons_succ]
    congr 2; push_cast; omega
theorem lineRows_rec (w : World) (l : List Itm) (i : Int) (k : Nat) (h : k < (linesFrom i l).length) (h' : k < (lineRows i l).length) : RecAt w (linesFrom i l)[k] (lineRows i l)[k] := by
  have hk : k < l.length := by rw [← linesFrom_len l i]; exact h
  have e1 := linesFrom_at l i k hk
  have e2 := lineRows_at l i k hk
  rw [List.getElem?_eq_getElem h] at e1
  rw [List.getElem?_eq_getElem h'] at e2
  injection e1 with e1
  injection e2 with e2
  rw [e1, e2]
  rfl
theorem lineRows_recs {w : World} {A : Option Addr} {n c : Nat} {l : List Itm} {i : Int} (h : Sl w 20 A n c (lineRows i l)) : Recs w A n c (linesFrom i l) (lineRows i l) :=
  ⟨h, by rw [lineRows_len, linesFrom_len], fun k h1 h2 => lineRows_rec w l i k h1 h2⟩
theorem linesFrom_ok : ∀ (l : List Itm) (i : Int), 1 ≤ i → i + l.length ≤ 1048577 → (∀ x ∈ l, checkItem x = 0) → ∀ r ∈ linesFrom i l, r.Ok
  | [], _, _, _, _, r, h => by cases h
  | x :: l, i, h1, h2, h3, r, h => by
    simp only [List.length_cons] at h2
    rcases List.mem_cons.1 h with rfl | h
    · exact ⟨number_iff.2 ⟨h1, by push_cast at h2; omega⟩, h3 x (by simp)⟩
    · exact linesFrom_ok l (i + 1) (by omega) (by push_cast at h2; omega) (fun y hy => h3 y (by simp [hy])) r h
theorem chain_each : ∀ (l : List Itm) (t m : Int), chainOk t m l = true → ∀ x ∈ l, checkItem x = 0
  | [], _, _, _, x, h => by cases h
  | y :: l, t, m, h, x, hx => by
    obtain ⟨h1, _, _, h4⟩ := chain_head h
    rcases List.mem_cons.1 hx with rfl | hx
    · exact h1
    · exact chain_each l _ _ h4 x hx
theorem items_good (l : List DeedD) : checkLog 0 0 (itemsOf l 1) = 0 := by
  have hl := itemsOf_length l 1
  have : chainOk 0 0 (itemsOf l 1) = true := chain_items _ _ _ _ _ (by omega) (by omega) (by omega) (by simp; omega) (by omega) (by simp; omega)
  exact checkLog_ok (by omega) (by omega) (by omega) (by simp) (by omega) (by omega) this
theorem rec_info : (Try.prog.info? 58).map (fun i => (i.zero, i.size, i.bytes)) = some (some (.agg #[.int .i64 0, .int .i64 0, .int .i64 0, .int .i64 0, .int .i64 0, .int .i64 0, .bool false, .int .i64 0, .int .i64 0, .int .i64 0, .string ByteArray.empty, .string ByteArray.empty, .string ByteArray.empty, .int .i64 0, .int .i64 0, .int .i64 0, .int .i64 0, .slice none 0 0, .int .i64 0, .slice none 0 0]), 20, 216) := by kernel_rfl
set_option maxHeartbeats 16000000 in
set_option maxRecDepth 100000 in
theorem foldLines_walk (A : Option Addr) (n c : Nat) (l : List DeedD) (w : World) (hS : Sl w 8 A n c (deedRows l)) (hd : ∀ d ∈ l, d.ok) :
    Calls Try.prog 5 #[.slice A n c] w fun e w' => e = .returned (.bool true) ∧ Below w.heap.size w w' := by
  have HIT := hide (items_any A n c l 1 w hS hd (by omega) (by omega))
  have hg := items_good l
  have hXl : (itemsOf l 1).length ≤ 30 := by rw [itemsOf_length]; omega
  generalize itemsOf l 1 = X at *
  have HF := hide (fun A n c w h => Fold_any (linesFrom 1 X) (linesFrom_ok X 1 (by omega) (by omega) (chain_each _ _ _ (log_good hg).2.2.2.2.2.2)) A n c (lineRows 1 X) w h)
  rw [fold_all hg] at HF
  unfold FoldPost at HF
  simp only [newDk, newMach] at HF
  clear hg hS hd
  go_enter Try.func5, Try.ntmps5
  go_wp2_with fail
  refine HIT.out.mono ?_
  rintro e w1 ⟨v, rfl, O1, b1⟩
  obtain ⟨A1, n1, c1, rfl⟩ := own_slice O1
  have S1 := O1.sl'
  obtain rfl := rows_len S1
  clear O1 HIT
  go_wp2_with fail
  go_loopw [4, 5] (fun s4 s5 wr => ∃ k : Nat, k ≤ X.length ∧ s5 = .int .i64 (k : Int) ∧ Own wr w1.heap.size 58 20 s4 (lineRows 1 (X.take k)) ∧ Below w1.heap.size w1 wr) (fun _ s5 _ => X.length - (intOf s5).toNat)
  case atStart => exact ⟨0, by omega, rfl, Own.nil, Below.refl _ _⟩
  case round =>
    obtain ⟨k, hk, rfl, O, q⟩ := hrel
    by_cases hlt : k < X.length
    · obtain ⟨b, off, rfl, hb, I⟩ := (S1.below q).item hlt
      obtain ⟨i0, i1, i2, i3, i4, i5, i6, i7, i8, i9⟩ := I
      have hsn := hide (show lineRows 1 (X.take (k + 1)) = lineRows 1 (X.take k) ++ [lineCells (k + 1) X[k]] by
        rw [List.take_succ_eq_append_getElem hlt, lineRows_snoc, List.length_take, Nat.min_eq_left hk, Int.add_comm])
      have hlen := hide (show (lineRows 1 (X.take k)).length = k by rw [lineRows_len, List.length_take, Nat.min_eq_left hk])
      have hqs := q.size
      generalize X[k] = x at *
      go_wp2_with (at_builtin; refine wpList_push rfl _ _ _ rfl Try.underlying54 rec_info rfl (by decide) (by rfl) O rfl (by rfl) (row := #[.int .i64 2, .int .i64 0, .int .i64 0, .int .i64 ((k : Int) + 1), .int .i64 x.term, .int .i64 x.time, .bool x.nop, .int .i64 x.client, .int .i64 x.seq, .int .i64 x.cmd.kind, .string x.cmd.key, .string x.cmd.field, .string x.cmd.text, .int .i64 x.cmd.n, .int .i64 0, .int .i64 0, .int .i64 0, .slice none 0 0, .int .i64 0, .slice none 0 0]) rfl (all_one rfl) ?_ ?_ hqs ?_)
      · rw [hlen.out]; unfold maxLen; omega
      · rw [hlen.out]; omega
      intro v5 w5 O5 b5 hz5
      replace O5 : Own w5 w1.heap.size 58 20 v5 (lineRows 1 (X.take (k + 1))) := by rw [hsn.out]; exact O5
      go_wp2_with fail
      go_roundw
      case rel => exact ⟨k + 1, by omega, by go_num, O5, q.trans b5⟩
      case measure => simp [intOf]; omega
    · obtain rfl : k = X.length := by omega
      rw [List.take_of_length_le (Nat.le_refl _)] at O
      obtain ⟨A4, n4, c4, rfl⟩ := own_slice O
      have hR := lineRows_recs O.sl'
      have q1 := bstep b1 q
      replace S1 := S1.below q
      clear O q b1
      go_wp2_with fail
      refine (HF.out _ _ _ _ hR).mono ?_
      rintro e w2 ⟨h, -, b2⟩
      obtain ⟨A2, n2, c2, B2, k2, d2, I2, m2, e2, rfl, -, -, hI⟩ := h trivial
      have ba : Below w2.heap.size w2 (w2.alloc (.cells #[.int .i64 0, .int .i64 0, .int .i64 0, .int .i64 0, .int .i64 0, .slice none 0 0, .int .i64 0, .slice none 0 0, .int .i64 0, .int .i64 0, .slice none 0 0] 62)) := below_by
      have HSA := hide (fun w' (h2 : OI w' I2 m2 e2 X) (h1 : Sl w' 10 A1 X.length c1 (itemRows X)) => (sameItems_any I2 A1 m2 X.length e2 c1 X X w' h2.sl h1).mono fun e w'' h => (show e = .returned (.bool true) ∧ Below w'.heap.size w' w'' from ⟨by rw [h.1, decide_eq_true rfl], h.2⟩))
      go_upto_region 8 with (refine wpList_store_blk rfl 62 _ _ rfl (cells := #[.int .i64 0, .int .i64 (-1), .int .i64 0, .int .i64 0, .int .i64 0, .slice A2 n2 c2, .int .i64 1, .slice B2 k2 d2, .int .i64 0, .int .i64 0, .slice I2 m2 e2]) rfl rfl (Blk.new w2 _ _) rfl disk_size (all_one rfl) ?_; intro w3 Z3 gr3 sz3)
      have b23 : Below w2.heap.size w2 w3 := below_grow ba gr3 (by simp) (Nat.le_refl _)
      have q3 := bstep q1 (bstep b2 b23)
      replace hI := hI.bl b23
      replace S1 := S1.below (bstep b2 b23)
      clear b23 gr3 sz3 ba b2 q1 HF
      go_wp2_with fail
      refine (TapeNew_any _).mono ?_
      rintro e w4 ⟨rfl, b4⟩
      have N4 := Blk.new w4 62 #[.int .i64 0, .int .i64 (-1), .int .i64 0, .int .i64 0, .int .i64 0, .slice none 0 0, .int .i64 1, .slice none 0 0, .int .i64 0, .int .i64 0, .slice none 0 0]
      have ba : Below w4.heap.size w4 (w4.alloc (.cells #[.int .i64 0, .int .i64 (-1), .int .i64 0, .int .i64 0, .int .i64 0, .slice none 0 0, .int .i64 1, .slice none 0 0, .int .i64 0, .int .i64 0, .slice none 0 0] 62)) := below_by
      have b34 := bstep b4 ba
      replace Z3 := Z3.below' b34
      replace hI := hI.bl b34
      replace S1 := S1.below b34
      have q4 := bstep q3 b34
      clear b34 ba b4 q3
      go_upto_region 9 with fail
      obtain ⟨w5, hw5⟩ : ∃ w5, w5 = w4.alloc (.cells #[.int .i64 0, .int .i64 (-1), .int .i64 0, .int .i64 0, .int .i64 0, .slice none 0 0, .int .i64 1, .slice none 0 0, .int .i64 0, .int .i64 0, .slice none 0 0] 62) := ⟨_, rfl⟩
      rw [← hw5] at Z3 hI S1 q4 N4 ⊢
      clear hw5
      have hz3 := Z3.lt
      have hn4 := N4.lt
      (try clear cZ3 fZ3); have cZ3 := Z3.cell; have fZ3 := Z3.frozen; (try clear cN4 fN4); have cN4 := N4.cell; have fN4 := N4.frozen
      go_wp2_with fail
      refine (HSA.out _ hI S1).mono ?_
      rintro e w6 ⟨rfl, b6⟩
      have q6 := bstep q4 b6
      replace Z3 := Z3.below' b6
      replace N4 := N4.below' b6
      clear cZ3 fZ3 cN4 fN4 b6 hI S1 q4
      (try clear cZ3 fZ3); have cZ3 := Z3.cell; have fZ3 := Z3.frozen; (try clear cN4 fN4); have cN4 := N4.cell; have fN4 := N4.frozen
      go_wp2_with fail
      go_ret
      exact ⟨rfl, q6⟩
set_option maxRecDepth 100000 in
theorem foldLines_lifted (os : Os) (started : os.Started) (H : Type) (enc : TypeId × Value → H) :
  ReturnsInHanded {} Try.checked os 5 .any (Rows.foldLinesSpec.pre6 enc Try.prog Try.f5 Rows.foldLinesRow.domain false) (Rows.foldLinesSpec.post enc Try.prog Try.f5 false true false false) := by
  refine returnsInHanded_of_change (C := Try.checked) Try.own started (by kernel_rfl) Try.func5 (ChangeSpec.witness6 (enc := enc) (C := Try.checked) false ⟨#[], #[.slice none 0 0], []⟩ 8 (by kernel_rfl) (by kernel_rfl) (by kernel_rfl) (by kernel_rfl)) ?_
  intro W base args ds gs before hval0 hW hcnd _
  have hval : ∀ (j : Nat) t v, Try.f5.params[j]? = some t → args[j]? = some v → Value.okWide Try.prog W .any base t v := hval0
  have hW' := hW
  obtain ⟨p, q, hA0, hV, rfl, hfz, hnd⟩ := hW
  have hA : DataW.TrodAll enc Try.prog W 0 (fun _ => true) true Try.f5.params.toList args.toList ds p := hA0
  rw [Try.params5] at hA hval
  obtain ⟨rfl, rfl⟩ := trodVars_none hV
  clear hA0 hval0 hcnd hV hfz hnd
  obtain ⟨v0, d0, rfl, rfl, h0⟩ := trodAll_one hA
  obtain ⟨A, n, c, l, rfl, hd, hS⟩ := open_deeds (hval 0 51 v0 rfl rfl) h0
  refine (foldLines_walk A n c l W hS hd).mono fun e W' ⟨he, hb⟩ => ?_
  subst he
  exact ⟨_, rfl, post_law Try.laidOut hW' rfl (by kernel_rfl) rfl Try.underlying4 (fun _ => rfl) (fun _ => rfl) (fun _ => rfl) hb⟩
theorem foldLines_holds : Rows.FoldLinesSaid := OpenClaim.holds_of_wide 5 Try.f5 rfl rfl rfl rfl rfl rfl rfl ⟨rfl, rfl, rfl, rfl, rfl⟩ rfl rfl rfl rfl rfl (by kernel_rfl) Try.func5 (by kernel_rfl)
  (of_decide_eq_true (by kernel_rfl)) (by unfold Func.isWrapper; first | (rw [if_pos (by decide +kernel)]; kernel_rfl) | (rw [if_neg (by decide +kernel)]; exact ⟨rfl, rfl⟩))
  (fun os started H enc _ => foldLines_lifted os started H enc)
#print axioms foldLines_holds
end Go.Proofs.Ytmkheplfdajadaa
