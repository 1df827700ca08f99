/- rostrumkeep.FoldCuts returns true for every input and leaves its arguments as they were; no condition. -/
import Derived.Test.YtgmojjclobkpjaaFoldLines
namespace Go.Proofs.Ytgmojjclobkpjaa
set_option linter.all false
open Go.ChangeShapes Go.WideShapes Go.ChangeAt Go.RowKit
theorem yieldsIf_load_blkC {P : Program} {ops : Array Oper} {S : World → Prop} {op : Oper} {a : Act} (hw : Region.wanted op (yielded ops a.tmps) = true) (ty : TypeId) (x : Operand) (ho : op.op = .load ty x)
    {b : Nat} {cs : Array Value} (hx : a.eval x = .pointer (some ⟨b, 0, none⟩)) {d : TypeDesc} (hS : ∀ w, S w → Blk w b ty cs) (hu : P.underlying ty = some d) (hd : (match d with | .struct _ | .array _ _ => true | _ => false) = true) (hi : (P.info? ty).map (·.size) = some cs.size) : YieldsIf P ops S op (.agg cs) a :=
  .inl ⟨hw, fun w hw' => by
    have hrun := run_loadVar_row (P := P) w b ty ty cs (0, 0) d (hS w hw') hu hd hi
    unfold execOp
    simp only [ho, hx, Instr.loadAt, Instr.sureAddr, Sem.run_bind, Sem.run_pure, Result.andThen_ok, hrun]⟩
theorem item_same (x : Itm) (w : World) : (binOp .eql 35 (.agg #[.int .i64 x.term, .int .i64 x.time, .bool x.nop, .int .i64 x.client, .int .i64 x.seq, .int .i64 x.cmd.kind, .string x.cmd.key, .string x.cmd.field, .string x.cmd.text, .int .i64 x.cmd.n])
    (.agg #[.int .i64 x.term, .int .i64 x.time, .bool x.nop, .int .i64 x.client, .int .i64 x.seq, .int .i64 x.cmd.kind, .string x.cmd.key, .string x.cmd.field, .string x.cmd.text, .int .i64 x.cmd.n])).run Try.prog w = .ok (.bool true) w := by simp [go_sem]
theorem sameItems_yes (A B : Option Addr) (n m c d : Nat) (a b : List Itm) (w : World) (ha : Sl w 10 A n c (itemRows a)) (hb : Sl w 10 B m d (itemRows b)) (h : a = b) :
    Calls Try.prog 7 #[.slice A n c, .slice B m d] w fun e w' => e = .returned (.bool true) ∧ Below w.heap.size w w' :=
  (sameItems_any A B n m c d a b w ha hb).mono fun e w' ⟨h1, h2⟩ => ⟨by rw [h1]; simp [h], h2⟩
theorem lineRows_one : ∀ (l : List Itm) (i : Int), ∀ r ∈ lineRows i l, ∀ u ∈ r, u.oneCell' = true
  | [], _, r, h => by cases h
  | x :: l, i, r, h => by
    rcases List.mem_cons.1 h with rfl | h
    · exact all_one rfl
    · exact lineRows_one l _ r h
theorem lines_snoc_recs {w : World} {A : Option Addr} {n c : Nat} {l : List Itm} {y : Int} {x : Itm} (h : Sl w 20 A n c (lineRows 1 l ++ [lineCells y x])) : Recs w A n c (linesFrom 1 l ++ [.line y x]) (lineRows 1 l ++ [lineCells y x]) := by
  refine ⟨h, by simp [lineRows_len, linesFrom_len], fun k h1 h2 => ?_⟩
  by_cases hk : k < (linesFrom 1 l).length
  · have hk' : k < (lineRows 1 l).length := by rw [lineRows_len, ← linesFrom_len l 1]; exact hk
    rw [List.getElem_append_left hk, List.getElem_append_left hk']
    exact lineRows_rec w l 1 k hk hk'
  · have e1 : k = (linesFrom 1 l).length := by simp at h1; omega
    have e2 : k = (lineRows 1 l).length := by rw [lineRows_len, ← linesFrom_len l 1]; exact e1
    rw [List.getElem_append_right (by omega), List.getElem_append_right (by omega)]
    simp only [← e1, ← e2, Nat.sub_self, List.getElem_cons_zero]
    rfl
theorem item_range {w : World} {A : Option Addr} {n c : Nat} {l : List Itm} (h : Sl w 10 A n c (itemRows l)) {k : Nat} (hk : k < l.length) : ∃ b off, A = some ⟨b, off, none⟩ ∧ b < w.heap.size ∧ w.rangeAt b (off + k * 10) l[k].cells := by
  have hk' : k < (itemRows l).length := by simpa [itemRows] using hk
  obtain ⟨b, off, rfl, hb, hc⟩ := h.seg.at_ (i := k) hk'
  refine ⟨b, off, rfl, hb, fun j v hv => ?_⟩
  rw [Nat.add_assoc]
  exact hc j v (by simpa [itemRows] using hv)
set_option maxHeartbeats 32000000 in
set_option maxRecDepth 100000 in
theorem foldCuts_walk (A : Option Addr) (n c : Nat) (l : List DeedD) (at_ : Int) (w : World) (hS : Sl w 8 A n c (deedRows l)) (hd : ∀ d ∈ l, d.ok) (hat : I64 at_) :
    Calls Try.prog 3 #[.slice A n c, .int .i64 at_] w fun e w' => e = .returned (.bool true) ∧ Below w.heap.size w w' := by
  have hn := deed_len hS
  subst hn
  obtain ⟨J, hJ⟩ : ∃ J, J = min l.length 29 := ⟨_, rfl⟩
  have hJl : J ≤ l.length := by omega
  have hJ29 : J ≤ 29 := by omega
  have hif : (if (29 : Int) < (l.length : Int) then (29 : Int) else (l.length : Int)) = (J : Int) := by split <;> omega
  have hmn : min (l.length : Int) 29 = (J : Int) := by omega
  clear hJ
  have hdl : ∀ d ∈ l.take J ++ [zeroDeed], d.ok := by
    intro d hm
    rcases List.mem_append.1 hm with hm | hm
    · exact hd d (List.mem_of_mem_take hm)
    · rw [List.mem_singleton] at hm; subst hm; exact zeroDeed_ok
  have HIT := hide (fun A n c w h => items_any A n c (l.take J ++ [zeroDeed]) 1 w h hdl (by omega) (by omega))
  have hg := items_good (l.take J ++ [zeroDeed])
  have hXl : (itemsOf (l.take J ++ [zeroDeed]) 1).length ≤ 30 := by rw [itemsOf_length]; omega
  have hX0 : 0 < (itemsOf (l.take J ++ [zeroDeed]) 1).length := by rw [itemsOf_length]; simp; omega
  generalize itemsOf (l.take J ++ [zeroDeed]) 1 = X at *
  have r1 := picked_lo at_ X.length (by omega)
  have r2 := picked_hi at_ X.length (by omega)
  have HPK := hide (fun w => picked_any at_ X.length w hat.1 hat.2 (by omega) (by omega))
  obtain ⟨k, hk⟩ := Int.eq_ofNat_of_zero_le r1
  rw [hk] at HPK r2
  have hkl : k < X.length := by omega
  have hLM : X.length - 1 < X.length := by omega
  have hfc := fold_cut hkl hg
  obtain ⟨x, hx⟩ : ∃ x, x = X[X.length - 1]'(by omega) := ⟨_, rfl⟩
  rw [← hx] at hfc
  have hfg := fold_gap x hg
  have hch := chain_each _ _ _ (log_good hg).2.2.2.2.2.2
  have hxc : checkItem x = 0 := hch x (hx ▸ List.getElem_mem _)
  have hok := fun (i : Int) (h1 : 1 ≤ i) (h2 : i ≤ 1048576) r (hr : r ∈ linesFrom 1 X ++ [RK.line i x]) => (List.mem_append.1 hr).elim (linesFrom_ok X 1 (by omega) (by omega) hch r) (fun h => by rw [List.mem_singleton] at h; subst h; exact (show (RK.line i x).Ok from ⟨number_iff.2 ⟨h1, h2⟩, hxc⟩))
  have HF1 := hide (fun A n c w h => Fold_any (linesFrom 1 X ++ [RK.line ((k : Int) + 1) x]) (hok _ (by omega) (by omega)) A n c (lineRows 1 X ++ [lineCells ((k : Int) + 1) x]) w h)
  have HF2 := hide (fun A n c w h => Fold_any (linesFrom 1 X ++ [RK.line ((X.length : Int) + 2) x]) (hok _ (by omega) (by omega)) A n c (lineRows 1 X ++ [lineCells ((X.length : Int) + 2) x]) w h)
  rw [hfc] at HF1
  unfold FoldPost at HF1 HF2
  rw [hfg] at HF2
  simp only [newDk, newMach] at HF1
  have honeX := hide (lineRows_one X 1)
  have hone1 := hide (show ∀ i : Int, ∀ r ∈ [lineCells i x], ∀ u ∈ r, u.oneCell' = true from fun i r hr => by rw [List.mem_singleton] at hr; subst hr; exact all_one rfl)
  have HX := hide hx
  clear hd hdl hk r1 hat hfc hfg hch hxc hok hg hx
  have hlm := hS.nc
  have hlc := hS.cm
  unfold maxLen at hlc
  have s1 := fun w => run_take Try.underlying22 deed_size A l.length c J (by omega) w
  have hSt := hS.take J hJl c (by omega) (Nat.le_refl _)
  rw [deedRows_take] at hSt
  have hJc : (J : Int) ≤ (c : Int) := by omega
  go_enter Try.func3, Try.ntmps3
  go_wp2_with (first
    | (at_builtin; refine wpList_pushes rfl _ _ _ rfl Try.underlying22 deed_info rfl (by decide) (by rfl) (Own.nil (base := w.heap.size)) (by rfl) hSt (deed_one _) (by simp [maxLen]; omega) (by simp; omega) (Nat.le_refl _) ?_; intro A1 n1 c1 w1 hown1 hb1)
    | (at_builtin; refine wpList_push rfl _ _ _ rfl Try.underlying22 deed_info rfl (by decide) (by rfl) hown1 rfl (by rfl) rfl (row := #[.int .i64 0, .int .i64 0, .int .i64 0, .int .i64 0, .int .i64 0, .int .i64 0, .int .i64 0, .string emp]) (by simp [Value.oneCell']) ?_ ?_ (by have := hb1.size; omega) ?_))
  · rw [List.nil_append, show (deedRows (l.take J)).length = J by simp [deedRows]; omega]; unfold maxLen; omega
  · rw [List.nil_append, show (deedRows (l.take J)).length = J by simp [deedRows]; omega]; omega
  intro v' w2 hown2 hb2 hz2
  have hown3 : Own w2 w.heap.size 28 8 v' (deedRows (l.take J ++ [zeroDeed])) := by rw [deedRows_snoc]; exact hown2
  obtain ⟨A2, n2, c2, rfl⟩ : ∃ A n c, v' = .slice A n c := by obtain ⟨A, c, e, _⟩ := hown3.sl; exact ⟨A, _, c, e⟩
  have hbw : Below w.heap.size w w2 := hb1.trans hb2
  clear hif hmn s1 hSt hown2 hown1
  go_wp2_with fail
  refine (HIT.out _ _ _ _ hown3.sl').mono ?_
  rintro e w3 ⟨v, rfl, O1, b3⟩
  obtain ⟨A1, n1, c1, rfl⟩ := own_slice O1
  have S1 := O1.sl'
  obtain rfl := rows_len S1
  have q3 := bstep hbw b3
  clear O1 HIT hown3 hbw b3 hb1 hb2 hz2
  go_wp2_with fail
  go_loopw [6, 7] (fun s6 s7 wr => ∃ j : Nat, j ≤ X.length ∧ s7 = .int .i64 (j : Int) ∧ Own wr w3.heap.size 45 20 s6 (lineRows 1 (X.take j)) ∧ Below w3.heap.size w3 wr) (fun _ s7 _ => X.length - (intOf s7).toNat)
  case atStart => exact ⟨0, by omega, rfl, Own.nil, Below.refl _ _⟩
  case round =>
    obtain ⟨j, hj, rfl, O, q⟩ := hrel
    by_cases hlt : j < X.length
    · obtain ⟨b, off, rfl, hb, I⟩ := (S1.below q).item hlt
      obtain ⟨i0, i1, i2, i3, i4, i5, i6, i7, i8, i9⟩ := I
      have hsn := hide (show lineRows 1 (X.take (j + 1)) = lineRows 1 (X.take j) ++ [lineCells (j + 1) X[j]] by
        rw [List.take_succ_eq_append_getElem hlt, lineRows_snoc, List.length_take, Nat.min_eq_left hj, Int.add_comm])
      have hlen := hide (show (lineRows 1 (X.take j)).length = j by rw [lineRows_len, List.length_take, Nat.min_eq_left hj])
      have hqs := q.size
      generalize X[j] = y at *
      go_wp2_with (at_builtin; refine wpList_push rfl _ _ _ rfl Try.underlying29 rec_infoL rfl (by decide) (by rfl) O rfl (by rfl) (row := #[.int .i64 2, .int .i64 0, .int .i64 0, .int .i64 ((j : Int) + 1), .int .i64 y.term, .int .i64 y.time, .bool y.nop, .int .i64 y.client, .int .i64 y.seq, .int .i64 y.cmd.kind, .string y.cmd.key, .string y.cmd.field, .string y.cmd.text, .int .i64 y.cmd.n, .int .i64 0, .int .i64 0, .int .i64 0, .slice none 0 0, .int .i64 0, .slice none 0 0]) rfl (all_one rfl) ?_ ?_ hqs ?_)
      · rw [hlen.out]; unfold maxLen; omega
      · rw [hlen.out]; omega
      intro v5 w5 O5 b5 hz5
      replace O5 : Own w5 w3.heap.size 45 20 v5 (lineRows 1 (X.take (j + 1))) := by rw [hsn.out]; exact O5
      go_wp2_with fail
      go_roundw
      case rel => exact ⟨j + 1, by omega, by go_num, O5, q.trans b5⟩
      case measure => simp [intOf]; omega
    · obtain rfl : j = X.length := by omega
      rw [List.take_of_length_le (Nat.le_refl _)] at O
      obtain ⟨A4, n4, c4, rfl⟩ := own_slice O
      have RS := lineRows_recs O.sl'
      obtain rfl : X.length = n4 := by rw [← RS.sl.len, lineRows_len]
      replace S1 := S1.below q
      replace q := bstep q3 q
      clear O q3
      go_wp2_with fail
      refine (HPK.out _).mono ?_
      rintro e w' ⟨rfl, rfl⟩
      obtain ⟨xb, xo, rfl, hxb, XI⟩ := S1.item hLM
      rw [← HX.out] at XI
      obtain ⟨i0, i1, i2, i3, i4, i5, i6, i7, i8, i9⟩ := XI
      have hX1 : (0 : Int) < (X.length : Int) := by omega
      have XB := Blk.new wr 35 #[.int .i64 x.term, .int .i64 x.time, .bool x.nop, .int .i64 x.client, .int .i64 x.seq, .int .i64 x.cmd.kind, .string x.cmd.key, .string x.cmd.field, .string x.cmd.text, .int .i64 x.cmd.n]
      have bz : Below wr.heap.size wr (wr.alloc (.cells #[.int .i64 x.term, .int .i64 x.time, .bool x.nop, .int .i64 x.client, .int .i64 x.seq, .int .i64 x.cmd.kind, .string x.cmd.key, .string x.cmd.field, .string x.cmd.text, .int .i64 x.cmd.n] 35)) := below_by
      replace S1 := S1.below bz
      replace RS := RS.bl bz
      replace q := bstep q bz
      clear bz
      obtain ⟨gx, hgx⟩ : ∃ gx, gx = wr.heap.size := ⟨_, rfl⟩
      go_upto_region 9 with fail
      obtain ⟨w8, hw8⟩ : ∃ w8, w8 = wr.alloc (.cells #[.int .i64 x.term, .int .i64 x.time, .bool x.nop, .int .i64 x.client, .int .i64 x.seq, .int .i64 x.cmd.kind, .string x.cmd.key, .string x.cmd.field, .string x.cmd.text, .int .i64 x.cmd.n] 35) := ⟨_, rfl⟩
      rw [← hw8] at S1 RS q XB ⊢
      rw [← hgx] at XB ⊢
      clear hw8 hgx i0 i1 i2 i3 i4 i5 i6 i7 i8 i9 HPK hX1
      have wk1 : IntKind.i64.wrap ((k : Int) + 1) = (k : Int) + 1 := IntWalk.i64_in _ (by omega)
      have wk2 : IntKind.i64.wrap ((X.length : Int) + 2) = (X.length : Int) + 2 := IntWalk.i64_in _ (by omega)
      refine wp_region_x (l := []) (S := fun w' => Blk w' gx 35 #[.int .i64 x.term, .int .i64 x.time, .bool x.nop, .int .i64 x.client, .int .i64 x.seq, .int .i64 x.cmd.kind, .string x.cmd.key, .string x.cmd.field, .string x.cmd.text, .int .i64 x.cmd.n]) (by kernel_rfl) XB.drew (fun hS => ?_)
      have bd : Below w8.heap.size w8 w8.drew := (Below.refl _ w8).drew
      obtain ⟨wd, hwd⟩ : ∃ wd, wd = w8.drew := ⟨_, rfl⟩
      rw [← hwd] at hS bd ⊢
      clear hwd
      replace XB := XB.below' bd; replace RS := RS.bl bd; replace S1 := S1.below bd; replace q := bstep q bd
      have HS := hide (fun w' (b' : Below wd.heap.size wd w') => XB.below' b')
      refine wpAnyX_tq 0 ?_
      refine wpAnyX_tq 2 ?_
      refine wpAnyX_tq 3 ?_
      refine wpAnyX_tq 4 ?_ (hy := yieldsIf_load_blkC (by rfl) 35 _ rfl rfl (fun w' h => h) Try.underlying35 rfl item_size)
      refine wpAnyX_tq 5 ?_
      clear hS
      refine wpG_start2 (j1 := 6) (d1 := 57) (t1 := 45) (z1 := #[.int .i64 2, .int .i64 0, .int .i64 0, .int .i64 ((k : Int) + 1), .int .i64 x.term, .int .i64 x.time, .bool x.nop, .int .i64 x.client, .int .i64 x.seq, .int .i64 x.cmd.kind, .string x.cmd.key, .string x.cmd.field, .string x.cmd.text, .int .i64 x.cmd.n, .int .i64 0, .int .i64 0, .int .i64 0, .slice none 0 0, .int .i64 0, .slice none 0 0]) (v1 := vsl 1) (C1 := fun a => a.tmps[56]?.getD undef = .agg #[.int .i64 2, .int .i64 0, .int .i64 0, .int .i64 ((k : Int) + 1), .int .i64 x.term, .int .i64 x.time, .bool x.nop, .int .i64 x.client, .int .i64 x.seq, .int .i64 x.cmd.kind, .string x.cmd.key, .string x.cmd.field, .string x.cmd.text, .int .i64 x.cmd.n, .int .i64 0, .int .i64 0, .int .i64 0, .slice none 0 0, .int .i64 0, .slice none 0 0]) (j2 := 12) (d2 := 10) (t2 := 50) (z2 := #[.int .i64 0, .int .i64 0, .int .i64 0, .int .i64 0, .int .i64 0, .slice none 0 0, .int .i64 0, .slice none 0 0, .int .i64 0, .int .i64 0, .slice none 0 0]) (v2 := vptr) (C2 := fun _ => True) ⟨⟨_, rfl, rfl, rfl, fun a w h => ?al1⟩, vsl_inj 1⟩ ⟨⟨_, rfl, rfl, rfl, fun a w _ => ?al2⟩, vptr_inj⟩ (fun al1 al2 => ?_)
      (case al1 => simp [go_sem, execOp, h, vsl])
      (case al2 => simp [go_sem, execOp, vptr])
      refine wpG_phase2 (base := wd.heap.size) al1 al2 1 (f := 7) (fun b_ c_ => #[true, false, true, true, true, true, b_, false, false, false, false, false, c_, false, false]) (fun w' => Below wd.heap.size wd w') (x := undef) (y := undef) (fun w' q => HS.out w' q) (fun w' o q => q.alloc q.size o) (fun w' q => q.size) (fun _ _ => rfl) (fun _ _ => trivial) (Below.refl _ wd) PendG.no PendG.no TwoG.no ?_
      intro b_ c_ x_ y_ wa Ga hx hy hxy K_ hK_
      (try simp only [vptr, vsl, Act.put, List.setIfInBounds_toArray, List.set_cons_zero, List.set_cons_succ, List.getElem_toArray, List.getElem_cons_zero, List.getElem_cons_succ])
      have ha := Ga.size
      have Sa := RS.bl Ga
      go_wp2_with (at_builtin; refine wpList_pushes_g rfl _ _ _ rfl Try.underlying29 rec_infoL rfl (by decide) (by rfl) (Own.nil (base := wd.heap.size)) (by rfl) Sa.sl honeX.out (by simp [maxLen]; omega) (by simp; omega) ha ?_; intro Ab nb cb wb Ob bb gb)
      have Gb := Ga.trans bb
      have hxb : PendG b_ wd.heap.size 45 #[.int .i64 2, .int .i64 0, .int .i64 0, .int .i64 ((k : Int) + 1), .int .i64 x.term, .int .i64 x.time, .bool x.nop, .int .i64 x.client, .int .i64 x.seq, .int .i64 x.cmd.kind, .string x.cmd.key, .string x.cmd.field, .string x.cmd.text, .int .i64 x.cmd.n, .int .i64 0, .int .i64 0, .int .i64 0, .slice none 0 0, .int .i64 0, .slice none 0 0] (vsl 1) x_ wb := hx.grew gb (fun p _ _ => by simp [Value.ownBlock])
      have hyb : PendG c_ wd.heap.size 50 #[.int .i64 0, .int .i64 0, .int .i64 0, .int .i64 0, .int .i64 0, .slice none 0 0, .int .i64 0, .slice none 0 0, .int .i64 0, .int .i64 0, .slice none 0 0] vptr y_ wb := hy.grew gb (fun p _ _ => by simp [Value.ownBlock])
      refine hK_.out _ _ (Or.inr (HS.out _ Gb)) ?_
      clear hK_ K_ hx hy gb bb Ga Sa ha
      refine wpG_force (base := wd.heap.size) al1 al2 (f := 7) (fun b_ c_ => #[true, true, true, true, true, true, b_, false, false, false, false, false, c_, false, false]) (fun w' => Below wb.heap.size wb w') (x := x_) (y := y_) (fun w' q => HS.out w' (bstep Gb q)) (fun w' o q => q.alloc q.size o) (fun w' q => Nat.le_trans Gb.size q.size) (fun _ _ => rfl) (fun _ _ => trivial) (Below.refl _ wb) hxb hyb hxy ?_
      clear hxb hyb hxy
      intro c_ p_ y_ wc Gc hpc Bc hy hne
      clear hne
      replace Ob := Ob.below Gc
      replace Gc := bstep Gb Gc
      clear Gb
      refine wpG_phase1 (base := wd.heap.size) al2 7 (f := 6) (fun b_ => #[true, true, true, true, true, true, true, false, false, false, false, false, b_, false, false]) (fun w' => Below wc.heap.size wc w') (x := y_) (fun w' q => HS.out w' (bstep Gc q)) (fun w' o q => q.alloc q.size o) (fun w' q => Nat.le_trans Gc.size q.size) (fun _ => trivial) (Below.refl _ wc) hy ?_
      clear hy
      intro c_ y_ we Ge hy K_ hK_
      (try simp only [vptr, vsl, Act.put, List.setIfInBounds_toArray, List.set_cons_zero, List.set_cons_succ, List.getElem_toArray, List.getElem_cons_zero, List.getElem_cons_succ])
      replace Ob := Ob.below Ge
      replace Bc := Bc.below' Ge
      replace Ge := bstep Gc Ge
      clear Gc
      have he := Ge.size
      have hlb := Ob.sl'.len
      simp only [List.nil_append] at hlb
      have S7 : Sl we 20 (some ⟨p_, 0, none⟩) 1 1 [lineCells ((k : Int) + 1) x] := Sl.of_blk Bc rfl (by intro r hr; rw [List.mem_singleton] at hr; subst hr; rfl) rfl (by decide)
      go_wp2_with (at_builtin; refine wpList_pushes_g rfl _ _ _ rfl Try.underlying29 rec_infoL rfl (by decide) (by rfl) Ob (by rfl) S7 (hone1.out _) (by simp [maxLen, lineRows_len]; omega) (by simp [lineRows_len]; omega) he ?_; intro Af nf cf wf Of bf gf)
      have Gf := Ge.trans bf
      have hyf : PendG c_ wd.heap.size 50 #[.int .i64 0, .int .i64 0, .int .i64 0, .int .i64 0, .int .i64 0, .slice none 0 0, .int .i64 0, .slice none 0 0, .int .i64 0, .int .i64 0, .slice none 0 0] vptr y_ wf := hy.grew gf (fun p _ R => own_block_ne Ob R (by decide))
      refine hK_.out _ _ (Or.inr (HS.out _ Gf)) ?_
      clear hK_ K_ hy gf bf Ge Bc S7 Ob he
      refine wpG_phase1 (base := wd.heap.size) al2 8 (f := 5) (fun b_ => #[true, true, true, true, true, true, true, true, false, false, false, false, b_, false, false]) (fun w' => Below wf.heap.size wf w') (x := y_) (fun w' q => HS.out w' (bstep Gf q)) (fun w' o q => q.alloc q.size o) (fun w' q => Nat.le_trans Gf.size q.size) (fun _ => trivial) (Below.refl _ wf) hyf ?_
      clear hyf
      intro c_ y_ wg Gg hy K_ hK_
      (try simp only [vptr, vsl, Act.put, List.setIfInBounds_toArray, List.set_cons_zero, List.set_cons_succ, List.getElem_toArray, List.getElem_cons_zero, List.getElem_cons_succ])
      have Rg := lines_snoc_recs (Of.below Gg).sl'
      replace Gg := bstep Gf Gg
      clear Gf Of
      go_wp2_with fail
      refine ((HF1).out _ _ _ _ Rg).mono ?_
      rintro e wh ⟨h, -, bh⟩
      obtain ⟨A2, n2, c2, B2, k2, d2, I2, m2, e2, rfl, -, -, hI⟩ := h trivial
      go_wp2_with fail
      have Gh := bstep Gg bh
      replace hy := hy.bl bh
      have hSh := HS.out _ Gh
      refine hK_.out _ _ (Or.inr hSh) ?_
      clear hK_ K_ Gg bh Rg HF1
      refine wpG_take1 9 (f := 4) (fun b_ => #[true, true, true, true, true, true, true, true, true, false, false, false, b_, false, false]) ?_
      refine wpG_take1 10 (f := 3) (fun b_ => #[true, true, true, true, true, true, true, true, true, true, false, false, b_, false, false]) ?_
      refine wpG_take1 11 (f := 2) (fun b_ => #[true, true, true, true, true, true, true, true, true, true, true, false, b_, false, false]) ?_
      refine wpG_lay1 (base := wd.heap.size) al2 (f := 2) (fun b_ => #[true, true, true, true, true, true, true, true, true, true, true, true, b_, false, false]) (fun w' => Below wh.heap.size wh w') (x := y_) (fun w' q => HS.out w' (bstep Gh q)) (fun w' o q => q.alloc q.size o) (fun w' q => Nat.le_trans Gh.size q.size) (fun _ => trivial) (Below.refl _ wh) hy ?_
      clear hy hSh
      intro gi wi bi hgi Bi
      (try simp only [vptr, vsl, Act.put, List.setIfInBounds_toArray, List.set_cons_zero, List.set_cons_succ, List.getElem_toArray, List.getElem_cons_zero, List.getElem_cons_succ])
      replace Gh := bstep Gh bi
      replace hI := hI.bl bi
      clear al1 al2 bi
      have hwdS := bd.size
      refine wpAnyX_oq 13 fun K hK => ?_
      refine wpList_store_blk rfl 50 _ _ rfl (cells := #[.int .i64 0, .int .i64 (-1), .int .i64 0, .int .i64 0, .int .i64 0, .slice A2 n2 c2, .int .i64 1, .slice B2 k2 d2, .int .i64 0, .int .i64 0, .slice I2 m2 e2]) rfl rfl Bi rfl disk_size (all_one rfl) ?_
      intro wj D9 grj szj
      have hgx : gx < wd.heap.size := by have := XB.lt; omega
      have XB' := XB; replace XB := grown_blk (XB.below' Gh) grj (by omega); clear XB'; have bij : Below wd.heap.size wd wj := below_grow Gh grj Gh.size hgi; replace RS := RS.bl bij; replace S1 := S1.below bij; have qj := bstep q bij; replace hI := OI.grew hI Bi grj; clear bij
      refine hK.out _ _ (Or.inr XB) (fun hS => ?_)
      clear hK K grj szj Bi Gh HS hS
      refine wpAnyX_oq 14 fun K hK => ?_
      go_wp2_with fail
      refine hK.out _ _ (Or.inr XB) (fun _ => ?_)
      clear hK K
      refine wpAnyX_done (by kernel_rfl) ?_ _
      have hD9 := D9.lt
      obtain ⟨g9, hg9⟩ : ∃ g9, g9 = gi := ⟨_, rfl⟩
      rw [← hg9] at D9 hD9 ⊢
      clear hg9 hgi q hwdS
      have q := qj
      clear qj
      go_upto_region 10 with fail
      refine wp_region_x (l := []) (S := fun w' => Blk w' gx 35 #[.int .i64 x.term, .int .i64 x.time, .bool x.nop, .int .i64 x.client, .int .i64 x.seq, .int .i64 x.cmd.kind, .string x.cmd.key, .string x.cmd.field, .string x.cmd.text, .int .i64 x.cmd.n]) (by kernel_rfl) XB.drew (fun hS => ?_)
      have bd : Below wj.heap.size wj wj.drew := (Below.refl _ wj).drew
      obtain ⟨wd, hwd⟩ : ∃ wd, wd = wj.drew := ⟨_, rfl⟩
      rw [← hwd] at hS bd ⊢
      clear hwd
      replace XB := XB.below' bd; replace RS := RS.bl bd; replace S1 := S1.below bd; replace D9 := D9.below' bd; replace hI := hI.bl bd; replace q := bstep q bd
      have HS := hide (fun w' (b' : Below wd.heap.size wd w') => XB.below' b')
      refine wpAnyX_tq 0 ?_
      refine wpAnyX_tq 2 ?_
      refine wpAnyX_tq 3 ?_
      refine wpAnyX_tq 4 ?_
      refine wpAnyX_tq 5 ?_ (hy := yieldsIf_load_blkC (by rfl) 35 _ rfl rfl (fun w' h => h) Try.underlying35 rfl item_size)
      refine wpAnyX_tq 6 ?_
      clear hS
      refine wpG_start2 (j1 := 7) (d1 := 70) (t1 := 45) (z1 := #[.int .i64 2, .int .i64 0, .int .i64 0, .int .i64 ((X.length : Int) + 2), .int .i64 x.term, .int .i64 x.time, .bool x.nop, .int .i64 x.client, .int .i64 x.seq, .int .i64 x.cmd.kind, .string x.cmd.key, .string x.cmd.field, .string x.cmd.text, .int .i64 x.cmd.n, .int .i64 0, .int .i64 0, .int .i64 0, .slice none 0 0, .int .i64 0, .slice none 0 0]) (v1 := vsl 1) (C1 := fun a => a.tmps[69]?.getD undef = .agg #[.int .i64 2, .int .i64 0, .int .i64 0, .int .i64 ((X.length : Int) + 2), .int .i64 x.term, .int .i64 x.time, .bool x.nop, .int .i64 x.client, .int .i64 x.seq, .int .i64 x.cmd.kind, .string x.cmd.key, .string x.cmd.field, .string x.cmd.text, .int .i64 x.cmd.n, .int .i64 0, .int .i64 0, .int .i64 0, .slice none 0 0, .int .i64 0, .slice none 0 0]) (j2 := 13) (d2 := 12) (t2 := 50) (z2 := #[.int .i64 0, .int .i64 0, .int .i64 0, .int .i64 0, .int .i64 0, .slice none 0 0, .int .i64 0, .slice none 0 0, .int .i64 0, .int .i64 0, .slice none 0 0]) (v2 := vptr) (C2 := fun _ => True) ⟨⟨_, rfl, rfl, rfl, fun a w h => ?al1⟩, vsl_inj 1⟩ ⟨⟨_, rfl, rfl, rfl, fun a w _ => ?al2⟩, vptr_inj⟩ (fun al1 al2 => ?_)
      (case al1 => simp [go_sem, execOp, h, vsl])
      (case al2 => simp [go_sem, execOp, vptr])
      refine wpG_phase2 (base := wd.heap.size) al1 al2 1 (f := 7) (fun b_ c_ => #[true, false, true, true, true, true, true, b_, false, false, false, false, false, c_, false, false]) (fun w' => Below wd.heap.size wd w') (x := undef) (y := undef) (fun w' q => HS.out w' q) (fun w' o q => q.alloc q.size o) (fun w' q => q.size) (fun _ _ => rfl) (fun _ _ => trivial) (Below.refl _ wd) PendG.no PendG.no TwoG.no ?_
      intro b_ c_ x_ y_ wa Ga hx hy hxy K_ hK_
      (try simp only [vptr, vsl, Act.put, List.setIfInBounds_toArray, List.set_cons_zero, List.set_cons_succ, List.getElem_toArray, List.getElem_cons_zero, List.getElem_cons_succ])
      have ha := Ga.size
      have Sa := RS.bl Ga
      go_wp2_with (at_builtin; refine wpList_pushes_g rfl _ _ _ rfl Try.underlying29 rec_infoL rfl (by decide) (by rfl) (Own.nil (base := wd.heap.size)) (by rfl) Sa.sl honeX.out (by simp [maxLen]; omega) (by simp; omega) ha ?_; intro Ab nb cb wb Ob bb gb)
      have Gb := Ga.trans bb
      have hxb : PendG b_ wd.heap.size 45 #[.int .i64 2, .int .i64 0, .int .i64 0, .int .i64 ((X.length : Int) + 2), .int .i64 x.term, .int .i64 x.time, .bool x.nop, .int .i64 x.client, .int .i64 x.seq, .int .i64 x.cmd.kind, .string x.cmd.key, .string x.cmd.field, .string x.cmd.text, .int .i64 x.cmd.n, .int .i64 0, .int .i64 0, .int .i64 0, .slice none 0 0, .int .i64 0, .slice none 0 0] (vsl 1) x_ wb := hx.grew gb (fun p _ _ => by simp [Value.ownBlock])
      have hyb : PendG c_ wd.heap.size 50 #[.int .i64 0, .int .i64 0, .int .i64 0, .int .i64 0, .int .i64 0, .slice none 0 0, .int .i64 0, .slice none 0 0, .int .i64 0, .int .i64 0, .slice none 0 0] vptr y_ wb := hy.grew gb (fun p _ _ => by simp [Value.ownBlock])
      refine hK_.out _ _ (Or.inr (HS.out _ Gb)) ?_
      clear hK_ K_ hx hy gb bb Ga Sa ha
      refine wpG_force (base := wd.heap.size) al1 al2 (f := 7) (fun b_ c_ => #[true, true, true, true, true, true, true, b_, false, false, false, false, false, c_, false, false]) (fun w' => Below wb.heap.size wb w') (x := x_) (y := y_) (fun w' q => HS.out w' (bstep Gb q)) (fun w' o q => q.alloc q.size o) (fun w' q => Nat.le_trans Gb.size q.size) (fun _ _ => rfl) (fun _ _ => trivial) (Below.refl _ wb) hxb hyb hxy ?_
      clear hxb hyb hxy
      intro c_ p_ y_ wc Gc hpc Bc hy hne
      clear hne
      replace Ob := Ob.below Gc
      replace Gc := bstep Gb Gc
      clear Gb
      refine wpG_phase1 (base := wd.heap.size) al2 8 (f := 6) (fun b_ => #[true, true, true, true, true, true, true, true, false, false, false, false, false, b_, false, false]) (fun w' => Below wc.heap.size wc w') (x := y_) (fun w' q => HS.out w' (bstep Gc q)) (fun w' o q => q.alloc q.size o) (fun w' q => Nat.le_trans Gc.size q.size) (fun _ => trivial) (Below.refl _ wc) hy ?_
      clear hy
      intro c_ y_ we Ge hy K_ hK_
      (try simp only [vptr, vsl, Act.put, List.setIfInBounds_toArray, List.set_cons_zero, List.set_cons_succ, List.getElem_toArray, List.getElem_cons_zero, List.getElem_cons_succ])
      replace Ob := Ob.below Ge
      replace Bc := Bc.below' Ge
      replace Ge := bstep Gc Ge
      clear Gc
      have he := Ge.size
      have hlb := Ob.sl'.len
      simp only [List.nil_append] at hlb
      have S7 : Sl we 20 (some ⟨p_, 0, none⟩) 1 1 [lineCells ((X.length : Int) + 2) x] := Sl.of_blk Bc rfl (by intro r hr; rw [List.mem_singleton] at hr; subst hr; rfl) rfl (by decide)
      go_wp2_with (at_builtin; refine wpList_pushes_g rfl _ _ _ rfl Try.underlying29 rec_infoL rfl (by decide) (by rfl) Ob (by rfl) S7 (hone1.out _) (by simp [maxLen, lineRows_len]; omega) (by simp [lineRows_len]; omega) he ?_; intro Af nf cf wf Of bf gf)
      have Gf := Ge.trans bf
      have hyf : PendG c_ wd.heap.size 50 #[.int .i64 0, .int .i64 0, .int .i64 0, .int .i64 0, .int .i64 0, .slice none 0 0, .int .i64 0, .slice none 0 0, .int .i64 0, .int .i64 0, .slice none 0 0] vptr y_ wf := hy.grew gf (fun p _ R => own_block_ne Ob R (by decide))
      refine hK_.out _ _ (Or.inr (HS.out _ Gf)) ?_
      clear hK_ K_ hy gf bf Ge Bc S7 Ob he
      refine wpG_phase1 (base := wd.heap.size) al2 9 (f := 5) (fun b_ => #[true, true, true, true, true, true, true, true, true, false, false, false, false, b_, false, false]) (fun w' => Below wf.heap.size wf w') (x := y_) (fun w' q => HS.out w' (bstep Gf q)) (fun w' o q => q.alloc q.size o) (fun w' q => Nat.le_trans Gf.size q.size) (fun _ => trivial) (Below.refl _ wf) hyf ?_
      clear hyf
      intro c_ y_ wg Gg hy K_ hK_
      (try simp only [vptr, vsl, Act.put, List.setIfInBounds_toArray, List.set_cons_zero, List.set_cons_succ, List.getElem_toArray, List.getElem_cons_zero, List.getElem_cons_succ])
      have Rg := lines_snoc_recs (Of.below Gg).sl'
      replace Gg := bstep Gf Gg
      clear Gf Of
      go_wp2_with fail
      refine ((HF2).out _ _ _ _ Rg).mono ?_
      rintro e wh ⟨-, h, bh⟩
      obtain rfl := h (by decide)
      clear h
      go_wp2_with fail
      have Gh := bstep Gg bh
      replace hy := hy.bl bh
      have hSh := HS.out _ Gh
      refine hK_.out _ _ (Or.inr hSh) ?_
      clear hK_ K_ Gg bh Rg HF2
      refine wpG_take1 10 (f := 4) (fun b_ => #[true, true, true, true, true, true, true, true, true, true, false, false, false, b_, false, false]) ?_
      refine wpG_take1 11 (f := 3) (fun b_ => #[true, true, true, true, true, true, true, true, true, true, true, false, false, b_, false, false]) ?_
      refine wpG_take1 12 (f := 2) (fun b_ => #[true, true, true, true, true, true, true, true, true, true, true, true, false, b_, false, false]) ?_
      refine wpG_lay1 (base := wd.heap.size) al2 (f := 2) (fun b_ => #[true, true, true, true, true, true, true, true, true, true, true, true, true, b_, false, false]) (fun w' => Below wh.heap.size wh w') (x := y_) (fun w' q => HS.out w' (bstep Gh q)) (fun w' o q => q.alloc q.size o) (fun w' q => Nat.le_trans Gh.size q.size) (fun _ => trivial) (Below.refl _ wh) hy ?_
      clear hy hSh
      intro gi wi bi hgi Bi
      (try simp only [vptr, vsl, Act.put, List.setIfInBounds_toArray, List.set_cons_zero, List.set_cons_succ, List.getElem_toArray, List.getElem_cons_zero, List.getElem_cons_succ])
      replace Gh := bstep Gh bi
      have hg9 : g9 < wd.heap.size := D9.lt
      clear al1 al2 bi
      have hwdS := bd.size
      refine wpAnyX_oq 14 fun K hK => ?_
      refine wpList_store_blk rfl 50 _ _ rfl (cells := #[.int .i64 0, .int .i64 0, .int .i64 0, .int .i64 0, .int .i64 0, .slice none 0 0, .int .i64 0, .slice none 0 0, .int .i64 0, .int .i64 0, .slice none 0 0]) rfl rfl Bi rfl disk_size (all_one rfl) ?_
      intro wj D10 grj szj
      have hgx : gx < wd.heap.size := by have := XB.lt; omega
      have bij : Below wd.heap.size wd wj := below_grow Gh grj Gh.size hgi; replace XB := XB.below' bij; replace RS := RS.bl bij; replace S1 := S1.below bij; replace D9 := D9.below' bij; replace hI := hI.bl bij; have qj := bstep q bij; clear bij
      refine hK.out _ _ (Or.inr XB) (fun hS => ?_)
      clear hK K grj szj Bi Gh HS hS
      refine wpAnyX_oq 15 fun K hK => ?_
      go_wp2_with fail
      refine hK.out _ _ (Or.inr XB) (fun _ => ?_)
      clear hK K
      refine wpAnyX_done (by kernel_rfl) ?_ _
      have hnI : m2 = k + 1 := by have := hI.len; simp at this; omega
      subst hnI
      obtain ⟨ib, io, hI2, hib, hrg⟩ := item_range hI.sl (show k < (X.take k ++ [x]).length by simp; omega)
      rw [show (X.take k ++ [x])[k]'(by simp; omega) = x by rw [List.getElem_append_right (by simp; omega)]; simp] at hrg
      subst hI2
      have SI := hI.sl.take k (by omega) e2 (by have := hI.sl.nc; omega) (Nat.le_refl _)
      rw [itemRows_take, List.take_append_of_le_length (by simp; omega), List.take_take, Nat.min_self] at SI
      have SX := S1.take k (by omega) c1 (by have := S1.nc; omega) (Nat.le_refl _)
      rw [itemRows_take] at SX
      have HSA := hide (fun w' a b => sameItems_yes (some ⟨ib, io, none⟩) (some ⟨xb, xo, none⟩) k k e2 c1 (X.take k) (X.take k) w' a b rfl)
      have t1 := fun w => run_take Try.underlying23 item_size (some ⟨ib, io, none⟩) (k + 1) e2 k (by have := hI.sl.nc; omega) w
      have t2 := fun w => run_take Try.underlying23 item_size (some ⟨xb, xo, none⟩) X.length c1 k (by have := S1.nc; omega) w
      have hesame := item_same x
      have hke : (k : Int) ≤ (e2 : Int) := by have := hI.sl.nc; omega
      have hkc : (k : Int) ≤ (c1 : Int) := by have := S1.nc; omega
      have hkk : (k : Int) < (k : Int) + 1 := by omega
      have hRG := hide (fun w' (b' : Below wj.heap.size wj w') => show w'.rangeAt ib (io + k * 10) [.int .i64 x.term, .int .i64 x.time, .bool x.nop, .int .i64 x.client, .int .i64 x.seq, .int .i64 x.cmd.kind, .string x.cmd.key, .string x.cmd.field, .string x.cmd.text, .int .i64 x.cmd.n] from fun j v hv => by rw [← hrg j v hv]; exact b'.cell (p := ⟨ib, io + k * 10 + j, none⟩) hib)
      clear hI S1 hrg RS D10
      go_upto_region 11 with fail
      refine wp_region_x (l := []) (S := fun w' => w'.cell? ⟨g9, 10, none⟩ = some (.slice (some ⟨ib, io, none⟩) (k + 1) e2) ∧ w'.rangeAt ib (io + k * 10) [.int .i64 x.term, .int .i64 x.time, .bool x.nop, .int .i64 x.client, .int .i64 x.seq, .int .i64 x.cmd.kind, .string x.cmd.key, .string x.cmd.field, .string x.cmd.text, .int .i64 x.cmd.n] ∧ Blk w' gx 35 #[.int .i64 x.term, .int .i64 x.time, .bool x.nop, .int .i64 x.client, .int .i64 x.seq, .int .i64 x.cmd.kind, .string x.cmd.key, .string x.cmd.field, .string x.cmd.text, .int .i64 x.cmd.n]) (by kernel_rfl) ⟨D9.drew.cell 10, hRG.out _ (Below.refl _ wj).drew, XB.drew⟩ (fun hS => ?_)
      have bd : Below wj.heap.size wj wj.drew := (Below.refl _ wj).drew
      replace SI := SI.below bd; replace SX := SX.below bd
      have HS := hide (fun w' (b' : Below wj.heap.size wj w') => And.intro ((D9.below' b').cell 10) (And.intro (hRG.out w' b') (XB.below' b')))
      obtain ⟨wd, hwd⟩ : ∃ wd, wd = wj.drew := ⟨_, rfl⟩
      rw [← hwd] at hS bd SI SX ⊢
      clear hwd
      refine wpAnyX_tq 0 ?_
      refine wpAnyX_tq 1 ?_
      refine wpAnyX_tq 2 ?_
      refine wpAnyX_tq 3 ?_
      refine wpAnyX_tq 4 ?_
      refine wpAnyX_tq 5 ?_
      refine wpAnyX_tq 6 ?_
      refine wpAnyX_tq 7 ?_
      refine wpAnyX_tq 8 ?_
      refine wpAnyX_tq 9 ?_
      refine wpAnyX_tq 10 ?_
      refine wpAnyX_tq 11 ?_
      refine wpAnyX_tq 12 ?_
      refine wpAnyX_tq 13 ?_
      refine wpAnyX_tq 14 ?_
      refine wpAnyX_tq 15 ?_
      refine wpAnyX_tq 16 ?_
      refine wpAnyX_tq 17 ?_
      refine wpAnyX_tq 18 ?_
      refine wpAnyX_tq 19 ?_
      refine wpAnyX_tq 20 ?_
      refine wpAnyX_tq 21 ?_ (hy := yieldsIf_load_mid (by rfl) 35 _ rfl ib (io + k * 10) rfl [.int .i64 x.term, .int .i64 x.time, .bool x.nop, .int .i64 x.client, .int .i64 x.seq, .int .i64 x.cmd.kind, .string x.cmd.key, .string x.cmd.field, .string x.cmd.text, .int .i64 x.cmd.n] _ (fun w' h => h.2.1) Try.underlying35 rfl item_size)
      refine wpAnyX_tq 22 ?_ (hy := yieldsIf_load_blkC (by rfl) 35 _ rfl rfl (fun w' h => h.2.2) Try.underlying35 rfl item_size)
      refine wpAnyX_tq 23 ?_
      refine wpAnyX_tq 24 ?_
      refine wpAnyX_tq 25 ?_
      refine wpAnyX_tq 26 ?_
      refine wpAnyX_tq 27 ?_
      refine wpAnyX_tq 28 ?_
      refine wpAnyX_tq 29 ?_
      refine wpAnyX_tq 30 ?_
      refine wpAnyX_tq 31 ?_
      refine wpAnyX_tq 32 ?_
      refine wpAnyX_tq 33 ?_
      refine wpAnyX_onew (i := 34) (by kernel_rfl) rfl (by rfl) (fun K hK => ?_); (try simp only [List.getElem_toArray, List.getElem_cons_zero, List.getElem_cons_succ])
      go_wp2_with fail
      refine (HSA.out _ SI SX).mono ?_
      rintro e wz ⟨rfl, bz⟩
      go_wp2_with fail
      have qz := bstep bd bz
      have qf := bstep qj qz
      refine hK.out _ _ (Or.inr (HS.out _ qz)) (fun hS => ?_)
      replace hS := hS.resolve_left (by decide)
      clear hK K HSA
      refine wpAnyX_tq 35 ?_
      refine wpAnyX_ps 36 ?_
      clear hS
      refine wpAnyX_done (by kernel_rfl) ?_ _
      go_wp2_with fail
      go_ret
      exact ⟨rfl, qf⟩
set_option maxRecDepth 100000 in
theorem foldCuts_lifted (os : Os) (started : os.Started) (H : Type) (enc : TypeId × Value → H) :
  ReturnsInHanded {} Try.checked os 3 .any (Rows.foldCutsSpec.pre6 enc Try.prog Try.f3 Rows.foldCutsRow.domain false) (Rows.foldCutsSpec.post enc Try.prog Try.f3 false true false false) := by
  refine returnsInHanded_of_change (C := Try.checked) Try.own started (by kernel_rfl) Try.func3 (ChangeSpec.witness6 (enc := enc) (C := Try.checked) false ⟨#[], #[.slice none 0 0, .int .i64 0], []⟩ 8 (by kernel_rfl) (by kernel_rfl) (by kernel_rfl) (by kernel_rfl)) ?_
  intro W base args ds gs before hval0 hW hcnd _
  have hval : ∀ (j : Nat) t v, Try.f3.params[j]? = some t → args[j]? = some v → Value.okWide Try.prog W .any base t v := hval0
  have hW' := hW
  obtain ⟨p, q, hA0, hV, rfl, hfz, hnd⟩ := hW
  have hA : DataW.TrodAll enc Try.prog W 0 (fun _ => true) true Try.f3.params.toList args.toList ds p := hA0
  rw [Try.params3] at hA hval
  obtain ⟨rfl, rfl⟩ := trodVars_none hV
  clear hA0 hval0 hcnd hV hfz hnd
  obtain ⟨v0, v1, d0, d1, p0, p1, rfl, rfl, rfl, h0, h1⟩ := trodAll_two hA
  obtain ⟨A, n, c, l, rfl, hd, hS⟩ := open_deeds (hval 0 22 v0 rfl rfl) h0
  obtain ⟨m1, rfl, rfl, rfl, w1⟩ := open_int Try.underlying3 (hval 1 3 v1 rfl rfl) h1
  refine (foldCuts_walk A n c l m1 W hS hd (i64_bounds w1)).mono fun e W' ⟨he, hb⟩ => ?_
  subst he
  exact ⟨_, rfl, post_law Try.laidOut hW' rfl (by kernel_rfl) rfl Try.underlying4 (fun _ => rfl) (fun _ => rfl) (fun _ => rfl) hb⟩
theorem foldCuts_holds : Rows.FoldCutsSaid := OpenClaim.holds_of_wide 3 Try.f3 rfl rfl rfl rfl rfl rfl rfl ⟨rfl, rfl, rfl, rfl, rfl⟩ rfl rfl rfl rfl rfl (by kernel_rfl) Try.func3 (by kernel_rfl)
  (of_decide_eq_true (by kernel_rfl)) (by unfold Func.isWrapper; first | (rw [if_pos (by decide +kernel)]; kernel_rfl) | (rw [if_neg (by decide +kernel)]; exact ⟨rfl, rfl⟩))
  (fun os started H enc _ => foldCuts_lifted os started H enc)
#print axioms foldCuts_holds
end Go.Proofs.Ytgmojjclobkpjaa
