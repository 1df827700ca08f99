/- rostrumkeep.MatchCuts returns true for every input and leaves its arguments as they were; no condition. -/
import Derived.Test.YtaldmianlmgloabCuts
namespace Go.Proofs.Ytaldmianlmgloab
set_option linter.all false
open Go.ChangeShapes Go.WideShapes Go.ChangeAt Go.RowKit
theorem item_same (x : Itm) (w : World) : (binOp .eql 29 (.agg #[.int .i64 x.term, .int .i64 x.time, .bool x.nop, .int .i64 x.client, .int .i64 x.seq, .int .i64 x.cmd.kind, .string x.cmd.key, .string x.cmd.field, .string x.cmd.text, .int .i64 x.cmd.n])
    (.agg #[.int .i64 x.term, .int .i64 x.time, .bool x.nop, .int .i64 x.client, .int .i64 x.seq, .int .i64 x.cmd.kind, .string x.cmd.key, .string x.cmd.field, .string x.cmd.text, .int .i64 x.cmd.n])).run Try.prog w = .ok (.bool true) w := by simp [go_sem]
theorem sameItems_yes (A B : Option Addr) (n m c d : Nat) (a b : List Itm) (w : World) (ha : Sl w 10 A n c (itemRows a)) (hb : Sl w 10 B m d (itemRows b)) (h : a = b) :
    Calls Try.prog 19 #[.slice A n c, .slice B m d] w fun e w' => e = .returned (.bool true) ∧ Below w.heap.size w w' :=
  (sameItems_any A B n m c d a b w ha hb).mono fun e w' ⟨h1, h2⟩ => ⟨by rw [h1]; simp [h], h2⟩
set_option maxRecDepth 100000 in
set_option maxHeartbeats 8000000 in
theorem matchCuts_walk (A : Option Addr) (n c : Nat) (l : List DeedD) (base at_ : Int) (w : World) (hS : Sl w 8 A n c (deedRows l)) (hd : ∀ d ∈ l, d.ok) (hb : I64 base) (hat : I64 at_) :
    Calls Try.prog 6 #[.slice A n c, .int .i64 base, .int .i64 at_] w fun e w' => e = .returned (.bool true) ∧ Below w.heap.size w w' := by
  have hn := deed_len hS
  subst hn
  obtain ⟨J, hJ⟩ : ∃ J, J = min l.length 29 := ⟨_, rfl⟩
  have hJl : J ≤ l.length := by omega
  have hJ29 : J ≤ 29 := by omega
  have hif : (if (29 : Int) < (l.length : Int) then (29 : Int) else (l.length : Int)) = (J : Int) := by split <;> omega
  clear hJ
  have hdl : ∀ d ∈ l.take J ++ [zeroDeed], d.ok := by
    intro d hm
    rcases List.mem_append.1 hm with hm | hm
    · exact hd d (List.mem_of_mem_take hm)
    · rw [List.mem_singleton] at hm; subst hm; exact zeroDeed_ok
  have hterms := log_terms (l.take J ++ [zeroDeed]) base
  have hlen := logItems_length (l.take J ++ [zeroDeed]) base
  obtain ⟨b, bt, L, hG, -, -, hLe, HL⟩ := Log_good2 (l.take J ++ [zeroDeed]) base hb hdl
  rw [← hLe] at hterms hlen
  have hL0 : 0 < L.length := by rw [hlen]; simp; omega
  clear hd hdl hLe hlen
  obtain ⟨g1, g2, g3, g4, g5, g6⟩ := hG
  have r1 := picked_lo at_ L.length (by omega)
  have r2 := picked_hi at_ L.length (by omega)
  have hR := fun w => picked_any at_ L.length w hat.1 hat.2 (by omega) (by omega)
  obtain ⟨k, hk⟩ := Int.eq_ofNat_of_zero_le r1
  rw [hk] at hR r2
  have hkl : k < L.length := by omega
  obtain ⟨ok1, m1, ok2, m2⟩ := cuts_match g1 g5 g3 g6 hterms hkl
  have hT := fun A c w (h : Sl w 10 A L.length c (itemRows L)) => Term_any b bt A _ c L (b + k) w ⟨by omega, by omega⟩ ⟨by omega, by omega⟩ ⟨by omega, by omega⟩ h g1
  have hTe : termE b bt L (b + k) = ((termOf b bt L (b + k)).1, 0) := by rw [termE_in (by omega) (by omega), ← termOf_in (bt := bt) (base := b) (show k ≤ L.length by omega)]
  rw [hTe] at hT
  obtain ⟨_, t2, t3, _⟩ := trim_good g1 (show k ≤ L.length by omega)
  generalize (termOf b bt L (b + k)).1 = T at ok1 m1 m2 hT t2 t3
  have hlast : (L[L.length - 1]'(by omega)).term ≤ 32 := hterms _ (List.getElem_mem _)
  have hlast1 : 1 ≤ (L[L.length - 1]'(by omega)).term := (checkItem_ok (chain_mono L bt 0 (log_good g1).2.2.2.2.2.2 _ (List.getElem_mem (show L.length - 1 < L.length by omega))).2.2).1
  obtain ⟨x, hx⟩ : ∃ x : Itm, x = { L[k] with term := (L[L.length - 1]'(by omega)).term + 1 } := ⟨_, rfl⟩
  rw [← hx] at ok1 m1 ok2 m2
  have hM := fun A c B w (h : Sl w 10 A L.length c (itemRows L)) (h2 : Sl w 10 B 1 1 (itemRows [x])) => Match_some b bt A _ c L (b + k) T B 1 1 [x] w ⟨by omega, by omega⟩ ⟨by omega, by omega⟩ h g1 ⟨by omega, by omega⟩ ⟨by omega, by omega⟩ h2 ok1 m1
  have hM2 := fun A n c B w (h : Sl w 10 A n c (itemRows (L.take k ++ [x]))) (h2 : Sl w 10 B 1 1 (itemRows [x])) => Match_some b bt A n c (L.take k ++ [x]) (b + k) T B 1 1 [x] w ⟨by omega, by omega⟩ ⟨by omega, by omega⟩ h ok2 ⟨by omega, by omega⟩ ⟨by omega, by omega⟩ h2 ok1 m2
  have HR := hide hR; have HM := hide hM; have HM2 := hide hM2; have HT := hide hT; have HX := hide hx
  clear hR hk r1 hM hM2 hT ok1 m1 ok2 m2 g1 hTe hterms hx
  have hlm := hS.nc
  have hlc := hS.cm
  unfold maxLen at hlc
  have s1 := fun w => run_take Try.underlying37 deed_size A l.length c J (by omega) w
  have hSt := hS.take J hJl c (by omega) (Nat.le_refl _)
  rw [deedRows_take] at hSt
  have hJc : (J : Int) ≤ (c : Int) := by omega
  go_enter Try.func6, Try.ntmps6
  go_wp2_with (first
    | (at_builtin; refine wpList_pushes rfl _ _ _ rfl Try.underlying37 deed_info rfl (by decide) (by rfl) (Own.nil (base := w.heap.size)) (by rfl) hSt (deed_one _) (by simp [maxLen]; omega) (by simp; omega) (Nat.le_refl _) ?_; intro A1 n1 c1 w1 hown1 hb1)
    | (at_builtin; refine wpList_push rfl _ _ _ rfl Try.underlying37 deed_info rfl (by decide) (by rfl) hown1 rfl (by rfl) rfl (row := #[.int .i64 0, .int .i64 0, .int .i64 0, .int .i64 0, .int .i64 0, .int .i64 0, .int .i64 0, .string emp]) (by simp [Value.oneCell']) ?_ ?_ (by have := hb1.size; omega) ?_))
  · rw [show (deedRows (l.take J)).length = J by simp [deedRows]; omega]; unfold maxLen; omega
  · rw [show (deedRows (l.take J)).length = J by simp [deedRows]; omega]; omega
  intro v' w2 hown2 hb2 hz2
  have hown3 : Own w2 w.heap.size 46 8 v' (deedRows (l.take J ++ [zeroDeed])) := by rw [deedRows_snoc]; exact hown2
  obtain ⟨A2, n2, c2, rfl⟩ : ∃ A n c, v' = .slice A n c := by obtain ⟨A, c, e, _⟩ := hown3.sl; exact ⟨A, _, c, e⟩
  have hbw : Below w.heap.size w w2 := hb1.trans hb2
  clear hif s1 hSt hown2 hown1
  go_wp2_with fail
  refine (HL.out _ _ _ _ hown3.sl').mono ?_
  rintro e w3 ⟨A', c', rfl, hsl, hb3⟩
  have hz3 : w.heap.size ≤ w3.heap.size := by have := hbw.size; have := hb3.size; omega
  have Bg := Blk.new w3 31 #[.int .i64 b, .int .i64 bt, .slice A' L.length c']
  replace hsl := hsl.al (.cells #[.int .i64 b, .int .i64 bt, .slice A' L.length c'] 31)
  (try clear cBg fBg); have cBg := Bg.cell; have fBg := Bg.frozen
  have hcm := hsl.cm
  have hnc := hsl.nc
  unfold maxLen at hcm
  clear hown3
  go_wp2_with fail
  refine (HR.out _).mono ?_
  rintro e w' ⟨rfl, rfl⟩
  go_wp2_with fail
  refine (HT.out _ _ _ hsl).mono ?_
  rintro e w4 ⟨rfl, hb4⟩
  replace Bg := Bg.bl hb4; replace hsl := hsl.bl hb4
  (try clear cBg fBg); have cBg := Bg.cell; have fBg := Bg.frozen
  have hbk : IntKind.i64.wrap (b + (k : Int)) = b + k := IntWalk.i64_in _ (by omega)
  obtain ⟨yb, yo, hA', hyb, ⟨i0, i1, i2, i3, i4, i5, i6, i7, i8, i9⟩⟩ := hsl.item hkl
  obtain ⟨zb, zo, hA2, hzb, ⟨j0, _⟩⟩ := hsl.item (k := L.length - 1) (by omega)
  rw [hA'] at hA2
  injection hA2 with hA2
  injection hA2 with e1 e2
  subst e1; subst e2; subst hA'
  obtain rfl := HX.out
  clear HX
  generalize (L[L.length - 1]'(by omega)).term = lt at *
  generalize L[k] = y at *
  have hk1 : (k : Int) < (L.length : Int) := by omega
  have hL1 : (0 : Int) < (L.length : Int) := by omega
  have hlt1 : IntKind.i64.wrap (lt + 1) = lt + 1 := IntWalk.i64_in _ (by omega)
  have hg1 : w3.heap.size < w4.heap.size := Bg.lt
  have Bga := Bg.al (.cells #[.int .i64 y.term, .int .i64 y.time, .bool y.nop, .int .i64 y.client, .int .i64 y.seq, .int .i64 y.cmd.kind, .string y.cmd.key, .string y.cmd.field, .string y.cmd.text, .int .i64 y.cmd.n] 29)
  have cBga := Bga.cell
  have j0a := (World.cell?_alloc_lt w4 (.cells #[.int .i64 y.term, .int .i64 y.time, .bool y.nop, .int .i64 y.client, .int .i64 y.seq, .int .i64 y.cmd.kind, .string y.cmd.key, .string y.cmd.field, .string y.cmd.text, .int .i64 y.cmd.n] 29) ⟨yb, yo + (L.length - 1) * 10, none⟩ hyb).trans j0
  go_wp2_with fail
  clear cBga cBg fBg j0a
  have hx1 : ∀ (w : World) (g : Nat), Blk w g 29 #[.int .i64 (lt + 1), .int .i64 y.time, .bool y.nop, .int .i64 y.client, .int .i64 y.seq, .int .i64 y.cmd.kind, .string y.cmd.key, .string y.cmd.field, .string y.cmd.text, .int .i64 y.cmd.n] → Sl w 10 (some ⟨g, 0, none⟩) 1 1 (itemRows [{ y with term := lt + 1 }]) := fun w g h => Sl.of_blk h rfl (by intro r hr; simp only [itemRows, List.map_cons, List.map_nil, List.mem_singleton] at hr; subst hr; rfl) rfl (by decide)
  have HX1 := hide hx1; clear hx1
  have Xb := Blk.new w4 29 #[.int .i64 (lt + 1), .int .i64 y.time, .bool y.nop, .int .i64 y.client, .int .i64 y.seq, .int .i64 y.cmd.kind, .string y.cmd.key, .string y.cmd.field, .string y.cmd.text, .int .i64 y.cmd.n]
  replace Bg := Bg.al (.cells #[.int .i64 (lt + 1), .int .i64 y.time, .bool y.nop, .int .i64 y.client, .int .i64 y.seq, .int .i64 y.cmd.kind, .string y.cmd.key, .string y.cmd.field, .string y.cmd.text, .int .i64 y.cmd.n] 29); replace hsl := hsl.al (.cells #[.int .i64 (lt + 1), .int .i64 y.time, .bool y.nop, .int .i64 y.client, .int .i64 y.seq, .int .i64 y.cmd.kind, .string y.cmd.key, .string y.cmd.field, .string y.cmd.text, .int .i64 y.cmd.n] 29)
  replace Bg := Bg.al (.cells #[.int .i64 (lt + 1), .int .i64 y.time, .bool y.nop, .int .i64 y.client, .int .i64 y.seq, .int .i64 y.cmd.kind, .string y.cmd.key, .string y.cmd.field, .string y.cmd.text, .int .i64 y.cmd.n] 29); replace hsl := hsl.al (.cells #[.int .i64 (lt + 1), .int .i64 y.time, .bool y.nop, .int .i64 y.client, .int .i64 y.seq, .int .i64 y.cmd.kind, .string y.cmd.key, .string y.cmd.field, .string y.cmd.text, .int .i64 y.cmd.n] 29); replace Xb := Xb.al (.cells #[.int .i64 (lt + 1), .int .i64 y.time, .bool y.nop, .int .i64 y.client, .int .i64 y.seq, .int .i64 y.cmd.kind, .string y.cmd.key, .string y.cmd.field, .string y.cmd.text, .int .i64 y.cmd.n] 29)
  refine (HM.out _ _ _ _ hsl (HX1.out _ _ (Blk.new' _ _ _ (by simp)))).mono ?_
  rintro e w5 ⟨A5, n5, c5, rfl, hown5, hb5⟩
  have hs5 := hown5.sl'
  obtain rfl : n5 = k + 1 := by rw [← rows_len hs5]; simp; omega
  clear hown5
  replace Bg := Bg.bl hb5; replace hsl := hsl.bl hb5; replace Xb := Xb.bl hb5
  have Y5 := Blk.new w5 31 #[.int .i64 b, .int .i64 bt, .slice A5 (k + 1) c5]
  replace Bg := Bg.al (.cells #[.int .i64 b, .int .i64 bt, .slice A5 (k + 1) c5] 31); replace hsl := hsl.al (.cells #[.int .i64 b, .int .i64 bt, .slice A5 (k + 1) c5] 31); replace Xb := Xb.al (.cells #[.int .i64 b, .int .i64 bt, .slice A5 (k + 1) c5] 31); replace hs5 := hs5.al (.cells #[.int .i64 b, .int .i64 bt, .slice A5 (k + 1) c5] 31)
  (try clear cBg fBg); have cBg := Bg.cell; have fBg := Bg.frozen; (try clear cXb fXb); have cXb := Xb.cell; have fXb := Xb.frozen; (try clear cY5 fY5); have cY5 := Y5.cell; have fY5 := Y5.frozen
  have hg5 : w3.heap.size < w5.heap.size := by have := hb5.size; simp at this; omega
  have hg6 : w4.heap.size < w5.heap.size := by have := hb5.size; simp at this; omega
  go_wp2_with fail
  replace Bg := Bg.al (.cells #[.int .i64 (lt + 1), .int .i64 y.time, .bool y.nop, .int .i64 y.client, .int .i64 y.seq, .int .i64 y.cmd.kind, .string y.cmd.key, .string y.cmd.field, .string y.cmd.text, .int .i64 y.cmd.n] 29); replace hsl := hsl.al (.cells #[.int .i64 (lt + 1), .int .i64 y.time, .bool y.nop, .int .i64 y.client, .int .i64 y.seq, .int .i64 y.cmd.kind, .string y.cmd.key, .string y.cmd.field, .string y.cmd.text, .int .i64 y.cmd.n] 29); replace Xb := Xb.al (.cells #[.int .i64 (lt + 1), .int .i64 y.time, .bool y.nop, .int .i64 y.client, .int .i64 y.seq, .int .i64 y.cmd.kind, .string y.cmd.key, .string y.cmd.field, .string y.cmd.text, .int .i64 y.cmd.n] 29); replace hs5 := hs5.al (.cells #[.int .i64 (lt + 1), .int .i64 y.time, .bool y.nop, .int .i64 y.client, .int .i64 y.seq, .int .i64 y.cmd.kind, .string y.cmd.key, .string y.cmd.field, .string y.cmd.text, .int .i64 y.cmd.n] 29); replace Y5 := Y5.al (.cells #[.int .i64 (lt + 1), .int .i64 y.time, .bool y.nop, .int .i64 y.client, .int .i64 y.seq, .int .i64 y.cmd.kind, .string y.cmd.key, .string y.cmd.field, .string y.cmd.text, .int .i64 y.cmd.n] 29)
  refine (HM2.out _ _ _ _ _ hs5 (HX1.out _ _ (Blk.new' _ _ _ (by simp)))).mono ?_
  rintro e w6 ⟨A6, n6, c6, rfl, hown6, hb6⟩
  have hs6 := hown6.sl'
  clear hown6
  replace Bg := Bg.bl hb6; replace hsl := hsl.bl hb6; replace Xb := Xb.bl hb6; replace hs5 := hs5.bl hb6; replace Y5 := Y5.bl hb6
  have Z6 := Blk.new w6 31 #[.int .i64 b, .int .i64 bt, .slice A6 n6 c6]
  replace Bg := Bg.al (.cells #[.int .i64 b, .int .i64 bt, .slice A6 n6 c6] 31); replace hsl := hsl.al (.cells #[.int .i64 b, .int .i64 bt, .slice A6 n6 c6] 31); replace Xb := Xb.al (.cells #[.int .i64 b, .int .i64 bt, .slice A6 n6 c6] 31); replace hs5 := hs5.al (.cells #[.int .i64 b, .int .i64 bt, .slice A6 n6 c6] 31); replace Y5 := Y5.al (.cells #[.int .i64 b, .int .i64 bt, .slice A6 n6 c6] 31); replace hs6 := hs6.al (.cells #[.int .i64 b, .int .i64 bt, .slice A6 n6 c6] 31)
  (try clear cBg fBg); have cBg := Bg.cell; have fBg := Bg.frozen; (try clear cXb fXb); have cXb := Xb.cell; have fXb := Xb.frozen; (try clear cY5 fY5); have cY5 := Y5.cell; have fY5 := Y5.frozen; (try clear cZ6 fZ6); have cZ6 := Z6.cell; have fZ6 := Z6.frozen
  have hg7 : w3.heap.size < w6.heap.size := by have := hb6.size; simp at this; omega
  have hbk1 : IntKind.i64.wrap (b + (k : Int) + 1) = b + k + 1 := IntWalk.i64_in _ (by omega)
  go_wp2_with fail
  refine (sameLog_eq b bt _ _ _ _ _ _ _ _ _ hs5 hs6 rfl).mono ?_
  rintro e w7 ⟨rfl, hb7⟩
  replace Bg := Bg.bl hb7; replace hsl := hsl.bl hb7; replace Xb := Xb.bl hb7; replace hs5 := hs5.bl hb7; replace Y5 := Y5.bl hb7
  clear Z6 cZ6 fZ6 cBg fBg cXb fXb cY5 fY5
  obtain ⟨ub, uo, rfl, hub, ⟨u0, u1, u2, u3, u4, u5, u6, u7, u8, u9⟩⟩ := hs5.item (k := k) (by simp; omega)
  have hlast : (L.take k ++ [({ y with term := lt + 1 } : Itm)])[k]'(by simp; omega) = { y with term := lt + 1 } := by
    rw [List.getElem_append_right (by rw [List.length_take]; omega)]
    simp
  rw [hlast] at u0 u1 u2 u3 u4 u5 u6 u7 u8 u9
  clear hlast
  have p0 : w7.cell? ⟨w5.heap.size, 2, none⟩ = some (.slice (some ⟨ub, uo, none⟩) (k + 1) c5) := Y5.cell 2
  have p1 : w7.cell? ⟨w3.heap.size, 2, none⟩ = some (.slice (some ⟨yb, yo, none⟩) L.length c') := Bg.cell 2
  have x0 : w7.cell? ⟨w4.heap.size, 0, none⟩ = some (.int .i64 (lt + 1)) := Xb.cell 0
  have x1 : w7.cell? ⟨w4.heap.size, 1, none⟩ = some (.int .i64 y.time) := Xb.cell 1
  have x2 : w7.cell? ⟨w4.heap.size, 2, none⟩ = some (.bool y.nop) := Xb.cell 2
  have x3 : w7.cell? ⟨w4.heap.size, 3, none⟩ = some (.int .i64 y.client) := Xb.cell 3
  have x4 : w7.cell? ⟨w4.heap.size, 4, none⟩ = some (.int .i64 y.seq) := Xb.cell 4
  have x5 : w7.cell? ⟨w4.heap.size, 5, none⟩ = some (.int .i64 y.cmd.kind) := Xb.cell 5
  have x6 : w7.cell? ⟨w4.heap.size, 6, none⟩ = some (.string y.cmd.key) := Xb.cell 6
  have x7 : w7.cell? ⟨w4.heap.size, 7, none⟩ = some (.string y.cmd.field) := Xb.cell 7
  have x8 : w7.cell? ⟨w4.heap.size, 8, none⟩ = some (.string y.cmd.text) := Xb.cell 8
  have x9 : w7.cell? ⟨w4.heap.size, 9, none⟩ = some (.int .i64 y.cmd.n) := Xb.cell 9
  simp only at u0 u1 u2 u3 u4 u5 u6 u7 u8 u9
  have hnc5 := hs5.nc
  have hkc5 : (k : Int) ≤ (c5 : Int) := by omega
  have hkc : (k : Int) ≤ (c' : Int) := by omega
  have hk0 : (0 : Int) ≤ (k : Int) := by omega
  have hk2 : (k : Int) < ((k + 1 : Nat) : Int) := by omega
  have ht1 := hs5.take k (by omega) c5 (by omega) (Nat.le_refl _)
  have ht2 := hsl.take k (by omega) c' (by omega) (Nat.le_refl _)
  rw [itemRows_take] at ht1 ht2
  have hte : (L.take k ++ [({ y with term := lt + 1 } : Itm)]).take k = L.take k := by rw [List.take_left' (by rw [List.length_take]; omega)]
  have r1 := fun w => run_take Try.underlying23 item_size (some ⟨ub, uo, none⟩) (k + 1) c5 k (by omega) w
  have r2 := fun w => run_take Try.underlying23 item_size (some ⟨yb, yo, none⟩) L.length c' k (by omega) w
  have he := item_same { y with term := lt + 1 }
  simp only at he
  have HTE := hide hte; clear hte
  have hkw : IntKind.i64.wrap ((k : Int) + 1) = (k : Int) + 1 := IntWalk.i64_in _ (by omega)
  have hk3 : (k : Int) < (k : Int) + 1 := by omega
  have hkk : (((k : Int) + 1) == ((k : Int) + 1)) = true := by simp
  go_wp2_with fail
  go_region_held3 (fun w' => w'.cell? ⟨w5.heap.size, 2, none⟩ = some (.slice (some ⟨ub, uo, none⟩) (k + 1) c5) ∧ w'.cell? ⟨w3.heap.size, 2, none⟩ = some (.slice (some ⟨yb, yo, none⟩) L.length c') ∧ w'.cell? ⟨w4.heap.size, 0, none⟩ = some (.int .i64 (lt + 1)) ∧ w'.cell? ⟨w4.heap.size, 1, none⟩ = some (.int .i64 y.time) ∧ w'.cell? ⟨w4.heap.size, 2, none⟩ = some (.bool y.nop) ∧ w'.cell? ⟨w4.heap.size, 3, none⟩ = some (.int .i64 y.client) ∧ w'.cell? ⟨w4.heap.size, 4, none⟩ = some (.int .i64 y.seq) ∧ w'.cell? ⟨w4.heap.size, 5, none⟩ = some (.int .i64 y.cmd.kind) ∧ w'.cell? ⟨w4.heap.size, 6, none⟩ = some (.string y.cmd.key) ∧ w'.cell? ⟨w4.heap.size, 7, none⟩ = some (.string y.cmd.field) ∧ w'.cell? ⟨w4.heap.size, 8, none⟩ = some (.string y.cmd.text) ∧ w'.cell? ⟨w4.heap.size, 9, none⟩ = some (.int .i64 y.cmd.n) ∧ w'.cell? ⟨ub, uo + k * 10, none⟩ = some (.int .i64 (lt + 1)) ∧ w'.cell? ⟨ub, uo + k * 10 + 1, none⟩ = some (.int .i64 y.time) ∧ w'.cell? ⟨ub, uo + k * 10 + 2, none⟩ = some (.bool y.nop) ∧ w'.cell? ⟨ub, uo + k * 10 + 3, none⟩ = some (.int .i64 y.client) ∧ w'.cell? ⟨ub, uo + k * 10 + 4, none⟩ = some (.int .i64 y.seq) ∧ w'.cell? ⟨ub, uo + k * 10 + 5, none⟩ = some (.int .i64 y.cmd.kind) ∧ w'.cell? ⟨ub, uo + k * 10 + 6, none⟩ = some (.string y.cmd.key) ∧ w'.cell? ⟨ub, uo + k * 10 + 7, none⟩ = some (.string y.cmd.field) ∧ w'.cell? ⟨ub, uo + k * 10 + 8, none⟩ = some (.string y.cmd.text) ∧ w'.cell? ⟨ub, uo + k * 10 + 9, none⟩ = some (.int .i64 y.cmd.n)) (simp [go_sem, World.cell?_alloc_past, *])
    (first | (go_at_call 19; (with_reducible refine (sameItems_yes _ _ _ _ _ _ _ _ _ ht1.drew ht2.drew HTE.out).mono ?_); rintro e w8 ⟨rfl, hb8⟩; have q0 := ((bcell hb8).1 _ _ (by simpa using Y5.lt)).trans p0; have q1 := ((bcell hb8).1 _ _ (by simpa using Bg.lt)).trans p1; have y0 := ((bcell hb8).1 _ _ (by simpa using Xb.lt)).trans x0; have y1 := ((bcell hb8).1 _ _ (by simpa using Xb.lt)).trans x1; have y2 := ((bcell hb8).1 _ _ (by simpa using Xb.lt)).trans x2; have y3 := ((bcell hb8).1 _ _ (by simpa using Xb.lt)).trans x3; have y4 := ((bcell hb8).1 _ _ (by simpa using Xb.lt)).trans x4; have y5 := ((bcell hb8).1 _ _ (by simpa using Xb.lt)).trans x5; have y6 := ((bcell hb8).1 _ _ (by simpa using Xb.lt)).trans x6; have y7 := ((bcell hb8).1 _ _ (by simpa using Xb.lt)).trans x7; have y8 := ((bcell hb8).1 _ _ (by simpa using Xb.lt)).trans x8; have y9 := ((bcell hb8).1 _ _ (by simpa using Xb.lt)).trans x9; have v0 := ((bcell hb8).1 _ _ (by simpa using hub)).trans u0; have v1 := ((bcell hb8).1 _ _ (by simpa using hub)).trans u1; have v2 := ((bcell hb8).1 _ _ (by simpa using hub)).trans u2; have v3 := ((bcell hb8).1 _ _ (by simpa using hub)).trans u3; have v4 := ((bcell hb8).1 _ _ (by simpa using hub)).trans u4; have v5 := ((bcell hb8).1 _ _ (by simpa using hub)).trans u5; have v6 := ((bcell hb8).1 _ _ (by simpa using hub)).trans u6; have v7 := ((bcell hb8).1 _ _ (by simpa using hub)).trans u7; have v8 := ((bcell hb8).1 _ _ (by simpa using hub)).trans u8; have v9 := ((bcell hb8).1 _ _ (by simpa using hub)).trans u9; skip))
  all_goals go_wp2_with fail
  all_goals go_ret
  all_goals exact ⟨rfl, (by repeat (first | (with_reducible exact Below.refl _ _) | (with_reducible assumption) | (with_reducible refine Below.drew ?_) | (with_reducible refine bdrewN ?_ _) | (with_reducible refine balloc ?_ _) | ((with_reducible refine bset ?_ ?_ _); rotate_left; (focus first | exact Nat.le_refl _ | (simp; done) | (simp; omega) | omega)) | (with_reducible refine bstep ?_ (by with_reducible assumption)) | (with_reducible refine Below.trans ?_ (by with_reducible assumption))))⟩
set_option maxRecDepth 100000 in
theorem matchCuts_lifted (os : Os) (started : os.Started) (H : Type) (enc : TypeId × Value → H) :
  ReturnsInHanded {} Try.checked os 6 .any (Rows.matchCutsSpec.pre6 enc Try.prog Try.f6 Rows.matchCutsRow.domain false) (Rows.matchCutsSpec.post enc Try.prog Try.f6 false true false false) := by
  refine returnsInHanded_of_change (C := Try.checked) Try.own started (by kernel_rfl) Try.func6 (ChangeSpec.witness6 (enc := enc) (C := Try.checked) false ⟨#[], #[.slice none 0 0, .int .i64 0, .int .i64 0], []⟩ 8 (by kernel_rfl) (by kernel_rfl) (by kernel_rfl) (by kernel_rfl)) ?_
  intro W base args ds gs before hval0 hW hcnd _
  have hval : ∀ (j : Nat) t v, Try.f6.params[j]? = some t → args[j]? = some v → Value.okWide Try.prog W .any base t v := hval0
  have hW' := hW
  obtain ⟨p, q, hA0, hV, rfl, hfz, hnd⟩ := hW
  have hA : DataW.TrodAll enc Try.prog W 0 (fun _ => true) true Try.f6.params.toList args.toList ds p := hA0
  rw [Try.params6] at hA hval
  obtain ⟨rfl, rfl⟩ := trodVars_none hV
  clear hA0 hval0 hcnd hV hfz hnd
  obtain ⟨v0, v1, v2, d0, d1, d2, p0, p1, p2, rfl, rfl, rfl, h0, h1, h2⟩ := trodAll_three hA
  obtain ⟨A, n, c, l, rfl, hd, hS⟩ := open_deeds (hval 0 37 v0 rfl rfl) h0
  obtain ⟨m1, rfl, rfl, rfl, w1⟩ := open_int Try.underlying3 (hval 1 3 v1 rfl rfl) h1
  obtain ⟨m2, rfl, rfl, rfl, w2⟩ := open_int Try.underlying3 (hval 2 3 v2 rfl rfl) h2
  refine (matchCuts_walk A n c l m1 m2 W hS hd (i64_bounds w1) (i64_bounds w2)).mono fun e W' ⟨he, hb⟩ => ?_
  subst he
  exact ⟨_, rfl, post_law Try.laidOut hW' rfl (by kernel_rfl) rfl Try.underlying4 (fun _ => rfl) (fun _ => rfl) (fun _ => rfl) hb⟩
theorem matchCuts_holds : Rows.MatchCutsSaid := OpenClaim.holds_of_wide 6 Try.f6 rfl rfl rfl rfl rfl rfl rfl ⟨rfl, rfl, rfl, rfl, rfl⟩ rfl rfl rfl rfl rfl (by kernel_rfl) Try.func6 (by kernel_rfl)
  (of_decide_eq_true (by kernel_rfl)) (by unfold Func.isWrapper; first | (rw [if_pos (by decide +kernel)]; kernel_rfl) | (rw [if_neg (by decide +kernel)]; exact ⟨rfl, rfl⟩))
  (fun os started H enc _ => matchCuts_lifted os started H enc)
#print axioms matchCuts_holds
end Go.Proofs.Ytaldmianlmgloab
