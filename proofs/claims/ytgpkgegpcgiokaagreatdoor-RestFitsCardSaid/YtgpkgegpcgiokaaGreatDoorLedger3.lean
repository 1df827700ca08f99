/- ledger.Behind, Trim; rostrumkeep.sameItems, sameLog. -/
import Derived.Test.YtgpkgegpcgiokaaGreatDoorLedger2
import Derived.Test.YtgpkgegpcgiokaaGreatDoorOwn
namespace Go.Proofs.YtgpkgegpcgiokaaGreatDoor
set_option linter.all false
open Go.RowKit
theorem item_size : (Tryz.prog.info? 68).map (·.size) = some 10 := by kernel_rfl
theorem itemRows_drop (l : List Itm) (k : Nat) : (itemRows l).drop k = itemRows (l.drop k) := by simp [itemRows]
theorem itemRows_take (l : List Itm) (k : Nat) : (itemRows l).take k = itemRows (l.take k) := by simp [itemRows]
theorem ret_vi {v : Value} {a b : Int} (h : a = b) : Ending.returned (.tuple #[v, .int .i64 a]) = .returned (.tuple #[v, .int .i64 b]) := by rw [h]
theorem termOf_in {base bt : Int} {l : List Itm} {k : Nat} (hk : k ≤ l.length) : (termOf base bt l (base + k)).2 = 0 := by
  cases k with
  | zero => rw [show base + ((0 : Nat) : Int) = base by simp, termOf_eq]
  | succ k => rw [show base + ((k + 1 : Nat) : Int) = base + 1 + k by omega, termOf_at (by omega)]
set_option maxHeartbeats 1000000 in
theorem Trim_bad (base bt : Int) (A : Option Addr) (n c : Nat) (l : List Itm) (place : Int) (w : World) (hb1 : I64 base) (hb2 : I64 bt) (hS : Sl w 10 A n c (itemRows l)) (hg : checkLog base bt l = 0)
    (hp : I64 place) (hbad : (termOf base bt l place).2 ≠ 0) :
    Calls Tryz.prog 123 #[.agg #[.int .i64 base, .int .i64 bt, .slice A n c], .int .i64 place] w fun e w' => e = .returned (.tuple #[.agg #[.int .i64 0, .int .i64 0, .slice none 0 0], .int .i64 (termOf base bt l place).2]) ∧ Below w.heap.size w w' := by
  have hgg := log_good hg
  generalize hT : termOf base bt l place = T at *
  obtain ⟨tt, te⟩ := T
  have hT1 := fun w (h : Sl w 10 A n c (itemRows l)) => term_any base bt A n c l place w hgg.1 (by omega) hgg.2.2.2.1 hp h
  rw [hT] at hT1
  have HT := hide hT1; clear hT1 hT
  have hbad' : (te == 0) = false := by simpa using hbad
  clear hbad
  simp only at *
  go_enter Tryz.func123, Tryz.ntmps123
  go_wp2_with fail
  refine (Check_any _ _ _ _ _ l _ hb1 hb2 ((hS.alloc _).alloc _)).mono ?_
  rintro e w1 ⟨rfl, hb1⟩
  obtain ⟨hc1, hf1⟩ := bcell hb1
  have hz := hb1.size
  simp at hz
  have hz1 : w.heap.size < w1.heap.size := by omega
  have hz1' : w.heap.size + 1 < w1.heap.size := by omega
  go_wp2_with fail
  refine (HT.out _ (((hS.alloc _).alloc _).below hb1)).mono ?_
  rintro e w2 ⟨rfl, hb2⟩
  obtain ⟨hc2, hf2⟩ := bcell hb2
  have hz2 := hb2.size
  have hz2' : w.heap.size + 1 < w2.heap.size := by omega
  go_wp2_with fail
  refine bodyPost_ret ?_ rfl ⟨rfl, below_by⟩
  simp [results, Tryz.results123, go_sem, *]
set_option maxHeartbeats 1000000 in
theorem Trim_ok (base bt : Int) (A : Option Addr) (n c : Nat) (l : List Itm) (k : Nat) (w : World) (hb1 : I64 base) (hb2 : I64 bt) (hS : Sl w 10 A n c (itemRows l)) (hg : checkLog base bt l = 0)
    (hk : k ≤ l.length) :
    Calls Tryz.prog 123 #[.agg #[.int .i64 base, .int .i64 bt, .slice A n c], .int .i64 (base + k)] w fun e w' => ∃ v, e = .returned (.tuple #[.agg #[.int .i64 (base + k), .int .i64 (termOf base bt l (base + k)).1, v], .int .i64 0]) ∧
      Own w' w.heap.size 68 10 v (itemRows (l.drop k)) ∧ Below w.heap.size w w' := by
  have hgg := log_good hg
  have hn := rows_len hS
  subst hn
  have hlm := hS.nc
  have hT := termOf_in (base := base) (bt := bt) hk
  generalize hT' : termOf base bt l (base + k) = T at *
  obtain ⟨tt, te⟩ := T
  have hT1 := fun w (h : Sl w 10 A l.length c (itemRows l)) => term_any base bt A _ c l (base + k) w hgg.1 (by omega) hgg.2.2.2.1 ⟨by omega, by omega⟩ h
  rw [hT'] at hT1
  simp only at hT
  subst hT
  have HT := hide hT1; clear hT1 hT'
  obtain ⟨g1, g2, g3, g4, g5, _, _⟩ := hgg
  have e1 : base + (k : Int) - base = k := by omega
  have s1 := run_cut Tryz.underlying71 item_size A l.length c k hk
  simp only
  go_enter Tryz.func123, Tryz.ntmps123
  go_wp2_with fail
  refine (Check_any _ _ _ _ _ l _ hb1 hb2 ((hS.alloc _).alloc _)).mono ?_
  rintro e w1 ⟨rfl, hb1⟩
  obtain ⟨hc1, hf1⟩ := bcell hb1
  have hz := hb1.size
  simp at hz
  have hz1 : w.heap.size < w1.heap.size := by omega
  have hz1' : w.heap.size + 1 < w1.heap.size := by omega
  go_wp2_with fail
  refine (HT.out _ (((hS.alloc _).alloc _).below hb1)).mono ?_
  rintro e w2 ⟨rfl, hb2⟩
  obtain ⟨hc2, hf2⟩ := bcell hb2
  have hz2 := hb2.size
  have hz2' : w.heap.size + 1 < w2.heap.size := by omega
  have hz3 : w.heap.size < w2.heap.size := by omega
  go_wp2_with fail
  have hS2 := ((((hS.alloc (.cells #[.int .i64 base, .int .i64 bt, .slice A l.length c] 73)).alloc (.cells #[.int .i64 0, .int .i64 0, .slice none 0 0] 73)).below hb1).below hb2).drop k hk c (Nat.le_refl _) hlm
  rw [itemRows_drop] at hS2
  refine (Clone_item _ _ _ _ _ hS2 (item_one _) (by omega)).mono ?_
  rintro e w3 ⟨v, rfl, hown, hb3⟩
  obtain ⟨hc3, hf3⟩ := bcell hb3
  have hz4 : w.heap.size + 1 < w3.heap.size := by have := hb3.size; omega
  have hsl := hown.sl
  obtain ⟨A', c', rfl, _⟩ := hsl
  go_wp2_with fail
  refine bodyPost_ret (v := .tuple #[.agg #[.int .i64 (base + k), .int .i64 tt, .slice A' (itemRows (l.drop k)).length c'], .int .i64 0]) ?_ rfl ⟨_, rfl, ?_, below_by⟩
  · simp [results, Tryz.results123, go_sem, *]
  · exact (((hown.setCell (by simpa using hz2') _).setCell (by simpa using hz2') _).setCell (by simpa using hz2') _).mono (by omega)
def Itm.eqb (x y : Itm) : Bool :=
  x.term == y.term && x.time == y.time && x.nop == y.nop && x.client == y.client && x.seq == y.seq && x.cmd.kind == y.cmd.kind && x.cmd.key.toList == y.cmd.key.toList && x.cmd.field.toList == y.cmd.field.toList && x.cmd.text.toList == y.cmd.text.toList && x.cmd.n == y.cmd.n
theorem bytes_eq {a b : ByteArray} : (a.toList == b.toList) = true ↔ a = b := by
  constructor
  · intro h
    have h := eq_of_beq h
    rw [ByteArray.toList_eq, ByteArray.toList_eq] at h
    obtain ⟨⟨a⟩⟩ := a
    obtain ⟨⟨b⟩⟩ := b
    simp only at h
    rw [h]
  · rintro rfl; simp
theorem Itm.eqb_iff {x y : Itm} : x.eqb y = true ↔ x = y := by
  obtain ⟨a, b, c, d, e, ⟨f, g, h, i, j⟩⟩ := x
  obtain ⟨a', b', c', d', e', ⟨f', g', h', i', j'⟩⟩ := y
  unfold Itm.eqb
  simp only [Bool.and_eq_true, bytes_eq, Itm.mk.injEq, Cmd.mk.injEq]
  simp only [beq_iff_eq, and_assoc]
instance : DecidableEq Itm := fun x y => if h : x.eqb y = true then isTrue (Itm.eqb_iff.1 h) else isFalse fun e => h (Itm.eqb_iff.2 e)
theorem item_neq (x y : Itm) (w : World) : (binOp .neq 68 (.agg #[.int .i64 x.term, .int .i64 x.time, .bool x.nop, .int .i64 x.client, .int .i64 x.seq, .int .i64 x.cmd.kind, .string x.cmd.key, .string x.cmd.field, .string x.cmd.text, .int .i64 x.cmd.n])
    (.agg #[.int .i64 y.term, .int .i64 y.time, .bool y.nop, .int .i64 y.client, .int .i64 y.seq, .int .i64 y.cmd.kind, .string y.cmd.key, .string y.cmd.field, .string y.cmd.text, .int .i64 y.cmd.n])).run Tryz.prog w = .ok (.bool (!x.eqb y)) w := by
  by_cases h : x.eqb y = true
  · obtain rfl := Itm.eqb_iff.1 h
    rw [h]; simp [go_sem]
  · have h' : x.eqb y = false := by simpa using h
    rw [h']; simp [go_sem]
    intro e1 e2 e3 e4 e5 e6 e7 e8 e9 e10
    exact h (by simp [Itm.eqb, e1, e2, e3, e4, e5, e6, e7, e8, e9, e10])
theorem same_next {a b : List Itm} {k : Nat} (hk : k < a.length) (hk' : k < b.length) (h : a[k] = b[k]) (HQ : Hid (∀ j, j < k → a[j]? = b[j]?)) : Hid (∀ j, j < k + 1 → a[j]? = b[j]?) := by
  intro j hj
  rcases Nat.lt_succ_iff_lt_or_eq.1 hj with h1 | rfl
  · exact HQ.out j h1
  · rw [List.getElem?_eq_getElem hk, List.getElem?_eq_getElem hk', h]
theorem same_not {a b : List Itm} {k : Nat} (hk : k < a.length) (hk' : k < b.length) (h : ¬ a[k] = b[k]) : Hid (decide (a = b) = false) := by
  show decide (a = b) = false
  simp only [decide_eq_false_iff_not]
  rintro rfl
  exact h rfl
theorem same_all {a b : List Itm} (hl : a.length = b.length) (HQ : Hid (∀ j, j < a.length → a[j]? = b[j]?)) : Hid (decide (a = b) = true) := by
  show decide (a = b) = true
  simp only [decide_eq_true_eq]
  refine List.ext_getElem? fun j => ?_
  by_cases hj : j < a.length
  · exact HQ.out j hj
  · rw [List.getElem?_eq_none (by omega), List.getElem?_eq_none (by omega)]
set_option maxHeartbeats 1000000 in
theorem sameItems_any (A B : Option Addr) (n m c d : Nat) (a b : List Itm) (w : World) (ha : Sl w 10 A n c (itemRows a)) (hb : Sl w 10 B m d (itemRows b)) :
    Calls Tryz.prog 42 #[.slice A n c, .slice B m d] w fun e w' => e = .returned (.bool (decide (a = b))) ∧ Below w.heap.size w w' := by
  have hn := rows_len ha
  have hm := rows_len hb
  subst hn; subst hm
  have hlm := ha.cm
  have hlm2 := ha.nc
  unfold maxLen at hlm
  by_cases hl : a.length = b.length
  · have hl' : ((a.length : Int) == (b.length : Int)) = true := by simp [hl]
    go_enter Tryz.func42, Tryz.ntmps42
    go_wp2_with fail
    go_loopw [5] (fun i wr => ∃ k : Nat, k ≤ a.length ∧ i = .int .i64 k ∧ Hid (∀ j, j < k → a[j]? = b[j]?) ∧ Below w.heap.size w wr) (fun i _ => a.length - (intOf i).toNat)
    case atStart => exact ⟨0, by omega, rfl, fun j hj => by omega, below_by⟩
    case round =>
      obtain ⟨k, hk, rfl, HQ, hbr⟩ := hrel
      by_cases hlt : k < a.length
      · obtain ⟨b1, o1, rfl, _, ⟨i0, i1, i2, i3, i4, i5, i6, i7, i8, i9⟩⟩ := (ha.below hbr).item hlt
        obtain ⟨b2, o2, rfl, _, ⟨j0, j1, j2, j3, j4, j5, j6, j7, j8, j9⟩⟩ := (hb.below hbr).item (k := k) (by omega)
        have hne := item_neq a[k] b[k]
        by_cases hxy : a[k] = b[k]
        · have hx : a[k].eqb b[k] = true := Itm.eqb_iff.2 hxy
          simp only [hx, Bool.not_true] at hne
          have HN := same_next hlt (by omega) hxy HQ
          clear hxy hx
          generalize a[k] = x at i0 i1 i2 i3 i4 i5 i6 i7 i8 i9 hne
          generalize b[k] = y at j0 j1 j2 j3 j4 j5 j6 j7 j8 j9 hne
          go_wp2_with fail
          go_quiet (fail)
          go_wp2_with fail
          go_roundw
          case rel => exact ⟨k + 1, by omega, by go_num, HN, below_by⟩
          case measure => simp [intOf]; omega
        · have hx : a[k].eqb b[k] = false := by simpa using fun h => hxy (Itm.eqb_iff.1 h)
          simp only [hx, Bool.not_false] at hne
          have HN := same_not hlt (by omega) hxy
          clear hxy hx
          generalize a[k] = x at i0 i1 i2 i3 i4 i5 i6 i7 i8 i9 hne
          generalize b[k] = y at j0 j1 j2 j3 j4 j5 j6 j7 j8 j9 hne
          go_wp2_with fail
          go_quiet (fail)
          go_wp2_with fail
          go_ret
          exact ⟨ret_bool HN.out.symm, below_by⟩
      · obtain rfl : k = a.length := by omega
        have HN := same_all hl HQ
        go_wp2_with fail
        go_ret
        exact ⟨ret_bool HN.out.symm, below_by⟩
  · have hl' : ((a.length : Int) == (b.length : Int)) = false := by simp; omega
    have hl2 : ((a.length : Int) != (b.length : Int)) = true := by simp; omega
    have HN : Hid (decide (a = b) = false) := by
      show decide (a = b) = false
      simp only [decide_eq_false_iff_not]
      rintro rfl; exact hl rfl
    go_enter Tryz.func42, Tryz.ntmps42
    go_wp2_with fail
    go_ret
    exact ⟨ret_bool HN.out.symm, below_by⟩
end Go.Proofs.YtgpkgegpcgiokaaGreatDoor
