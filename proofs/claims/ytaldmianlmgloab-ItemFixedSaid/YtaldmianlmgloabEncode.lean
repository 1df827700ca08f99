/- wire.EncodeItem. -/
import Derived.Test.YtaldmianlmgloabWire2
import Derived.Test.YtaldmianlmgloabLedger
import Derived.Test.YtaldmianlmgloabTrimP
namespace Go.Proofs.Ytaldmianlmgloab
set_option linter.all false
open Go.RowKit Go.Lib
theorem checkCommand_fits {k : Int} {key field text : ByteArray} {n : Int} (h : checkCommand k key field text n = 0) : 1 ≤ k ∧ k ≤ 22 ∧ key.size ≤ 20 ∧ field.size ≤ 20 ∧ text.size ≤ 20 ∧ -1099511627776 ≤ n ∧ n ≤ 1099511627776 := by
  unfold checkCommand at h
  split at h
  · cases h
  rename_i hk
  split at h
  · cases h
  rename_i hb
  split at h
  · cases h
  rename_i hs
  split at h
  · cases h
  rename_i hn
  have hz : ∀ {s : ByteArray}, (s.toList == []) = true → s.size = 0 := by
    intro s h
    have := congrArg List.length (eq_of_beq h)
    simpa [ByteArray.toList_eq] using this
  simp only [bare, Bool.not_eq_false, Bool.and_eq_true, Bool.or_eq_true] at hb
  obtain ⟨⟨⟨hb1, hb2⟩, hb3⟩, hb4⟩ := hb
  simp only [not_or, not_and, Bool.not_eq_false] at hs
  obtain ⟨hs1, hs2, hs3⟩ := hs
  simp only [countOk, Bool.not_eq_false, Bool.and_eq_true, decide_eq_true_eq] at hn
  simp only [textOk, decide_eq_true_eq] at hs3
  refine ⟨by omega, by omega, ?_, ?_, hs3, hn.1, hn.2⟩
  · rcases hb1 with h1 | h1
    · have := hs1 h1
      simp only [fieldOk, Bool.and_eq_true, decide_eq_true_eq] at this
      omega
    · rw [hz h1]; omega
  · rcases hb2 with h1 | h1
    · have := hs2 h1
      simp only [fieldOk, Bool.and_eq_true, decide_eq_true_eq] at this
      omega
    · rw [hz h1]; omega
theorem flatten_singles (l : List Value) : (l.map fun b => [b]).flatten = l := by
  induction l with
  | nil => rfl
  | cons x l ih => simp [ih]
def byteRows (l : List Value) : List (List Value) := l.map fun b => [b]
theorem Own.of_row {w : World} {base base' : Nat} {e : TypeId} {v : Value} {bs : List Value} (h : w.ownsRow base e 1 v bs.length bs) (hb : base' ≤ base) : Own w base' e 1 v (byteRows bs) := by
  have h2 : Own w base e 1 v (byteRows bs) := ⟨by unfold byteRows; rw [flatten_singles, List.length_map]; exact h, by intro r hr; obtain ⟨x, _, rfl⟩ := List.mem_map.1 hr; rfl⟩
  exact h2.mono hb
theorem byteRows_length (l : List Value) : (byteRows l).length = l.length := by simp [byteRows]
set_option maxHeartbeats 1000000 in
theorem EncodeItem_bad (x : Itm) (w : World) (h : checkItem x ≠ 0) :
    Calls Try.prog 24 #[.agg #[.int .i64 x.term, .int .i64 x.time, .bool x.nop, .int .i64 x.client, .int .i64 x.seq, .int .i64 x.cmd.kind, .string x.cmd.key, .string x.cmd.field, .string x.cmd.text, .int .i64 x.cmd.n]] w
      fun e w' => e = .returned (.tuple #[.slice none 0 0, .int .i64 (checkItem x)]) ∧ Below w.heap.size w w' := by
  have hC := fun w => CheckItem_any x w
  generalize checkItem x = k at h hC
  have hk : (k == 0) = false := by simpa using h
  have HC := hide hC; clear hC h
  go_enter Try.func24, Try.ntmps24
  go_wp2_with fail
  refine (HC.out _).mono ?_
  rintro e w1 ⟨rfl, hb1⟩
  go_wp2_with fail
  go_ret2
  exact ⟨rfl, (by repeat (first | (with_reducible exact Below.refl _ _) | (with_reducible assumption) | (with_reducible refine Below.drew ?_) | (with_reducible refine bdrewN ?_ _) | (with_reducible refine balloc ?_ _) | ((with_reducible refine bset ?_ ?_ _); rotate_left; (focus first | exact Nat.le_refl _ | (simp; done) | (simp; omega) | omega)) | (with_reducible refine bstep ?_ (by with_reducible assumption)) | (with_reducible refine Below.trans ?_ (by with_reducible assumption))))⟩
/-- An item that may be fits into its bytes. -/
structure ItemFits (x : Itm) : Prop where
  cmd : CmdFits x.cmd
  t1 : 1 ≤ x.term
  t2 : x.term ≤ 1048576
  i1 : 0 ≤ x.time
  i2 : x.time ≤ 1073741824
  a1 : 0 ≤ x.client
  a2 : x.client ≤ 1048576
  s1 : 0 ≤ x.seq
  s2 : x.seq ≤ 1048576
theorem zeroCall_is {seq kind : Int} {key field text : ByteArray} {n : Int} (h : zeroCall seq kind key field text n = true) : seq = 0 ∧ kind = 0 ∧ key.size = 0 ∧ field.size = 0 ∧ text.size = 0 ∧ n = 0 := by
  simp only [zeroCall, Bool.and_eq_true, beq_iff_eq] at h
  obtain ⟨⟨⟨⟨⟨h1, h2⟩, h3⟩, h4⟩, h5⟩, h6⟩ := h
  have hs : ∀ {s : ByteArray}, s.toList = [] → s.size = 0 := by
    intro s h
    have := congrArg List.length h
    simpa [ByteArray.toList_eq] using this
  exact ⟨h1, h2, hs h3, hs h4, hs h5, h6⟩
theorem item_fits {x : Itm} (h : checkItem x = 0) : ItemFits x := by
  have h1 := checkItem_ok h
  unfold checkItem at h
  rw [if_neg (by omega)] at h
  have key : (x.client = 0 ∧ zeroCall x.seq x.cmd.kind x.cmd.key x.cmd.field x.cmd.text x.cmd.n = true) ∨ (1 ≤ x.client ∧ x.client ≤ 1048576 ∧ 1 ≤ x.seq ∧ x.seq ≤ 1048576 ∧ checkCommand x.cmd.kind x.cmd.key x.cmd.field x.cmd.text x.cmd.n = 0) := by
    split at h
    · split at h
      · rename_i hz
        simp only [Itm.zero, Bool.and_eq_true, beq_iff_eq] at hz
        exact .inl hz
      · cases h
    · unfold checkCall at h
      split at h
      · rename_i hc
        split at h
        · rename_i hz
          exact .inl ⟨by simpa using hc, hz⟩
        · cases h
      · split at h
        · cases h
        · rename_i hn
          simp only [not_or, Bool.not_eq_false, numberOk, Bool.and_eq_true, decide_eq_true_eq] at hn
          exact .inr ⟨hn.1.1, hn.1.2, hn.2.1, hn.2.2, h⟩
  rcases key with ⟨hc, hz⟩ | ⟨c1, c2, s1, s2, hc⟩
  · obtain ⟨z1, z2, z3, z4, z5, z6⟩ := zeroCall_is hz
    exact ⟨⟨by omega, by omega, by omega, by omega, by omega, by omega, by omega⟩, by omega, by omega, by omega, by omega, by omega, by omega, by omega, by omega⟩
  · obtain ⟨z1, z2, z3, z4, z5, z6, z7⟩ := checkCommand_fits hc
    exact ⟨⟨by omega, by omega, z3, z4, z5, z6, z7⟩, by omega, by omega, by omega, by omega, by omega, by omega, by omega, by omega⟩
set_option maxHeartbeats 1000000 in
/-- The bytes of an item that may be, in memory of their own. -/
theorem EncodeItem_ok (x : Itm) (w : World) (h : checkItem x = 0) :
    Calls Try.prog 24 #[.agg #[.int .i64 x.term, .int .i64 x.time, .bool x.nop, .int .i64 x.client, .int .i64 x.seq, .int .i64 x.cmd.kind, .string x.cmd.key, .string x.cmd.field, .string x.cmd.text, .int .i64 x.cmd.n]] w
      fun e w' => ∃ A n c, e = .returned (.tuple #[.slice A n c, .int .i64 0]) ∧ Own w' w.heap.size 5 1 (.slice A n c) (byteRows (itemBytes x)) ∧ Below w.heap.size w w' := by
  have hC := fun w => CheckItem_any x w
  rw [h] at hC
  obtain ⟨hcmd, t1, t2, i1, i2, a1, a2, s1, s2⟩ := item_fits h
  have HC := hide hC; clear hC h
  have HF := hide hcmd; clear hcmd
  go_enter Try.func24, Try.ntmps24
  go_wp2_with fail
  refine (HC.out _).mono ?_
  rintro e w1 ⟨rfl, hb1⟩
  have B1 := (Blk.new w 29 x.cells.toArray).below' hb1
  have x1 := B1.cell
  simp only [Itm.cells] at x1
  have hz1 : w.heap.size < w1.heap.size := B1.lt
  have h0 : WrT (w1.alloc (.cells #[.slice none 0 0] 82)) w1.heap.size (w1.heap.size + 1) (.slice none 0 0) [] := ⟨Blk.new _ _ _, World.ownsRow_nil _ _ _ _, by omega⟩
  go_wp2_with fail
  refine (item_any _ _ _ _ x _ h0 (by simp) (by simp) HF.out (by omega) (by omega) i1 i2 a1 a2 s1 s2).mono ?_
  rintro e w2 ⟨rfl, A, n, c, h2, p2⟩
  have x2 := h2.cell
  go_wp2_with fail
  go_ret2
  refine ⟨A, n, c, rfl, Own.of_row h2.own (by omega), ?_⟩
  have h3 : Below w.heap.size w (w1.alloc (.cells #[.slice none 0 0] 82)) := (by repeat (first | (with_reducible exact Below.refl _ _) | (with_reducible assumption) | (with_reducible refine Below.drew ?_) | (with_reducible refine bdrewN ?_ _) | (with_reducible refine balloc ?_ _) | ((with_reducible refine bset ?_ ?_ _); rotate_left; (focus first | exact Nat.le_refl _ | (simp; done) | (simp; omega) | omega)) | (with_reducible refine bstep ?_ (by with_reducible assumption)) | (with_reducible refine Below.trans ?_ (by with_reducible assumption))))
  exact h3.trans (p2.below (by omega) (by simp [Value.ownBlock]) (by simp; omega))
end Go.Proofs.Ytaldmianlmgloab
