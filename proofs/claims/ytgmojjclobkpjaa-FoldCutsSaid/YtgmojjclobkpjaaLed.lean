import Derived.Test.YtgmojjclobkpjaaCall
import Derived.Test.YtgmojjclobkpjaaOwn
import Derived.Deep.QuietTactic
import Derived.BigQuiet
/- Slices of items: Clone. -/
namespace Go.Proofs.Ytgmojjclobkpjaa
set_option linter.all false
open Go.RowKit
theorem item_info : (Try.prog.info? 35).map (fun i => (i.zero, i.size, i.bytes)) = some (some (.agg #[.int .i64 0, .int .i64 0, .bool false, .int .i64 0, .int .i64 0, .int .i64 0, .string ByteArray.empty, .string ByteArray.empty, .string ByteArray.empty, .int .i64 0]), 10, 104) := by kernel_rfl
/-- The ten cells of an item at an address. -/
structure ItemAt (w : World) (b o : Nat) (x : Itm) : Prop where
  c0 : w.cell? ⟨b, o, none⟩ = some (.int .i64 x.term)
  c1 : w.cell? ⟨b, o + 1, none⟩ = some (.int .i64 x.time)
  c2 : w.cell? ⟨b, o + 2, none⟩ = some (.bool x.nop)
  c3 : w.cell? ⟨b, o + 3, none⟩ = some (.int .i64 x.client)
  c4 : w.cell? ⟨b, o + 4, none⟩ = some (.int .i64 x.seq)
  c5 : w.cell? ⟨b, o + 5, none⟩ = some (.int .i64 x.cmd.kind)
  c6 : w.cell? ⟨b, o + 6, none⟩ = some (.string x.cmd.key)
  c7 : w.cell? ⟨b, o + 7, none⟩ = some (.string x.cmd.field)
  c8 : w.cell? ⟨b, o + 8, none⟩ = some (.string x.cmd.text)
  c9 : w.cell? ⟨b, o + 9, none⟩ = some (.int .i64 x.cmd.n)
def itemRows (l : List Itm) : List (List Value) := l.map Itm.cells
theorem Sl.item {w : World} {A : Option Addr} {n c : Nat} {l : List Itm} (h : Sl w 10 A n c (itemRows l)) {k : Nat} (hk : k < l.length) :
    ∃ b off, A = some ⟨b, off, none⟩ ∧ b < w.heap.size ∧ ItemAt w b (off + k * 10) l[k] := by
  obtain ⟨b, off, e, hb, hc⟩ := h.seg.at_ (i := k) (by simpa [itemRows] using hk)
  have hc' : ∀ j u, l[k].cells[j]? = some u → w.cell? ⟨b, off + k * 10 + j, none⟩ = some u := by
    intro j u hu
    rw [Nat.add_assoc]
    exact hc j u (by simpa [itemRows] using hu)
  exact ⟨b, off, e, hb, hc' 0 _ rfl, hc' 1 _ rfl, hc' 2 _ rfl, hc' 3 _ rfl, hc' 4 _ rfl, hc' 5 _ rfl, hc' 6 _ rfl, hc' 7 _ rfl, hc' 8 _ rfl, hc' 9 _ rfl⟩
theorem item_cells_one (x : Itm) : ∀ u ∈ x.cells, u.oneCell' = true := by
  intro u hu
  simp only [Itm.cells, List.mem_cons, List.not_mem_nil, or_false] at hu
  rcases hu with rfl | rfl | rfl | rfl | rfl | rfl | rfl | rfl | rfl | rfl <;> rfl
theorem item_one : ∀ (l : List Itm), ∀ r ∈ itemRows l, ∀ u ∈ r, u.oneCell' = true := by
  intro l r hr u hu
  obtain ⟨x, _, rfl⟩ := List.mem_map.1 hr
  simp only [Itm.cells, List.mem_cons, List.not_mem_nil, or_false] at hu
  rcases hu with rfl | rfl | rfl | rfl | rfl | rfl | rfl | rfl | rfl | rfl <;> rfl
theorem Clone_item (A : Option Addr) (n c : Nat) (rows : List (List Value)) (w : World) (h : Sl w 10 A n c rows) (h1 : ∀ r ∈ rows, ∀ u ∈ r, u.oneCell' = true) (hb : n * 104 ≤ 140737488355328) :
    Calls Try.prog 15 #[.slice A n c] w fun e w' => ∃ v, e = .returned v ∧ Own w' w.heap.size 35 10 v rows ∧ Below w.heap.size w w' := by
  have hS := h
  obtain ⟨hl, hnc, hcm, hn0, hs, hr⟩ := h
  have hq := fun w => Lib.run_eql_slice_nil (P := Try.prog) w 23 35 A n c 0 0 Try.underlying23
  cases A with
  | none =>
    obtain rfl := hn0 rfl
    obtain rfl : n = 0 := by omega
    obtain rfl := List.eq_nil_of_length_eq_zero hl
    go_enter Try.func15, Try.ntmps15
    go_wp2_with fail
    go_ret
    exact ⟨_, rfl, Own.nil, below_by⟩
  | some a =>
    by_cases hn : n = 0
    · subst hn
      obtain rfl := List.eq_nil_of_length_eq_zero hl
      go_enter Try.func15, Try.ntmps15
      go_wp2_with fail
      go_ret
      exact ⟨_, rfl, Own.empty _ _ _ (Nat.le_refl _), below_by⟩
    · go_enter Try.func15, Try.ntmps15
      go_wp2_with (at_builtin; refine wpList_grow rfl _ _ _ rfl Try.underlying23 item_info rfl (by decide) (rows := []) rfl rfl (by simp) Seg.nil (by simp) rfl hl hr (hs.alloc _) h1 (by omega) (by omega) (by rw [Nat.zero_add]; omega) (by omega) ?_; intro v' w1 hown hb1)
      go_ret
      exact ⟨_, rfl, by simpa using hown.mono (by simp), bstep below_by hb1⟩
end Go.Proofs.Ytgmojjclobkpjaa
/- wire.CheckItem, ledger.Check and what reads a log. -/
namespace Go.Proofs.Ytgmojjclobkpjaa
set_option linter.all false
open Go.RowKit
def Itm.zero (x : Itm) : Bool := x.client == 0 && zeroCall x.seq x.cmd.kind x.cmd.key x.cmd.field x.cmd.text x.cmd.n
def checkItem (x : Itm) : Int :=
  if x.term < 1 ∨ 1048576 < x.term ∨ x.time < 0 ∨ 1073741824 < x.time then 2
  else if x.nop = true then (if x.zero = true then 0 else 8)
  else checkCall x.client x.seq x.cmd.kind x.cmd.key x.cmd.field x.cmd.text x.cmd.n
set_option maxHeartbeats 1000000 in
theorem CheckItem_any (x : Itm) (w : World) :
    Calls Try.prog 20 #[.agg #[.int .i64 x.term, .int .i64 x.time, .bool x.nop, .int .i64 x.client, .int .i64 x.seq, .int .i64 x.cmd.kind, .string x.cmd.key, .string x.cmd.field, .string x.cmd.text, .int .i64 x.cmd.n]] w
      fun e w' => e = .returned (.int .i64 (checkItem x)) ∧ Below w.heap.size w w' := by
  obtain ⟨term, time, nop, client, seq, ⟨kind, key, field, text, n⟩⟩ := x
  cases nop
  all_goals
    go_enter Try.func20, Try.ntmps20
    go_wp2_with (go_at_call 44; refine (CheckCall_any _ _ _ _ _ _ _ _).mono ?_; rintro e w1 ⟨rfl, hb1⟩)
    all_goals go_ret
    all_goals refine ⟨ret_int ?_, below_by⟩
    all_goals (unfold checkItem Itm.zero zeroCall; simp_all <;> omega)
def chainOk : Int → Int → List Itm → Bool
  | _, _, [] => true
  | t, m, x :: l => checkItem x == 0 && !decide (x.term < t) && !decide (x.time < m) && chainOk x.term x.time l
def headBad (base bt : Int) (n : Nat) : Bool :=
  decide (base < 0) || decide (bt < 0) || decide (1048576 < bt) || ((base == 0) != (bt == 0)) || decide (200 < (n : Int)) || decide (1048576 - (n : Int) < base)
def checkLog (base bt : Int) (l : List Itm) : Int := if headBad base bt l.length = true then 13 else if chainOk bt 0 l = true then 0 else 13
theorem chain_step {bt t m : Int} {l : List Itm} {k : Nat} (hk : k < l.length) (h : Hid (chainOk bt 0 l = chainOk t m (l.drop k))) :
    Hid (chainOk bt 0 l = (checkItem l[k] == 0 && !decide (l[k].term < t) && !decide (l[k].time < m) && chainOk l[k].term l[k].time (l.drop (k + 1)))) := by
  have := h.out
  rw [List.drop_eq_getElem_cons hk] at this
  exact this
theorem chain_rel {bt t m : Int} {l r : List Itm} {x : Itm} (h : Hid (chainOk bt 0 l = (checkItem x == 0 && !decide (x.term < t) && !decide (x.time < m) && chainOk x.term x.time r))) (h1 : checkItem x = 0) (h2 : t ≤ x.term) (h3 : m ≤ x.time) :
    Hid (chainOk bt 0 l = chainOk x.term x.time r) := by
  have h2 : ¬ x.term < t := by omega
  have h3 : ¬ x.time < m := by omega
  have := h.out
  show chainOk bt 0 l = _
  simpa [h1, h2, h3] using this
set_option maxHeartbeats 2000000 in
theorem Check_any (base bt : Int) (A : Option Addr) (n c : Nat) (l : List Itm) (w : World) (hb1 : I64 base) (hb2 : I64 bt) (h : Sl w 10 A n c (itemRows l)) :
    Calls Try.prog 23 #[.agg #[.int .i64 base, .int .i64 bt, .slice A n c]] w fun e w' => e = .returned (.int .i64 (checkLog base bt l)) ∧ Below w.heap.size w w' := by
  obtain ⟨b1, b2⟩ := hb1
  obtain ⟨t1, t2⟩ := hb2
  have hn : n = l.length := by have := h.len; simp [itemRows] at this; omega
  subst hn
  have hlm := h.nc
  have hlm' := h.cm
  unfold maxLen at hlm'
  by_cases hbad : headBad base bt l.length = true
  · have HB := hide hbad
    clear hbad
    go_enter Try.func23, Try.ntmps23
    go_wp2_with fail
    all_goals first
      | (exfalso; have := HB.out; simp [headBad] at this; simp_all; omega)
      | (go_ret; refine ⟨ret_int ?_, below_by⟩; unfold checkLog; rw [if_pos HB.out])
  · have hgood : headBad base bt l.length = false := by simpa using hbad
    clear hbad
    have HB := hide hgood
    simp only [headBad, Bool.or_eq_false_iff, decide_eq_false_iff_not, bne_eq_false_iff_eq] at hgood
    obtain ⟨⟨⟨⟨⟨g1, g2⟩, g3⟩, g4⟩, g5⟩, g6⟩ := hgood
    have g1 : 0 ≤ base := by omega
    have g2 : 0 ≤ bt := by omega
    have g3 : bt ≤ 1048576 := by omega
    have g5 : (l.length : Int) ≤ 200 := by omega
    have g6 : base ≤ 1048576 - (l.length : Int) := by omega
    have hcases : (base = 0 ∧ bt = 0) ∨ ((base == 0) = false ∧ (bt == 0) = false) := by
      by_cases h0 : base = 0
      · subst h0; left; simp at g4; exact ⟨rfl, g4⟩
      · right; have : (base == 0) = false := by simpa using h0
        exact ⟨this, by rw [← g4, this]⟩
    clear g4
    rcases hcases with ⟨rfl, rfl⟩ | ⟨z1, z2⟩
    all_goals
      go_enter Try.func23, Try.ntmps23
      go_wp2_with fail
      go_loopw [3, 4, 49] (fun s3 s4 i wr => ∃ k : Nat, k ≤ l.length ∧ i = .int .i64 k ∧ ∃ t m : Int, s3 = .int .i64 t ∧ s4 = .int .i64 m ∧ Hid (chainOk _ 0 l = chainOk t m (l.drop k)) ∧ Below w.heap.size w wr)
        (fun _ _ i _ => l.length - (intOf i).toNat)
      case atStart => exact ⟨0, by omega, rfl, _, _, rfl, rfl, rfl, below_by⟩
      case round =>
        obtain ⟨k, hk, rfl, t, m, rfl, rfl, HQ, hbr⟩ := hrel
        by_cases hlt : k < l.length
        · obtain ⟨b, off, rfl, hbb, ⟨i0, i1, i2, i3, i4, i5, i6, i7, i8, i9⟩⟩ := (h.below hbr).item hlt
          have HQ' := chain_step hlt HQ
          generalize l[k] = x at i0 i1 i2 i3 i4 i5 i6 i7 i8 i9 HQ'
          go_wp2_with (go_at_call 20; refine (CheckItem_any x _).mono ?_; rintro e w1 ⟨rfl, hb1⟩; obtain ⟨hc1, hf1⟩ := bcell hb1; have hz := hb1.size; simp at hz)
          all_goals first
            | (go_ret; refine ⟨ret_int ?_, below_by⟩; unfold checkLog; rw [HB.out, HQ'.out]; simp_all <;> omega)
            | (go_quiet (fail)
               go_wp2_with fail
               go_roundw
               case rel => exact ⟨k + 1, by omega, by go_num, _, _, rfl, rfl, chain_rel HQ' (by omega) (by omega) (by omega), below_by⟩
               case measure => simp [intOf]; omega)
        · obtain rfl : k = l.length := by omega
          go_wp2_with fail
          go_ret
          refine ⟨ret_int ?_, below_by⟩
          unfold checkLog
          rw [HB.out, HQ.out]
          simp [chainOk]
end Go.Proofs.Ytgmojjclobkpjaa
/- ledger.last, term, Last, Term, Newer. -/
namespace Go.Proofs.Ytgmojjclobkpjaa
set_option linter.all false
open Go.RowKit
theorem log_good {base bt : Int} {l : List Itm} (h : checkLog base bt l = 0) : 0 ≤ base ∧ 0 ≤ bt ∧ bt ≤ 1048576 ∧ l.length ≤ 200 ∧ base + l.length ≤ 1048576 ∧ (base = 0 ↔ bt = 0) ∧ chainOk bt 0 l = true := by
  unfold checkLog at h
  split at h
  · cases h
  · rename_i hb
    split at h
    · rename_i hc
      have hb : headBad base bt l.length = false := by simpa using hb
      simp only [headBad, Bool.or_eq_false_iff, decide_eq_false_iff_not, bne_eq_false_iff_eq] at hb
      obtain ⟨⟨⟨⟨⟨g1, g2⟩, g3⟩, g4⟩, g5⟩, g6⟩ := hb
      refine ⟨by omega, by omega, by omega, by omega, by omega, ?_, hc⟩
      rw [Bool.eq_iff_iff] at g4
      simpa using g4
    · cases h
theorem log_01 (base bt : Int) (l : List Itm) : checkLog base bt l = 0 ∨ checkLog base bt l = 13 := by
  unfold checkLog; (repeat' split) <;> simp
theorem rows_len {w : World} {A : Option Addr} {n c : Nat} {l : List Itm} (h : Sl w 10 A n c (itemRows l)) : l.length = n := by have := h.len; simpa [itemRows] using this
def lastOf (base bt : Int) (l : List Itm) : Int × Int := match l.getLast? with | some x => (base + l.length, x.term) | none => (base, bt)
theorem lastOf_nil (base bt : Int) : lastOf base bt [] = (base, bt) := rfl
theorem lastOf_pos {base bt : Int} {l : List Itm} (h : 0 < l.length) : lastOf base bt l = (base + l.length, (l[l.length - 1]'(by omega)).term) := by
  unfold lastOf
  rw [List.getLast?_eq_getElem?, List.getElem?_eq_getElem (by omega)]
theorem ret_2 {a b c d : Int} (h1 : a = c) (h2 : b = d) : Ending.returned (.tuple #[.int .i64 a, .int .i64 b]) = .returned (.tuple #[.int .i64 c, .int .i64 d]) := by rw [h1, h2]
theorem ret_b0 {a b : Bool} (h : a = b) : Ending.returned (.tuple #[.bool a, .int .i64 0]) = .returned (.tuple #[.bool b, .int .i64 0]) := by rw [h]
set_option maxHeartbeats 1000000 in
theorem last_any (base bt : Int) (A : Option Addr) (n c : Nat) (l : List Itm) (w : World) (hb1 : 0 ≤ base) (hb2 : base ≤ 1048576) (hl : l.length ≤ 200) (h : Sl w 10 A n c (itemRows l)) :
    Calls Try.prog 45 #[.agg #[.int .i64 base, .int .i64 bt, .slice A n c]] w fun e w' => e = .returned (.tuple #[.int .i64 (lastOf base bt l).1, .int .i64 (lastOf base bt l).2]) ∧ Below w.heap.size w w' := by
  have hn := rows_len h
  subst hn
  have hlm := h.nc
  by_cases h0 : l = []
  · subst h0
    rw [lastOf_nil]
    go_enter Try.func45, Try.ntmps45
    go_wp2_with fail
    go_quiet (fail)
    go_wp2_with fail
    go_ret2
    exact ⟨rfl, below_by⟩
  · have hp : 0 < l.length := List.length_pos_iff.2 h0
    obtain ⟨b, off, rfl, hbb, ⟨i0, _, _, _, _, _, _, _, _, _⟩⟩ := h.item (k := l.length - 1) (by omega)
    rw [lastOf_pos hp]
    generalize l[l.length - 1]'(by omega) = x at i0
    have hp' : (0 : Int) < (l.length : Int) := by omega
    have i0' := (World.cell?_alloc_lt w (.cells #[.int .i64 base, .int .i64 bt, .slice (some ⟨b, off, none⟩) l.length c] 48) ⟨b, off + (l.length - 1) * 10, none⟩ hbb).trans i0
    go_enter Try.func45, Try.ntmps45
    go_wp2_with fail
    go_quiet (fail)
    go_wp2_with fail
    go_ret2
    exact ⟨rfl, below_by⟩
def termOf (base bt : Int) (l : List Itm) (place : Int) : Int × Int :=
  if place < base then (0, 11) else if place = base then (bt, 0) else if (l.length : Int) < place - base then (0, 5)
  else (match l[(place - base - 1).toNat]? with | some x => x.term | none => 0, 0)
theorem termOf_lt {base bt : Int} {l : List Itm} {place : Int} (h : place < base) : termOf base bt l place = (0, 11) := by unfold termOf; rw [if_pos h]
theorem termOf_eq {base bt : Int} {l : List Itm} : termOf base bt l base = (bt, 0) := by unfold termOf; rw [if_neg (by omega), if_pos rfl]
theorem termOf_gt {base bt : Int} {l : List Itm} {place : Int} (h : base < place) (h2 : (l.length : Int) < place - base) : termOf base bt l place = (0, 5) := by
  unfold termOf; rw [if_neg (by omega), if_neg (by omega), if_pos h2]
theorem termOf_at {base bt : Int} {l : List Itm} {k : Nat} (hk : k < l.length) : termOf base bt l (base + 1 + k) = (l[k].term, 0) := by
  unfold termOf
  rw [if_neg (by omega), if_neg (by omega), if_neg (by omega), show (base + 1 + (k : Int) - base - 1).toNat = k by omega, List.getElem?_eq_getElem hk]
set_option maxHeartbeats 1000000 in
theorem term_any (base bt : Int) (A : Option Addr) (n c : Nat) (l : List Itm) (place : Int) (w : World) (hb1 : 0 ≤ base) (hb2 : base ≤ 1048576) (hl : l.length ≤ 200) (hp : I64 place) (h : Sl w 10 A n c (itemRows l)) :
    Calls Try.prog 46 #[.agg #[.int .i64 base, .int .i64 bt, .slice A n c], .int .i64 place] w fun e w' => e = .returned (.tuple #[.int .i64 (termOf base bt l place).1, .int .i64 (termOf base bt l place).2]) ∧ Below w.heap.size w w' := by
  have hn := rows_len h
  subst hn
  have hlm := h.nc
  obtain ⟨hp1, hp2⟩ := hp
  by_cases h1 : place < base
  · rw [termOf_lt h1]
    go_enter Try.func46, Try.ntmps46
    go_wp2_with fail
    go_ret2
    exact ⟨rfl, below_by⟩
  by_cases h2 : place = base
  · subst h2
    rw [termOf_eq]
    go_enter Try.func46, Try.ntmps46
    go_wp2_with fail
    go_ret2
    exact ⟨rfl, below_by⟩
  have h2' : (place == base) = false := by simpa using h2
  by_cases h3 : (l.length : Int) < place - base
  · rw [termOf_gt (by omega) h3]
    go_enter Try.func46, Try.ntmps46
    go_wp2_with fail
    go_ret2
    exact ⟨rfl, below_by⟩
  · obtain ⟨k, rfl⟩ : ∃ k : Nat, place = base + 1 + k := ⟨(place - base - 1).toNat, by omega⟩
    have hk : k < l.length := by omega
    obtain ⟨b, off, rfl, hbb, ⟨i0, _, _, _, _, _, _, _, _, _⟩⟩ := h.item hk
    rw [termOf_at hk]
    generalize l[k] = x at i0
    have i0' := (World.cell?_alloc_lt w (.cells #[.int .i64 base, .int .i64 bt, .slice (some ⟨b, off, none⟩) l.length c] 48) ⟨b, off + k * 10, none⟩ hbb).trans i0
    have e1 : base + 1 + (k : Int) - base = k + 1 := by omega
    go_enter Try.func46, Try.ntmps46
    go_wp2_with fail
    go_ret2
    exact ⟨rfl, below_by⟩
set_option maxHeartbeats 1000000 in
theorem Last_any (base bt : Int) (A : Option Addr) (n c : Nat) (l : List Itm) (w : World) (hb1 : I64 base) (hb2 : I64 bt) (h : Sl w 10 A n c (itemRows l)) (hg : checkLog base bt l = 0) :
    Calls Try.prog 22 #[.agg #[.int .i64 base, .int .i64 bt, .slice A n c]] w fun e w' => e = .returned (.tuple #[.int .i64 (lastOf base bt l).1, .int .i64 (lastOf base bt l).2, .int .i64 0]) ∧ Below w.heap.size w w' := by
  have hgg := log_good hg
  go_enter Try.func22, Try.ntmps22
  go_wp2_with fail
  refine (Check_any _ _ _ _ _ l _ hb1 hb2 (h.alloc _)).mono ?_
  rintro e w1 ⟨rfl, hb1⟩
  obtain ⟨hc1, hf1⟩ := bcell hb1
  have hz := hb1.size
  simp at hz
  go_wp2_with fail
  refine (last_any _ _ _ _ _ l _ hgg.1 (by omega) hgg.2.2.2.1 ((h.alloc _).below hb1)).mono ?_
  rintro e w2 ⟨rfl, hb2⟩
  go_wp2_with fail
  go_ret3
  exact ⟨rfl, below_by⟩
def newerB (base bt : Int) (l : List Itm) (place of : Int) : Bool := decide ((lastOf base bt l).2 < of) || (of == (lastOf base bt l).2 && decide ((lastOf base bt l).1 ≤ place))
def termE (base bt : Int) (l : List Itm) (place : Int) : Int × Int := if place < 0 ∨ 1048576 < place then (0, 2) else termOf base bt l place
set_option maxHeartbeats 1000000 in
theorem Term_any (base bt : Int) (A : Option Addr) (n c : Nat) (l : List Itm) (place : Int) (w : World) (hb1 : I64 base) (hb2 : I64 bt) (hp : I64 place) (h : Sl w 10 A n c (itemRows l)) (hg : checkLog base bt l = 0) :
    Calls Try.prog 24 #[.agg #[.int .i64 base, .int .i64 bt, .slice A n c], .int .i64 place] w fun e w' => e = .returned (.tuple #[.int .i64 (termE base bt l place).1, .int .i64 (termE base bt l place).2]) ∧ Below w.heap.size w w' := by
  have hgg := log_good hg
  by_cases hpl : place < 0 ∨ 1048576 < place
  · have hD : termE base bt l place = (0, 2) := by unfold termE; rw [if_pos hpl]
    rw [hD]
    go_enter Try.func24, Try.ntmps24
    go_wp2_with fail
    refine (Check_any _ _ _ _ _ l _ hb1 hb2 (h.alloc _)).mono ?_
    rintro e w1 ⟨rfl, hb1⟩
    go_wp2_with fail
    all_goals go_ret2
    all_goals exact ⟨rfl, below_by⟩
  · have hD : termE base bt l place = termOf base bt l place := by unfold termE; rw [if_neg hpl]
    rw [hD]
    have hp1 : 0 ≤ place := by omega
    have hp2 : place ≤ 1048576 := by omega
    go_enter Try.func24, Try.ntmps24
    go_wp2_with fail
    refine (Check_any _ _ _ _ _ l _ hb1 hb2 (h.alloc _)).mono ?_
    rintro e w1 ⟨rfl, hb1⟩
    obtain ⟨hc1, hf1⟩ := bcell hb1
    have hz := hb1.size
    simp at hz
    go_wp2_with fail
    refine (term_any _ _ _ _ _ l _ _ hgg.1 (by omega) hgg.2.2.2.1 hp ((h.alloc _).below hb1)).mono ?_
    rintro e w2 ⟨rfl, hb2⟩
    go_wp2_with fail
    go_ret2
    exact ⟨rfl, below_by⟩
end Go.Proofs.Ytgmojjclobkpjaa
/- ledger.Behind, Trim; rostrumkeep.sameItems, sameLog. -/
namespace Go.Proofs.Ytgmojjclobkpjaa
set_option linter.all false
open Go.RowKit
theorem item_size : (Try.prog.info? 35).map (·.size) = some 10 := by kernel_rfl
theorem itemRows_drop (l : List Itm) (k : Nat) : (itemRows l).drop k = itemRows (l.drop k) := by simp [itemRows]
theorem itemRows_take (l : List Itm) (k : Nat) : (itemRows l).take k = itemRows (l.take k) := by simp [itemRows]
theorem ret_vi {v : Value} {a b : Int} (h : a = b) : Ending.returned (.tuple #[v, .int .i64 a]) = .returned (.tuple #[v, .int .i64 b]) := by rw [h]
theorem termOf_in {base bt : Int} {l : List Itm} {k : Nat} (hk : k ≤ l.length) : (termOf base bt l (base + k)).2 = 0 := by
  cases k with
  | zero => rw [show base + ((0 : Nat) : Int) = base by simp, termOf_eq]
  | succ k => rw [show base + ((k + 1 : Nat) : Int) = base + 1 + k by omega, termOf_at (by omega)]
set_option maxHeartbeats 1000000 in
theorem Trim_bad (base bt : Int) (A : Option Addr) (n c : Nat) (l : List Itm) (place : Int) (w : World) (hb1 : I64 base) (hb2 : I64 bt) (hS : Sl w 10 A n c (itemRows l)) (hg : checkLog base bt l = 0)
    (hp : I64 place) (hbad : (termOf base bt l place).2 ≠ 0) :
    Calls Try.prog 25 #[.agg #[.int .i64 base, .int .i64 bt, .slice A n c], .int .i64 place] w fun e w' => e = .returned (.tuple #[.agg #[.int .i64 0, .int .i64 0, .slice none 0 0], .int .i64 (termOf base bt l place).2]) ∧ Below w.heap.size w w' := by
  have hgg := log_good hg
  generalize hT : termOf base bt l place = T at *
  obtain ⟨tt, te⟩ := T
  have hT1 := fun w (h : Sl w 10 A n c (itemRows l)) => term_any base bt A n c l place w hgg.1 (by omega) hgg.2.2.2.1 hp h
  rw [hT] at hT1
  have HT := hide hT1; clear hT1 hT
  have hbad' : (te == 0) = false := by simpa using hbad
  clear hbad
  simp only at *
  go_enter Try.func25, Try.ntmps25
  go_wp2_with fail
  refine (Check_any _ _ _ _ _ l _ hb1 hb2 ((hS.alloc _).alloc _)).mono ?_
  rintro e w1 ⟨rfl, hb1⟩
  obtain ⟨hc1, hf1⟩ := bcell hb1
  have hz := hb1.size
  simp at hz
  have hz1 : w.heap.size < w1.heap.size := by omega
  have hz1' : w.heap.size + 1 < w1.heap.size := by omega
  go_wp2_with fail
  refine (HT.out _ (((hS.alloc _).alloc _).below hb1)).mono ?_
  rintro e w2 ⟨rfl, hb2⟩
  obtain ⟨hc2, hf2⟩ := bcell hb2
  have hz2 := hb2.size
  have hz2' : w.heap.size + 1 < w2.heap.size := by omega
  go_wp2_with fail
  refine bodyPost_ret ?_ rfl ⟨rfl, below_by⟩
  simp [results, Try.results25, go_sem, *]
set_option maxHeartbeats 1000000 in
theorem Trim_ok (base bt : Int) (A : Option Addr) (n c : Nat) (l : List Itm) (k : Nat) (w : World) (hb1 : I64 base) (hb2 : I64 bt) (hS : Sl w 10 A n c (itemRows l)) (hg : checkLog base bt l = 0)
    (hk : k ≤ l.length) :
    Calls Try.prog 25 #[.agg #[.int .i64 base, .int .i64 bt, .slice A n c], .int .i64 (base + k)] w fun e w' => ∃ v, e = .returned (.tuple #[.agg #[.int .i64 (base + k), .int .i64 (termOf base bt l (base + k)).1, v], .int .i64 0]) ∧
      Own w' w.heap.size 35 10 v (itemRows (l.drop k)) ∧ Below w.heap.size w w' := by
  have hgg := log_good hg
  have hn := rows_len hS
  subst hn
  have hlm := hS.nc
  have hT := termOf_in (base := base) (bt := bt) hk
  generalize hT' : termOf base bt l (base + k) = T at *
  obtain ⟨tt, te⟩ := T
  have hT1 := fun w (h : Sl w 10 A l.length c (itemRows l)) => term_any base bt A _ c l (base + k) w hgg.1 (by omega) hgg.2.2.2.1 ⟨by omega, by omega⟩ h
  rw [hT'] at hT1
  simp only at hT
  subst hT
  have HT := hide hT1; clear hT1 hT'
  obtain ⟨g1, g2, g3, g4, g5, _, _⟩ := hgg
  have e1 : base + (k : Int) - base = k := by omega
  have s1 := run_cut Try.underlying23 item_size A l.length c k hk
  simp only
  go_enter Try.func25, Try.ntmps25
  go_wp2_with fail
  refine (Check_any _ _ _ _ _ l _ hb1 hb2 ((hS.alloc _).alloc _)).mono ?_
  rintro e w1 ⟨rfl, hb1⟩
  obtain ⟨hc1, hf1⟩ := bcell hb1
  have hz := hb1.size
  simp at hz
  have hz1 : w.heap.size < w1.heap.size := by omega
  have hz1' : w.heap.size + 1 < w1.heap.size := by omega
  go_wp2_with fail
  refine (HT.out _ (((hS.alloc _).alloc _).below hb1)).mono ?_
  rintro e w2 ⟨rfl, hb2⟩
  obtain ⟨hc2, hf2⟩ := bcell hb2
  have hz2 := hb2.size
  have hz2' : w.heap.size + 1 < w2.heap.size := by omega
  have hz3 : w.heap.size < w2.heap.size := by omega
  go_wp2_with fail
  have hS2 := ((((hS.alloc (.cells #[.int .i64 base, .int .i64 bt, .slice A l.length c] 48)).alloc (.cells #[.int .i64 0, .int .i64 0, .slice none 0 0] 48)).below hb1).below hb2).drop k hk c (Nat.le_refl _) hlm
  rw [itemRows_drop] at hS2
  refine (Clone_item _ _ _ _ _ hS2 (item_one _) (by omega)).mono ?_
  rintro e w3 ⟨v, rfl, hown, hb3⟩
  obtain ⟨hc3, hf3⟩ := bcell hb3
  have hz4 : w.heap.size + 1 < w3.heap.size := by have := hb3.size; omega
  have hsl := hown.sl
  obtain ⟨A', c', rfl, _⟩ := hsl
  go_wp2_with fail
  refine bodyPost_ret (v := .tuple #[.agg #[.int .i64 (base + k), .int .i64 tt, .slice A' (itemRows (l.drop k)).length c'], .int .i64 0]) ?_ rfl ⟨_, rfl, ?_, below_by⟩
  · simp [results, Try.results25, go_sem, *]
  · exact (((hown.setCell (by simpa using hz2') _).setCell (by simpa using hz2') _).setCell (by simpa using hz2') _).mono (by omega)
def Itm.eqb (x y : Itm) : Bool :=
  x.term == y.term && x.time == y.time && x.nop == y.nop && x.client == y.client && x.seq == y.seq && x.cmd.kind == y.cmd.kind && x.cmd.key.toList == y.cmd.key.toList && x.cmd.field.toList == y.cmd.field.toList && x.cmd.text.toList == y.cmd.text.toList && x.cmd.n == y.cmd.n
theorem bytes_eq {a b : ByteArray} : (a.toList == b.toList) = true ↔ a = b := by
  constructor
  · intro h
    have h := eq_of_beq h
    rw [ByteArray.toList_eq, ByteArray.toList_eq] at h
    obtain ⟨⟨a⟩⟩ := a
    obtain ⟨⟨b⟩⟩ := b
    simp only at h
    rw [h]
  · rintro rfl; simp
theorem Itm.eqb_iff {x y : Itm} : x.eqb y = true ↔ x = y := by
  obtain ⟨a, b, c, d, e, ⟨f, g, h, i, j⟩⟩ := x
  obtain ⟨a', b', c', d', e', ⟨f', g', h', i', j'⟩⟩ := y
  unfold Itm.eqb
  simp only [Bool.and_eq_true, bytes_eq, Itm.mk.injEq, Cmd.mk.injEq]
  simp only [beq_iff_eq, and_assoc]
instance : DecidableEq Itm := fun x y => if h : x.eqb y = true then isTrue (Itm.eqb_iff.1 h) else isFalse fun e => h (Itm.eqb_iff.2 e)
theorem item_neq (x y : Itm) (w : World) : (binOp .neq 35 (.agg #[.int .i64 x.term, .int .i64 x.time, .bool x.nop, .int .i64 x.client, .int .i64 x.seq, .int .i64 x.cmd.kind, .string x.cmd.key, .string x.cmd.field, .string x.cmd.text, .int .i64 x.cmd.n])
    (.agg #[.int .i64 y.term, .int .i64 y.time, .bool y.nop, .int .i64 y.client, .int .i64 y.seq, .int .i64 y.cmd.kind, .string y.cmd.key, .string y.cmd.field, .string y.cmd.text, .int .i64 y.cmd.n])).run Try.prog w = .ok (.bool (!x.eqb y)) w := by
  by_cases h : x.eqb y = true
  · obtain rfl := Itm.eqb_iff.1 h
    rw [h]; simp [go_sem]
  · have h' : x.eqb y = false := by simpa using h
    rw [h']; simp [go_sem]
    intro e1 e2 e3 e4 e5 e6 e7 e8 e9 e10
    exact h (by simp [Itm.eqb, e1, e2, e3, e4, e5, e6, e7, e8, e9, e10])
theorem same_next {a b : List Itm} {k : Nat} (hk : k < a.length) (hk' : k < b.length) (h : a[k] = b[k]) (HQ : Hid (∀ j, j < k → a[j]? = b[j]?)) : Hid (∀ j, j < k + 1 → a[j]? = b[j]?) := by
  intro j hj
  rcases Nat.lt_succ_iff_lt_or_eq.1 hj with h1 | rfl
  · exact HQ.out j h1
  · rw [List.getElem?_eq_getElem hk, List.getElem?_eq_getElem hk', h]
theorem same_not {a b : List Itm} {k : Nat} (hk : k < a.length) (hk' : k < b.length) (h : ¬ a[k] = b[k]) : Hid (decide (a = b) = false) := by
  show decide (a = b) = false
  simp only [decide_eq_false_iff_not]
  rintro rfl
  exact h rfl
theorem same_all {a b : List Itm} (hl : a.length = b.length) (HQ : Hid (∀ j, j < a.length → a[j]? = b[j]?)) : Hid (decide (a = b) = true) := by
  show decide (a = b) = true
  simp only [decide_eq_true_eq]
  refine List.ext_getElem? fun j => ?_
  by_cases hj : j < a.length
  · exact HQ.out j hj
  · rw [List.getElem?_eq_none (by omega), List.getElem?_eq_none (by omega)]
set_option maxHeartbeats 1000000 in
theorem sameItems_any (A B : Option Addr) (n m c d : Nat) (a b : List Itm) (w : World) (ha : Sl w 10 A n c (itemRows a)) (hb : Sl w 10 B m d (itemRows b)) :
    Calls Try.prog 7 #[.slice A n c, .slice B m d] w fun e w' => e = .returned (.bool (decide (a = b))) ∧ Below w.heap.size w w' := by
  have hn := rows_len ha
  have hm := rows_len hb
  subst hn; subst hm
  have hlm := ha.cm
  have hlm2 := ha.nc
  unfold maxLen at hlm
  by_cases hl : a.length = b.length
  · have hl' : ((a.length : Int) == (b.length : Int)) = true := by simp [hl]
    go_enter Try.func7, Try.ntmps7
    go_wp2_with fail
    go_loopw [5] (fun i wr => ∃ k : Nat, k ≤ a.length ∧ i = .int .i64 k ∧ Hid (∀ j, j < k → a[j]? = b[j]?) ∧ Below w.heap.size w wr) (fun i _ => a.length - (intOf i).toNat)
    case atStart => exact ⟨0, by omega, rfl, fun j hj => by omega, below_by⟩
    case round =>
      obtain ⟨k, hk, rfl, HQ, hbr⟩ := hrel
      by_cases hlt : k < a.length
      · obtain ⟨b1, o1, rfl, _, ⟨i0, i1, i2, i3, i4, i5, i6, i7, i8, i9⟩⟩ := (ha.below hbr).item hlt
        obtain ⟨b2, o2, rfl, _, ⟨j0, j1, j2, j3, j4, j5, j6, j7, j8, j9⟩⟩ := (hb.below hbr).item (k := k) (by omega)
        have hne := item_neq a[k] b[k]
        by_cases hxy : a[k] = b[k]
        · have hx : a[k].eqb b[k] = true := Itm.eqb_iff.2 hxy
          simp only [hx, Bool.not_true] at hne
          have HN := same_next hlt (by omega) hxy HQ
          clear hxy hx
          generalize a[k] = x at i0 i1 i2 i3 i4 i5 i6 i7 i8 i9 hne
          generalize b[k] = y at j0 j1 j2 j3 j4 j5 j6 j7 j8 j9 hne
          go_wp2_with fail
          go_quiet (fail)
          go_wp2_with fail
          go_roundw
          case rel => exact ⟨k + 1, by omega, by go_num, HN, below_by⟩
          case measure => simp [intOf]; omega
        · have hx : a[k].eqb b[k] = false := by simpa using fun h => hxy (Itm.eqb_iff.1 h)
          simp only [hx, Bool.not_false] at hne
          have HN := same_not hlt (by omega) hxy
          clear hxy hx
          generalize a[k] = x at i0 i1 i2 i3 i4 i5 i6 i7 i8 i9 hne
          generalize b[k] = y at j0 j1 j2 j3 j4 j5 j6 j7 j8 j9 hne
          go_wp2_with fail
          go_quiet (fail)
          go_wp2_with fail
          go_ret
          exact ⟨ret_bool HN.out.symm, below_by⟩
      · obtain rfl : k = a.length := by omega
        have HN := same_all hl HQ
        go_wp2_with fail
        go_ret
        exact ⟨ret_bool HN.out.symm, below_by⟩
  · have hl' : ((a.length : Int) == (b.length : Int)) = false := by simp; omega
    have hl2 : ((a.length : Int) != (b.length : Int)) = true := by simp; omega
    have HN : Hid (decide (a = b) = false) := by
      show decide (a = b) = false
      simp only [decide_eq_false_iff_not]
      rintro rfl; exact hl rfl
    go_enter Try.func7, Try.ntmps7
    go_wp2_with fail
    go_ret
    exact ⟨ret_bool HN.out.symm, below_by⟩
end Go.Proofs.Ytgmojjclobkpjaa
/- rostrumkeep.items and Log: items of deeds. -/
namespace Go.Proofs.Ytgmojjclobkpjaa
set_option linter.all false
open Go.RowKit
/-- An item of a deed, at a term and a time. -/
def itemAt (d : DeedD) (t m : Int) : Itm := { itemOf d 0 0 with term := t, time := m }
def itemsGo : Int → Int → List DeedD → List Itm
  | _, _, [] => []
  | t, m, d :: l => itemAt d (t + picked d.off 4 / 3) (m + picked d.wait 3) :: itemsGo (t + picked d.off 4 / 3) (m + picked d.wait 3) l
def itemsOf (l : List DeedD) (term : Int) : List Itm := itemsGo term 0 (l.take 30)
theorem items_step {t0 t m : Int} {l : List DeedD} {done : List Itm} {k : Nat} (hk : k < l.length) (h30 : k < 30) (h : Hid (itemsOf l t0 = done ++ itemsGo t m ((l.take 30).drop k))) :
    Hid (itemsOf l t0 = (done ++ [itemAt l[k] (t + picked l[k].off 4 / 3) (m + picked l[k].wait 3)]) ++ itemsGo (t + picked l[k].off 4 / 3) (m + picked l[k].wait 3) ((l.take 30).drop (k + 1))) := by
  have hk' : k < (l.take 30).length := by rw [List.length_take]; omega
  have := h.out
  rw [List.drop_eq_getElem_cons hk', List.getElem_take] at this
  show itemsOf l t0 = _
  rw [this, itemsGo]
  simp
theorem items_end {t0 t m : Int} {l : List DeedD} {done : List Itm} {k : Nat} (hk : ¬ (k < l.length ∧ k < 30)) (h : Hid (itemsOf l t0 = done ++ itemsGo t m ((l.take 30).drop k))) : itemsOf l t0 = done := by
  have := h.out
  rw [List.drop_eq_nil_of_le (by rw [List.length_take]; omega), itemsGo] at this
  simpa using this
theorem itemRows_snoc (l : List Itm) (x : Itm) : itemRows (l ++ [x]) = itemRows l ++ [x.cells] := by simp [itemRows]
theorem itemRows_length (l : List Itm) : (itemRows l).length = l.length := by simp [itemRows]
set_option maxRecDepth 100000 in
set_option maxHeartbeats 2000000 in
theorem items_any (A : Option Addr) (n c : Nat) (l : List DeedD) (term : Int) (w : World) (hS : Sl w 8 A n c (deedRows l)) (hd : ∀ d ∈ l, d.ok) (ht1 : 0 ≤ term) (ht2 : term ≤ 1099511627776) :
    Calls Try.prog 4 #[.slice A n c, .int .i64 term] w fun e w' => ∃ v, e = .returned v ∧ Own w' w.heap.size 35 10 v (itemRows (itemsOf l term)) ∧ Below w.heap.size w w' := by
  have hn := deed_len hS
  subst hn
  have hlm := hS.nc
  have hlm' := hS.cm
  unfold maxLen at hlm'
  have HD := hide hd; clear hd
  go_enter Try.func4, Try.ntmps4
  go_wp2_with fail
  go_loopw [1, 5, 6, 7] (fun s1 s5 s6 s7 wr => ∃ k : Nat, k ≤ l.length ∧ k ≤ 30 ∧ s7 = .int .i64 k ∧ ∃ (t m : Int) (done : List Itm), s1 = .int .i64 t ∧ s6 = .int .i64 m ∧ Own wr w.heap.size 35 10 s5 (itemRows done) ∧
      Hid (itemsOf l term = done ++ itemsGo t m ((l.take 30).drop k)) ∧ Hid (done.length = k) ∧ 0 ≤ t ∧ t ≤ 1099511627776 + k ∧ 0 ≤ m ∧ m ≤ 2 * k ∧ Below w.heap.size w wr)
    (fun _ _ _ s7 _ => l.length - (intOf s7).toNat)
  case atStart => exact ⟨0, by omega, by omega, rfl, _, _, [], rfl, rfl, Own.nil, rfl, rfl, ht1, by omega, by omega, by omega, below_by⟩
  case round =>
    obtain ⟨k, hk, hk30, rfl, t, m, done, rfl, rfl, hown, HQ, HL, b1, b2, b3, b4, hbr⟩ := hrel
    have hbs := hbr.size
    by_cases hlt : k < l.length ∧ k < 30
    · obtain ⟨hlt, hlt30⟩ := hlt
      obtain ⟨b, off, rfl, hbb, ⟨i0, i1, i2, i3, i4, i5, i6, i7⟩⟩ := (hS.below hbr).deed hlt
      have HQ' := items_step hlt hlt30 HQ
      have hdk : (l[k]).ok := HD.out _ (List.getElem_mem hlt)
      generalize l[k] = d at i0 i1 i2 i3 i4 i5 i6 i7 HQ' hdk
      have hI := fun w => Item_any d hdk 0 0 w ⟨by omega, by omega⟩ ⟨by omega, by omega⟩
      have hat : itemAt d (t + picked d.off 4 / 3) (m + picked d.wait 3) = { itemOf d 0 0 with term := t + picked d.off 4 / 3, time := m + picked d.wait 3 } := rfl
      rw [hat] at HQ'
      clear hat
      generalize itemOf d 0 0 = x at hI HQ'
      obtain ⟨xt, xm, xn, xc, xs, ⟨ck, cy, cf, ct, cn⟩⟩ := x
      simp only [Itm.cells] at hI HQ'
      have HI := hide hI; clear hI
      obtain ⟨⟨_, _⟩, ⟨o1, o2⟩, ⟨w1', w2'⟩, _⟩ := hdk
      have p1 := picked_lo d.off 4 (by omega)
      have p2 := picked_hi d.off 4 (by omega)
      have q1 := picked_lo d.wait 3 (by omega)
      have q2 := picked_hi d.wait 3 (by omega)
      go_wp2_with (first
        | (go_at_call 5; refine (picked_any _ _ _ (by omega) (by omega) (by omega) (by omega)).mono ?_; rintro e w' ⟨rfl, rfl⟩)
        | (go_at_call 8; refine (HI.out _).mono ?_; rintro e w1 ⟨rfl, hb1⟩; obtain ⟨hc1, hf1⟩ := bcell hb1; have hz1 := hb1.size; have hz2 : b < w1.heap.size := (by omega); have hown1 := hown.below hb1)
        | (at_builtin; refine wpList_push rfl _ _ _ rfl Try.underlying23 item_info rfl (by decide) (by rfl) (hown1.alloc _) (H := w1.heap.size + 1) (by simp) (by rfl) rfl (item_cells_one ⟨t + picked d.off 4 / 3, m + picked d.wait 3, xn, xc, xs, ⟨ck, cy, cf, ct, cn⟩⟩) ?_ ?_ ?_ ?_))
      · rw [itemRows_length, HL.out]; unfold maxLen; omega
      · rw [itemRows_length, HL.out]; omega
      · simp; omega
      · intro v' w2 hown2 hb2 hz3
        have hown3 : Own w2 w.heap.size 35 10 v' (itemRows (done ++ [⟨t + picked d.off 4 / 3, m + picked d.wait 3, xn, xc, xs, ⟨ck, cy, cf, ct, cn⟩⟩])) := by rw [itemRows_snoc]; exact hown2
        have HL' : Hid ((done ++ [(⟨t + picked d.off 4 / 3, m + picked d.wait 3, xn, xc, xs, ⟨ck, cy, cf, ct, cn⟩⟩ : Itm)]).length = k + 1) := by
          show _ = _
          rw [List.length_append, HL.out]; rfl
        go_wp2_with fail
        go_roundw
        case rel => exact ⟨k + 1, by omega, by omega, by go_num, _, _, _, rfl, rfl, hown3, HQ', HL', by omega, by omega, by omega, by omega, below_by⟩
        case measure => simp [intOf]; omega
    · have HE := hide (items_end hlt HQ)
      by_cases h1 : k < l.length
      · have h30 : k = 30 := by omega
        have h30' : ¬ ((k : Int) < 30) := by omega
        clear h30
        go_wp2_with fail
        go_ret
        exact ⟨_, rfl, by rw [HE.out]; exact hown, below_by⟩
      · go_wp2_with fail
        go_ret
        exact ⟨_, rfl, by rw [HE.out]; exact hown, below_by⟩
def baseOf (base : Int) : Int := picked base 12
def btOf (base : Int) : Int := if (picked base 12 == 0) = true then 0 else 2
def logItems (l : List DeedD) (base : Int) : List Itm := itemsOf l (if (picked base 12 == 0) = true then 1 else 2)
end Go.Proofs.Ytgmojjclobkpjaa
/- What the logs of deeds are: they may be, and are short. No walk. -/
namespace Go.Proofs.Ytgmojjclobkpjaa
set_option linter.all false
open Go.RowKit
theorem zeroCmd_call : zeroCall 0 zeroCmd.kind zeroCmd.key zeroCmd.field zeroCmd.text zeroCmd.n = true := by
  simp [zeroCall, zeroCmd, emp_list]
theorem check_itemAt (d : DeedD) (t m : Int) (h1 : 1 ≤ t) (h2 : t ≤ 1048576) (h3 : 0 ≤ m) (h4 : m ≤ 1073741824) : checkItem (itemAt d t m) = 0 := by
  have c1 := picked_lo d.client 50 (by omega)
  have c2 := picked_hi d.client 50 (by omega)
  have o1 := picked_lo d.off 100 (by omega)
  have o2 := picked_hi d.off 100 (by omega)
  unfold itemAt itemOf
  split
  · unfold checkItem
    rw [if_neg (by simp; omega)]
    simp [Itm.zero, zeroCmd_call]
  · split
    · unfold checkItem
      rw [if_neg (by simp; omega)]
      simp [checkCall, zeroCmd_call]
    · unfold checkItem
      rw [if_neg (by simp; omega)]
      simp only [Bool.false_eq_true, if_false]
      unfold checkCall
      rw [if_neg (by simp; omega), if_neg (by simp [numberOk]; omega)]
      exact cmd_ok _ _ _ _ _
theorem chain_items : ∀ (l : List DeedD) (bt tm t m : Int), bt ≤ t → tm ≤ m → 1 ≤ t → t + l.length ≤ 1048576 → 0 ≤ m → m + 2 * l.length ≤ 1073741824 → chainOk bt tm (itemsGo t m l) = true
  | [], _, _, _, _, _, _, _, _, _, _ => rfl
  | d :: l, bt, tm, t, m, h1, h2, h3, h4, h5, h6 => by
    have o1 := picked_lo d.off 4 (by omega)
    have o2 := picked_hi d.off 4 (by omega)
    have q1 := picked_lo d.wait 3 (by omega)
    have q2 := picked_hi d.wait 3 (by omega)
    simp only [List.length_cons] at h4 h6
    simp only [itemsGo, chainOk, Bool.and_eq_true, Bool.not_eq_true', decide_eq_false_iff_not, beq_iff_eq]
    have e1 : (itemAt d (t + picked d.off 4 / 3) (m + picked d.wait 3)).term = t + picked d.off 4 / 3 := rfl
    have e2 : (itemAt d (t + picked d.off 4 / 3) (m + picked d.wait 3)).time = m + picked d.wait 3 := rfl
    rw [e1, e2]
    refine ⟨⟨⟨check_itemAt d _ _ (by omega) (by omega) (by omega) (by omega), by omega⟩, by omega⟩, chain_items l _ _ _ _ (by omega) (by omega) (by omega) (by omega) (by omega) (by omega)⟩
theorem itemsGo_length : ∀ (l : List DeedD) (t m : Int), (itemsGo t m l).length = l.length
  | [], _, _ => rfl
  | d :: l, t, m => by simp [itemsGo, itemsGo_length l]
theorem itemsOf_length (l : List DeedD) (t : Int) : (itemsOf l t).length = min l.length 30 := by
  unfold itemsOf; rw [itemsGo_length, List.length_take]; omega
theorem logItems_length (l : List DeedD) (base : Int) : (logItems l base).length = min l.length 30 := itemsOf_length _ _
/-- A log of deeds may be. -/
structure GoodLog (b bt : Int) (l : List Itm) : Prop where
  ok : checkLog b bt l = 0
  b0 : 0 ≤ b
  b1 : b < 12
  t0 : 0 ≤ bt
  t1 : bt ≤ 2
  len : l.length ≤ 30
theorem checkLog_ok {b bt : Int} {l : List Itm} (h1 : 0 ≤ b) (h2 : 0 ≤ bt) (h3 : bt ≤ 1048576) (h4 : b = 0 ↔ bt = 0) (h5 : l.length ≤ 200) (h6 : b + l.length ≤ 1048576) (h7 : chainOk bt 0 l = true) : checkLog b bt l = 0 := by
  have e : ((b == 0) != (bt == 0)) = false := by
    by_cases hb : b = 0
    · have := h4.1 hb; simp [hb, this]
    · have : ¬ bt = 0 := fun e => hb (h4.2 e)
      have a1 : (b == 0) = false := by simpa using hb
      have a2 : (bt == 0) = false := by simpa using this
      rw [a1, a2]; rfl
  have hb : headBad b bt l.length = false := by
    simp only [headBad, e, Bool.or_eq_false_iff, decide_eq_false_iff_not]
    refine ⟨⟨⟨⟨⟨?_, ?_⟩, ?_⟩, trivial⟩, ?_⟩, ?_⟩ <;> omega
  unfold checkLog
  rw [hb, if_neg (by simp), if_pos h7]
theorem log_goodLog (l : List DeedD) (base : Int) : GoodLog (baseOf base) (btOf base) (logItems l base) := by
  have p1 := picked_lo base 12 (by omega)
  have p2 := picked_hi base 12 (by omega)
  have hl := logItems_length l base
  have hlen : ((l.take 30).length : Int) ≤ 30 := by rw [List.length_take]; omega
  by_cases h0 : (picked base 12 == 0) = true
  · have h0' : picked base 12 = 0 := by simpa using h0
    refine ⟨checkLog_ok p1 ?_ ?_ ?_ (by omega) ?_ ?_, p1, p2, ?_, ?_, by omega⟩
    · simp [btOf, h0]
    · simp [btOf, h0]
    · simp [btOf, baseOf, h0']
    · show baseOf base + _ ≤ _; unfold baseOf; omega
    · have e1 : btOf base = 0 := by simp [btOf, h0]
      have e2 : logItems l base = itemsGo 1 0 (l.take 30) := by simp [logItems, h0, itemsOf]
      rw [e1, e2]
      exact chain_items _ _ _ _ _ (by omega) (by omega) (by omega) (by omega) (by omega) (by omega)
    · simp [btOf, h0]
    · simp [btOf, h0]
  · have h0 : (picked base 12 == 0) = false := by simpa using h0
    have h0' : ¬ picked base 12 = 0 := by simpa using h0
    refine ⟨checkLog_ok p1 ?_ ?_ ?_ (by omega) ?_ ?_, p1, p2, ?_, ?_, by omega⟩
    · simp [btOf, h0]
    · simp [btOf, h0]
    · simp [btOf, baseOf, h0']
    · show baseOf base + _ ≤ _; unfold baseOf; omega
    · have e1 : btOf base = 2 := by simp [btOf, h0]
      have e2 : logItems l base = itemsGo 2 0 (l.take 30) := by simp [logItems, h0, itemsOf]
      rw [e1, e2]
      exact chain_items _ _ _ _ _ (by omega) (by omega) (by omega) (by omega) (by omega) (by omega)
    · simp [btOf, h0]
    · simp [btOf, h0]
end Go.Proofs.Ytgmojjclobkpjaa
/- A log that is trimmed is a log. -/
namespace Go.Proofs.Ytgmojjclobkpjaa
set_option linter.all false
open Go.RowKit
theorem checkItem_ok {x : Itm} (h : checkItem x = 0) : 1 ≤ x.term ∧ x.term ≤ 1048576 ∧ 0 ≤ x.time ∧ x.time ≤ 1073741824 := by
  unfold checkItem at h
  split at h
  · cases h
  · omega
theorem chain_head {t m : Int} {x : Itm} {l : List Itm} (h : chainOk t m (x :: l) = true) : checkItem x = 0 ∧ t ≤ x.term ∧ m ≤ x.time ∧ chainOk x.term x.time l = true := by
  simp only [chainOk, Bool.and_eq_true, beq_iff_eq, Bool.not_eq_true', decide_eq_false_iff_not] at h
  obtain ⟨⟨⟨h1, h2⟩, h3⟩, h4⟩ := h
  exact ⟨h1, by omega, by omega, h4⟩
theorem chain_weak {t m m' : Int} {l : List Itm} (h : chainOk t m l = true) (hm : m' ≤ m) : chainOk t m' l = true := by
  cases l with
  | nil => rfl
  | cons x l =>
    obtain ⟨h1, h2, h3, h4⟩ := chain_head h
    have a2 : decide (x.term < t) = false := by simp; omega
    have a3 : decide (x.time < m') = false := by simp; omega
    simp [chainOk, h1, a2, a3, h4]
theorem chain_drop : ∀ (l : List Itm) (k : Nat) (t m : Int), chainOk t m l = true → 0 ≤ m → t ≤ 1048576 → k ≤ l.length →
    chainOk (if k = 0 then t else match l[k - 1]? with | some x => x.term | none => t) 0 (l.drop k) = true ∧
    t ≤ (if k = 0 then t else match l[k - 1]? with | some x => x.term | none => t) ∧ (if k = 0 then t else match l[k - 1]? with | some x => x.term | none => t) ≤ 1048576 ∧
    (0 < k → 1 ≤ (if k = 0 then t else match l[k - 1]? with | some x => x.term | none => t))
  | l, 0, t, m, h, hm, ht, _ => ⟨chain_weak h hm, by simp, by simpa using ht, by omega⟩
  | [], k + 1, t, m, h, hm, ht, hk => by simp at hk
  | x :: l, k + 1, t, m, h, hm, ht, hk => by
    have hk : k ≤ l.length := by simpa using hk
    obtain ⟨h1, h2, h3, h4⟩ := chain_head h
    have hc := checkItem_ok h1
    have ih := chain_drop l k x.term x.time h4 (by omega) (by omega) hk
    cases k with
    | zero => simp at ih ⊢; exact ⟨ih.1, h2, hc.2.1, hc.1⟩
    | succ k =>
      have hk : k < l.length := hk
      simp [List.getElem?_eq_getElem hk] at ih ⊢
      exact ⟨ih.1, by omega, by omega, by omega⟩
theorem termOf_k {b bt : Int} {L : List Itm} {k : Nat} (hk : k ≤ L.length) : (termOf b bt L (b + k)).1 = (if k = 0 then bt else match L[k - 1]? with | some x => x.term | none => bt) := by
  cases k with
  | zero => simp [termOf_eq]
  | succ k =>
    rw [show b + ((k + 1 : Nat) : Int) = b + 1 + k by omega, termOf_at (by omega)]
    simp [List.getElem?_eq_getElem (show k < L.length by omega)]
theorem trim_good {b bt : Int} {L : List Itm} {k : Nat} (h : checkLog b bt L = 0) (hk : k ≤ L.length) :
    checkLog (b + k) (termOf b bt L (b + k)).1 (L.drop k) = 0 ∧ 0 ≤ (termOf b bt L (b + k)).1 ∧ (termOf b bt L (b + k)).1 ≤ 1048576 ∧ lastOf (b + k) (termOf b bt L (b + k)).1 (L.drop k) = lastOf b bt L := by
  obtain ⟨g1, g2, g3, g4, g5, g6, g7⟩ := log_good h
  obtain ⟨d1, d2, d3, d4⟩ := chain_drop L k bt 0 g7 (by omega) g3 hk
  rw [termOf_k hk]
  refine ⟨checkLog_ok (by omega) (by omega) d3 ?_ (by rw [List.length_drop]; omega) (by rw [List.length_drop]; omega) d1, by omega, d3, ?_⟩
  · cases k with
    | zero => simpa using g6
    | succ k => have := d4 (by omega); constructor <;> intro <;> omega
  · by_cases hd : L.length = k
    · subst hd
      rw [List.drop_length, lastOf_nil]
      by_cases h0 : L.length = 0
      · obtain rfl : L = [] := List.length_eq_zero_iff.1 h0
        simp [lastOf_nil]
      · rw [lastOf_pos (by omega), if_neg h0, List.getElem?_eq_getElem (by omega)]
    · rw [lastOf_pos (l := L.drop k) (by rw [List.length_drop]; omega), lastOf_pos (l := L) (by omega)]
      have e1 : ((L.drop k).length : Int) = L.length - k := by rw [List.length_drop]; omega
      rw [e1]
      congr 1
      · omega
      · simp only [List.getElem_drop, List.length_drop]
        congr 2; omega
theorem lastOf_place (b bt : Int) (L : List Itm) : (lastOf b bt L).1 = b + L.length := by
  by_cases h : L = []
  · subst h; simp [lastOf_nil]
  · have : 0 < L.length := List.length_pos_iff.2 h
    rw [lastOf_pos this]
end Go.Proofs.Ytgmojjclobkpjaa
