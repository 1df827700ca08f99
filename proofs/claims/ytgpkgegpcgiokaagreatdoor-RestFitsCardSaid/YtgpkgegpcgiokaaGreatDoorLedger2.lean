/- ledger.last, term, Last, Term, Newer. -/
import Derived.Test.YtgpkgegpcgiokaaGreatDoorLedger
namespace Go.Proofs.YtgpkgegpcgiokaaGreatDoor
set_option linter.all false
open Go.RowKit
theorem log_good {base bt : Int} {l : List Itm} (h : checkLog base bt l = 0) : 0 ≤ base ∧ 0 ≤ bt ∧ bt ≤ 1048576 ∧ l.length ≤ 200 ∧ base + l.length ≤ 1048576 ∧ (base = 0 ↔ bt = 0) ∧ chainOk bt 0 l = true := by
  unfold checkLog at h
  split at h
  · cases h
  · rename_i hb
    split at h
    · rename_i hc
      have hb : headBad base bt l.length = false := by simpa using hb
      simp only [headBad, Bool.or_eq_false_iff, decide_eq_false_iff_not, bne_eq_false_iff_eq] at hb
      obtain ⟨⟨⟨⟨⟨g1, g2⟩, g3⟩, g4⟩, g5⟩, g6⟩ := hb
      refine ⟨by omega, by omega, by omega, by omega, by omega, ?_, hc⟩
      rw [Bool.eq_iff_iff] at g4
      simpa using g4
    · cases h
theorem log_01 (base bt : Int) (l : List Itm) : checkLog base bt l = 0 ∨ checkLog base bt l = 13 := by
  unfold checkLog; (repeat' split) <;> simp
theorem rows_len {w : World} {A : Option Addr} {n c : Nat} {l : List Itm} (h : Sl w 10 A n c (itemRows l)) : l.length = n := by have := h.len; simpa [itemRows] using this
def lastOf (base bt : Int) (l : List Itm) : Int × Int := match l.getLast? with | some x => (base + l.length, x.term) | none => (base, bt)
theorem lastOf_nil (base bt : Int) : lastOf base bt [] = (base, bt) := rfl
theorem lastOf_pos {base bt : Int} {l : List Itm} (h : 0 < l.length) : lastOf base bt l = (base + l.length, (l[l.length - 1]'(by omega)).term) := by
  unfold lastOf
  rw [List.getLast?_eq_getElem?, List.getElem?_eq_getElem (by omega)]
theorem ret_2 {a b c d : Int} (h1 : a = c) (h2 : b = d) : Ending.returned (.tuple #[.int .i64 a, .int .i64 b]) = .returned (.tuple #[.int .i64 c, .int .i64 d]) := by rw [h1, h2]
theorem ret_b0 {a b : Bool} (h : a = b) : Ending.returned (.tuple #[.bool a, .int .i64 0]) = .returned (.tuple #[.bool b, .int .i64 0]) := by rw [h]
set_option maxHeartbeats 1000000 in
theorem last_any (base bt : Int) (A : Option Addr) (n c : Nat) (l : List Itm) (w : World) (hb1 : 0 ≤ base) (hb2 : base ≤ 1048576) (hl : l.length ≤ 200) (h : Sl w 10 A n c (itemRows l)) :
    Calls Tryz.prog 156 #[.agg #[.int .i64 base, .int .i64 bt, .slice A n c]] w fun e w' => e = .returned (.tuple #[.int .i64 (lastOf base bt l).1, .int .i64 (lastOf base bt l).2]) ∧ Below w.heap.size w w' := by
  have hn := rows_len h
  subst hn
  have hlm := h.nc
  by_cases h0 : l = []
  · subst h0
    rw [lastOf_nil]
    go_enter Tryz.func156, Tryz.ntmps156
    go_wp2_with fail
    go_quiet (fail)
    go_wp2_with fail
    go_ret2
    exact ⟨rfl, below_by⟩
  · have hp : 0 < l.length := List.length_pos_iff.2 h0
    obtain ⟨b, off, rfl, hbb, ⟨i0, _, _, _, _, _, _, _, _, _⟩⟩ := h.item (k := l.length - 1) (by omega)
    rw [lastOf_pos hp]
    generalize l[l.length - 1]'(by omega) = x at i0
    have hp' : (0 : Int) < (l.length : Int) := by omega
    have i0' := (World.cell?_alloc_lt w (.cells #[.int .i64 base, .int .i64 bt, .slice (some ⟨b, off, none⟩) l.length c] 73) ⟨b, off + (l.length - 1) * 10, none⟩ hbb).trans i0
    go_enter Tryz.func156, Tryz.ntmps156
    go_wp2_with fail
    go_quiet (fail)
    go_wp2_with fail
    go_ret2
    exact ⟨rfl, below_by⟩
def termOf (base bt : Int) (l : List Itm) (place : Int) : Int × Int :=
  if place < base then (0, 11) else if place = base then (bt, 0) else if (l.length : Int) < place - base then (0, 5)
  else (match l[(place - base - 1).toNat]? with | some x => x.term | none => 0, 0)
theorem termOf_lt {base bt : Int} {l : List Itm} {place : Int} (h : place < base) : termOf base bt l place = (0, 11) := by unfold termOf; rw [if_pos h]
theorem termOf_eq {base bt : Int} {l : List Itm} : termOf base bt l base = (bt, 0) := by unfold termOf; rw [if_neg (by omega), if_pos rfl]
theorem termOf_gt {base bt : Int} {l : List Itm} {place : Int} (h : base < place) (h2 : (l.length : Int) < place - base) : termOf base bt l place = (0, 5) := by
  unfold termOf; rw [if_neg (by omega), if_neg (by omega), if_pos h2]
theorem termOf_at {base bt : Int} {l : List Itm} {k : Nat} (hk : k < l.length) : termOf base bt l (base + 1 + k) = (l[k].term, 0) := by
  unfold termOf
  rw [if_neg (by omega), if_neg (by omega), if_neg (by omega), show (base + 1 + (k : Int) - base - 1).toNat = k by omega, List.getElem?_eq_getElem hk]
set_option maxHeartbeats 1000000 in
theorem term_any (base bt : Int) (A : Option Addr) (n c : Nat) (l : List Itm) (place : Int) (w : World) (hb1 : 0 ≤ base) (hb2 : base ≤ 1048576) (hl : l.length ≤ 200) (hp : I64 place) (h : Sl w 10 A n c (itemRows l)) :
    Calls Tryz.prog 80 #[.agg #[.int .i64 base, .int .i64 bt, .slice A n c], .int .i64 place] w fun e w' => e = .returned (.tuple #[.int .i64 (termOf base bt l place).1, .int .i64 (termOf base bt l place).2]) ∧ Below w.heap.size w w' := by
  have hn := rows_len h
  subst hn
  have hlm := h.nc
  obtain ⟨hp1, hp2⟩ := hp
  by_cases h1 : place < base
  · rw [termOf_lt h1]
    go_enter Tryz.func80, Tryz.ntmps80
    go_wp2_with fail
    go_ret2
    exact ⟨rfl, below_by⟩
  by_cases h2 : place = base
  · subst h2
    rw [termOf_eq]
    go_enter Tryz.func80, Tryz.ntmps80
    go_wp2_with fail
    go_ret2
    exact ⟨rfl, below_by⟩
  have h2' : (place == base) = false := by simpa using h2
  by_cases h3 : (l.length : Int) < place - base
  · rw [termOf_gt (by omega) h3]
    go_enter Tryz.func80, Tryz.ntmps80
    go_wp2_with fail
    go_ret2
    exact ⟨rfl, below_by⟩
  · obtain ⟨k, rfl⟩ : ∃ k : Nat, place = base + 1 + k := ⟨(place - base - 1).toNat, by omega⟩
    have hk : k < l.length := by omega
    obtain ⟨b, off, rfl, hbb, ⟨i0, _, _, _, _, _, _, _, _, _⟩⟩ := h.item hk
    rw [termOf_at hk]
    generalize l[k] = x at i0
    have i0' := (World.cell?_alloc_lt w (.cells #[.int .i64 base, .int .i64 bt, .slice (some ⟨b, off, none⟩) l.length c] 73) ⟨b, off + k * 10, none⟩ hbb).trans i0
    have e1 : base + 1 + (k : Int) - base = k + 1 := by omega
    go_enter Tryz.func80, Tryz.ntmps80
    go_wp2_with fail
    go_ret2
    exact ⟨rfl, below_by⟩
set_option maxHeartbeats 1000000 in
theorem Last_any (base bt : Int) (A : Option Addr) (n c : Nat) (l : List Itm) (w : World) (hb1 : I64 base) (hb2 : I64 bt) (h : Sl w 10 A n c (itemRows l)) (hg : checkLog base bt l = 0) :
    Calls Tryz.prog 129 #[.agg #[.int .i64 base, .int .i64 bt, .slice A n c]] w fun e w' => e = .returned (.tuple #[.int .i64 (lastOf base bt l).1, .int .i64 (lastOf base bt l).2, .int .i64 0]) ∧ Below w.heap.size w w' := by
  have hgg := log_good hg
  go_enter Tryz.func129, Tryz.ntmps129
  go_wp2_with fail
  refine (Check_any _ _ _ _ _ l _ hb1 hb2 (h.alloc _)).mono ?_
  rintro e w1 ⟨rfl, hb1⟩
  obtain ⟨hc1, hf1⟩ := bcell hb1
  have hz := hb1.size
  simp at hz
  go_wp2_with fail
  refine (last_any _ _ _ _ _ l _ hgg.1 (by omega) hgg.2.2.2.1 ((h.alloc _).below hb1)).mono ?_
  rintro e w2 ⟨rfl, hb2⟩
  go_wp2_with fail
  go_ret3
  exact ⟨rfl, below_by⟩
def termE (base bt : Int) (l : List Itm) (place : Int) : Int × Int := if place < 0 ∨ 1048576 < place then (0, 2) else termOf base bt l place
set_option maxHeartbeats 1000000 in
theorem Term_any (base bt : Int) (A : Option Addr) (n c : Nat) (l : List Itm) (place : Int) (w : World) (hb1 : I64 base) (hb2 : I64 bt) (hp : I64 place) (h : Sl w 10 A n c (itemRows l)) (hg : checkLog base bt l = 0) :
    Calls Tryz.prog 40 #[.agg #[.int .i64 base, .int .i64 bt, .slice A n c], .int .i64 place] w fun e w' => e = .returned (.tuple #[.int .i64 (termE base bt l place).1, .int .i64 (termE base bt l place).2]) ∧ Below w.heap.size w w' := by
  have hgg := log_good hg
  by_cases hpl : place < 0 ∨ 1048576 < place
  · have hD : termE base bt l place = (0, 2) := by unfold termE; rw [if_pos hpl]
    rw [hD]
    go_enter Tryz.func40, Tryz.ntmps40
    go_wp2_with fail
    refine (Check_any _ _ _ _ _ l _ hb1 hb2 (h.alloc _)).mono ?_
    rintro e w1 ⟨rfl, hb1⟩
    go_wp2_with fail
    all_goals go_ret2
    all_goals exact ⟨rfl, below_by⟩
  · have hD : termE base bt l place = termOf base bt l place := by unfold termE; rw [if_neg hpl]
    rw [hD]
    have hp1 : 0 ≤ place := by omega
    have hp2 : place ≤ 1048576 := by omega
    go_enter Tryz.func40, Tryz.ntmps40
    go_wp2_with fail
    refine (Check_any _ _ _ _ _ l _ hb1 hb2 (h.alloc _)).mono ?_
    rintro e w1 ⟨rfl, hb1⟩
    obtain ⟨hc1, hf1⟩ := bcell hb1
    have hz := hb1.size
    simp at hz
    go_wp2_with fail
    refine (term_any _ _ _ _ _ l _ _ hgg.1 (by omega) hgg.2.2.2.1 hp ((h.alloc _).below hb1)).mono ?_
    rintro e w2 ⟨rfl, hb2⟩
    go_wp2_with fail
    go_ret2
    exact ⟨rfl, below_by⟩
end Go.Proofs.YtgpkgegpcgiokaaGreatDoor
