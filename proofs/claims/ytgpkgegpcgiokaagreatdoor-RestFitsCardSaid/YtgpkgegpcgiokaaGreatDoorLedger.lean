/- wire.CheckItem, ledger.Check and what reads a log. -/
import Derived.Test.YtgpkgegpcgiokaaGreatDoorItems
import Derived.Deep.QuietTactic
import Derived.BigQuiet
namespace Go.Proofs.YtgpkgegpcgiokaaGreatDoor
set_option linter.all false
open Go.RowKit
def Itm.zero (x : Itm) : Bool := x.client == 0 && zeroCall x.seq x.cmd.kind x.cmd.key x.cmd.field x.cmd.text x.cmd.n
def checkItem (x : Itm) : Int :=
  if x.term < 1 ∨ 1048576 < x.term ∨ x.time < 0 ∨ 1073741824 < x.time then 2
  else if x.nop = true then (if x.zero = true then 0 else 8)
  else checkCall x.client x.seq x.cmd.kind x.cmd.key x.cmd.field x.cmd.text x.cmd.n
set_option maxHeartbeats 1000000 in
theorem CheckItem_any (x : Itm) (w : World) :
    Calls Tryz.prog 78 #[.agg #[.int .i64 x.term, .int .i64 x.time, .bool x.nop, .int .i64 x.client, .int .i64 x.seq, .int .i64 x.cmd.kind, .string x.cmd.key, .string x.cmd.field, .string x.cmd.text, .int .i64 x.cmd.n]] w
      fun e w' => e = .returned (.int .i64 (checkItem x)) ∧ Below w.heap.size w w' := by
  obtain ⟨term, time, nop, client, seq, ⟨kind, key, field, text, n⟩⟩ := x
  cases nop
  all_goals
    go_enter Tryz.func78, Tryz.ntmps78
    go_wp2_with (go_at_call 58; refine (CheckCall_any _ _ _ _ _ _ _ _).mono ?_; rintro e w1 ⟨rfl, hb1⟩)
    all_goals go_ret
    all_goals refine ⟨ret_int ?_, below_by⟩
    all_goals (unfold checkItem Itm.zero zeroCall; simp_all <;> omega)
def chainOk : Int → Int → List Itm → Bool
  | _, _, [] => true
  | t, m, x :: l => checkItem x == 0 && !decide (x.term < t) && !decide (x.time < m) && chainOk x.term x.time l
def headBad (base bt : Int) (n : Nat) : Bool :=
  decide (base < 0) || decide (bt < 0) || decide (1048576 < bt) || ((base == 0) != (bt == 0)) || decide (200 < (n : Int)) || decide (1048576 - (n : Int) < base)
def checkLog (base bt : Int) (l : List Itm) : Int := if headBad base bt l.length = true then 13 else if chainOk bt 0 l = true then 0 else 13
theorem chain_step {bt t m : Int} {l : List Itm} {k : Nat} (hk : k < l.length) (h : Hid (chainOk bt 0 l = chainOk t m (l.drop k))) :
    Hid (chainOk bt 0 l = (checkItem l[k] == 0 && !decide (l[k].term < t) && !decide (l[k].time < m) && chainOk l[k].term l[k].time (l.drop (k + 1)))) := by
  have := h.out
  rw [List.drop_eq_getElem_cons hk] at this
  exact this
theorem chain_rel {bt t m : Int} {l r : List Itm} {x : Itm} (h : Hid (chainOk bt 0 l = (checkItem x == 0 && !decide (x.term < t) && !decide (x.time < m) && chainOk x.term x.time r))) (h1 : checkItem x = 0) (h2 : t ≤ x.term) (h3 : m ≤ x.time) :
    Hid (chainOk bt 0 l = chainOk x.term x.time r) := by
  have h2 : ¬ x.term < t := by omega
  have h3 : ¬ x.time < m := by omega
  have := h.out
  show chainOk bt 0 l = _
  simpa [h1, h2, h3] using this
set_option maxHeartbeats 2000000 in
theorem Check_any (base bt : Int) (A : Option Addr) (n c : Nat) (l : List Itm) (w : World) (hb1 : I64 base) (hb2 : I64 bt) (h : Sl w 10 A n c (itemRows l)) :
    Calls Tryz.prog 41 #[.agg #[.int .i64 base, .int .i64 bt, .slice A n c]] w fun e w' => e = .returned (.int .i64 (checkLog base bt l)) ∧ Below w.heap.size w w' := by
  obtain ⟨b1, b2⟩ := hb1
  obtain ⟨t1, t2⟩ := hb2
  have hn : n = l.length := by have := h.len; simp [itemRows] at this; omega
  subst hn
  have hlm := h.nc
  have hlm' := h.cm
  unfold maxLen at hlm'
  by_cases hbad : headBad base bt l.length = true
  · have HB := hide hbad
    clear hbad
    go_enter Tryz.func41, Tryz.ntmps41
    go_wp2_with fail
    all_goals first
      | (exfalso; have := HB.out; simp [headBad] at this; simp_all; omega)
      | (go_ret; refine ⟨ret_int ?_, below_by⟩; unfold checkLog; rw [if_pos HB.out])
  · have hgood : headBad base bt l.length = false := by simpa using hbad
    clear hbad
    have HB := hide hgood
    simp only [headBad, Bool.or_eq_false_iff, decide_eq_false_iff_not, bne_eq_false_iff_eq] at hgood
    obtain ⟨⟨⟨⟨⟨g1, g2⟩, g3⟩, g4⟩, g5⟩, g6⟩ := hgood
    have g1 : 0 ≤ base := by omega
    have g2 : 0 ≤ bt := by omega
    have g3 : bt ≤ 1048576 := by omega
    have g5 : (l.length : Int) ≤ 200 := by omega
    have g6 : base ≤ 1048576 - (l.length : Int) := by omega
    have hcases : (base = 0 ∧ bt = 0) ∨ ((base == 0) = false ∧ (bt == 0) = false) := by
      by_cases h0 : base = 0
      · subst h0; left; simp at g4; exact ⟨rfl, g4⟩
      · right; have : (base == 0) = false := by simpa using h0
        exact ⟨this, by rw [← g4, this]⟩
    clear g4
    rcases hcases with ⟨rfl, rfl⟩ | ⟨z1, z2⟩
    all_goals
      go_enter Tryz.func41, Tryz.ntmps41
      go_wp2_with fail
      go_loopw [3, 4, 49] (fun s3 s4 i wr => ∃ k : Nat, k ≤ l.length ∧ i = .int .i64 k ∧ ∃ t m : Int, s3 = .int .i64 t ∧ s4 = .int .i64 m ∧ Hid (chainOk _ 0 l = chainOk t m (l.drop k)) ∧ Below w.heap.size w wr)
        (fun _ _ i _ => l.length - (intOf i).toNat)
      case atStart => exact ⟨0, by omega, rfl, _, _, rfl, rfl, rfl, below_by⟩
      case round =>
        obtain ⟨k, hk, rfl, t, m, rfl, rfl, HQ, hbr⟩ := hrel
        by_cases hlt : k < l.length
        · obtain ⟨b, off, rfl, hbb, ⟨i0, i1, i2, i3, i4, i5, i6, i7, i8, i9⟩⟩ := (h.below hbr).item hlt
          have HQ' := chain_step hlt HQ
          generalize l[k] = x at i0 i1 i2 i3 i4 i5 i6 i7 i8 i9 HQ'
          go_wp2_with (go_at_call 78; refine (CheckItem_any x _).mono ?_; rintro e w1 ⟨rfl, hb1⟩; obtain ⟨hc1, hf1⟩ := bcell hb1; have hz := hb1.size; simp at hz)
          all_goals first
            | (go_ret; refine ⟨ret_int ?_, below_by⟩; unfold checkLog; rw [HB.out, HQ'.out]; simp_all <;> omega)
            | (go_quiet (fail)
               go_wp2_with fail
               go_roundw
               case rel => exact ⟨k + 1, by omega, by go_num, _, _, rfl, rfl, chain_rel HQ' (by omega) (by omega) (by omega), below_by⟩
               case measure => simp [intOf]; omega)
        · obtain rfl : k = l.length := by omega
          go_wp2_with fail
          go_ret
          refine ⟨ret_int ?_, below_by⟩
          unfold checkLog
          rw [HB.out, HQ.out]
          simp [chainOk]
end Go.Proofs.YtgpkgegpcgiokaaGreatDoor
