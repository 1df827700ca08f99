/- What the logs of deeds are: they may be, and are short. No walk. -/
import Derived.Test.YtgpkgegpcgiokaaGreatDoorDeeds
namespace Go.Proofs.YtgpkgegpcgiokaaGreatDoor
set_option linter.all false
open Go.RowKit
theorem zeroCmd_call : zeroCall 0 zeroCmd.kind zeroCmd.key zeroCmd.field zeroCmd.text zeroCmd.n = true := by
  simp [zeroCall, zeroCmd, emp_list]
theorem check_itemAt (d : DeedD) (t m : Int) (h1 : 1 ≤ t) (h2 : t ≤ 1048576) (h3 : 0 ≤ m) (h4 : m ≤ 1073741824) : checkItem (itemAt d t m) = 0 := by
  have c1 := picked_lo d.client 50 (by omega)
  have c2 := picked_hi d.client 50 (by omega)
  have o1 := picked_lo d.off 100 (by omega)
  have o2 := picked_hi d.off 100 (by omega)
  unfold itemAt itemOf
  split
  · unfold checkItem
    rw [if_neg (by simp; omega)]
    simp [Itm.zero, zeroCmd_call]
  · split
    · unfold checkItem
      rw [if_neg (by simp; omega)]
      simp [checkCall, zeroCmd_call]
    · unfold checkItem
      rw [if_neg (by simp; omega)]
      simp only [Bool.false_eq_true, if_false]
      unfold checkCall
      rw [if_neg (by simp; omega), if_neg (by simp [numberOk]; omega)]
      exact cmd_ok _ _ _ _ _
theorem chain_items : ∀ (l : List DeedD) (bt tm t m : Int), bt ≤ t → tm ≤ m → 1 ≤ t → t + l.length ≤ 1048576 → 0 ≤ m → m + 2 * l.length ≤ 1073741824 → chainOk bt tm (itemsGo t m l) = true
  | [], _, _, _, _, _, _, _, _, _, _ => rfl
  | d :: l, bt, tm, t, m, h1, h2, h3, h4, h5, h6 => by
    have o1 := picked_lo d.off 4 (by omega)
    have o2 := picked_hi d.off 4 (by omega)
    have q1 := picked_lo d.wait 3 (by omega)
    have q2 := picked_hi d.wait 3 (by omega)
    simp only [List.length_cons] at h4 h6
    simp only [itemsGo, chainOk, Bool.and_eq_true, Bool.not_eq_true', decide_eq_false_iff_not, beq_iff_eq]
    have e1 : (itemAt d (t + picked d.off 4 / 3) (m + picked d.wait 3)).term = t + picked d.off 4 / 3 := rfl
    have e2 : (itemAt d (t + picked d.off 4 / 3) (m + picked d.wait 3)).time = m + picked d.wait 3 := rfl
    rw [e1, e2]
    refine ⟨⟨⟨check_itemAt d _ _ (by omega) (by omega) (by omega) (by omega), by omega⟩, by omega⟩, chain_items l _ _ _ _ (by omega) (by omega) (by omega) (by omega) (by omega) (by omega)⟩
theorem itemsGo_length : ∀ (l : List DeedD) (t m : Int), (itemsGo t m l).length = l.length
  | [], _, _ => rfl
  | d :: l, t, m => by simp [itemsGo, itemsGo_length l]
theorem itemsOf_length (l : List DeedD) (t : Int) : (itemsOf l t).length = min l.length 30 := by
  unfold itemsOf; rw [itemsGo_length, List.length_take]; omega
theorem logItems_length (l : List DeedD) (base : Int) : (logItems l base).length = min l.length 30 := itemsOf_length _ _
/-- A log of deeds may be. -/
structure GoodLog (b bt : Int) (l : List Itm) : Prop where
  ok : checkLog b bt l = 0
  b0 : 0 ≤ b
  b1 : b < 12
  t0 : 0 ≤ bt
  t1 : bt ≤ 2
  len : l.length ≤ 30
theorem checkLog_ok {b bt : Int} {l : List Itm} (h1 : 0 ≤ b) (h2 : 0 ≤ bt) (h3 : bt ≤ 1048576) (h4 : b = 0 ↔ bt = 0) (h5 : l.length ≤ 200) (h6 : b + l.length ≤ 1048576) (h7 : chainOk bt 0 l = true) : checkLog b bt l = 0 := by
  have e : ((b == 0) != (bt == 0)) = false := by
    by_cases hb : b = 0
    · have := h4.1 hb; simp [hb, this]
    · have : ¬ bt = 0 := fun e => hb (h4.2 e)
      have a1 : (b == 0) = false := by simpa using hb
      have a2 : (bt == 0) = false := by simpa using this
      rw [a1, a2]; rfl
  have hb : headBad b bt l.length = false := by
    simp only [headBad, e, Bool.or_eq_false_iff, decide_eq_false_iff_not]
    refine ⟨⟨⟨⟨⟨?_, ?_⟩, ?_⟩, trivial⟩, ?_⟩, ?_⟩ <;> omega
  unfold checkLog
  rw [hb, if_neg (by simp), if_pos h7]
theorem log_goodLog (l : List DeedD) (base : Int) : GoodLog (baseOf base) (btOf base) (logItems l base) := by
  have p1 := picked_lo base 12 (by omega)
  have p2 := picked_hi base 12 (by omega)
  have hl := logItems_length l base
  have hlen : ((l.take 30).length : Int) ≤ 30 := by rw [List.length_take]; omega
  by_cases h0 : (picked base 12 == 0) = true
  · have h0' : picked base 12 = 0 := by simpa using h0
    refine ⟨checkLog_ok p1 ?_ ?_ ?_ (by omega) ?_ ?_, p1, p2, ?_, ?_, by omega⟩
    · simp [btOf, h0]
    · simp [btOf, h0]
    · simp [btOf, baseOf, h0']
    · show baseOf base + _ ≤ _; unfold baseOf; omega
    · have e1 : btOf base = 0 := by simp [btOf, h0]
      have e2 : logItems l base = itemsGo 1 0 (l.take 30) := by simp [logItems, h0, itemsOf]
      rw [e1, e2]
      exact chain_items _ _ _ _ _ (by omega) (by omega) (by omega) (by omega) (by omega) (by omega)
    · simp [btOf, h0]
    · simp [btOf, h0]
  · have h0 : (picked base 12 == 0) = false := by simpa using h0
    have h0' : ¬ picked base 12 = 0 := by simpa using h0
    refine ⟨checkLog_ok p1 ?_ ?_ ?_ (by omega) ?_ ?_, p1, p2, ?_, ?_, by omega⟩
    · simp [btOf, h0]
    · simp [btOf, h0]
    · simp [btOf, baseOf, h0']
    · show baseOf base + _ ≤ _; unfold baseOf; omega
    · have e1 : btOf base = 2 := by simp [btOf, h0]
      have e2 : logItems l base = itemsGo 2 0 (l.take 30) := by simp [logItems, h0, itemsOf]
      rw [e1, e2]
      exact chain_items _ _ _ _ _ (by omega) (by omega) (by omega) (by omega) (by omega) (by omega)
    · simp [btOf, h0]
    · simp [btOf, h0]
/-- What a law knows of its log. -/
theorem Log_good (A : Option Addr) (n c : Nat) (l : List DeedD) (base : Int) (hb : I64 base) (hd : ∀ d ∈ l, d.ok) : ∃ (b bt : Int) (L : List Itm), GoodLog b bt L ∧ b = baseOf base ∧ bt = btOf base ∧ L = logItems l base ∧
    Hid (∀ w, Sl w 8 A n c (deedRows l) → Calls Tryz.prog 38 #[.slice A n c, .int .i64 base] w fun e w' => ∃ A' c', e = .returned (.agg #[.int .i64 b, .int .i64 bt, .slice A' L.length c']) ∧ Sl w' 10 A' L.length c' (itemRows L) ∧ Below w.heap.size w w') :=
  ⟨_, _, _, log_goodLog l base, rfl, rfl, rfl, fun w hS => (Log_any A n c l base w hS hd hb).mono fun e w' ⟨A', n', c', h1, h2, h3⟩ => by
    have := rows_len h2
    subst this
    exact ⟨A', c', h1, h2, h3⟩⟩
end Go.Proofs.YtgpkgegpcgiokaaGreatDoor
