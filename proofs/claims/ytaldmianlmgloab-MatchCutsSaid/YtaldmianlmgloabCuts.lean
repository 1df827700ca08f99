/- Plain facts for MatchCuts; lists of deeds that a law makes. -/
import Derived.Test.YtaldmianlmgloabMatchQ
namespace Go.Proofs.Ytaldmianlmgloab
set_option linter.all false
open Go.RowKit
theorem Log_good2 (l : List DeedD) (base : Int) (hb : I64 base) (hd : ∀ d ∈ l, d.ok) : ∃ (b bt : Int) (L : List Itm), GoodLog b bt L ∧ b = baseOf base ∧ bt = btOf base ∧ L = logItems l base ∧
    Hid (∀ A n c w, Sl w 8 A n c (deedRows l) → Calls Try.prog 16 #[.slice A n c, .int .i64 base] w fun e w' => ∃ A' c', e = .returned (.agg #[.int .i64 b, .int .i64 bt, .slice A' L.length c']) ∧ Sl w' 10 A' L.length c' (itemRows L) ∧ Below w.heap.size w w') :=
  ⟨_, _, _, log_goodLog l base, rfl, rfl, rfl, fun A n c w hS => (Log_any A n c l base w hS hd hb).mono fun e w' ⟨A', n', c', h1, h2, h3⟩ => by
    have := rows_len h2
    subst this
    exact ⟨A', c', h1, h2, h3⟩⟩
theorem deed_info : (Try.prog.info? 46).map (fun i => (i.zero, i.size, i.bytes)) = some (some (.agg #[.int .i64 0, .int .i64 0, .int .i64 0, .int .i64 0, .int .i64 0, .int .i64 0, .int .i64 0, .string ByteArray.empty]), 8, 72) := by kernel_rfl
theorem deed_size : (Try.prog.info? 46).map (·.size) = some 8 := by kernel_rfl
theorem deed_one : ∀ (l : List DeedD), ∀ r ∈ deedRows l, ∀ u ∈ r, u.oneCell' = true := by
  intro l r hr u hu
  obtain ⟨x, _, rfl⟩ := List.mem_map.1 hr
  simp only [DeedD.cells, List.mem_cons, List.not_mem_nil, or_false] at hu
  rcases hu with rfl | rfl | rfl | rfl | rfl | rfl | rfl | rfl <;> rfl
def zeroDeed : DeedD := ⟨0, 0, 0, ⟨0, 0, 0, 0, emp⟩⟩
theorem zeroDeed_ok : zeroDeed.ok := by
  unfold zeroDeed DeedD.ok RawD.ok I64 emp maxLen
  simp [ByteArray.size]
theorem deedRows_take (l : List DeedD) (k : Nat) : (deedRows l).take k = deedRows (l.take k) := by simp [deedRows]
theorem deedRows_snoc (l : List DeedD) (x : DeedD) : deedRows (l ++ [x]) = deedRows l ++ [x.cells] := by simp [deedRows]
theorem chain_last : ∀ (l : List Itm) (x y : Itm) (t m : Int), chainOk t m (l ++ [x]) = true → checkItem y = 0 → x.term ≤ y.term → x.time ≤ y.time → chainOk t m (l ++ [y]) = true
  | [], x, y, t, m, h, hy, h1, h2 => by
    obtain ⟨a1, a2, a3, a4⟩ := chain_head h
    have b2 : decide (y.term < t) = false := by simp; omega
    have b3 : decide (y.time < m) = false := by simp; omega
    simp [chainOk, hy, b2, b3]
  | z :: l, x, y, t, m, h, hy, h1, h2 => by
    obtain ⟨a1, a2, a3, a4⟩ := chain_head h
    have b2 : decide (z.term < t) = false := by simp; omega
    have b3 : decide (z.time < m) = false := by simp; omega
    have := chain_last l x y z.term z.time a4 hy h1 h2
    simp only [List.cons_append, chainOk, a1, b2, b3, this]; rfl
theorem chain_mono : ∀ (l : List Itm) (t m : Int), chainOk t m l = true → ∀ x ∈ l, t ≤ x.term ∧ m ≤ x.time ∧ checkItem x = 0
  | [], _, _, _, _, hx => by simp at hx
  | z :: l, t, m, h, x, hx => by
    obtain ⟨a1, a2, a3, a4⟩ := chain_head h
    rcases List.mem_cons.1 hx with rfl | hx
    · exact ⟨a2, a3, a1⟩
    · obtain ⟨h1, h2, h3⟩ := chain_mono l _ _ a4 x hx
      exact ⟨by omega, by omega, h3⟩
theorem chain_below : ∀ (l : List Itm) (t m : Int), chainOk t m l = true → ∀ i j, (hi : i ≤ j) → (hj : j < l.length) → (l[i]'(by omega)).term ≤ l[j].term
  | [], _, _, _, _, _, _, hj => by simp at hj
  | z :: l, t, m, h, i, j, hi, hj => by
    obtain ⟨a1, a2, a3, a4⟩ := chain_head h
    cases j with
    | zero => obtain rfl : i = 0 := by omega
              exact Int.le_refl _
    | succ j =>
      have hj' : j < l.length := by simpa using hj
      cases i with
      | zero => exact (chain_mono l _ _ a4 l[j] (List.getElem_mem hj')).1
      | succ i => exact chain_below l _ _ a4 i j (by omega) hj'
theorem check_term {x : Itm} {t : Int} (h : checkItem x = 0) (h1 : 1 ≤ t) (h2 : t ≤ 1048576) : checkItem { x with term := t } = 0 := by
  have hx := checkItem_ok h
  unfold checkItem at h ⊢
  rw [if_neg (by omega)] at h
  rw [if_neg (by simp only; omega)]
  exact h
/-- What MatchCuts does. -/
theorem cuts_match {b bt : Int} {L : List Itm} {k : Nat} (hg : checkLog b bt L = 0) (hbt : bt ≤ 2) (hb : b < 12) (hl : L.length ≤ 30) (ht : ∀ x ∈ L, x.term ≤ 32) (hk : k < L.length) :
    let x : Itm := { L[k] with term := (L[L.length - 1]'(by omega)).term + 1 }
    let T := (termOf b bt L (b + k)).1
    checkLog (b + k) T [x] = 0 ∧ matchOf b bt L (b + k) T [x] = ⟨some (L.take k ++ [x]), true, b + k + 1, 0⟩ ∧ checkLog b bt (L.take k ++ [x]) = 0 ∧ matchOf b bt (L.take k ++ [x]) (b + k) T [x] = ⟨some (L.take k ++ [x]), true, 0, 0⟩ := by
  intro x T
  obtain ⟨g1, g2, g3, g4, g5, g6, g7⟩ := log_good hg
  have hlt : L.length - 1 < L.length := by omega
  have hm := chain_mono L bt 0 g7
  have ck := hm L[k] (List.getElem_mem hk)
  have cl := hm L[L.length - 1] (List.getElem_mem hlt)
  have tl := ht L[L.length - 1] (List.getElem_mem hlt)
  have hok := checkItem_ok ck.2.2
  have hle := chain_below L bt 0 g7 k (L.length - 1) (by omega) hlt
  have hx1 : x.term = (L[L.length - 1]'(by omega)).term + 1 := rfl
  have hx2 : x.time = L[k].time := rfl
  have hxc : checkItem x = 0 := check_term ck.2.2 (by omega) (by omega)
  have e1 : L.take (k + 1) = L.take k ++ [L[k]] := List.take_succ_eq_append_getElem hk
  have c1 := chain_take L (k + 1) bt 0 g7
  rw [e1] at c1
  have c2 := chain_last _ _ x _ _ c1 hxc (by omega) (by omega)
  have hY : checkLog b bt (L.take k ++ [x]) = 0 := by
    refine checkLog_ok g1 g2 g3 g6 ?_ ?_ c2
    · simp; omega
    · simp; omega
  have hT1 := (trim_good hg (show k ≤ L.length by omega)).2
  have hT2 := trim_good hg (show k ≤ L.length by omega)
  have hd : L.drop k = L[k] :: L.drop (k + 1) := List.drop_eq_getElem_cons hk
  have hTk : T ≤ L[k].term := by
    have h3 := hT2.1
    obtain ⟨_, _, _, _, _, _, q7⟩ := log_good h3
    rw [hd] at q7
    exact (chain_head q7).2.1
  have hokx : checkLog (b + k) T [x] = 0 := by
    obtain ⟨q1, q2, q3, q4, q5, q6, q7⟩ := log_good hT2.1
    refine checkLog_ok q1 q2 q3 q6 (by simp) (by simp; omega) ?_
    have b2 : decide (x.term < T) = false := by simp; omega
    have b3 : decide (x.time < 0) = false := by simp; omega
    simp [chainOk, hxc, b2, b3]
  refine ⟨hokx, ?_, hY, ?_⟩
  · rw [match_iv (k := k) hokx (by omega) (termOf_in (by omega)) rfl]
    have hf : freshAt (L.drop k) [x] = some 0 := by
      rw [hd, freshAt, if_neg (by omega)]
    have := tail_ok (base := b) (bt := bt) (pl := b + k) hf (by simpa using hY)
    simpa using this
  · have hlk : (L.take k).length = k := by rw [List.length_take]; omega
    have hTY : (termOf b bt (L.take k ++ [x]) (b + k)).1 = T := by
      show _ = (termOf b bt L (b + k)).1
      rw [termOf_k (by simp; omega), termOf_k (by omega)]
      cases k with
      | zero => rfl
      | succ k =>
        have : k < (L.take (k + 1)).length := by omega
        simp only [Nat.add_sub_cancel]
        rw [List.getElem?_append_left this, List.getElem?_take_of_lt (by omega)]
    rw [match_iv (k := k) hokx (by omega) (termOf_in (by simp; omega)) hTY]
    refine tail_none ?_
    rw [List.drop_left' hlk]
    exact fresh_self [x]
end Go.Proofs.Ytaldmianlmgloab
