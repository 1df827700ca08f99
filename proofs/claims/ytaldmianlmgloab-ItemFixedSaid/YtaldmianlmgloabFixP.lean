/- What is read in form was written so. No walk. -/
import Derived.Test.YtaldmianlmgloabDecP2
namespace Go.Proofs.Ytaldmianlmgloab
set_option linter.all false
open Go.RowKit Go.Lib
theorem takeR_s {n : Int} {st : RS} (h : (takeR n st).2.2 = false) : st.2 = false ∧ n ≤ st.1.length ∧ takeR n st = (st.1.take n.toNat, (st.1.drop n.toNat, false)) := by
  unfold takeR at h ⊢
  split at h
  · cases h
  · rename_i hh
    have h1 := hh
    simp only [not_or, Bool.not_eq_true, Int.not_lt] at h1
    exact ⟨h1.1, h1.2, by rw [if_neg hh]⟩
theorem take_fix {n : Int} {st : RS} (h : (takeR n st).2.2 = false) (h0 : 0 ≤ n) : st.1 = (takeR n st).1 ++ (takeR n st).2.1 ∧ ((takeR n st).1.length : Int) = n := by
  obtain ⟨h1, h2, h3⟩ := takeR_s h
  rw [h3]
  refine ⟨(List.take_append_drop _ _).symm, ?_⟩
  simp only [List.length_take]; omega
theorem textR_s {st : RS} (h : (textR st).2.2 = false) : (smallR st).2.2 = false ∧ st.2 = false := by
  have h1 := (takeR_s (n := (smallR st).1) (st := (smallR st).2) h).1
  exact ⟨h1, (takeR_s (n := 1) h1).1⟩
theorem small_fix {st : RS} (hu : U8s st.1) (h : (smallR st).2.2 = false) : st.1 = u8 (smallR st).1 :: (smallR st).2.1 := by
  obtain ⟨h1, h2⟩ := take_fix (n := 1) (st := st) h (by omega)
  have h3 := (takeR_u8 (n := 1) hu).1
  unfold smallR
  generalize takeR 1 st = R at h1 h2 h3
  obtain ⟨b, r⟩ := R
  simp only at h1 h2 h3 ⊢
  match b, h2, h3, h1 with
  | [x], _, h3, h1 =>
    obtain ⟨n, rfl, _⟩ := h3 x (by simp)
    simpa [headV, intv, u8] using h1
  | [], h2, _, _ => simp at h2
  | _ :: _ :: _, h2, _, _ => simp at h2; omega
theorem strCells_of {b : List Value} (h : U8s b) : strCells (strOf b) = b := by
  unfold strCells strOf
  simp only [List.map_map]
  conv => rhs; rw [← List.map_id b]
  apply List.map_congr_left
  intro v hv
  obtain ⟨n, rfl, n0, n1⟩ := h v hv
  simp only [Function.comp, intv, id]
  congr 1
  simp only [UInt8.toNat_ofNat']
  omega
theorem text_fix {st : RS} (hu : U8s st.1) (h : (textR st).2.2 = false) : st.1 = txt (textR st).1 ++ (textR st).2.1 := by
  obtain ⟨h1, _⟩ := textR_s h
  obtain ⟨s0, s1, s2⟩ := small_bd hu
  have e1 := small_fix hu h1
  obtain ⟨e2, e3⟩ := take_fix (n := (smallR st).1) (st := (smallR st).2) h s0
  have h3 := (takeR_u8 (n := (smallR st).1) s2).1
  unfold textR
  rw [e1, e2]
  generalize takeR (smallR st).1 (smallR st).2 = R at e2 e3 h3
  obtain ⟨b, r⟩ := R
  simp only at e2 e3 h3 ⊢
  have e4 : ((strOf b).size : Int) = (smallR st).1 := by rw [← e3]; simp [strOf, ByteArray.size]
  simp only [txt, e4, strCells_of h3]
  simp
theorem num8_be {b : List Value} (hu : U8s b) (hl : b.length = 8) : num8 (beR b - 4611686018427387904) = b := by
  match b, hl, hu with
  | [v0, v1, v2, v3, v4, v5, v6, v7], _, hu =>
    obtain ⟨n0, rfl, a0, b0⟩ := hu v0 (by simp)
    obtain ⟨n1, rfl, a1, b1⟩ := hu v1 (by simp)
    obtain ⟨n2, rfl, a2, b2⟩ := hu v2 (by simp)
    obtain ⟨n3, rfl, a3, b3⟩ := hu v3 (by simp)
    obtain ⟨n4, rfl, a4, b4⟩ := hu v4 (by simp)
    obtain ⟨n5, rfl, a5, b5⟩ := hu v5 (by simp)
    obtain ⟨n6, rfl, a6, b6⟩ := hu v6 (by simp)
    obtain ⟨n7, rfl, a7, b7⟩ := hu v7 (by simp)
    simp only [beR, intv, List.foldl_cons, List.foldl_nil]
    rw [show (0 * 256 + n0) % 18446744073709551616 = n0 by omega]
    obtain ⟨e1, h1⟩ : ∃ e, e = n0 * 256 + n1 := ⟨_, rfl⟩
    rw [show (n0 * 256 + n1) % 18446744073709551616 = e1 by omega]
    obtain ⟨e2, h2⟩ : ∃ e, e = e1 * 256 + n2 := ⟨_, rfl⟩
    rw [show (e1 * 256 + n2) % 18446744073709551616 = e2 by omega]
    obtain ⟨e3, h3⟩ : ∃ e, e = e2 * 256 + n3 := ⟨_, rfl⟩
    rw [show (e2 * 256 + n3) % 18446744073709551616 = e3 by omega]
    obtain ⟨e4, h4⟩ : ∃ e, e = e3 * 256 + n4 := ⟨_, rfl⟩
    rw [show (e3 * 256 + n4) % 18446744073709551616 = e4 by omega]
    obtain ⟨e5, h5⟩ : ∃ e, e = e4 * 256 + n5 := ⟨_, rfl⟩
    rw [show (e4 * 256 + n5) % 18446744073709551616 = e5 by omega]
    obtain ⟨e6, h6⟩ : ∃ e, e = e5 * 256 + n6 := ⟨_, rfl⟩
    rw [show (e5 * 256 + n6) % 18446744073709551616 = e6 by omega]
    obtain ⟨e7, h7⟩ : ∃ e, e = e6 * 256 + n7 := ⟨_, rfl⟩
    rw [show (e6 * 256 + n7) % 18446744073709551616 = e7 by omega]
    unfold num8
    rw [show e7 - 4611686018427387904 + 4611686018427387904 = e7 by omega]
    rw [show e7 / 256 = e6 by omega, show e7 / 65536 = e5 by omega, show e7 / 16777216 = e4 by omega, show e7 / 4294967296 = e3 by omega, show e7 / 1099511627776 = e2 by omega, show e7 / 281474976710656 = e1 by omega, show e7 / 72057594037927936 = n0 by omega]
    rw [show n0 % 256 = n0 by omega, show e1 % 256 = n1 by omega, show e2 % 256 = n2 by omega, show e3 % 256 = n3 by omega, show e4 % 256 = n4 by omega, show e5 % 256 = n5 by omega, show e6 % 256 = n6 by omega, show e7 % 256 = n7 by omega]
    rfl
theorem numOf_be {b : List Value} (h1 : -1099511627776 ≤ numOf b) (h2 : numOf b ≤ 1099511627776) : numOf b = beR b - 4611686018427387904 := by
  have hb := be_bd b
  unfold numOf at h1 h2 ⊢
  generalize beR b = B at hb h1 h2
  rw [IntKind.wrap_u64, ← wrap64_i64] at h1 h2 ⊢
  unfold wrap64 at h1 h2 ⊢
  omega
theorem num_fix {st : RS} (hu : U8s st.1) (h : (numR st).2.2 = false) (h1 : -1099511627776 ≤ (numR st).1) (h2 : (numR st).1 ≤ 1099511627776) : st.1 = num8 (numR st).1 ++ (numR st).2.1 := by
  obtain ⟨e1, e2⟩ := take_fix (n := 8) (st := st) h (by omega)
  have h3 := (takeR_u8 (n := 8) hu).1
  unfold numR at h1 h2 ⊢
  simp only at h1 h2 ⊢
  rw [numOf_be h1 h2, num8_be h3 (by omega)]
  exact e1
theorem cmd_fix {st : RS} (hu : U8s st.1) (h : (cmdRd st).2.2 = false) (h1 : -1099511627776 ≤ (cmdRd st).1.n) (h2 : (cmdRd st).1.n ≤ 1099511627776) : st.1 = cmdBytes (cmdRd st).1 ++ (cmdRd st).2.1 := by
  have u1 := (small_bd hu).2.2
  have u2 := text_u8 u1
  have u3 := text_u8 u2
  have u4 := text_u8 u3
  unfold cmdRd at h h1 h2 ⊢
  simp only at h h1 h2 ⊢
  have f4 := (takeR_s (n := 8) h).1
  have f3 := (textR_s f4).2
  have f2 := (textR_s f3).2
  have f1 := (textR_s f2).2
  have e0 := small_fix hu f1
  have e1 := text_fix u1 f2
  have e2 := text_fix u2 f3
  have e3 := text_fix u3 f4
  have e4 := num_fix u4 h h1 h2
  unfold cmdBytes
  simp only
  conv => lhs; rw [e0, e1, e2, e3, e4]
  simp
theorem call_fix {st : RS} (hu : U8s st.1) (h : (callRd st).2.2 = false) (c1 : 0 ≤ (callRd st).1.client) (c2 : (callRd st).1.client ≤ 1048576) (s1 : 0 ≤ (callRd st).1.seq) (s2 : (callRd st).1.seq ≤ 1048576)
    (h1 : -1099511627776 ≤ (callRd st).1.cmd.n) (h2 : (callRd st).1.cmd.n ≤ 1099511627776) : st.1 = callBytes (callRd st).1.client (callRd st).1.seq (callRd st).1.cmd ++ (callRd st).2.1 := by
  have u1 := num_u8 hu
  have u2 := num_u8 u1
  by_cases hc : (numR st).1 = 0
  · have e : callRd st = (⟨0, 0, zeroCmd⟩, (numR st).2) := by unfold callRd; rw [if_pos hc]
    rw [e] at h ⊢
    have e4 := num_fix hu h (by omega) (by omega)
    rw [hc] at e4
    simpa [callBytes] using e4
  · have e : callRd st = (⟨(numR st).1, (numR (numR st).2).1, (cmdRd (numR (numR st).2).2).1⟩, (cmdRd (numR (numR st).2).2).2) := by unfold callRd; rw [if_neg hc]
    rw [e] at h c1 c2 s1 s2 h1 h2 ⊢
    simp only at h c1 c2 s1 s2 h1 h2 ⊢
    have f2 : (numR (numR st).2).2.2 = false := by
      unfold cmdRd at h
      simp only at h
      exact (textR_s (textR_s (textR_s (takeR_s (n := 8) h).1).2).2).2 |> fun q => (takeR_s (n := 1) q).1
    have f1 := (takeR_s (n := 8) f2).1
    have e1 := num_fix hu f1 (by omega) (by omega)
    have e2 := num_fix u1 f2 (by omega) (by omega)
    have e3 := cmd_fix u2 h h1 h2
    unfold callBytes
    rw [if_pos (by omega)]
    conv => lhs; rw [e1, e2, e3]
    simp
theorem item_fix {l : List Value} (hu : U8s l) {x : Itm} (h : itemRd (l, false) = ((x, true), ([], false))) (hx : checkItem x = 0) : itemBytes x = l := by
  have hf := item_fits hx
  have t1 := hf.t1; have t2 := hf.t2; have i1 := hf.i1; have i2 := hf.i2; have a1 := hf.a1; have a2 := hf.a2; have s1 := hf.s1; have s2 := hf.s2
  have n0 := hf.cmd.n0; have n1 := hf.cmd.n1
  have hul : U8s ((l, false) : RS).1 := hu
  have u1 := num_u8 hul
  have u2 := num_u8 u1
  have u3 := (small_bd u2).2.2
  unfold itemRd at h
  split at h
  · rename_i hk
    simp only [Prod.mk.injEq] at h
    obtain ⟨⟨hx1, _⟩, hr1⟩ := h
    subst hx1
    simp only at t1 t2 i1 i2 a1 a2 s1 s2 n0 n1
    have hr : (callRd (smallR (numR (numR (l, false)).2).2).2).2.2 = false := by rw [hr1]
    have f3 : (smallR (numR (numR (l, false)).2).2).2.2 = false := by
      cases hs : (smallR (numR (numR (l, false)).2).2).2.2 with
      | false => rfl
      | true =>
        have h9 := parse_call.stick (smallR (numR (numR (l, false)).2).2).2.1
        rw [callRd_eq u3] at hr
        have e : (smallR (numR (numR (l, false)).2).2).2 = ((smallR (numR (numR (l, false)).2).2).2.1, true) := by rw [← hs]
        rw [e, h9] at hr
        cases hr
    have f2 := (takeR_s (n := 1) f3).1
    have f1 := (takeR_s (n := 8) f2).1
    have e1 := num_fix hul f1 (by omega) (by omega)
    have e2 := num_fix u1 f2 (by omega) (by omega)
    have e3 := small_fix u2 f3
    have e4 := call_fix u3 hr a1 a2 s1 s2 n0 n1
    rw [hr1, List.append_nil] at e4
    rw [hk] at e3
    unfold itemBytes
    simp only [Bool.false_eq_true, if_false]
    have e1' : l = num8 (numR (l, false)).1 ++ (numR (l, false)).2.1 := e1
    conv => rhs; rw [e1', e2, e3, e4]
    simp
  · split at h
    · rename_i hk hk1
      simp only [Prod.mk.injEq] at h
      obtain ⟨⟨hx1, _⟩, hr1⟩ := h
      subst hx1
      simp only at t1 t2 i1 i2
      have f3 : (smallR (numR (numR (l, false)).2).2).2.2 = false := by rw [hr1]
      have f2 := (takeR_s (n := 1) f3).1
      have f1 := (takeR_s (n := 8) f2).1
      have e1 := num_fix hul f1 (by omega) (by omega)
      have e2 := num_fix u1 f2 (by omega) (by omega)
      have e3 := small_fix u2 f3
      rw [hk1, hr1] at e3
      unfold itemBytes
      simp only [if_true]
      have e1' : l = num8 (numR (l, false)).1 ++ (numR (l, false)).2.1 := e1
      conv => rhs; rw [e1', e2, e3]
      simp
    · simp only [Prod.mk.injEq] at h
      exact absurd h.1.2 (by decide)
theorem decode_fix {l : List Value} (hu : U8s l) (h : (decodeOf l).2 = 0) : checkItem (decodeOf l).1 = 0 ∧ itemBytes (decodeOf l).1 = l := by
  unfold decodeOf at h ⊢
  split at h
  · rename_i hh; exact absurd h hh
  · rename_i hh
    rw [if_neg hh]
    split at h
    · rename_i h2; exact absurd h h2
    · rename_i h2
      rw [if_neg h2]
      have h2 : checkItem (itemRd (l, false)).1.1 = 0 := Decidable.byContradiction h2
      have hh : endOf (itemRd (l, false)).1.2 (itemRd (l, false)).2 = 0 := Decidable.byContradiction hh
      refine ⟨h2, item_fix hu ?_ h2⟩
      generalize itemRd (l, false) = R at hh h2
      obtain ⟨⟨x, ok⟩, r, s⟩ := R
      simp only at hh h2 ⊢
      unfold endOf at hh
      simp only at hh
      split at hh
      · cases hh
      · rename_i q1
        split at hh
        · cases hh
        · rename_i q2
          simp only [not_or, Bool.not_eq_false, Nat.not_lt, Nat.le_zero_eq] at q2
          have : s = false := by simpa using q1
          rw [q2.1, this, List.eq_nil_of_length_eq_zero q2.2]
theorem decode_bad {l : List Value} (h : (decodeOf l).2 ≠ 0) : (decodeOf l).1 = zeroItm := by
  unfold decodeOf at h ⊢
  split
  · rfl
  · rename_i hh
    rw [if_neg hh] at h
    split
    · rfl
    · rename_i h2; rw [if_neg h2] at h; exact absurd rfl h
end Go.Proofs.Ytaldmianlmgloab
