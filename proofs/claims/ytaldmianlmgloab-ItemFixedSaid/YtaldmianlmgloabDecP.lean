/- Reading of bytes as a plain function: what is written is read back; what is torn is short; what is read in form was written so. No walk. -/
import Derived.Test.YtaldmianlmgloabEncode
namespace Go.Proofs.Ytaldmianlmgloab
set_option linter.all false
open Go.RowKit Go.Lib
def intv : Value → Int
  | .int _ n => n
  | _ => 0
def U8s (l : List Value) : Prop := ∀ u ∈ l, ∃ n : Int, u = .int .u8 n ∧ 0 ≤ n ∧ n < 256
def strOf (l : List Value) : ByteArray := ⟨(l.map fun v => UInt8.ofNat (intv v).toNat).toArray⟩
/-- The rest, and whether it was short. -/
abbrev RS := List Value × Bool
def takeR (n : Int) (st : RS) : List Value × RS := if st.2 = true ∨ (st.1.length : Int) < n then ([], (st.1, true)) else (st.1.take n.toNat, (st.1.drop n.toNat, false))
def beR (l : List Value) : Int := l.foldl (fun u c => (u * 256 + intv c) % 18446744073709551616) 0
def numOf (b : List Value) : Int := IntKind.i64.wrap (IntKind.u64.wrap (beR b - 4611686018427387904))
def numR (st : RS) : Int × RS := (numOf (takeR 8 st).1, (takeR 8 st).2)
def headV (b : List Value) : Int := match b with | c :: _ => intv c | [] => 0
def smallR (st : RS) : Int × RS := (headV (takeR 1 st).1, (takeR 1 st).2)
def textR (st : RS) : ByteArray × RS := (strOf (takeR (smallR st).1 (smallR st).2).1, (takeR (smallR st).1 (smallR st).2).2)
def cmdRd (st : RS) : Cmd × RS :=
  ({ kind := (smallR st).1, key := (textR (smallR st).2).1, field := (textR (textR (smallR st).2).2).1, text := (textR (textR (textR (smallR st).2).2).2).1, n := (numR (textR (textR (textR (smallR st).2).2).2).2).1 },
    (numR (textR (textR (textR (smallR st).2).2).2).2).2)
structure CallD where
  client : Int
  seq : Int
  cmd : Cmd
def callRd (st : RS) : CallD × RS :=
  if (numR st).1 = 0 then (⟨0, 0, zeroCmd⟩, (numR st).2)
  else (⟨(numR st).1, (numR (numR st).2).1, (cmdRd (numR (numR st).2).2).1⟩, (cmdRd (numR (numR st).2).2).2)
def itemRd (st : RS) : (Itm × Bool) × RS :=
  if (smallR (numR (numR st).2).2).1 = 0 then
    ((⟨(numR st).1, (numR (numR st).2).1, false, (callRd (smallR (numR (numR st).2).2).2).1.client, (callRd (smallR (numR (numR st).2).2).2).1.seq, (callRd (smallR (numR (numR st).2).2).2).1.cmd⟩, true), (callRd (smallR (numR (numR st).2).2).2).2)
  else if (smallR (numR (numR st).2).2).1 = 1 then ((⟨(numR st).1, (numR (numR st).2).1, true, 0, 0, zeroCmd⟩, true), (smallR (numR (numR st).2).2).2)
  else ((⟨(numR st).1, (numR (numR st).2).1, false, 0, 0, zeroCmd⟩, false), (smallR (numR (numR st).2).2).2)

/- What was written is read back. -/
theorem takeR_app (a r : List Value) {n : Int} (hn : n = a.length) : takeR n (a ++ r, false) = (a, (r, false)) := by
  subst hn
  unfold takeR
  rw [if_neg (by simp; omega)]
  simp
theorem be_num8 (n : Int) (h1 : -1099511627776 ≤ n) (h2 : n ≤ 1099511627776) : beR (num8 n) = n + 4611686018427387904 := by
  have e : ∃ m, m = n + 4611686018427387904 := ⟨_, rfl⟩
  obtain ⟨m, hm⟩ := e
  unfold num8
  rw [← hm]
  have m0 : 0 ≤ m := by omega
  have m1 : m < 18446744073709551616 := by omega
  simp only [beR, u8, intv, List.foldl_cons, List.foldl_nil]
  have s1 : (0 * 256 + m / 72057594037927936 % 256) % 18446744073709551616 = m / 72057594037927936 := by omega
  rw [s1]
  have s2 : (m / 72057594037927936 * 256 + m / 281474976710656 % 256) % 18446744073709551616 = m / 281474976710656 := by omega
  rw [s2]
  have s3 : (m / 281474976710656 * 256 + m / 1099511627776 % 256) % 18446744073709551616 = m / 1099511627776 := by omega
  rw [s3]
  have s4 : (m / 1099511627776 * 256 + m / 4294967296 % 256) % 18446744073709551616 = m / 4294967296 := by omega
  rw [s4]
  have s5 : (m / 4294967296 * 256 + m / 16777216 % 256) % 18446744073709551616 = m / 16777216 := by omega
  rw [s5]
  have s6 : (m / 16777216 * 256 + m / 65536 % 256) % 18446744073709551616 = m / 65536 := by omega
  rw [s6]
  have s7 : (m / 65536 * 256 + m / 256 % 256) % 18446744073709551616 = m / 256 := by omega
  rw [s7]
  omega
theorem numOf_num8 (n : Int) (h1 : -1099511627776 ≤ n) (h2 : n ≤ 1099511627776) : numOf (num8 n) = n := by
  unfold numOf
  rw [be_num8 n h1 h2, show n + 4611686018427387904 - 4611686018427387904 = n by omega]
  simp only [IntKind.wrap, IntKind.signed, IntKind.bits]
  simp
  omega
theorem numR_num8 (n : Int) (r : List Value) (h1 : -1099511627776 ≤ n) (h2 : n ≤ 1099511627776) : numR (num8 n ++ r, false) = (n, (r, false)) := by
  unfold numR
  rw [takeR_app (n := 8) (num8 n) r rfl, numOf_num8 n h1 h2]
theorem smallR_u8 (n : Int) (r : List Value) : smallR (u8 n :: r, false) = (n, (r, false)) := by
  unfold smallR
  rw [show (u8 n :: r) = [u8 n] ++ r from rfl, takeR_app (n := 1) [u8 n] r rfl]
  rfl
theorem strOf_cells (s : ByteArray) : strOf (strCells s) = s := by
  unfold strOf strCells
  rw [List.map_map]
  obtain ⟨⟨l⟩⟩ := s
  congr 2
  simp only
  conv => rhs; rw [← List.map_id l]
  apply List.map_congr_left
  intro b _
  simp [intv]
theorem textR_txt (s : ByteArray) (r : List Value) : textR (txt s ++ r, false) = (s, (r, false)) := by
  unfold textR txt
  rw [show [u8 (s.size : Int)] ++ strCells s ++ r = u8 s.size :: (strCells s ++ r) by simp, smallR_u8]
  simp only
  rw [takeR_app (strCells s) r (by rw [strCells_length]), strOf_cells]
theorem cmdRd_bytes {c : Cmd} (h : CmdFits c) (r : List Value) : cmdRd (cmdBytes c ++ r, false) = (c, (r, false)) := by
  unfold cmdRd cmdBytes
  rw [show [u8 c.kind] ++ txt c.key ++ txt c.field ++ txt c.text ++ num8 c.n ++ r = u8 c.kind :: (txt c.key ++ (txt c.field ++ (txt c.text ++ (num8 c.n ++ r)))) by simp]
  simp only [smallR_u8, textR_txt, numR_num8 _ _ h.n0 h.n1]
theorem emp_of {s : ByteArray} (h : s.size = 0) : s = emp := by
  obtain ⟨⟨l⟩⟩ := s
  have : l.length = 0 := h
  obtain rfl := List.eq_nil_of_length_eq_zero this
  rfl
theorem zero_item {x : Itm} (h : checkItem x = 0) : (x.nop = true → x.client = 0) ∧ (x.client = 0 → x.seq = 0 ∧ x.cmd = zeroCmd) := by
  have h1 := checkItem_ok h
  unfold checkItem at h
  rw [if_neg (by omega)] at h
  have zz : zeroCall x.seq x.cmd.kind x.cmd.key x.cmd.field x.cmd.text x.cmd.n = true → x.seq = 0 ∧ x.cmd = zeroCmd := by
    intro hz
    obtain ⟨z1, z2, z3, z4, z5, z6⟩ := zeroCall_is hz
    refine ⟨z1, ?_⟩
    obtain ⟨_, _, _, _, _, ⟨k, ky, f, tx, n⟩⟩ := x
    simp only at z2 z3 z4 z5 z6
    rw [z2, emp_of z3, emp_of z4, emp_of z5, z6]; rfl
  split at h
  · split at h
    · rename_i hz
      simp only [Itm.zero, Bool.and_eq_true, beq_iff_eq] at hz
      exact ⟨fun _ => hz.1, fun _ => zz hz.2⟩
    · cases h
  · rename_i hn
    refine ⟨fun h => absurd h hn, fun hc => ?_⟩
    unfold checkCall at h
    rw [if_pos (by simp [hc])] at h
    split at h
    · rename_i hz; exact zz hz
    · cases h
theorem itemRd_bytes {x : Itm} (h : checkItem x = 0) (r : List Value) : itemRd (itemBytes x ++ r, false) = ((x, true), (r, false)) := by
  have hf := item_fits h
  have hz := zero_item h
  have t1 := hf.t1; have t2 := hf.t2; have i1 := hf.i1; have i2 := hf.i2; have a1 := hf.a1; have a2 := hf.a2; have s1 := hf.s1; have s2 := hf.s2
  obtain ⟨term, time, nop, client, seq, c⟩ := x
  simp only at t1 t2 i1 i2 a1 a2 s1 s2 hz
  have e1 := fun r => numR_num8 term r (by omega) (by omega)
  have e2 := fun r => numR_num8 time r (by omega) (by omega)
  have e3 := fun r => numR_num8 client r (by omega) (by omega)
  have e4 := fun r => numR_num8 seq r (by omega) (by omega)
  have e5 := fun r => cmdRd_bytes hf.cmd r
  simp only at e5
  cases nop
  · by_cases hc : client = 0
    · obtain ⟨rfl, rfl⟩ := hz.2 hc
      subst hc
      simp only [itemBytes, callBytes, List.append_assoc, Int.lt_irrefl, if_false, Bool.false_eq_true, List.append_nil, List.singleton_append, List.cons_append, List.nil_append, itemRd, callRd, e1, e2, e3, smallR_u8, if_true]
    · have hp : 0 < client := by omega
      simp only [itemBytes, callBytes, List.append_assoc, hp, if_true, if_false, Bool.false_eq_true, List.singleton_append, List.cons_append, List.nil_append, itemRd, callRd, e1, e2, e3, e4, e5, smallR_u8, hc]
  · obtain ⟨rfl, rfl⟩ := hz.2 (hz.1 rfl)
    obtain rfl := hz.1 rfl
    simp [itemBytes, itemRd, e1, e2, smallR_u8]
theorem itemBytes_inj {x y : Itm} (hx : checkItem x = 0) (hy : checkItem y = 0) (h : itemBytes x = itemBytes y) : x = y := by
  have h1 := itemRd_bytes hx []
  have h2 := itemRd_bytes hy []
  rw [h, h2] at h1
  injection h1 with h1 _
  injection h1 with h1 _
  exact h1.symm

/- The bytes that are written are bytes. -/
theorem U8s.app {a b : List Value} (ha : U8s a) (hb : U8s b) : U8s (a ++ b) := fun u hu => (List.mem_append.1 hu).elim (ha u) (hb u)
theorem U8s.one {n : Int} (h0 : 0 ≤ n) (h1 : n < 256) : U8s [u8 n] := fun u hu => by rw [List.mem_singleton] at hu; exact ⟨n, hu, h0, h1⟩
theorem u8s_num8 (n : Int) : U8s (num8 n) := by
  intro u hu
  simp only [num8, List.mem_cons, List.not_mem_nil, or_false] at hu
  rcases hu with rfl | rfl | rfl | rfl | rfl | rfl | rfl | rfl <;> exact ⟨_, rfl, by omega, by omega⟩
theorem u8s_str (s : ByteArray) : U8s (strCells s) := by
  intro u hu
  simp only [strCells, List.mem_map] at hu
  obtain ⟨b, _, rfl⟩ := hu
  exact ⟨_, rfl, by omega, by have := b.toNat_lt; omega⟩
theorem u8s_txt {s : ByteArray} (h : s.size < 256) : U8s (txt s) := (U8s.one (by omega) (by omega)).app (u8s_str s)
theorem u8s_cmd {c : Cmd} (h : CmdFits c) : U8s (cmdBytes c) := by
  have := h.key; have := h.field; have := h.text
  exact ((((U8s.one h.k0 h.k1).app (u8s_txt (by omega))).app (u8s_txt (by omega))).app (u8s_txt (by omega))).app (u8s_num8 _)
theorem u8s_item {x : Itm} (h : checkItem x = 0) : U8s (itemBytes x) := by
  have hf := item_fits h
  refine ((u8s_num8 _).app (u8s_num8 _)).app ?_
  split
  · exact U8s.one (by omega) (by omega)
  · refine (U8s.one (by omega) (by omega)).app ((u8s_num8 _).app ?_)
    split
    · exact (u8s_num8 _).app (u8s_cmd hf.cmd)
    · intro u hu; simp at hu
theorem strOf_inj : ∀ {a b : List Value}, U8s a → U8s b → strOf a = strOf b → a = b := by
  have key : ∀ {a b : List Value}, U8s a → U8s b → (a.map fun v => UInt8.ofNat (intv v).toNat) = (b.map fun v => UInt8.ofNat (intv v).toNat) → a = b := by
    intro a
    induction a with
    | nil => intro b _ _ h; cases b with
      | nil => rfl
      | cons => simp at h
    | cons x a ih =>
      intro b ha hb h
      cases b with
      | nil => simp at h
      | cons y b =>
        simp only [List.map_cons, List.cons.injEq] at h
        obtain ⟨n, rfl, n0, n1⟩ := ha x (by simp)
        obtain ⟨m, rfl, m0, m1⟩ := hb y (by simp)
        have h1 := congrArg UInt8.toNat h.1
        simp only [intv, UInt8.toNat_ofNat'] at h1
        have : n = m := by omega
        rw [this, ih (fun u hu => ha u (by simp [hu])) (fun u hu => hb u (by simp [hu])) h.2]
  intro a b ha hb h
  unfold strOf at h
  injection h with h
  have h := congrArg Array.toList h
  exact key ha hb (by simpa using h)
theorem itemBytes_pos (x : Itm) : 0 < (itemBytes x).length := by simp [itemBytes, num8_length]; omega
end Go.Proofs.Ytaldmianlmgloab
