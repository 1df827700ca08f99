import Derived.Test.YtgpkgegpcgiokaaGreatDoorQWire
import Derived.Test.YtgpkgegpcgiokaaGreatDoorQLed
import Derived.Laws.BytesString
import Derived.Test.YtgpkgegpcgiokaaGreatDoorQOwn
import Derived.Laws.Bits64b
namespace Go.Proofs.YtgpkgegpcgiokaaGreatDoor
set_option linter.all false
open Go.RowKit Go.Lib
def txt (s : ByteArray) : List Value := [u8 s.size] ++ strCells s
def cmdBytes (c : Cmd) : List Value := [u8 c.kind] ++ txt c.key ++ txt c.field ++ txt c.text ++ num8 c.n
theorem txt_length (s : ByteArray) : (txt s).length = 1 + s.size := by simp [txt, strCells_length]; omega
/-- What fits into its bytes. -/
structure CmdFits (c : Cmd) : Prop where
 k0 : 0 ≤ c.kind
 k1 : c.kind < 256
 key : c.key.size ≤ 20
 field : c.field.size ≤ 20
 text : c.text.size ≤ 20
 n0 : -1099511627776 ≤ c.n
 n1 : c.n ≤ 1099511627776
set_option maxHeartbeats 2000000 in
theorem command_any (g base : Nat) (v : Value) (bs : List Value) (c : Cmd) (w : World) (h : WrT w g base v bs) (hl : bs.length ≤ 900000) (hb : base ≤ w.heap.size) (hc : CmdFits c) :
  Calls Tryz.prog 155 #[.pointer (some ⟨g, 0, none⟩), .agg #[.int .i64 c.kind, .string c.key, .string c.field, .string c.text, .int .i64 c.n]] w (Writes w g base v (bs ++ cmdBytes c)) := by
 obtain ⟨kind, key, field, text, n⟩ := c
 obtain ⟨k0, k1, hkey, hfield, htext, n0, n1⟩ := hc
 simp only at k0 k1 hkey hfield htext n0 n1
 have HL := fun (s : ByteArray) => (txt_length s)
 have hB : bs ++ cmdBytes ⟨kind, key, field, text, n⟩ = bs ++ [u8 kind] ++ [u8 key.size] ++ strCells key ++ [u8 field.size] ++ strCells field ++ [u8 text.size] ++ strCells text ++ num8 n := by simp [cmdBytes, txt, List.append_assoc]
 rw [hB]
 have l1 : (bs ++ [u8 kind]).length ≤ 900001 := by simp; omega
 have l2 : (bs ++ [u8 kind] ++ [u8 key.size] ++ strCells key).length ≤ 900030 := by simp [strCells_length]; omega
 have l3 : (bs ++ [u8 kind] ++ [u8 key.size] ++ strCells key ++ [u8 field.size] ++ strCells field).length ≤ 900060 := by simp [strCells_length]; omega
 have l4 : (bs ++ [u8 kind] ++ [u8 key.size] ++ strCells key ++ [u8 field.size] ++ strCells field ++ [u8 text.size] ++ strCells text).length ≤ 900090 := by simp [strCells_length]; omega
 clear hB HL
 have b0 := Box.new h 41 #[.int .i64 kind, .string key, .string field, .string text, .int .i64 n]
 have h0 := h.alloc (.cells #[.int .i64 kind, .string key, .string field, .string text, .int .i64 n] 41)
 have q0 : Below w.heap.size w (w.alloc (.cells #[.int .i64 kind, .string key, .string field, .string text, .int .i64 n] 41)) := below_by
 go_enter Tryz.func155, Tryz.ntmps155
 go_wp2_with fail
 refine (small_any g base _ _ kind _ h0 (by omega) (by simp; omega) k0 k1).mono ?_
 rintro e w1 ⟨rfl, A1, m1, c1, h1, p1⟩
 have b1 := b0.wr p1
 have x1 := b1.cell
 have hz1 : base ≤ w1.heap.size := by have := p1.size; simp at this; omega
 go_wp2_with fail
 refine (wtext_any g base _ _ key _ h1 (by omega) hz1 hkey).mono ?_
 rintro e w2 ⟨rfl, A2, m2, c2, h2, p2⟩
 have b2 := b1.wr p2
 have x2 := b2.cell
 clear x1
 have hz2 : base ≤ w2.heap.size := by have := p2.size; omega
 go_wp2_with fail
 refine (wtext_any g base _ _ field _ h2 (by omega) hz2 hfield).mono ?_
 rintro e w3 ⟨rfl, A3, m3, c3, h3, p3⟩
 have b3 := b2.wr p3
 have x3 := b3.cell
 clear x2
 have hz3 : base ≤ w3.heap.size := by have := p3.size; omega
 go_wp2_with fail
 refine (wtext_any g base _ _ text _ h3 (by omega) hz3 htext).mono ?_
 rintro e w4 ⟨rfl, A4, m4, c4, h4, p4⟩
 have b4 := b3.wr p4
 have x4 := b4.cell
 clear x3
 have hz4 : base ≤ w4.heap.size := by have := p4.size; omega
 go_wp2_with fail
 refine (number_any g base _ _ n _ h4 (by omega) hz4 n0 n1).mono ?_
 rintro e w5 ⟨rfl, A5, m5, c5, h5, p5⟩
 go_wp2_with fail
 go_end0
 exact Writes.mk h5 (Wrote.pre q0 ((((p1.trans p2).trans p3).trans p4).trans p5)) rfl
end Go.Proofs.YtgpkgegpcgiokaaGreatDoor
namespace Go.Proofs.YtgpkgegpcgiokaaGreatDoor
set_option linter.all false
open Go.RowKit Go.Lib
theorem checkCommand_fits {k : Int} {key field text : ByteArray} {n : Int} (h : checkCommand k key field text n = 0) : 1 ≤ k ∧ k ≤ 22 ∧ key.size ≤ 20 ∧ field.size ≤ 20 ∧ text.size ≤ 20 ∧ -1099511627776 ≤ n ∧ n ≤ 1099511627776 := by
 unfold checkCommand at h
 split at h
 ·cases h
 rename_i hk
 split at h
 ·cases h
 rename_i hb
 split at h
 ·cases h
 rename_i hs
 split at h
 ·cases h
 rename_i hn
 have hz : ∀ {s : ByteArray}, (s.toList == []) = true → s.size = 0 := by
  intro s h
  have := congrArg List.length (eq_of_beq h)
  simpa [ByteArray.toList_eq] using this
 simp only [bare, Bool.not_eq_false, Bool.and_eq_true, Bool.or_eq_true] at hb
 obtain ⟨⟨⟨hb1, hb2⟩, hb3⟩, hb4⟩ := hb
 simp only [not_or, not_and, Bool.not_eq_false] at hs
 obtain ⟨hs1, hs2, hs3⟩ := hs
 simp only [countOk, Bool.not_eq_false, Bool.and_eq_true, decide_eq_true_eq] at hn
 simp only [textOk, decide_eq_true_eq] at hs3
 refine ⟨by omega, by omega, ?_, ?_, hs3, hn.1, hn.2⟩
 ·rcases hb1 with h1 | h1
  ·have := hs1 h1
   simp only [fieldOk, Bool.and_eq_true, decide_eq_true_eq] at this
   omega
  ·rw [hz h1]; omega
 ·rcases hb2 with h1 | h1
  ·have := hs2 h1
   simp only [fieldOk, Bool.and_eq_true, decide_eq_true_eq] at this
   omega
  ·rw [hz h1]; omega
theorem flatten_singles (l : List Value) : (l.map fun b => [b]).flatten = l := by
 induction l with
 | nil => rfl
 | cons x l ih => simp [ih]
def byteRows (l : List Value) : List (List Value) := l.map fun b => [b]
theorem Own.of_row {w : World} {base base' : Nat} {e : TypeId} {v : Value} {bs : List Value} (h : w.ownsRow base e 1 v bs.length bs) (hb : base' ≤ base) : Own w base' e 1 v (byteRows bs) := by
 have h2 : Own w base e 1 v (byteRows bs) := ⟨by unfold byteRows; rw [flatten_singles, List.length_map]; exact h, by intro r hr; obtain ⟨x, _, rfl⟩ := List.mem_map.1 hr; rfl⟩
 exact h2.mono hb
theorem byteRows_length (l : List Value) : (byteRows l).length = l.length := by simp [byteRows]
end Go.Proofs.YtgpkgegpcgiokaaGreatDoor
namespace Go.Proofs.YtgpkgegpcgiokaaGreatDoor
set_option linter.all false
open Go.RowKit Go.Lib
def intv : Value → Int
 | .int _ n => n
 | _ => 0
def U8s (l : List Value) : Prop := ∀ u ∈ l, ∃ n : Int, u = .int .u8 n ∧ 0 ≤ n ∧ n < 256
def strOf (l : List Value) : ByteArray := ⟨(l.map fun v => UInt8.ofNat (intv v).toNat).toArray⟩
/-- The rest, and whether it was short. -/
abbrev RS := List Value × Bool
def takeR (n : Int) (st : RS) : List Value × RS := if st.2 = true ∨ (st.1.length : Int) < n then ([], (st.1, true)) else (st.1.take n.toNat, (st.1.drop n.toNat, false))
def beR (l : List Value) : Int := l.foldl (fun u c => (u * 256 + intv c) % 18446744073709551616) 0
def numOf (b : List Value) : Int := IntKind.i64.wrap (IntKind.u64.wrap (beR b - 4611686018427387904))
def numR (st : RS) : Int × RS := (numOf (takeR 8 st).1, (takeR 8 st).2)
def headV (b : List Value) : Int := match b with | c :: _ => intv c | [] => 0
def smallR (st : RS) : Int × RS := (headV (takeR 1 st).1, (takeR 1 st).2)
def textRd (st : RS) : ByteArray × RS := (strOf (takeR (smallR st).1 (smallR st).2).1, (takeR (smallR st).1 (smallR st).2).2)
theorem takeR_app (a r : List Value) {n : Int} (hn : n = a.length) : takeR n (a ++ r, false) = (a, (r, false)) := by
 subst hn
 unfold takeR
 rw [if_neg (by simp; omega)]
 simp
theorem be_num8 (n : Int) (h1 : -1099511627776 ≤ n) (h2 : n ≤ 1099511627776) : beR (num8 n) = n + 4611686018427387904 := by
 have e : ∃ m, m = n + 4611686018427387904 := ⟨_, rfl⟩
 obtain ⟨m, hm⟩ := e
 unfold num8
 rw [← hm]
 have m0 : 0 ≤ m := by omega
 have m1 : m < 18446744073709551616 := by omega
 simp only [beR, u8, intv, List.foldl_cons, List.foldl_nil]
 have s1 : (0 * 256 + m / 72057594037927936 % 256) % 18446744073709551616 = m / 72057594037927936 := by omega
 rw [s1]
 have s2 : (m / 72057594037927936 * 256 + m / 281474976710656 % 256) % 18446744073709551616 = m / 281474976710656 := by omega
 rw [s2]
 have s3 : (m / 281474976710656 * 256 + m / 1099511627776 % 256) % 18446744073709551616 = m / 1099511627776 := by omega
 rw [s3]
 have s4 : (m / 1099511627776 * 256 + m / 4294967296 % 256) % 18446744073709551616 = m / 4294967296 := by omega
 rw [s4]
 have s5 : (m / 4294967296 * 256 + m / 16777216 % 256) % 18446744073709551616 = m / 16777216 := by omega
 rw [s5]
 have s6 : (m / 16777216 * 256 + m / 65536 % 256) % 18446744073709551616 = m / 65536 := by omega
 rw [s6]
 have s7 : (m / 65536 * 256 + m / 256 % 256) % 18446744073709551616 = m / 256 := by omega
 rw [s7]
 omega
theorem numOf_num8 (n : Int) (h1 : -1099511627776 ≤ n) (h2 : n ≤ 1099511627776) : numOf (num8 n) = n := by
 unfold numOf
 rw [be_num8 n h1 h2, show n + 4611686018427387904 - 4611686018427387904 = n by omega]
 simp only [IntKind.wrap, IntKind.signed, IntKind.bits]
 simp
 omega
theorem numR_num8 (n : Int) (r : List Value) (h1 : -1099511627776 ≤ n) (h2 : n ≤ 1099511627776) : numR (num8 n ++ r, false) = (n, (r, false)) := by
 unfold numR
 rw [takeR_app (n := 8) (num8 n) r rfl, numOf_num8 n h1 h2]
theorem smallR_u8 (n : Int) (r : List Value) : smallR (u8 n :: r, false) = (n, (r, false)) := by
 unfold smallR
 rw [show (u8 n :: r) = [u8 n] ++ r from rfl, takeR_app (n := 1) [u8 n] r rfl]
 rfl
theorem strOf_cells (s : ByteArray) : strOf (strCells s) = s := by
 unfold strOf strCells
 rw [List.map_map]
 obtain ⟨⟨l⟩⟩ := s
 congr 2
 simp only
 conv => rhs; rw [← List.map_id l]
 apply List.map_congr_left
 intro b _
 simp [intv]
theorem textRd_txt (s : ByteArray) (r : List Value) : textRd (txt s ++ r, false) = (s, (r, false)) := by
 unfold textRd txt
 rw [show [u8 (s.size : Int)] ++ strCells s ++ r = u8 s.size :: (strCells s ++ r) by simp, smallR_u8]
 simp only
 rw [takeR_app (strCells s) r (by rw [strCells_length]), strOf_cells]
theorem U8s.app {a b : List Value} (ha : U8s a) (hb : U8s b) : U8s (a ++ b) := fun u hu => (List.mem_append.1 hu).elim (ha u) (hb u)
theorem U8s.one {n : Int} (h0 : 0 ≤ n) (h1 : n < 256) : U8s [u8 n] := fun u hu => by rw [List.mem_singleton] at hu; exact ⟨n, hu, h0, h1⟩
theorem u8s_num8 (n : Int) : U8s (num8 n) := by
 intro u hu
 simp only [num8, List.mem_cons, List.not_mem_nil, or_false] at hu
 rcases hu with rfl | rfl | rfl | rfl | rfl | rfl | rfl | rfl <;> exact ⟨_, rfl, by omega, by omega⟩
theorem u8s_str (s : ByteArray) : U8s (strCells s) := by
 intro u hu
 simp only [strCells, List.mem_map] at hu
 obtain ⟨b, _, rfl⟩ := hu
 exact ⟨_, rfl, by omega, by have := b.toNat_lt; omega⟩
theorem u8s_txt {s : ByteArray} (h : s.size < 256) : U8s (txt s) := (U8s.one (by omega) (by omega)).app (u8s_str s)
end Go.Proofs.YtgpkgegpcgiokaaGreatDoor
namespace Go.Proofs.YtgpkgegpcgiokaaGreatDoor
set_option linter.all false
open Go.ChangeShapes Go.WideShapes Go.ChangeAt Go.RowKit
/-- string(b) of a slice of bytes. -/
theorem run_str {P : Program} {w : World} {src dst e : TypeId} {A : Option Addr} {n c : Nat} {bs : List Value} (hs : P.underlying src = some (.slice e)) (he : P.underlying e = some (.int .u8)) (hd : P.underlying dst = some .string)
  (h : Sl w 1 A n c (byteRows bs)) (hb : U8s bs) : (convert src dst (.slice A n c)).run P w = .ok (.string (strOf bs)) w := by
 have hl : bs.length = n := by rw [← h.len, byteRows_length]
 have he2 : strOf bs = strOfNums (bs.map intv) := by simp [strOf, strOfNums, List.map_map]
 by_cases h0 : n = 0
 ·have hz : bs = [] := List.eq_nil_of_length_eq_zero (by omega)
  subst hz
  subst h0
  cases A with
  | none => rw [run_convert_bytes_nil w src e hs he 0 c dst hd]; rfl
  | some a => rw [run_convert_bytes_string w src dst e _ 0 c hs he hd, run_bytesToString w a 0 c [] (by simp [loadCells, loadCellsFrom])]; rfl
 ·obtain ⟨b, off, rfl, _, hc⟩ := h.seg (by rw [byteRows_length]; omega)
  rw [he2]
  refine run_convert_bytes_arg w src e hs he b off n c (bs.map intv) (by simpa using hl) (fun i hi => ?_) dst hd
  have hi' : i < bs.length := by omega
  have := hc i [bs[i]] (by simp [byteRows, hi']) 0 bs[i] rfl
  rw [Nat.mul_one, Nat.add_zero] at this
  rw [this]
  obtain ⟨m, hm, _⟩ := hb bs[i] (List.getElem_mem hi')
  rw [hm]
  simp [List.getD, hi', hm, intv]
end Go.Proofs.YtgpkgegpcgiokaaGreatDoor
namespace Go.Proofs.YtgpkgegpcgiokaaGreatDoor
set_option linter.all false
open Go.RowKit Go.Lib
/-- The reader at block g has this rest (bytes that lie in memory older than W0's end), and was short or not. -/
structure Rd (W0 w : World) (g : Nat) (st : RS) : Prop where
 slc : ∃ A n c, Blk w g 162 #[.slice A n c, .bool st.2] ∧ Sl W0 1 A n c (byteRows st.1)
 low : Below W0.heap.size W0 w
 gb : W0.heap.size ≤ g
 u8 : U8s st.1
def Nil : Value := .slice none 0 0
/-- What a method of the reader leaves. -/
def Reads (W0 w : World) (g : Nat) (v : Value) (st : RS) (e : Ending) (w' : World) : Prop := e = .returned v ∧ Rd W0 w' g st ∧ Wrote w w' g Nil Nil
theorem Rd.below {W0 w w' : World} {g : Nat} {st : RS} (h : Rd W0 w g st) (hb : Below w.heap.size w w') : Rd W0 w' g st := by
 obtain ⟨⟨A, n, c, h1, h2⟩, h3, h4, h5⟩ := h
 exact ⟨⟨A, n, c, h1.below' hb, h2⟩, h3.trans (hb.mono h3.size), h4, h5⟩
theorem Rd.alloc {W0 w : World} {g : Nat} {st : RS} (h : Rd W0 w g st) (o : Obj) : Rd W0 (w.alloc o) g st := h.below ((Below.refl _ w).alloc (Nat.le_refl _) o)
theorem Wrote.set0 {w : World} {g i : Nat} (u : Value) : Wrote w (w.setCell ⟨g, i, none⟩ u) g Nil Nil :=
 ⟨rfl, rfl, rfl, by simp, fun b _ hg _ => Below.heap_setCell w _ _ b (by simpa using hg), .inl rfl⟩
theorem U8s.drop {l : List Value} (h : U8s l) (n : Nat) : U8s (l.drop n) := fun u hu => h u (List.mem_of_mem_drop hu)
theorem U8s.take {l : List Value} (h : U8s l) (n : Nat) : U8s (l.take n) := fun u hu => h u (List.mem_of_mem_take hu)
theorem takeR_u8 {n : Int} {st : RS} (h : U8s st.1) : U8s (takeR n st).1 ∧ U8s (takeR n st).2.1 := by
 unfold takeR
 split
 ·exact ⟨fun u hu => by simp at hu, h⟩
 ·exact ⟨h.take _, h.drop _⟩
theorem byteRows_take (l : List Value) (k : Nat) : (byteRows l).take k = byteRows (l.take k) := by simp [byteRows]
theorem byteRows_drop (l : List Value) (k : Nat) : (byteRows l).drop k = byteRows (l.drop k) := by simp [byteRows]
theorem u8_size : (Tryz.prog.info? 5).map (·.size) = some 1 := by kernel_rfl
set_option maxHeartbeats 1000000 in
theorem take_any (W0 : World) (g : Nat) (st : RS) (n : Nat) (w : World) (h : Rd W0 w g st) (hn : n ≤ 1000) :
  Calls Tryz.prog 124 #[.pointer (some ⟨g, 0, none⟩), .int .i64 n] w fun e w' => ∃ A m c, e = .returned (.slice A m c) ∧ Sl W0 1 A m c (byteRows (takeR n st).1) ∧ Rd W0 w' g (takeR n st).2 ∧ Wrote w w' g Nil Nil := by
 obtain ⟨⟨A, m, c, hB, hS⟩, hlow, hgb, hu⟩ := h
 obtain ⟨l, sh⟩ := st
 simp only at hB hS hu
 have hm : l.length = m := by rw [← hS.len, byteRows_length]
 subst hm
 have hcm := hS.cm
 have hnc := hS.nc
 unfold maxLen at hcm
 have hg := hB.lt
 have hc := hB.cell
 have hf := hB.frozen
 cases sh
 ·by_cases hlt : l.length < n
  ·have hlt' : (l.length : Int) < (n : Int) := by omega
   have hT : takeR n (l, false) = ([], (l, true)) := by unfold takeR; rw [if_pos (by right; exact hlt')]
   rw [hT]
   have HT : True := trivial
   clear hT
   go_enter Tryz.func124, Tryz.ntmps124
   go_wp2_with fail
   go_ret
   exact ⟨none, 0, 0, rfl, Sl.nil_ _ _, ⟨⟨A, l.length, c, hB.set' rfl, hS⟩, hlow.setCell hgb _, hgb, hu⟩, Wrote.set0 _⟩
  ·have hlt' : ¬ (l.length : Int) < (n : Int) := by omega
   have hT : takeR n (l, false) = (l.take n, (l.drop n, false)) := by unfold takeR; rw [if_neg (by simp; omega)]; simp
   rw [hT]
   clear hT
   have s1 := fun w => run_take Tryz.underlying82 u8_size A l.length c n (by omega) w
   have s2 := fun w => run_cut Tryz.underlying82 u8_size A l.length c n (by omega) w
   have h1 := hS.take n (by omega) c (by omega) (Nat.le_refl _)
   have h2 := hS.drop n (by omega) c (Nat.le_refl _) hnc
   rw [byteRows_take] at h1
   rw [byteRows_drop] at h2
   go_enter Tryz.func124, Tryz.ntmps124
   go_wp2_with fail
   go_ret
   exact ⟨A, n, c, rfl, h1, ⟨⟨_, _, _, hB.set' rfl, h2⟩, hlow.setCell hgb _, hgb, hu.drop n⟩, Wrote.set0 _⟩
 ·have hT : takeR n (l, true) = ([], (l, true)) := by unfold takeR; rw [if_pos (by left; rfl)]
  rw [hT]
  clear hT
  go_enter Tryz.func124, Tryz.ntmps124
  go_wp2_with fail
  go_ret
  exact ⟨none, 0, 0, rfl, Sl.nil_ _ _, ⟨⟨A, l.length, c, hB.set' rfl, hS⟩, hlow.setCell hgb _, hgb, hu⟩, Wrote.set0 _⟩
theorem wrap64_i64 (x : Int) : wrap64 x = IntKind.i64.wrap x := by
 simp [wrap64, IntKind.wrap, IntKind.signed, IntKind.bits]
 split <;> omega
theorem be_snoc (l : List Value) (v : Value) : beR (l ++ [v]) = (beR l * 256 + intv v) % 18446744073709551616 := by simp [beR]
theorem be_bd (l : List Value) : 0 ≤ beR l ∧ beR l < 18446744073709551616 := by
 rcases List.eq_nil_or_concat l with rfl | ⟨l, v, rfl⟩
 ·simp [beR]
 ·rw [List.concat_eq_append, be_snoc]; omega
theorem or_step (u x : Int) (h0 : 0 ≤ u) (x0 : 0 ≤ x) (x1 : x < 256) : bits .or .u64 (IntKind.u64.wrap (u * 256)) x = (u * 256 + x) % 18446744073709551616 := by
 obtain ⟨a, ha⟩ := Int.eq_ofNat_of_zero_le (show 0 ≤ u % 72057594037927936 by omega)
 obtain ⟨b, rfl⟩ := Int.eq_ofNat_of_zero_le x0
 have e1 : IntKind.u64.wrap (u * 256) = ((a * 256 : Nat) : Int) := by rw [IntKind.wrap_u64]; omega
 have hb : b < 2 ^ 8 := by omega
 have e2 : a * 256 ||| b = a * 256 + b := by
  have := Nat.shiftLeft_add_eq_or_of_lt hb a
  rw [Nat.shiftLeft_eq] at this
  exact this.symm
 rw [e1, bits_or_u64_nat _ _ (by omega) (by omega), e2]
 omega
set_option maxHeartbeats 1000000 in
theorem rnumber_any (W0 : World) (g : Nat) (st : RS) (w : World) (h : Rd W0 w g st) :
  Calls Tryz.prog 87 #[.pointer (some ⟨g, 0, none⟩)] w (Reads W0 w g (.int .i64 (numR st).1) (numR st).2) := by
 have hu := (takeR_u8 (n := 8) h.u8).1
 have e1 : numR st = (numOf (takeR 8 st).1, (takeR 8 st).2) := rfl
 rw [e1]
 have hT := take_any W0 g st 8 w h (by omega)
 rw [show ((8 : Nat) : Int) = 8 from rfl] at hT
 generalize takeR 8 st = R at hu hT
 obtain ⟨b, st'⟩ := R
 simp only at hu hT ⊢
 have HT := hide hT; have HU := hide hu
 clear hT e1 hu
 go_enter Tryz.func87, Tryz.ntmps87
 go_wp2_with fail
 refine HT.out.mono ?_
 rintro e w1 ⟨A, m, c, rfl, hS, hR, hW⟩
 have hm : b.length = m := by rw [← hS.len, byteRows_length]
 subst hm
 have hS1 := hS.below hR.low
 have hcm := hS.cm
 have hnc := hS.nc
 unfold maxLen at hcm
 go_wp2_with fail
 go_loop [3, 9] (fun s3 s9 => ∃ k : Nat, k ≤ b.length ∧ s9 = .int .i64 k ∧ s3 = .int .u64 (beR (b.take k))) (fun _ s9 => b.length - (intOf s9).toNat)
 case atStart => exact ⟨0, by omega, rfl, rfl⟩
 case round =>
  obtain ⟨k, hk, rfl, rfl⟩ := hrel
  have hbd := be_bd (b.take k)
  by_cases hlt : k < b.length
  ·obtain ⟨x, hx, x0, x1⟩ := HU.out b[k] (List.getElem_mem hlt)
   have hsn : beR (b.take (k + 1)) = (beR (b.take k) * 256 + x) % 18446744073709551616 := by
    rw [List.take_succ_eq_append_getElem hlt, be_snoc, hx]; rfl
   obtain ⟨yb, yo, rfl, hyb, hcell⟩ := hS1.seg (by rw [byteRows_length]; omega)
   have hck := hcell k [b[k]] (by simp [byteRows, hlt]) 0 b[k] rfl
   rw [hx, Nat.mul_one, Nat.add_zero] at hck
   have hk1 : (k : Int) < (b.length : Int) := by omega
   have HSN := hide hsn
   clear hsn hcell
   generalize beR (b.take k) = u at hbd HSN
   obtain ⟨u0, u1⟩ := hbd
   have hor := or_step u x u0 x0 x1
   go_wp2_with fail
   go_round
   case rel => exact ⟨k + 1, by omega, by go_num, by rw [HSN.out]⟩
   case measure => simp [intOf]; omega
  ·obtain rfl : k = b.length := by omega
   rw [List.take_of_length_le (Nat.le_refl _)]
   have hno : numOf b = IntKind.i64.wrap (IntKind.u64.wrap (beR b - 4611686018427387904)) := rfl
   have HN := hide hno; clear hno
   generalize beR b = u at hbd HN
   obtain ⟨u0, u1⟩ := hbd
   go_wp2_with fail
   go_ret
   exact ⟨ret_int (by rw [HN.out]; exact wrap64_i64 _), hR, hW⟩
set_option maxHeartbeats 1000000 in
theorem rsmall_any (W0 : World) (g : Nat) (st : RS) (w : World) (h : Rd W0 w g st) :
  Calls Tryz.prog 93 #[.pointer (some ⟨g, 0, none⟩)] w (Reads W0 w g (.int .i64 (smallR st).1) (smallR st).2) := by
 have hu := (takeR_u8 (n := 1) h.u8).1
 have e1 : smallR st = (headV (takeR 1 st).1, (takeR 1 st).2) := rfl
 rw [e1]
 have hT := take_any W0 g st 1 w h (by omega)
 rw [show ((1 : Nat) : Int) = 1 from rfl] at hT
 generalize takeR 1 st = R at hu hT
 obtain ⟨b, st'⟩ := R
 simp only at hu hT ⊢
 have HT := hide hT; have HU := hide hu
 clear hT e1 hu
 go_enter Tryz.func93, Tryz.ntmps93
 go_wp2_with fail
 refine HT.out.mono ?_
 rintro e w1 ⟨A, m, c, rfl, hS, hR, hW⟩
 have hm : b.length = m := by rw [← hS.len, byteRows_length]
 subst hm
 have hS1 := hS.below hR.low
 have hcm := hS.cm
 have hnc := hS.nc
 unfold maxLen at hcm
 cases b with
 | nil =>
  go_wp2_with fail
  refine wp_loop_rounds 1 ?_
  rw [rounds_succ]
  go_wp2_with fail
  go_ret
  exact ⟨rfl, hR, hW⟩
 | cons y b =>
  obtain ⟨x, hx, x0, x1⟩ := HU.out y (by simp)
  subst hx
  obtain ⟨yb, yo, rfl, hyb, hcell⟩ := hS1.seg (by rw [byteRows_length]; simp)
  have hck := hcell 0 [.int .u8 x] (by simp [byteRows]) 0 (.int .u8 x) rfl
  rw [Nat.zero_mul, Nat.add_zero] at hck
  clear hcell HU
  have hl1 : (0 : Int) < ((Value.int IntKind.u8 x :: b).length : Int) := by rw [List.length_cons]; omega
  generalize (Value.int IntKind.u8 x :: b).length = len at *
  go_wp2_with fail
  refine wp_loop_rounds 1 ?_
  rw [rounds_succ]
  go_wp2_with fail
  go_ret
  exact ⟨rfl, hR, hW⟩
theorem small_bd {st : RS} (h : U8s st.1) : 0 ≤ (smallR st).1 ∧ (smallR st).1 < 256 ∧ U8s (smallR st).2.1 := by
 have hu := takeR_u8 (n := 1) h
 unfold smallR
 simp only
 refine ⟨?_, ?_, hu.2⟩
 all_goals
  cases hb : (takeR 1 st).1 with
  | nil => simp [headV]
  | cons y b =>
   rw [hb] at hu
   obtain ⟨x, rfl, x0, x1⟩ := hu.1 y (by simp)
   simpa [headV, intv]
set_option maxHeartbeats 1000000 in
theorem rtext_any (W0 : World) (g : Nat) (st : RS) (w : World) (h : Rd W0 w g st) :
  Calls Tryz.prog 90 #[.pointer (some ⟨g, 0, none⟩)] w (Reads W0 w g (.string (textRd st).1) (textRd st).2) := by
 obtain ⟨s0, s1, s2⟩ := small_bd h.u8
 have e1 : textRd st = (strOf (takeR (smallR st).1 (smallR st).2).1, (takeR (smallR st).1 (smallR st).2).2) := rfl
 rw [e1]
 have hT := rsmall_any W0 g st w h
 generalize smallR st = R at s0 s1 s2 hT
 obtain ⟨n, st1⟩ := R
 simp only at s0 s1 s2 hT ⊢
 obtain ⟨k, rfl⟩ := Int.eq_ofNat_of_zero_le s0
 have hu := (takeR_u8 (n := k) s2).1
 have hT2 := fun w h => take_any W0 g st1 k w h (by omega)
 generalize takeR k st1 = R2 at hu hT2
 obtain ⟨b, st2⟩ := R2
 simp only at hu hT2 ⊢
 have HT := hide hT; have HU := hide hu; have HT2 := hide hT2
 clear hT e1 hu hT2
 go_enter Tryz.func90, Tryz.ntmps90
 go_wp2_with fail
 refine HT.out.mono ?_
 rintro e w1 ⟨rfl, hR, hW⟩
 go_wp2_with fail
 refine (HT2.out _ hR).mono ?_
 rintro e w2 ⟨A, m, c, rfl, hS, hR2, hW2⟩
 have hs := run_str Tryz.underlying82 Tryz.underlying5 Tryz.underlying9 (hS.below hR2.low) HU.out
 go_wp2_with fail
 go_ret
 exact ⟨rfl, hR2, hW.trans hW2⟩
end Go.Proofs.YtgpkgegpcgiokaaGreatDoor
namespace Go.Proofs.YtgpkgegpcgiokaaGreatDoor
set_option linter.all false
open Go.RowKit Go.Lib
theorem Rd.set {W0 w : World} {g : Nat} {st : RS} (h : Rd W0 w g st) {p : Addr} (hp : g ≠ p.block) (hp2 : W0.heap.size ≤ p.block) (u : Value) : Rd W0 (w.setCell p u) g st := by
 obtain ⟨⟨A, n, c, h1, h2⟩, h3, h4, h5⟩ := h
 exact ⟨⟨A, n, c, h1.far hp u, h2⟩, h3.setCell hp2 u, h4, h5⟩
theorem Rd.lt {W0 w : World} {g : Nat} {st : RS} (h : Rd W0 w g st) : g < w.heap.size := by
 obtain ⟨⟨A, n, c, h1, _⟩, _⟩ := h; exact h1.lt
theorem Rd.big {W0 w : World} {g : Nat} {st : RS} (h : Rd W0 w g st) : W0.heap.size ≤ w.heap.size := h.low.size
theorem Wrote.set {w w1 : World} {g : Nat} {v v' : Value} (h : Wrote w w1 g v v') {p : Addr} (hp : w.heap.size ≤ p.block) (u : Value) : Wrote w (w1.setCell p u) g v v' :=
 ⟨h.os, h.tape, h.output, by have := h.size; simpa using this, fun b hb hg hv => (Below.heap_setCell w1 p u b (by omega)).trans (h.block b hb hg hv), h.row⟩
theorem Wrote.alloc {w w1 : World} {g : Nat} {v v' : Value} (h : Wrote w w1 g v v') (o : Obj) : Wrote w (w1.alloc o) g v v' := h.post ((Below.refl _ w1).alloc (Nat.le_refl _) o)
theorem Box.fresh {w : World} {g : Nat} (hg : g < w.heap.size) (t : TypeId) (cs : Array Value) : Box (w.alloc (.cells cs t)) w.heap.size t cs g Nil :=
 ⟨Blk.new w t cs, by omega, by simp [Nil, Value.ownBlock]⟩
theorem Box.al {w : World} {b g : Nat} {t : TypeId} {cs : Array Value} {v : Value} (h : Box w b t cs g v) (o : Obj) : Box (w.alloc o) b t cs g v := h.below ((Below.refl _ w).alloc (Nat.le_refl _) o)
theorem Box.set {w : World} {b g i : Nat} {t : TypeId} {cs : Array Value} {v u : Value} {cs' : Array Value} (h : Box w b t cs g v) (he : cs.setIfInBounds i u = cs') : Box (w.setCell ⟨b, i, none⟩ u) b t cs' g v := ⟨h.blk.set' he, h.ng, h.nv⟩
theorem Box.far {w : World} {b g : Nat} {t : TypeId} {cs : Array Value} {v : Value} (h : Box w b t cs g v) {p : Addr} (hp : b ≠ p.block) (u : Value) : Box (w.setCell p u) b t cs g v := ⟨h.blk.far hp u, h.ng, h.nv⟩
end Go.Proofs.YtgpkgegpcgiokaaGreatDoor
namespace Go.Proofs.YtgpkgegpcgiokaaGreatDoor
set_option linter.all false
open Go.RowKit Go.Lib
def endOf (ok : Bool) (st : RS) : Int := if st.2 = true then 9 else if ok = false ∨ 0 < st.1.length then 8 else 0
set_option maxHeartbeats 1000000 in
theorem rend_any (W0 : World) (g : Nat) (st : RS) (ok : Bool) (w : World) (h : Rd W0 w g st) :
  Calls Tryz.prog 95 #[.pointer (some ⟨g, 0, none⟩), .bool ok] w fun e w' => e = .returned (.int .i64 (endOf ok st)) ∧ w = w' := by
 obtain ⟨⟨A, m, c, hB, hS⟩, hlow, hgb, hu⟩ := h
 obtain ⟨l, sh⟩ := st
 simp only at hB hS hu
 have hm : l.length = m := by rw [← hS.len, byteRows_length]
 subst hm
 have hg := hB.lt
 have hc := hB.cell
 have hf := hB.frozen
 cases sh <;> cases ok
 all_goals
  go_enter Tryz.func95, Tryz.ntmps95
  go_wp2_with fail
  all_goals go_ret
  all_goals refine ⟨ret_int ?_, rfl⟩
  all_goals (unfold endOf; (repeat' split) <;> first | rfl | (simp_all; done) | (simp_all; omega))
end Go.Proofs.YtgpkgegpcgiokaaGreatDoor
namespace Go.Proofs.YtgpkgegpcgiokaaGreatDoor
set_option linter.all false
open Go.RowKit Go.Lib
def bindR {α β : Type} (P : RS → α × RS) (Q : α → RS → β × RS) : RS → β × RS := fun st => Q (P st).1 (P st).2
/-- Who was short stays so; what is enough is as much ahead of any bytes; what is not is short. -/
structure Parse {α : Type} (P : RS → α × RS) : Prop where
 stick : ∀ l, (P (l, true)).2.2 = true
 pre : ∀ p q : List Value, (P (p ++ q, false)).2.2 = false → (P (p, false)).2.2 = true ∨ ∃ r, P (p, false) = ((P (p ++ q, false)).1, (r, false)) ∧ (P (p ++ q, false)).2.1 = r ++ q
theorem Parse.bind {α β : Type} {P : RS → α × RS} {Q : α → RS → β × RS} (hP : Parse P) (hQ : ∀ a, Parse (Q a)) : Parse (bindR P Q) := by
 have key : ∀ (a : α) (st : RS), st.2 = true → (Q a st).2.2 = true := fun a st h => by
  obtain ⟨l, s⟩ := st; simp only at h; subst h; exact (hQ a).stick l
 constructor
 ·intro l
  exact key _ _ (hP.stick l)
 ·intro p q h
  have h1 : (P (p ++ q, false)).2.2 = false := by
   cases hs : (P (p ++ q, false)).2.2 with
   | false => rfl
   | true => have := key (P (p ++ q, false)).1 _ hs; unfold bindR at h; rw [this] at h; cases h
  rcases hP.pre p q h1 with h2 | ⟨r, h2, h3⟩
  ·left; exact key _ _ h2
  ·have e : (P (p ++ q, false)).2 = (r ++ q, false) := by
    generalize P (p ++ q, false) = R at h1 h3
    obtain ⟨a, l, s⟩ := R
    simp only at h1 h3
    rw [h1, h3]
   unfold bindR at h ⊢
   rw [e] at h
   rw [h2, e]
   simp only
   exact (hQ _).pre r q h
theorem Parse.map {α β : Type} {P : RS → α × RS} (hP : Parse P) (f : α → β) : Parse (fun st => (f (P st).1, (P st).2)) := by
 constructor
 ·intro l; exact hP.stick l
 ·intro p q h
  rcases hP.pre p q h with h2 | ⟨r, h2, h3⟩
  ·exact .inl h2
  ·exact .inr ⟨r, by rw [h2], h3⟩
theorem Parse.pure {α : Type} (a : α) : Parse (fun st => (a, st)) := by
 constructor
 ·intro l; rfl
 ·intro p q _; exact .inr ⟨p, rfl, rfl⟩
theorem parse_take (n : Int) (h0 : 0 ≤ n) : Parse (takeR n) := by
 constructor
 ·intro l; simp [takeR]
 ·intro p q h
  have h1 : n ≤ ((p ++ q).length : Int) := by
   unfold takeR at h
   split at h
   ·cases h
   ·rename_i hh; simp only [Bool.false_eq_true, false_or] at hh; omega
  have e : takeR n (p ++ q, false) = ((p ++ q).take n.toNat, ((p ++ q).drop n.toNat, false)) := by
   unfold takeR; rw [if_neg (by simp only [Bool.false_eq_true, false_or]; omega)]
  rw [e]
  by_cases hp : n ≤ (p.length : Int)
  ·right
   refine ⟨p.drop n.toNat, ?_, ?_⟩
   ·unfold takeR
    rw [if_neg (by simp only [Bool.false_eq_true, false_or]; omega), List.take_append_of_le_length (by omega)]
   ·simp only
    rw [List.drop_append_of_le_length (by omega)]
  ·left
   unfold takeR
   rw [if_pos (by right; simp only; omega)]
theorem parse_num : Parse numR := (parse_take 8 (by omega)).map numOf
theorem parse_small : Parse smallR := (parse_take 1 (by omega)).map headV
theorem text_u8 {st : RS} (h : U8s st.1) : U8s (textRd st).2.1 := (takeR_u8 (small_bd h).2.2).2
theorem num_u8 {st : RS} (h : U8s st.1) : U8s (numR st).2.1 := (takeR_u8 h).2
end Go.Proofs.YtgpkgegpcgiokaaGreatDoor
namespace Go.Proofs.YtgpkgegpcgiokaaGreatDoor
set_option linter.all false
open Go.RowKit Go.Lib
theorem takeR_s {n : Int} {st : RS} (h : (takeR n st).2.2 = false) : st.2 = false ∧ n ≤ st.1.length ∧ takeR n st = (st.1.take n.toNat, (st.1.drop n.toNat, false)) := by
 unfold takeR at h ⊢
 split at h
 ·cases h
 ·rename_i hh
  have h1 := hh
  simp only [not_or, Bool.not_eq_true, Int.not_lt] at h1
  exact ⟨h1.1, h1.2, by rw [if_neg hh]⟩
theorem take_fix {n : Int} {st : RS} (h : (takeR n st).2.2 = false) (h0 : 0 ≤ n) : st.1 = (takeR n st).1 ++ (takeR n st).2.1 ∧ ((takeR n st).1.length : Int) = n := by
 obtain ⟨h1, h2, h3⟩ := takeR_s h
 rw [h3]
 refine ⟨(List.take_append_drop _ _).symm, ?_⟩
 simp only [List.length_take]; omega
theorem textRd_s {st : RS} (h : (textRd st).2.2 = false) : (smallR st).2.2 = false ∧ st.2 = false := by
 have h1 := (takeR_s (n := (smallR st).1) (st := (smallR st).2) h).1
 exact ⟨h1, (takeR_s (n := 1) h1).1⟩
theorem small_fix {st : RS} (hu : U8s st.1) (h : (smallR st).2.2 = false) : st.1 = u8 (smallR st).1 :: (smallR st).2.1 := by
 obtain ⟨h1, h2⟩ := take_fix (n := 1) (st := st) h (by omega)
 have h3 := (takeR_u8 (n := 1) hu).1
 unfold smallR
 generalize takeR 1 st = R at h1 h2 h3
 obtain ⟨b, r⟩ := R
 simp only at h1 h2 h3 ⊢
 match b, h2, h3, h1 with
 | [x], _, h3, h1 =>
  obtain ⟨n, rfl, _⟩ := h3 x (by simp)
  simpa [headV, intv, u8] using h1
 | [], h2, _, _ => simp at h2
 | _ :: _ :: _, h2, _, _ => simp at h2; omega
theorem strCells_of {b : List Value} (h : U8s b) : strCells (strOf b) = b := by
 unfold strCells strOf
 simp only [List.map_map]
 conv => rhs; rw [← List.map_id b]
 apply List.map_congr_left
 intro v hv
 obtain ⟨n, rfl, n0, n1⟩ := h v hv
 simp only [Function.comp, intv, id]
 congr 1
 simp only [UInt8.toNat_ofNat']
 omega
theorem text_fix {st : RS} (hu : U8s st.1) (h : (textRd st).2.2 = false) : st.1 = txt (textRd st).1 ++ (textRd st).2.1 := by
 obtain ⟨h1, _⟩ := textRd_s h
 obtain ⟨s0, s1, s2⟩ := small_bd hu
 have e1 := small_fix hu h1
 obtain ⟨e2, e3⟩ := take_fix (n := (smallR st).1) (st := (smallR st).2) h s0
 have h3 := (takeR_u8 (n := (smallR st).1) s2).1
 unfold textRd
 rw [e1, e2]
 generalize takeR (smallR st).1 (smallR st).2 = R at e2 e3 h3
 obtain ⟨b, r⟩ := R
 simp only at e2 e3 h3 ⊢
 have e4 : ((strOf b).size : Int) = (smallR st).1 := by rw [← e3]; simp [strOf, ByteArray.size]
 simp only [txt, e4, strCells_of h3]
 simp
theorem num8_be {b : List Value} (hu : U8s b) (hl : b.length = 8) : num8 (beR b - 4611686018427387904) = b := by
 match b, hl, hu with
 | [v0, v1, v2, v3, v4, v5, v6, v7], _, hu =>
  obtain ⟨n0, rfl, a0, b0⟩ := hu v0 (by simp)
  obtain ⟨n1, rfl, a1, b1⟩ := hu v1 (by simp)
  obtain ⟨n2, rfl, a2, b2⟩ := hu v2 (by simp)
  obtain ⟨n3, rfl, a3, b3⟩ := hu v3 (by simp)
  obtain ⟨n4, rfl, a4, b4⟩ := hu v4 (by simp)
  obtain ⟨n5, rfl, a5, b5⟩ := hu v5 (by simp)
  obtain ⟨n6, rfl, a6, b6⟩ := hu v6 (by simp)
  obtain ⟨n7, rfl, a7, b7⟩ := hu v7 (by simp)
  simp only [beR, intv, List.foldl_cons, List.foldl_nil]
  rw [show (0 * 256 + n0) % 18446744073709551616 = n0 by omega]
  obtain ⟨e1, h1⟩ : ∃ e, e = n0 * 256 + n1 := ⟨_, rfl⟩
  rw [show (n0 * 256 + n1) % 18446744073709551616 = e1 by omega]
  obtain ⟨e2, h2⟩ : ∃ e, e = e1 * 256 + n2 := ⟨_, rfl⟩
  rw [show (e1 * 256 + n2) % 18446744073709551616 = e2 by omega]
  obtain ⟨e3, h3⟩ : ∃ e, e = e2 * 256 + n3 := ⟨_, rfl⟩
  rw [show (e2 * 256 + n3) % 18446744073709551616 = e3 by omega]
  obtain ⟨e4, h4⟩ : ∃ e, e = e3 * 256 + n4 := ⟨_, rfl⟩
  rw [show (e3 * 256 + n4) % 18446744073709551616 = e4 by omega]
  obtain ⟨e5, h5⟩ : ∃ e, e = e4 * 256 + n5 := ⟨_, rfl⟩
  rw [show (e4 * 256 + n5) % 18446744073709551616 = e5 by omega]
  obtain ⟨e6, h6⟩ : ∃ e, e = e5 * 256 + n6 := ⟨_, rfl⟩
  rw [show (e5 * 256 + n6) % 18446744073709551616 = e6 by omega]
  obtain ⟨e7, h7⟩ : ∃ e, e = e6 * 256 + n7 := ⟨_, rfl⟩
  rw [show (e6 * 256 + n7) % 18446744073709551616 = e7 by omega]
  unfold num8
  rw [show e7 - 4611686018427387904 + 4611686018427387904 = e7 by omega]
  rw [show e7 / 256 = e6 by omega, show e7 / 65536 = e5 by omega, show e7 / 16777216 = e4 by omega, show e7 / 4294967296 = e3 by omega, show e7 / 1099511627776 = e2 by omega, show e7 / 281474976710656 = e1 by omega, show e7 / 72057594037927936 = n0 by omega]
  rw [show n0 % 256 = n0 by omega, show e1 % 256 = n1 by omega, show e2 % 256 = n2 by omega, show e3 % 256 = n3 by omega, show e4 % 256 = n4 by omega, show e5 % 256 = n5 by omega, show e6 % 256 = n6 by omega, show e7 % 256 = n7 by omega]
  rfl
theorem numOf_be {b : List Value} (h1 : -1099511627776 ≤ numOf b) (h2 : numOf b ≤ 1099511627776) : numOf b = beR b - 4611686018427387904 := by
 have hb := be_bd b
 unfold numOf at h1 h2 ⊢
 generalize beR b = B at hb h1 h2
 rw [IntKind.wrap_u64, ← wrap64_i64] at h1 h2 ⊢
 unfold wrap64 at h1 h2 ⊢
 omega
theorem num_fix {st : RS} (hu : U8s st.1) (h : (numR st).2.2 = false) (h1 : -1099511627776 ≤ (numR st).1) (h2 : (numR st).1 ≤ 1099511627776) : st.1 = num8 (numR st).1 ++ (numR st).2.1 := by
 obtain ⟨e1, e2⟩ := take_fix (n := 8) (st := st) h (by omega)
 have h3 := (takeR_u8 (n := 8) hu).1
 unfold numR at h1 h2 ⊢
 simp only at h1 h2 ⊢
 rw [numOf_be h1 h2, num8_be h3 (by omega)]
 exact e1
end Go.Proofs.YtgpkgegpcgiokaaGreatDoor

