/- The writer's methods command, call, item; wire.EncodeItem. -/
import Derived.Test.YtaldmianlmgloabWire
import Derived.Test.YtaldmianlmgloabItems
namespace Go.Proofs.Ytaldmianlmgloab
set_option linter.all false
open Go.RowKit Go.Lib
def txt (s : ByteArray) : List Value := [u8 s.size] ++ strCells s
def cmdBytes (c : Cmd) : List Value := [u8 c.kind] ++ txt c.key ++ txt c.field ++ txt c.text ++ num8 c.n
def callBytes (client seq : Int) (c : Cmd) : List Value := num8 client ++ (if 0 < client then num8 seq ++ cmdBytes c else [])
def itemBytes (x : Itm) : List Value := num8 x.term ++ num8 x.time ++ (if x.nop = true then [u8 1] else [u8 0] ++ callBytes x.client x.seq x.cmd)
theorem num8_length (n : Int) : (num8 n).length = 8 := rfl
theorem txt_length (s : ByteArray) : (txt s).length = 1 + s.size := by simp [txt, strCells_length]; omega
/-- What fits into its bytes. -/
structure CmdFits (c : Cmd) : Prop where
  k0 : 0 ≤ c.kind
  k1 : c.kind < 256
  key : c.key.size ≤ 20
  field : c.field.size ≤ 20
  text : c.text.size ≤ 20
  n0 : -1099511627776 ≤ c.n
  n1 : c.n ≤ 1099511627776
theorem cmdBytes_length {c : Cmd} (h : CmdFits c) : (cmdBytes c).length ≤ 100 := by
  have := h.key; have := h.field; have := h.text
  simp only [cmdBytes, List.length_append, txt_length, num8_length, List.length_singleton]; omega
theorem callBytes_length {client seq : Int} {c : Cmd} (h : CmdFits c) : (callBytes client seq c).length ≤ 120 := by
  have := cmdBytes_length h
  unfold callBytes
  split <;> simp only [List.length_append, num8_length, List.length_nil] <;> omega
set_option maxHeartbeats 2000000 in
theorem command_any (g base : Nat) (v : Value) (bs : List Value) (c : Cmd) (w : World) (h : WrT w g base v bs) (hl : bs.length ≤ 900000) (hb : base ≤ w.heap.size) (hc : CmdFits c) :
    Calls Try.prog 65 #[.pointer (some ⟨g, 0, none⟩), .agg #[.int .i64 c.kind, .string c.key, .string c.field, .string c.text, .int .i64 c.n]] w (Writes w g base v (bs ++ cmdBytes c)) := by
  obtain ⟨kind, key, field, text, n⟩ := c
  obtain ⟨k0, k1, hkey, hfield, htext, n0, n1⟩ := hc
  simp only at k0 k1 hkey hfield htext n0 n1
  have HL := fun (s : ByteArray) => (txt_length s)
  have hB : bs ++ cmdBytes ⟨kind, key, field, text, n⟩ = bs ++ [u8 kind] ++ [u8 key.size] ++ strCells key ++ [u8 field.size] ++ strCells field ++ [u8 text.size] ++ strCells text ++ num8 n := by simp [cmdBytes, txt, List.append_assoc]
  rw [hB]
  have l1 : (bs ++ [u8 kind]).length ≤ 900001 := by simp; omega
  have l2 : (bs ++ [u8 kind] ++ [u8 key.size] ++ strCells key).length ≤ 900030 := by simp [strCells_length]; omega
  have l3 : (bs ++ [u8 kind] ++ [u8 key.size] ++ strCells key ++ [u8 field.size] ++ strCells field).length ≤ 900060 := by simp [strCells_length]; omega
  have l4 : (bs ++ [u8 kind] ++ [u8 key.size] ++ strCells key ++ [u8 field.size] ++ strCells field ++ [u8 text.size] ++ strCells text).length ≤ 900090 := by simp [strCells_length]; omega
  clear hB HL
  have b0 := Box.new h 25 #[.int .i64 kind, .string key, .string field, .string text, .int .i64 n]
  have h0 := h.alloc (.cells #[.int .i64 kind, .string key, .string field, .string text, .int .i64 n] 25)
  have q0 : Below w.heap.size w (w.alloc (.cells #[.int .i64 kind, .string key, .string field, .string text, .int .i64 n] 25)) := (by repeat (first | (with_reducible exact Below.refl _ _) | (with_reducible assumption) | (with_reducible refine Below.drew ?_) | (with_reducible refine bdrewN ?_ _) | (with_reducible refine balloc ?_ _) | ((with_reducible refine bset ?_ ?_ _); rotate_left; (focus first | exact Nat.le_refl _ | (simp; done) | (simp; omega) | omega)) | (with_reducible refine bstep ?_ (by with_reducible assumption)) | (with_reducible refine Below.trans ?_ (by with_reducible assumption))))
  go_enter Try.func65, Try.ntmps65
  go_wp2_with fail
  refine (small_any g base _ _ kind _ h0 (by omega) (by simp; omega) k0 k1).mono ?_
  rintro e w1 ⟨rfl, A1, m1, c1, h1, p1⟩
  have b1 := b0.wr p1
  have x1 := b1.cell
  have hz1 : base ≤ w1.heap.size := by have := p1.size; simp at this; omega
  go_wp2_with fail
  refine (wtext_any g base _ _ key _ h1 (by omega) hz1 hkey).mono ?_
  rintro e w2 ⟨rfl, A2, m2, c2, h2, p2⟩
  have b2 := b1.wr p2
  have x2 := b2.cell
  clear x1
  have hz2 : base ≤ w2.heap.size := by have := p2.size; omega
  go_wp2_with fail
  refine (wtext_any g base _ _ field _ h2 (by omega) hz2 hfield).mono ?_
  rintro e w3 ⟨rfl, A3, m3, c3, h3, p3⟩
  have b3 := b2.wr p3
  have x3 := b3.cell
  clear x2
  have hz3 : base ≤ w3.heap.size := by have := p3.size; omega
  go_wp2_with fail
  refine (wtext_any g base _ _ text _ h3 (by omega) hz3 htext).mono ?_
  rintro e w4 ⟨rfl, A4, m4, c4, h4, p4⟩
  have b4 := b3.wr p4
  have x4 := b4.cell
  clear x3
  have hz4 : base ≤ w4.heap.size := by have := p4.size; omega
  go_wp2_with fail
  refine (number_any g base _ _ n _ h4 (by omega) hz4 n0 n1).mono ?_
  rintro e w5 ⟨rfl, A5, m5, c5, h5, p5⟩
  go_wp2_with fail
  go_end0
  exact Writes.mk h5 (Wrote.pre q0 ((((p1.trans p2).trans p3).trans p4).trans p5)) rfl
set_option maxHeartbeats 2000000 in
theorem call_any (g base : Nat) (v : Value) (bs : List Value) (client seq : Int) (c : Cmd) (w : World) (h : WrT w g base v bs) (hl : bs.length ≤ 800000) (hb : base ≤ w.heap.size) (hc : CmdFits c) (a1 : 0 ≤ client) (a2 : client ≤ 1048576) (s1 : 0 ≤ seq) (s2 : seq ≤ 1048576) :
    Calls Try.prog 55 #[.pointer (some ⟨g, 0, none⟩), .agg #[.int .i64 client, .int .i64 seq, .int .i64 c.kind, .string c.key, .string c.field, .string c.text, .int .i64 c.n]] w (Writes w g base v (bs ++ callBytes client seq c)) := by
  have HC := hide hc; clear hc
  have b0 := Box.new h 27 #[.int .i64 client, .int .i64 seq, .int .i64 c.kind, .string c.key, .string c.field, .string c.text, .int .i64 c.n]
  have h0 := h.alloc (.cells #[.int .i64 client, .int .i64 seq, .int .i64 c.kind, .string c.key, .string c.field, .string c.text, .int .i64 c.n] 27)
  have q0 : Below w.heap.size w (w.alloc (.cells #[.int .i64 client, .int .i64 seq, .int .i64 c.kind, .string c.key, .string c.field, .string c.text, .int .i64 c.n] 27)) := (by repeat (first | (with_reducible exact Below.refl _ _) | (with_reducible assumption) | (with_reducible refine Below.drew ?_) | (with_reducible refine bdrewN ?_ _) | (with_reducible refine balloc ?_ _) | ((with_reducible refine bset ?_ ?_ _); rotate_left; (focus first | exact Nat.le_refl _ | (simp; done) | (simp; omega) | omega)) | (with_reducible refine bstep ?_ (by with_reducible assumption)) | (with_reducible refine Below.trans ?_ (by with_reducible assumption))))
  have l1 : (bs ++ num8 client).length ≤ 800008 := by simp [num8_length]; omega
  have l2 : (bs ++ num8 client ++ num8 seq).length ≤ 800016 := by simp [num8_length]; omega
  by_cases hpos : 0 < client
  · have hB : bs ++ callBytes client seq c = bs ++ num8 client ++ num8 seq ++ cmdBytes c := by simp [callBytes, hpos]
    rw [hB]
    clear hB
    go_enter Try.func55, Try.ntmps55
    go_wp2_with fail
    refine (number_any g base _ _ client _ h0 (by omega) (by simp; omega) (by omega) (by omega)).mono ?_
    rintro e w1 ⟨rfl, A1, m1, c1, h1, p1⟩
    have b1 := b0.wr p1
    have x1 := b1.cell
    have hz1 : base ≤ w1.heap.size := by have := p1.size; simp at this; omega
    go_wp2_with fail
    refine (number_any g base _ _ seq _ h1 (by omega) hz1 (by omega) (by omega)).mono ?_
    rintro e w2 ⟨rfl, A2, m2, c2, h2, p2⟩
    have b2 := b1.wr p2
    have x2 := b2.cell
    clear x1
    have hz2 : base ≤ w2.heap.size := by have := p2.size; omega
    go_wp2_with fail
    refine (command_any g base _ _ c _ h2 (by omega) hz2 HC.out).mono ?_
    rintro e w3 ⟨rfl, A3, m3, c3, h3, p3⟩
    go_wp2_with fail
    go_end0
    exact Writes.mk h3 (Wrote.pre q0 ((p1.trans p2).trans p3)) rfl
  · have hB : bs ++ callBytes client seq c = bs ++ num8 client := by simp [callBytes, hpos]
    rw [hB]
    obtain rfl : client = 0 := by omega
    clear hB hpos
    go_enter Try.func55, Try.ntmps55
    go_wp2_with fail
    refine (number_any g base _ _ 0 _ h0 (by omega) (by simp; omega) (by omega) (by omega)).mono ?_
    rintro e w1 ⟨rfl, A1, m1, c1, h1, p1⟩
    have b1 := b0.wr p1
    have x1 := b1.cell
    go_wp2_with fail
    go_end0
    exact Writes.mk h1 (Wrote.pre q0 p1) rfl
set_option maxHeartbeats 2000000 in
theorem item_any (g base : Nat) (v : Value) (bs : List Value) (x : Itm) (w : World) (h : WrT w g base v bs) (hl : bs.length ≤ 700000) (hb : base ≤ w.heap.size) (hc : CmdFits x.cmd)
    (t1 : 0 ≤ x.term) (t2 : x.term ≤ 1073741824) (i1 : 0 ≤ x.time) (i2 : x.time ≤ 1073741824) (a1 : 0 ≤ x.client) (a2 : x.client ≤ 1048576) (s1 : 0 ≤ x.seq) (s2 : x.seq ≤ 1048576) :
    Calls Try.prog 34 #[.pointer (some ⟨g, 0, none⟩), .agg #[.int .i64 x.term, .int .i64 x.time, .bool x.nop, .int .i64 x.client, .int .i64 x.seq, .int .i64 x.cmd.kind, .string x.cmd.key, .string x.cmd.field, .string x.cmd.text, .int .i64 x.cmd.n]] w (Writes w g base v (bs ++ itemBytes x)) := by
  obtain ⟨term, time, nop, client, seq, c⟩ := x
  simp only at hc t1 t2 i1 i2 a1 a2 s1 s2
  have HC := hide hc; clear hc
  have b0 := Box.new h 29 #[.int .i64 term, .int .i64 time, .bool nop, .int .i64 client, .int .i64 seq, .int .i64 c.kind, .string c.key, .string c.field, .string c.text, .int .i64 c.n]
  have h0 := h.alloc (.cells #[.int .i64 term, .int .i64 time, .bool nop, .int .i64 client, .int .i64 seq, .int .i64 c.kind, .string c.key, .string c.field, .string c.text, .int .i64 c.n] 29)
  have q0 : Below w.heap.size w (w.alloc (.cells #[.int .i64 term, .int .i64 time, .bool nop, .int .i64 client, .int .i64 seq, .int .i64 c.kind, .string c.key, .string c.field, .string c.text, .int .i64 c.n] 29)) := (by repeat (first | (with_reducible exact Below.refl _ _) | (with_reducible assumption) | (with_reducible refine Below.drew ?_) | (with_reducible refine bdrewN ?_ _) | (with_reducible refine balloc ?_ _) | ((with_reducible refine bset ?_ ?_ _); rotate_left; (focus first | exact Nat.le_refl _ | (simp; done) | (simp; omega) | omega)) | (with_reducible refine bstep ?_ (by with_reducible assumption)) | (with_reducible refine Below.trans ?_ (by with_reducible assumption))))
  have l1 : (bs ++ num8 term).length ≤ 700008 := by simp [num8_length]; omega
  have l2 : (bs ++ num8 term ++ num8 time).length ≤ 700016 := by simp [num8_length]; omega
  have l3 : (bs ++ num8 term ++ num8 time ++ [u8 0]).length ≤ 700017 := by simp [num8_length]; omega
  have hB1 : bs ++ itemBytes ⟨term, time, true, client, seq, c⟩ = bs ++ num8 term ++ num8 time ++ [u8 1] := by simp [itemBytes]
  have hB2 : bs ++ itemBytes ⟨term, time, false, client, seq, c⟩ = bs ++ num8 term ++ num8 time ++ [u8 0] ++ callBytes client seq c := by simp [itemBytes]
  have HB1 := hide hB1; have HB2 := hide hB2
  clear hB1 hB2
  cases nop
  · rw [HB2.out]
    go_enter Try.func34, Try.ntmps34
    go_wp2_with fail
    refine (number_any g base _ _ term _ h0 (by omega) (by simp; omega) (by omega) (by omega)).mono ?_
    rintro e w1 ⟨rfl, A1, m1, c1, h1, p1⟩
    have b1 := b0.wr p1
    have x1 := b1.cell
    have hz1 : base ≤ w1.heap.size := by have := p1.size; simp at this; omega
    go_wp2_with fail
    refine (number_any g base _ _ time _ h1 (by omega) hz1 (by omega) (by omega)).mono ?_
    rintro e w2 ⟨rfl, A2, m2, c2, h2, p2⟩
    have b2 := b1.wr p2
    have x2 := b2.cell
    clear x1
    have hz2 : base ≤ w2.heap.size := by have := p2.size; omega
    go_wp2_with fail
    refine (small_any g base _ _ 0 _ h2 (by omega) hz2 (by omega) (by omega)).mono ?_
    rintro e w3 ⟨rfl, A3, m3, c3, h3, p3⟩
    have b3 := b2.wr p3
    have x3 := b3.cell
    clear x2
    have hz3 : base ≤ w3.heap.size := by have := p3.size; omega
    go_wp2_with fail
    refine (call_any g base _ _ client seq c _ h3 (by omega) hz3 HC.out a1 a2 s1 s2).mono ?_
    rintro e w4 ⟨rfl, A4, m4, c4, h4, p4⟩
    go_wp2_with fail
    go_end0
    exact Writes.mk h4 (Wrote.pre q0 (((p1.trans p2).trans p3).trans p4)) rfl
  · rw [HB1.out]
    go_enter Try.func34, Try.ntmps34
    go_wp2_with fail
    refine (number_any g base _ _ term _ h0 (by omega) (by simp; omega) (by omega) (by omega)).mono ?_
    rintro e w1 ⟨rfl, A1, m1, c1, h1, p1⟩
    have b1 := b0.wr p1
    have x1 := b1.cell
    have hz1 : base ≤ w1.heap.size := by have := p1.size; simp at this; omega
    go_wp2_with fail
    refine (number_any g base _ _ time _ h1 (by omega) hz1 (by omega) (by omega)).mono ?_
    rintro e w2 ⟨rfl, A2, m2, c2, h2, p2⟩
    have b2 := b1.wr p2
    have x2 := b2.cell
    clear x1
    have hz2 : base ≤ w2.heap.size := by have := p2.size; omega
    go_wp2_with fail
    refine (small_any g base _ _ 1 _ h2 (by omega) hz2 (by omega) (by omega)).mono ?_
    rintro e w3 ⟨rfl, A3, m3, c3, h3, p3⟩
    go_wp2_with fail
    go_end0
    exact Writes.mk h3 (Wrote.pre q0 ((p1.trans p2).trans p3)) rfl
end Go.Proofs.Ytaldmianlmgloab
