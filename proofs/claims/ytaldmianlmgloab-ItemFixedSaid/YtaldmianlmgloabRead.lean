/- The reader's methods: take, number, small, text. -/
import Derived.Test.YtaldmianlmgloabLawItems
import Derived.Laws.Bits64b
namespace Go.Proofs.Ytaldmianlmgloab
set_option linter.all false
open Go.RowKit Go.Lib
/-- The reader at block g has this rest (bytes that lie in memory older than W0's end), and was short or not. -/
structure Rd (W0 w : World) (g : Nat) (st : RS) : Prop where
  slc : ∃ A n c, Blk w g 86 #[.slice A n c, .bool st.2] ∧ Sl W0 1 A n c (byteRows st.1)
  low : Below W0.heap.size W0 w
  gb : W0.heap.size ≤ g
  u8 : U8s st.1
def Nil : Value := .slice none 0 0
theorem nil_own : Nil.ownBlock = none := rfl
/-- What a method of the reader leaves. -/
def Reads (W0 w : World) (g : Nat) (v : Value) (st : RS) (e : Ending) (w' : World) : Prop := e = .returned v ∧ Rd W0 w' g st ∧ Wrote w w' g Nil Nil
theorem Rd.below {W0 w w' : World} {g : Nat} {st : RS} (h : Rd W0 w g st) (hb : Below w.heap.size w w') : Rd W0 w' g st := by
  obtain ⟨⟨A, n, c, h1, h2⟩, h3, h4, h5⟩ := h
  exact ⟨⟨A, n, c, h1.below' hb, h2⟩, h3.trans (hb.mono h3.size), h4, h5⟩
theorem Rd.alloc {W0 w : World} {g : Nat} {st : RS} (h : Rd W0 w g st) (o : Obj) : Rd W0 (w.alloc o) g st := h.below ((Below.refl _ w).alloc (Nat.le_refl _) o)
theorem Wrote.set0 {w : World} {g i : Nat} (u : Value) : Wrote w (w.setCell ⟨g, i, none⟩ u) g Nil Nil :=
  ⟨rfl, rfl, rfl, by simp, fun b _ hg _ => Below.heap_setCell w _ _ b (by simpa using hg), .inl rfl⟩
theorem U8s.drop {l : List Value} (h : U8s l) (n : Nat) : U8s (l.drop n) := fun u hu => h u (List.mem_of_mem_drop hu)
theorem U8s.take {l : List Value} (h : U8s l) (n : Nat) : U8s (l.take n) := fun u hu => h u (List.mem_of_mem_take hu)
theorem takeR_u8 {n : Int} {st : RS} (h : U8s st.1) : U8s (takeR n st).1 ∧ U8s (takeR n st).2.1 := by
  unfold takeR
  split
  · exact ⟨fun u hu => by simp at hu, h⟩
  · exact ⟨h.take _, h.drop _⟩
theorem byteRows_take (l : List Value) (k : Nat) : (byteRows l).take k = byteRows (l.take k) := by simp [byteRows]
theorem byteRows_drop (l : List Value) (k : Nat) : (byteRows l).drop k = byteRows (l.drop k) := by simp [byteRows]
theorem u8_size : (Try.prog.info? 5).map (·.size) = some 1 := by kernel_rfl
set_option maxHeartbeats 1000000 in
theorem take_any (W0 : World) (g : Nat) (st : RS) (n : Nat) (w : World) (h : Rd W0 w g st) (hn : n ≤ 1000) :
    Calls Try.prog 59 #[.pointer (some ⟨g, 0, none⟩), .int .i64 n] w fun e w' => ∃ A m c, e = .returned (.slice A m c) ∧ Sl W0 1 A m c (byteRows (takeR n st).1) ∧ Rd W0 w' g (takeR n st).2 ∧ Wrote w w' g Nil Nil := by
  obtain ⟨⟨A, m, c, hB, hS⟩, hlow, hgb, hu⟩ := h
  obtain ⟨l, sh⟩ := st
  simp only at hB hS hu
  have hm : l.length = m := by rw [← hS.len, byteRows_length]
  subst hm
  have hcm := hS.cm
  have hnc := hS.nc
  unfold maxLen at hcm
  have hg := hB.lt
  have hc := hB.cell
  have hf := hB.frozen
  cases sh
  · by_cases hlt : l.length < n
    · have hlt' : (l.length : Int) < (n : Int) := by omega
      have hT : takeR n (l, false) = ([], (l, true)) := by unfold takeR; rw [if_pos (by right; exact hlt')]
      rw [hT]
      have HT : True := trivial
      clear hT
      go_enter Try.func59, Try.ntmps59
      go_wp2_with fail
      go_ret
      exact ⟨none, 0, 0, rfl, Sl.nil_ _ _, ⟨⟨A, l.length, c, hB.set' rfl, hS⟩, hlow.setCell hgb _, hgb, hu⟩, Wrote.set0 _⟩
    · have hlt' : ¬ (l.length : Int) < (n : Int) := by omega
      have hT : takeR n (l, false) = (l.take n, (l.drop n, false)) := by unfold takeR; rw [if_neg (by simp; omega)]; simp
      rw [hT]
      clear hT
      have s1 := fun w => run_take Try.underlying57 u8_size A l.length c n (by omega) w
      have s2 := fun w => run_cut Try.underlying57 u8_size A l.length c n (by omega) w
      have h1 := hS.take n (by omega) c (by omega) (Nat.le_refl _)
      have h2 := hS.drop n (by omega) c (Nat.le_refl _) hnc
      rw [byteRows_take] at h1
      rw [byteRows_drop] at h2
      go_enter Try.func59, Try.ntmps59
      go_wp2_with fail
      go_ret
      exact ⟨A, n, c, rfl, h1, ⟨⟨_, _, _, hB.set' rfl, h2⟩, hlow.setCell hgb _, hgb, hu.drop n⟩, Wrote.set0 _⟩
  · have hT : takeR n (l, true) = ([], (l, true)) := by unfold takeR; rw [if_pos (by left; rfl)]
    rw [hT]
    clear hT
    go_enter Try.func59, Try.ntmps59
    go_wp2_with fail
    go_ret
    exact ⟨none, 0, 0, rfl, Sl.nil_ _ _, ⟨⟨A, l.length, c, hB.set' rfl, hS⟩, hlow.setCell hgb _, hgb, hu⟩, Wrote.set0 _⟩
theorem wrap64_i64 (x : Int) : wrap64 x = IntKind.i64.wrap x := by
  simp [wrap64, IntKind.wrap, IntKind.signed, IntKind.bits]
  split <;> omega
theorem be_snoc (l : List Value) (v : Value) : beR (l ++ [v]) = (beR l * 256 + intv v) % 18446744073709551616 := by simp [beR]
theorem be_bd (l : List Value) : 0 ≤ beR l ∧ beR l < 18446744073709551616 := by
  rcases List.eq_nil_or_concat l with rfl | ⟨l, v, rfl⟩
  · simp [beR]
  · rw [List.concat_eq_append, be_snoc]; omega
theorem or_step (u x : Int) (h0 : 0 ≤ u) (x0 : 0 ≤ x) (x1 : x < 256) : bits .or .u64 (IntKind.u64.wrap (u * 256)) x = (u * 256 + x) % 18446744073709551616 := by
  obtain ⟨a, ha⟩ := Int.eq_ofNat_of_zero_le (show 0 ≤ u % 72057594037927936 by omega)
  obtain ⟨b, rfl⟩ := Int.eq_ofNat_of_zero_le x0
  have e1 : IntKind.u64.wrap (u * 256) = ((a * 256 : Nat) : Int) := by rw [IntKind.wrap_u64]; omega
  have hb : b < 2 ^ 8 := by omega
  have e2 : a * 256 ||| b = a * 256 + b := by
    have := Nat.shiftLeft_add_eq_or_of_lt hb a
    rw [Nat.shiftLeft_eq] at this
    exact this.symm
  rw [e1, bits_or_u64_nat _ _ (by omega) (by omega), e2]
  omega
set_option maxHeartbeats 1000000 in
theorem rnumber_any (W0 : World) (g : Nat) (st : RS) (w : World) (h : Rd W0 w g st) :
    Calls Try.prog 39 #[.pointer (some ⟨g, 0, none⟩)] w (Reads W0 w g (.int .i64 (numR st).1) (numR st).2) := by
  have hu := (takeR_u8 (n := 8) h.u8).1
  have e1 : numR st = (numOf (takeR 8 st).1, (takeR 8 st).2) := rfl
  rw [e1]
  have hT := take_any W0 g st 8 w h (by omega)
  rw [show ((8 : Nat) : Int) = 8 from rfl] at hT
  generalize takeR 8 st = R at hu hT
  obtain ⟨b, st'⟩ := R
  simp only at hu hT ⊢
  have HT := hide hT; have HU := hide hu
  clear hT e1 hu
  go_enter Try.func39, Try.ntmps39
  go_wp2_with fail
  refine HT.out.mono ?_
  rintro e w1 ⟨A, m, c, rfl, hS, hR, hW⟩
  have hm : b.length = m := by rw [← hS.len, byteRows_length]
  subst hm
  have hS1 := hS.below hR.low
  have hcm := hS.cm
  have hnc := hS.nc
  unfold maxLen at hcm
  go_wp2_with fail
  go_loop [3, 9] (fun s3 s9 => ∃ k : Nat, k ≤ b.length ∧ s9 = .int .i64 k ∧ s3 = .int .u64 (beR (b.take k))) (fun _ s9 => b.length - (intOf s9).toNat)
  case atStart => exact ⟨0, by omega, rfl, rfl⟩
  case round =>
    obtain ⟨k, hk, rfl, rfl⟩ := hrel
    have hbd := be_bd (b.take k)
    by_cases hlt : k < b.length
    · obtain ⟨x, hx, x0, x1⟩ := HU.out b[k] (List.getElem_mem hlt)
      have hsn : beR (b.take (k + 1)) = (beR (b.take k) * 256 + x) % 18446744073709551616 := by
        rw [List.take_succ_eq_append_getElem hlt, be_snoc, hx]; rfl
      obtain ⟨yb, yo, rfl, hyb, hcell⟩ := hS1.seg (by rw [byteRows_length]; omega)
      have hck := hcell k [b[k]] (by simp [byteRows, hlt]) 0 b[k] rfl
      rw [hx, Nat.mul_one, Nat.add_zero] at hck
      have hk1 : (k : Int) < (b.length : Int) := by omega
      have HSN := hide hsn
      clear hsn hcell
      generalize beR (b.take k) = u at hbd HSN
      obtain ⟨u0, u1⟩ := hbd
      have hor := or_step u x u0 x0 x1
      go_wp2_with fail
      go_round
      case rel => exact ⟨k + 1, by omega, by go_num, by rw [HSN.out]⟩
      case measure => simp [intOf]; omega
    · obtain rfl : k = b.length := by omega
      rw [List.take_of_length_le (Nat.le_refl _)]
      have hno : numOf b = IntKind.i64.wrap (IntKind.u64.wrap (beR b - 4611686018427387904)) := rfl
      have HN := hide hno; clear hno
      generalize beR b = u at hbd HN
      obtain ⟨u0, u1⟩ := hbd
      go_wp2_with fail
      go_ret
      exact ⟨ret_int (by rw [HN.out]; exact wrap64_i64 _), hR, hW⟩
set_option maxHeartbeats 1000000 in
theorem rsmall_any (W0 : World) (g : Nat) (st : RS) (w : World) (h : Rd W0 w g st) :
    Calls Try.prog 45 #[.pointer (some ⟨g, 0, none⟩)] w (Reads W0 w g (.int .i64 (smallR st).1) (smallR st).2) := by
  have hu := (takeR_u8 (n := 1) h.u8).1
  have e1 : smallR st = (headV (takeR 1 st).1, (takeR 1 st).2) := rfl
  rw [e1]
  have hT := take_any W0 g st 1 w h (by omega)
  rw [show ((1 : Nat) : Int) = 1 from rfl] at hT
  generalize takeR 1 st = R at hu hT
  obtain ⟨b, st'⟩ := R
  simp only at hu hT ⊢
  have HT := hide hT; have HU := hide hu
  clear hT e1 hu
  go_enter Try.func45, Try.ntmps45
  go_wp2_with fail
  refine HT.out.mono ?_
  rintro e w1 ⟨A, m, c, rfl, hS, hR, hW⟩
  have hm : b.length = m := by rw [← hS.len, byteRows_length]
  subst hm
  have hS1 := hS.below hR.low
  have hcm := hS.cm
  have hnc := hS.nc
  unfold maxLen at hcm
  cases b with
  | nil =>
    go_wp2_with fail
    refine wp_loop_rounds 1 ?_
    rw [rounds_succ]
    go_wp2_with fail
    go_ret
    exact ⟨rfl, hR, hW⟩
  | cons y b =>
    obtain ⟨x, hx, x0, x1⟩ := HU.out y (by simp)
    subst hx
    obtain ⟨yb, yo, rfl, hyb, hcell⟩ := hS1.seg (by rw [byteRows_length]; simp)
    have hck := hcell 0 [.int .u8 x] (by simp [byteRows]) 0 (.int .u8 x) rfl
    rw [Nat.zero_mul, Nat.add_zero] at hck
    clear hcell HU
    have hl1 : (0 : Int) < ((Value.int IntKind.u8 x :: b).length : Int) := by rw [List.length_cons]; omega
    generalize (Value.int IntKind.u8 x :: b).length = len at *
    go_wp2_with fail
    refine wp_loop_rounds 1 ?_
    rw [rounds_succ]
    go_wp2_with fail
    go_ret
    exact ⟨rfl, hR, hW⟩
theorem small_bd {st : RS} (h : U8s st.1) : 0 ≤ (smallR st).1 ∧ (smallR st).1 < 256 ∧ U8s (smallR st).2.1 := by
  have hu := takeR_u8 (n := 1) h
  unfold smallR
  simp only
  refine ⟨?_, ?_, hu.2⟩
  all_goals
    cases hb : (takeR 1 st).1 with
    | nil => simp [headV]
    | cons y b =>
      rw [hb] at hu
      obtain ⟨x, rfl, x0, x1⟩ := hu.1 y (by simp)
      simpa [headV, intv]
set_option maxHeartbeats 1000000 in
theorem rtext_any (W0 : World) (g : Nat) (st : RS) (w : World) (h : Rd W0 w g st) :
    Calls Try.prog 42 #[.pointer (some ⟨g, 0, none⟩)] w (Reads W0 w g (.string (textR st).1) (textR st).2) := by
  obtain ⟨s0, s1, s2⟩ := small_bd h.u8
  have e1 : textR st = (strOf (takeR (smallR st).1 (smallR st).2).1, (takeR (smallR st).1 (smallR st).2).2) := rfl
  rw [e1]
  have hT := rsmall_any W0 g st w h
  generalize smallR st = R at s0 s1 s2 hT
  obtain ⟨n, st1⟩ := R
  simp only at s0 s1 s2 hT ⊢
  obtain ⟨k, rfl⟩ := Int.eq_ofNat_of_zero_le s0
  have hu := (takeR_u8 (n := k) s2).1
  have hT2 := fun w h => take_any W0 g st1 k w h (by omega)
  generalize takeR k st1 = R2 at hu hT2
  obtain ⟨b, st2⟩ := R2
  simp only at hu hT2 ⊢
  have HT := hide hT; have HU := hide hu; have HT2 := hide hT2
  clear hT e1 hu hT2
  go_enter Try.func42, Try.ntmps42
  go_wp2_with fail
  refine HT.out.mono ?_
  rintro e w1 ⟨rfl, hR, hW⟩
  go_wp2_with fail
  refine (HT2.out _ hR).mono ?_
  rintro e w2 ⟨A, m, c, rfl, hS, hR2, hW2⟩
  have hs := run_str Try.underlying57 Try.underlying5 Try.underlying9 (hS.below hR2.low) HU.out
  go_wp2_with fail
  go_ret
  exact ⟨rfl, hR2, hW.trans hW2⟩
end Go.Proofs.Ytaldmianlmgloab
