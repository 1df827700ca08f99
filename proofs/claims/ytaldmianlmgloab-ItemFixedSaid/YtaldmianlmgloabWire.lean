/- The writer's methods: small, number, text. -/
import Derived.Test.YtaldmianlmgloabProg
import Derived.Test.YtaldmianlmgloabWr
import Derived.Test.YtaldmianlmgloabStill
namespace Go.Proofs.Ytaldmianlmgloab
set_option linter.all false
open Go.RowKit Go.Lib
theorem u8_info : (Try.prog.info? 5).map (fun i => (i.zero, i.size, i.bytes)) = some (some (.int .u8 0), 1, 1) := by kernel_rfl
/-- The writer, at this program's types. -/
def WrT (w : World) (g base : Nat) (v : Value) (bs : List Value) : Prop := Wr w 82 5 g base v bs
theorem WrT.to {w : World} {g base : Nat} {v : Value} {bs bs' : List Value} (h : WrT w g base v bs) (e : bs = bs') : WrT w g base v bs' := e ▸ h
/-- What a method of the writer leaves. -/
def Writes (w : World) (g base : Nat) (v : Value) (bs : List Value) (e : Ending) (w' : World) : Prop :=
  e = .returned (.tuple #[]) ∧ ∃ A n c, WrT w' g base (.slice A n c) bs ∧ Wrote w w' g v (.slice A n c)
theorem Writes.mk {w w' : World} {g base : Nat} {v : Value} {bs bs' : List Value} {A : Option Addr} {n c : Nat} (h1 : WrT w' g base (.slice A n c) bs') (h2 : Wrote w w' g v (.slice A n c)) (e : bs' = bs) : Writes w g base v bs (.returned (.tuple #[])) w' := by
  subst e
  exact ⟨rfl, A, n, c, h1, h2⟩
theorem u8_wrap (x : Int) : IntKind.u8.wrap x = x % 256 := by
  simp [IntKind.wrap, IntKind.signed, IntKind.bits]
def u8 (n : Int) : Value := .int .u8 n
set_option maxHeartbeats 1000000 in
theorem small_any (g base : Nat) (v : Value) (bs : List Value) (n : Int) (w : World) (h : WrT w g base v bs) (hl : bs.length ≤ 10000000) (hb : base ≤ w.heap.size) (hn0 : 0 ≤ n) (hn : n < 256) :
    Calls Try.prog 49 #[.pointer (some ⟨g, 0, none⟩), .int .i64 n] w (Writes w g base v (bs ++ [u8 n])) := by
  have hc := h.cell
  have hf := h.frozen
  have hl' := h.lt
  go_enter Try.func49, Try.ntmps49
  go_wp2_with (at_builtin; refine wpList_wr_push rfl _ _ _ rfl Try.underlying57 u8_info h (by rfl) rfl (by rfl) rfl (by omega) hb ?_; intro A c w1 h1 h2 h3 h4)
  go_end0
  exact Writes.mk h1 h2 rfl
def num8 (n : Int) : List Value := [u8 ((n + 4611686018427387904) / 72057594037927936 % 256), u8 ((n + 4611686018427387904) / 281474976710656 % 256), u8 ((n + 4611686018427387904) / 1099511627776 % 256), u8 ((n + 4611686018427387904) / 4294967296 % 256),
  u8 ((n + 4611686018427387904) / 16777216 % 256), u8 ((n + 4611686018427387904) / 65536 % 256), u8 ((n + 4611686018427387904) / 256 % 256), u8 ((n + 4611686018427387904) % 256)]
set_option maxHeartbeats 1000000 in
theorem number_any (g base : Nat) (v : Value) (bs : List Value) (n : Int) (w : World) (h : WrT w g base v bs) (hl : bs.length ≤ 10000000) (hb : base ≤ w.heap.size) (h1 : -1099511627776 ≤ n) (h2 : n ≤ 1099511627776) :
    Calls Try.prog 48 #[.pointer (some ⟨g, 0, none⟩), .int .i64 n] w (Writes w g base v (bs ++ num8 n)) := by
  have hc := h.cell
  have hf := h.frozen
  have hl' := h.lt
  go_enter Try.func48, Try.ntmps48
  go_wp2_with fail
  clear hc hf hl'
  go_loopw [5] (fun s wr => ∃ k : Nat, k ≤ 8 ∧ s = .int .i64 (56 - 8 * (k : Int)) ∧ ∃ v', (∃ A n c, v' = .slice A n c) ∧ WrT wr g base v' (bs ++ (num8 n).take k) ∧ Wrote w wr g v v') (fun s _ => (intOf s + 8).toNat)
  case atStart => exact ⟨0, by omega, rfl, v, (owns_slice h.own).elim fun A hA => ⟨A, _, hA⟩, by simpa using h, Wrote.refl _ _ _⟩
  case round =>
    obtain ⟨k, hk, rfl, v', HV, hr, hw⟩ := hrel
    have HV := hide HV
    have hc := hr.cell
    have hf := hr.frozen
    have hl' := hr.lt
    have hlen : (bs ++ (num8 n).take k).length ≤ 10000008 := by rw [List.length_append, List.length_take]; omega
    have hb' : base ≤ wr.heap.size := by have := hw.size; omega
    obtain ⟨bs', HB⟩ : ∃ bs', Hid (bs' = bs ++ (num8 n).take k) := ⟨_, rfl⟩
    rw [← HB.out] at hr hlen
    have hk' : k = 0 ∨ k = 1 ∨ k = 2 ∨ k = 3 ∨ k = 4 ∨ k = 5 ∨ k = 6 ∨ k = 7 ∨ k = 8 := by omega
    clear hk
    rcases hk' with rfl | rfl | rfl | rfl | rfl | rfl | rfl | rfl | rfl
    · go_wp2_with fail
      go_region_law ((refine step_wr_push rfl _ _ _ (by rfl) Try.underlying57 u8_info hr.drew (by rfl) (by rfl) (by rfl) rfl (by omega) hb' ?_; intro A c w1 h1 h2 h3 h4))
      all_goals
        go_wp2_with fail
        go_roundw
        case rel => exact ⟨0 + 1, by omega, by go_num, _, ⟨_, _, _, rfl⟩, WrT.to h1 (by rw [HB.out]; simp [num8, u8, u8_wrap]), hw.trans (Wrote.pre ((Below.refl _ _).drew) h2)⟩
        case measure => simp [intOf]
    · go_wp2_with fail
      go_region_law ((refine step_wr_push rfl _ _ _ (by rfl) Try.underlying57 u8_info hr.drew (by rfl) (by rfl) (by rfl) rfl (by omega) hb' ?_; intro A c w1 h1 h2 h3 h4))
      all_goals
        go_wp2_with fail
        go_roundw
        case rel => exact ⟨1 + 1, by omega, by go_num, _, ⟨_, _, _, rfl⟩, WrT.to h1 (by rw [HB.out]; simp [num8, u8, u8_wrap]), hw.trans (Wrote.pre ((Below.refl _ _).drew) h2)⟩
        case measure => simp [intOf]
    · go_wp2_with fail
      go_region_law ((refine step_wr_push rfl _ _ _ (by rfl) Try.underlying57 u8_info hr.drew (by rfl) (by rfl) (by rfl) rfl (by omega) hb' ?_; intro A c w1 h1 h2 h3 h4))
      all_goals
        go_wp2_with fail
        go_roundw
        case rel => exact ⟨2 + 1, by omega, by go_num, _, ⟨_, _, _, rfl⟩, WrT.to h1 (by rw [HB.out]; simp [num8, u8, u8_wrap]), hw.trans (Wrote.pre ((Below.refl _ _).drew) h2)⟩
        case measure => simp [intOf]
    · go_wp2_with fail
      go_region_law ((refine step_wr_push rfl _ _ _ (by rfl) Try.underlying57 u8_info hr.drew (by rfl) (by rfl) (by rfl) rfl (by omega) hb' ?_; intro A c w1 h1 h2 h3 h4))
      all_goals
        go_wp2_with fail
        go_roundw
        case rel => exact ⟨3 + 1, by omega, by go_num, _, ⟨_, _, _, rfl⟩, WrT.to h1 (by rw [HB.out]; simp [num8, u8, u8_wrap]), hw.trans (Wrote.pre ((Below.refl _ _).drew) h2)⟩
        case measure => simp [intOf]
    · go_wp2_with fail
      go_region_law ((refine step_wr_push rfl _ _ _ (by rfl) Try.underlying57 u8_info hr.drew (by rfl) (by rfl) (by rfl) rfl (by omega) hb' ?_; intro A c w1 h1 h2 h3 h4))
      all_goals
        go_wp2_with fail
        go_roundw
        case rel => exact ⟨4 + 1, by omega, by go_num, _, ⟨_, _, _, rfl⟩, WrT.to h1 (by rw [HB.out]; simp [num8, u8, u8_wrap]), hw.trans (Wrote.pre ((Below.refl _ _).drew) h2)⟩
        case measure => simp [intOf]
    · go_wp2_with fail
      go_region_law ((refine step_wr_push rfl _ _ _ (by rfl) Try.underlying57 u8_info hr.drew (by rfl) (by rfl) (by rfl) rfl (by omega) hb' ?_; intro A c w1 h1 h2 h3 h4))
      all_goals
        go_wp2_with fail
        go_roundw
        case rel => exact ⟨5 + 1, by omega, by go_num, _, ⟨_, _, _, rfl⟩, WrT.to h1 (by rw [HB.out]; simp [num8, u8, u8_wrap]), hw.trans (Wrote.pre ((Below.refl _ _).drew) h2)⟩
        case measure => simp [intOf]
    · go_wp2_with fail
      go_region_law ((refine step_wr_push rfl _ _ _ (by rfl) Try.underlying57 u8_info hr.drew (by rfl) (by rfl) (by rfl) rfl (by omega) hb' ?_; intro A c w1 h1 h2 h3 h4))
      all_goals
        go_wp2_with fail
        go_roundw
        case rel => exact ⟨6 + 1, by omega, by go_num, _, ⟨_, _, _, rfl⟩, WrT.to h1 (by rw [HB.out]; simp [num8, u8, u8_wrap]), hw.trans (Wrote.pre ((Below.refl _ _).drew) h2)⟩
        case measure => simp [intOf]
    · go_wp2_with fail
      go_region_law ((refine step_wr_push rfl _ _ _ (by rfl) Try.underlying57 u8_info hr.drew (by rfl) (by rfl) (by rfl) rfl (by omega) hb' ?_; intro A c w1 h1 h2 h3 h4))
      all_goals
        go_wp2_with fail
        go_roundw
        case rel => exact ⟨7 + 1, by omega, by go_num, _, ⟨_, _, _, rfl⟩, WrT.to h1 (by rw [HB.out]; simp [num8, u8, u8_wrap]), hw.trans (Wrote.pre ((Below.refl _ _).drew) h2)⟩
        case measure => simp [intOf]
    · go_wp2_with fail
      go_end0
      obtain ⟨A, m, c, rfl⟩ := HV.out
      exact Writes.mk hr hw (by rw [HB.out]; rfl)
set_option maxHeartbeats 1000000 in
theorem wtext_any (g base : Nat) (v : Value) (bs : List Value) (s : ByteArray) (w : World) (h : WrT w g base v bs) (hl : bs.length ≤ 1000000) (hb : base ≤ w.heap.size) (hs : s.size ≤ 20) :
    Calls Try.prog 50 #[.pointer (some ⟨g, 0, none⟩), .string s] w (Writes w g base v (bs ++ [u8 s.size] ++ strCells s)) := by
  go_enter Try.func50, Try.ntmps50
  go_wp2_with fail
  refine (small_any g base v bs s.size _ h (by omega) hb (by omega) (by omega)).mono ?_
  rintro e w1 ⟨rfl, A, n, c, h1, h2⟩
  obtain ⟨bs', HB⟩ : ∃ bs', Hid (bs' = bs ++ [u8 s.size]) := ⟨_, rfl⟩
  have hlen : bs'.length ≤ 1000001 := by rw [HB.out]; simp; omega
  rw [← HB.out] at h1
  have hc := h1.cell
  have hf := h1.frozen
  have hl' := h1.lt
  go_wp2_with (at_builtin; refine wpList_wr_str rfl _ _ _ _ rfl Try.underlying57 Try.underlying9 u8_info h1 (by rfl) s (by rfl) (by omega) (by have := h2.size; omega) ?_; intro A2 c2 w2 h3 h4 h5 h6)
  go_end0
  exact Writes.mk h3 (h2.trans h4) (by rw [HB.out])
end Go.Proofs.Ytaldmianlmgloab
