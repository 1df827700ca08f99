/- rostrumkeep.entry. -/
import Derived.Test.YtpdadlofgfdlpaaStoL
namespace Go.Proofs.Ytpdadlofgfdlpaa
set_option linter.all false
open Go.RowKit
set_option maxHeartbeats 4000000 in
/-- An entry's block is written whole. -/
theorem whole_entry {w2 : World} {b : Nat} {x0 x1 x2 x3 x4 x5 x6 x7 : Value} (u0 u1 u2 u3 u4 u5 u6 u7 : Value) (R : Blk w2 b 65 #[x0, x1, x2, x3, x4, x5, x6, x7]) :
    Blk ((((((((w2.setCell ⟨b, 0, none⟩ (u0)).setCell ⟨b, 1, none⟩ (u1)).setCell ⟨b, 2, none⟩ (u2)).setCell ⟨b, 3, none⟩ (u3)).setCell ⟨b, 4, none⟩ (u4)).setCell ⟨b, 5, none⟩ (u5)).setCell ⟨b, 6, none⟩ (u6)).setCell ⟨b, 7, none⟩ (u7)) b 65 #[u0, u1, u2, u3, u4, u5, u6, u7] ∧ w2.grownBy ((((((((w2.setCell ⟨b, 0, none⟩ (u0)).setCell ⟨b, 1, none⟩ (u1)).setCell ⟨b, 2, none⟩ (u2)).setCell ⟨b, 3, none⟩ (u3)).setCell ⟨b, 4, none⟩ (u4)).setCell ⟨b, 5, none⟩ (u5)).setCell ⟨b, 6, none⟩ (u6)).setCell ⟨b, 7, none⟩ (u7)) (some b) := by
  have R0 := R.set' (i := 0) (u := u0) rfl
  have R1 := R0.set' (i := 1) (u := u1) rfl
  have R2 := R1.set' (i := 2) (u := u2) rfl
  have R3 := R2.set' (i := 3) (u := u3) rfl
  have R4 := R3.set' (i := 4) (u := u4) rfl
  have R5 := R4.set' (i := 5) (u := u5) rfl
  have R6 := R5.set' (i := 6) (u := u6) rfl
  have R7 := R6.set' (i := 7) (u := u7) rfl
  exact ⟨R7, grown_trans (grown_trans (grown_trans (grown_trans (grown_trans (grown_trans (grown_trans (grown_setRow_cell w2 b 0 u0) (grown_setRow_cell _ b 1 u1)) (grown_setRow_cell _ b 2 u2)) (grown_setRow_cell _ b 3 u3)) (grown_setRow_cell _ b 4 u4)) (grown_setRow_cell _ b 5 u5)) (grown_setRow_cell _ b 6 u6)) (grown_setRow_cell _ b 7 u7)⟩
/-- The entry of a key. -/
def EntryPost (l : List En) (key : ByteArray) (w : World) (e : Ending) (w' : World) : Prop :=
  ((∃ x ∈ l, x.key = key ∧ ∃ A1 n1 c1 A2 n2 c2 A3 n3 c3, e = .returned (.tuple #[.agg #[.string x.key, .int .i64 x.val.kind, .string x.val.text, .int .i64 x.val.count, .slice A1 n1 c1, .slice A2 n2 c2, .slice A3 n3 c3, .int .i64 x.till], .bool true]) ∧ VSl w' x.val A1 n1 c1 A2 n2 c2 A3 n3 c3 ∧ Tps w' A1 A2 A3) ∨
    ((∀ x ∈ l, x.key ≠ key) ∧ e = .returned (.tuple #[.agg #[.string { data := #[] }, .int .i64 0, .string { data := #[] }, .int .i64 0, .slice none 0 0, .slice none 0 0, .slice none 0 0, .int .i64 0], .bool false]))) ∧ Below w.heap.size w w'
set_option maxRecDepth 100000 in
set_option maxHeartbeats 4000000 in
theorem entry_any (now : Int) (A : Option Addr) (n c : Nat) (l : List En) (key : ByteArray) (w : World) (hS : St w A n c l) (hl : l.length ≤ 1048576) :
    Calls Try.prog 28 #[.agg #[.int .i64 now, .slice A n c], .string key] w (EntryPost l key w) := by
  have hn := hS.sl.len
  subst hn
  have X0 := (Blk.new w 25 #[.int .i64 now, .slice A l.length c]).alloc (.cells #[.string { data := #[] }, .int .i64 0, .string { data := #[] }, .int .i64 0, .slice none 0 0, .slice none 0 0, .slice none 0 0, .int .i64 0] 65)
  have Z0 : Blk ((w.alloc (.cells #[.int .i64 now, .slice A l.length c] 25)).alloc (.cells #[.string { data := #[] }, .int .i64 0, .string { data := #[] }, .int .i64 0, .slice none 0 0, .slice none 0 0, .slice none 0 0, .int .i64 0] 65)) (w.heap.size + 1) 65 #[.string { data := #[] }, .int .i64 0, .string { data := #[] }, .int .i64 0, .slice none 0 0, .slice none 0 0, .slice none 0 0, .int .i64 0] := Blk.new' _ _ _ (by simp)
  have q0 : Below w.heap.size w ((w.alloc (.cells #[.int .i64 now, .slice A l.length c] 25)).alloc (.cells #[.string { data := #[] }, .int .i64 0, .string { data := #[] }, .int .i64 0, .slice none 0 0, .slice none 0 0, .slice none 0 0, .int .i64 0] 65)) := (by repeat (first | (with_reducible exact Below.refl _ _) | (with_reducible assumption) | (with_reducible refine Below.drew ?_) | (with_reducible refine bdrewN ?_ _) | (with_reducible refine balloc ?_ _) | ((with_reducible refine bset ?_ ?_ _); rotate_left; (focus first | exact Nat.le_refl _ | (simp; done) | (simp; omega) | omega)) | (with_reducible refine bstep ?_ (by with_reducible assumption)) | (with_reducible refine Below.trans ?_ (by with_reducible assumption))))
  go_enter Try.func28, Try.ntmps28
  go_wp2_with fail
  go_loopw [6] (fun i wr => ∃ k : Nat, k ≤ l.length ∧ i = .int .i64 k ∧ Blk wr w.heap.size 25 #[.int .i64 now, .slice A l.length c] ∧ Blk wr (w.heap.size + 1) 65 #[.string { data := #[] }, .int .i64 0, .string { data := #[] }, .int .i64 0, .slice none 0 0, .slice none 0 0, .slice none 0 0, .int .i64 0] ∧ Hid (∀ j (hj : j < l.length), j < k → l[j].key ≠ key) ∧ Below w.heap.size w wr) (fun i _ => l.length - (intOf i).toNat)
  case atStart => exact ⟨0, by omega, rfl, X0, Z0, hide (fun j hj h => by omega), q0⟩
  case round =>
    obtain ⟨k, hk, rfl, X, Z, HK, hbr⟩ := hrel
    clear X0 Z0 q0
    have S2 := hS.bl hbr
    have lx := X.lt; have lz := Z.lt
    (try clear cX fX); have cX := X.cell; have fX := X.frozen; (try clear cZ fZ); have cZ := Z.cell; have fZ := Z.frozen
    by_cases hlt : k < l.length
    · obtain ⟨b, off, A1, n1, c1, A2, n2, c2, A3, n3, c3, rfl, hb, E, N, T⟩ := S2.sl.at_ hlt
      have hm : l[k] ∈ l := List.getElem_mem hlt
      have HK2 : Hid (l[k].key ≠ key → ∀ j (hj : j < l.length), j < k + 1 → l[j].key ≠ key) := hide (fun h j hj hjk => by
        rcases Nat.lt_or_eq_of_le (Nat.le_of_lt_succ hjk) with h' | h'
        · exact HK.out j hj h'
        · subst h'; exact h)
      have HM := hide hm
      clear hm
      generalize l[k] = x at E N HK2 HM
      have HN := hide N; have HT := hide T
      clear N T S2 HK
      obtain ⟨xk, ⟨vk, vt, vc, ps, is_, ss⟩, xt⟩ := x
      obtain ⟨c0, c1_, c2_, c3_, c4_, c5_, c6_, c7_⟩ := E
      simp only at c0 c1_ c2_ c3_ c7_ HK2
      by_cases he : xk = key
      · subst he
        obtain ⟨Z9, gr9⟩ := whole_entry (.string xk) (.int .i64 vk) (.string vt) (.int .i64 vc) (.slice A1 n1 c1) (.slice A2 n2 c2) (.slice A3 n3 c3) (.int .i64 xt) Z
        have q9 := below_grow hbr gr9 hbr.size (by omega)
        have f9 := Fr.grown Z gr9
        have HP := hide (show EntryPost l xk w (.returned (.tuple #[.agg #[.string xk, .int .i64 vk, .string vt, .int .i64 vc, .slice A1 n1 c1, .slice A2 n2 c2, .slice A3 n3 c3, .int .i64 xt], .bool true])) _ from ⟨.inl ⟨⟨xk, ⟨vk, vt, vc, ps, is_, ss⟩, xt⟩, HM.out, rfl, A1, n1, c1, A2, n2, c2, A3, n3, c3, rfl, HN.out.fr HT.out f9, HT.out.fr f9⟩, q9⟩)
        have cZ9 := hide Z9.cell
        clear gr9 q9 f9 Z9
        go_wp2_with fail
        have cZ9 := cZ9.out
        refine bodyPost_ret (v := .tuple #[.agg #[.string xk, .int .i64 vk, .string vt, .int .i64 vc, .slice A1 n1 c1, .slice A2 n2 c2, .slice A3 n3 c3, .int .i64 xt], .bool true]) ?_ rfl HP.out
        simp [results, Try.results28, go_sem, cZ9]
      · have heq : (xk.toList == key.toList) = false := by rw [beq_eq_false_iff_ne]; exact fun h => he (bytes_ext (by rwa [Lib.toList_data, Lib.toList_data] at h))
        go_wp2_with fail
        go_roundw
        case rel => exact ⟨k + 1, by omega, by go_num, X, Z, hide (HK2.out he), hbr⟩
        case measure => simp [intOf]; omega
    · obtain rfl : k = l.length := by omega
      obtain ⟨Z9, gr9⟩ := whole_entry (.string { data := #[] }) (.int .i64 0) (.string { data := #[] }) (.int .i64 0) (.slice none 0 0) (.slice none 0 0) (.slice none 0 0) (.int .i64 0) Z
      have q9 := below_grow hbr gr9 hbr.size (by omega)
      have HP := hide (show EntryPost l key w (.returned (.tuple #[.agg #[.string { data := #[] }, .int .i64 0, .string { data := #[] }, .int .i64 0, .slice none 0 0, .slice none 0 0, .slice none 0 0, .int .i64 0], .bool false])) _ from ⟨.inr ⟨fun x hx => by
        obtain ⟨j, hj, rfl⟩ := List.mem_iff_getElem.1 hx
        exact HK.out j hj hj, rfl⟩, q9⟩)
      have cZ9 := hide Z9.cell
      clear gr9 q9 Z9
      go_wp2_with fail
      have cZ9 := cZ9.out
      refine bodyPost_ret (v := .tuple #[.agg #[.string { data := #[] }, .int .i64 0, .string { data := #[] }, .int .i64 0, .slice none 0 0, .slice none 0 0, .slice none 0 0, .int .i64 0], .bool false]) ?_ rfl HP.out
      simp [results, Try.results28, go_sem, cZ9]
end Go.Proofs.Ytpdadlofgfdlpaa
