/- crew.Run at acts that are refused. -/
import Derived.Test.YtgdcofbnbiclmaaGreatDoorTopB
namespace Go.Proofs.YtgdcofbnbiclmaaGreatDoor
set_option linter.all false
open Go.RowKit
structure ActAt (w : World) (b o : Nat) (x : ActD) : Prop where
  c0 : w.cell? ⟨b, o, none⟩ = some (.int .i64 x.kind)
  c1 : w.cell? ⟨b, o + 1, none⟩ = some (.int .i64 x.node)
  c2 : w.cell? ⟨b, o + 2, none⟩ = some (.int .i64 x.pick)
  c3 : w.cell? ⟨b, o + 3, none⟩ = some (.int .i64 x.client)
  c4 : w.cell? ⟨b, o + 4, none⟩ = some (.int .i64 x.seq)
  c5 : w.cell? ⟨b, o + 5, none⟩ = some (.int .i64 x.cmd.kind)
  c6 : w.cell? ⟨b, o + 6, none⟩ = some (.string x.cmd.key)
  c7 : w.cell? ⟨b, o + 7, none⟩ = some (.string x.cmd.field)
  c8 : w.cell? ⟨b, o + 8, none⟩ = some (.string x.cmd.text)
  c9 : w.cell? ⟨b, o + 9, none⟩ = some (.int .i64 x.cmd.n)
theorem Sl.act {w : World} {A : Option Addr} {n c : Nat} {l : List ActD} (h : Sl w 10 A n c (actRows l)) {k : Nat} (hk : k < l.length) :
    ∃ b off, A = some ⟨b, off, none⟩ ∧ b < w.heap.size ∧ ActAt w b (off + k * 10) l[k] := by
  obtain ⟨b, off, e, hb, hc⟩ := h.seg.at_ (i := k) (by simpa [actRows] using hk)
  have hc' : ∀ j u, l[k].cells[j]? = some u → w.cell? ⟨b, off + k * 10 + j, none⟩ = some u := by
    intro j u hu
    rw [Nat.add_assoc]
    exact hc j u (by simpa [actRows] using hu)
  exact ⟨b, off, e, hb, hc' 0 _ rfl, hc' 1 _ rfl, hc' 2 _ rfl, hc' 3 _ rfl, hc' 4 _ rfl, hc' 5 _ rfl, hc' 6 _ rfl, hc' 7 _ rfl, hc' 8 _ rfl, hc' 9 _ rfl⟩
theorem act_len {w : World} {A : Option Addr} {n c : Nat} {l : List ActD} (h : Sl w 10 A n c (actRows l)) : l.length = n := by have := h.len; simpa [actRows] using this
/-- What crew.Run tells of acts that it refuses. -/
def refusedV (k : Int) : Value := .tuple #[.agg #[.slice none 0 0, .slice none 0 0, .slice none 0 0, .int .i64 0], .int .i64 k]
set_option maxRecDepth 100000 in
set_option maxHeartbeats 4000000 in
theorem Run_size (A : Option Addr) (n c : Nat) (w : World) (h : 3000 < n) (hn : n ≤ 1000000) :
    Calls Tryz.prog 33 #[.slice A n c] w fun e w' => e = .returned (refusedV 1) ∧ Below w.heap.size w w' := by
  have h1 : (3000 : Int) < (n : Int) := by omega
  go_enter Tryz.func33, Tryz.ntmps33
  go_wp2_with fail
  refine bodyPost_ret (v := refusedV 1) ?_ rfl ⟨rfl, below_by⟩
  simp [results, Tryz.results33, go_sem, refusedV]
theorem bad_step {l : List ActD} {k : Nat} {b : Int} (hk : k < l.length) (h : Hid (firstBad (l.drop k) = b)) (h0 : checkAct l[k] = 0) : Hid (firstBad (l.drop (k + 1)) = b) := by
  have := h
  unfold Hid at this ⊢
  rw [List.drop_eq_getElem_cons hk] at this
  unfold firstBad at this
  rwa [if_pos h0] at this
theorem bad_here {l : List ActD} {k : Nat} {b : Int} (hk : k < l.length) (h : Hid (firstBad (l.drop k) = b)) (h0 : checkAct l[k] ≠ 0) : checkAct l[k] = b := by
  have := h
  unfold Hid at this
  rw [List.drop_eq_getElem_cons hk] at this
  unfold firstBad at this
  rwa [if_neg h0] at this
theorem bad_end {l : List ActD} {k : Nat} {b : Int} (hk : l.length ≤ k) (h : Hid (firstBad (l.drop k) = b)) : b = 0 := by
  have := h
  unfold Hid at this
  rw [List.drop_eq_nil_of_le hk] at this
  exact this.symm
set_option maxRecDepth 100000 in
set_option maxHeartbeats 4000000 in
theorem Run_bad (l : List ActD) (A : Option Addr) (n c : Nat) (w : World) (hS : Sl w 10 A n c (actRows l)) (h3 : n ≤ 3000) (b : Int) (hb : firstBad l = b) (hb0 : b ≠ 0) :
    Calls Tryz.prog 33 #[.slice A n c] w fun e w' => e = .returned (refusedV b) ∧ Below w.heap.size w w' := by
  have hn := act_len hS
  subst hn
  have h1 : ¬ ((3000 : Int) < (l.length : Int)) := by omega
  have HB := hide (show firstBad (l.drop 0) = b from hb)
  have HB0 := hide hb0
  clear hb hb0
  have O0 := Blk.new w 32 #[.slice none 0 0, .slice none 0 0, .slice none 0 0, .int .i64 0]
  have q0 : Below w.heap.size w (w.alloc (.cells #[.slice none 0 0, .slice none 0 0, .slice none 0 0, .int .i64 0] 32)) := below_by
  go_enter Tryz.func33, Tryz.ntmps33
  go_wp2_with fail
  go_loopw [23] (fun s23 wr => ∃ k : Nat, k ≤ l.length ∧ s23 = .int .i64 k ∧ Hid (firstBad (l.drop k) = b) ∧ Below (w.alloc (.cells #[.slice none 0 0, .slice none 0 0, .slice none 0 0, .int .i64 0] 32)).heap.size (w.alloc (.cells #[.slice none 0 0, .slice none 0 0, .slice none 0 0, .int .i64 0] 32)) wr)
    (fun s23 _ => l.length - (intOf s23).toNat)
  case atStart => exact ⟨0, by omega, rfl, HB, Below.refl _ _⟩
  case round =>
    obtain ⟨k, hk, rfl, HK, hbr⟩ := hrel
    have hbs := hbr.size
    by_cases hlt : k < l.length
    · have qr := bstep q0 hbr
      obtain ⟨bb, off, rfl, hbb, ⟨i0, i1, i2, i3, i4, i5, i6, i7, i8, i9⟩⟩ := (hS.below qr).act hlt
      have HC := hide (fun w => ActCheck_any l[k] w)
      have HS := hide (bad_step hlt HK)
      have HH := hide (bad_here hlt HK)
      clear HK
      generalize l[k] = x at i0 i1 i2 i3 i4 i5 i6 i7 i8 i9 HC HS HH
      generalize checkAct x = cx at HC HS HH
      obtain ⟨xk, xn, xp, xc, xs, ⟨ck, cy, cf, ct, cn⟩⟩ := x
      have ik : (k : Int) < (l.length : Int) := by omega
      replace O0 := O0.below' hbr
      go_wp2_with fail
      refine (HC.out _).mono ?_
      rintro e w1 ⟨rfl, hb1⟩
      by_cases hcx : cx = 0
      · subst hcx
        have HS' := HS.out rfl
        clear HS HH HC
        go_wp2_with fail
        go_roundw
        case rel => exact ⟨k + 1, by omega, by go_num, HS', below_by⟩
        case measure => simp [intOf]; omega
      · obtain rfl := HH.out hcx
        clear HS HH HC
        have hcx' : (cx == 0) = false := by simpa using hcx
        have O1 := (O0.alloc _).below' hb1
        have q1 := bstep (balloc qr _) hb1
        clear O0 hb1 qr q0 hbr
        (try clear cO1 fO1); have cO1 := O1.cell; have fO1 := O1.frozen
        go_wp2_with fail
        refine bodyPost_ret (v := refusedV cx) ?_ rfl ⟨rfl, below_by⟩
        simp [results, Tryz.results33, go_sem, refusedV, *]
    · exact absurd (bad_end (by omega) HK) HB0.out
end Go.Proofs.YtgdcofbnbiclmaaGreatDoor
