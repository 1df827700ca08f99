/- wire.DecodeItem. -/
import Derived.Test.YtaldmianlmgloabRead3
namespace Go.Proofs.Ytaldmianlmgloab
set_option linter.all false
open Go.RowKit Go.Lib
def zeroItm : Itm := ⟨0, 0, false, 0, 0, zeroCmd⟩
def DecV (x : Itm) (e : Int) : Value := .tuple #[.agg #[.int .i64 x.term, .int .i64 x.time, .bool x.nop, .int .i64 x.client, .int .i64 x.seq, .int .i64 x.cmd.kind, .string x.cmd.key, .string x.cmd.field, .string x.cmd.text, .int .i64 x.cmd.n], .int .i64 e]
def decodeOf (l : List Value) : Itm × Int :=
  if endOf (itemRd (l, false)).1.2 (itemRd (l, false)).2 ≠ 0 then (zeroItm, endOf (itemRd (l, false)).1.2 (itemRd (l, false)).2)
  else if checkItem (itemRd (l, false)).1.1 ≠ 0 then (zeroItm, checkItem (itemRd (l, false)).1.1) else ((itemRd (l, false)).1.1, 0)
def DecPost (r : Itm × Int) (w : World) (e : Ending) (w' : World) : Prop := e = .returned (DecV r.1 r.2) ∧ Below w.heap.size w w'
set_option maxHeartbeats 2000000 in
theorem DecodeItem_any (A : Option Addr) (n c : Nat) (l : List Value) (w : World) (hS : Sl w 1 A n c (byteRows l)) (hu : U8s l) (hl : l.length ≤ 20000) :
    Calls Try.prog 25 #[.slice A n c] w (DecPost (decodeOf l) w) := by
  have hm : l.length = n := by rw [← hS.len, byteRows_length]
  subst hm
  unfold decodeOf
  have H1 := fun w' h => ritem_any w (w.heap.size + 1) (l, false) w' h
  generalize itemRd (l, false) = R at H1
  obtain ⟨⟨x, ok⟩, st⟩ := R
  have H2 := fun w' h => rend_any w (w.heap.size + 1) st ok w' h
  simp only at H1 ⊢
  generalize endOf ok st = en at H2
  have K1 := hide H1; have K2 := hide H2
  clear H1 H2
  have h0 : Rd w ((w.alloc (.cells #[.int .i64 0, .int .i64 0, .bool false, .int .i64 0, .int .i64 0, .int .i64 0, .string emp, .string emp, .string emp, .int .i64 0] 29)).alloc (.cells #[.slice A l.length c, .bool false] 86)) (w.heap.size + 1) (l, false) :=
    ⟨⟨A, l.length, c, Blk.new' _ _ _ (by simp), hS⟩, (by repeat (first | (with_reducible exact Below.refl _ _) | (with_reducible assumption) | (with_reducible refine Below.drew ?_) | (with_reducible refine bdrewN ?_ _) | (with_reducible refine balloc ?_ _) | ((with_reducible refine bset ?_ ?_ _); rotate_left; (focus first | exact Nat.le_refl _ | (simp; done) | (simp; omega) | omega)) | (with_reducible refine bstep ?_ (by with_reducible assumption)) | (with_reducible refine Below.trans ?_ (by with_reducible assumption)))), by omega, hu⟩
  have R : Box ((w.alloc (.cells #[.int .i64 0, .int .i64 0, .bool false, .int .i64 0, .int .i64 0, .int .i64 0, .string emp, .string emp, .string emp, .int .i64 0] 29)).alloc (.cells #[.slice A l.length c, .bool false] 86)) w.heap.size 29 #[.int .i64 0, .int .i64 0, .bool false, .int .i64 0, .int .i64 0, .int .i64 0, .string emp, .string emp, .string emp, .int .i64 0] (w.heap.size + 1) Nil :=
    ⟨(Blk.new _ _ _).alloc _, by omega, by simp [Nil, Value.ownBlock]⟩
  have a0 : Below w.heap.size w ((w.alloc (.cells #[.int .i64 0, .int .i64 0, .bool false, .int .i64 0, .int .i64 0, .int .i64 0, .string emp, .string emp, .string emp, .int .i64 0] 29)).alloc (.cells #[.slice A l.length c, .bool false] 86)) := (by repeat (first | (with_reducible exact Below.refl _ _) | (with_reducible assumption) | (with_reducible refine Below.drew ?_) | (with_reducible refine bdrewN ?_ _) | (with_reducible refine balloc ?_ _) | ((with_reducible refine bset ?_ ?_ _); rotate_left; (focus first | exact Nat.le_refl _ | (simp; done) | (simp; omega) | omega)) | (with_reducible refine bstep ?_ (by with_reducible assumption)) | (with_reducible refine Below.trans ?_ (by with_reducible assumption))))
  by_cases he : en = 0
  · rw [if_neg (by simpa using he)]
    subst he
    have hC := fun w => CheckItem_any x w
    by_cases hx : checkItem x = 0
    · rw [if_neg (by simpa using hx)]
      rw [hx] at hC
      have HC := hide hC; clear hC hx
      go_enter Try.func25, Try.ntmps25
      go_wp2_with fail
      refine (K1.out _ h0).mono ?_
      rintro e w1 ⟨rfl, h1, p1⟩
      unfold ItemV
      replace R := R.wr p1
      have hz1 : w.heap.size < w1.heap.size := R.blk.lt
      have X1 := Blk.new w1 29 #[.int .i64 x.term, .int .i64 x.time, .bool x.nop, .int .i64 x.client, .int .i64 x.seq, .int .i64 x.cmd.kind, .string x.cmd.key, .string x.cmd.field, .string x.cmd.text, .int .i64 x.cmd.n]
      have hb1 : Below w.heap.size w w1 := a0.trans (p1.below (by omega) (by simp [Nil, Value.ownBlock]) (by simp; omega))
      replace R := R.al (.cells #[.int .i64 x.term, .int .i64 x.time, .bool x.nop, .int .i64 x.client, .int .i64 x.seq, .int .i64 x.cmd.kind, .string x.cmd.key, .string x.cmd.field, .string x.cmd.text, .int .i64 x.cmd.n] 29)
      go_wp2_with fail
      refine (K2.out _ (h1.alloc _)).mono ?_
      rintro e w' ⟨rfl, rfl⟩
      have cX1 := X1.cell
      go_wp2_with fail
      refine (HC.out _).mono ?_
      rintro e w2 ⟨rfl, hb2⟩
      replace R := R.below hb2
      have X2 := X1.below' hb2
      clear cX1
      (try clear cR fR); have cR := R.cell; have fR := R.frozen; (try clear cX2 fX2); have cX2 := X2.cell; have fX2 := X2.frozen
      have hz3 : w.heap.size < w2.heap.size := R.blk.lt
      have hb3 : Below w.heap.size w (w1.alloc (.cells #[.int .i64 x.term, .int .i64 x.time, .bool x.nop, .int .i64 x.client, .int .i64 x.seq, .int .i64 x.cmd.kind, .string x.cmd.key, .string x.cmd.field, .string x.cmd.text, .int .i64 x.cmd.n] 29)) := (by repeat (first | (with_reducible exact Below.refl _ _) | (with_reducible assumption) | (with_reducible refine Below.drew ?_) | (with_reducible refine bdrewN ?_ _) | (with_reducible refine balloc ?_ _) | ((with_reducible refine bset ?_ ?_ _); rotate_left; (focus first | exact Nat.le_refl _ | (simp; done) | (simp; omega) | omega)) | (with_reducible refine bstep ?_ (by with_reducible assumption)) | (with_reducible refine Below.trans ?_ (by with_reducible assumption))))
      have hb4 := bstep hb3 hb2
      have hz2 : w1.heap.size < w2.heap.size := X2.lt
      go_wp2_with fail
      refine bodyPost_ret (v := DecV x 0) ?_ rfl ⟨rfl, (by repeat (first | (with_reducible exact Below.refl _ _) | (with_reducible assumption) | (with_reducible refine Below.drew ?_) | (with_reducible refine bdrewN ?_ _) | (with_reducible refine balloc ?_ _) | ((with_reducible refine bset ?_ ?_ _); rotate_left; (focus first | exact Nat.le_refl _ | (simp; done) | (simp; omega) | omega)) | (with_reducible refine bstep ?_ (by with_reducible assumption)) | (with_reducible refine Below.trans ?_ (by with_reducible assumption))))⟩
      simp [results, Try.results25, go_sem, DecV, *]
    · rw [if_pos hx]
      generalize checkItem x = k at hx hC
      have hk : (k == 0) = false := by simpa using hx
      have HC := hide hC; clear hC hx
      go_enter Try.func25, Try.ntmps25
      go_wp2_with fail
      refine (K1.out _ h0).mono ?_
      rintro e w1 ⟨rfl, h1, p1⟩
      unfold ItemV
      replace R := R.wr p1
      have hz1 : w.heap.size < w1.heap.size := R.blk.lt
      have X1 := Blk.new w1 29 #[.int .i64 x.term, .int .i64 x.time, .bool x.nop, .int .i64 x.client, .int .i64 x.seq, .int .i64 x.cmd.kind, .string x.cmd.key, .string x.cmd.field, .string x.cmd.text, .int .i64 x.cmd.n]
      have hb1 : Below w.heap.size w w1 := a0.trans (p1.below (by omega) (by simp [Nil, Value.ownBlock]) (by simp; omega))
      replace R := R.al (.cells #[.int .i64 x.term, .int .i64 x.time, .bool x.nop, .int .i64 x.client, .int .i64 x.seq, .int .i64 x.cmd.kind, .string x.cmd.key, .string x.cmd.field, .string x.cmd.text, .int .i64 x.cmd.n] 29)
      go_wp2_with fail
      refine (K2.out _ (h1.alloc _)).mono ?_
      rintro e w' ⟨rfl, rfl⟩
      have cX1 := X1.cell
      go_wp2_with fail
      refine (HC.out _).mono ?_
      rintro e w2 ⟨rfl, hb2⟩
      replace R := R.below hb2
      have X2 := X1.below' hb2
      clear cX1
      (try clear cR fR); have cR := R.cell; have fR := R.frozen; (try clear cX2 fX2); have cX2 := X2.cell; have fX2 := X2.frozen
      have hz3 : w.heap.size < w2.heap.size := R.blk.lt
      have hb3 : Below w.heap.size w (w1.alloc (.cells #[.int .i64 x.term, .int .i64 x.time, .bool x.nop, .int .i64 x.client, .int .i64 x.seq, .int .i64 x.cmd.kind, .string x.cmd.key, .string x.cmd.field, .string x.cmd.text, .int .i64 x.cmd.n] 29)) := (by repeat (first | (with_reducible exact Below.refl _ _) | (with_reducible assumption) | (with_reducible refine Below.drew ?_) | (with_reducible refine bdrewN ?_ _) | (with_reducible refine balloc ?_ _) | ((with_reducible refine bset ?_ ?_ _); rotate_left; (focus first | exact Nat.le_refl _ | (simp; done) | (simp; omega) | omega)) | (with_reducible refine bstep ?_ (by with_reducible assumption)) | (with_reducible refine Below.trans ?_ (by with_reducible assumption))))
      have hb4 := bstep hb3 hb2
      go_wp2_with fail
      refine bodyPost_ret (v := DecV zeroItm k) ?_ rfl ⟨rfl, (by repeat (first | (with_reducible exact Below.refl _ _) | (with_reducible assumption) | (with_reducible refine Below.drew ?_) | (with_reducible refine bdrewN ?_ _) | (with_reducible refine balloc ?_ _) | ((with_reducible refine bset ?_ ?_ _); rotate_left; (focus first | exact Nat.le_refl _ | (simp; done) | (simp; omega) | omega)) | (with_reducible refine bstep ?_ (by with_reducible assumption)) | (with_reducible refine Below.trans ?_ (by with_reducible assumption))))⟩
      simp [results, Try.results25, go_sem, DecV, zeroItm, zeroCmd, emp, *]
  · rw [if_pos he]
    have hk : (en == 0) = false := by simpa using he
    go_enter Try.func25, Try.ntmps25
    go_wp2_with fail
    refine (K1.out _ h0).mono ?_
    rintro e w1 ⟨rfl, h1, p1⟩
    unfold ItemV
    replace R := R.wr p1
    have cR1 := R.cell
    have fR1 := R.frozen
    have hz1 : w.heap.size < w1.heap.size := R.blk.lt
    go_wp2_with fail
    refine (K2.out _ (h1.alloc _)).mono ?_
    rintro e w' ⟨rfl, rfl⟩
    have hb1 : Below w.heap.size w w1 := a0.trans (p1.below (by omega) (by simp [Nil, Value.ownBlock]) (by simp; omega))
    go_wp2_with fail
    refine bodyPost_ret (v := DecV zeroItm en) ?_ rfl ⟨rfl, (by repeat (first | (with_reducible exact Below.refl _ _) | (with_reducible assumption) | (with_reducible refine Below.drew ?_) | (with_reducible refine bdrewN ?_ _) | (with_reducible refine balloc ?_ _) | ((with_reducible refine bset ?_ ?_ _); rotate_left; (focus first | exact Nat.le_refl _ | (simp; done) | (simp; omega) | omega)) | (with_reducible refine bstep ?_ (by with_reducible assumption)) | (with_reducible refine Below.trans ?_ (by with_reducible assumption))))⟩
    simp [results, Try.results25, go_sem, DecV, zeroItm, zeroCmd, emp, *]
set_option maxHeartbeats 2000000 in
theorem DecodeItem_long (A : Option Addr) (n c : Nat) (w : World) (hl : 20000 < n) (hn : n ≤ 9223372036854775807) :
    Calls Try.prog 25 #[.slice A n c] w (DecPost (zeroItm, 1) w) := by
  go_enter Try.func25, Try.ntmps25
  go_wp2_with fail
  refine bodyPost_ret (v := DecV zeroItm 1) ?_ rfl ⟨rfl, (by repeat (first | (with_reducible exact Below.refl _ _) | (with_reducible assumption) | (with_reducible refine Below.drew ?_) | (with_reducible refine bdrewN ?_ _) | (with_reducible refine balloc ?_ _) | ((with_reducible refine bset ?_ ?_ _); rotate_left; (focus first | exact Nat.le_refl _ | (simp; done) | (simp; omega) | omega)) | (with_reducible refine bstep ?_ (by with_reducible assumption)) | (with_reducible refine Below.trans ?_ (by with_reducible assumption))))⟩
  simp [results, Try.results25, go_sem, DecV, zeroItm, zeroCmd, emp, *]
end Go.Proofs.Ytaldmianlmgloab
