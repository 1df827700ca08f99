/- value.all: all elements, as texts. -/
import Derived.Test.YtpdadlofgfdlpaaHold
namespace Go.Proofs.Ytpdadlofgfdlpaa
set_option linter.all false
open Go.RowKit
def allOf (v : Va) : List ByteArray := v.items ++ v.pairs.map (·.field) ++ v.scores.map (·.member)
theorem strRows_snoc (l : List ByteArray) (s : ByteArray) : strRows (l ++ [s]) = strRows l ++ [(#[Value.string s] : Array Value).toList] := by simp [strRows]
theorem map_step {α : Type} {f : α → ByteArray} {l : List α} {base done : List ByteArray} {k : Nat} (h : k < l.length) (hd : Hid (base ++ l.map f = done ++ (l.drop k).map f)) : Hid (base ++ l.map f = (done ++ [f l[k]]) ++ (l.drop (k + 1)).map f) := by
  show _ = _
  rw [hd.out, List.drop_eq_getElem_cons h, List.map_cons, List.append_assoc]
  rfl
theorem map_end {α : Type} {f : α → ByteArray} {l : List α} {base done : List ByteArray} (hd : Hid (base ++ l.map f = done ++ (l.drop l.length).map f)) : base ++ l.map f = done := by
  have := hd.out
  simpa using this
def AllPost (l : List ByteArray) (w : World) (e : Ending) (w' : World) : Prop :=
  ∃ A n c, e = .returned (.slice A n c) ∧ Own w' w.heap.size 9 1 (.slice A n c) (strRows l) ∧ Below w.heap.size w w'
set_option maxHeartbeats 4000000 in
theorem all_any (v : Va) (A1 A2 A3 : Option Addr) (n1 c1 n2 c2 n3 c3 : Nat) (w : World) (h : VSl w v A1 n1 c1 A2 n2 c2 A3 n3 c3) (l1 : n1 ≤ 1024) (l2 : n2 ≤ 1024) (l3 : n3 ≤ 1024) :
    Calls Try.prog 86 #[.agg #[.int .i64 v.kind, .string v.text, .int .i64 v.count, .slice A1 n1 c1, .slice A2 n2 c2, .slice A3 n3 c3]] w (AllPost (allOf v) w) := by
  obtain ⟨kind, text, count, ps, is_, ss⟩ := v
  simp only
  have e1 := h.n1_; have e2 := h.n2_; have e3 := h.n3_
  simp only at e1 e2 e3
  have hal : allOf ⟨kind, text, count, ps, is_, ss⟩ = is_ ++ ps.map (·.field) ++ ss.map (·.member) := rfl
  obtain ⟨R, hR⟩ : ∃ R, R = allOf ⟨kind, text, count, ps, is_, ss⟩ := ⟨_, rfl⟩
  rw [← hR]
  rw [hal] at hR
  have HR := hide hR
  clear hR hal
  have hp := h.p; have hi := h.i; have hs := h.s
  clear h
  subst e1; subst e3
  have E2 := hide e2
  clear e2
  have hB : Blk (w.alloc (.cells #[.int .i64 kind, .string text, .int .i64 count, .slice A1 ps.length c1, .slice A2 n2 c2, .slice A3 ss.length c3] 40)) w.heap.size 40 #[.int .i64 kind, .string text, .int .i64 count, .slice A1 ps.length c1, .slice A2 n2 c2, .slice A3 ss.length c3] := Blk.new _ _ _
  go_enter Try.func86, Try.ntmps86
  go_wp2_with fail
  ((with_reducible refine (Clone_text _ _ _ _ _ (hi.alloc _) (str_one _) (by omega)).mono ?_); rintro e w1 ⟨s1, rfl, o1, b1⟩)
  have B1 := hB.below' b1
  have q1 : Below w.heap.size w w1 := bstep (by repeat (first | (with_reducible exact Below.refl _ _) | (with_reducible assumption) | (with_reducible refine Below.drew ?_) | (with_reducible refine bdrewN ?_ _) | (with_reducible refine balloc ?_ _) | ((with_reducible refine bset ?_ ?_ _); rotate_left; (focus first | exact Nat.le_refl _ | (simp; done) | (simp; omega) | omega)) | (with_reducible refine bstep ?_ (by with_reducible assumption)) | (with_reducible refine Below.trans ?_ (by with_reducible assumption)))) b1
  replace o1 := o1.mono (base' := w.heap.size + 1) (by simp)
  (try clear cB1 fB1); have cB1 := B1.cell; have fB1 := B1.frozen
  go_wp2_with fail
  go_loopw [3, 14] (fun s t wr => ∃ (k : Nat) (done : List ByteArray), k ≤ ps.length ∧ t = .int .i64 k ∧ Own wr (w.heap.size + 1) 9 1 s (strRows done) ∧ Hid (is_ ++ ps.map (·.field) = done ++ (ps.drop k).map (·.field)) ∧ Hid (done.length = n2 + k) ∧
    Blk wr w.heap.size 40 #[.int .i64 kind, .string text, .int .i64 count, .slice A1 ps.length c1, .slice A2 n2 c2, .slice A3 ss.length c3] ∧ Below w.heap.size w wr) (fun _ t _ => ps.length - (intOf t).toNat)
  case atStart => exact ⟨0, is_, by omega, rfl, o1, rfl, E2.out, B1, q1⟩
  case round =>
    clear cB1 fB1 B1 q1 o1 b1
    obtain ⟨k, done, hk, rfl, hown, HQ, HL, BR, qr⟩ := hrel
    have hbs := qr.size
    by_cases hlt : k < ps.length
    · obtain ⟨b, off, rfl, hbb, p0, p1⟩ := (hp.below qr).seg.pair hlt
      have HQ' := map_step hlt HQ
      generalize ps[k] = y at p0 p1 HQ'
      have hz1 : (0 : Int) ≤ k := by omega
      have hz2 : (k : Int) < ps.length := by omega
      go_wp2_with (at_builtin; refine wpList_push rfl _ _ _ rfl Try.underlying37 text_info rfl (by decide) (by rfl) (hown.alloc _) (H := wr.heap.size + 1) (by simp) (by rfl) (row := #[.string y.field]) rfl (by intro u hu; simp at hu; subst hu; rfl) ?_ ?_ ?_ ?_)
      · simp only [strRows, List.length_map, HL.out]; unfold maxLen; omega
      · simp only [strRows, List.length_map, HL.out]; omega
      · intro v' w2 hown2 hb2 hz3
        have hown3 : Own w2 (w.heap.size + 1) 9 1 v' (strRows (done ++ [y.field])) := by rw [strRows_snoc]; exact hown2
        have HL' : Hid ((done ++ [y.field]).length = n2 + (k + 1)) := by show _ = _; rw [List.length_append, HL.out]; simp; omega
        have BR2 := (BR.alloc (.cells #[.string y.field, .string y.text] 114)).below hb2 (Nat.lt_succ_self _)
        have qr2 : Below w.heap.size w w2 := (qr.alloc hbs (.cells #[.string y.field, .string y.text] 114)).trans (hb2.mono (Nat.le_succ _))
        go_wp2_with fail
        go_roundw
        case rel => exact ⟨k + 1, _, by omega, by go_num, hown3, HQ', HL', BR2, qr2⟩
        case measure => simp [intOf]; omega
    · obtain rfl : k = ps.length := by omega
      have HE := hide (map_end HQ)
      clear HQ
      have hzr : w.heap.size < wr.heap.size := BR.lt
      (try clear cBR fBR); have cBR := BR.cell; have fBR := BR.frozen
      go_wp2_with fail
      go_loopw [3, 27] (fun s t wr => ∃ (k : Nat) (done : List ByteArray), k ≤ ss.length ∧ t = .int .i64 k ∧ Own wr (w.heap.size + 1) 9 1 s (strRows done) ∧ Hid ((is_ ++ ps.map (·.field)) ++ ss.map (·.member) = done ++ (ss.drop k).map (·.member)) ∧ Hid (done.length = n2 + ps.length + k) ∧
        Blk wr w.heap.size 40 #[.int .i64 kind, .string text, .int .i64 count, .slice A1 ps.length c1, .slice A2 n2 c2, .slice A3 ss.length c3] ∧ Below w.heap.size w wr) (fun _ t _ => ss.length - (intOf t).toNat)
      case atStart => exact ⟨0, done, by omega, rfl, hown, by show _ = _; rw [HE.out]; rfl, HL.out, BR, qr⟩
      case round =>
        clear cBR fBR BR qr hown hbs hzr HE HL
        obtain ⟨k, done, hk, rfl, hown, HQ, HL, BR, qr⟩ := hrel
        have hbs := qr.size
        by_cases hlt : k < ss.length
        · obtain ⟨b, off, rfl, hbb, p0, p1⟩ := (hs.below qr).seg.score hlt
          have HQ' := map_step hlt HQ
          generalize ss[k] = y at p0 p1 HQ'
          have hz1 : (0 : Int) ≤ k := by omega
          have hz2 : (k : Int) < ss.length := by omega
          go_wp2_with (at_builtin; refine wpList_push rfl _ _ _ rfl Try.underlying37 text_info rfl (by decide) (by rfl) (hown.alloc _) (H := wr.heap.size + 1) (by simp) (by rfl) (row := #[.string y.member]) rfl (by intro u hu; simp at hu; subst hu; rfl) ?_ ?_ ?_ ?_)
          · simp only [strRows, List.length_map, HL.out]; unfold maxLen; omega
          · simp only [strRows, List.length_map, HL.out]; omega
          · intro v' w2 hown2 hb2 hz3
            have hown3 : Own w2 (w.heap.size + 1) 9 1 v' (strRows (done ++ [y.member])) := by rw [strRows_snoc]; exact hown2
            have HL' : Hid ((done ++ [y.member]).length = n2 + ps.length + (k + 1)) := by show _ = _; rw [List.length_append, HL.out]; simp; omega
            have BR2 := (BR.alloc (.cells #[.string y.member, .int .i64 y.n] 116)).below hb2 (Nat.lt_succ_self _)
            have qr2 : Below w.heap.size w w2 := (qr.alloc hbs (.cells #[.string y.member, .int .i64 y.n] 116)).trans (hb2.mono (Nat.le_succ _))
            go_wp2_with fail
            go_roundw
            case rel => exact ⟨k + 1, _, by omega, by go_num, hown3, HQ', HL', BR2, qr2⟩
            case measure => simp [intOf]; omega
        · obtain rfl : k = ss.length := by omega
          have HE := hide (map_end HQ)
          clear HQ
          obtain ⟨A', n', c', rfl⟩ := own_slice hown
          go_wp2_with fail
          go_ret
          exact ⟨_, _, _, rfl, by rw [HR.out, HE.out]; exact hown.mono (Nat.le_succ _), qr⟩
end Go.Proofs.Ytpdadlofgfdlpaa
