/- value.byScore; value.rising at scores. -/
import Derived.Test.YtpdadlofgfdlpaaRise
import Derived.Test.YtpdadlofgfdlpaaOr
import Derived.Test.YtpdadlofgfdlpaaOrd
namespace Go.Proofs.Ytpdadlofgfdlpaa
set_option linter.all false
open Go.RowKit
set_option maxHeartbeats 2000000 in
theorem byScore_ (a b : Sc) (w : World) :
    Calls Try.prog 78 #[.agg #[.string a.member, .int .i64 a.n], .agg #[.string b.member, .int .i64 b.n]] w fun e w' => e = .returned (.int .i64 (cmpS a b)) ∧ Below w.heap.size w w' := by
  unfold cmpS
  obtain ⟨am, an⟩ := a
  obtain ⟨bm, bn⟩ := b
  simp only
  have H1 := fun w => Compare_int an bn w
  have H2 := fun w => Compare_str am bm w
  generalize cmpI an bn = x at *
  generalize cmpB am bm = y at *
  have H3 := fun g w h0 h1 => Or_int2 g x y w h0 h1
  generalize (if x ≠ 0 then x else y) = z at *
  have K1 := hide H1; have K2 := hide H2; have K3 := hide H3
  clear H1 H2 H3
  go_enter Try.func78, Try.ntmps78
  go_wp2_with fail
  go_region_held3 (fun w' => w'.cell? ⟨w.heap.size, 0, none⟩ = some (.string am) ∧ w'.cell? ⟨w.heap.size, 1, none⟩ = some (.int .i64 an) ∧ w'.cell? ⟨w.heap.size + 1, 0, none⟩ = some (.string bm) ∧ w'.cell? ⟨w.heap.size + 1, 1, none⟩ = some (.int .i64 bn)) (simp [go_sem, World.cell?_alloc_past, *])
    (first | ((go_at_call 101; with_reducible refine (K1.out _).mono ?_); rintro e w' ⟨rfl, rfl⟩) | ((go_at_call 80; with_reducible refine (K2.out _).mono ?_); rintro e w' ⟨rfl, rfl⟩) | ((go_at_call 100; with_reducible refine (K3.out _ _ ?_ ?_).mono ?_); (focus (simp [go_sem]; done)); (focus (simp [go_sem]; done)); rintro e w' ⟨rfl, rfl⟩))
  all_goals go_wp2_with fail
  all_goals go_ret
  all_goals exact ⟨rfl, (by repeat (first | (with_reducible exact Below.refl _ _) | (with_reducible assumption) | (with_reducible refine Below.drew ?_) | (with_reducible refine bdrewN ?_ _) | (with_reducible refine balloc ?_ _) | ((with_reducible refine bset ?_ ?_ _); rotate_left; (focus first | exact Nat.le_refl _ | (simp; done) | (simp; omega) | omega)) | (with_reducible refine bstep ?_ (by with_reducible assumption)) | (with_reducible refine Below.trans ?_ (by with_reducible assumption))))⟩
theorem rising_score (A : Option Addr) (n c : Nat) (l : List Sc) (w : World) (hln : l.length = n) (hl : l.length ≤ 1048576) (h : Seg w 2 A (scoreRows l)) :
    Calls Try.prog 77 #[.slice A n c, .func (.func 78) #[] #[]] w fun e w' => e = .returned (.bool (risesBy cmpS l)) ∧ Below w.heap.size w w' := by
  subst hln
  go_enter Try.func77, Try.ntmps77
  go_wp2
  go_loopw [5] (fun s wr => ∃ k : Nat, (k = 0 ∨ k + 1 ≤ l.length) ∧ s = .int .i64 (k + 1 : Nat) ∧ Hid (risesBy cmpS l = risesBy cmpS (l.drop k)) ∧ Below w.heap.size w wr) (fun s _ => l.length - (intOf s).toNat)
  case atStart => exact ⟨0, .inl rfl, rfl, rfl, (by repeat (first | (with_reducible exact Below.refl _ _) | (with_reducible assumption) | (with_reducible refine Below.drew ?_) | (with_reducible refine bdrewN ?_ _) | (with_reducible refine balloc ?_ _) | ((with_reducible refine bset ?_ ?_ _); rotate_left; (focus first | exact Nat.le_refl _ | (simp; done) | (simp; omega) | omega)) | (with_reducible refine bstep ?_ (by with_reducible assumption)) | (with_reducible refine Below.trans ?_ (by with_reducible assumption))))⟩
  case round =>
    obtain ⟨k, hk, rfl, HQ, hbr⟩ := hrel
    by_cases hlt : k + 1 < l.length
    · have hs := h.below hbr
      obtain ⟨b, off, rfl, hb, p0, p1⟩ := hs.score (show k < l.length by omega)
      obtain ⟨b', off', e1, hb', q0, q1⟩ := hs.score hlt
      obtain ⟨rfl, rfl⟩ : b = b' ∧ off = off' := by simpa using e1
      obtain ⟨i, hi⟩ : ∃ i : Int, i = ((k + 1 : Nat) : Int) := ⟨_, rfl⟩
      obtain ⟨j, hj⟩ : ∃ j : Int, j = (k : Int) := ⟨_, rfl⟩
      have hw : IntKind.i64.wrap (i - 1) = j := by rw [IntWalk.i64_in _ (by omega)]; omega
      have hlt1 : i < l.length := by omega
      have hlt2 : j < l.length := by omega
      have hlt3 : 0 ≤ i := by omega
      have hlt4 : 0 ≤ j := by omega
      have t1 : i.toNat = k + 1 := by omega
      have t2 : j.toNat = k := by omega
      rw [← hi]
      have HI := hide hi
      clear hi hj
      go_upto_region 4 with fail
      go_cut [23] (fun s wx => s = .bool (decide (0 ≤ cmpS l[k] l[k+1])) ∧ Below w.heap.size w wx)
      case first =>
        obtain ⟨x, hx⟩ : ∃ x, x = l[k] := ⟨_, rfl⟩
        obtain ⟨y, hy⟩ : ∃ y, y = l[k+1] := ⟨_, rfl⟩
        rw [← hx] at p0 p1
        rw [← hy] at q0 q1
        have HX := hide hx
        have HY := hide hy
        clear hx hy HQ
        go_region_held3 (fun w' => w'.cell? ⟨b, off + k * 2, none⟩ = some (.string x.member) ∧ w'.cell? ⟨b, off + k * 2 + 1, none⟩ = some (.int .i64 x.n) ∧ w'.cell? ⟨b, off + (k + 1) * 2, none⟩ = some (.string y.member) ∧ w'.cell? ⟨b, off + (k + 1) * 2 + 1, none⟩ = some (.int .i64 y.n)) (simp [go_sem, World.cell?_alloc_past, *]) (first | (go_at_call 78; refine (byScore_ x y _).mono ?_; rintro e w2 ⟨rfl, hb2⟩; have r0 := ((bcell hb2).1 b (off + k * 2) hb).trans p0; have r1 := ((bcell hb2).1 b (off + k * 2 + 1) hb).trans p1; have r2 := ((bcell hb2).1 b (off + (k + 1) * 2) hb).trans q0; have r3 := ((bcell hb2).1 b (off + (k + 1) * 2 + 1) hb).trans q1))
        all_goals (go_wp2_with fail; go_meet)
        all_goals exact ⟨by rw [← HX.out, ← HY.out], (by repeat (first | (with_reducible exact Below.refl _ _) | (with_reducible assumption) | (with_reducible refine Below.drew ?_) | (with_reducible refine bdrewN ?_ _) | (with_reducible refine balloc ?_ _) | ((with_reducible refine bset ?_ ?_ _); rotate_left; (focus first | exact Nat.le_refl _ | (simp; done) | (simp; omega) | omega)) | (with_reducible refine bstep ?_ (by with_reducible assumption)) | (with_reducible refine Below.trans ?_ (by with_reducible assumption))))⟩
      case rest =>
        obtain ⟨rfl, hbx⟩ := hcut
        have HN := hide (HQ.out.trans (rises_next cmpS hlt))
        by_cases hc : 0 ≤ cmpS l[k] l[k+1]
        · have hr : Hid (risesBy cmpS l = false) := hide (by rw [HN.out]; simp; omega)
          clear HN
          go_wp2_with fail
          go_ret
          exact ⟨by rw [hr.out]; rfl, hbx⟩
        · have hr : Hid (risesBy cmpS l = risesBy cmpS (l.drop (k + 1))) := hide (by rw [HN.out]; simp; omega)
          have hw2 : IntKind.i64.wrap (i + 1) = ((k + 1 + 1 : Nat) : Int) := by have H1 := HI.out; rw [IntWalk.i64_in _ (by omega)]; omega
          clear HN
          go_wp2_with fail
          go_round
          case rel => exact ⟨k + 1, .inr (by omega), rfl, hr, hbx⟩
          case measure => have H1 := HI.out; simp [intOf]; omega
    · have hr : Hid (risesBy cmpS l = true) := hide (by rw [HQ.out]; exact rises_short _ (by omega))
      have hge : ¬ (((k + 1 : Nat) : Int) < l.length) := by omega
      go_wp2_with fail
      go_ret
      exact ⟨by rw [hr.out]; rfl, hbr⟩
end Go.Proofs.Ytpdadlofgfdlpaa
