/- value.rising at strings. -/
import Derived.Test.YtpdadlofgfdlpaaRise
namespace Go.Proofs.Ytpdadlofgfdlpaa
set_option linter.all false
open Go.RowKit
theorem rising_str (A : Option Addr) (n c : Nat) (l : List ByteArray) (w : World) (hln : l.length = n) (hl : l.length ≤ 1048576) (h : Seg w 1 A (strRows l)) :
    Calls Try.prog 79 #[.slice A n c, .func (.func 80) #[] #[]] w fun e w' => e = .returned (.bool (risesBy cmpB l)) ∧ Below w.heap.size w w' := by
  subst hln
  go_enter Try.func79, Try.ntmps79
  go_wp2
  go_loopw [5] (fun s wr => ∃ k : Nat, (k = 0 ∨ k + 1 ≤ l.length) ∧ s = .int .i64 (k + 1 : Nat) ∧ Hid (risesBy cmpB l = risesBy cmpB (l.drop k)) ∧ Below w.heap.size w wr) (fun s _ => l.length - (intOf s).toNat)
  case atStart => exact ⟨0, .inl rfl, rfl, rfl, (by repeat (first | (with_reducible exact Below.refl _ _) | (with_reducible assumption) | (with_reducible refine Below.drew ?_) | (with_reducible refine bdrewN ?_ _) | (with_reducible refine balloc ?_ _) | ((with_reducible refine bset ?_ ?_ _); rotate_left; (focus first | exact Nat.le_refl _ | (simp; done) | (simp; omega) | omega)) | (with_reducible refine bstep ?_ (by with_reducible assumption)) | (with_reducible refine Below.trans ?_ (by with_reducible assumption))))⟩
  case round =>
    obtain ⟨k, hk, rfl, HQ, hbr⟩ := hrel
    by_cases hlt : k + 1 < l.length
    · have hs := h.below hbr
      obtain ⟨b, off, rfl, hb, p0⟩ := hs.str (show k < l.length by omega)
      obtain ⟨b', off', e1, hb', q0⟩ := hs.str hlt
      obtain ⟨rfl, rfl⟩ : b = b' ∧ off = off' := by simpa using e1
      obtain ⟨i, hi⟩ : ∃ i : Int, i = ((k + 1 : Nat) : Int) := ⟨_, rfl⟩
      obtain ⟨j, hj⟩ : ∃ j : Int, j = (k : Int) := ⟨_, rfl⟩
      have hw : IntKind.i64.wrap (i - 1) = j := by rw [IntWalk.i64_in _ (by omega)]; omega
      have hlt1 : i < l.length := by omega
      have hlt2 : j < l.length := by omega
      have hlt3 : 0 ≤ i := by omega
      have hlt4 : 0 ≤ j := by omega
      have t1 : i.toNat = k + 1 := by omega
      have t2 : j.toNat = k := by omega
      rw [← hi]
      have HI := hide hi
      clear hi hj
      go_upto_region 4 with fail
      go_cut [23] (fun s wx => s = .bool (decide (0 ≤ cmpB l[k] l[k+1])) ∧ Below w.heap.size w wx)
      case first =>
        obtain ⟨x, hx⟩ : ∃ x, x = l[k] := ⟨_, rfl⟩
        obtain ⟨y, hy⟩ : ∃ y, y = l[k+1] := ⟨_, rfl⟩
        rw [← hx] at p0
        rw [← hy] at q0
        have HX := hide hx
        have HY := hide hy
        clear hx hy HQ
        go_region_held3 (fun w' => w'.cell? ⟨b, off + k, none⟩ = some (.string x) ∧ w'.cell? ⟨b, off + (k + 1), none⟩ = some (.string y)) (simp [go_sem, World.cell?_alloc_past, *]) (first | (go_at_call 80; refine (Compare_str x y _).mono ?_; rintro e w2 ⟨rfl, rfl⟩))
        all_goals (go_wp2_with fail; go_meet)
        all_goals exact ⟨by rw [← HX.out, ← HY.out], (by repeat (first | (with_reducible exact Below.refl _ _) | (with_reducible assumption) | (with_reducible refine Below.drew ?_) | (with_reducible refine bdrewN ?_ _) | (with_reducible refine balloc ?_ _) | ((with_reducible refine bset ?_ ?_ _); rotate_left; (focus first | exact Nat.le_refl _ | (simp; done) | (simp; omega) | omega)) | (with_reducible refine bstep ?_ (by with_reducible assumption)) | (with_reducible refine Below.trans ?_ (by with_reducible assumption))))⟩
      case rest =>
        obtain ⟨rfl, hbx⟩ := hcut
        have HN := hide (HQ.out.trans (rises_next cmpB hlt))
        by_cases hc : 0 ≤ cmpB l[k] l[k+1]
        · have hr : Hid (risesBy cmpB l = false) := hide (by rw [HN.out]; simp; omega)
          clear HN
          go_wp2_with fail
          go_ret
          exact ⟨by rw [hr.out]; rfl, hbx⟩
        · have hr : Hid (risesBy cmpB l = risesBy cmpB (l.drop (k + 1))) := hide (by rw [HN.out]; simp; omega)
          have hw2 : IntKind.i64.wrap (i + 1) = ((k + 1 + 1 : Nat) : Int) := by have H1 := HI.out; rw [IntWalk.i64_in _ (by omega)]; omega
          clear HN
          go_wp2_with fail
          go_round
          case rel => exact ⟨k + 1, .inr (by omega), rfl, hr, hbx⟩
          case measure => have H1 := HI.out; simp [intOf]; omega
    · have hr : Hid (risesBy cmpB l = true) := hide (by rw [HQ.out]; exact rises_short _ (by omega))
      have hge : ¬ (((k + 1 : Nat) : Int) < l.length) := by omega
      go_wp2_with fail
      go_ret
      exact ⟨by rw [hr.out]; rfl, hbr⟩
end Go.Proofs.Ytpdadlofgfdlpaa
