/- (whole) slices.IndexFunc at scores, of a predicate that may make memory and has one captured pointer; value.rank$1, value.rank. -/
import Derived.Test.YtpdadlofgfdlpaaVal
namespace Go.Proofs.Ytpdadlofgfdlpaa
set_option linter.all false
open Go.RowKit
theorem rank1_ (x : Sc) (g : Nat) (m : ByteArray) (w : World) (hg : g < w.heap.size) (hm : w.cell? ⟨g, 0, none⟩ = some (.string m)) :
    Calls Try.prog 103 #[.agg #[.string x.member, .int .i64 x.n], .pointer (some ⟨g, 0, none⟩)] w fun e w' => e = .returned (.bool (x.member.toList == m.toList)) ∧ Below w.heap.size w w' := by
  go_enter Try.func103, Try.ntmps103
  go_wp2_with fail
  go_ret
  exact ⟨rfl, (by repeat (first | (with_reducible exact Below.refl _ _) | (with_reducible assumption) | (with_reducible refine Below.drew ?_) | (with_reducible refine bdrewN ?_ _) | (with_reducible refine balloc ?_ _) | ((with_reducible refine bset ?_ ?_ _); rotate_left; (focus first | exact Nat.le_refl _ | (simp; done) | (simp; omega) | omega)) | (with_reducible refine bstep ?_ (by with_reducible assumption)) | (with_reducible refine Below.trans ?_ (by with_reducible assumption))))⟩
theorem FindScore (f : FuncId) (hf : ∀ args w, (callFunc f args).run Try.prog w = .ok (.enter f args) w) (p : Sc → Bool) (w0 : World) (g : Nat)
    (hp : ∀ (s : Sc) (w : World), Below w0.heap.size w0 w → Calls Try.prog f #[.agg #[.string s.member, .int .i64 s.n], .pointer (some ⟨g, 0, none⟩)] w fun e w' => e = .returned (.bool (p s)) ∧ Below w.heap.size w w')
    (A : Option Addr) (ln c : Nat) (l : List Sc) (hln : l.length = ln) (hl : l.length ≤ 1048576) (h : Seg w0 2 A (scoreRows l)) :
    Calls Try.prog 99 #[.slice A ln c, .func (.func f) #[] #[.pointer (some ⟨g, 0, none⟩)]] w0 fun e w' => e = .returned (.int .i64 (idxFn (l.findIdx? p))) ∧ Below w0.heap.size w0 w' := by
  subst hln
  have HP := hide hp
  clear hp
  go_enter Try.func99, Try.ntmps99
  go_wp2
  go_loopw [5, 8] (fun _ i wr => ∃ k : Nat, k ≤ l.length ∧ i = .int .i64 k ∧ Hid (∀ j, j < k → ∀ s, l[j]? = some s → p s = false) ∧ Below w0.heap.size w0 wr) (fun _ i _ => l.length - (intOf i).toNat)
  case atStart => exact ⟨0, by omega, rfl, fun j hj => by omega, (by repeat (first | (with_reducible exact Below.refl _ _) | (with_reducible assumption) | (with_reducible refine Below.drew ?_) | (with_reducible refine bdrewN ?_ _) | (with_reducible refine balloc ?_ _) | ((with_reducible refine bset ?_ ?_ _); rotate_left; (focus first | exact Nat.le_refl _ | (simp; done) | (simp; omega) | omega)) | (with_reducible refine bstep ?_ (by with_reducible assumption)) | (with_reducible refine Below.trans ?_ (by with_reducible assumption))))⟩
  case round =>
    obtain ⟨k, hk, rfl, HQ, hbr⟩ := hrel
    by_cases hlt : k < l.length
    · obtain ⟨b, off, rfl, hb, hc0, hc1⟩ := (h.below hbr).score hlt
      go_wp2_with fail
      by_cases hps : p l[k] = true
      · refine (HP.out _ _ hbr).mono ?_
        rintro e w' ⟨rfl, hb2⟩
        go_wp2_with fail
        go_ret
        exact ⟨by rw [idx_hit hlt hps HQ]; rfl, bstep hbr hb2⟩
      · have hps' : p l[k] = false := by simpa using hps
        refine (HP.out _ _ hbr).mono ?_
        rintro e w' ⟨rfl, hb2⟩
        go_wp2_with fail
        go_round
        case rel => exact ⟨k + 1, by omega, by go_num, idx_next hlt hps' HQ, bstep hbr hb2⟩
        case measure => simp [intOf]; omega
    · obtain rfl : k = l.length := by omega
      go_wp2_with fail
      go_ret
      exact ⟨by rw [idx_miss HQ]; rfl, hbr⟩
end Go.Proofs.Ytpdadlofgfdlpaa
