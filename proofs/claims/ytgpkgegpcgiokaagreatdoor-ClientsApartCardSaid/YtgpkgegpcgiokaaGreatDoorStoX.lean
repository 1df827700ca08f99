/- rostrumkeep.sameStore; which keys are there. -/
import Derived.Test.YtgpkgegpcgiokaaGreatDoorStoE
import Derived.Test.YtgpkgegpcgiokaaGreatDoorSame
namespace Go.Proofs.YtgpkgegpcgiokaaGreatDoor
set_option linter.all false
open Go.RowKit
set_option maxRecDepth 100000 in
set_option maxHeartbeats 8000000 in
theorem sameStore_eq (now : Int) (A B : Option Addr) (n m c d : Nat) (l : List En) (w : World) (ha : St w A n c l) (hb : St w B m d l) (hl : l.length ≤ 1048576) :
    Calls Tryz.prog 34 #[.agg #[.int .i64 now, .slice A n c], .agg #[.int .i64 now, .slice B m d]] w fun e w' => e = .returned (.bool true) ∧ Below w.heap.size w w' := by
  have hn := ha.sl.len
  have hm := hb.sl.len
  subst hn
  subst hm
  have X0 := (Blk.new w 29 #[.int .i64 now, .slice A l.length c]).alloc (.cells #[.int .i64 now, .slice B l.length d] 29)
  have Z0 : Blk ((w.alloc (.cells #[.int .i64 now, .slice A l.length c] 29)).alloc (.cells #[.int .i64 now, .slice B l.length d] 29)) (w.heap.size + 1) 29 #[.int .i64 now, .slice B l.length d] := Blk.new' _ _ _ (by simp)
  have q0 : Below w.heap.size w ((w.alloc (.cells #[.int .i64 now, .slice A l.length c] 29)).alloc (.cells #[.int .i64 now, .slice B l.length d] 29)) := below_by
  go_enter Tryz.func34, Tryz.ntmps34
  go_wp2_with fail
  go_loopw [5] (fun i wr => ∃ k : Nat, k ≤ l.length ∧ i = .int .i64 k ∧ Blk wr w.heap.size 29 #[.int .i64 now, .slice A l.length c] ∧ Blk wr (w.heap.size + 1) 29 #[.int .i64 now, .slice B l.length d] ∧ Below w.heap.size w wr) (fun i _ => l.length - (intOf i).toNat)
  case atStart => exact ⟨0, by omega, rfl, X0, Z0, q0⟩
  case round =>
    obtain ⟨k, hk, rfl, X, Z, hbr⟩ := hrel
    clear X0 Z0 q0
    have Sa := ha.bl hbr; have Sb := hb.bl hbr
    have lx := X.lt; have lz := Z.lt
    (try clear cX fX); have cX := X.cell; have fX := X.frozen; (try clear cZ fZ); have cZ := Z.cell; have fZ := Z.frozen
    by_cases hlt : k < l.length
    · obtain ⟨b1, o1, A1, n1, c1, A2, n2, c2, A3, n3, c3, rfl, hb1, E1, N1, T1⟩ := Sa.sl.at_ hlt
      obtain ⟨b2, o2, B1, m1, d1, B2, m2, d2, B3, m3, d3, rfl, hb2, E2, N2, T2⟩ := Sb.sl.at_ hlt
      generalize l[k] = x at E1 E2 N1 N2
      clear Sa Sb T1 T2 ha hb
      obtain ⟨xk, ⟨vk, vt, vc, ps, is_, ss⟩, xt⟩ := x
      obtain ⟨e0, e1, e2, e3, e4, e5, e6, e7⟩ := E1
      obtain ⟨g0, g1, g2, g3, g4, g5, g6, g7⟩ := E2
      simp only at e0 e1 e2 e3 e7 g0 g1 g2 g3 g7
      have hC := fun w' (hw : Below wr.heap.size wr w') => sameValue_eq ⟨vk, vt, vc, ps, is_, ss⟩ ⟨vk, vt, vc, ps, is_, ss⟩ A1 A2 A3 B1 B2 B3 n1 c1 n2 c2 n3 c3 m1 d1 m2 d2 m3 d3 w' (N1.bl hw) (N2.bl hw) rfl
      have HC := hide hC
      clear hC N1 N2
      go_wp2_with fail
      refine (HC.out _ below_by).mono ?_
      rintro e w1 ⟨rfl, hb1'⟩
      have q1 : Below wr.heap.size wr w1 := below_by
      go_wp2_with fail
      go_roundw
      case rel => exact ⟨k + 1, by omega, by go_num, X.bl q1, Z.bl q1, bstep hbr q1⟩
      case measure => simp [intOf]; omega
    · obtain rfl : k = l.length := by omega
      go_wp2_with fail
      go_ret
      exact ⟨rfl, below_by⟩
end Go.Proofs.YtgpkgegpcgiokaaGreatDoor
