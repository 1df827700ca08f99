import Derived.Test.YtgpkgegpcgiokaaGreatDoorQMachS
import Derived.Test.YtgpkgegpcgiokaaGreatDoorQSame
namespace Go.Proofs.YtgpkgegpcgiokaaGreatDoor
set_option linter.all false
open Go.RowKit
set_option maxRecDepth 100000 in
set_option maxHeartbeats 8000000 in
theorem sameMachine_eq (m : Mach) (A A' B B' : Option Addr) (n c n' c' k d k' d' : Nat) (w : World) (hE1 : St w A n c m.ents) (hE2 : St w A' n' c' m.ents) (hC1 : Ci w B k d m.clis) (hC2 : Ci w B' k' d' m.clis) (hl : m.ents.length ≤ 1048576) (hl2 : m.clis.length ≤ 1048576) :
  Calls Tryz.prog 32 #[.agg #[.int .i64 m.now, .slice A n c, .int .i64 m.next, .slice B k d], .agg #[.int .i64 m.now, .slice A' n' c', .int .i64 m.next, .slice B' k' d']] w fun e w' => e = .returned (.bool true) ∧ Below w.heap.size w w' := by
 have KS := hide (fun w' (hb : Below w.heap.size w w') => sameStore_eq m.now A A' n n' c c' m.ents w' (hE1.bl hb) (hE2.bl hb) hl)
 have hk1 := hC1.sl.len
 have hk2 := hC2.sl.len
 obtain ⟨now, ents, next, clis⟩ := m
 simp only at KS hk1 hk2 hC1 hC2 hl2 ⊢
 clear hE1 hE2 hl
 subst hk1
 subst hk2
 have X0 := (Blk.new w 32 #[.int .i64 now, .slice A n c, .int .i64 next, .slice B clis.length d]).alloc (.cells #[.int .i64 now, .slice A' n' c', .int .i64 next, .slice B' clis.length d'] 32)
 have Z0 : Blk ((w.alloc (.cells #[.int .i64 now, .slice A n c, .int .i64 next, .slice B clis.length d] 32)).alloc (.cells #[.int .i64 now, .slice A' n' c', .int .i64 next, .slice B' clis.length d'] 32)) (w.heap.size + 1) 32 #[.int .i64 now, .slice A' n' c', .int .i64 next, .slice B' clis.length d'] := Blk.new' _ _ _ (by simp)
 have q0 : Below w.heap.size w ((w.alloc (.cells #[.int .i64 now, .slice A n c, .int .i64 next, .slice B clis.length d] 32)).alloc (.cells #[.int .i64 now, .slice A' n' c', .int .i64 next, .slice B' clis.length d'] 32)) := below_by
 go_enter Tryz.func32, Tryz.ntmps32
 go_wp2_with fail
 refine (KS.out _ q0).mono ?_
 rintro e w1 ⟨rfl, hb1⟩
 replace X0 := X0.bl hb1; replace Z0 := Z0.bl hb1
 replace q0 := bstep q0 hb1
 clear hb1 KS
 (try clear cX0 fX0); have cX0 := X0.cell; have fX0 := X0.frozen; (try clear cZ0 fZ0); have cZ0 := Z0.cell; have fZ0 := Z0.frozen
 go_wp2_with fail
 clear cX0 fX0 cZ0 fZ0
 go_loopw [5] (fun i wr => ∃ k : Nat, k ≤ clis.length ∧ i = .int .i64 k ∧ Blk wr w.heap.size 32 #[.int .i64 now, .slice A n c, .int .i64 next, .slice B clis.length d] ∧ Blk wr (w.heap.size + 1) 32 #[.int .i64 now, .slice A' n' c', .int .i64 next, .slice B' clis.length d'] ∧ Below w.heap.size w wr) (fun i _ => clis.length - (intOf i).toNat)
 case atStart => exact ⟨0, by omega, rfl, X0, Z0, q0⟩
 case round =>
  obtain ⟨k, hk, rfl, X, Z, hbr⟩ := hrel
  clear X0 Z0 q0
  have lx := X.lt; have lz := Z.lt
  (try clear cX fX); have cX := X.cell; have fX := X.frozen; (try clear cZ fZ); have cZ := Z.cell; have fZ := Z.frozen
  by_cases hlt : k < clis.length
  ·obtain ⟨b1, o1, Y1, m1, d1, rfl, hb1, E1, T1⟩ := (hC1.bl hbr).sl.at_ hlt
   obtain ⟨b2, o2, Y2, m2, d2, rfl, hb2, E2, T2⟩ := (hC2.bl hbr).sl.at_ hlt
   generalize clis[k] = x at E1 E2 T1 T2
   obtain ⟨xi, xs, xt, ⟨rc, rt, rn, rl⟩⟩ := x
   obtain ⟨e0, e1, e2, e3, e4, e5, e6⟩ := E1
   obtain ⟨g0, g1, g2, g3, g4, g5, g6⟩ := E2
   simp only at e0 e1 e2 e3 e4 e5 g0 g1 g2 g3 g4 g5 T1 T2
   have HC := hide (fun w' (hw : Below wr.heap.size wr w') => sameReply_eq ⟨rc, rt, rn, rl⟩ ⟨rc, rt, rn, rl⟩ Y1 Y2 m1 m2 d1 d2 w' (T1.bl hw).sl (T2.bl hw).sl rfl)
   clear T1 T2
   have hz1 : (0 : Int) ≤ (k : Int) := by omega
   have hz2 : (k : Int) < (clis.length : Int) := by omega
   have q1 : Below wr.heap.size wr ((wr.alloc (.cells #[.int .i64 xi, .int .i64 xs, .int .i64 xt, .int .i64 rc, .string rt, .int .i64 rn, .slice Y1 m1 d1] 54)).alloc (.cells #[.int .i64 xi, .int .i64 xs, .int .i64 xt, .int .i64 rc, .string rt, .int .i64 rn, .slice Y2 m2 d2] 54)) := below_by
   have HQ := hide (fun w' (hb : Below _ _ w') => bstep q1 hb)
   go_wp2_with fail
   refine (HC.out _ q1).mono ?_
   rintro e w3 ⟨rfl, hb3⟩
   have q3 := HQ.out _ hb3
   have X3 := X.bl q3; have Z3 := Z.bl q3
   have q4 := bstep hbr q3
   clear HC HQ q1 hb3 q3 cX fX cZ fZ e0 e1 e2 e3 e4 e5 e6 g0 g1 g2 g3 g4 g5 g6
   go_wp2_with fail
   go_roundw
   case rel => exact ⟨k + 1, by omega, by go_num, X3, Z3, q4⟩
   case measure => simp [intOf]; omega
  ·obtain rfl : k = clis.length := by omega
   go_wp2_with fail
   go_ret
   exact ⟨rfl, hbr⟩
end Go.Proofs.YtgpkgegpcgiokaaGreatDoor

