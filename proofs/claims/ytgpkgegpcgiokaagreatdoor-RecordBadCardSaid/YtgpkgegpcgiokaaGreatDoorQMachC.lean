import Derived.Test.YtgpkgegpcgiokaaGreatDoorQCli
import Derived.Test.YtgpkgegpcgiokaaGreatDoorQCliO
import Derived.Test.YtgpkgegpcgiokaaGreatDoorQHeldX
namespace Go.Proofs.YtgpkgegpcgiokaaGreatDoor
set_option linter.all false
open Go.RowKit
def callV (c : CallM) : Value := .agg #[.int .i64 c.client, .int .i64 c.seq, .int .i64 c.cmd.kind, .string c.cmd.key, .string c.cmd.field, .string c.cmd.text, .int .i64 c.cmd.n]
set_option maxHeartbeats 4000000 in
theorem whole_call {w2 : World} {b : Nat} {x0 x1 x2 x3 x4 x5 x6 : Value} (u0 u1 u2 u3 u4 u5 u6 : Value) (R : Blk w2 b 43 #[x0, x1, x2, x3, x4, x5, x6]) :
  Blk (((((((w2.setCell ⟨b, 0, none⟩ (u0)).setCell ⟨b, 1, none⟩ (u1)).setCell ⟨b, 2, none⟩ (u2)).setCell ⟨b, 3, none⟩ (u3)).setCell ⟨b, 4, none⟩ (u4)).setCell ⟨b, 5, none⟩ (u5)).setCell ⟨b, 6, none⟩ (u6)) b 43 #[u0, u1, u2, u3, u4, u5, u6] ∧ w2.grownBy (((((((w2.setCell ⟨b, 0, none⟩ (u0)).setCell ⟨b, 1, none⟩ (u1)).setCell ⟨b, 2, none⟩ (u2)).setCell ⟨b, 3, none⟩ (u3)).setCell ⟨b, 4, none⟩ (u4)).setCell ⟨b, 5, none⟩ (u5)).setCell ⟨b, 6, none⟩ (u6)) (some b) ∧ (((((((w2.setCell ⟨b, 0, none⟩ (u0)).setCell ⟨b, 1, none⟩ (u1)).setCell ⟨b, 2, none⟩ (u2)).setCell ⟨b, 3, none⟩ (u3)).setCell ⟨b, 4, none⟩ (u4)).setCell ⟨b, 5, none⟩ (u5)).setCell ⟨b, 6, none⟩ (u6)).heap.size = w2.heap.size := by
 have R0 := R.set' (i := 0) (u := u0) rfl
 have R1 := R0.set' (i := 1) (u := u1) rfl
 have R2 := R1.set' (i := 2) (u := u2) rfl
 have R3 := R2.set' (i := 3) (u := u3) rfl
 have R4 := R3.set' (i := 4) (u := u4) rfl
 have R5 := R4.set' (i := 5) (u := u5) rfl
 have R6 := R5.set' (i := 6) (u := u6) rfl
 exact ⟨R6, grown_trans (grown_trans (grown_trans (grown_trans (grown_trans (grown_trans (grown_setRow_cell w2 b 0 u0) (grown_setRow_cell _ b 1 u1)) (grown_setRow_cell _ b 2 u2)) (grown_setRow_cell _ b 3 u3)) (grown_setRow_cell _ b 4 u4)) (grown_setRow_cell _ b 5 u5)) (grown_setRow_cell _ b 6 u6), by simp⟩
def cmdW (c : Cmd) : Value := .agg #[.int .i64 c.kind, .string c.key, .string c.field, .string c.text, .int .i64 c.n]
theorem CommandM_any (r : RawD) (hr : r.ok) (w : World) : Calls Tryz.prog 29 #[.agg #[.int .i64 r.kind, .int .i64 r.key, .int .i64 r.field, .int .i64 r.n, .string r.text]] w fun e w' => e = .returned (cmdW (cmdR r)) ∧ Below w.heap.size w w' := by
 obtain ⟨⟨k1, k2⟩, ⟨y1, y2⟩, ⟨f1, f2⟩, ⟨n1, n2⟩, hx⟩ := hr
 exact Command_any r.kind r.key r.field r.n r.text w k1 k2 y1 y2 f1 f2 n1 n2 hx (picked r.kind 22) rfl (picked_lo _ _ (by omega)) (picked_hi _ _ (by omega))
theorem seq_next {n off : Int} {l : List Cl} {k : Nat} (hk : k < l.length) : (l.take (k + 1)).foldl (seqStep n off) 1 = seqStep n off ((l.take k).foldl (seqStep n off) 1) l[k] := by
 rw [List.take_succ_eq_append_getElem hk, List.foldl_append]; rfl
set_option maxHeartbeats 8000000 in
set_option maxRecDepth 100000 in
theorem call_any (m : Mach) (d : DeedD) (hd : d.ok) (hsq : ∀ x ∈ m.clis, 0 ≤ x.seq ∧ x.seq ≤ 1048576) (hfew : m.clis.length ≤ 1048576) (A B : Option Addr) (na ca nb cb : Nat) (w : World) (hC : Ci w B nb cb m.clis) :
  Calls Tryz.prog 25 #[.agg #[.int .i64 m.now, .slice A na ca, .int .i64 m.next, .slice B nb cb], .agg d.cells.toArray] w fun e w' => e = .returned (callV (callD m d)) ∧ Below w.heap.size w w' := by
 obtain ⟨R, hR⟩ : ∃ R, R = callD m d := ⟨_, rfl⟩
 rw [← hR]
 unfold callD at hR
 have hmk := fun w => CommandM_any d.raw hd.2.2.2 w
 have p0 := picked_lo d.client 7 (by omega)
 have p1 := picked_hi d.client 7 (by omega)
 have hp := fun w => picked_any d.client 7 w hd.1.1 hd.1.2 (by omega) (by omega)
 have o0 := picked_lo d.off 3 (by omega)
 have o1 := picked_hi d.off 3 (by omega)
 have ho := fun w => picked_any d.off 3 w hd.2.1.1 hd.2.1.2 (by omega) (by omega)
 have hst : ∀ s x, seqStep (picked d.client 7) d.off s x = if x.id = picked d.client 7 then max (x.seq + 1 - picked d.off 3 / 2) 1 else s := fun _ _ => rfl
 have hsn := fun k (hk : k < m.clis.length) => seq_next (n := picked d.client 7) (off := d.off) hk
 have hse : seqOf (picked d.client 7) d.off m.clis = (m.clis.take m.clis.length).foldl (seqStep (picked d.client 7) d.off) 1 := by rw [List.take_length]; rfl
 rw [hse] at hR
 have hz : (m.clis.take 0).foldl (seqStep (picked d.client 7) d.off) 1 = 1 := rfl
 generalize cmdR d.raw = cm at *
 obtain ⟨sq, hsqe⟩ : ∃ sq : Nat → Int, sq = fun k => (m.clis.take k).foldl (seqStep (picked d.client 7) d.off) 1 := ⟨_, rfl⟩
 have hsn2 : ∀ k (hk : k < m.clis.length), sq (k + 1) = if m.clis[k].id = picked d.client 7 then max (m.clis[k].seq + 1 - picked d.off 3 / 2) 1 else sq k := fun k hk => by rw [hsqe]; simp only; rw [hsn k hk, hst]
 have hR2 : R = if picked d.client 7 = 0 then zeroCall_ else ⟨picked d.client 7, sq m.clis.length, cm⟩ := by rw [hR, hsqe]
 have hz2 : sq 0 = 1 := by rw [hsqe]; rfl
 clear hsqe hst hsn hse hz hR
 generalize picked d.client 7 = p at *
 generalize picked d.off 3 = o at *
 have hlen := hC.sl.len
 obtain ⟨now, ents, next, clis⟩ := m
 simp only at hsn2 hR2 hsq hfew hlen hC ⊢
 obtain ⟨dc, doff, dw, ⟨rk, ry, rf, rr, rx⟩⟩ := d
 obtain ⟨ck, cy, cf, ct, cn⟩ := cm
 simp only [cmdW] at hp ho hmk
 have HP := hide hp; have HO := hide ho; have HMK := hide hmk; have HSN := hide hsn2; have HR := hide hR2; have HZ := hide hz2; have HSQ := hide hsq
 clear hp ho hmk hsn2 hR2 hz2 hsq
 simp only [DeedD.cells]
 have M0 : Blk (((w.alloc (.cells #[.int .i64 now, .slice A na ca, .int .i64 next, .slice B nb cb] 32)).alloc (.cells #[.int .i64 dc, .int .i64 doff, .int .i64 dw, .int .i64 rk, .int .i64 ry, .int .i64 rf, .int .i64 rr, .string rx] 26)).alloc (.cells #[.int .i64 0, .int .i64 0, .int .i64 0, .string { data := #[] }, .string { data := #[] }, .string { data := #[] }, .int .i64 0] 43)) w.heap.size 32 #[.int .i64 now, .slice A na ca, .int .i64 next, .slice B nb cb] := ((Blk.new _ _ _).alloc _).alloc _
 have D0 : Blk (((w.alloc (.cells #[.int .i64 now, .slice A na ca, .int .i64 next, .slice B nb cb] 32)).alloc (.cells #[.int .i64 dc, .int .i64 doff, .int .i64 dw, .int .i64 rk, .int .i64 ry, .int .i64 rf, .int .i64 rr, .string rx] 26)).alloc (.cells #[.int .i64 0, .int .i64 0, .int .i64 0, .string { data := #[] }, .string { data := #[] }, .string { data := #[] }, .int .i64 0] 43)) (w.heap.size + 1) 26 #[.int .i64 dc, .int .i64 doff, .int .i64 dw, .int .i64 rk, .int .i64 ry, .int .i64 rf, .int .i64 rr, .string rx] := (Blk.new' _ _ _ (by simp)).alloc _
 have R0 : Blk (((w.alloc (.cells #[.int .i64 now, .slice A na ca, .int .i64 next, .slice B nb cb] 32)).alloc (.cells #[.int .i64 dc, .int .i64 doff, .int .i64 dw, .int .i64 rk, .int .i64 ry, .int .i64 rf, .int .i64 rr, .string rx] 26)).alloc (.cells #[.int .i64 0, .int .i64 0, .int .i64 0, .string { data := #[] }, .string { data := #[] }, .string { data := #[] }, .int .i64 0] 43)) (w.heap.size + 2) 43 #[.int .i64 0, .int .i64 0, .int .i64 0, .string { data := #[] }, .string { data := #[] }, .string { data := #[] }, .int .i64 0] := Blk.new' _ _ _ (by simp)
 have q0 : Below w.heap.size w (((w.alloc (.cells #[.int .i64 now, .slice A na ca, .int .i64 next, .slice B nb cb] 32)).alloc (.cells #[.int .i64 dc, .int .i64 doff, .int .i64 dw, .int .i64 rk, .int .i64 ry, .int .i64 rf, .int .i64 rr, .string rx] 26)).alloc (.cells #[.int .i64 0, .int .i64 0, .int .i64 0, .string { data := #[] }, .string { data := #[] }, .string { data := #[] }, .int .i64 0] 43)) := below_by
 go_enter Tryz.func25, Tryz.ntmps25
 go_wp2_with fail
 refine (HP.out _).mono ?_
 rintro e w1 ⟨rfl, rfl⟩
 obtain ⟨w1, hw1⟩ : ∃ w1, w1 = (((w.alloc (.cells #[.int .i64 now, .slice A na ca, .int .i64 next, .slice B nb cb] 32)).alloc (.cells #[.int .i64 dc, .int .i64 doff, .int .i64 dw, .int .i64 rk, .int .i64 ry, .int .i64 rf, .int .i64 rr, .string rx] 26)).alloc (.cells #[.int .i64 0, .int .i64 0, .int .i64 0, .string { data := #[] }, .string { data := #[] }, .string { data := #[] }, .int .i64 0] 43)) := ⟨_, rfl⟩
 rw [← hw1] at M0 D0 R0 q0 ⊢
 clear hw1 HP
 have hrl := R0.lt
 have hs1 : w.heap.size < w1.heap.size := by omega
 have hs2 : w.heap.size + 1 < w1.heap.size := by omega
 by_cases hp0 : p = 0
 ·have hr := HR.out
  rw [if_pos hp0] at hr
  subst hr
  subst hp0
  obtain ⟨Z9, gr9, sz9⟩ := whole_call (.int .i64 0) (.int .i64 0) (.int .i64 0) (.string { data := #[] }) (.string { data := #[] }) (.string { data := #[] }) (.int .i64 0) R0
  have q9 := hide (below_grow q0 gr9 q0.size (by omega))
  have cZ9 := hide Z9.cell
  clear Z9 gr9 sz9
  (try clear cR0 fR0); have cR0 := R0.cell; have fR0 := R0.frozen
  go_wp2_with fail
  have cZ9 := cZ9.out
  refine bodyPost_ret (v := .agg #[.int .i64 0, .int .i64 0, .int .i64 0, .string { data := #[] }, .string { data := #[] }, .string { data := #[] }, .int .i64 0]) ?_ rfl ⟨rfl, q9.out⟩
  simp [results, Tryz.results25, go_sem, cZ9]
 ·have hr0 := HR.out
  rw [if_neg hp0] at hr0
  have hp0' : (p == 0) = false := by simpa using hp0
  have HR2 := hide hr0
  clear HR hr0
  (try clear cD0 fD0); have cD0 := D0.cell; have fD0 := D0.frozen
  go_wp2_with fail
  refine (HMK.out _).mono ?_
  rintro e w2 ⟨rfl, hb2⟩
  replace M0 := M0.bl hb2; replace D0 := D0.bl hb2; replace R0 := R0.bl hb2
  replace q0 := bstep q0 hb2
  clear hb2 HMK cD0 fD0
  have hrl := R0.lt
  have hs1 : w.heap.size < w2.heap.size := by omega
  have hs2 : w.heap.size + 1 < w2.heap.size := by omega
  have G0 := Blk.new w2 43 #[.int .i64 p, .int .i64 1, .int .i64 ck, .string cy, .string cf, .string ct, .int .i64 cn]
  have bg : Below w2.heap.size w2 (w2.alloc (.cells #[.int .i64 p, .int .i64 1, .int .i64 ck, .string cy, .string cf, .string ct, .int .i64 cn] 43)) := below_by
  have M1 := M0.below' bg; have D1 := D0.below' bg; have R1 := R0.below' bg; have q1 := bstep q0 bg
  go_wp2_with fail
  obtain ⟨wg, hwg⟩ : ∃ wg, wg = (w2.alloc (.cells #[.int .i64 p, .int .i64 1, .int .i64 ck, .string cy, .string cf, .string ct, .int .i64 cn] 43)) := ⟨_, rfl⟩
  rw [← hwg] at G0 M1 D1 R1 q1 ⊢
  clear hwg bg M0 D0 R0 q0
  go_loopw [7] (fun s7 wr => ∃ k : Nat, k ≤ nb ∧ s7 = .int .i64 (k : Int) ∧ ∃ v : Int, Hid (v = sq k) ∧ Blk wr w.heap.size 32 #[.int .i64 now, .slice A na ca, .int .i64 next, .slice B nb cb] ∧ Blk wr (w.heap.size + 1) 26 #[.int .i64 dc, .int .i64 doff, .int .i64 dw, .int .i64 rk, .int .i64 ry, .int .i64 rf, .int .i64 rr, .string rx] ∧ Blk wr (w.heap.size + 2) 43 #[.int .i64 0, .int .i64 0, .int .i64 0, .string { data := #[] }, .string { data := #[] }, .string { data := #[] }, .int .i64 0] ∧ Blk wr w2.heap.size 43 #[.int .i64 p, .int .i64 v, .int .i64 ck, .string cy, .string cf, .string ct, .int .i64 cn] ∧ Below w.heap.size w wr) (fun s7 _ => nb - (intOf s7).toNat)
  case atStart => exact ⟨0, by omega, rfl, 1, hide HZ.out.symm, M1, D1, R1, G0, q1⟩
  case round =>
   obtain ⟨k, hk, rfl, v, HV, Mr, Dr, Rr, Gr, qr⟩ := hrel
   clear M1 D1 R1 G0 q1
   have lr := Rr.lt
   have lg := Gr.lt
   have hs1 : w.heap.size < wr.heap.size := by omega
   have hs2 : w.heap.size + 1 < wr.heap.size := by omega
   by_cases hlt : k < nb
   ·have hkl : k < clis.length := by omega
    obtain ⟨b, off, Y, mm, d, rfl, hbb, ⟨i0, i1, i2, i3, i4, i5, i6⟩, -⟩ := (hC.bl qr).sl.at_ hkl
    have hnx := HSN.out k hkl
    have hsq := HSQ.out _ (List.getElem_mem hkl)
    generalize clis[k] = x at i0 i1 i2 i3 i4 i5 hnx hsq
    obtain ⟨xi, xs, xt, ⟨xc, xx, xn, xl⟩⟩ := x
    simp only at i0 i1 hnx hsq
    clear i2 i3 i4 i5 i6
    have hz1 : (0 : Int) ≤ (k : Int) := by omega
    have hz2 : (k : Int) < (nb : Int) := by omega
    have HNX := hide hnx
    clear hnx
    by_cases he : xi = p
    ·have hnx := HNX.out
     rw [if_pos he] at hnx
     subst he
     (try clear cMr fMr); have cMr := Mr.cell; have fMr := Mr.frozen
     go_wp2_with fail
     have hsG : ∀ w', Below wr.heap.size wr w' → (w'.cell? ⟨w.heap.size, 3, none⟩ = some (.slice (some ⟨b, off, none⟩) nb cb) ∧ w'.cell? ⟨b, off + k * 7 + 1, none⟩ = some (.int .i64 xs) ∧ w'.cell? ⟨w.heap.size + 1, 1, none⟩ = some (.int .i64 doff)) := fun w' q => ⟨(Mr.below' q).cell 3, (q.cell (p := ⟨b, off + k * 7 + 1, none⟩) hbb).trans i1, (Dr.below' q).cell 1⟩
     refine wp_region_x (l := [14]) (S := fun w' => w'.cell? ⟨w.heap.size, 3, none⟩ = some (.slice (some ⟨b, off, none⟩) nb cb) ∧ w'.cell? ⟨b, off + k * 7 + 1, none⟩ = some (.int .i64 xs) ∧ w'.cell? ⟨w.heap.size + 1, 1, none⟩ = some (.int .i64 doff)) (by kernel_rfl) (hsG _ (Below.refl _ wr).drew) (fun hS => ?_)
     clear cMr fMr i0 i1
     have HSG := hide hsG
     clear hsG
     refine wpAnyX_tk (i := 0) (v := ?xv0a) rfl (Or.inl ⟨by rfl, ?xh0a⟩) ?xr0a; (case xh0a => (intro w hSw; (try dsimp only at hSw); go_simp; (try with_reducible rfl))); (try simp only [Act.put, List.setIfInBounds_toArray, List.set_cons_zero, List.set_cons_succ, List.getElem_toArray, List.getElem_cons_zero, List.getElem_cons_succ])
     refine wpAnyX_tk (i := 1) (v := ?xv1a) rfl (Or.inl ⟨by rfl, ?xh1a⟩) ?xr1a; (case xh1a => (intro w hSw; (try dsimp only at hSw); go_simp; (try with_reducible rfl))); (try simp only [Act.put, List.setIfInBounds_toArray, List.set_cons_zero, List.set_cons_succ, List.getElem_toArray, List.getElem_cons_zero, List.getElem_cons_succ])
     refine wpAnyX_tk (i := 2) (v := ?xv2a) rfl (Or.inl ⟨by rfl, ?xh2a⟩) ?xr2a; (case xh2a => (intro w hSw; (try dsimp only at hSw); go_simp; (try with_reducible rfl))); (try simp only [Act.put, List.setIfInBounds_toArray, List.set_cons_zero, List.set_cons_succ, List.getElem_toArray, List.getElem_cons_zero, List.getElem_cons_succ])
     refine wpAnyX_tk (i := 3) (v := ?xv3a) rfl (Or.inl ⟨by rfl, ?xh3a⟩) ?xr3a; (case xh3a => (intro w hSw; (try dsimp only at hSw); go_simp; (try with_reducible rfl))); (try simp only [Act.put, List.setIfInBounds_toArray, List.set_cons_zero, List.set_cons_succ, List.getElem_toArray, List.getElem_cons_zero, List.getElem_cons_succ])
     refine wpAnyX_tk (i := 4) (v := ?xv4a) rfl (Or.inl ⟨by rfl, ?xh4a⟩) ?xr4a; (case xh4a => (intro w hSw; (try dsimp only at hSw); go_simp; (try with_reducible rfl))); (try simp only [Act.put, List.setIfInBounds_toArray, List.set_cons_zero, List.set_cons_succ, List.getElem_toArray, List.getElem_cons_zero, List.getElem_cons_succ])
     refine wpAnyX_tk (i := 5) (v := ?xv5a) rfl (Or.inl ⟨by rfl, ?xh5a⟩) ?xr5a; (case xh5a => (intro w hSw; (try dsimp only at hSw); go_simp; (try with_reducible rfl))); (try simp only [Act.put, List.setIfInBounds_toArray, List.set_cons_zero, List.set_cons_succ, List.getElem_toArray, List.getElem_cons_zero, List.getElem_cons_succ])
     refine wpAnyX_tk (i := 6) (v := ?xv6a) rfl (Or.inl ⟨by rfl, ?xh6a⟩) ?xr6a; (case xh6a => (intro w hSw; (try dsimp only at hSw); go_simp; (try with_reducible rfl))); (try simp only [Act.put, List.setIfInBounds_toArray, List.set_cons_zero, List.set_cons_succ, List.getElem_toArray, List.getElem_cons_zero, List.getElem_cons_succ])
     refine wpAnyX_tk (i := 7) (v := ?xv7a) rfl (Or.inl ⟨by rfl, ?xh7a⟩) ?xr7a; (case xh7a => (intro w hSw; (try dsimp only at hSw); go_simp; (try with_reducible rfl))); (try simp only [Act.put, List.setIfInBounds_toArray, List.set_cons_zero, List.set_cons_succ, List.getElem_toArray, List.getElem_cons_zero, List.getElem_cons_succ])
     refine wpAnyX_tk (i := 8) (v := ?xv8a) rfl (Or.inl ⟨by rfl, ?xh8a⟩) ?xr8a; (case xh8a => (intro w hSw; (try dsimp only at hSw); go_simp; (try with_reducible rfl))); (try simp only [Act.put, List.setIfInBounds_toArray, List.set_cons_zero, List.set_cons_succ, List.getElem_toArray, List.getElem_cons_zero, List.getElem_cons_succ])
     refine wpAnyX_one (i := 9) (by kernel_rfl) rfl (by rfl) (fun K hK => ?_); (try simp only [List.getElem_toArray, List.getElem_cons_zero, List.getElem_cons_succ])
     go_wp2_with fail
     refine (HO.out _).mono ?_
     rintro e w' ⟨rfl, rfl⟩
     go_wp2_with fail
     refine hK.out _ _ (Or.inr (HSG.out _ (Below.refl _ wr).drew)) (fun hS => ?_)
     replace hS := hS.resolve_left (by decide)
     clear hK K
     refine wpAnyX_pure (i := 10) (v := ?xv10a) rfl (by kernel_rfl) (Or.inl ⟨by rfl, ?xh10a⟩) (Or.inr (by assumption)) ?xr10a; (case xh10a => (intro w; go_simp; (try with_reducible rfl))); (try simp only [Act.put, List.setIfInBounds_toArray, List.set_cons_zero, List.set_cons_succ, List.getElem_toArray, List.getElem_cons_zero, List.getElem_cons_succ])
     refine wpAnyX_pure (i := 11) (v := ?xv11a) rfl (by kernel_rfl) (Or.inl ⟨by rfl, ?xh11a⟩) (Or.inr (by assumption)) ?xr11a; (case xh11a => (intro w; go_simp; (try with_reducible rfl))); (try simp only [Act.put, List.setIfInBounds_toArray, List.set_cons_zero, List.set_cons_succ, List.getElem_toArray, List.getElem_cons_zero, List.getElem_cons_succ])
     refine wpAnyX_one (i := 12) (by kernel_rfl) rfl (by rfl) (fun K hK => ?_); (try simp only [List.getElem_toArray, List.getElem_cons_zero, List.getElem_cons_succ])
     go_wp2_with fail
     refine hK.out _ _ (Or.inr (HSG.out _ (Below.refl _ wr).drew)) (fun hS => ?_)
     replace hS := hS.resolve_left (by decide)
     clear hK K
     (try clear cGr fGr); have cGr := Gr.cell; have fGr := Gr.frozen
     refine wpAnyX_pure (i := 13) (v := ?xv13a) rfl (by kernel_rfl) (Or.inl ⟨by rfl, ?xh13a⟩) (Or.inr (by assumption)) ?xr13a; (case xh13a => (intro w; go_simp; (try with_reducible rfl))); (try simp only [Act.put, List.setIfInBounds_toArray, List.set_cons_zero, List.set_cons_succ, List.getElem_toArray, List.getElem_cons_zero, List.getElem_cons_succ])
     refine wpAnyX_one (i := 14) (by kernel_rfl) rfl (by rfl) (fun K hK => ?_); (try simp only [List.getElem_toArray, List.getElem_cons_zero, List.getElem_cons_succ])
     go_wp2_with fail
     refine hK.out _ _ (Or.inl (by decide)) (fun hS => ?_)
     clear hK K hS cGr fGr
     refine wpAnyX_done (by kernel_rfl) ?_ _
     have G9 := (Gr.drew.set' (i := 1) (u := .int .i64 (max (xs + 1 - o / 2) 1)) rfl)
     have gr9 := grown_setRow_cell wr.drew w2.heap.size 1 (.int .i64 (max (xs + 1 - o / 2) 1))
     have M9 := grown_blk Mr.drew gr9 (by omega)
     have D9 := grown_blk Dr.drew gr9 (by omega)
     have R9 := grown_blk Rr.drew gr9 (by omega)
     have q9 := below_grow qr.drew gr9 (by simp; omega) (by omega)
     obtain ⟨w9, hw9⟩ : ∃ w9, w9 = wr.drew.setCell ⟨w2.heap.size, 1, none⟩ (.int .i64 (max (xs + 1 - o / 2) 1)) := ⟨_, rfl⟩
     have hw9' : w9 = (wr.setCell ⟨w2.heap.size, 1, none⟩ (.int .i64 (max (xs + 1 - o / 2) 1))).drew := by rw [hw9]; rfl
     rw [← hw9] at G9 M9 D9 R9 q9
     rw [← hw9']
     clear hw9 hw9' gr9 Gr Mr Dr Rr qr HSG
     go_wp2_with fail
     go_roundw
     case rel => exact ⟨k + 1, by omega, by go_num, _, hide hnx.symm, M9, D9, R9, G9, q9⟩
     case measure => simp [intOf]; omega
    ·have hnx := HNX.out
     rw [if_neg he] at hnx
     have he' : (xi == p) = false := by simpa using he
     (try clear cMr fMr); have cMr := Mr.cell; have fMr := Mr.frozen
     go_wp2_with fail
     go_roundw
     case rel => exact ⟨k + 1, by omega, by go_num, v, hide (HV.out.trans hnx.symm), Mr, Dr, Rr, Gr, qr⟩
     case measure => simp [intOf]; omega
   ·obtain rfl : k = nb := by omega
    have hr := HR2.out
    rw [hlen, ← HV.out] at hr
    subst hr
    obtain ⟨Z9, gr9, sz9⟩ := whole_call (.int .i64 p) (.int .i64 v) (.int .i64 ck) (.string cy) (.string cf) (.string ct) (.int .i64 cn) Rr
    have q9 := hide (below_grow qr gr9 (by omega) (by omega))
    have cZ9 := hide Z9.cell
    clear Z9 gr9 sz9
    (try clear cMr fMr); have cMr := Mr.cell; have fMr := Mr.frozen; (try clear cRr fRr); have cRr := Rr.cell; have fRr := Rr.frozen; (try clear cGr fGr); have cGr := Gr.cell; have fGr := Gr.frozen
    go_wp2_with fail
    have cZ9 := cZ9.out
    refine bodyPost_ret (v := .agg #[.int .i64 p, .int .i64 v, .int .i64 ck, .string cy, .string cf, .string ct, .int .i64 cn]) ?_ rfl ⟨rfl, q9.out⟩
    simp [results, Tryz.results25, go_sem, cZ9]
end Go.Proofs.YtgpkgegpcgiokaaGreatDoor

