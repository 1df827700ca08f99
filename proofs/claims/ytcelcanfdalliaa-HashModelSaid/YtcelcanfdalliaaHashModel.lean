/- rostrumkeep.HashModel returns true for every input and leaves its arguments as they were; no condition. -/
import Derived.Test.YtcelcanfdalliaaValLaw
import Derived.Test.YtcelcanfdalliaaHashP
import Derived.Test.YtcelcanfdalliaaAllocOne
import Derived.Test.YtcelcanfdalliaaMapS
namespace Go.Proofs.Ytcelcanfdalliaa
set_option linter.all false
open Go.ChangeShapes Go.WideShapes Go.ChangeAt Go.RowKit
def hashK (p : Int) : Int := if p = 2 then 5 else if p = 3 then 6 else 4
theorem hashK_cases {p : Int} (h0 : 0 ≤ p) (h1 : p < 4) : (p = 0 ∧ hashK p = 4) ∨ (p = 1 ∧ hashK p = 4) ∨ (p = 2 ∧ hashK p = 5) ∨ (p = 3 ∧ hashK p = 6) := by
  have hp : p = 0 ∨ p = 1 ∨ p = 2 ∨ p = 3 := by omega
  rcases hp with rfl | rfl | rfl | rfl <;> simp [hashK]
theorem whole_command {w2 : World} {b : Nat} {x0 x1 x2 x3 x4 : Value} (u0 u1 u2 u3 u4 : Value) (R : Blk w2 b 34 #[x0, x1, x2, x3, x4]) :
    Blk (((((w2.setCell ⟨b, 0, none⟩ u0).setCell ⟨b, 1, none⟩ u1).setCell ⟨b, 2, none⟩ u2).setCell ⟨b, 3, none⟩ u3).setCell ⟨b, 4, none⟩ u4) b 34 #[u0, u1, u2, u3, u4] ∧ w2.grownBy (((((w2.setCell ⟨b, 0, none⟩ u0).setCell ⟨b, 1, none⟩ u1).setCell ⟨b, 2, none⟩ u2).setCell ⟨b, 3, none⟩ u3).setCell ⟨b, 4, none⟩ u4) (some b) := by
  have R0 := R.set' (i := 0) (u := u0) rfl
  have R1 := R0.set' (i := 1) (u := u1) rfl
  have R2 := R1.set' (i := 2) (u := u2) rfl
  have R3 := R2.set' (i := 3) (u := u3) rfl
  have R4 := R3.set' (i := 4) (u := u4) rfl
  exact ⟨R4, grown_trans (grown_trans (grown_trans (grown_trans (grown_setRow_cell w2 b 0 u0) (grown_setRow_cell _ b 1 u1)) (grown_setRow_cell _ b 2 u2)) (grown_setRow_cell _ b 3 u3)) (grown_setRow_cell _ b 4 u4)⟩
theorem hash_cmd (k xf xn : Int) (xt : ByteArray) (hk : k = 4 ∨ k = 5 ∨ k = 6) (hf : I64 xf) (hn : I64 xn) (ht : xt.size ≤ maxLen) : ∃ y f t : ByteArray, ∃ n : Int, f ∈ fewT ∧ f.size ≤ 20 ∧ t.size ≤ 20 ∧ ccOf ⟨k, y, f, t, n⟩ = 0 ∧
    ∀ w, Calls Try.prog 23 #[.agg #[.int .i64 (k - 1), .int .i64 0, .int .i64 xf, .int .i64 xn, .string xt]] w fun e w' => e = .returned (cmdV ⟨k, y, f, t, n⟩) ∧ Below w.heap.size w w' := by
  have hcc := cmdR_cc ⟨k - 1, 0, xf, xn, xt⟩
  have hcall := fun w => CommandR_any ⟨k - 1, 0, xf, xn, xt⟩ ⟨⟨by show -9223372036854775808 ≤ k - 1; omega, by show k - 1 ≤ 9223372036854775807; omega⟩, ⟨by show (-9223372036854775808 : Int) ≤ 0; omega, by show (0 : Int) ≤ 9223372036854775807; omega⟩, hf, hn, ht⟩ w
  have h1 : (cmdR ⟨k - 1, 0, xf, xn, xt⟩).kind = k := by
    show 1 + picked (k - 1) 22 = k
    rw [picked_self (by omega) (by omega)]; omega
  have h2 : (cmdR ⟨k - 1, 0, xf, xn, xt⟩).field ∈ fewT := by
    show (if cmdField (1 + picked (k - 1) 22) = true then some_ xf else emp) ∈ fewT
    split
    · exact few_some _
    · exact few_emp
  have h3 : (cmdR ⟨k - 1, 0, xf, xn, xt⟩).text.size ≤ 20 := by
    show (if cmdText (1 + picked (k - 1) 22) = true then (if (picked xn 3 == 0) = true then some_ xn else cut_ xt 6) else emp).size ≤ 20
    split
    · split
      · rw [some_size]; omega
      · have := cut_size xt 6; omega
    · simp [emp, ByteArray.size]
  generalize cmdR ⟨k - 1, 0, xf, xn, xt⟩ = cm at *
  obtain ⟨ck, cy, cf, ct, cn⟩ := cm
  simp only at h1 h2 h3 hcall
  subst h1
  exact ⟨cy, cf, ct, cn, h2, few_short _ h2, h3, hcc, hcall⟩
set_option maxRecDepth 100000 in
set_option maxHeartbeats 8000000 in
theorem hashModel_walk (A : Option Addr) (n c : Nat) (l : List RawD) (w : World) (hS : Sl w 5 A n c (rawRows l)) (hd : ∀ d ∈ l, d.ok) :
    Calls Try.prog 6 #[.slice A n c] w fun e w' => e = .returned (.bool true) ∧ Below w.heap.size w w' := by
  have hln := raw_len hS
  have hnc := hS.nc
  have hmm := @run_makeMap Try.prog
  have V0 := (Blk.new w 29 #[.int .i64 0, .string { data := #[] }, .int .i64 0, .slice none 0 0, .slice none 0 0, .slice none 0 0]).alloc (.map #[] 0)
  have M0 := MapS.made (w.alloc (.cells #[.int .i64 0, .string { data := #[] }, .int .i64 0, .slice none 0 0, .slice none 0 0, .slice none 0 0] 29)) Try.prog 9 9
  go_enter Try.func6, Try.ntmps6
  go_wp2_with fail
  go_loopw [5] (fun s5 wr => ∃ i : Nat, i ≤ n ∧ i ≤ 30 ∧ s5 = .int .i64 i ∧ ∃ (vk : Int) (vt : ByteArray) (vc : Int) (ps : List Pr) (is_ : List ByteArray) (ss : List Sc) (A1 : Option Addr) (n1 c1 : Nat) (A2 : Option Addr) (n2 c2 : Nat) (A3 : Option Addr) (n3 c3 : Nat),
      Blk wr w.heap.size 29 #[.int .i64 vk, .string vt, .int .i64 vc, .slice A1 n1 c1, .slice A2 n2 c2, .slice A3 n3 c3] ∧ VSl wr ⟨vk, vt, vc, ps, is_, ss⟩ A1 n1 c1 A2 n2 c2 A3 n3 c3 ∧ (Tp wr A1 50 ∧ Tp wr A2 9 ∧ Tp wr A3 56) ∧
      Hid (HashV ⟨vk, vt, vc, ps, is_, ss⟩) ∧ MapS wr Try.prog 9 9 (w.heap.size + 1) i (hashF ps) ps.length ∧ Below w.heap.size w wr)
    (fun s5 _ => n - (intOf s5).toNat)
  case atStart => exact ⟨0, by omega, by omega, rfl, _, _, _, [], [], [], _, _, _, _, _, _, _, _, _, V0, nil_vsl, ⟨Tp.none_, Tp.none_, Tp.none_⟩, hide hash_zero, by rw [hashF_nil]; simpa using M0, (by repeat (first | (with_reducible exact Below.refl _ _) | (with_reducible assumption) | (with_reducible refine Below.drew ?_) | (with_reducible refine bdrewN ?_ _) | (with_reducible refine balloc ?_ _) | ((with_reducible refine bset ?_ ?_ _); rotate_left; (focus first | exact Nat.le_refl _ | (simp; done) | (simp; omega) | omega)) | (with_reducible refine bstep ?_ (by with_reducible assumption)) | (with_reducible refine Below.trans ?_ (by with_reducible assumption))))⟩
  case round =>
    obtain ⟨i, hi, hi30, rfl, vk, vt, vc, ps, is_, ss, A1, n1, c1, A2, n2, c2, A3, n3, c3, V, N, T, HV, M, hbr⟩ := hrel
    clear V0 M0
    have hbs := hbr.size
    have hv1 := V.lt
    have hm1 := M.lt
    by_cases hlt : i < n ∧ i < 30
    · obtain ⟨h1, h2⟩ := hlt
      have h1' : (i : Int) < (n : Int) := by omega
      have h2' : (i : Int) < 30 := by omega
      have hi0 : (0 : Int) ≤ (i : Int) := by omega
      obtain ⟨rb, ro, rfl, hrb, R⟩ := hS.raw (k := i) (by omega)
      have hdx := hd _ (List.getElem_mem (show i < l.length by omega))
      generalize (l[i]'(by omega)) = x at R hdx
      obtain ⟨xk, xy, xf, xn, xt⟩ := x
      have R2 := R.bl hrb hbr
      obtain ⟨g0, -, g2, g3, g4⟩ := R2
      simp only at g0 g2 g3 g4
      have hrw : rb < wr.heap.size := by omega
      have p1 := picked_lo xk 4 (by omega)
      have p2 := picked_hi xk 4 (by omega)
      have hR := fun w => picked_any xk 4 w hdx.1.1 hdx.1.2 (by omega) (by omega)
      generalize picked xk 4 = p at *
      have HR := hide hR
      clear hR
      (try clear cV fV); have cV := V.cell; have fV := V.frozen
      go_wp2_with fail
      refine (HR.out _).mono ?_
      rintro e w' ⟨rfl, rfl⟩
      rcases hashK_cases p1 p2 with ⟨rfl, hk⟩ | ⟨rfl, hk⟩ | ⟨rfl, hk⟩ | ⟨rfl, hk⟩
      · go_wp2_with fail
        generalize hW : wr.alloc (.cells #[.int .i64 4, .int .i64 4, .int .i64 5, .int .i64 6] 3) = W at *
        have qW : Below wr.heap.size wr W := by rw [← hW]; exact (Below.refl _ wr).alloc (Nat.le_refl _) _
        clear hW
        have V2 := V.bl qW; have N2 := N.bl qW; have M2 := M.bl qW
        have T2 := And.intro (T.1.bl qW) (And.intro (T.2.1.bl qW) (T.2.2.bl qW))
        have hrW : rb < W.heap.size := by have := qW.size; omega
        have g2' := (qW.cell (p := ⟨rb, ro + i * 5 + 2, none⟩) hrw).trans g2
        have g3' := (qW.cell (p := ⟨rb, ro + i * 5 + 3, none⟩) hrw).trans g3
        have g4' := (qW.cell (p := ⟨rb, ro + i * 5 + 4, none⟩) hrw).trans g4
        have q : Below w.heap.size w W := bstep hbr qW
        obtain ⟨cy, cf, ct, cn, hcff, hcfs, hcts, hcc, hcall⟩ := hash_cmd 4 xf xn xt (by omega) hdx.2.2.1 hdx.2.2.2.1 hdx.2.2.2.2
        have hstep := hash_step HV.out hcc (by simp) hcff
        have hDo := fun w h => Do_may ⟨vk, vt, vc, ps, is_, ss⟩ ⟨4, cy, cf, ct, cn⟩ HV.out.may' A1 A2 A3 n1 c1 n2 c2 n3 c3 w h
        have hap := fields_apart HV.out.rises
        simp only at hap
        generalize doneVal ⟨vk, vt, vc, ps, is_, ss⟩ ⟨4, cy, cf, ct, cn⟩ = D at *
        obtain ⟨⟨dk, dt, dc, dps, dis, dss⟩, ⟨rc, rt, rn, rl⟩, de⟩ := D
        obtain ⟨s1, s2, s3, s4, s5, s6⟩ := hstep
        simp only [cmdV, Int.reduceSub] at s1 s3 s4 s5 s6 hcall
        subst s1
        have HDO := hide hDo
        have HS4 := hide s2
        clear hDo s2 hcff hcc
        have HCALL := hide hcall
        clear hcall g0 g2 g3 g4 cV fV
        have hsG : ∀ w', Below W.heap.size W w' → (w'.cell? ⟨rb, ro + i * 5 + 2, none⟩ = some (.int .i64 xf) ∧ w'.cell? ⟨rb, ro + i * 5 + 3, none⟩ = some (.int .i64 xn) ∧ w'.cell? ⟨rb, ro + i * 5 + 4, none⟩ = some (.string xt)) := fun w' q => ⟨(q.cell (p := ⟨rb, ro + i * 5 + 2, none⟩) hrW).trans g2', (q.cell (p := ⟨rb, ro + i * 5 + 3, none⟩) hrW).trans g3', (q.cell (p := ⟨rb, ro + i * 5 + 4, none⟩) hrW).trans g4'⟩
        refine wp_region_x (l := []) (S := fun w' => (w'.cell? ⟨rb, ro + i * 5 + 2, none⟩ = some (.int .i64 xf) ∧ w'.cell? ⟨rb, ro + i * 5 + 3, none⟩ = some (.int .i64 xn) ∧ w'.cell? ⟨rb, ro + i * 5 + 4, none⟩ = some (.string xt))) (by kernel_rfl) (hsG _ (Below.refl _ W).drew) (fun hS => ?_)
        refine wpAnyX_take (i := 0) (v := ?xv0a) rfl (by kernel_rfl) (by kernel_rfl) (by kernel_rfl) (by kernel_rfl) (fun _ _ _ h => h) (Or.inl ⟨by rfl, ?xh0a⟩) (by assumption) ?xr0a; (case xh0a => (intro w hSw; (try dsimp only at hSw); go_simp; (try with_reducible rfl))); (try simp only [Act.put, List.setIfInBounds_toArray, List.set_cons_zero, List.set_cons_succ, List.getElem_toArray, List.getElem_cons_zero, List.getElem_cons_succ])
        refine wpAnyX_take (i := 1) (v := ?xv1a) rfl (by kernel_rfl) (by kernel_rfl) (by kernel_rfl) (by kernel_rfl) (fun _ _ _ h => h) (Or.inl ⟨by rfl, ?xh1a⟩) (by assumption) ?xr1a; (case xh1a => (intro w hSw; (try dsimp only at hSw); go_simp; (try with_reducible rfl))); (try simp only [Act.put, List.setIfInBounds_toArray, List.set_cons_zero, List.set_cons_succ, List.getElem_toArray, List.getElem_cons_zero, List.getElem_cons_succ])
        refine wpAnyX_take (i := 2) (v := ?xv2a) rfl (by kernel_rfl) (by kernel_rfl) (by kernel_rfl) (by kernel_rfl) (fun _ _ _ h => h) (Or.inl ⟨by rfl, ?xh2a⟩) (by assumption) ?xr2a; (case xh2a => (intro w hSw; (try dsimp only at hSw); go_simp; (try with_reducible rfl))); (try simp only [Act.put, List.setIfInBounds_toArray, List.set_cons_zero, List.set_cons_succ, List.getElem_toArray, List.getElem_cons_zero, List.getElem_cons_succ])
        refine wpAnyX_take (i := 3) (v := ?xv3a) rfl (by kernel_rfl) (by kernel_rfl) (by kernel_rfl) (by kernel_rfl) (fun _ _ _ h => h) (Or.inl ⟨by rfl, ?xh3a⟩) (by assumption) ?xr3a; (case xh3a => (intro w hSw; (try dsimp only at hSw); go_simp; (try with_reducible rfl))); (try simp only [Act.put, List.setIfInBounds_toArray, List.set_cons_zero, List.set_cons_succ, List.getElem_toArray, List.getElem_cons_zero, List.getElem_cons_succ])
        refine wpAnyX_take (i := 4) (v := ?xv4a) rfl (by kernel_rfl) (by kernel_rfl) (by kernel_rfl) (by kernel_rfl) (fun _ _ _ h => h) (Or.inl ⟨by rfl, ?xh4a⟩) (by assumption) ?xr4a; (case xh4a => (intro w hSw; (try dsimp only at hSw); go_simp; (try with_reducible rfl))); (try simp only [Act.put, List.setIfInBounds_toArray, List.set_cons_zero, List.set_cons_succ, List.getElem_toArray, List.getElem_cons_zero, List.getElem_cons_succ])
        refine wpAnyX_take (i := 5) (v := ?xv5a) rfl (by kernel_rfl) (by kernel_rfl) (by kernel_rfl) (by kernel_rfl) (fun _ _ _ h => h) (Or.inl ⟨by rfl, ?xh5a⟩) (by assumption) ?xr5a; (case xh5a => (intro w hSw; (try dsimp only at hSw); go_simp; (try with_reducible rfl))); (try simp only [Act.put, List.setIfInBounds_toArray, List.set_cons_zero, List.set_cons_succ, List.getElem_toArray, List.getElem_cons_zero, List.getElem_cons_succ])
        refine wpAnyX_take (i := 6) (v := ?xv6a) rfl (by kernel_rfl) (by kernel_rfl) (by kernel_rfl) (by kernel_rfl) (fun _ _ _ h => h) (Or.inl ⟨by rfl, ?xh6a⟩) (by assumption) ?xr6a; (case xh6a => (intro w hSw; (try dsimp only at hSw); go_simp; (try with_reducible rfl))); (try simp only [Act.put, List.setIfInBounds_toArray, List.set_cons_zero, List.set_cons_succ, List.getElem_toArray, List.getElem_cons_zero, List.getElem_cons_succ])
        refine wpAnyX_take (i := 7) (v := ?xv7a) rfl (by kernel_rfl) (by kernel_rfl) (by kernel_rfl) (by kernel_rfl) (fun _ _ _ h => h) (Or.inl ⟨by rfl, ?xh7a⟩) (by assumption) ?xr7a; (case xh7a => (intro w hSw; (try dsimp only at hSw); go_simp; (try with_reducible rfl))); (try simp only [Act.put, List.setIfInBounds_toArray, List.set_cons_zero, List.set_cons_succ, List.getElem_toArray, List.getElem_cons_zero, List.getElem_cons_succ])
        refine wpAnyX_take (i := 8) (v := ?xv8a) rfl (by kernel_rfl) (by kernel_rfl) (by kernel_rfl) (by kernel_rfl) (fun _ _ _ h => h) (Or.inl ⟨by rfl, ?xh8a⟩) (by assumption) ?xr8a; (case xh8a => (intro w hSw; (try dsimp only at hSw); go_simp; (try with_reducible rfl))); (try simp only [Act.put, List.setIfInBounds_toArray, List.set_cons_zero, List.set_cons_succ, List.getElem_toArray, List.getElem_cons_zero, List.getElem_cons_succ])
        refine wpAnyX_take (i := 9) (v := ?xv9a) rfl (by kernel_rfl) (by kernel_rfl) (by kernel_rfl) (by kernel_rfl) (fun _ _ _ h => h) (Or.inl ⟨by rfl, ?xh9a⟩) (by assumption) ?xr9a; (case xh9a => (intro w hSw; (try dsimp only at hSw); go_simp; (try with_reducible rfl))); (try simp only [Act.put, List.setIfInBounds_toArray, List.set_cons_zero, List.set_cons_succ, List.getElem_toArray, List.getElem_cons_zero, List.getElem_cons_succ])
        refine wpAnyX_take (i := 10) (v := ?xv10a) rfl (by kernel_rfl) (by kernel_rfl) (by kernel_rfl) (by kernel_rfl) (fun _ _ _ h => h) (Or.inl ⟨by rfl, ?xh10a⟩) (by assumption) ?xr10a; (case xh10a => (intro w hSw; (try dsimp only at hSw); go_simp; (try with_reducible rfl))); (try simp only [Act.put, List.setIfInBounds_toArray, List.set_cons_zero, List.set_cons_succ, List.getElem_toArray, List.getElem_cons_zero, List.getElem_cons_succ])
        refine wpAnyX_take (i := 11) (v := ?xv11a) rfl (by kernel_rfl) (by kernel_rfl) (by kernel_rfl) (by kernel_rfl) (fun _ _ _ h => h) (Or.inl ⟨by rfl, ?xh11a⟩) (by assumption) ?xr11a; (case xh11a => (intro w hSw; (try dsimp only at hSw); go_simp; (try with_reducible rfl))); (try simp only [Act.put, List.setIfInBounds_toArray, List.set_cons_zero, List.set_cons_succ, List.getElem_toArray, List.getElem_cons_zero, List.getElem_cons_succ])
        refine wpAnyX_take (i := 12) (v := ?xv12a) rfl (by kernel_rfl) (by kernel_rfl) (by kernel_rfl) (by kernel_rfl) (fun _ _ _ h => h) (Or.inl ⟨by rfl, ?xh12a⟩) (by assumption) ?xr12a; (case xh12a => (intro w hSw; (try dsimp only at hSw); go_simp; (try with_reducible rfl))); (try simp only [Act.put, List.setIfInBounds_toArray, List.set_cons_zero, List.set_cons_succ, List.getElem_toArray, List.getElem_cons_zero, List.getElem_cons_succ])
        refine wpAnyX_take (i := 13) (v := ?xv13a) rfl (by kernel_rfl) (by kernel_rfl) (by kernel_rfl) (by kernel_rfl) (fun _ _ _ h => h) (Or.inl ⟨by rfl, ?xh13a⟩) (by assumption) ?xr13a; (case xh13a => (intro w hSw; (try dsimp only at hSw); go_simp; (try with_reducible rfl))); (try simp only [Act.put, List.setIfInBounds_toArray, List.set_cons_zero, List.set_cons_succ, List.getElem_toArray, List.getElem_cons_zero, List.getElem_cons_succ])
        refine wpAnyX_take (i := 14) (v := ?xv14a) rfl (by kernel_rfl) (by kernel_rfl) (by kernel_rfl) (by kernel_rfl) (fun _ _ _ h => h) (Or.inl ⟨by rfl, ?xh14a⟩) (by assumption) ?xr14a; (case xh14a => (intro w hSw; (try dsimp only at hSw); go_simp; (try with_reducible rfl))); (try simp only [Act.put, List.setIfInBounds_toArray, List.set_cons_zero, List.set_cons_succ, List.getElem_toArray, List.getElem_cons_zero, List.getElem_cons_succ])
        refine wpAnyX_take (i := 15) (v := ?xv15a) rfl (by kernel_rfl) (by kernel_rfl) (by kernel_rfl) (by kernel_rfl) (fun _ _ _ h => h) (Or.inl ⟨by rfl, ?xh15a⟩) (by assumption) ?xr15a; (case xh15a => (intro w hSw; (try dsimp only at hSw); go_simp; (try with_reducible rfl))); (try simp only [Act.put, List.setIfInBounds_toArray, List.set_cons_zero, List.set_cons_succ, List.getElem_toArray, List.getElem_cons_zero, List.getElem_cons_succ])
        refine wpAnyX_take (i := 16) (v := ?xv16a) rfl (by kernel_rfl) (by kernel_rfl) (by kernel_rfl) (by kernel_rfl) (fun _ _ _ h => h) (Or.inl ⟨by rfl, ?xh16a⟩) (by assumption) ?xr16a; (case xh16a => (intro w hSw; (try dsimp only at hSw); go_simp; (try with_reducible rfl))); (try simp only [Act.put, List.setIfInBounds_toArray, List.set_cons_zero, List.set_cons_succ, List.getElem_toArray, List.getElem_cons_zero, List.getElem_cons_succ])
        refine wpAnyX_take (i := 17) (v := ?xv17a) rfl (by kernel_rfl) (by kernel_rfl) (by kernel_rfl) (by kernel_rfl) (fun _ _ _ h => h) (Or.inl ⟨by rfl, ?xh17a⟩) (by assumption) ?xr17a; (case xh17a => (intro w hSw; (try dsimp only at hSw); go_simp; (try with_reducible rfl))); (try simp only [Act.put, List.setIfInBounds_toArray, List.set_cons_zero, List.set_cons_succ, List.getElem_toArray, List.getElem_cons_zero, List.getElem_cons_succ])
        have HSG := hide hsG
        clear hsG hS g2' g3' g4'
        refine wpX_startA (n := 2 + left1 false) (listed := (fun b_ => #[true, true, true, true, true, true, true, true, true, true, true, true, true, true, true, true, true, true, false, b_, false]) false) (j := 19) (d := 7) (t := 34) (z := #[.int .i64 0, .string { data := #[] }, .string { data := #[] }, .string { data := #[] }, .int .i64 0]) ?al1a ?alna ?alla (fun al1 => ?alra); (case al1a => exact ⟨⟨_, rfl, rfl, rfl, fun a w => by simp [go_sem, execOp]⟩⟩); (case alna => kernel_rfl); (case alla => kernel_rfl)
        refine' wpX_phaseA' (f := 1) (i := 18) (L := (fun b_ => #[true, true, true, true, true, true, true, true, true, true, true, true, true, true, true, true, true, true, false, b_, false])) (L' := (fun b_ => #[true, true, true, true, true, true, true, true, true, true, true, true, true, true, true, true, true, true, true, b_, false])) (base := W.heap.size) (G := (fun w' => Below W.heap.size W w')) (x := u7) al1 ?an18a ?al18a ?aa18a ?ar18a ?ai18a ?ag18a ?ae118a ?ae318a ?ap118a HSG.out (fun w' o q => q.alloc q.size o) (fun w' q => q.size) ?aw18a ?am18a; (case an18a => rfl); (case al18a => rfl); (case aa18a => rfl); (case ar18a => kernel_rfl); (case ai18a => rfl); (case ag18a => rfl); (case ae118a => rfl); (case ae318a => (intros; rfl)); (case ap118a => (intros; rfl))
        (case aw18a => exact (Below.refl _ W).drew)
        intro b_ x_ w5 hG_ hx_ K_ hK_; (try simp only [Act.put, List.setIfInBounds_toArray, List.set_cons_zero, List.set_cons_succ, List.getElem_toArray, List.getElem_cons_zero, List.getElem_cons_succ])
        go_wp2_with fail
        refine (HCALL.out _).mono ?_
        rintro e w6 ⟨rfl, hb6⟩
        go_wp2_with fail
        have q6 : Below W.heap.size W w6 := bstep hG_ hb6
        have hS6 := HSG.out _ q6
        refine hK_.out _ _ (Or.inr hS6) ?_
        clear hK_ K_ hG_
        refine' wpX_layA' (f := 1) (L := (fun b_ => #[true, true, true, true, true, true, true, true, true, true, true, true, true, true, true, true, true, true, true, b_, false])) (base := W.heap.size) (G := (fun w' => Below w6.heap.size w6 w')) (b := b_) (x := x_) al1 ?anLa ?alLa ?aaLa ?arLa ?ae1La ?ap1La (fun w' q => HSG.out w' (bstep q6 q)) (fun w' o q => q.alloc q.size o) (fun w' q => Nat.le_trans q6.size q.size) ?awLa (hx_.bl hb6) ?amLa; (case anLa => rfl); (case alLa => rfl); (case aaLa => rfl); (case arLa => kernel_rfl); (case ae1La => rfl); (case ap1La => (intros; rfl))
        (case awLa => exact Below.refl _ w6)
        clear hx_ x_ b_ hS6
        intro g7 w7 hb7 hg7 G7
        have q7 : Below W.heap.size W w7 := bstep q6 hb7
        clear al1
        (try clear cG7 fG7); have cG7 := G7.cell; have fG7 := G7.frozen
        refine wpAnyX_one (i := 20) (by kernel_rfl) rfl (by rfl) (fun K hK => ?_); (try simp only [List.getElem_toArray, List.getElem_cons_zero, List.getElem_cons_succ])
        go_wp2_with fail
        refine hK.out _ _ (Or.inr (HSG.out _ (below_set (below_set (below_set (below_set (below_set q7 hg7 0 _) hg7 1 _) hg7 2 _) hg7 3 _) hg7 4 _))) (fun hS => ?_)
        clear hK K hS cG7 fG7
        refine wpAnyX_done (by kernel_rfl) ?_ _
        have hgV := V2.lt; have hgM := M2.lt
        have N7 := N2.bl q7
        have T7 := And.intro (T2.1.bl q7) (And.intro (T2.2.1.bl q7) (T2.2.2.bl q7))
        obtain ⟨C3, gr8⟩ := whole_command (Value.int .i64 4) (Value.string cy) (Value.string cf) (Value.string ct) (Value.int .i64 cn) G7
        have V3 := grown_blk (V2.below' q7) gr8 (by omega)
        have N3 := grown_vsl N7 T7 G7 gr8
        have M3 := (M2.bl q7).grown gr8 (by omega)
        have q8 := below_grow (bstep q q7) gr8 (by have := q.size; have := q7.size; omega) (by have := q.size; omega)
        obtain ⟨w8, hw8⟩ : ∃ w8, w8 = (((((w7.setCell ⟨g7, 0, none⟩ (Value.int .i64 4)).setCell ⟨g7, 1, none⟩ (Value.string cy)).setCell ⟨g7, 2, none⟩ (Value.string cf)).setCell ⟨g7, 3, none⟩ (Value.string ct)).setCell ⟨g7, 4, none⟩ (Value.int .i64 cn)) := ⟨_, rfl⟩
        rw [← hw8] at C3 V3 N3 M3 q8 ⊢
        clear hw8 gr8 G7 N7 T7 V2 N2 M2 T2 hb7 q7 q6 hb6 V N M T hbr
        have hc8 := C3.lt
        have q : Below w.heap.size w w8 := q8
        have hlk := M3.look_ok (T := 47) Try.underlying9 Try.underlying47 (z := .string { data := #[] }) (by kernel_rfl) (plainElem_string Try.underlying9 (s := { data := #[] }) (by decide)) (t := cf) (by unfold maxLen; omega)
        (try clear cV3 fV3); have cV3 := V3.cell; have fV3 := V3.frozen; (try clear cC3 fC3); have cC3 := C3.cell; have fC3 := C3.frozen
        cases hx : hashF ps cf with
        | none =>
          rw [hx] at hlk
          simp only [Option.getD_none, Option.isSome_none] at hlk
          go_wp2_with fail
          refine (HDO.out _ N3).mono ?_; rintro e w4 ⟨B14, m14, e14, B24, m24, e24, B34, m34, e34, B44, m44, e44, rfl, M4, L4, T4, hb4⟩; replace V3 := V3.bl hb4; replace M3 := M3.bl hb4; replace C3 := C3.bl hb4; replace q : Below w.heap.size w w4 := (by repeat (first | (with_reducible exact Below.refl _ _) | (with_reducible assumption) | (with_reducible refine Below.drew ?_) | (with_reducible refine bdrewN ?_ _) | (with_reducible refine balloc ?_ _) | ((with_reducible refine bset ?_ ?_ _); rotate_left; (focus first | exact Nat.le_refl _ | (simp; done) | (simp; omega) | omega)) | (with_reducible refine bstep ?_ (by with_reducible assumption)) | (with_reducible refine Below.trans ?_ (by with_reducible assumption)))); clear hb4
          have D4 := Blk.new w4 29 #[.int .i64 dk, .string dt, .int .i64 dc, .slice B14 m14 e14, .slice B24 m24 e24, .slice B34 m34 e34]; replace M4 := M4.al (.cells #[.int .i64 dk, .string dt, .int .i64 dc, .slice B14 m14 e14, .slice B24 m24 e24, .slice B34 m34 e34] 29); replace L4 := L4.al (.cells #[.int .i64 dk, .string dt, .int .i64 dc, .slice B14 m14 e14, .slice B24 m24 e24, .slice B34 m34 e34] 29); replace V3 := V3.al (.cells #[.int .i64 dk, .string dt, .int .i64 dc, .slice B14 m14 e14, .slice B24 m24 e24, .slice B34 m34 e34] 29); replace M3 := M3.al (.cells #[.int .i64 dk, .string dt, .int .i64 dc, .slice B14 m14 e14, .slice B24 m24 e24, .slice B34 m34 e34] 29); replace C3 := C3.al (.cells #[.int .i64 dk, .string dt, .int .i64 dc, .slice B14 m14 e14, .slice B24 m24 e24, .slice B34 m34 e34] 29); have R4 : Blk ((w4.alloc (.cells #[.int .i64 dk, .string dt, .int .i64 dc, .slice B14 m14 e14, .slice B24 m24 e24, .slice B34 m34 e34] 29)).alloc (.cells #[.int .i64 rc, .string rt, .int .i64 rn, .slice B44 m44 e44] 37)) (w4.heap.size + 1) 37 #[.int .i64 rc, .string rt, .int .i64 rn, .slice B44 m44 e44] := Blk.new' _ _ _ (by simp); replace M4 := M4.al (.cells #[.int .i64 rc, .string rt, .int .i64 rn, .slice B44 m44 e44] 37); replace L4 := L4.al (.cells #[.int .i64 rc, .string rt, .int .i64 rn, .slice B44 m44 e44] 37); replace D4 := D4.al (.cells #[.int .i64 rc, .string rt, .int .i64 rn, .slice B44 m44 e44] 37); replace V3 := V3.al (.cells #[.int .i64 rc, .string rt, .int .i64 rn, .slice B44 m44 e44] 37); replace M3 := M3.al (.cells #[.int .i64 rc, .string rt, .int .i64 rn, .slice B44 m44 e44] 37); replace C3 := C3.al (.cells #[.int .i64 rc, .string rt, .int .i64 rn, .slice B44 m44 e44] 37)
          have bx : Below w4.heap.size w4 ((w4.alloc (.cells #[.int .i64 dk, .string dt, .int .i64 dc, .slice B14 m14 e14, .slice B24 m24 e24, .slice B34 m34 e34] 29)).alloc (.cells #[.int .i64 rc, .string rt, .int .i64 rn, .slice B44 m44 e44] 37)) := (by repeat (first | (with_reducible exact Below.refl _ _) | (with_reducible assumption) | (with_reducible refine Below.drew ?_) | (with_reducible refine bdrewN ?_ _) | (with_reducible refine balloc ?_ _) | ((with_reducible refine bset ?_ ?_ _); rotate_left; (focus first | exact Nat.le_refl _ | (simp; done) | (simp; omega) | omega)) | (with_reducible refine bstep ?_ (by with_reducible assumption)) | (with_reducible refine Below.trans ?_ (by with_reducible assumption))))
          have TT := And.intro (T4.1.bl bx) (And.intro (T4.2.1.bl bx) (T4.2.2.1.bl bx))
          have q9 : Below w.heap.size w ((w4.alloc (.cells #[.int .i64 dk, .string dt, .int .i64 dc, .slice B14 m14 e14, .slice B24 m24 e24, .slice B34 m34 e34] 29)).alloc (.cells #[.int .i64 rc, .string rt, .int .i64 rn, .slice B44 m44 e44] 37)) := (by repeat (first | (with_reducible exact Below.refl _ _) | (with_reducible assumption) | (with_reducible refine Below.drew ?_) | (with_reducible refine bdrewN ?_ _) | (with_reducible refine balloc ?_ _) | ((with_reducible refine bset ?_ ?_ _); rotate_left; (focus first | exact Nat.le_refl _ | (simp; done) | (simp; omega) | omega)) | (with_reducible refine bstep ?_ (by with_reducible assumption)) | (with_reducible refine Below.trans ?_ (by with_reducible assumption))))
          have hz9 := q9.size
          clear cV3 fV3 cC3 fC3 T4 bx hlk
          obtain ⟨hc0, hn0, hf0, hl0⟩ := s3 trivial
          clear s3 s4 s5 s6
          rw [hx] at hn0
          simp only [Option.isSome_some, Option.isSome_none, if_true, Bool.false_eq_true, if_false] at hn0
          subst hc0
          subst hn0
          obtain ⟨w5, hput, M5, tu⟩ := M3.put (T := 47) Try.underlying9 Try.underlying47 (by unfold maxLen; omega) (plainElem_string Try.underlying9 (s := ct) (by unfold maxLen; omega)) (t := cf) (by unfold maxLen; omega)
          rw [hf0, ← hl0] at M5
          clear hf0 hl0
          replace q9 : Below w.heap.size w w5 := turned_below tu q9 (by omega) hz9
          (try clear cR4 fR4); have cR4 := R4.cell; have fR4 := R4.frozen; (try clear cC3 fC3); have cC3 := C3.cell; have fC3 := C3.frozen
          replace V3 := turned_blk tu V3
          have D5 := turned_blk tu D4
          replace M4 := turned_vsl tu M4 TT
          replace TT := And.intro (turned_tp tu TT.1) (And.intro (turned_tp tu TT.2.1) (turned_tp tu TT.2.2))
          have M3 := M5
          clear M5 tu
          (try clear cD5 fD5); have cD5 := D5.cell; have fD5 := D5.frozen; (try clear cV3 fV3); have cV3 := V3.cell; have fV3 := V3.frozen
          go_wp2_with (first | (at_mapUpdate; refine wpList_mapPut rfl _ _ _ _ rfl _ _ _ rfl rfl rfl hput ?_) | fail)
          go_roundw
          case rel =>
            obtain ⟨V9, gr9, sz9⟩ := whole_value (Value.int .i64 dk) (Value.string dt) (Value.int .i64 dc) (Value.slice B14 m14 e14) (Value.slice B24 m24 e24) (Value.slice B34 m34 e34) V3
            have M9 := M3.grown gr9 (by omega)
            exact ⟨i + 1, by omega, by omega, by go_num, _, _, _, _, _, _, _, _, _, _, _, _, _, _, _, V9, grown_vsl M4 TT V3 gr9, ⟨grown_tp TT.1 V3 gr9, grown_tp TT.2.1 V3 gr9, grown_tp TT.2.2 V3 gr9⟩, HS4, M9, below_grow q9 gr9 (by have := q9.size; omega) (by omega)⟩
          case measure => simp [intOf]; omega
        | some u =>
          obtain ⟨old, rfl, hmem⟩ := (hashF_iff hap).1 hx
          have hl0 : ps.length ≠ 0 := by have := List.length_pos_of_mem hmem; omega
          clear hmem
          rw [hx] at hlk
          simp only [Option.getD_some, Option.isSome_some] at hlk
          go_wp2_with fail
          refine (HDO.out _ N3).mono ?_; rintro e w4 ⟨B14, m14, e14, B24, m24, e24, B34, m34, e34, B44, m44, e44, rfl, M4, L4, T4, hb4⟩; replace V3 := V3.bl hb4; replace M3 := M3.bl hb4; replace C3 := C3.bl hb4; replace q : Below w.heap.size w w4 := (by repeat (first | (with_reducible exact Below.refl _ _) | (with_reducible assumption) | (with_reducible refine Below.drew ?_) | (with_reducible refine bdrewN ?_ _) | (with_reducible refine balloc ?_ _) | ((with_reducible refine bset ?_ ?_ _); rotate_left; (focus first | exact Nat.le_refl _ | (simp; done) | (simp; omega) | omega)) | (with_reducible refine bstep ?_ (by with_reducible assumption)) | (with_reducible refine Below.trans ?_ (by with_reducible assumption)))); clear hb4
          have D4 := Blk.new w4 29 #[.int .i64 dk, .string dt, .int .i64 dc, .slice B14 m14 e14, .slice B24 m24 e24, .slice B34 m34 e34]; replace M4 := M4.al (.cells #[.int .i64 dk, .string dt, .int .i64 dc, .slice B14 m14 e14, .slice B24 m24 e24, .slice B34 m34 e34] 29); replace L4 := L4.al (.cells #[.int .i64 dk, .string dt, .int .i64 dc, .slice B14 m14 e14, .slice B24 m24 e24, .slice B34 m34 e34] 29); replace V3 := V3.al (.cells #[.int .i64 dk, .string dt, .int .i64 dc, .slice B14 m14 e14, .slice B24 m24 e24, .slice B34 m34 e34] 29); replace M3 := M3.al (.cells #[.int .i64 dk, .string dt, .int .i64 dc, .slice B14 m14 e14, .slice B24 m24 e24, .slice B34 m34 e34] 29); replace C3 := C3.al (.cells #[.int .i64 dk, .string dt, .int .i64 dc, .slice B14 m14 e14, .slice B24 m24 e24, .slice B34 m34 e34] 29); have R4 : Blk ((w4.alloc (.cells #[.int .i64 dk, .string dt, .int .i64 dc, .slice B14 m14 e14, .slice B24 m24 e24, .slice B34 m34 e34] 29)).alloc (.cells #[.int .i64 rc, .string rt, .int .i64 rn, .slice B44 m44 e44] 37)) (w4.heap.size + 1) 37 #[.int .i64 rc, .string rt, .int .i64 rn, .slice B44 m44 e44] := Blk.new' _ _ _ (by simp); replace M4 := M4.al (.cells #[.int .i64 rc, .string rt, .int .i64 rn, .slice B44 m44 e44] 37); replace L4 := L4.al (.cells #[.int .i64 rc, .string rt, .int .i64 rn, .slice B44 m44 e44] 37); replace D4 := D4.al (.cells #[.int .i64 rc, .string rt, .int .i64 rn, .slice B44 m44 e44] 37); replace V3 := V3.al (.cells #[.int .i64 rc, .string rt, .int .i64 rn, .slice B44 m44 e44] 37); replace M3 := M3.al (.cells #[.int .i64 rc, .string rt, .int .i64 rn, .slice B44 m44 e44] 37); replace C3 := C3.al (.cells #[.int .i64 rc, .string rt, .int .i64 rn, .slice B44 m44 e44] 37)
          have bx : Below w4.heap.size w4 ((w4.alloc (.cells #[.int .i64 dk, .string dt, .int .i64 dc, .slice B14 m14 e14, .slice B24 m24 e24, .slice B34 m34 e34] 29)).alloc (.cells #[.int .i64 rc, .string rt, .int .i64 rn, .slice B44 m44 e44] 37)) := (by repeat (first | (with_reducible exact Below.refl _ _) | (with_reducible assumption) | (with_reducible refine Below.drew ?_) | (with_reducible refine bdrewN ?_ _) | (with_reducible refine balloc ?_ _) | ((with_reducible refine bset ?_ ?_ _); rotate_left; (focus first | exact Nat.le_refl _ | (simp; done) | (simp; omega) | omega)) | (with_reducible refine bstep ?_ (by with_reducible assumption)) | (with_reducible refine Below.trans ?_ (by with_reducible assumption))))
          have TT := And.intro (T4.1.bl bx) (And.intro (T4.2.1.bl bx) (T4.2.2.1.bl bx))
          have q9 : Below w.heap.size w ((w4.alloc (.cells #[.int .i64 dk, .string dt, .int .i64 dc, .slice B14 m14 e14, .slice B24 m24 e24, .slice B34 m34 e34] 29)).alloc (.cells #[.int .i64 rc, .string rt, .int .i64 rn, .slice B44 m44 e44] 37)) := (by repeat (first | (with_reducible exact Below.refl _ _) | (with_reducible assumption) | (with_reducible refine Below.drew ?_) | (with_reducible refine bdrewN ?_ _) | (with_reducible refine balloc ?_ _) | ((with_reducible refine bset ?_ ?_ _); rotate_left; (focus first | exact Nat.le_refl _ | (simp; done) | (simp; omega) | omega)) | (with_reducible refine bstep ?_ (by with_reducible assumption)) | (with_reducible refine Below.trans ?_ (by with_reducible assumption))))
          have hz9 := q9.size
          clear cV3 fV3 cC3 fC3 T4 bx hlk
          obtain ⟨hc0, hn0, hf0, hl0⟩ := s3 trivial
          clear s3 s4 s5 s6
          rw [hx] at hn0
          simp only [Option.isSome_some, Option.isSome_none, if_true, Bool.false_eq_true, if_false] at hn0
          subst hc0
          subst hn0
          obtain ⟨w5, hput, M5, tu⟩ := M3.put (T := 47) Try.underlying9 Try.underlying47 (by unfold maxLen; omega) (plainElem_string Try.underlying9 (s := ct) (by unfold maxLen; omega)) (t := cf) (by unfold maxLen; omega)
          rw [hf0, ← hl0] at M5
          clear hf0 hl0
          replace q9 : Below w.heap.size w w5 := turned_below tu q9 (by omega) hz9
          (try clear cR4 fR4); have cR4 := R4.cell; have fR4 := R4.frozen; (try clear cC3 fC3); have cC3 := C3.cell; have fC3 := C3.frozen
          replace V3 := turned_blk tu V3
          have D5 := turned_blk tu D4
          replace M4 := turned_vsl tu M4 TT
          replace TT := And.intro (turned_tp tu TT.1) (And.intro (turned_tp tu TT.2.1) (turned_tp tu TT.2.2))
          have M3 := M5
          clear M5 tu
          (try clear cD5 fD5); have cD5 := D5.cell; have fD5 := D5.frozen; (try clear cV3 fV3); have cV3 := V3.cell; have fV3 := V3.frozen
          go_wp2_with (first | (at_mapUpdate; refine wpList_mapPut rfl _ _ _ _ rfl _ _ _ rfl rfl rfl hput ?_) | fail)
          go_roundw
          case rel =>
            obtain ⟨V9, gr9, sz9⟩ := whole_value (Value.int .i64 dk) (Value.string dt) (Value.int .i64 dc) (Value.slice B14 m14 e14) (Value.slice B24 m24 e24) (Value.slice B34 m34 e34) V3
            have M9 := M3.grown gr9 (by omega)
            exact ⟨i + 1, by omega, by omega, by go_num, _, _, _, _, _, _, _, _, _, _, _, _, _, _, _, V9, grown_vsl M4 TT V3 gr9, ⟨grown_tp TT.1 V3 gr9, grown_tp TT.2.1 V3 gr9, grown_tp TT.2.2 V3 gr9⟩, HS4, M9, below_grow q9 gr9 (by have := q9.size; omega) (by omega)⟩
          case measure => simp [intOf]; omega
      · go_wp2_with fail
        generalize hW : wr.alloc (.cells #[.int .i64 4, .int .i64 4, .int .i64 5, .int .i64 6] 3) = W at *
        have qW : Below wr.heap.size wr W := by rw [← hW]; exact (Below.refl _ wr).alloc (Nat.le_refl _) _
        clear hW
        have V2 := V.bl qW; have N2 := N.bl qW; have M2 := M.bl qW
        have T2 := And.intro (T.1.bl qW) (And.intro (T.2.1.bl qW) (T.2.2.bl qW))
        have hrW : rb < W.heap.size := by have := qW.size; omega
        have g2' := (qW.cell (p := ⟨rb, ro + i * 5 + 2, none⟩) hrw).trans g2
        have g3' := (qW.cell (p := ⟨rb, ro + i * 5 + 3, none⟩) hrw).trans g3
        have g4' := (qW.cell (p := ⟨rb, ro + i * 5 + 4, none⟩) hrw).trans g4
        have q : Below w.heap.size w W := bstep hbr qW
        obtain ⟨cy, cf, ct, cn, hcff, hcfs, hcts, hcc, hcall⟩ := hash_cmd 4 xf xn xt (by omega) hdx.2.2.1 hdx.2.2.2.1 hdx.2.2.2.2
        have hstep := hash_step HV.out hcc (by simp) hcff
        have hDo := fun w h => Do_may ⟨vk, vt, vc, ps, is_, ss⟩ ⟨4, cy, cf, ct, cn⟩ HV.out.may' A1 A2 A3 n1 c1 n2 c2 n3 c3 w h
        have hap := fields_apart HV.out.rises
        simp only at hap
        generalize doneVal ⟨vk, vt, vc, ps, is_, ss⟩ ⟨4, cy, cf, ct, cn⟩ = D at *
        obtain ⟨⟨dk, dt, dc, dps, dis, dss⟩, ⟨rc, rt, rn, rl⟩, de⟩ := D
        obtain ⟨s1, s2, s3, s4, s5, s6⟩ := hstep
        simp only [cmdV, Int.reduceSub] at s1 s3 s4 s5 s6 hcall
        subst s1
        have HDO := hide hDo
        have HS4 := hide s2
        clear hDo s2 hcff hcc
        have HCALL := hide hcall
        clear hcall g0 g2 g3 g4 cV fV
        have hsG : ∀ w', Below W.heap.size W w' → (w'.cell? ⟨rb, ro + i * 5 + 2, none⟩ = some (.int .i64 xf) ∧ w'.cell? ⟨rb, ro + i * 5 + 3, none⟩ = some (.int .i64 xn) ∧ w'.cell? ⟨rb, ro + i * 5 + 4, none⟩ = some (.string xt)) := fun w' q => ⟨(q.cell (p := ⟨rb, ro + i * 5 + 2, none⟩) hrW).trans g2', (q.cell (p := ⟨rb, ro + i * 5 + 3, none⟩) hrW).trans g3', (q.cell (p := ⟨rb, ro + i * 5 + 4, none⟩) hrW).trans g4'⟩
        refine wp_region_x (l := []) (S := fun w' => (w'.cell? ⟨rb, ro + i * 5 + 2, none⟩ = some (.int .i64 xf) ∧ w'.cell? ⟨rb, ro + i * 5 + 3, none⟩ = some (.int .i64 xn) ∧ w'.cell? ⟨rb, ro + i * 5 + 4, none⟩ = some (.string xt))) (by kernel_rfl) (hsG _ (Below.refl _ W).drew) (fun hS => ?_)
        refine wpAnyX_take (i := 0) (v := ?xv0b) rfl (by kernel_rfl) (by kernel_rfl) (by kernel_rfl) (by kernel_rfl) (fun _ _ _ h => h) (Or.inl ⟨by rfl, ?xh0b⟩) (by assumption) ?xr0b; (case xh0b => (intro w hSw; (try dsimp only at hSw); go_simp; (try with_reducible rfl))); (try simp only [Act.put, List.setIfInBounds_toArray, List.set_cons_zero, List.set_cons_succ, List.getElem_toArray, List.getElem_cons_zero, List.getElem_cons_succ])
        refine wpAnyX_take (i := 1) (v := ?xv1b) rfl (by kernel_rfl) (by kernel_rfl) (by kernel_rfl) (by kernel_rfl) (fun _ _ _ h => h) (Or.inl ⟨by rfl, ?xh1b⟩) (by assumption) ?xr1b; (case xh1b => (intro w hSw; (try dsimp only at hSw); go_simp; (try with_reducible rfl))); (try simp only [Act.put, List.setIfInBounds_toArray, List.set_cons_zero, List.set_cons_succ, List.getElem_toArray, List.getElem_cons_zero, List.getElem_cons_succ])
        refine wpAnyX_take (i := 2) (v := ?xv2b) rfl (by kernel_rfl) (by kernel_rfl) (by kernel_rfl) (by kernel_rfl) (fun _ _ _ h => h) (Or.inl ⟨by rfl, ?xh2b⟩) (by assumption) ?xr2b; (case xh2b => (intro w hSw; (try dsimp only at hSw); go_simp; (try with_reducible rfl))); (try simp only [Act.put, List.setIfInBounds_toArray, List.set_cons_zero, List.set_cons_succ, List.getElem_toArray, List.getElem_cons_zero, List.getElem_cons_succ])
        refine wpAnyX_take (i := 3) (v := ?xv3b) rfl (by kernel_rfl) (by kernel_rfl) (by kernel_rfl) (by kernel_rfl) (fun _ _ _ h => h) (Or.inl ⟨by rfl, ?xh3b⟩) (by assumption) ?xr3b; (case xh3b => (intro w hSw; (try dsimp only at hSw); go_simp; (try with_reducible rfl))); (try simp only [Act.put, List.setIfInBounds_toArray, List.set_cons_zero, List.set_cons_succ, List.getElem_toArray, List.getElem_cons_zero, List.getElem_cons_succ])
        refine wpAnyX_take (i := 4) (v := ?xv4b) rfl (by kernel_rfl) (by kernel_rfl) (by kernel_rfl) (by kernel_rfl) (fun _ _ _ h => h) (Or.inl ⟨by rfl, ?xh4b⟩) (by assumption) ?xr4b; (case xh4b => (intro w hSw; (try dsimp only at hSw); go_simp; (try with_reducible rfl))); (try simp only [Act.put, List.setIfInBounds_toArray, List.set_cons_zero, List.set_cons_succ, List.getElem_toArray, List.getElem_cons_zero, List.getElem_cons_succ])
        refine wpAnyX_take (i := 5) (v := ?xv5b) rfl (by kernel_rfl) (by kernel_rfl) (by kernel_rfl) (by kernel_rfl) (fun _ _ _ h => h) (Or.inl ⟨by rfl, ?xh5b⟩) (by assumption) ?xr5b; (case xh5b => (intro w hSw; (try dsimp only at hSw); go_simp; (try with_reducible rfl))); (try simp only [Act.put, List.setIfInBounds_toArray, List.set_cons_zero, List.set_cons_succ, List.getElem_toArray, List.getElem_cons_zero, List.getElem_cons_succ])
        refine wpAnyX_take (i := 6) (v := ?xv6b) rfl (by kernel_rfl) (by kernel_rfl) (by kernel_rfl) (by kernel_rfl) (fun _ _ _ h => h) (Or.inl ⟨by rfl, ?xh6b⟩) (by assumption) ?xr6b; (case xh6b => (intro w hSw; (try dsimp only at hSw); go_simp; (try with_reducible rfl))); (try simp only [Act.put, List.setIfInBounds_toArray, List.set_cons_zero, List.set_cons_succ, List.getElem_toArray, List.getElem_cons_zero, List.getElem_cons_succ])
        refine wpAnyX_take (i := 7) (v := ?xv7b) rfl (by kernel_rfl) (by kernel_rfl) (by kernel_rfl) (by kernel_rfl) (fun _ _ _ h => h) (Or.inl ⟨by rfl, ?xh7b⟩) (by assumption) ?xr7b; (case xh7b => (intro w hSw; (try dsimp only at hSw); go_simp; (try with_reducible rfl))); (try simp only [Act.put, List.setIfInBounds_toArray, List.set_cons_zero, List.set_cons_succ, List.getElem_toArray, List.getElem_cons_zero, List.getElem_cons_succ])
        refine wpAnyX_take (i := 8) (v := ?xv8b) rfl (by kernel_rfl) (by kernel_rfl) (by kernel_rfl) (by kernel_rfl) (fun _ _ _ h => h) (Or.inl ⟨by rfl, ?xh8b⟩) (by assumption) ?xr8b; (case xh8b => (intro w hSw; (try dsimp only at hSw); go_simp; (try with_reducible rfl))); (try simp only [Act.put, List.setIfInBounds_toArray, List.set_cons_zero, List.set_cons_succ, List.getElem_toArray, List.getElem_cons_zero, List.getElem_cons_succ])
        refine wpAnyX_take (i := 9) (v := ?xv9b) rfl (by kernel_rfl) (by kernel_rfl) (by kernel_rfl) (by kernel_rfl) (fun _ _ _ h => h) (Or.inl ⟨by rfl, ?xh9b⟩) (by assumption) ?xr9b; (case xh9b => (intro w hSw; (try dsimp only at hSw); go_simp; (try with_reducible rfl))); (try simp only [Act.put, List.setIfInBounds_toArray, List.set_cons_zero, List.set_cons_succ, List.getElem_toArray, List.getElem_cons_zero, List.getElem_cons_succ])
        refine wpAnyX_take (i := 10) (v := ?xv10b) rfl (by kernel_rfl) (by kernel_rfl) (by kernel_rfl) (by kernel_rfl) (fun _ _ _ h => h) (Or.inl ⟨by rfl, ?xh10b⟩) (by assumption) ?xr10b; (case xh10b => (intro w hSw; (try dsimp only at hSw); go_simp; (try with_reducible rfl))); (try simp only [Act.put, List.setIfInBounds_toArray, List.set_cons_zero, List.set_cons_succ, List.getElem_toArray, List.getElem_cons_zero, List.getElem_cons_succ])
        refine wpAnyX_take (i := 11) (v := ?xv11b) rfl (by kernel_rfl) (by kernel_rfl) (by kernel_rfl) (by kernel_rfl) (fun _ _ _ h => h) (Or.inl ⟨by rfl, ?xh11b⟩) (by assumption) ?xr11b; (case xh11b => (intro w hSw; (try dsimp only at hSw); go_simp; (try with_reducible rfl))); (try simp only [Act.put, List.setIfInBounds_toArray, List.set_cons_zero, List.set_cons_succ, List.getElem_toArray, List.getElem_cons_zero, List.getElem_cons_succ])
        refine wpAnyX_take (i := 12) (v := ?xv12b) rfl (by kernel_rfl) (by kernel_rfl) (by kernel_rfl) (by kernel_rfl) (fun _ _ _ h => h) (Or.inl ⟨by rfl, ?xh12b⟩) (by assumption) ?xr12b; (case xh12b => (intro w hSw; (try dsimp only at hSw); go_simp; (try with_reducible rfl))); (try simp only [Act.put, List.setIfInBounds_toArray, List.set_cons_zero, List.set_cons_succ, List.getElem_toArray, List.getElem_cons_zero, List.getElem_cons_succ])
        refine wpAnyX_take (i := 13) (v := ?xv13b) rfl (by kernel_rfl) (by kernel_rfl) (by kernel_rfl) (by kernel_rfl) (fun _ _ _ h => h) (Or.inl ⟨by rfl, ?xh13b⟩) (by assumption) ?xr13b; (case xh13b => (intro w hSw; (try dsimp only at hSw); go_simp; (try with_reducible rfl))); (try simp only [Act.put, List.setIfInBounds_toArray, List.set_cons_zero, List.set_cons_succ, List.getElem_toArray, List.getElem_cons_zero, List.getElem_cons_succ])
        refine wpAnyX_take (i := 14) (v := ?xv14b) rfl (by kernel_rfl) (by kernel_rfl) (by kernel_rfl) (by kernel_rfl) (fun _ _ _ h => h) (Or.inl ⟨by rfl, ?xh14b⟩) (by assumption) ?xr14b; (case xh14b => (intro w hSw; (try dsimp only at hSw); go_simp; (try with_reducible rfl))); (try simp only [Act.put, List.setIfInBounds_toArray, List.set_cons_zero, List.set_cons_succ, List.getElem_toArray, List.getElem_cons_zero, List.getElem_cons_succ])
        refine wpAnyX_take (i := 15) (v := ?xv15b) rfl (by kernel_rfl) (by kernel_rfl) (by kernel_rfl) (by kernel_rfl) (fun _ _ _ h => h) (Or.inl ⟨by rfl, ?xh15b⟩) (by assumption) ?xr15b; (case xh15b => (intro w hSw; (try dsimp only at hSw); go_simp; (try with_reducible rfl))); (try simp only [Act.put, List.setIfInBounds_toArray, List.set_cons_zero, List.set_cons_succ, List.getElem_toArray, List.getElem_cons_zero, List.getElem_cons_succ])
        refine wpAnyX_take (i := 16) (v := ?xv16b) rfl (by kernel_rfl) (by kernel_rfl) (by kernel_rfl) (by kernel_rfl) (fun _ _ _ h => h) (Or.inl ⟨by rfl, ?xh16b⟩) (by assumption) ?xr16b; (case xh16b => (intro w hSw; (try dsimp only at hSw); go_simp; (try with_reducible rfl))); (try simp only [Act.put, List.setIfInBounds_toArray, List.set_cons_zero, List.set_cons_succ, List.getElem_toArray, List.getElem_cons_zero, List.getElem_cons_succ])
        refine wpAnyX_take (i := 17) (v := ?xv17b) rfl (by kernel_rfl) (by kernel_rfl) (by kernel_rfl) (by kernel_rfl) (fun _ _ _ h => h) (Or.inl ⟨by rfl, ?xh17b⟩) (by assumption) ?xr17b; (case xh17b => (intro w hSw; (try dsimp only at hSw); go_simp; (try with_reducible rfl))); (try simp only [Act.put, List.setIfInBounds_toArray, List.set_cons_zero, List.set_cons_succ, List.getElem_toArray, List.getElem_cons_zero, List.getElem_cons_succ])
        have HSG := hide hsG
        clear hsG hS g2' g3' g4'
        refine wpX_startA (n := 2 + left1 false) (listed := (fun b_ => #[true, true, true, true, true, true, true, true, true, true, true, true, true, true, true, true, true, true, false, b_, false]) false) (j := 19) (d := 7) (t := 34) (z := #[.int .i64 0, .string { data := #[] }, .string { data := #[] }, .string { data := #[] }, .int .i64 0]) ?al1b ?alnb ?allb (fun al1 => ?alrb); (case al1b => exact ⟨⟨_, rfl, rfl, rfl, fun a w => by simp [go_sem, execOp]⟩⟩); (case alnb => kernel_rfl); (case allb => kernel_rfl)
        refine' wpX_phaseA' (f := 1) (i := 18) (L := (fun b_ => #[true, true, true, true, true, true, true, true, true, true, true, true, true, true, true, true, true, true, false, b_, false])) (L' := (fun b_ => #[true, true, true, true, true, true, true, true, true, true, true, true, true, true, true, true, true, true, true, b_, false])) (base := W.heap.size) (G := (fun w' => Below W.heap.size W w')) (x := u7) al1 ?an18b ?al18b ?aa18b ?ar18b ?ai18b ?ag18b ?ae118b ?ae318b ?ap118b HSG.out (fun w' o q => q.alloc q.size o) (fun w' q => q.size) ?aw18b ?am18b; (case an18b => rfl); (case al18b => rfl); (case aa18b => rfl); (case ar18b => kernel_rfl); (case ai18b => rfl); (case ag18b => rfl); (case ae118b => rfl); (case ae318b => (intros; rfl)); (case ap118b => (intros; rfl))
        (case aw18b => exact (Below.refl _ W).drew)
        intro b_ x_ w5 hG_ hx_ K_ hK_; (try simp only [Act.put, List.setIfInBounds_toArray, List.set_cons_zero, List.set_cons_succ, List.getElem_toArray, List.getElem_cons_zero, List.getElem_cons_succ])
        go_wp2_with fail
        refine (HCALL.out _).mono ?_
        rintro e w6 ⟨rfl, hb6⟩
        go_wp2_with fail
        have q6 : Below W.heap.size W w6 := bstep hG_ hb6
        have hS6 := HSG.out _ q6
        refine hK_.out _ _ (Or.inr hS6) ?_
        clear hK_ K_ hG_
        refine' wpX_layA' (f := 1) (L := (fun b_ => #[true, true, true, true, true, true, true, true, true, true, true, true, true, true, true, true, true, true, true, b_, false])) (base := W.heap.size) (G := (fun w' => Below w6.heap.size w6 w')) (b := b_) (x := x_) al1 ?anLb ?alLb ?aaLb ?arLb ?ae1Lb ?ap1Lb (fun w' q => HSG.out w' (bstep q6 q)) (fun w' o q => q.alloc q.size o) (fun w' q => Nat.le_trans q6.size q.size) ?awLb (hx_.bl hb6) ?amLb; (case anLb => rfl); (case alLb => rfl); (case aaLb => rfl); (case arLb => kernel_rfl); (case ae1Lb => rfl); (case ap1Lb => (intros; rfl))
        (case awLb => exact Below.refl _ w6)
        clear hx_ x_ b_ hS6
        intro g7 w7 hb7 hg7 G7
        have q7 : Below W.heap.size W w7 := bstep q6 hb7
        clear al1
        (try clear cG7 fG7); have cG7 := G7.cell; have fG7 := G7.frozen
        refine wpAnyX_one (i := 20) (by kernel_rfl) rfl (by rfl) (fun K hK => ?_); (try simp only [List.getElem_toArray, List.getElem_cons_zero, List.getElem_cons_succ])
        go_wp2_with fail
        refine hK.out _ _ (Or.inr (HSG.out _ (below_set (below_set (below_set (below_set (below_set q7 hg7 0 _) hg7 1 _) hg7 2 _) hg7 3 _) hg7 4 _))) (fun hS => ?_)
        clear hK K hS cG7 fG7
        refine wpAnyX_done (by kernel_rfl) ?_ _
        have hgV := V2.lt; have hgM := M2.lt
        have N7 := N2.bl q7
        have T7 := And.intro (T2.1.bl q7) (And.intro (T2.2.1.bl q7) (T2.2.2.bl q7))
        obtain ⟨C3, gr8⟩ := whole_command (Value.int .i64 4) (Value.string cy) (Value.string cf) (Value.string ct) (Value.int .i64 cn) G7
        have V3 := grown_blk (V2.below' q7) gr8 (by omega)
        have N3 := grown_vsl N7 T7 G7 gr8
        have M3 := (M2.bl q7).grown gr8 (by omega)
        have q8 := below_grow (bstep q q7) gr8 (by have := q.size; have := q7.size; omega) (by have := q.size; omega)
        obtain ⟨w8, hw8⟩ : ∃ w8, w8 = (((((w7.setCell ⟨g7, 0, none⟩ (Value.int .i64 4)).setCell ⟨g7, 1, none⟩ (Value.string cy)).setCell ⟨g7, 2, none⟩ (Value.string cf)).setCell ⟨g7, 3, none⟩ (Value.string ct)).setCell ⟨g7, 4, none⟩ (Value.int .i64 cn)) := ⟨_, rfl⟩
        rw [← hw8] at C3 V3 N3 M3 q8 ⊢
        clear hw8 gr8 G7 N7 T7 V2 N2 M2 T2 hb7 q7 q6 hb6 V N M T hbr
        have hc8 := C3.lt
        have q : Below w.heap.size w w8 := q8
        have hlk := M3.look_ok (T := 47) Try.underlying9 Try.underlying47 (z := .string { data := #[] }) (by kernel_rfl) (plainElem_string Try.underlying9 (s := { data := #[] }) (by decide)) (t := cf) (by unfold maxLen; omega)
        (try clear cV3 fV3); have cV3 := V3.cell; have fV3 := V3.frozen; (try clear cC3 fC3); have cC3 := C3.cell; have fC3 := C3.frozen
        cases hx : hashF ps cf with
        | none =>
          rw [hx] at hlk
          simp only [Option.getD_none, Option.isSome_none] at hlk
          go_wp2_with fail
          refine (HDO.out _ N3).mono ?_; rintro e w4 ⟨B14, m14, e14, B24, m24, e24, B34, m34, e34, B44, m44, e44, rfl, M4, L4, T4, hb4⟩; replace V3 := V3.bl hb4; replace M3 := M3.bl hb4; replace C3 := C3.bl hb4; replace q : Below w.heap.size w w4 := (by repeat (first | (with_reducible exact Below.refl _ _) | (with_reducible assumption) | (with_reducible refine Below.drew ?_) | (with_reducible refine bdrewN ?_ _) | (with_reducible refine balloc ?_ _) | ((with_reducible refine bset ?_ ?_ _); rotate_left; (focus first | exact Nat.le_refl _ | (simp; done) | (simp; omega) | omega)) | (with_reducible refine bstep ?_ (by with_reducible assumption)) | (with_reducible refine Below.trans ?_ (by with_reducible assumption)))); clear hb4
          have D4 := Blk.new w4 29 #[.int .i64 dk, .string dt, .int .i64 dc, .slice B14 m14 e14, .slice B24 m24 e24, .slice B34 m34 e34]; replace M4 := M4.al (.cells #[.int .i64 dk, .string dt, .int .i64 dc, .slice B14 m14 e14, .slice B24 m24 e24, .slice B34 m34 e34] 29); replace L4 := L4.al (.cells #[.int .i64 dk, .string dt, .int .i64 dc, .slice B14 m14 e14, .slice B24 m24 e24, .slice B34 m34 e34] 29); replace V3 := V3.al (.cells #[.int .i64 dk, .string dt, .int .i64 dc, .slice B14 m14 e14, .slice B24 m24 e24, .slice B34 m34 e34] 29); replace M3 := M3.al (.cells #[.int .i64 dk, .string dt, .int .i64 dc, .slice B14 m14 e14, .slice B24 m24 e24, .slice B34 m34 e34] 29); replace C3 := C3.al (.cells #[.int .i64 dk, .string dt, .int .i64 dc, .slice B14 m14 e14, .slice B24 m24 e24, .slice B34 m34 e34] 29); have R4 : Blk ((w4.alloc (.cells #[.int .i64 dk, .string dt, .int .i64 dc, .slice B14 m14 e14, .slice B24 m24 e24, .slice B34 m34 e34] 29)).alloc (.cells #[.int .i64 rc, .string rt, .int .i64 rn, .slice B44 m44 e44] 37)) (w4.heap.size + 1) 37 #[.int .i64 rc, .string rt, .int .i64 rn, .slice B44 m44 e44] := Blk.new' _ _ _ (by simp); replace M4 := M4.al (.cells #[.int .i64 rc, .string rt, .int .i64 rn, .slice B44 m44 e44] 37); replace L4 := L4.al (.cells #[.int .i64 rc, .string rt, .int .i64 rn, .slice B44 m44 e44] 37); replace D4 := D4.al (.cells #[.int .i64 rc, .string rt, .int .i64 rn, .slice B44 m44 e44] 37); replace V3 := V3.al (.cells #[.int .i64 rc, .string rt, .int .i64 rn, .slice B44 m44 e44] 37); replace M3 := M3.al (.cells #[.int .i64 rc, .string rt, .int .i64 rn, .slice B44 m44 e44] 37); replace C3 := C3.al (.cells #[.int .i64 rc, .string rt, .int .i64 rn, .slice B44 m44 e44] 37)
          have bx : Below w4.heap.size w4 ((w4.alloc (.cells #[.int .i64 dk, .string dt, .int .i64 dc, .slice B14 m14 e14, .slice B24 m24 e24, .slice B34 m34 e34] 29)).alloc (.cells #[.int .i64 rc, .string rt, .int .i64 rn, .slice B44 m44 e44] 37)) := (by repeat (first | (with_reducible exact Below.refl _ _) | (with_reducible assumption) | (with_reducible refine Below.drew ?_) | (with_reducible refine bdrewN ?_ _) | (with_reducible refine balloc ?_ _) | ((with_reducible refine bset ?_ ?_ _); rotate_left; (focus first | exact Nat.le_refl _ | (simp; done) | (simp; omega) | omega)) | (with_reducible refine bstep ?_ (by with_reducible assumption)) | (with_reducible refine Below.trans ?_ (by with_reducible assumption))))
          have TT := And.intro (T4.1.bl bx) (And.intro (T4.2.1.bl bx) (T4.2.2.1.bl bx))
          have q9 : Below w.heap.size w ((w4.alloc (.cells #[.int .i64 dk, .string dt, .int .i64 dc, .slice B14 m14 e14, .slice B24 m24 e24, .slice B34 m34 e34] 29)).alloc (.cells #[.int .i64 rc, .string rt, .int .i64 rn, .slice B44 m44 e44] 37)) := (by repeat (first | (with_reducible exact Below.refl _ _) | (with_reducible assumption) | (with_reducible refine Below.drew ?_) | (with_reducible refine bdrewN ?_ _) | (with_reducible refine balloc ?_ _) | ((with_reducible refine bset ?_ ?_ _); rotate_left; (focus first | exact Nat.le_refl _ | (simp; done) | (simp; omega) | omega)) | (with_reducible refine bstep ?_ (by with_reducible assumption)) | (with_reducible refine Below.trans ?_ (by with_reducible assumption))))
          have hz9 := q9.size
          clear cV3 fV3 cC3 fC3 T4 bx hlk
          obtain ⟨hc0, hn0, hf0, hl0⟩ := s3 trivial
          clear s3 s4 s5 s6
          rw [hx] at hn0
          simp only [Option.isSome_some, Option.isSome_none, if_true, Bool.false_eq_true, if_false] at hn0
          subst hc0
          subst hn0
          obtain ⟨w5, hput, M5, tu⟩ := M3.put (T := 47) Try.underlying9 Try.underlying47 (by unfold maxLen; omega) (plainElem_string Try.underlying9 (s := ct) (by unfold maxLen; omega)) (t := cf) (by unfold maxLen; omega)
          rw [hf0, ← hl0] at M5
          clear hf0 hl0
          replace q9 : Below w.heap.size w w5 := turned_below tu q9 (by omega) hz9
          (try clear cR4 fR4); have cR4 := R4.cell; have fR4 := R4.frozen; (try clear cC3 fC3); have cC3 := C3.cell; have fC3 := C3.frozen
          replace V3 := turned_blk tu V3
          have D5 := turned_blk tu D4
          replace M4 := turned_vsl tu M4 TT
          replace TT := And.intro (turned_tp tu TT.1) (And.intro (turned_tp tu TT.2.1) (turned_tp tu TT.2.2))
          have M3 := M5
          clear M5 tu
          (try clear cD5 fD5); have cD5 := D5.cell; have fD5 := D5.frozen; (try clear cV3 fV3); have cV3 := V3.cell; have fV3 := V3.frozen
          go_wp2_with (first | (at_mapUpdate; refine wpList_mapPut rfl _ _ _ _ rfl _ _ _ rfl rfl rfl hput ?_) | fail)
          go_roundw
          case rel =>
            obtain ⟨V9, gr9, sz9⟩ := whole_value (Value.int .i64 dk) (Value.string dt) (Value.int .i64 dc) (Value.slice B14 m14 e14) (Value.slice B24 m24 e24) (Value.slice B34 m34 e34) V3
            have M9 := M3.grown gr9 (by omega)
            exact ⟨i + 1, by omega, by omega, by go_num, _, _, _, _, _, _, _, _, _, _, _, _, _, _, _, V9, grown_vsl M4 TT V3 gr9, ⟨grown_tp TT.1 V3 gr9, grown_tp TT.2.1 V3 gr9, grown_tp TT.2.2 V3 gr9⟩, HS4, M9, below_grow q9 gr9 (by have := q9.size; omega) (by omega)⟩
          case measure => simp [intOf]; omega
        | some u =>
          obtain ⟨old, rfl, hmem⟩ := (hashF_iff hap).1 hx
          have hl0 : ps.length ≠ 0 := by have := List.length_pos_of_mem hmem; omega
          clear hmem
          rw [hx] at hlk
          simp only [Option.getD_some, Option.isSome_some] at hlk
          go_wp2_with fail
          refine (HDO.out _ N3).mono ?_; rintro e w4 ⟨B14, m14, e14, B24, m24, e24, B34, m34, e34, B44, m44, e44, rfl, M4, L4, T4, hb4⟩; replace V3 := V3.bl hb4; replace M3 := M3.bl hb4; replace C3 := C3.bl hb4; replace q : Below w.heap.size w w4 := (by repeat (first | (with_reducible exact Below.refl _ _) | (with_reducible assumption) | (with_reducible refine Below.drew ?_) | (with_reducible refine bdrewN ?_ _) | (with_reducible refine balloc ?_ _) | ((with_reducible refine bset ?_ ?_ _); rotate_left; (focus first | exact Nat.le_refl _ | (simp; done) | (simp; omega) | omega)) | (with_reducible refine bstep ?_ (by with_reducible assumption)) | (with_reducible refine Below.trans ?_ (by with_reducible assumption)))); clear hb4
          have D4 := Blk.new w4 29 #[.int .i64 dk, .string dt, .int .i64 dc, .slice B14 m14 e14, .slice B24 m24 e24, .slice B34 m34 e34]; replace M4 := M4.al (.cells #[.int .i64 dk, .string dt, .int .i64 dc, .slice B14 m14 e14, .slice B24 m24 e24, .slice B34 m34 e34] 29); replace L4 := L4.al (.cells #[.int .i64 dk, .string dt, .int .i64 dc, .slice B14 m14 e14, .slice B24 m24 e24, .slice B34 m34 e34] 29); replace V3 := V3.al (.cells #[.int .i64 dk, .string dt, .int .i64 dc, .slice B14 m14 e14, .slice B24 m24 e24, .slice B34 m34 e34] 29); replace M3 := M3.al (.cells #[.int .i64 dk, .string dt, .int .i64 dc, .slice B14 m14 e14, .slice B24 m24 e24, .slice B34 m34 e34] 29); replace C3 := C3.al (.cells #[.int .i64 dk, .string dt, .int .i64 dc, .slice B14 m14 e14, .slice B24 m24 e24, .slice B34 m34 e34] 29); have R4 : Blk ((w4.alloc (.cells #[.int .i64 dk, .string dt, .int .i64 dc, .slice B14 m14 e14, .slice B24 m24 e24, .slice B34 m34 e34] 29)).alloc (.cells #[.int .i64 rc, .string rt, .int .i64 rn, .slice B44 m44 e44] 37)) (w4.heap.size + 1) 37 #[.int .i64 rc, .string rt, .int .i64 rn, .slice B44 m44 e44] := Blk.new' _ _ _ (by simp); replace M4 := M4.al (.cells #[.int .i64 rc, .string rt, .int .i64 rn, .slice B44 m44 e44] 37); replace L4 := L4.al (.cells #[.int .i64 rc, .string rt, .int .i64 rn, .slice B44 m44 e44] 37); replace D4 := D4.al (.cells #[.int .i64 rc, .string rt, .int .i64 rn, .slice B44 m44 e44] 37); replace V3 := V3.al (.cells #[.int .i64 rc, .string rt, .int .i64 rn, .slice B44 m44 e44] 37); replace M3 := M3.al (.cells #[.int .i64 rc, .string rt, .int .i64 rn, .slice B44 m44 e44] 37); replace C3 := C3.al (.cells #[.int .i64 rc, .string rt, .int .i64 rn, .slice B44 m44 e44] 37)
          have bx : Below w4.heap.size w4 ((w4.alloc (.cells #[.int .i64 dk, .string dt, .int .i64 dc, .slice B14 m14 e14, .slice B24 m24 e24, .slice B34 m34 e34] 29)).alloc (.cells #[.int .i64 rc, .string rt, .int .i64 rn, .slice B44 m44 e44] 37)) := (by repeat (first | (with_reducible exact Below.refl _ _) | (with_reducible assumption) | (with_reducible refine Below.drew ?_) | (with_reducible refine bdrewN ?_ _) | (with_reducible refine balloc ?_ _) | ((with_reducible refine bset ?_ ?_ _); rotate_left; (focus first | exact Nat.le_refl _ | (simp; done) | (simp; omega) | omega)) | (with_reducible refine bstep ?_ (by with_reducible assumption)) | (with_reducible refine Below.trans ?_ (by with_reducible assumption))))
          have TT := And.intro (T4.1.bl bx) (And.intro (T4.2.1.bl bx) (T4.2.2.1.bl bx))
          have q9 : Below w.heap.size w ((w4.alloc (.cells #[.int .i64 dk, .string dt, .int .i64 dc, .slice B14 m14 e14, .slice B24 m24 e24, .slice B34 m34 e34] 29)).alloc (.cells #[.int .i64 rc, .string rt, .int .i64 rn, .slice B44 m44 e44] 37)) := (by repeat (first | (with_reducible exact Below.refl _ _) | (with_reducible assumption) | (with_reducible refine Below.drew ?_) | (with_reducible refine bdrewN ?_ _) | (with_reducible refine balloc ?_ _) | ((with_reducible refine bset ?_ ?_ _); rotate_left; (focus first | exact Nat.le_refl _ | (simp; done) | (simp; omega) | omega)) | (with_reducible refine bstep ?_ (by with_reducible assumption)) | (with_reducible refine Below.trans ?_ (by with_reducible assumption))))
          have hz9 := q9.size
          clear cV3 fV3 cC3 fC3 T4 bx hlk
          obtain ⟨hc0, hn0, hf0, hl0⟩ := s3 trivial
          clear s3 s4 s5 s6
          rw [hx] at hn0
          simp only [Option.isSome_some, Option.isSome_none, if_true, Bool.false_eq_true, if_false] at hn0
          subst hc0
          subst hn0
          obtain ⟨w5, hput, M5, tu⟩ := M3.put (T := 47) Try.underlying9 Try.underlying47 (by unfold maxLen; omega) (plainElem_string Try.underlying9 (s := ct) (by unfold maxLen; omega)) (t := cf) (by unfold maxLen; omega)
          rw [hf0, ← hl0] at M5
          clear hf0 hl0
          replace q9 : Below w.heap.size w w5 := turned_below tu q9 (by omega) hz9
          (try clear cR4 fR4); have cR4 := R4.cell; have fR4 := R4.frozen; (try clear cC3 fC3); have cC3 := C3.cell; have fC3 := C3.frozen
          replace V3 := turned_blk tu V3
          have D5 := turned_blk tu D4
          replace M4 := turned_vsl tu M4 TT
          replace TT := And.intro (turned_tp tu TT.1) (And.intro (turned_tp tu TT.2.1) (turned_tp tu TT.2.2))
          have M3 := M5
          clear M5 tu
          (try clear cD5 fD5); have cD5 := D5.cell; have fD5 := D5.frozen; (try clear cV3 fV3); have cV3 := V3.cell; have fV3 := V3.frozen
          go_wp2_with (first | (at_mapUpdate; refine wpList_mapPut rfl _ _ _ _ rfl _ _ _ rfl rfl rfl hput ?_) | fail)
          go_roundw
          case rel =>
            obtain ⟨V9, gr9, sz9⟩ := whole_value (Value.int .i64 dk) (Value.string dt) (Value.int .i64 dc) (Value.slice B14 m14 e14) (Value.slice B24 m24 e24) (Value.slice B34 m34 e34) V3
            have M9 := M3.grown gr9 (by omega)
            exact ⟨i + 1, by omega, by omega, by go_num, _, _, _, _, _, _, _, _, _, _, _, _, _, _, _, V9, grown_vsl M4 TT V3 gr9, ⟨grown_tp TT.1 V3 gr9, grown_tp TT.2.1 V3 gr9, grown_tp TT.2.2 V3 gr9⟩, HS4, M9, below_grow q9 gr9 (by have := q9.size; omega) (by omega)⟩
          case measure => simp [intOf]; omega
      · go_wp2_with fail
        generalize hW : wr.alloc (.cells #[.int .i64 4, .int .i64 4, .int .i64 5, .int .i64 6] 3) = W at *
        have qW : Below wr.heap.size wr W := by rw [← hW]; exact (Below.refl _ wr).alloc (Nat.le_refl _) _
        clear hW
        have V2 := V.bl qW; have N2 := N.bl qW; have M2 := M.bl qW
        have T2 := And.intro (T.1.bl qW) (And.intro (T.2.1.bl qW) (T.2.2.bl qW))
        have hrW : rb < W.heap.size := by have := qW.size; omega
        have g2' := (qW.cell (p := ⟨rb, ro + i * 5 + 2, none⟩) hrw).trans g2
        have g3' := (qW.cell (p := ⟨rb, ro + i * 5 + 3, none⟩) hrw).trans g3
        have g4' := (qW.cell (p := ⟨rb, ro + i * 5 + 4, none⟩) hrw).trans g4
        have q : Below w.heap.size w W := bstep hbr qW
        obtain ⟨cy, cf, ct, cn, hcff, hcfs, hcts, hcc, hcall⟩ := hash_cmd 5 xf xn xt (by omega) hdx.2.2.1 hdx.2.2.2.1 hdx.2.2.2.2
        have hstep := hash_step HV.out hcc (by simp) hcff
        have hDo := fun w h => Do_may ⟨vk, vt, vc, ps, is_, ss⟩ ⟨5, cy, cf, ct, cn⟩ HV.out.may' A1 A2 A3 n1 c1 n2 c2 n3 c3 w h
        have hap := fields_apart HV.out.rises
        simp only at hap
        generalize doneVal ⟨vk, vt, vc, ps, is_, ss⟩ ⟨5, cy, cf, ct, cn⟩ = D at *
        obtain ⟨⟨dk, dt, dc, dps, dis, dss⟩, ⟨rc, rt, rn, rl⟩, de⟩ := D
        obtain ⟨s1, s2, s3, s4, s5, s6⟩ := hstep
        simp only [cmdV, Int.reduceSub] at s1 s3 s4 s5 s6 hcall
        subst s1
        have HDO := hide hDo
        have HS4 := hide s2
        clear hDo s2 hcff hcc
        have HCALL := hide hcall
        clear hcall g0 g2 g3 g4 cV fV
        have hsG : ∀ w', Below W.heap.size W w' → (w'.cell? ⟨rb, ro + i * 5 + 2, none⟩ = some (.int .i64 xf) ∧ w'.cell? ⟨rb, ro + i * 5 + 3, none⟩ = some (.int .i64 xn) ∧ w'.cell? ⟨rb, ro + i * 5 + 4, none⟩ = some (.string xt)) := fun w' q => ⟨(q.cell (p := ⟨rb, ro + i * 5 + 2, none⟩) hrW).trans g2', (q.cell (p := ⟨rb, ro + i * 5 + 3, none⟩) hrW).trans g3', (q.cell (p := ⟨rb, ro + i * 5 + 4, none⟩) hrW).trans g4'⟩
        refine wp_region_x (l := []) (S := fun w' => (w'.cell? ⟨rb, ro + i * 5 + 2, none⟩ = some (.int .i64 xf) ∧ w'.cell? ⟨rb, ro + i * 5 + 3, none⟩ = some (.int .i64 xn) ∧ w'.cell? ⟨rb, ro + i * 5 + 4, none⟩ = some (.string xt))) (by kernel_rfl) (hsG _ (Below.refl _ W).drew) (fun hS => ?_)
        refine wpAnyX_take (i := 0) (v := ?xv0c) rfl (by kernel_rfl) (by kernel_rfl) (by kernel_rfl) (by kernel_rfl) (fun _ _ _ h => h) (Or.inl ⟨by rfl, ?xh0c⟩) (by assumption) ?xr0c; (case xh0c => (intro w hSw; (try dsimp only at hSw); go_simp; (try with_reducible rfl))); (try simp only [Act.put, List.setIfInBounds_toArray, List.set_cons_zero, List.set_cons_succ, List.getElem_toArray, List.getElem_cons_zero, List.getElem_cons_succ])
        refine wpAnyX_take (i := 1) (v := ?xv1c) rfl (by kernel_rfl) (by kernel_rfl) (by kernel_rfl) (by kernel_rfl) (fun _ _ _ h => h) (Or.inl ⟨by rfl, ?xh1c⟩) (by assumption) ?xr1c; (case xh1c => (intro w hSw; (try dsimp only at hSw); go_simp; (try with_reducible rfl))); (try simp only [Act.put, List.setIfInBounds_toArray, List.set_cons_zero, List.set_cons_succ, List.getElem_toArray, List.getElem_cons_zero, List.getElem_cons_succ])
        refine wpAnyX_take (i := 2) (v := ?xv2c) rfl (by kernel_rfl) (by kernel_rfl) (by kernel_rfl) (by kernel_rfl) (fun _ _ _ h => h) (Or.inl ⟨by rfl, ?xh2c⟩) (by assumption) ?xr2c; (case xh2c => (intro w hSw; (try dsimp only at hSw); go_simp; (try with_reducible rfl))); (try simp only [Act.put, List.setIfInBounds_toArray, List.set_cons_zero, List.set_cons_succ, List.getElem_toArray, List.getElem_cons_zero, List.getElem_cons_succ])
        refine wpAnyX_take (i := 3) (v := ?xv3c) rfl (by kernel_rfl) (by kernel_rfl) (by kernel_rfl) (by kernel_rfl) (fun _ _ _ h => h) (Or.inl ⟨by rfl, ?xh3c⟩) (by assumption) ?xr3c; (case xh3c => (intro w hSw; (try dsimp only at hSw); go_simp; (try with_reducible rfl))); (try simp only [Act.put, List.setIfInBounds_toArray, List.set_cons_zero, List.set_cons_succ, List.getElem_toArray, List.getElem_cons_zero, List.getElem_cons_succ])
        refine wpAnyX_take (i := 4) (v := ?xv4c) rfl (by kernel_rfl) (by kernel_rfl) (by kernel_rfl) (by kernel_rfl) (fun _ _ _ h => h) (Or.inl ⟨by rfl, ?xh4c⟩) (by assumption) ?xr4c; (case xh4c => (intro w hSw; (try dsimp only at hSw); go_simp; (try with_reducible rfl))); (try simp only [Act.put, List.setIfInBounds_toArray, List.set_cons_zero, List.set_cons_succ, List.getElem_toArray, List.getElem_cons_zero, List.getElem_cons_succ])
        refine wpAnyX_take (i := 5) (v := ?xv5c) rfl (by kernel_rfl) (by kernel_rfl) (by kernel_rfl) (by kernel_rfl) (fun _ _ _ h => h) (Or.inl ⟨by rfl, ?xh5c⟩) (by assumption) ?xr5c; (case xh5c => (intro w hSw; (try dsimp only at hSw); go_simp; (try with_reducible rfl))); (try simp only [Act.put, List.setIfInBounds_toArray, List.set_cons_zero, List.set_cons_succ, List.getElem_toArray, List.getElem_cons_zero, List.getElem_cons_succ])
        refine wpAnyX_take (i := 6) (v := ?xv6c) rfl (by kernel_rfl) (by kernel_rfl) (by kernel_rfl) (by kernel_rfl) (fun _ _ _ h => h) (Or.inl ⟨by rfl, ?xh6c⟩) (by assumption) ?xr6c; (case xh6c => (intro w hSw; (try dsimp only at hSw); go_simp; (try with_reducible rfl))); (try simp only [Act.put, List.setIfInBounds_toArray, List.set_cons_zero, List.set_cons_succ, List.getElem_toArray, List.getElem_cons_zero, List.getElem_cons_succ])
        refine wpAnyX_take (i := 7) (v := ?xv7c) rfl (by kernel_rfl) (by kernel_rfl) (by kernel_rfl) (by kernel_rfl) (fun _ _ _ h => h) (Or.inl ⟨by rfl, ?xh7c⟩) (by assumption) ?xr7c; (case xh7c => (intro w hSw; (try dsimp only at hSw); go_simp; (try with_reducible rfl))); (try simp only [Act.put, List.setIfInBounds_toArray, List.set_cons_zero, List.set_cons_succ, List.getElem_toArray, List.getElem_cons_zero, List.getElem_cons_succ])
        refine wpAnyX_take (i := 8) (v := ?xv8c) rfl (by kernel_rfl) (by kernel_rfl) (by kernel_rfl) (by kernel_rfl) (fun _ _ _ h => h) (Or.inl ⟨by rfl, ?xh8c⟩) (by assumption) ?xr8c; (case xh8c => (intro w hSw; (try dsimp only at hSw); go_simp; (try with_reducible rfl))); (try simp only [Act.put, List.setIfInBounds_toArray, List.set_cons_zero, List.set_cons_succ, List.getElem_toArray, List.getElem_cons_zero, List.getElem_cons_succ])
        refine wpAnyX_take (i := 9) (v := ?xv9c) rfl (by kernel_rfl) (by kernel_rfl) (by kernel_rfl) (by kernel_rfl) (fun _ _ _ h => h) (Or.inl ⟨by rfl, ?xh9c⟩) (by assumption) ?xr9c; (case xh9c => (intro w hSw; (try dsimp only at hSw); go_simp; (try with_reducible rfl))); (try simp only [Act.put, List.setIfInBounds_toArray, List.set_cons_zero, List.set_cons_succ, List.getElem_toArray, List.getElem_cons_zero, List.getElem_cons_succ])
        refine wpAnyX_take (i := 10) (v := ?xv10c) rfl (by kernel_rfl) (by kernel_rfl) (by kernel_rfl) (by kernel_rfl) (fun _ _ _ h => h) (Or.inl ⟨by rfl, ?xh10c⟩) (by assumption) ?xr10c; (case xh10c => (intro w hSw; (try dsimp only at hSw); go_simp; (try with_reducible rfl))); (try simp only [Act.put, List.setIfInBounds_toArray, List.set_cons_zero, List.set_cons_succ, List.getElem_toArray, List.getElem_cons_zero, List.getElem_cons_succ])
        refine wpAnyX_take (i := 11) (v := ?xv11c) rfl (by kernel_rfl) (by kernel_rfl) (by kernel_rfl) (by kernel_rfl) (fun _ _ _ h => h) (Or.inl ⟨by rfl, ?xh11c⟩) (by assumption) ?xr11c; (case xh11c => (intro w hSw; (try dsimp only at hSw); go_simp; (try with_reducible rfl))); (try simp only [Act.put, List.setIfInBounds_toArray, List.set_cons_zero, List.set_cons_succ, List.getElem_toArray, List.getElem_cons_zero, List.getElem_cons_succ])
        refine wpAnyX_take (i := 12) (v := ?xv12c) rfl (by kernel_rfl) (by kernel_rfl) (by kernel_rfl) (by kernel_rfl) (fun _ _ _ h => h) (Or.inl ⟨by rfl, ?xh12c⟩) (by assumption) ?xr12c; (case xh12c => (intro w hSw; (try dsimp only at hSw); go_simp; (try with_reducible rfl))); (try simp only [Act.put, List.setIfInBounds_toArray, List.set_cons_zero, List.set_cons_succ, List.getElem_toArray, List.getElem_cons_zero, List.getElem_cons_succ])
        refine wpAnyX_take (i := 13) (v := ?xv13c) rfl (by kernel_rfl) (by kernel_rfl) (by kernel_rfl) (by kernel_rfl) (fun _ _ _ h => h) (Or.inl ⟨by rfl, ?xh13c⟩) (by assumption) ?xr13c; (case xh13c => (intro w hSw; (try dsimp only at hSw); go_simp; (try with_reducible rfl))); (try simp only [Act.put, List.setIfInBounds_toArray, List.set_cons_zero, List.set_cons_succ, List.getElem_toArray, List.getElem_cons_zero, List.getElem_cons_succ])
        refine wpAnyX_take (i := 14) (v := ?xv14c) rfl (by kernel_rfl) (by kernel_rfl) (by kernel_rfl) (by kernel_rfl) (fun _ _ _ h => h) (Or.inl ⟨by rfl, ?xh14c⟩) (by assumption) ?xr14c; (case xh14c => (intro w hSw; (try dsimp only at hSw); go_simp; (try with_reducible rfl))); (try simp only [Act.put, List.setIfInBounds_toArray, List.set_cons_zero, List.set_cons_succ, List.getElem_toArray, List.getElem_cons_zero, List.getElem_cons_succ])
        refine wpAnyX_take (i := 15) (v := ?xv15c) rfl (by kernel_rfl) (by kernel_rfl) (by kernel_rfl) (by kernel_rfl) (fun _ _ _ h => h) (Or.inl ⟨by rfl, ?xh15c⟩) (by assumption) ?xr15c; (case xh15c => (intro w hSw; (try dsimp only at hSw); go_simp; (try with_reducible rfl))); (try simp only [Act.put, List.setIfInBounds_toArray, List.set_cons_zero, List.set_cons_succ, List.getElem_toArray, List.getElem_cons_zero, List.getElem_cons_succ])
        refine wpAnyX_take (i := 16) (v := ?xv16c) rfl (by kernel_rfl) (by kernel_rfl) (by kernel_rfl) (by kernel_rfl) (fun _ _ _ h => h) (Or.inl ⟨by rfl, ?xh16c⟩) (by assumption) ?xr16c; (case xh16c => (intro w hSw; (try dsimp only at hSw); go_simp; (try with_reducible rfl))); (try simp only [Act.put, List.setIfInBounds_toArray, List.set_cons_zero, List.set_cons_succ, List.getElem_toArray, List.getElem_cons_zero, List.getElem_cons_succ])
        refine wpAnyX_take (i := 17) (v := ?xv17c) rfl (by kernel_rfl) (by kernel_rfl) (by kernel_rfl) (by kernel_rfl) (fun _ _ _ h => h) (Or.inl ⟨by rfl, ?xh17c⟩) (by assumption) ?xr17c; (case xh17c => (intro w hSw; (try dsimp only at hSw); go_simp; (try with_reducible rfl))); (try simp only [Act.put, List.setIfInBounds_toArray, List.set_cons_zero, List.set_cons_succ, List.getElem_toArray, List.getElem_cons_zero, List.getElem_cons_succ])
        have HSG := hide hsG
        clear hsG hS g2' g3' g4'
        refine wpX_startA (n := 2 + left1 false) (listed := (fun b_ => #[true, true, true, true, true, true, true, true, true, true, true, true, true, true, true, true, true, true, false, b_, false]) false) (j := 19) (d := 7) (t := 34) (z := #[.int .i64 0, .string { data := #[] }, .string { data := #[] }, .string { data := #[] }, .int .i64 0]) ?al1c ?alnc ?allc (fun al1 => ?alrc); (case al1c => exact ⟨⟨_, rfl, rfl, rfl, fun a w => by simp [go_sem, execOp]⟩⟩); (case alnc => kernel_rfl); (case allc => kernel_rfl)
        refine' wpX_phaseA' (f := 1) (i := 18) (L := (fun b_ => #[true, true, true, true, true, true, true, true, true, true, true, true, true, true, true, true, true, true, false, b_, false])) (L' := (fun b_ => #[true, true, true, true, true, true, true, true, true, true, true, true, true, true, true, true, true, true, true, b_, false])) (base := W.heap.size) (G := (fun w' => Below W.heap.size W w')) (x := u7) al1 ?an18c ?al18c ?aa18c ?ar18c ?ai18c ?ag18c ?ae118c ?ae318c ?ap118c HSG.out (fun w' o q => q.alloc q.size o) (fun w' q => q.size) ?aw18c ?am18c; (case an18c => rfl); (case al18c => rfl); (case aa18c => rfl); (case ar18c => kernel_rfl); (case ai18c => rfl); (case ag18c => rfl); (case ae118c => rfl); (case ae318c => (intros; rfl)); (case ap118c => (intros; rfl))
        (case aw18c => exact (Below.refl _ W).drew)
        intro b_ x_ w5 hG_ hx_ K_ hK_; (try simp only [Act.put, List.setIfInBounds_toArray, List.set_cons_zero, List.set_cons_succ, List.getElem_toArray, List.getElem_cons_zero, List.getElem_cons_succ])
        go_wp2_with fail
        refine (HCALL.out _).mono ?_
        rintro e w6 ⟨rfl, hb6⟩
        go_wp2_with fail
        have q6 : Below W.heap.size W w6 := bstep hG_ hb6
        have hS6 := HSG.out _ q6
        refine hK_.out _ _ (Or.inr hS6) ?_
        clear hK_ K_ hG_
        refine' wpX_layA' (f := 1) (L := (fun b_ => #[true, true, true, true, true, true, true, true, true, true, true, true, true, true, true, true, true, true, true, b_, false])) (base := W.heap.size) (G := (fun w' => Below w6.heap.size w6 w')) (b := b_) (x := x_) al1 ?anLc ?alLc ?aaLc ?arLc ?ae1Lc ?ap1Lc (fun w' q => HSG.out w' (bstep q6 q)) (fun w' o q => q.alloc q.size o) (fun w' q => Nat.le_trans q6.size q.size) ?awLc (hx_.bl hb6) ?amLc; (case anLc => rfl); (case alLc => rfl); (case aaLc => rfl); (case arLc => kernel_rfl); (case ae1Lc => rfl); (case ap1Lc => (intros; rfl))
        (case awLc => exact Below.refl _ w6)
        clear hx_ x_ b_ hS6
        intro g7 w7 hb7 hg7 G7
        have q7 : Below W.heap.size W w7 := bstep q6 hb7
        clear al1
        (try clear cG7 fG7); have cG7 := G7.cell; have fG7 := G7.frozen
        refine wpAnyX_one (i := 20) (by kernel_rfl) rfl (by rfl) (fun K hK => ?_); (try simp only [List.getElem_toArray, List.getElem_cons_zero, List.getElem_cons_succ])
        go_wp2_with fail
        refine hK.out _ _ (Or.inr (HSG.out _ (below_set (below_set (below_set (below_set (below_set q7 hg7 0 _) hg7 1 _) hg7 2 _) hg7 3 _) hg7 4 _))) (fun hS => ?_)
        clear hK K hS cG7 fG7
        refine wpAnyX_done (by kernel_rfl) ?_ _
        have hgV := V2.lt; have hgM := M2.lt
        have N7 := N2.bl q7
        have T7 := And.intro (T2.1.bl q7) (And.intro (T2.2.1.bl q7) (T2.2.2.bl q7))
        obtain ⟨C3, gr8⟩ := whole_command (Value.int .i64 5) (Value.string cy) (Value.string cf) (Value.string ct) (Value.int .i64 cn) G7
        have V3 := grown_blk (V2.below' q7) gr8 (by omega)
        have N3 := grown_vsl N7 T7 G7 gr8
        have M3 := (M2.bl q7).grown gr8 (by omega)
        have q8 := below_grow (bstep q q7) gr8 (by have := q.size; have := q7.size; omega) (by have := q.size; omega)
        obtain ⟨w8, hw8⟩ : ∃ w8, w8 = (((((w7.setCell ⟨g7, 0, none⟩ (Value.int .i64 5)).setCell ⟨g7, 1, none⟩ (Value.string cy)).setCell ⟨g7, 2, none⟩ (Value.string cf)).setCell ⟨g7, 3, none⟩ (Value.string ct)).setCell ⟨g7, 4, none⟩ (Value.int .i64 cn)) := ⟨_, rfl⟩
        rw [← hw8] at C3 V3 N3 M3 q8 ⊢
        clear hw8 gr8 G7 N7 T7 V2 N2 M2 T2 hb7 q7 q6 hb6 V N M T hbr
        have hc8 := C3.lt
        have q : Below w.heap.size w w8 := q8
        have hlk := M3.look_ok (T := 47) Try.underlying9 Try.underlying47 (z := .string { data := #[] }) (by kernel_rfl) (plainElem_string Try.underlying9 (s := { data := #[] }) (by decide)) (t := cf) (by unfold maxLen; omega)
        (try clear cV3 fV3); have cV3 := V3.cell; have fV3 := V3.frozen; (try clear cC3 fC3); have cC3 := C3.cell; have fC3 := C3.frozen
        cases hx : hashF ps cf with
        | none =>
          rw [hx] at hlk
          simp only [Option.getD_none, Option.isSome_none] at hlk
          go_wp2_with fail
          refine (HDO.out _ N3).mono ?_; rintro e w4 ⟨B14, m14, e14, B24, m24, e24, B34, m34, e34, B44, m44, e44, rfl, M4, L4, T4, hb4⟩; replace V3 := V3.bl hb4; replace M3 := M3.bl hb4; replace C3 := C3.bl hb4; replace q : Below w.heap.size w w4 := (by repeat (first | (with_reducible exact Below.refl _ _) | (with_reducible assumption) | (with_reducible refine Below.drew ?_) | (with_reducible refine bdrewN ?_ _) | (with_reducible refine balloc ?_ _) | ((with_reducible refine bset ?_ ?_ _); rotate_left; (focus first | exact Nat.le_refl _ | (simp; done) | (simp; omega) | omega)) | (with_reducible refine bstep ?_ (by with_reducible assumption)) | (with_reducible refine Below.trans ?_ (by with_reducible assumption)))); clear hb4
          have D4 := Blk.new w4 29 #[.int .i64 dk, .string dt, .int .i64 dc, .slice B14 m14 e14, .slice B24 m24 e24, .slice B34 m34 e34]; replace M4 := M4.al (.cells #[.int .i64 dk, .string dt, .int .i64 dc, .slice B14 m14 e14, .slice B24 m24 e24, .slice B34 m34 e34] 29); replace L4 := L4.al (.cells #[.int .i64 dk, .string dt, .int .i64 dc, .slice B14 m14 e14, .slice B24 m24 e24, .slice B34 m34 e34] 29); replace V3 := V3.al (.cells #[.int .i64 dk, .string dt, .int .i64 dc, .slice B14 m14 e14, .slice B24 m24 e24, .slice B34 m34 e34] 29); replace M3 := M3.al (.cells #[.int .i64 dk, .string dt, .int .i64 dc, .slice B14 m14 e14, .slice B24 m24 e24, .slice B34 m34 e34] 29); replace C3 := C3.al (.cells #[.int .i64 dk, .string dt, .int .i64 dc, .slice B14 m14 e14, .slice B24 m24 e24, .slice B34 m34 e34] 29); have R4 : Blk ((w4.alloc (.cells #[.int .i64 dk, .string dt, .int .i64 dc, .slice B14 m14 e14, .slice B24 m24 e24, .slice B34 m34 e34] 29)).alloc (.cells #[.int .i64 rc, .string rt, .int .i64 rn, .slice B44 m44 e44] 37)) (w4.heap.size + 1) 37 #[.int .i64 rc, .string rt, .int .i64 rn, .slice B44 m44 e44] := Blk.new' _ _ _ (by simp); replace M4 := M4.al (.cells #[.int .i64 rc, .string rt, .int .i64 rn, .slice B44 m44 e44] 37); replace L4 := L4.al (.cells #[.int .i64 rc, .string rt, .int .i64 rn, .slice B44 m44 e44] 37); replace D4 := D4.al (.cells #[.int .i64 rc, .string rt, .int .i64 rn, .slice B44 m44 e44] 37); replace V3 := V3.al (.cells #[.int .i64 rc, .string rt, .int .i64 rn, .slice B44 m44 e44] 37); replace M3 := M3.al (.cells #[.int .i64 rc, .string rt, .int .i64 rn, .slice B44 m44 e44] 37); replace C3 := C3.al (.cells #[.int .i64 rc, .string rt, .int .i64 rn, .slice B44 m44 e44] 37)
          have bx : Below w4.heap.size w4 ((w4.alloc (.cells #[.int .i64 dk, .string dt, .int .i64 dc, .slice B14 m14 e14, .slice B24 m24 e24, .slice B34 m34 e34] 29)).alloc (.cells #[.int .i64 rc, .string rt, .int .i64 rn, .slice B44 m44 e44] 37)) := (by repeat (first | (with_reducible exact Below.refl _ _) | (with_reducible assumption) | (with_reducible refine Below.drew ?_) | (with_reducible refine bdrewN ?_ _) | (with_reducible refine balloc ?_ _) | ((with_reducible refine bset ?_ ?_ _); rotate_left; (focus first | exact Nat.le_refl _ | (simp; done) | (simp; omega) | omega)) | (with_reducible refine bstep ?_ (by with_reducible assumption)) | (with_reducible refine Below.trans ?_ (by with_reducible assumption))))
          have TT := And.intro (T4.1.bl bx) (And.intro (T4.2.1.bl bx) (T4.2.2.1.bl bx))
          have q9 : Below w.heap.size w ((w4.alloc (.cells #[.int .i64 dk, .string dt, .int .i64 dc, .slice B14 m14 e14, .slice B24 m24 e24, .slice B34 m34 e34] 29)).alloc (.cells #[.int .i64 rc, .string rt, .int .i64 rn, .slice B44 m44 e44] 37)) := (by repeat (first | (with_reducible exact Below.refl _ _) | (with_reducible assumption) | (with_reducible refine Below.drew ?_) | (with_reducible refine bdrewN ?_ _) | (with_reducible refine balloc ?_ _) | ((with_reducible refine bset ?_ ?_ _); rotate_left; (focus first | exact Nat.le_refl _ | (simp; done) | (simp; omega) | omega)) | (with_reducible refine bstep ?_ (by with_reducible assumption)) | (with_reducible refine Below.trans ?_ (by with_reducible assumption))))
          have hz9 := q9.size
          clear cV3 fV3 cC3 fC3 T4 bx hlk
          by_cases hl0 : ps.length = 0
          · obtain ⟨hc5, hdn⟩ := s4 (by decide) hl0
            clear s3 s4 s5 s6
            have hnil : ps = [] := List.eq_nil_of_length_eq_zero hl0
            subst hc5
            subst hdn
            subst hnil
            replace M3 := M3.mono (Nat.le_succ i)
            (try clear cD4 fD4); have cD4 := D4.cell; have fD4 := D4.frozen; (try clear cR4 fR4); have cR4 := R4.cell; have fR4 := R4.frozen; (try clear cC3 fC3); have cC3 := C3.cell; have fC3 := C3.frozen; (try clear cV3 fV3); have cV3 := V3.cell; have fV3 := V3.frozen
            go_wp2_with (first | (at_len; refine wpList_mapLen rfl _ _ rfl Try.underlying47 M3 rfl ?_) | fail)
            go_roundw
            case rel =>
              obtain ⟨V9, gr9, sz9⟩ := whole_value (Value.int .i64 dk) (Value.string dt) (Value.int .i64 dc) (Value.slice B14 m14 e14) (Value.slice B24 m24 e24) (Value.slice B34 m34 e34) V3
              have M9 := M3.grown gr9 (by omega)
              exact ⟨i + 1, by omega, by omega, by go_num, _, _, _, _, _, _, _, _, _, _, _, _, _, _, _, V9, grown_vsl M4 TT V3 gr9, ⟨grown_tp TT.1 V3 gr9, grown_tp TT.2.1 V3 gr9, grown_tp TT.2.2 V3 gr9⟩, HS4, M9, below_grow q9 gr9 (by have := q9.size; omega) (by omega)⟩
            case measure => simp [intOf]; omega
          · have hlz : ((ps.length : Int) == 0) = false := by rw [beq_eq_false_iff_ne]; omega
            have M30 := M3
            obtain ⟨hdp, h5⟩ := s5 trivial
            have hc0 := (h5 hl0).2 hx
            subst hc0
            clear s3 s4 s5 s6 h5
            subst hdp
            replace M3 := M3.mono (Nat.le_succ i)
            (try clear cD4 fD4); have cD4 := D4.cell; have fD4 := D4.frozen; (try clear cR4 fR4); have cR4 := R4.cell; have fR4 := R4.frozen; (try clear cC3 fC3); have cC3 := C3.cell; have fC3 := C3.frozen; (try clear cV3 fV3); have cV3 := V3.cell; have fV3 := V3.frozen
            go_wp2_with (first | (at_len; refine wpList_mapLen rfl _ _ rfl Try.underlying47 M30 rfl ?_) | fail)
            go_roundw
            case rel =>
              obtain ⟨V9, gr9, sz9⟩ := whole_value (Value.int .i64 dk) (Value.string dt) (Value.int .i64 dc) (Value.slice B14 m14 e14) (Value.slice B24 m24 e24) (Value.slice B34 m34 e34) V3
              have M9 := M3.grown gr9 (by omega)
              exact ⟨i + 1, by omega, by omega, by go_num, _, _, _, _, _, _, _, _, _, _, _, _, _, _, _, V9, grown_vsl M4 TT V3 gr9, ⟨grown_tp TT.1 V3 gr9, grown_tp TT.2.1 V3 gr9, grown_tp TT.2.2 V3 gr9⟩, HS4, M9, below_grow q9 gr9 (by have := q9.size; omega) (by omega)⟩
            case measure => simp [intOf]; omega
        | some u =>
          obtain ⟨old, rfl, hmem⟩ := (hashF_iff hap).1 hx
          have hl0 : ps.length ≠ 0 := by have := List.length_pos_of_mem hmem; omega
          clear hmem
          rw [hx] at hlk
          simp only [Option.getD_some, Option.isSome_some] at hlk
          go_wp2_with fail
          refine (HDO.out _ N3).mono ?_; rintro e w4 ⟨B14, m14, e14, B24, m24, e24, B34, m34, e34, B44, m44, e44, rfl, M4, L4, T4, hb4⟩; replace V3 := V3.bl hb4; replace M3 := M3.bl hb4; replace C3 := C3.bl hb4; replace q : Below w.heap.size w w4 := (by repeat (first | (with_reducible exact Below.refl _ _) | (with_reducible assumption) | (with_reducible refine Below.drew ?_) | (with_reducible refine bdrewN ?_ _) | (with_reducible refine balloc ?_ _) | ((with_reducible refine bset ?_ ?_ _); rotate_left; (focus first | exact Nat.le_refl _ | (simp; done) | (simp; omega) | omega)) | (with_reducible refine bstep ?_ (by with_reducible assumption)) | (with_reducible refine Below.trans ?_ (by with_reducible assumption)))); clear hb4
          have D4 := Blk.new w4 29 #[.int .i64 dk, .string dt, .int .i64 dc, .slice B14 m14 e14, .slice B24 m24 e24, .slice B34 m34 e34]; replace M4 := M4.al (.cells #[.int .i64 dk, .string dt, .int .i64 dc, .slice B14 m14 e14, .slice B24 m24 e24, .slice B34 m34 e34] 29); replace L4 := L4.al (.cells #[.int .i64 dk, .string dt, .int .i64 dc, .slice B14 m14 e14, .slice B24 m24 e24, .slice B34 m34 e34] 29); replace V3 := V3.al (.cells #[.int .i64 dk, .string dt, .int .i64 dc, .slice B14 m14 e14, .slice B24 m24 e24, .slice B34 m34 e34] 29); replace M3 := M3.al (.cells #[.int .i64 dk, .string dt, .int .i64 dc, .slice B14 m14 e14, .slice B24 m24 e24, .slice B34 m34 e34] 29); replace C3 := C3.al (.cells #[.int .i64 dk, .string dt, .int .i64 dc, .slice B14 m14 e14, .slice B24 m24 e24, .slice B34 m34 e34] 29); have R4 : Blk ((w4.alloc (.cells #[.int .i64 dk, .string dt, .int .i64 dc, .slice B14 m14 e14, .slice B24 m24 e24, .slice B34 m34 e34] 29)).alloc (.cells #[.int .i64 rc, .string rt, .int .i64 rn, .slice B44 m44 e44] 37)) (w4.heap.size + 1) 37 #[.int .i64 rc, .string rt, .int .i64 rn, .slice B44 m44 e44] := Blk.new' _ _ _ (by simp); replace M4 := M4.al (.cells #[.int .i64 rc, .string rt, .int .i64 rn, .slice B44 m44 e44] 37); replace L4 := L4.al (.cells #[.int .i64 rc, .string rt, .int .i64 rn, .slice B44 m44 e44] 37); replace D4 := D4.al (.cells #[.int .i64 rc, .string rt, .int .i64 rn, .slice B44 m44 e44] 37); replace V3 := V3.al (.cells #[.int .i64 rc, .string rt, .int .i64 rn, .slice B44 m44 e44] 37); replace M3 := M3.al (.cells #[.int .i64 rc, .string rt, .int .i64 rn, .slice B44 m44 e44] 37); replace C3 := C3.al (.cells #[.int .i64 rc, .string rt, .int .i64 rn, .slice B44 m44 e44] 37)
          have bx : Below w4.heap.size w4 ((w4.alloc (.cells #[.int .i64 dk, .string dt, .int .i64 dc, .slice B14 m14 e14, .slice B24 m24 e24, .slice B34 m34 e34] 29)).alloc (.cells #[.int .i64 rc, .string rt, .int .i64 rn, .slice B44 m44 e44] 37)) := (by repeat (first | (with_reducible exact Below.refl _ _) | (with_reducible assumption) | (with_reducible refine Below.drew ?_) | (with_reducible refine bdrewN ?_ _) | (with_reducible refine balloc ?_ _) | ((with_reducible refine bset ?_ ?_ _); rotate_left; (focus first | exact Nat.le_refl _ | (simp; done) | (simp; omega) | omega)) | (with_reducible refine bstep ?_ (by with_reducible assumption)) | (with_reducible refine Below.trans ?_ (by with_reducible assumption))))
          have TT := And.intro (T4.1.bl bx) (And.intro (T4.2.1.bl bx) (T4.2.2.1.bl bx))
          have q9 : Below w.heap.size w ((w4.alloc (.cells #[.int .i64 dk, .string dt, .int .i64 dc, .slice B14 m14 e14, .slice B24 m24 e24, .slice B34 m34 e34] 29)).alloc (.cells #[.int .i64 rc, .string rt, .int .i64 rn, .slice B44 m44 e44] 37)) := (by repeat (first | (with_reducible exact Below.refl _ _) | (with_reducible assumption) | (with_reducible refine Below.drew ?_) | (with_reducible refine bdrewN ?_ _) | (with_reducible refine balloc ?_ _) | ((with_reducible refine bset ?_ ?_ _); rotate_left; (focus first | exact Nat.le_refl _ | (simp; done) | (simp; omega) | omega)) | (with_reducible refine bstep ?_ (by with_reducible assumption)) | (with_reducible refine Below.trans ?_ (by with_reducible assumption))))
          have hz9 := q9.size
          clear cV3 fV3 cC3 fC3 T4 bx hlk
          have hlz : ((ps.length : Int) == 0) = false := by rw [beq_eq_false_iff_ne]; omega
          have M30 := M3
          obtain ⟨hdp, h5⟩ := s5 trivial
          obtain ⟨hc0, hu⟩ := (h5 hl0).1 _ hx
          subst hc0
          injection hu with hu
          subst hu
          clear s3 s4 s5 s6 h5
          subst hdp
          replace M3 := M3.mono (Nat.le_succ i)
          (try clear cD4 fD4); have cD4 := D4.cell; have fD4 := D4.frozen; (try clear cR4 fR4); have cR4 := R4.cell; have fR4 := R4.frozen; (try clear cC3 fC3); have cC3 := C3.cell; have fC3 := C3.frozen; (try clear cV3 fV3); have cV3 := V3.cell; have fV3 := V3.frozen
          go_wp2_with (first | (at_len; refine wpList_mapLen rfl _ _ rfl Try.underlying47 M30 rfl ?_) | fail)
          go_roundw
          case rel =>
            obtain ⟨V9, gr9, sz9⟩ := whole_value (Value.int .i64 dk) (Value.string dt) (Value.int .i64 dc) (Value.slice B14 m14 e14) (Value.slice B24 m24 e24) (Value.slice B34 m34 e34) V3
            have M9 := M3.grown gr9 (by omega)
            exact ⟨i + 1, by omega, by omega, by go_num, _, _, _, _, _, _, _, _, _, _, _, _, _, _, _, V9, grown_vsl M4 TT V3 gr9, ⟨grown_tp TT.1 V3 gr9, grown_tp TT.2.1 V3 gr9, grown_tp TT.2.2 V3 gr9⟩, HS4, M9, below_grow q9 gr9 (by have := q9.size; omega) (by omega)⟩
          case measure => simp [intOf]; omega
      · go_wp2_with fail
        generalize hW : wr.alloc (.cells #[.int .i64 4, .int .i64 4, .int .i64 5, .int .i64 6] 3) = W at *
        have qW : Below wr.heap.size wr W := by rw [← hW]; exact (Below.refl _ wr).alloc (Nat.le_refl _) _
        clear hW
        have V2 := V.bl qW; have N2 := N.bl qW; have M2 := M.bl qW
        have T2 := And.intro (T.1.bl qW) (And.intro (T.2.1.bl qW) (T.2.2.bl qW))
        have hrW : rb < W.heap.size := by have := qW.size; omega
        have g2' := (qW.cell (p := ⟨rb, ro + i * 5 + 2, none⟩) hrw).trans g2
        have g3' := (qW.cell (p := ⟨rb, ro + i * 5 + 3, none⟩) hrw).trans g3
        have g4' := (qW.cell (p := ⟨rb, ro + i * 5 + 4, none⟩) hrw).trans g4
        have q : Below w.heap.size w W := bstep hbr qW
        obtain ⟨cy, cf, ct, cn, hcff, hcfs, hcts, hcc, hcall⟩ := hash_cmd 6 xf xn xt (by omega) hdx.2.2.1 hdx.2.2.2.1 hdx.2.2.2.2
        have hstep := hash_step HV.out hcc (by simp) hcff
        have hDo := fun w h => Do_may ⟨vk, vt, vc, ps, is_, ss⟩ ⟨6, cy, cf, ct, cn⟩ HV.out.may' A1 A2 A3 n1 c1 n2 c2 n3 c3 w h
        have hap := fields_apart HV.out.rises
        simp only at hap
        generalize doneVal ⟨vk, vt, vc, ps, is_, ss⟩ ⟨6, cy, cf, ct, cn⟩ = D at *
        obtain ⟨⟨dk, dt, dc, dps, dis, dss⟩, ⟨rc, rt, rn, rl⟩, de⟩ := D
        obtain ⟨s1, s2, s3, s4, s5, s6⟩ := hstep
        simp only [cmdV, Int.reduceSub] at s1 s3 s4 s5 s6 hcall
        subst s1
        have HDO := hide hDo
        have HS4 := hide s2
        clear hDo s2 hcff hcc
        have HCALL := hide hcall
        clear hcall g0 g2 g3 g4 cV fV
        have hsG : ∀ w', Below W.heap.size W w' → (w'.cell? ⟨rb, ro + i * 5 + 2, none⟩ = some (.int .i64 xf) ∧ w'.cell? ⟨rb, ro + i * 5 + 3, none⟩ = some (.int .i64 xn) ∧ w'.cell? ⟨rb, ro + i * 5 + 4, none⟩ = some (.string xt)) := fun w' q => ⟨(q.cell (p := ⟨rb, ro + i * 5 + 2, none⟩) hrW).trans g2', (q.cell (p := ⟨rb, ro + i * 5 + 3, none⟩) hrW).trans g3', (q.cell (p := ⟨rb, ro + i * 5 + 4, none⟩) hrW).trans g4'⟩
        refine wp_region_x (l := []) (S := fun w' => (w'.cell? ⟨rb, ro + i * 5 + 2, none⟩ = some (.int .i64 xf) ∧ w'.cell? ⟨rb, ro + i * 5 + 3, none⟩ = some (.int .i64 xn) ∧ w'.cell? ⟨rb, ro + i * 5 + 4, none⟩ = some (.string xt))) (by kernel_rfl) (hsG _ (Below.refl _ W).drew) (fun hS => ?_)
        refine wpAnyX_take (i := 0) (v := ?xv0d) rfl (by kernel_rfl) (by kernel_rfl) (by kernel_rfl) (by kernel_rfl) (fun _ _ _ h => h) (Or.inl ⟨by rfl, ?xh0d⟩) (by assumption) ?xr0d; (case xh0d => (intro w hSw; (try dsimp only at hSw); go_simp; (try with_reducible rfl))); (try simp only [Act.put, List.setIfInBounds_toArray, List.set_cons_zero, List.set_cons_succ, List.getElem_toArray, List.getElem_cons_zero, List.getElem_cons_succ])
        refine wpAnyX_take (i := 1) (v := ?xv1d) rfl (by kernel_rfl) (by kernel_rfl) (by kernel_rfl) (by kernel_rfl) (fun _ _ _ h => h) (Or.inl ⟨by rfl, ?xh1d⟩) (by assumption) ?xr1d; (case xh1d => (intro w hSw; (try dsimp only at hSw); go_simp; (try with_reducible rfl))); (try simp only [Act.put, List.setIfInBounds_toArray, List.set_cons_zero, List.set_cons_succ, List.getElem_toArray, List.getElem_cons_zero, List.getElem_cons_succ])
        refine wpAnyX_take (i := 2) (v := ?xv2d) rfl (by kernel_rfl) (by kernel_rfl) (by kernel_rfl) (by kernel_rfl) (fun _ _ _ h => h) (Or.inl ⟨by rfl, ?xh2d⟩) (by assumption) ?xr2d; (case xh2d => (intro w hSw; (try dsimp only at hSw); go_simp; (try with_reducible rfl))); (try simp only [Act.put, List.setIfInBounds_toArray, List.set_cons_zero, List.set_cons_succ, List.getElem_toArray, List.getElem_cons_zero, List.getElem_cons_succ])
        refine wpAnyX_take (i := 3) (v := ?xv3d) rfl (by kernel_rfl) (by kernel_rfl) (by kernel_rfl) (by kernel_rfl) (fun _ _ _ h => h) (Or.inl ⟨by rfl, ?xh3d⟩) (by assumption) ?xr3d; (case xh3d => (intro w hSw; (try dsimp only at hSw); go_simp; (try with_reducible rfl))); (try simp only [Act.put, List.setIfInBounds_toArray, List.set_cons_zero, List.set_cons_succ, List.getElem_toArray, List.getElem_cons_zero, List.getElem_cons_succ])
        refine wpAnyX_take (i := 4) (v := ?xv4d) rfl (by kernel_rfl) (by kernel_rfl) (by kernel_rfl) (by kernel_rfl) (fun _ _ _ h => h) (Or.inl ⟨by rfl, ?xh4d⟩) (by assumption) ?xr4d; (case xh4d => (intro w hSw; (try dsimp only at hSw); go_simp; (try with_reducible rfl))); (try simp only [Act.put, List.setIfInBounds_toArray, List.set_cons_zero, List.set_cons_succ, List.getElem_toArray, List.getElem_cons_zero, List.getElem_cons_succ])
        refine wpAnyX_take (i := 5) (v := ?xv5d) rfl (by kernel_rfl) (by kernel_rfl) (by kernel_rfl) (by kernel_rfl) (fun _ _ _ h => h) (Or.inl ⟨by rfl, ?xh5d⟩) (by assumption) ?xr5d; (case xh5d => (intro w hSw; (try dsimp only at hSw); go_simp; (try with_reducible rfl))); (try simp only [Act.put, List.setIfInBounds_toArray, List.set_cons_zero, List.set_cons_succ, List.getElem_toArray, List.getElem_cons_zero, List.getElem_cons_succ])
        refine wpAnyX_take (i := 6) (v := ?xv6d) rfl (by kernel_rfl) (by kernel_rfl) (by kernel_rfl) (by kernel_rfl) (fun _ _ _ h => h) (Or.inl ⟨by rfl, ?xh6d⟩) (by assumption) ?xr6d; (case xh6d => (intro w hSw; (try dsimp only at hSw); go_simp; (try with_reducible rfl))); (try simp only [Act.put, List.setIfInBounds_toArray, List.set_cons_zero, List.set_cons_succ, List.getElem_toArray, List.getElem_cons_zero, List.getElem_cons_succ])
        refine wpAnyX_take (i := 7) (v := ?xv7d) rfl (by kernel_rfl) (by kernel_rfl) (by kernel_rfl) (by kernel_rfl) (fun _ _ _ h => h) (Or.inl ⟨by rfl, ?xh7d⟩) (by assumption) ?xr7d; (case xh7d => (intro w hSw; (try dsimp only at hSw); go_simp; (try with_reducible rfl))); (try simp only [Act.put, List.setIfInBounds_toArray, List.set_cons_zero, List.set_cons_succ, List.getElem_toArray, List.getElem_cons_zero, List.getElem_cons_succ])
        refine wpAnyX_take (i := 8) (v := ?xv8d) rfl (by kernel_rfl) (by kernel_rfl) (by kernel_rfl) (by kernel_rfl) (fun _ _ _ h => h) (Or.inl ⟨by rfl, ?xh8d⟩) (by assumption) ?xr8d; (case xh8d => (intro w hSw; (try dsimp only at hSw); go_simp; (try with_reducible rfl))); (try simp only [Act.put, List.setIfInBounds_toArray, List.set_cons_zero, List.set_cons_succ, List.getElem_toArray, List.getElem_cons_zero, List.getElem_cons_succ])
        refine wpAnyX_take (i := 9) (v := ?xv9d) rfl (by kernel_rfl) (by kernel_rfl) (by kernel_rfl) (by kernel_rfl) (fun _ _ _ h => h) (Or.inl ⟨by rfl, ?xh9d⟩) (by assumption) ?xr9d; (case xh9d => (intro w hSw; (try dsimp only at hSw); go_simp; (try with_reducible rfl))); (try simp only [Act.put, List.setIfInBounds_toArray, List.set_cons_zero, List.set_cons_succ, List.getElem_toArray, List.getElem_cons_zero, List.getElem_cons_succ])
        refine wpAnyX_take (i := 10) (v := ?xv10d) rfl (by kernel_rfl) (by kernel_rfl) (by kernel_rfl) (by kernel_rfl) (fun _ _ _ h => h) (Or.inl ⟨by rfl, ?xh10d⟩) (by assumption) ?xr10d; (case xh10d => (intro w hSw; (try dsimp only at hSw); go_simp; (try with_reducible rfl))); (try simp only [Act.put, List.setIfInBounds_toArray, List.set_cons_zero, List.set_cons_succ, List.getElem_toArray, List.getElem_cons_zero, List.getElem_cons_succ])
        refine wpAnyX_take (i := 11) (v := ?xv11d) rfl (by kernel_rfl) (by kernel_rfl) (by kernel_rfl) (by kernel_rfl) (fun _ _ _ h => h) (Or.inl ⟨by rfl, ?xh11d⟩) (by assumption) ?xr11d; (case xh11d => (intro w hSw; (try dsimp only at hSw); go_simp; (try with_reducible rfl))); (try simp only [Act.put, List.setIfInBounds_toArray, List.set_cons_zero, List.set_cons_succ, List.getElem_toArray, List.getElem_cons_zero, List.getElem_cons_succ])
        refine wpAnyX_take (i := 12) (v := ?xv12d) rfl (by kernel_rfl) (by kernel_rfl) (by kernel_rfl) (by kernel_rfl) (fun _ _ _ h => h) (Or.inl ⟨by rfl, ?xh12d⟩) (by assumption) ?xr12d; (case xh12d => (intro w hSw; (try dsimp only at hSw); go_simp; (try with_reducible rfl))); (try simp only [Act.put, List.setIfInBounds_toArray, List.set_cons_zero, List.set_cons_succ, List.getElem_toArray, List.getElem_cons_zero, List.getElem_cons_succ])
        refine wpAnyX_take (i := 13) (v := ?xv13d) rfl (by kernel_rfl) (by kernel_rfl) (by kernel_rfl) (by kernel_rfl) (fun _ _ _ h => h) (Or.inl ⟨by rfl, ?xh13d⟩) (by assumption) ?xr13d; (case xh13d => (intro w hSw; (try dsimp only at hSw); go_simp; (try with_reducible rfl))); (try simp only [Act.put, List.setIfInBounds_toArray, List.set_cons_zero, List.set_cons_succ, List.getElem_toArray, List.getElem_cons_zero, List.getElem_cons_succ])
        refine wpAnyX_take (i := 14) (v := ?xv14d) rfl (by kernel_rfl) (by kernel_rfl) (by kernel_rfl) (by kernel_rfl) (fun _ _ _ h => h) (Or.inl ⟨by rfl, ?xh14d⟩) (by assumption) ?xr14d; (case xh14d => (intro w hSw; (try dsimp only at hSw); go_simp; (try with_reducible rfl))); (try simp only [Act.put, List.setIfInBounds_toArray, List.set_cons_zero, List.set_cons_succ, List.getElem_toArray, List.getElem_cons_zero, List.getElem_cons_succ])
        refine wpAnyX_take (i := 15) (v := ?xv15d) rfl (by kernel_rfl) (by kernel_rfl) (by kernel_rfl) (by kernel_rfl) (fun _ _ _ h => h) (Or.inl ⟨by rfl, ?xh15d⟩) (by assumption) ?xr15d; (case xh15d => (intro w hSw; (try dsimp only at hSw); go_simp; (try with_reducible rfl))); (try simp only [Act.put, List.setIfInBounds_toArray, List.set_cons_zero, List.set_cons_succ, List.getElem_toArray, List.getElem_cons_zero, List.getElem_cons_succ])
        refine wpAnyX_take (i := 16) (v := ?xv16d) rfl (by kernel_rfl) (by kernel_rfl) (by kernel_rfl) (by kernel_rfl) (fun _ _ _ h => h) (Or.inl ⟨by rfl, ?xh16d⟩) (by assumption) ?xr16d; (case xh16d => (intro w hSw; (try dsimp only at hSw); go_simp; (try with_reducible rfl))); (try simp only [Act.put, List.setIfInBounds_toArray, List.set_cons_zero, List.set_cons_succ, List.getElem_toArray, List.getElem_cons_zero, List.getElem_cons_succ])
        refine wpAnyX_take (i := 17) (v := ?xv17d) rfl (by kernel_rfl) (by kernel_rfl) (by kernel_rfl) (by kernel_rfl) (fun _ _ _ h => h) (Or.inl ⟨by rfl, ?xh17d⟩) (by assumption) ?xr17d; (case xh17d => (intro w hSw; (try dsimp only at hSw); go_simp; (try with_reducible rfl))); (try simp only [Act.put, List.setIfInBounds_toArray, List.set_cons_zero, List.set_cons_succ, List.getElem_toArray, List.getElem_cons_zero, List.getElem_cons_succ])
        have HSG := hide hsG
        clear hsG hS g2' g3' g4'
        refine wpX_startA (n := 2 + left1 false) (listed := (fun b_ => #[true, true, true, true, true, true, true, true, true, true, true, true, true, true, true, true, true, true, false, b_, false]) false) (j := 19) (d := 7) (t := 34) (z := #[.int .i64 0, .string { data := #[] }, .string { data := #[] }, .string { data := #[] }, .int .i64 0]) ?al1d ?alnd ?alld (fun al1 => ?alrd); (case al1d => exact ⟨⟨_, rfl, rfl, rfl, fun a w => by simp [go_sem, execOp]⟩⟩); (case alnd => kernel_rfl); (case alld => kernel_rfl)
        refine' wpX_phaseA' (f := 1) (i := 18) (L := (fun b_ => #[true, true, true, true, true, true, true, true, true, true, true, true, true, true, true, true, true, true, false, b_, false])) (L' := (fun b_ => #[true, true, true, true, true, true, true, true, true, true, true, true, true, true, true, true, true, true, true, b_, false])) (base := W.heap.size) (G := (fun w' => Below W.heap.size W w')) (x := u7) al1 ?an18d ?al18d ?aa18d ?ar18d ?ai18d ?ag18d ?ae118d ?ae318d ?ap118d HSG.out (fun w' o q => q.alloc q.size o) (fun w' q => q.size) ?aw18d ?am18d; (case an18d => rfl); (case al18d => rfl); (case aa18d => rfl); (case ar18d => kernel_rfl); (case ai18d => rfl); (case ag18d => rfl); (case ae118d => rfl); (case ae318d => (intros; rfl)); (case ap118d => (intros; rfl))
        (case aw18d => exact (Below.refl _ W).drew)
        intro b_ x_ w5 hG_ hx_ K_ hK_; (try simp only [Act.put, List.setIfInBounds_toArray, List.set_cons_zero, List.set_cons_succ, List.getElem_toArray, List.getElem_cons_zero, List.getElem_cons_succ])
        go_wp2_with fail
        refine (HCALL.out _).mono ?_
        rintro e w6 ⟨rfl, hb6⟩
        go_wp2_with fail
        have q6 : Below W.heap.size W w6 := bstep hG_ hb6
        have hS6 := HSG.out _ q6
        refine hK_.out _ _ (Or.inr hS6) ?_
        clear hK_ K_ hG_
        refine' wpX_layA' (f := 1) (L := (fun b_ => #[true, true, true, true, true, true, true, true, true, true, true, true, true, true, true, true, true, true, true, b_, false])) (base := W.heap.size) (G := (fun w' => Below w6.heap.size w6 w')) (b := b_) (x := x_) al1 ?anLd ?alLd ?aaLd ?arLd ?ae1Ld ?ap1Ld (fun w' q => HSG.out w' (bstep q6 q)) (fun w' o q => q.alloc q.size o) (fun w' q => Nat.le_trans q6.size q.size) ?awLd (hx_.bl hb6) ?amLd; (case anLd => rfl); (case alLd => rfl); (case aaLd => rfl); (case arLd => kernel_rfl); (case ae1Ld => rfl); (case ap1Ld => (intros; rfl))
        (case awLd => exact Below.refl _ w6)
        clear hx_ x_ b_ hS6
        intro g7 w7 hb7 hg7 G7
        have q7 : Below W.heap.size W w7 := bstep q6 hb7
        clear al1
        (try clear cG7 fG7); have cG7 := G7.cell; have fG7 := G7.frozen
        refine wpAnyX_one (i := 20) (by kernel_rfl) rfl (by rfl) (fun K hK => ?_); (try simp only [List.getElem_toArray, List.getElem_cons_zero, List.getElem_cons_succ])
        go_wp2_with fail
        refine hK.out _ _ (Or.inr (HSG.out _ (below_set (below_set (below_set (below_set (below_set q7 hg7 0 _) hg7 1 _) hg7 2 _) hg7 3 _) hg7 4 _))) (fun hS => ?_)
        clear hK K hS cG7 fG7
        refine wpAnyX_done (by kernel_rfl) ?_ _
        have hgV := V2.lt; have hgM := M2.lt
        have N7 := N2.bl q7
        have T7 := And.intro (T2.1.bl q7) (And.intro (T2.2.1.bl q7) (T2.2.2.bl q7))
        obtain ⟨C3, gr8⟩ := whole_command (Value.int .i64 6) (Value.string cy) (Value.string cf) (Value.string ct) (Value.int .i64 cn) G7
        have V3 := grown_blk (V2.below' q7) gr8 (by omega)
        have N3 := grown_vsl N7 T7 G7 gr8
        have M3 := (M2.bl q7).grown gr8 (by omega)
        have q8 := below_grow (bstep q q7) gr8 (by have := q.size; have := q7.size; omega) (by have := q.size; omega)
        obtain ⟨w8, hw8⟩ : ∃ w8, w8 = (((((w7.setCell ⟨g7, 0, none⟩ (Value.int .i64 6)).setCell ⟨g7, 1, none⟩ (Value.string cy)).setCell ⟨g7, 2, none⟩ (Value.string cf)).setCell ⟨g7, 3, none⟩ (Value.string ct)).setCell ⟨g7, 4, none⟩ (Value.int .i64 cn)) := ⟨_, rfl⟩
        rw [← hw8] at C3 V3 N3 M3 q8 ⊢
        clear hw8 gr8 G7 N7 T7 V2 N2 M2 T2 hb7 q7 q6 hb6 V N M T hbr
        have hc8 := C3.lt
        have q : Below w.heap.size w w8 := q8
        have hlk := M3.look_ok (T := 47) Try.underlying9 Try.underlying47 (z := .string { data := #[] }) (by kernel_rfl) (plainElem_string Try.underlying9 (s := { data := #[] }) (by decide)) (t := cf) (by unfold maxLen; omega)
        (try clear cV3 fV3); have cV3 := V3.cell; have fV3 := V3.frozen; (try clear cC3 fC3); have cC3 := C3.cell; have fC3 := C3.frozen
        cases hx : hashF ps cf with
        | none =>
          rw [hx] at hlk
          simp only [Option.getD_none, Option.isSome_none] at hlk
          go_wp2_with fail
          refine (HDO.out _ N3).mono ?_; rintro e w4 ⟨B14, m14, e14, B24, m24, e24, B34, m34, e34, B44, m44, e44, rfl, M4, L4, T4, hb4⟩; replace V3 := V3.bl hb4; replace M3 := M3.bl hb4; replace C3 := C3.bl hb4; replace q : Below w.heap.size w w4 := (by repeat (first | (with_reducible exact Below.refl _ _) | (with_reducible assumption) | (with_reducible refine Below.drew ?_) | (with_reducible refine bdrewN ?_ _) | (with_reducible refine balloc ?_ _) | ((with_reducible refine bset ?_ ?_ _); rotate_left; (focus first | exact Nat.le_refl _ | (simp; done) | (simp; omega) | omega)) | (with_reducible refine bstep ?_ (by with_reducible assumption)) | (with_reducible refine Below.trans ?_ (by with_reducible assumption)))); clear hb4
          have D4 := Blk.new w4 29 #[.int .i64 dk, .string dt, .int .i64 dc, .slice B14 m14 e14, .slice B24 m24 e24, .slice B34 m34 e34]; replace M4 := M4.al (.cells #[.int .i64 dk, .string dt, .int .i64 dc, .slice B14 m14 e14, .slice B24 m24 e24, .slice B34 m34 e34] 29); replace L4 := L4.al (.cells #[.int .i64 dk, .string dt, .int .i64 dc, .slice B14 m14 e14, .slice B24 m24 e24, .slice B34 m34 e34] 29); replace V3 := V3.al (.cells #[.int .i64 dk, .string dt, .int .i64 dc, .slice B14 m14 e14, .slice B24 m24 e24, .slice B34 m34 e34] 29); replace M3 := M3.al (.cells #[.int .i64 dk, .string dt, .int .i64 dc, .slice B14 m14 e14, .slice B24 m24 e24, .slice B34 m34 e34] 29); replace C3 := C3.al (.cells #[.int .i64 dk, .string dt, .int .i64 dc, .slice B14 m14 e14, .slice B24 m24 e24, .slice B34 m34 e34] 29); have R4 : Blk ((w4.alloc (.cells #[.int .i64 dk, .string dt, .int .i64 dc, .slice B14 m14 e14, .slice B24 m24 e24, .slice B34 m34 e34] 29)).alloc (.cells #[.int .i64 rc, .string rt, .int .i64 rn, .slice B44 m44 e44] 37)) (w4.heap.size + 1) 37 #[.int .i64 rc, .string rt, .int .i64 rn, .slice B44 m44 e44] := Blk.new' _ _ _ (by simp); replace M4 := M4.al (.cells #[.int .i64 rc, .string rt, .int .i64 rn, .slice B44 m44 e44] 37); replace L4 := L4.al (.cells #[.int .i64 rc, .string rt, .int .i64 rn, .slice B44 m44 e44] 37); replace D4 := D4.al (.cells #[.int .i64 rc, .string rt, .int .i64 rn, .slice B44 m44 e44] 37); replace V3 := V3.al (.cells #[.int .i64 rc, .string rt, .int .i64 rn, .slice B44 m44 e44] 37); replace M3 := M3.al (.cells #[.int .i64 rc, .string rt, .int .i64 rn, .slice B44 m44 e44] 37); replace C3 := C3.al (.cells #[.int .i64 rc, .string rt, .int .i64 rn, .slice B44 m44 e44] 37)
          have bx : Below w4.heap.size w4 ((w4.alloc (.cells #[.int .i64 dk, .string dt, .int .i64 dc, .slice B14 m14 e14, .slice B24 m24 e24, .slice B34 m34 e34] 29)).alloc (.cells #[.int .i64 rc, .string rt, .int .i64 rn, .slice B44 m44 e44] 37)) := (by repeat (first | (with_reducible exact Below.refl _ _) | (with_reducible assumption) | (with_reducible refine Below.drew ?_) | (with_reducible refine bdrewN ?_ _) | (with_reducible refine balloc ?_ _) | ((with_reducible refine bset ?_ ?_ _); rotate_left; (focus first | exact Nat.le_refl _ | (simp; done) | (simp; omega) | omega)) | (with_reducible refine bstep ?_ (by with_reducible assumption)) | (with_reducible refine Below.trans ?_ (by with_reducible assumption))))
          have TT := And.intro (T4.1.bl bx) (And.intro (T4.2.1.bl bx) (T4.2.2.1.bl bx))
          have q9 : Below w.heap.size w ((w4.alloc (.cells #[.int .i64 dk, .string dt, .int .i64 dc, .slice B14 m14 e14, .slice B24 m24 e24, .slice B34 m34 e34] 29)).alloc (.cells #[.int .i64 rc, .string rt, .int .i64 rn, .slice B44 m44 e44] 37)) := (by repeat (first | (with_reducible exact Below.refl _ _) | (with_reducible assumption) | (with_reducible refine Below.drew ?_) | (with_reducible refine bdrewN ?_ _) | (with_reducible refine balloc ?_ _) | ((with_reducible refine bset ?_ ?_ _); rotate_left; (focus first | exact Nat.le_refl _ | (simp; done) | (simp; omega) | omega)) | (with_reducible refine bstep ?_ (by with_reducible assumption)) | (with_reducible refine Below.trans ?_ (by with_reducible assumption))))
          have hz9 := q9.size
          clear cV3 fV3 cC3 fC3 T4 bx hlk
          by_cases hl0 : ps.length = 0
          · obtain ⟨hc5, hdn⟩ := s4 (by decide) hl0
            clear s3 s4 s5 s6
            have hnil : ps = [] := List.eq_nil_of_length_eq_zero hl0
            subst hc5
            subst hdn
            subst hnil
            replace M3 := M3.mono (Nat.le_succ i)
            (try clear cD4 fD4); have cD4 := D4.cell; have fD4 := D4.frozen; (try clear cR4 fR4); have cR4 := R4.cell; have fR4 := R4.frozen; (try clear cC3 fC3); have cC3 := C3.cell; have fC3 := C3.frozen; (try clear cV3 fV3); have cV3 := V3.cell; have fV3 := V3.frozen
            go_wp2_with (first | (at_len; refine wpList_mapLen rfl _ _ rfl Try.underlying47 M3 rfl ?_) | fail)
            go_roundw
            case rel =>
              obtain ⟨V9, gr9, sz9⟩ := whole_value (Value.int .i64 dk) (Value.string dt) (Value.int .i64 dc) (Value.slice B14 m14 e14) (Value.slice B24 m24 e24) (Value.slice B34 m34 e34) V3
              have M9 := M3.grown gr9 (by omega)
              exact ⟨i + 1, by omega, by omega, by go_num, _, _, _, _, _, _, _, _, _, _, _, _, _, _, _, V9, grown_vsl M4 TT V3 gr9, ⟨grown_tp TT.1 V3 gr9, grown_tp TT.2.1 V3 gr9, grown_tp TT.2.2 V3 gr9⟩, HS4, M9, below_grow q9 gr9 (by have := q9.size; omega) (by omega)⟩
            case measure => simp [intOf]; omega
          · have hlz : ((ps.length : Int) == 0) = false := by rw [beq_eq_false_iff_ne]; omega
            have M30 := M3
            obtain ⟨hc0, hn0, hf0, hl2⟩ := s6 trivial hl0
            rw [hx] at hn0
            simp only [Option.isSome_some, Option.isSome_none, if_true, Bool.false_eq_true, if_false] at hn0
            subst hc0
            subst hn0
            obtain ⟨w5, hput, M5, tu⟩ := M3.del (T := 47) Try.underlying9 Try.underlying47 (t := cf) (by unfold maxLen; omega)
            rw [hf0, ← hl2] at M5
            clear hf0 hl2 s3 s4 s5 s6
            replace q9 : Below w.heap.size w w5 := turned_below tu q9 (by omega) hz9
            (try clear cR4 fR4); have cR4 := R4.cell; have fR4 := R4.frozen; (try clear cC3 fC3); have cC3 := C3.cell; have fC3 := C3.frozen
            replace V3 := turned_blk tu V3
            have D5 := turned_blk tu D4
            replace M4 := turned_vsl tu M4 TT
            replace TT := And.intro (turned_tp tu TT.1) (And.intro (turned_tp tu TT.2.1) (turned_tp tu TT.2.2))
            have M3 := M5.mono (Nat.le_succ i)
            clear M5 tu
            (try clear cD5 fD5); have cD5 := D5.cell; have fD5 := D5.frozen; (try clear cV3 fV3); have cV3 := V3.cell; have fV3 := V3.frozen
            go_wp2_with (first | (at_len; refine wpList_mapLen rfl _ _ rfl Try.underlying47 M30 rfl ?_) | (at_delete; refine wpList_mapDel rfl _ _ _ _ rfl _ _ rfl rfl hput ?_) | fail)
            go_roundw
            case rel =>
              obtain ⟨V9, gr9, sz9⟩ := whole_value (Value.int .i64 dk) (Value.string dt) (Value.int .i64 dc) (Value.slice B14 m14 e14) (Value.slice B24 m24 e24) (Value.slice B34 m34 e34) V3
              have M9 := M3.grown gr9 (by omega)
              exact ⟨i + 1, by omega, by omega, by go_num, _, _, _, _, _, _, _, _, _, _, _, _, _, _, _, V9, grown_vsl M4 TT V3 gr9, ⟨grown_tp TT.1 V3 gr9, grown_tp TT.2.1 V3 gr9, grown_tp TT.2.2 V3 gr9⟩, HS4, M9, below_grow q9 gr9 (by have := q9.size; omega) (by omega)⟩
            case measure => simp [intOf]; omega
        | some u =>
          obtain ⟨old, rfl, hmem⟩ := (hashF_iff hap).1 hx
          have hl0 : ps.length ≠ 0 := by have := List.length_pos_of_mem hmem; omega
          clear hmem
          rw [hx] at hlk
          simp only [Option.getD_some, Option.isSome_some] at hlk
          go_wp2_with fail
          refine (HDO.out _ N3).mono ?_; rintro e w4 ⟨B14, m14, e14, B24, m24, e24, B34, m34, e34, B44, m44, e44, rfl, M4, L4, T4, hb4⟩; replace V3 := V3.bl hb4; replace M3 := M3.bl hb4; replace C3 := C3.bl hb4; replace q : Below w.heap.size w w4 := (by repeat (first | (with_reducible exact Below.refl _ _) | (with_reducible assumption) | (with_reducible refine Below.drew ?_) | (with_reducible refine bdrewN ?_ _) | (with_reducible refine balloc ?_ _) | ((with_reducible refine bset ?_ ?_ _); rotate_left; (focus first | exact Nat.le_refl _ | (simp; done) | (simp; omega) | omega)) | (with_reducible refine bstep ?_ (by with_reducible assumption)) | (with_reducible refine Below.trans ?_ (by with_reducible assumption)))); clear hb4
          have D4 := Blk.new w4 29 #[.int .i64 dk, .string dt, .int .i64 dc, .slice B14 m14 e14, .slice B24 m24 e24, .slice B34 m34 e34]; replace M4 := M4.al (.cells #[.int .i64 dk, .string dt, .int .i64 dc, .slice B14 m14 e14, .slice B24 m24 e24, .slice B34 m34 e34] 29); replace L4 := L4.al (.cells #[.int .i64 dk, .string dt, .int .i64 dc, .slice B14 m14 e14, .slice B24 m24 e24, .slice B34 m34 e34] 29); replace V3 := V3.al (.cells #[.int .i64 dk, .string dt, .int .i64 dc, .slice B14 m14 e14, .slice B24 m24 e24, .slice B34 m34 e34] 29); replace M3 := M3.al (.cells #[.int .i64 dk, .string dt, .int .i64 dc, .slice B14 m14 e14, .slice B24 m24 e24, .slice B34 m34 e34] 29); replace C3 := C3.al (.cells #[.int .i64 dk, .string dt, .int .i64 dc, .slice B14 m14 e14, .slice B24 m24 e24, .slice B34 m34 e34] 29); have R4 : Blk ((w4.alloc (.cells #[.int .i64 dk, .string dt, .int .i64 dc, .slice B14 m14 e14, .slice B24 m24 e24, .slice B34 m34 e34] 29)).alloc (.cells #[.int .i64 rc, .string rt, .int .i64 rn, .slice B44 m44 e44] 37)) (w4.heap.size + 1) 37 #[.int .i64 rc, .string rt, .int .i64 rn, .slice B44 m44 e44] := Blk.new' _ _ _ (by simp); replace M4 := M4.al (.cells #[.int .i64 rc, .string rt, .int .i64 rn, .slice B44 m44 e44] 37); replace L4 := L4.al (.cells #[.int .i64 rc, .string rt, .int .i64 rn, .slice B44 m44 e44] 37); replace D4 := D4.al (.cells #[.int .i64 rc, .string rt, .int .i64 rn, .slice B44 m44 e44] 37); replace V3 := V3.al (.cells #[.int .i64 rc, .string rt, .int .i64 rn, .slice B44 m44 e44] 37); replace M3 := M3.al (.cells #[.int .i64 rc, .string rt, .int .i64 rn, .slice B44 m44 e44] 37); replace C3 := C3.al (.cells #[.int .i64 rc, .string rt, .int .i64 rn, .slice B44 m44 e44] 37)
          have bx : Below w4.heap.size w4 ((w4.alloc (.cells #[.int .i64 dk, .string dt, .int .i64 dc, .slice B14 m14 e14, .slice B24 m24 e24, .slice B34 m34 e34] 29)).alloc (.cells #[.int .i64 rc, .string rt, .int .i64 rn, .slice B44 m44 e44] 37)) := (by repeat (first | (with_reducible exact Below.refl _ _) | (with_reducible assumption) | (with_reducible refine Below.drew ?_) | (with_reducible refine bdrewN ?_ _) | (with_reducible refine balloc ?_ _) | ((with_reducible refine bset ?_ ?_ _); rotate_left; (focus first | exact Nat.le_refl _ | (simp; done) | (simp; omega) | omega)) | (with_reducible refine bstep ?_ (by with_reducible assumption)) | (with_reducible refine Below.trans ?_ (by with_reducible assumption))))
          have TT := And.intro (T4.1.bl bx) (And.intro (T4.2.1.bl bx) (T4.2.2.1.bl bx))
          have q9 : Below w.heap.size w ((w4.alloc (.cells #[.int .i64 dk, .string dt, .int .i64 dc, .slice B14 m14 e14, .slice B24 m24 e24, .slice B34 m34 e34] 29)).alloc (.cells #[.int .i64 rc, .string rt, .int .i64 rn, .slice B44 m44 e44] 37)) := (by repeat (first | (with_reducible exact Below.refl _ _) | (with_reducible assumption) | (with_reducible refine Below.drew ?_) | (with_reducible refine bdrewN ?_ _) | (with_reducible refine balloc ?_ _) | ((with_reducible refine bset ?_ ?_ _); rotate_left; (focus first | exact Nat.le_refl _ | (simp; done) | (simp; omega) | omega)) | (with_reducible refine bstep ?_ (by with_reducible assumption)) | (with_reducible refine Below.trans ?_ (by with_reducible assumption))))
          have hz9 := q9.size
          clear cV3 fV3 cC3 fC3 T4 bx hlk
          have hlz : ((ps.length : Int) == 0) = false := by rw [beq_eq_false_iff_ne]; omega
          have M30 := M3
          obtain ⟨hc0, hn0, hf0, hl2⟩ := s6 trivial hl0
          rw [hx] at hn0
          simp only [Option.isSome_some, Option.isSome_none, if_true, Bool.false_eq_true, if_false] at hn0
          subst hc0
          subst hn0
          obtain ⟨w5, hput, M5, tu⟩ := M3.del (T := 47) Try.underlying9 Try.underlying47 (t := cf) (by unfold maxLen; omega)
          rw [hf0, ← hl2] at M5
          clear hf0 hl2 s3 s4 s5 s6
          replace q9 : Below w.heap.size w w5 := turned_below tu q9 (by omega) hz9
          (try clear cR4 fR4); have cR4 := R4.cell; have fR4 := R4.frozen; (try clear cC3 fC3); have cC3 := C3.cell; have fC3 := C3.frozen
          replace V3 := turned_blk tu V3
          have D5 := turned_blk tu D4
          replace M4 := turned_vsl tu M4 TT
          replace TT := And.intro (turned_tp tu TT.1) (And.intro (turned_tp tu TT.2.1) (turned_tp tu TT.2.2))
          have M3 := M5.mono (Nat.le_succ i)
          clear M5 tu
          (try clear cD5 fD5); have cD5 := D5.cell; have fD5 := D5.frozen; (try clear cV3 fV3); have cV3 := V3.cell; have fV3 := V3.frozen
          go_wp2_with (first | (at_len; refine wpList_mapLen rfl _ _ rfl Try.underlying47 M30 rfl ?_) | (at_delete; refine wpList_mapDel rfl _ _ _ _ rfl _ _ rfl rfl hput ?_) | fail)
          go_roundw
          case rel =>
            obtain ⟨V9, gr9, sz9⟩ := whole_value (Value.int .i64 dk) (Value.string dt) (Value.int .i64 dc) (Value.slice B14 m14 e14) (Value.slice B24 m24 e24) (Value.slice B34 m34 e34) V3
            have M9 := M3.grown gr9 (by omega)
            exact ⟨i + 1, by omega, by omega, by go_num, _, _, _, _, _, _, _, _, _, _, _, _, _, _, _, V9, grown_vsl M4 TT V3 gr9, ⟨grown_tp TT.1 V3 gr9, grown_tp TT.2.1 V3 gr9, grown_tp TT.2.2 V3 gr9⟩, HS4, M9, below_grow q9 gr9 (by have := q9.size; omega) (by omega)⟩
          case measure => simp [intOf]; omega
    · have hend : ¬ ((i : Int) < (n : Int) ∧ (i : Int) < 30) := by omega
      have hiv := N.n1_
      simp only at hiv
      have hro := pair_next HV.out.rises
      have hat := hashF_at HV.out.rises
      simp only at hro hat
      have HRO := hide hro
      have HAT := hide hat
      have HFEW := hide HV.out.short
      have HIV := hide hiv
      have hroom := HV.out.room
      simp only at hroom
      rw [hiv] at hroom
      clear hro hat hiv HV hS hd hmm
      (try clear cV fV); have cV := V.cell; have fV := V.frozen
      have hgo : ((i : Int) < (n : Int) ∧ ¬ (i : Int) < 30) ∨ ¬ (i : Int) < (n : Int) := by omega
      clear hend
      rcases hgo with ⟨ha, hb⟩ | ha
      · go_wp2_with fail
        clear cV fV
        go_loopw [13] (fun s13 wx => ∃ j : Nat, j ≤ n1 ∧ s13 = .int .i64 j ∧ Below wr.heap.size wr wx) (fun s13 _ => n1 - (intOf s13).toNat)
        case atStart => exact ⟨0, by omega, rfl, Below.refl _ _⟩
        case round =>
          obtain ⟨j, hj, rfl, hbx⟩ := hrel
          have Vx := V.bl hbx; have Nx := N.bl hbx; have Mx := M.bl hbx
          have hvx := Vx.lt
          have hmx := Mx.lt
          by_cases hjn : j < n1
          · have hjn' : (j : Int) < (n1 : Int) := by omega
            have hj0 : (0 : Int) ≤ (j : Int) := by omega
            have hjl : j < ps.length := by rw [HIV.out]; exact hjn
            obtain ⟨b, off, rfl, hbb, ⟨l0, m0⟩⟩ := Nx.p.seg.pair (k := j) hjl
            cases j with
            | zero =>
              have hlk := fun nn => (Mx.drewN nn).look (T := 47) Try.underlying9 Try.underlying47 (z := .string { data := #[] }) (by kernel_rfl) (plainElem_string Try.underlying9 (s := { data := #[] }) (by decide)) (t := (ps[0]'hjl).field) (by have := HFEW.out _ (List.getElem_mem hjl); unfold maxLen; omega)
              have hat := HAT.out (0) hjl (.string { data := #[] })
              simp only [hat] at hlk
              clear hat
              generalize ps[0] = x at l0 m0 hlk
              obtain ⟨xfi, xte⟩ := x
              simp only [Nat.zero_mul, Nat.add_zero] at l0 m0 hlk
              (try clear cVx fVx); have cVx := Vx.cell; have fVx := Vx.frozen
              go_wp2_with fail
              go_quiet (fail)
              go_wp2_with fail
              go_roundw
              case rel => exact ⟨1, by omega, by go_num, (by repeat (first | (with_reducible exact Below.refl _ _) | (with_reducible assumption) | (with_reducible refine Below.drew ?_) | (with_reducible refine bdrewN ?_ _) | (with_reducible refine balloc ?_ _) | ((with_reducible refine bset ?_ ?_ _); rotate_left; (focus first | exact Nat.le_refl _ | (simp; done) | (simp; omega) | omega)) | (with_reducible refine bstep ?_ (by with_reducible assumption)) | (with_reducible refine Below.trans ?_ (by with_reducible assumption))))⟩
              case measure => simp [intOf]; omega
            | succ k =>
              have hlk := fun nn => (Mx.drewN nn).look (T := 47) Try.underlying9 Try.underlying47 (z := .string { data := #[] }) (by kernel_rfl) (plainElem_string Try.underlying9 (s := { data := #[] }) (by decide)) (t := (ps[k + 1]'hjl).field) (by have := HFEW.out _ (List.getElem_mem hjl); unfold maxLen; omega)
              have hat := HAT.out (k + 1) hjl (.string { data := #[] })
              simp only [hat] at hlk
              clear hat
              have hoj := HRO.out k hjl
              have hkl : k < ps.length := by omega
              obtain ⟨b', off', hb', -, ⟨l1, -⟩⟩ := Nx.p.seg.pair (k := k) hkl
              injection hb' with hb'
              injection hb' with hb1 hb2
              subst hb1; subst hb2
              generalize ps[k + 1] = x at l0 m0 hlk hoj
              generalize (ps[k]'hkl) = y at l1 hoj
              obtain ⟨xfi, xte⟩ := x
              obtain ⟨yfi, yte⟩ := y
              simp only at l0 m0 l1 hlk hoj
              have hw1 : IntKind.i64.wrap ((k : Int) + 1 - 1) = (k : Int) := by rw [IntWalk.i64_in _ (by omega)]; omega
              have hw2 : IntKind.i64.wrap (k : Int) = (k : Int) := IntWalk.i64_in _ (by omega)
              have hz0 : (0 : Int) ≤ (k : Int) := by omega
              have hz1 : (k : Int) < (n1 : Int) := by omega
              have hz2 : (0 : Int) < (k : Int) + 1 := by omega
              clear hjl hkl
              (try clear cVx fVx); have cVx := Vx.cell; have fVx := Vx.frozen
              go_wp2_with fail
              go_quiet (fail)
              go_wp2_with fail
              go_roundw
              case rel => exact ⟨k + 1 + 1, by omega, by go_num, (by repeat (first | (with_reducible exact Below.refl _ _) | (with_reducible assumption) | (with_reducible refine Below.drew ?_) | (with_reducible refine bdrewN ?_ _) | (with_reducible refine balloc ?_ _) | ((with_reducible refine bset ?_ ?_ _); rotate_left; (focus first | exact Nat.le_refl _ | (simp; done) | (simp; omega) | omega)) | (with_reducible refine bstep ?_ (by with_reducible assumption)) | (with_reducible refine Below.trans ?_ (by with_reducible assumption))))⟩
              case measure => simp [intOf]; omega
          · obtain rfl : j = n1 := by omega
            have hge : ¬ (j : Int) < (j : Int) := by omega
            have hDo := fun w h => Do_may zeroVa ⟨4, { data := #[107] }, { data := #[102] }, { data := #[] }, 0⟩ (.inl rfl) none none none 0 0 0 0 0 0 w h
            have hcc : ccOf ⟨4, { data := #[107] }, { data := #[102] }, { data := #[] }, 0⟩ = 0 := cc_lit (by decide) (by decide) (by rw [if_pos (by decide)]; decide) (by rw [if_pos (by decide)]; decide) (by rw [if_neg (by decide)])
            rw [done_hset0 hcc rfl] at hDo
            clear hcc
            simp only [toldR, emp, zeroVa] at hDo
            have HDO := hide hDo
            have q : Below w.heap.size w wr := (by repeat (first | (with_reducible exact Below.refl _ _) | (with_reducible assumption) | (with_reducible refine Below.drew ?_) | (with_reducible refine bdrewN ?_ _) | (with_reducible refine balloc ?_ _) | ((with_reducible refine bset ?_ ?_ _); rotate_left; (focus first | exact Nat.le_refl _ | (simp; done) | (simp; omega) | omega)) | (with_reducible refine bstep ?_ (by with_reducible assumption)) | (with_reducible refine Below.trans ?_ (by with_reducible assumption))))
            rw [HIV.out] at Mx
            clear hDo HFEW HRO HAT M V N hbx
            (try clear cVx fVx); have cVx := Vx.cell; have fVx := Vx.frozen
            go_wp2_with fail
            refine (HDO.out _ nil_vsl).mono ?_; rintro e w5 ⟨B15, m15, e15, B25, m25, e25, B35, m35, e35, B45, m45, e45, rfl, M5, L5, T5, hb5⟩; replace Vx := Vx.bl hb5; replace Mx := Mx.bl hb5; replace q : Below w.heap.size w w5 := (by repeat (first | (with_reducible exact Below.refl _ _) | (with_reducible assumption) | (with_reducible refine Below.drew ?_) | (with_reducible refine bdrewN ?_ _) | (with_reducible refine balloc ?_ _) | ((with_reducible refine bset ?_ ?_ _); rotate_left; (focus first | exact Nat.le_refl _ | (simp; done) | (simp; omega) | omega)) | (with_reducible refine bstep ?_ (by with_reducible assumption)) | (with_reducible refine Below.trans ?_ (by with_reducible assumption)))); clear hb5
            have D5 := Blk.new w5 29 #[.int .i64 3, .string { data := #[] }, .int .i64 0, .slice B15 m15 e15, .slice B25 m25 e25, .slice B35 m35 e35]; replace M5 := M5.al (.cells #[.int .i64 3, .string { data := #[] }, .int .i64 0, .slice B15 m15 e15, .slice B25 m25 e25, .slice B35 m35 e35] 29); replace L5 := L5.al (.cells #[.int .i64 3, .string { data := #[] }, .int .i64 0, .slice B15 m15 e15, .slice B25 m25 e25, .slice B35 m35 e35] 29); replace Vx := Vx.al (.cells #[.int .i64 3, .string { data := #[] }, .int .i64 0, .slice B15 m15 e15, .slice B25 m25 e25, .slice B35 m35 e35] 29); replace Mx := Mx.al (.cells #[.int .i64 3, .string { data := #[] }, .int .i64 0, .slice B15 m15 e15, .slice B25 m25 e25, .slice B35 m35 e35] 29); have R5 : Blk ((w5.alloc (.cells #[.int .i64 3, .string { data := #[] }, .int .i64 0, .slice B15 m15 e15, .slice B25 m25 e25, .slice B35 m35 e35] 29)).alloc (.cells #[.int .i64 0, .string { data := #[] }, .int .i64 1, .slice B45 m45 e45] 37)) (w5.heap.size + 1) 37 #[.int .i64 0, .string { data := #[] }, .int .i64 1, .slice B45 m45 e45] := Blk.new' _ _ _ (by simp); replace M5 := M5.al (.cells #[.int .i64 0, .string { data := #[] }, .int .i64 1, .slice B45 m45 e45] 37); replace L5 := L5.al (.cells #[.int .i64 0, .string { data := #[] }, .int .i64 1, .slice B45 m45 e45] 37); replace D5 := D5.al (.cells #[.int .i64 0, .string { data := #[] }, .int .i64 1, .slice B45 m45 e45] 37); replace Vx := Vx.al (.cells #[.int .i64 0, .string { data := #[] }, .int .i64 1, .slice B45 m45 e45] 37); replace Mx := Mx.al (.cells #[.int .i64 0, .string { data := #[] }, .int .i64 1, .slice B45 m45 e45] 37)
            have h15 := M5.n1_
            simp only [List.length_cons, List.length_nil] at h15
            subst h15
            clear cVx fVx
            have hlm := Mx.len Try.underlying47 3
            (try clear cD5 fD5); have cD5 := D5.cell; have fD5 := D5.frozen; (try clear cR5 fR5); have cR5 := R5.cell; have fR5 := R5.frozen; (try clear cVx fVx); have cVx := Vx.cell; have fVx := Vx.frozen
            go_wp2_with fail
            go_ret
            exact ⟨rfl, (by repeat (first | (with_reducible exact Below.refl _ _) | (with_reducible assumption) | (with_reducible refine Below.drew ?_) | (with_reducible refine bdrewN ?_ _) | (with_reducible refine balloc ?_ _) | ((with_reducible refine bset ?_ ?_ _); rotate_left; (focus first | exact Nat.le_refl _ | (simp; done) | (simp; omega) | omega)) | (with_reducible refine bstep ?_ (by with_reducible assumption)) | (with_reducible refine Below.trans ?_ (by with_reducible assumption))))⟩
      · go_wp2_with fail
        clear cV fV
        go_loopw [13] (fun s13 wx => ∃ j : Nat, j ≤ n1 ∧ s13 = .int .i64 j ∧ Below wr.heap.size wr wx) (fun s13 _ => n1 - (intOf s13).toNat)
        case atStart => exact ⟨0, by omega, rfl, Below.refl _ _⟩
        case round =>
          obtain ⟨j, hj, rfl, hbx⟩ := hrel
          have Vx := V.bl hbx; have Nx := N.bl hbx; have Mx := M.bl hbx
          have hvx := Vx.lt
          have hmx := Mx.lt
          by_cases hjn : j < n1
          · have hjn' : (j : Int) < (n1 : Int) := by omega
            have hj0 : (0 : Int) ≤ (j : Int) := by omega
            have hjl : j < ps.length := by rw [HIV.out]; exact hjn
            obtain ⟨b, off, rfl, hbb, ⟨l0, m0⟩⟩ := Nx.p.seg.pair (k := j) hjl
            cases j with
            | zero =>
              have hlk := fun nn => (Mx.drewN nn).look (T := 47) Try.underlying9 Try.underlying47 (z := .string { data := #[] }) (by kernel_rfl) (plainElem_string Try.underlying9 (s := { data := #[] }) (by decide)) (t := (ps[0]'hjl).field) (by have := HFEW.out _ (List.getElem_mem hjl); unfold maxLen; omega)
              have hat := HAT.out (0) hjl (.string { data := #[] })
              simp only [hat] at hlk
              clear hat
              generalize ps[0] = x at l0 m0 hlk
              obtain ⟨xfi, xte⟩ := x
              simp only [Nat.zero_mul, Nat.add_zero] at l0 m0 hlk
              (try clear cVx fVx); have cVx := Vx.cell; have fVx := Vx.frozen
              go_wp2_with fail
              go_quiet (fail)
              go_wp2_with fail
              go_roundw
              case rel => exact ⟨1, by omega, by go_num, (by repeat (first | (with_reducible exact Below.refl _ _) | (with_reducible assumption) | (with_reducible refine Below.drew ?_) | (with_reducible refine bdrewN ?_ _) | (with_reducible refine balloc ?_ _) | ((with_reducible refine bset ?_ ?_ _); rotate_left; (focus first | exact Nat.le_refl _ | (simp; done) | (simp; omega) | omega)) | (with_reducible refine bstep ?_ (by with_reducible assumption)) | (with_reducible refine Below.trans ?_ (by with_reducible assumption))))⟩
              case measure => simp [intOf]; omega
            | succ k =>
              have hlk := fun nn => (Mx.drewN nn).look (T := 47) Try.underlying9 Try.underlying47 (z := .string { data := #[] }) (by kernel_rfl) (plainElem_string Try.underlying9 (s := { data := #[] }) (by decide)) (t := (ps[k + 1]'hjl).field) (by have := HFEW.out _ (List.getElem_mem hjl); unfold maxLen; omega)
              have hat := HAT.out (k + 1) hjl (.string { data := #[] })
              simp only [hat] at hlk
              clear hat
              have hoj := HRO.out k hjl
              have hkl : k < ps.length := by omega
              obtain ⟨b', off', hb', -, ⟨l1, -⟩⟩ := Nx.p.seg.pair (k := k) hkl
              injection hb' with hb'
              injection hb' with hb1 hb2
              subst hb1; subst hb2
              generalize ps[k + 1] = x at l0 m0 hlk hoj
              generalize (ps[k]'hkl) = y at l1 hoj
              obtain ⟨xfi, xte⟩ := x
              obtain ⟨yfi, yte⟩ := y
              simp only at l0 m0 l1 hlk hoj
              have hw1 : IntKind.i64.wrap ((k : Int) + 1 - 1) = (k : Int) := by rw [IntWalk.i64_in _ (by omega)]; omega
              have hw2 : IntKind.i64.wrap (k : Int) = (k : Int) := IntWalk.i64_in _ (by omega)
              have hz0 : (0 : Int) ≤ (k : Int) := by omega
              have hz1 : (k : Int) < (n1 : Int) := by omega
              have hz2 : (0 : Int) < (k : Int) + 1 := by omega
              clear hjl hkl
              (try clear cVx fVx); have cVx := Vx.cell; have fVx := Vx.frozen
              go_wp2_with fail
              go_quiet (fail)
              go_wp2_with fail
              go_roundw
              case rel => exact ⟨k + 1 + 1, by omega, by go_num, (by repeat (first | (with_reducible exact Below.refl _ _) | (with_reducible assumption) | (with_reducible refine Below.drew ?_) | (with_reducible refine bdrewN ?_ _) | (with_reducible refine balloc ?_ _) | ((with_reducible refine bset ?_ ?_ _); rotate_left; (focus first | exact Nat.le_refl _ | (simp; done) | (simp; omega) | omega)) | (with_reducible refine bstep ?_ (by with_reducible assumption)) | (with_reducible refine Below.trans ?_ (by with_reducible assumption))))⟩
              case measure => simp [intOf]; omega
          · obtain rfl : j = n1 := by omega
            have hge : ¬ (j : Int) < (j : Int) := by omega
            have hDo := fun w h => Do_may zeroVa ⟨4, { data := #[107] }, { data := #[102] }, { data := #[] }, 0⟩ (.inl rfl) none none none 0 0 0 0 0 0 w h
            have hcc : ccOf ⟨4, { data := #[107] }, { data := #[102] }, { data := #[] }, 0⟩ = 0 := cc_lit (by decide) (by decide) (by rw [if_pos (by decide)]; decide) (by rw [if_pos (by decide)]; decide) (by rw [if_neg (by decide)])
            rw [done_hset0 hcc rfl] at hDo
            clear hcc
            simp only [toldR, emp, zeroVa] at hDo
            have HDO := hide hDo
            have q : Below w.heap.size w wr := (by repeat (first | (with_reducible exact Below.refl _ _) | (with_reducible assumption) | (with_reducible refine Below.drew ?_) | (with_reducible refine bdrewN ?_ _) | (with_reducible refine balloc ?_ _) | ((with_reducible refine bset ?_ ?_ _); rotate_left; (focus first | exact Nat.le_refl _ | (simp; done) | (simp; omega) | omega)) | (with_reducible refine bstep ?_ (by with_reducible assumption)) | (with_reducible refine Below.trans ?_ (by with_reducible assumption))))
            rw [HIV.out] at Mx
            clear hDo HFEW HRO HAT M V N hbx
            (try clear cVx fVx); have cVx := Vx.cell; have fVx := Vx.frozen
            go_wp2_with fail
            refine (HDO.out _ nil_vsl).mono ?_; rintro e w5 ⟨B15, m15, e15, B25, m25, e25, B35, m35, e35, B45, m45, e45, rfl, M5, L5, T5, hb5⟩; replace Vx := Vx.bl hb5; replace Mx := Mx.bl hb5; replace q : Below w.heap.size w w5 := (by repeat (first | (with_reducible exact Below.refl _ _) | (with_reducible assumption) | (with_reducible refine Below.drew ?_) | (with_reducible refine bdrewN ?_ _) | (with_reducible refine balloc ?_ _) | ((with_reducible refine bset ?_ ?_ _); rotate_left; (focus first | exact Nat.le_refl _ | (simp; done) | (simp; omega) | omega)) | (with_reducible refine bstep ?_ (by with_reducible assumption)) | (with_reducible refine Below.trans ?_ (by with_reducible assumption)))); clear hb5
            have D5 := Blk.new w5 29 #[.int .i64 3, .string { data := #[] }, .int .i64 0, .slice B15 m15 e15, .slice B25 m25 e25, .slice B35 m35 e35]; replace M5 := M5.al (.cells #[.int .i64 3, .string { data := #[] }, .int .i64 0, .slice B15 m15 e15, .slice B25 m25 e25, .slice B35 m35 e35] 29); replace L5 := L5.al (.cells #[.int .i64 3, .string { data := #[] }, .int .i64 0, .slice B15 m15 e15, .slice B25 m25 e25, .slice B35 m35 e35] 29); replace Vx := Vx.al (.cells #[.int .i64 3, .string { data := #[] }, .int .i64 0, .slice B15 m15 e15, .slice B25 m25 e25, .slice B35 m35 e35] 29); replace Mx := Mx.al (.cells #[.int .i64 3, .string { data := #[] }, .int .i64 0, .slice B15 m15 e15, .slice B25 m25 e25, .slice B35 m35 e35] 29); have R5 : Blk ((w5.alloc (.cells #[.int .i64 3, .string { data := #[] }, .int .i64 0, .slice B15 m15 e15, .slice B25 m25 e25, .slice B35 m35 e35] 29)).alloc (.cells #[.int .i64 0, .string { data := #[] }, .int .i64 1, .slice B45 m45 e45] 37)) (w5.heap.size + 1) 37 #[.int .i64 0, .string { data := #[] }, .int .i64 1, .slice B45 m45 e45] := Blk.new' _ _ _ (by simp); replace M5 := M5.al (.cells #[.int .i64 0, .string { data := #[] }, .int .i64 1, .slice B45 m45 e45] 37); replace L5 := L5.al (.cells #[.int .i64 0, .string { data := #[] }, .int .i64 1, .slice B45 m45 e45] 37); replace D5 := D5.al (.cells #[.int .i64 0, .string { data := #[] }, .int .i64 1, .slice B45 m45 e45] 37); replace Vx := Vx.al (.cells #[.int .i64 0, .string { data := #[] }, .int .i64 1, .slice B45 m45 e45] 37); replace Mx := Mx.al (.cells #[.int .i64 0, .string { data := #[] }, .int .i64 1, .slice B45 m45 e45] 37)
            have h15 := M5.n1_
            simp only [List.length_cons, List.length_nil] at h15
            subst h15
            clear cVx fVx
            have hlm := Mx.len Try.underlying47 3
            (try clear cD5 fD5); have cD5 := D5.cell; have fD5 := D5.frozen; (try clear cR5 fR5); have cR5 := R5.cell; have fR5 := R5.frozen; (try clear cVx fVx); have cVx := Vx.cell; have fVx := Vx.frozen
            go_wp2_with fail
            go_ret
            exact ⟨rfl, (by repeat (first | (with_reducible exact Below.refl _ _) | (with_reducible assumption) | (with_reducible refine Below.drew ?_) | (with_reducible refine bdrewN ?_ _) | (with_reducible refine balloc ?_ _) | ((with_reducible refine bset ?_ ?_ _); rotate_left; (focus first | exact Nat.le_refl _ | (simp; done) | (simp; omega) | omega)) | (with_reducible refine bstep ?_ (by with_reducible assumption)) | (with_reducible refine Below.trans ?_ (by with_reducible assumption))))⟩
set_option maxRecDepth 100000 in
theorem hashModel_lifted (os : Os) (started : os.Started) (H : Type) (enc : TypeId × Value → H) :
  ReturnsInHanded {} Try.checked os 6 .any (Rows.hashModelSpec.pre6 enc Try.prog Try.f6 Rows.hashModelRow.domain false) (Rows.hashModelSpec.post enc Try.prog Try.f6 false true false false) := by
  refine returnsInHanded_of_change (C := Try.checked) Try.own started (by kernel_rfl) Try.func6 (ChangeSpec.witness6 (enc := enc) (C := Try.checked) false ⟨#[], #[.slice none 0 0], []⟩ 8 (by kernel_rfl) (by kernel_rfl) (by kernel_rfl) (by kernel_rfl)) ?_
  intro W base args ds gs before hval0 hW hcnd _
  have hval : ∀ (j : Nat) t v, Try.f6.params[j]? = some t → args[j]? = some v → Value.okWide Try.prog W .any base t v := hval0
  have hW' := hW
  obtain ⟨p, q, hA0, hV, rfl, hfz, hnd⟩ := hW
  have hA : DataW.TrodAll enc Try.prog W 0 (fun _ => true) true Try.f6.params.toList args.toList ds p := hA0
  rw [Try.params6] at hA hval
  obtain ⟨rfl, rfl⟩ := trodVars_none hV
  clear hA0 hval0 hcnd hV hfz hnd
  obtain ⟨v0, d0, rfl, rfl, h0⟩ := trodAll_one hA
  obtain ⟨A, n, c, l, rfl, hd, hS⟩ := open_raws (hval 0 22 v0 rfl rfl) h0
  refine (hashModel_walk A n c l W hS hd).mono fun e W' ⟨he, hb⟩ => ?_
  subst he
  exact ⟨_, rfl, post_law Try.laidOut hW' rfl (by kernel_rfl) rfl Try.underlying4 (fun _ => rfl) (fun _ => rfl) (fun _ => rfl) hb⟩
theorem hashModel_holds : Rows.HashModelSaid := OpenClaim.holds_of_wide 6 Try.f6 rfl rfl rfl rfl rfl rfl rfl ⟨rfl, rfl, rfl, rfl, rfl⟩ rfl rfl rfl rfl rfl (by kernel_rfl) Try.func6 (by kernel_rfl)
  (of_decide_eq_true (by kernel_rfl)) (by unfold Func.isWrapper; first | (rw [if_pos (by decide +kernel)]; kernel_rfl) | (rw [if_neg (by decide +kernel)]; exact ⟨rfl, rfl⟩))
  (fun os started H enc _ => hashModel_lifted os started H enc)
#print axioms hashModel_holds
end Go.Proofs.Ytcelcanfdalliaa
