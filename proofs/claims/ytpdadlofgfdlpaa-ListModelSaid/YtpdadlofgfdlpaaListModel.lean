/- rostrumkeep.ListModel returns true for every input and leaves its arguments as they were; no condition. -/
import Derived.Test.YtpdadlofgfdlpaaValLaw
import Derived.Test.YtpdadlofgfdlpaaListP
import Derived.Test.YtpdadlofgfdlpaaAllocOne
import Derived.Test.YtpdadlofgfdlpaaAt
import Derived.Test.YtpdadlofgfdlpaaSame
namespace Go.Proofs.Ytpdadlofgfdlpaa
set_option linter.all false
open Go.ChangeShapes Go.WideShapes Go.ChangeAt Go.RowKit
def listK (p : Int) : Int := if p = 1 then 8 else if p = 3 then 8 else if p = 4 then 9 else if p = 5 then 10 else 7
theorem listK_cases {p : Int} (h0 : 0 ≤ p) (h1 : p < 6) : (p = 0 ∧ listK p = 7) ∨ (p = 1 ∧ listK p = 8) ∨ (p = 2 ∧ listK p = 7) ∨ (p = 3 ∧ listK p = 8) ∨ (p = 4 ∧ listK p = 9) ∨ (p = 5 ∧ listK p = 10) := by
  have hp : p = 0 ∨ p = 1 ∨ p = 2 ∨ p = 3 ∨ p = 4 ∨ p = 5 := by omega
  rcases hp with rfl | rfl | rfl | rfl | rfl | rfl <;> simp [listK]
theorem whole_command {w2 : World} {b : Nat} {x0 x1 x2 x3 x4 : Value} (u0 u1 u2 u3 u4 : Value) (R : Blk w2 b 46 #[x0, x1, x2, x3, x4]) :
    Blk (((((w2.setCell ⟨b, 0, none⟩ u0).setCell ⟨b, 1, none⟩ u1).setCell ⟨b, 2, none⟩ u2).setCell ⟨b, 3, none⟩ u3).setCell ⟨b, 4, none⟩ u4) b 46 #[u0, u1, u2, u3, u4] ∧ w2.grownBy (((((w2.setCell ⟨b, 0, none⟩ u0).setCell ⟨b, 1, none⟩ u1).setCell ⟨b, 2, none⟩ u2).setCell ⟨b, 3, none⟩ u3).setCell ⟨b, 4, none⟩ u4) (some b) := by
  have R0 := R.set' (i := 0) (u := u0) rfl
  have R1 := R0.set' (i := 1) (u := u1) rfl
  have R2 := R1.set' (i := 2) (u := u2) rfl
  have R3 := R2.set' (i := 3) (u := u3) rfl
  have R4 := R3.set' (i := 4) (u := u4) rfl
  exact ⟨R4, grown_trans (grown_trans (grown_trans (grown_trans (grown_setRow_cell w2 b 0 u0) (grown_setRow_cell _ b 1 u1)) (grown_setRow_cell _ b 2 u2)) (grown_setRow_cell _ b 3 u3)) (grown_setRow_cell _ b 4 u4)⟩
theorem list_cmd (k xn : Int) (xt : ByteArray) (hk : 7 ≤ k ∧ k ≤ 10) (hn : I64 xn) (ht : xt.size ≤ maxLen) : ∃ y f t : ByteArray, ∃ n : Int, t.size ≤ 20 ∧ ccOf ⟨k, y, f, t, n⟩ = 0 ∧
    ∀ w, Calls Try.prog 20 #[.agg #[.int .i64 (k - 1), .int .i64 0, .int .i64 0, .int .i64 xn, .string xt]] w fun e w' => e = .returned (cmdV ⟨k, y, f, t, n⟩) ∧ Below w.heap.size w w' := by
  have hcc := cmdR_cc ⟨k - 1, 0, 0, xn, xt⟩
  have h0 : I64 0 := ⟨by show (-9223372036854775808 : Int) ≤ 0; omega, by show (0 : Int) ≤ 9223372036854775807; omega⟩
  have hcall := fun w => CommandR_any ⟨k - 1, 0, 0, xn, xt⟩ ⟨⟨by show -9223372036854775808 ≤ k - 1; omega, by show k - 1 ≤ 9223372036854775807; omega⟩, h0, h0, hn, ht⟩ w
  have h1 : (cmdR ⟨k - 1, 0, 0, xn, xt⟩).kind = k := by
    show 1 + picked (k - 1) 22 = k
    rw [picked_self (by omega) (by omega)]; omega
  have h3 : (cmdR ⟨k - 1, 0, 0, xn, xt⟩).text.size ≤ 20 := by
    show (if cmdText (1 + picked (k - 1) 22) = true then (if (picked xn 3 == 0) = true then some_ xn else cut_ xt 6) else emp).size ≤ 20
    split
    · split
      · rw [some_size]; omega
      · have := cut_size xt 6; omega
    · simp [emp, ByteArray.size]
  generalize cmdR ⟨k - 1, 0, 0, xn, xt⟩ = cm at *
  obtain ⟨ck, cy, cf, ct, cn⟩ := cm
  simp only at h1 h3 hcall
  subst h1
  exact ⟨cy, cf, ct, cn, h3, hcc, hcall⟩
/-- Two slices whose blocks, if they have any, are not one. -/
def Apart (A B : Option Addr) : Prop := ∀ a b, A = some a → B = some b → a.block ≠ b.block
section
variable {w w' : World} {base n c : Nat} {v : Va} {Q A1 A2 A3 : Option Addr} {n1 c1 n2 c2 n3 c3 : Nat} {rows : List (List Value)}
theorem vsl_push (h : VSl w v A1 n1 c1 A2 n2 c2 A3 n3 c3) (T : Tp w A1 114 ∧ Tp w A2 9 ∧ Tp w A3 116) (X : At w base 9 Q n c rows) (hap : Apart Q A2) (hg : w.grownBy w' (Q.map (·.block))) : VSl w' v A1 n1 c1 A2 n2 c2 A3 n3 c3 := by
  refine ⟨h.p.kept hg.size fun a ha hl => ?_, h.i.kept hg.size fun a ha hl => grown_keep hg hl fun b hb => hap b a hb ha, h.s.kept hg.size fun a ha hl => ?_⟩
  · obtain ⟨cs, hc⟩ := T.1 a ha
    exact grown_keep hg hl (X.type hc)
  · obtain ⟨cs, hc⟩ := T.2.2 a ha
    exact grown_keep hg hl (X.type hc)
theorem tp_push (T : Tp w A1 114 ∧ Tp w A2 9 ∧ Tp w A3 116) (X : At w base 9 Q n c rows) (hap : Apart Q A2) (hg : w.grownBy w' (Q.map (·.block))) : Tp w' A1 114 ∧ Tp w' A2 9 ∧ Tp w' A3 116 := by
  refine ⟨fun a ha => ?_, fun a ha => ?_, fun a ha => ?_⟩
  · obtain ⟨cs, hc⟩ := T.1 a ha
    exact ⟨cs, blk_push hc X hg⟩
  · obtain ⟨cs, hc⟩ := T.2.1 a ha
    exact ⟨cs, (grown_keep hg hc.lt fun b hb => hap b a hb ha).trans hc⟩
  · obtain ⟨cs, hc⟩ := T.2.2 a ha
    exact ⟨cs, blk_push hc X hg⟩
end
set_option maxRecDepth 100000 in
set_option maxHeartbeats 8000000 in
theorem listModel_walk (A : Option Addr) (n c : Nat) (l : List RawD) (w : World) (hS : Sl w 5 A n c (rawRows l)) (hd : ∀ d ∈ l, d.ok) :
    Calls Try.prog 4 #[.slice A n c] w fun e w' => e = .returned (.bool true) ∧ Below w.heap.size w w' := by
  have hln := raw_len hS
  have hnc := hS.nc
  have V0 := Blk.new w 40 #[.int .i64 0, .string { data := #[] }, .int .i64 0, .slice none 0 0, .slice none 0 0, .slice none 0 0]
  go_enter Try.func4, Try.ntmps4
  go_wp2_with fail
  go_loopw [4, 5] (fun s4 s5 wr => ∃ i : Nat, i ≤ n ∧ i ≤ 30 ∧ s5 = .int .i64 i ∧ ∃ (vk : Int) (vt : ByteArray) (vc : Int) (ps : List Pr) (is_ : List ByteArray) (ss : List Sc) (A1 : Option Addr) (n1 c1 : Nat) (A2 : Option Addr) (n2 c2 : Nat) (A3 : Option Addr) (n3 c3 : Nat) (Q : Option Addr) (qn qc : Nat), s4 = .slice Q qn qc ∧
      Blk wr w.heap.size 40 #[.int .i64 vk, .string vt, .int .i64 vc, .slice A1 n1 c1, .slice A2 n2 c2, .slice A3 n3 c3] ∧ VSl wr ⟨vk, vt, vc, ps, is_, ss⟩ A1 n1 c1 A2 n2 c2 A3 n3 c3 ∧ (Tp wr A1 114 ∧ Tp wr A2 9 ∧ Tp wr A3 116) ∧
      Hid (ListV ⟨vk, vt, vc, ps, is_, ss⟩) ∧ At wr w.heap.size 9 Q qn qc (strRows is_) ∧ Below w.heap.size w wr)
    (fun _ s5 _ => n - (intOf s5).toNat)
  case atStart => exact ⟨0, by omega, by omega, rfl, _, _, _, [], [], [], _, _, _, _, _, _, _, _, _, _, _, _, rfl, V0, nil_vsl, ⟨Tp.none_, Tp.none_, Tp.none_⟩, hide list_zero, At.nil _ _ _, (by repeat (first | (with_reducible exact Below.refl _ _) | (with_reducible assumption) | (with_reducible refine Below.drew ?_) | (with_reducible refine bdrewN ?_ _) | (with_reducible refine balloc ?_ _) | ((with_reducible refine bset ?_ ?_ _); rotate_left; (focus first | exact Nat.le_refl _ | (simp; done) | (simp; omega) | omega)) | (with_reducible refine bstep ?_ (by with_reducible assumption)) | (with_reducible refine Below.trans ?_ (by with_reducible assumption))))⟩
  case round =>
    obtain ⟨i, hi, hi30, rfl, vk, vt, vc, ps, is_, ss, A1, n1, c1, A2, n2, c2, A3, n3, c3, Q, qn, qc, rfl, V, N, T, HV, M, hbr⟩ := hrel
    clear V0
    have hbs := hbr.size
    have hv1 := V.lt
    by_cases hlt : i < n ∧ i < 30
    · obtain ⟨h1, h2⟩ := hlt
      have h1' : (i : Int) < (n : Int) := by omega
      have h2' : (i : Int) < 30 := by omega
      have hi0 : (0 : Int) ≤ (i : Int) := by omega
      obtain ⟨rb, ro, rfl, hrb, R⟩ := hS.raw (k := i) (by omega)
      have hdx := hd _ (List.getElem_mem (show i < l.length by omega))
      generalize (l[i]'(by omega)) = x at R hdx
      obtain ⟨xk, xy, xf, xn, xt⟩ := x
      have R2 := R.bl hrb hbr
      obtain ⟨g0, -, -, g3, g4⟩ := R2
      simp only at g0 g3 g4
      have hrw : rb < wr.heap.size := by omega
      have p1 := picked_lo xk 6 (by omega)
      have p2 := picked_hi xk 6 (by omega)
      have hR := fun w => picked_any xk 6 w hdx.1.1 hdx.1.2 (by omega) (by omega)
      generalize picked xk 6 = p at *
      have HR := hide hR
      clear hR
      (try clear cV fV); have cV := V.cell; have fV := V.frozen
      go_wp2_with fail
      refine (HR.out _).mono ?_
      rintro e w' ⟨rfl, rfl⟩
      rcases listK_cases p1 p2 with ⟨rfl, hk⟩ | ⟨rfl, hk⟩ | ⟨rfl, hk⟩ | ⟨rfl, hk⟩ | ⟨rfl, hk⟩ | ⟨rfl, hk⟩
      · go_wp2_with fail
        generalize hW : wr.alloc (.cells #[.int .i64 7, .int .i64 8, .int .i64 7, .int .i64 8, .int .i64 9, .int .i64 10] 3) = W at *
        have qW : Below wr.heap.size wr W := by rw [← hW]; exact (Below.refl _ wr).alloc (Nat.le_refl _) _
        clear hW
        have V2 := V.bl qW; have N2 := N.bl qW; have M2 := M.bl qW
        have T2 := And.intro (T.1.bl qW) (And.intro (T.2.1.bl qW) (T.2.2.bl qW))
        have hrW : rb < W.heap.size := by have := qW.size; omega
        have g3' := (qW.cell (p := ⟨rb, ro + i * 5 + 3, none⟩) hrw).trans g3
        have g4' := (qW.cell (p := ⟨rb, ro + i * 5 + 4, none⟩) hrw).trans g4
        have q : Below w.heap.size w W := bstep hbr qW
        obtain ⟨cy, cf, ct, cn, hcts, hcc, hcall⟩ := list_cmd 7 xn xt (by omega) hdx.2.2.2.1 hdx.2.2.2.2
        have hstep := list_step HV.out hcc (by simp)
        have hroom := HV.out.room
        have hDo := fun w h => Do_mayN ⟨vk, vt, vc, ps, is_, ss⟩ ⟨7, cy, cf, ct, cn⟩ HV.out.may' A1 A2 A3 n1 c1 n2 c2 n3 c3 w h
        generalize doneVal ⟨vk, vt, vc, ps, is_, ss⟩ ⟨7, cy, cf, ct, cn⟩ = D at *
        obtain ⟨⟨dk, dt, dc, dps, dis, dss⟩, ⟨rc, rt, rn, rl⟩, de⟩ := D
        obtain ⟨s1, s2, s3⟩ := hstep
        simp only [cmdV, Int.reduceSub] at s1 s3 hcall hroom
        subst s1
        have HDO := hide hDo
        have HS4 := hide s2
        have HS3 := hide s3
        have HROOM := hide hroom
        clear hDo s2 s3 hroom hcc
        have HCALL := hide hcall
        clear hcall g0 g3 g4 cV fV
        have hsG : ∀ w', Below W.heap.size W w' → (w'.cell? ⟨rb, ro + i * 5 + 3, none⟩ = some (.int .i64 xn) ∧ w'.cell? ⟨rb, ro + i * 5 + 4, none⟩ = some (.string xt)) := fun w' q => ⟨(q.cell (p := ⟨rb, ro + i * 5 + 3, none⟩) hrW).trans g3', (q.cell (p := ⟨rb, ro + i * 5 + 4, none⟩) hrW).trans g4'⟩
        refine wp_region_x (l := []) (S := fun w' => (w'.cell? ⟨rb, ro + i * 5 + 3, none⟩ = some (.int .i64 xn) ∧ w'.cell? ⟨rb, ro + i * 5 + 4, none⟩ = some (.string xt))) (by kernel_rfl) (hsG _ (Below.refl _ W).drew) (fun hS => ?_)
        refine wpAnyX_take (i := 0) (v := ?xv0a) rfl (by kernel_rfl) (by kernel_rfl) (by kernel_rfl) (by kernel_rfl) (fun _ _ _ h => h) (Or.inl ⟨by rfl, ?xh0a⟩) (by assumption) ?xr0a; (case xh0a => (intro w hSw; (try dsimp only at hSw); go_simp; (try with_reducible rfl))); (try simp only [Act.put, List.setIfInBounds_toArray, List.set_cons_zero, List.set_cons_succ, List.getElem_toArray, List.getElem_cons_zero, List.getElem_cons_succ])
        refine wpAnyX_take (i := 1) (v := ?xv1a) rfl (by kernel_rfl) (by kernel_rfl) (by kernel_rfl) (by kernel_rfl) (fun _ _ _ h => h) (Or.inl ⟨by rfl, ?xh1a⟩) (by assumption) ?xr1a; (case xh1a => (intro w hSw; (try dsimp only at hSw); go_simp; (try with_reducible rfl))); (try simp only [Act.put, List.setIfInBounds_toArray, List.set_cons_zero, List.set_cons_succ, List.getElem_toArray, List.getElem_cons_zero, List.getElem_cons_succ])
        refine wpAnyX_take (i := 2) (v := ?xv2a) rfl (by kernel_rfl) (by kernel_rfl) (by kernel_rfl) (by kernel_rfl) (fun _ _ _ h => h) (Or.inl ⟨by rfl, ?xh2a⟩) (by assumption) ?xr2a; (case xh2a => (intro w hSw; (try dsimp only at hSw); go_simp; (try with_reducible rfl))); (try simp only [Act.put, List.setIfInBounds_toArray, List.set_cons_zero, List.set_cons_succ, List.getElem_toArray, List.getElem_cons_zero, List.getElem_cons_succ])
        refine wpAnyX_take (i := 3) (v := ?xv3a) rfl (by kernel_rfl) (by kernel_rfl) (by kernel_rfl) (by kernel_rfl) (fun _ _ _ h => h) (Or.inl ⟨by rfl, ?xh3a⟩) (by assumption) ?xr3a; (case xh3a => (intro w hSw; (try dsimp only at hSw); go_simp; (try with_reducible rfl))); (try simp only [Act.put, List.setIfInBounds_toArray, List.set_cons_zero, List.set_cons_succ, List.getElem_toArray, List.getElem_cons_zero, List.getElem_cons_succ])
        refine wpAnyX_take (i := 4) (v := ?xv4a) rfl (by kernel_rfl) (by kernel_rfl) (by kernel_rfl) (by kernel_rfl) (fun _ _ _ h => h) (Or.inl ⟨by rfl, ?xh4a⟩) (by assumption) ?xr4a; (case xh4a => (intro w hSw; (try dsimp only at hSw); go_simp; (try with_reducible rfl))); (try simp only [Act.put, List.setIfInBounds_toArray, List.set_cons_zero, List.set_cons_succ, List.getElem_toArray, List.getElem_cons_zero, List.getElem_cons_succ])
        refine wpAnyX_take (i := 5) (v := ?xv5a) rfl (by kernel_rfl) (by kernel_rfl) (by kernel_rfl) (by kernel_rfl) (fun _ _ _ h => h) (Or.inl ⟨by rfl, ?xh5a⟩) (by assumption) ?xr5a; (case xh5a => (intro w hSw; (try dsimp only at hSw); go_simp; (try with_reducible rfl))); (try simp only [Act.put, List.setIfInBounds_toArray, List.set_cons_zero, List.set_cons_succ, List.getElem_toArray, List.getElem_cons_zero, List.getElem_cons_succ])
        refine wpAnyX_take (i := 6) (v := ?xv6a) rfl (by kernel_rfl) (by kernel_rfl) (by kernel_rfl) (by kernel_rfl) (fun _ _ _ h => h) (Or.inl ⟨by rfl, ?xh6a⟩) (by assumption) ?xr6a; (case xh6a => (intro w hSw; (try dsimp only at hSw); go_simp; (try with_reducible rfl))); (try simp only [Act.put, List.setIfInBounds_toArray, List.set_cons_zero, List.set_cons_succ, List.getElem_toArray, List.getElem_cons_zero, List.getElem_cons_succ])
        refine wpAnyX_take (i := 7) (v := ?xv7a) rfl (by kernel_rfl) (by kernel_rfl) (by kernel_rfl) (by kernel_rfl) (fun _ _ _ h => h) (Or.inl ⟨by rfl, ?xh7a⟩) (by assumption) ?xr7a; (case xh7a => (intro w hSw; (try dsimp only at hSw); go_simp; (try with_reducible rfl))); (try simp only [Act.put, List.setIfInBounds_toArray, List.set_cons_zero, List.set_cons_succ, List.getElem_toArray, List.getElem_cons_zero, List.getElem_cons_succ])
        refine wpAnyX_take (i := 8) (v := ?xv8a) rfl (by kernel_rfl) (by kernel_rfl) (by kernel_rfl) (by kernel_rfl) (fun _ _ _ h => h) (Or.inl ⟨by rfl, ?xh8a⟩) (by assumption) ?xr8a; (case xh8a => (intro w hSw; (try dsimp only at hSw); go_simp; (try with_reducible rfl))); (try simp only [Act.put, List.setIfInBounds_toArray, List.set_cons_zero, List.set_cons_succ, List.getElem_toArray, List.getElem_cons_zero, List.getElem_cons_succ])
        refine wpAnyX_take (i := 9) (v := ?xv9a) rfl (by kernel_rfl) (by kernel_rfl) (by kernel_rfl) (by kernel_rfl) (fun _ _ _ h => h) (Or.inl ⟨by rfl, ?xh9a⟩) (by assumption) ?xr9a; (case xh9a => (intro w hSw; (try dsimp only at hSw); go_simp; (try with_reducible rfl))); (try simp only [Act.put, List.setIfInBounds_toArray, List.set_cons_zero, List.set_cons_succ, List.getElem_toArray, List.getElem_cons_zero, List.getElem_cons_succ])
        refine wpAnyX_take (i := 10) (v := ?xv10a) rfl (by kernel_rfl) (by kernel_rfl) (by kernel_rfl) (by kernel_rfl) (fun _ _ _ h => h) (Or.inl ⟨by rfl, ?xh10a⟩) (by assumption) ?xr10a; (case xh10a => (intro w hSw; (try dsimp only at hSw); go_simp; (try with_reducible rfl))); (try simp only [Act.put, List.setIfInBounds_toArray, List.set_cons_zero, List.set_cons_succ, List.getElem_toArray, List.getElem_cons_zero, List.getElem_cons_succ])
        refine wpAnyX_take (i := 11) (v := ?xv11a) rfl (by kernel_rfl) (by kernel_rfl) (by kernel_rfl) (by kernel_rfl) (fun _ _ _ h => h) (Or.inl ⟨by rfl, ?xh11a⟩) (by assumption) ?xr11a; (case xh11a => (intro w hSw; (try dsimp only at hSw); go_simp; (try with_reducible rfl))); (try simp only [Act.put, List.setIfInBounds_toArray, List.set_cons_zero, List.set_cons_succ, List.getElem_toArray, List.getElem_cons_zero, List.getElem_cons_succ])
        refine wpAnyX_take (i := 12) (v := ?xv12a) rfl (by kernel_rfl) (by kernel_rfl) (by kernel_rfl) (by kernel_rfl) (fun _ _ _ h => h) (Or.inl ⟨by rfl, ?xh12a⟩) (by assumption) ?xr12a; (case xh12a => (intro w hSw; (try dsimp only at hSw); go_simp; (try with_reducible rfl))); (try simp only [Act.put, List.setIfInBounds_toArray, List.set_cons_zero, List.set_cons_succ, List.getElem_toArray, List.getElem_cons_zero, List.getElem_cons_succ])
        have HSG := hide hsG
        clear hsG hS g3' g4'
        refine wpX_startA (n := 2 + left1 false) (listed := (fun b_ => #[true, true, true, true, true, true, true, true, true, true, true, true, true, false, b_, false]) false) (j := 14) (d := 7) (t := 46) (z := #[.int .i64 0, .string { data := #[] }, .string { data := #[] }, .string { data := #[] }, .int .i64 0]) ?al1a ?alna ?alla (fun al1 => ?alra); (case al1a => exact ⟨⟨_, rfl, rfl, rfl, fun a w => by simp [go_sem, execOp]⟩⟩); (case alna => kernel_rfl); (case alla => kernel_rfl)
        refine' wpX_phaseA' (f := 1) (i := 13) (L := (fun b_ => #[true, true, true, true, true, true, true, true, true, true, true, true, true, false, b_, false])) (L' := (fun b_ => #[true, true, true, true, true, true, true, true, true, true, true, true, true, true, b_, false])) (base := W.heap.size) (G := (fun w' => Below W.heap.size W w')) (x := u7) al1 ?an13a ?al13a ?aa13a ?ar13a ?ai13a ?ag13a ?ae113a ?ae313a ?ap113a HSG.out (fun w' o q => q.alloc q.size o) (fun w' q => q.size) ?aw13a ?am13a; (case an13a => rfl); (case al13a => rfl); (case aa13a => rfl); (case ar13a => kernel_rfl); (case ai13a => rfl); (case ag13a => rfl); (case ae113a => rfl); (case ae313a => (intros; rfl)); (case ap113a => (intros; rfl))
        (case aw13a => exact (Below.refl _ W).drew)
        intro b_ x_ w5 hG_ hx_ K_ hK_; (try simp only [Act.put, List.setIfInBounds_toArray, List.set_cons_zero, List.set_cons_succ, List.getElem_toArray, List.getElem_cons_zero, List.getElem_cons_succ])
        go_wp2_with fail
        refine (HCALL.out _).mono ?_
        rintro e w6 ⟨rfl, hb6⟩
        go_wp2_with fail
        have q6 : Below W.heap.size W w6 := bstep hG_ hb6
        have hS6 := HSG.out _ q6
        refine hK_.out _ _ (Or.inr hS6) ?_
        clear hK_ K_ hG_
        refine' wpX_layA' (f := 1) (L := (fun b_ => #[true, true, true, true, true, true, true, true, true, true, true, true, true, true, b_, false])) (base := W.heap.size) (G := (fun w' => Below w6.heap.size w6 w')) (b := b_) (x := x_) al1 ?anLa ?alLa ?aaLa ?arLa ?ae1La ?ap1La (fun w' q => HSG.out w' (bstep q6 q)) (fun w' o q => q.alloc q.size o) (fun w' q => Nat.le_trans q6.size q.size) ?awLa (hx_.bl hb6) ?amLa; (case anLa => rfl); (case alLa => rfl); (case aaLa => rfl); (case arLa => kernel_rfl); (case ae1La => rfl); (case ap1La => (intros; rfl))
        (case awLa => exact Below.refl _ w6)
        clear hx_ x_ b_ hS6
        intro g7 w7 hb7 hg7 G7
        have q7 : Below W.heap.size W w7 := bstep q6 hb7
        clear al1
        (try clear cG7 fG7); have cG7 := G7.cell; have fG7 := G7.frozen
        refine wpAnyX_one (i := 15) (by kernel_rfl) rfl (by rfl) (fun K hK => ?_); (try simp only [List.getElem_toArray, List.getElem_cons_zero, List.getElem_cons_succ])
        go_wp2_with fail
        refine hK.out _ _ (Or.inr (HSG.out _ (below_set (below_set (below_set (below_set (below_set q7 hg7 0 _) hg7 1 _) hg7 2 _) hg7 3 _) hg7 4 _))) (fun hS => ?_)
        clear hK K hS cG7 fG7
        refine wpAnyX_done (by kernel_rfl) ?_ _
        have hgV := V2.lt
        have N7 := N2.bl q7
        have T7 := And.intro (T2.1.bl q7) (And.intro (T2.2.1.bl q7) (T2.2.2.bl q7))
        obtain ⟨C3, gr8⟩ := whole_command (Value.int .i64 7) (Value.string cy) (Value.string cf) (Value.string ct) (Value.int .i64 cn) G7
        have V3 := grown_blk (V2.below' q7) gr8 (by omega)
        have N3 := grown_vsl N7 T7 G7 gr8
        have M3 := (M2.bl q7).far' G7 gr8
        have q8 := below_grow (bstep q q7) gr8 (by have := q.size; have := q7.size; omega) (by have := q.size; omega)
        obtain ⟨w8, hw8⟩ : ∃ w8, w8 = (((((w7.setCell ⟨g7, 0, none⟩ (Value.int .i64 7)).setCell ⟨g7, 1, none⟩ (Value.string cy)).setCell ⟨g7, 2, none⟩ (Value.string cf)).setCell ⟨g7, 3, none⟩ (Value.string ct)).setCell ⟨g7, 4, none⟩ (Value.int .i64 cn)) := ⟨_, rfl⟩
        rw [← hw8] at C3 V3 N3 M3 q8 ⊢
        clear hw8 gr8 G7 N7 T7 V2 N2 M2 T2 hb7 q7 q6 hb6 V N M T hbr
        have hc8 := C3.lt
        have q : Below w.heap.size w w8 := q8
        have hql := M3.lt
        have hqn := M3.sl.len
        simp only [strRows, List.length_map] at hqn
        (try clear cV3 fV3); have cV3 := V3.cell; have fV3 := V3.frozen; (try clear cC3 fC3); have cC3 := C3.cell; have fC3 := C3.frozen
        by_cases h20 : qn = 20
        · subst h20
          go_wp2_with fail
          refine (HDO.out _ N3).mono ?_
          rintro e w4 ⟨B14, m14, e14, B24, m24, e24, B34, m34, e34, B44, m44, e44, rfl, M4, L4, T4, hb4, F4⟩
          replace V3 := V3.bl hb4; replace M3 := M3.bl hb4; replace C3 := C3.bl hb4
          replace q : Below w.heap.size w w4 := (by repeat (first | (with_reducible exact Below.refl _ _) | (with_reducible assumption) | (with_reducible refine Below.drew ?_) | (with_reducible refine bdrewN ?_ _) | (with_reducible refine balloc ?_ _) | ((with_reducible refine bset ?_ ?_ _); rotate_left; (focus first | exact Nat.le_refl _ | (simp; done) | (simp; omega) | omega)) | (with_reducible refine bstep ?_ (by with_reducible assumption)) | (with_reducible refine Below.trans ?_ (by with_reducible assumption))))
          have hap : Apart Q B24 := fun a b ha hb => by have := hql a ha; have := F4 b hb; omega
          have HAP := hide hap
          clear hb4 hap F4 hql
          have D4 := Blk.new w4 40 #[.int .i64 dk, .string dt, .int .i64 dc, .slice B14 m14 e14, .slice B24 m24 e24, .slice B34 m34 e34]; replace M4 := M4.al (.cells #[.int .i64 dk, .string dt, .int .i64 dc, .slice B14 m14 e14, .slice B24 m24 e24, .slice B34 m34 e34] 40); replace L4 := L4.al (.cells #[.int .i64 dk, .string dt, .int .i64 dc, .slice B14 m14 e14, .slice B24 m24 e24, .slice B34 m34 e34] 40); replace V3 := V3.al (.cells #[.int .i64 dk, .string dt, .int .i64 dc, .slice B14 m14 e14, .slice B24 m24 e24, .slice B34 m34 e34] 40); replace M3 := M3.al (.cells #[.int .i64 dk, .string dt, .int .i64 dc, .slice B14 m14 e14, .slice B24 m24 e24, .slice B34 m34 e34] 40); replace C3 := C3.al (.cells #[.int .i64 dk, .string dt, .int .i64 dc, .slice B14 m14 e14, .slice B24 m24 e24, .slice B34 m34 e34] 40); have R4 : Blk ((w4.alloc (.cells #[.int .i64 dk, .string dt, .int .i64 dc, .slice B14 m14 e14, .slice B24 m24 e24, .slice B34 m34 e34] 40)).alloc (.cells #[.int .i64 rc, .string rt, .int .i64 rn, .slice B44 m44 e44] 49)) (w4.heap.size + 1) 49 #[.int .i64 rc, .string rt, .int .i64 rn, .slice B44 m44 e44] := Blk.new' _ _ _ (by simp); replace M4 := M4.al (.cells #[.int .i64 rc, .string rt, .int .i64 rn, .slice B44 m44 e44] 49); replace L4 := L4.al (.cells #[.int .i64 rc, .string rt, .int .i64 rn, .slice B44 m44 e44] 49); replace D4 := D4.al (.cells #[.int .i64 rc, .string rt, .int .i64 rn, .slice B44 m44 e44] 49); replace V3 := V3.al (.cells #[.int .i64 rc, .string rt, .int .i64 rn, .slice B44 m44 e44] 49); replace M3 := M3.al (.cells #[.int .i64 rc, .string rt, .int .i64 rn, .slice B44 m44 e44] 49); replace C3 := C3.al (.cells #[.int .i64 rc, .string rt, .int .i64 rn, .slice B44 m44 e44] 49)
          replace M4 := M4.al (.cells #[.int .i64 6, .string { data := #[] }, .int .i64 0, .slice none 0 0] 49); replace L4 := L4.al (.cells #[.int .i64 6, .string { data := #[] }, .int .i64 0, .slice none 0 0] 49); replace D4 := D4.al (.cells #[.int .i64 6, .string { data := #[] }, .int .i64 0, .slice none 0 0] 49); replace R4 := R4.al (.cells #[.int .i64 6, .string { data := #[] }, .int .i64 0, .slice none 0 0] 49); replace V3 := V3.al (.cells #[.int .i64 6, .string { data := #[] }, .int .i64 0, .slice none 0 0] 49); replace M3 := M3.al (.cells #[.int .i64 6, .string { data := #[] }, .int .i64 0, .slice none 0 0] 49); replace C3 := C3.al (.cells #[.int .i64 6, .string { data := #[] }, .int .i64 0, .slice none 0 0] 49)
          have K5 : Blk (((w4.alloc (.cells #[.int .i64 dk, .string dt, .int .i64 dc, .slice B14 m14 e14, .slice B24 m24 e24, .slice B34 m34 e34] 40)).alloc (.cells #[.int .i64 rc, .string rt, .int .i64 rn, .slice B44 m44 e44] 49)).alloc (.cells #[.int .i64 6, .string { data := #[] }, .int .i64 0, .slice none 0 0] 49)) (w4.heap.size + 1 + 1) 49 #[.int .i64 6, .string { data := #[] }, .int .i64 0, .slice none 0 0] := Blk.new' _ _ _ (by simp)
          have bx : Below w4.heap.size w4 (((w4.alloc (.cells #[.int .i64 dk, .string dt, .int .i64 dc, .slice B14 m14 e14, .slice B24 m24 e24, .slice B34 m34 e34] 40)).alloc (.cells #[.int .i64 rc, .string rt, .int .i64 rn, .slice B44 m44 e44] 49)).alloc (.cells #[.int .i64 6, .string { data := #[] }, .int .i64 0, .slice none 0 0] 49)) := (by repeat (first | (with_reducible exact Below.refl _ _) | (with_reducible assumption) | (with_reducible refine Below.drew ?_) | (with_reducible refine bdrewN ?_ _) | (with_reducible refine balloc ?_ _) | ((with_reducible refine bset ?_ ?_ _); rotate_left; (focus first | exact Nat.le_refl _ | (simp; done) | (simp; omega) | omega)) | (with_reducible refine bstep ?_ (by with_reducible assumption)) | (with_reducible refine Below.trans ?_ (by with_reducible assumption))))
          have TT := And.intro (T4.1.bl bx) (And.intro (T4.2.1.bl bx) (T4.2.2.1.bl bx))
          have q9 : Below w.heap.size w (((w4.alloc (.cells #[.int .i64 dk, .string dt, .int .i64 dc, .slice B14 m14 e14, .slice B24 m24 e24, .slice B34 m34 e34] 40)).alloc (.cells #[.int .i64 rc, .string rt, .int .i64 rn, .slice B44 m44 e44] 49)).alloc (.cells #[.int .i64 6, .string { data := #[] }, .int .i64 0, .slice none 0 0] 49)) := (by repeat (first | (with_reducible exact Below.refl _ _) | (with_reducible assumption) | (with_reducible refine Below.drew ?_) | (with_reducible refine bdrewN ?_ _) | (with_reducible refine balloc ?_ _) | ((with_reducible refine bset ?_ ?_ _); rotate_left; (focus first | exact Nat.le_refl _ | (simp; done) | (simp; omega) | omega)) | (with_reducible refine bstep ?_ (by with_reducible assumption)) | (with_reducible refine Below.trans ?_ (by with_reducible assumption))))
          have hz9 := q9.size
          clear cV3 fV3 cC3 fC3 T4 bx
          have hs3 := HS3.out
          unfold listD at hs3
          rw [if_pos ⟨by omega, by omega⟩] at hs3
          simp only [Prod.mk.injEq, failR, toldR, textR, Re.mk.injEq, emp] at hs3
          obtain ⟨hit, hc_, ht_, hn_, hl_⟩ := hs3
          subst hc_; subst ht_; subst hn_; subst hl_; subst hit
          clear HS3
          (try clear cD4 fD4); have cD4 := D4.cell; have fD4 := D4.frozen; (try clear cR4 fR4); have cR4 := R4.cell; have fR4 := R4.frozen; (try clear cC3 fC3); have cC3 := C3.cell; have fC3 := C3.frozen; (try clear cV3 fV3); have cV3 := V3.cell; have fV3 := V3.frozen
          go_wp2_with fail
          refine (sameReply_eq ⟨6, { data := #[] }, 0, []⟩ ⟨6, { data := #[] }, 0, []⟩ _ _ _ _ _ _ _ L4 nil_sl rfl).mono ?_
          rintro e w7 ⟨rfl, hb7⟩
          have V7 := V3.below' hb7; have D7 := D4.below' hb7; have M7 := M4.bl hb7
          have T7 := And.intro (TT.1.bl hb7) (And.intro (TT.2.1.bl hb7) (TT.2.2.bl hb7))
          have X7 := M3.bl hb7
          have q7 := bstep q9 hb7
          have hz7 := q7.size
          have hv7 := V7.lt
          clear q9 hb7 V3 D4 M4 TT M3
          (try clear cD7 fD7); have cD7 := D7.cell; have fD7 := D7.frozen; (try clear cV7 fV7); have cV7 := V7.cell; have fV7 := V7.frozen
          go_wp2_with fail
          go_roundw
          case rel =>
            obtain ⟨V9, gr9, sz9⟩ := whole_value (Value.int .i64 dk) (Value.string dt) (Value.int .i64 dc) (Value.slice B14 m14 e14) (Value.slice B24 m24 e24) (Value.slice B34 m34 e34) V7
            exact ⟨i + 1, by omega, by omega, by go_num, _, _, _, _, _, _, _, _, _, _, _, _, _, _, _, _, _, _, rfl, V9, grown_vsl M7 T7 V7 gr9, ⟨grown_tp T7.1 V7 gr9, grown_tp T7.2.1 V7 gr9, grown_tp T7.2.2 V7 gr9⟩, HS4, X7.far' V7 gr9, below_grow q7 gr9 (by omega) (by omega)⟩
          case measure => simp [intOf]; omega
        · have hwn : IntKind.i64.wrap ((qn : Int) + 1) = (qn : Int) + 1 := IntWalk.i64_in _ (by have := HROOM.out; omega)
          have hq20 : ((qn : Int) == 20) = false := by rw [beq_eq_false_iff_ne]; omega
          go_wp2_with fail
          refine (HDO.out _ N3).mono ?_
          rintro e w4 ⟨B14, m14, e14, B24, m24, e24, B34, m34, e34, B44, m44, e44, rfl, M4, L4, T4, hb4, F4⟩
          replace V3 := V3.bl hb4; replace M3 := M3.bl hb4; replace C3 := C3.bl hb4
          replace q : Below w.heap.size w w4 := (by repeat (first | (with_reducible exact Below.refl _ _) | (with_reducible assumption) | (with_reducible refine Below.drew ?_) | (with_reducible refine bdrewN ?_ _) | (with_reducible refine balloc ?_ _) | ((with_reducible refine bset ?_ ?_ _); rotate_left; (focus first | exact Nat.le_refl _ | (simp; done) | (simp; omega) | omega)) | (with_reducible refine bstep ?_ (by with_reducible assumption)) | (with_reducible refine Below.trans ?_ (by with_reducible assumption))))
          have hap : Apart Q B24 := fun a b ha hb => by have := hql a ha; have := F4 b hb; omega
          have HAP := hide hap
          clear hb4 hap F4 hql
          have D4 := Blk.new w4 40 #[.int .i64 dk, .string dt, .int .i64 dc, .slice B14 m14 e14, .slice B24 m24 e24, .slice B34 m34 e34]; replace M4 := M4.al (.cells #[.int .i64 dk, .string dt, .int .i64 dc, .slice B14 m14 e14, .slice B24 m24 e24, .slice B34 m34 e34] 40); replace L4 := L4.al (.cells #[.int .i64 dk, .string dt, .int .i64 dc, .slice B14 m14 e14, .slice B24 m24 e24, .slice B34 m34 e34] 40); replace V3 := V3.al (.cells #[.int .i64 dk, .string dt, .int .i64 dc, .slice B14 m14 e14, .slice B24 m24 e24, .slice B34 m34 e34] 40); replace M3 := M3.al (.cells #[.int .i64 dk, .string dt, .int .i64 dc, .slice B14 m14 e14, .slice B24 m24 e24, .slice B34 m34 e34] 40); replace C3 := C3.al (.cells #[.int .i64 dk, .string dt, .int .i64 dc, .slice B14 m14 e14, .slice B24 m24 e24, .slice B34 m34 e34] 40); have R4 : Blk ((w4.alloc (.cells #[.int .i64 dk, .string dt, .int .i64 dc, .slice B14 m14 e14, .slice B24 m24 e24, .slice B34 m34 e34] 40)).alloc (.cells #[.int .i64 rc, .string rt, .int .i64 rn, .slice B44 m44 e44] 49)) (w4.heap.size + 1) 49 #[.int .i64 rc, .string rt, .int .i64 rn, .slice B44 m44 e44] := Blk.new' _ _ _ (by simp); replace M4 := M4.al (.cells #[.int .i64 rc, .string rt, .int .i64 rn, .slice B44 m44 e44] 49); replace L4 := L4.al (.cells #[.int .i64 rc, .string rt, .int .i64 rn, .slice B44 m44 e44] 49); replace D4 := D4.al (.cells #[.int .i64 rc, .string rt, .int .i64 rn, .slice B44 m44 e44] 49); replace V3 := V3.al (.cells #[.int .i64 rc, .string rt, .int .i64 rn, .slice B44 m44 e44] 49); replace M3 := M3.al (.cells #[.int .i64 rc, .string rt, .int .i64 rn, .slice B44 m44 e44] 49); replace C3 := C3.al (.cells #[.int .i64 rc, .string rt, .int .i64 rn, .slice B44 m44 e44] 49)
          replace M4 := M4.al (.cells #[.int .i64 0, .string { data := #[] }, .int .i64 ((qn : Int) + 1), .slice none 0 0] 49); replace L4 := L4.al (.cells #[.int .i64 0, .string { data := #[] }, .int .i64 ((qn : Int) + 1), .slice none 0 0] 49); replace D4 := D4.al (.cells #[.int .i64 0, .string { data := #[] }, .int .i64 ((qn : Int) + 1), .slice none 0 0] 49); replace R4 := R4.al (.cells #[.int .i64 0, .string { data := #[] }, .int .i64 ((qn : Int) + 1), .slice none 0 0] 49); replace V3 := V3.al (.cells #[.int .i64 0, .string { data := #[] }, .int .i64 ((qn : Int) + 1), .slice none 0 0] 49); replace M3 := M3.al (.cells #[.int .i64 0, .string { data := #[] }, .int .i64 ((qn : Int) + 1), .slice none 0 0] 49); replace C3 := C3.al (.cells #[.int .i64 0, .string { data := #[] }, .int .i64 ((qn : Int) + 1), .slice none 0 0] 49)
          have K5 : Blk (((w4.alloc (.cells #[.int .i64 dk, .string dt, .int .i64 dc, .slice B14 m14 e14, .slice B24 m24 e24, .slice B34 m34 e34] 40)).alloc (.cells #[.int .i64 rc, .string rt, .int .i64 rn, .slice B44 m44 e44] 49)).alloc (.cells #[.int .i64 0, .string { data := #[] }, .int .i64 ((qn : Int) + 1), .slice none 0 0] 49)) (w4.heap.size + 1 + 1) 49 #[.int .i64 0, .string { data := #[] }, .int .i64 ((qn : Int) + 1), .slice none 0 0] := Blk.new' _ _ _ (by simp)
          have bx : Below w4.heap.size w4 (((w4.alloc (.cells #[.int .i64 dk, .string dt, .int .i64 dc, .slice B14 m14 e14, .slice B24 m24 e24, .slice B34 m34 e34] 40)).alloc (.cells #[.int .i64 rc, .string rt, .int .i64 rn, .slice B44 m44 e44] 49)).alloc (.cells #[.int .i64 0, .string { data := #[] }, .int .i64 ((qn : Int) + 1), .slice none 0 0] 49)) := (by repeat (first | (with_reducible exact Below.refl _ _) | (with_reducible assumption) | (with_reducible refine Below.drew ?_) | (with_reducible refine bdrewN ?_ _) | (with_reducible refine balloc ?_ _) | ((with_reducible refine bset ?_ ?_ _); rotate_left; (focus first | exact Nat.le_refl _ | (simp; done) | (simp; omega) | omega)) | (with_reducible refine bstep ?_ (by with_reducible assumption)) | (with_reducible refine Below.trans ?_ (by with_reducible assumption))))
          have TT := And.intro (T4.1.bl bx) (And.intro (T4.2.1.bl bx) (T4.2.2.1.bl bx))
          have q9 : Below w.heap.size w (((w4.alloc (.cells #[.int .i64 dk, .string dt, .int .i64 dc, .slice B14 m14 e14, .slice B24 m24 e24, .slice B34 m34 e34] 40)).alloc (.cells #[.int .i64 rc, .string rt, .int .i64 rn, .slice B44 m44 e44] 49)).alloc (.cells #[.int .i64 0, .string { data := #[] }, .int .i64 ((qn : Int) + 1), .slice none 0 0] 49)) := (by repeat (first | (with_reducible exact Below.refl _ _) | (with_reducible assumption) | (with_reducible refine Below.drew ?_) | (with_reducible refine bdrewN ?_ _) | (with_reducible refine balloc ?_ _) | ((with_reducible refine bset ?_ ?_ _); rotate_left; (focus first | exact Nat.le_refl _ | (simp; done) | (simp; omega) | omega)) | (with_reducible refine bstep ?_ (by with_reducible assumption)) | (with_reducible refine Below.trans ?_ (by with_reducible assumption))))
          have hz9 := q9.size
          clear cV3 fV3 cC3 fC3 T4 bx
          have hr21 : qn ≤ 20 := by have := HROOM.out; omega
          have hs3 := HS3.out
          unfold listD at hs3
          rw [if_neg (by omega), if_pos rfl] at hs3
          simp only [Prod.mk.injEq, failR, toldR, textR, Re.mk.injEq, emp] at hs3
          obtain ⟨hit, hc_, ht_, hn_, hl_⟩ := hs3
          rw [hqn] at hn_
          subst hc_; subst ht_; subst hn_; subst hl_; subst hit
          clear HS3
          (try clear cD4 fD4); have cD4 := D4.cell; have fD4 := D4.frozen; (try clear cR4 fR4); have cR4 := R4.cell; have fR4 := R4.frozen; (try clear cC3 fC3); have cC3 := C3.cell; have fC3 := C3.frozen; (try clear cV3 fV3); have cV3 := V3.cell; have fV3 := V3.frozen
          have hzz : w.heap.size ≤ (((w4.alloc (.cells #[.int .i64 dk, .string dt, .int .i64 dc, .slice B14 m14 e14, .slice B24 m24 e24, .slice B34 m34 e34] 40)).alloc (.cells #[.int .i64 0, .string { data := #[] }, .int .i64 ((qn : Int) + 1), .slice B44 m44 e44] 49)).alloc (.cells #[.int .i64 0, .string { data := #[] }, .int .i64 ((qn : Int) + 1), .slice none 0 0] 49)).heap.size := hz9
          replace M4 := M4.al (.cells #[.string ct] 9); replace L4 := L4.al (.cells #[.string ct] 9); replace D4 := D4.al (.cells #[.string ct] 9); replace R4 := R4.al (.cells #[.string ct] 9); replace V3 := V3.al (.cells #[.string ct] 9); replace C3 := C3.al (.cells #[.string ct] 9); replace K5 := K5.al (.cells #[.string ct] 9)
          replace TT := And.intro (TT.1.bl ((Below.refl _ (((w4.alloc (.cells #[.int .i64 dk, .string dt, .int .i64 dc, .slice B14 m14 e14, .slice B24 m24 e24, .slice B34 m34 e34] 40)).alloc (.cells #[.int .i64 0, .string { data := #[] }, .int .i64 ((qn : Int) + 1), .slice B44 m44 e44] 49)).alloc (.cells #[.int .i64 0, .string { data := #[] }, .int .i64 ((qn : Int) + 1), .slice none 0 0] 49))).alloc (Nat.le_refl _) (.cells #[.string ct] 9))) (And.intro (TT.2.1.bl ((Below.refl _ (((w4.alloc (.cells #[.int .i64 dk, .string dt, .int .i64 dc, .slice B14 m14 e14, .slice B24 m24 e24, .slice B34 m34 e34] 40)).alloc (.cells #[.int .i64 0, .string { data := #[] }, .int .i64 ((qn : Int) + 1), .slice B44 m44 e44] 49)).alloc (.cells #[.int .i64 0, .string { data := #[] }, .int .i64 ((qn : Int) + 1), .slice none 0 0] 49))).alloc (Nat.le_refl _) (.cells #[.string ct] 9))) (TT.2.2.bl ((Below.refl _ (((w4.alloc (.cells #[.int .i64 dk, .string dt, .int .i64 dc, .slice B14 m14 e14, .slice B24 m24 e24, .slice B34 m34 e34] 40)).alloc (.cells #[.int .i64 0, .string { data := #[] }, .int .i64 ((qn : Int) + 1), .slice B44 m44 e44] 49)).alloc (.cells #[.int .i64 0, .string { data := #[] }, .int .i64 ((qn : Int) + 1), .slice none 0 0] 49))).alloc (Nat.le_refl _) (.cells #[.string ct] 9))))
          have M30 := M3.al (.cells #[.string ct] 9)
          have M31 := M3
          clear M3
          replace q9 : Below w.heap.size w ((((w4.alloc (.cells #[.int .i64 dk, .string dt, .int .i64 dc, .slice B14 m14 e14, .slice B24 m24 e24, .slice B34 m34 e34] 40)).alloc (.cells #[.int .i64 0, .string { data := #[] }, .int .i64 ((qn : Int) + 1), .slice B44 m44 e44] 49)).alloc (.cells #[.int .i64 0, .string { data := #[] }, .int .i64 ((qn : Int) + 1), .slice none 0 0] 49)).alloc (.cells #[.string ct] 9)) := (by repeat (first | (with_reducible exact Below.refl _ _) | (with_reducible assumption) | (with_reducible refine Below.drew ?_) | (with_reducible refine bdrewN ?_ _) | (with_reducible refine balloc ?_ _) | ((with_reducible refine bset ?_ ?_ _); rotate_left; (focus first | exact Nat.le_refl _ | (simp; done) | (simp; omega) | omega)) | (with_reducible refine bstep ?_ (by with_reducible assumption)) | (with_reducible refine Below.trans ?_ (by with_reducible assumption))))
          go_wp2_with (at_builtin; refine wpList_at_push rfl _ _ _ rfl Try.underlying37 text_info rfl (by rfl) M31 (H := w4.heap.size + 1 + 1 + 1) (by simp) (u := .string ct) (by rfl) rfl ?h637a ?hby7a ?hba7a ?hk7a)
          case h637a => unfold maxLen; omega
          case hby7a => omega
          case hba7a => exact hzz
          case hk7a =>
            intro A' c' w6 X6 hg6 hor
            have V3 := blk_push V3 M30 hg6; have D4 := blk_push D4 M30 hg6; have R4 := blk_push R4 M30 hg6; have K5 := blk_push K5 M30 hg6
            have L4 : Sl w6 1 B44 m44 e44 (strRows []) := by have h0 := L4.len; have h1 := L4.nc; exact ⟨h0, h1, L4.cm, L4.nil, fun h => by simp [strRows] at h, L4.row⟩
            have M4 := vsl_push M4 TT M30 HAP.out hg6
            have TT := tp_push TT M30 HAP.out hg6
            have q9 := below_push q9 M30 hg6 (Nat.le_refl _) (by have := q9.size; omega)
            have hsr : strRows is_ ++ [[.string ct]] = strRows (is_ ++ [ct]) := by simp [strRows]
            rw [hsr] at X6
            have hz9 := q9.size
            clear M30 hg6 hor M31 hsr
            clear cD4 fD4 cR4 fR4 cV3 fV3 cC3 fC3 C3
            (try clear cD4 fD4); have cD4 := D4.cell; have fD4 := D4.frozen; (try clear cR4 fR4); have cR4 := R4.cell; have fR4 := R4.frozen; (try clear cV3 fV3); have cV3 := V3.cell; have fV3 := V3.frozen; (try clear cK5 fK5); have cK5 := K5.cell; have fK5 := K5.frozen
            go_wp2_with fail
            refine (sameReply_eq ⟨0, { data := #[] }, (qn : Int) + 1, []⟩ ⟨0, { data := #[] }, (qn : Int) + 1, []⟩ _ _ _ _ _ _ _ L4 nil_sl rfl).mono ?_
            rintro e w7 ⟨rfl, hb7⟩
            have V7 := V3.below' hb7; have D7 := D4.below' hb7; have M7 := M4.bl hb7
            have T7 := And.intro (TT.1.bl hb7) (And.intro (TT.2.1.bl hb7) (TT.2.2.bl hb7))
            have X7 := X6.bl hb7
            have q7 := bstep q9 hb7
            have hz7 := q7.size
            have hv7 := V7.lt
            clear q9 hb7 V3 D4 M4 TT X6
            (try clear cD7 fD7); have cD7 := D7.cell; have fD7 := D7.frozen; (try clear cV7 fV7); have cV7 := V7.cell; have fV7 := V7.frozen
            go_wp2_with fail
            go_roundw
            case rel =>
              obtain ⟨V9, gr9, sz9⟩ := whole_value (Value.int .i64 dk) (Value.string dt) (Value.int .i64 dc) (Value.slice B14 m14 e14) (Value.slice B24 m24 e24) (Value.slice B34 m34 e34) V7
              exact ⟨i + 1, by omega, by omega, by go_num, _, _, _, _, _, _, _, _, _, _, _, _, _, _, _, _, _, _, rfl, V9, grown_vsl M7 T7 V7 gr9, ⟨grown_tp T7.1 V7 gr9, grown_tp T7.2.1 V7 gr9, grown_tp T7.2.2 V7 gr9⟩, HS4, X7.far' V7 gr9, below_grow q7 gr9 (by omega) (by omega)⟩
            case measure => simp [intOf]; omega
      · go_wp2_with fail
        generalize hW : wr.alloc (.cells #[.int .i64 7, .int .i64 8, .int .i64 7, .int .i64 8, .int .i64 9, .int .i64 10] 3) = W at *
        have qW : Below wr.heap.size wr W := by rw [← hW]; exact (Below.refl _ wr).alloc (Nat.le_refl _) _
        clear hW
        have V2 := V.bl qW; have N2 := N.bl qW; have M2 := M.bl qW
        have T2 := And.intro (T.1.bl qW) (And.intro (T.2.1.bl qW) (T.2.2.bl qW))
        have hrW : rb < W.heap.size := by have := qW.size; omega
        have g3' := (qW.cell (p := ⟨rb, ro + i * 5 + 3, none⟩) hrw).trans g3
        have g4' := (qW.cell (p := ⟨rb, ro + i * 5 + 4, none⟩) hrw).trans g4
        have q : Below w.heap.size w W := bstep hbr qW
        obtain ⟨cy, cf, ct, cn, hcts, hcc, hcall⟩ := list_cmd 8 xn xt (by omega) hdx.2.2.2.1 hdx.2.2.2.2
        have hstep := list_step HV.out hcc (by simp)
        have hroom := HV.out.room
        have hDo := fun w h => Do_mayN ⟨vk, vt, vc, ps, is_, ss⟩ ⟨8, cy, cf, ct, cn⟩ HV.out.may' A1 A2 A3 n1 c1 n2 c2 n3 c3 w h
        generalize doneVal ⟨vk, vt, vc, ps, is_, ss⟩ ⟨8, cy, cf, ct, cn⟩ = D at *
        obtain ⟨⟨dk, dt, dc, dps, dis, dss⟩, ⟨rc, rt, rn, rl⟩, de⟩ := D
        obtain ⟨s1, s2, s3⟩ := hstep
        simp only [cmdV, Int.reduceSub] at s1 s3 hcall hroom
        subst s1
        have HDO := hide hDo
        have HS4 := hide s2
        have HS3 := hide s3
        have HROOM := hide hroom
        clear hDo s2 s3 hroom hcc
        have HCALL := hide hcall
        clear hcall g0 g3 g4 cV fV
        have hsG : ∀ w', Below W.heap.size W w' → (w'.cell? ⟨rb, ro + i * 5 + 3, none⟩ = some (.int .i64 xn) ∧ w'.cell? ⟨rb, ro + i * 5 + 4, none⟩ = some (.string xt)) := fun w' q => ⟨(q.cell (p := ⟨rb, ro + i * 5 + 3, none⟩) hrW).trans g3', (q.cell (p := ⟨rb, ro + i * 5 + 4, none⟩) hrW).trans g4'⟩
        refine wp_region_x (l := []) (S := fun w' => (w'.cell? ⟨rb, ro + i * 5 + 3, none⟩ = some (.int .i64 xn) ∧ w'.cell? ⟨rb, ro + i * 5 + 4, none⟩ = some (.string xt))) (by kernel_rfl) (hsG _ (Below.refl _ W).drew) (fun hS => ?_)
        refine wpAnyX_take (i := 0) (v := ?xv0b) rfl (by kernel_rfl) (by kernel_rfl) (by kernel_rfl) (by kernel_rfl) (fun _ _ _ h => h) (Or.inl ⟨by rfl, ?xh0b⟩) (by assumption) ?xr0b; (case xh0b => (intro w hSw; (try dsimp only at hSw); go_simp; (try with_reducible rfl))); (try simp only [Act.put, List.setIfInBounds_toArray, List.set_cons_zero, List.set_cons_succ, List.getElem_toArray, List.getElem_cons_zero, List.getElem_cons_succ])
        refine wpAnyX_take (i := 1) (v := ?xv1b) rfl (by kernel_rfl) (by kernel_rfl) (by kernel_rfl) (by kernel_rfl) (fun _ _ _ h => h) (Or.inl ⟨by rfl, ?xh1b⟩) (by assumption) ?xr1b; (case xh1b => (intro w hSw; (try dsimp only at hSw); go_simp; (try with_reducible rfl))); (try simp only [Act.put, List.setIfInBounds_toArray, List.set_cons_zero, List.set_cons_succ, List.getElem_toArray, List.getElem_cons_zero, List.getElem_cons_succ])
        refine wpAnyX_take (i := 2) (v := ?xv2b) rfl (by kernel_rfl) (by kernel_rfl) (by kernel_rfl) (by kernel_rfl) (fun _ _ _ h => h) (Or.inl ⟨by rfl, ?xh2b⟩) (by assumption) ?xr2b; (case xh2b => (intro w hSw; (try dsimp only at hSw); go_simp; (try with_reducible rfl))); (try simp only [Act.put, List.setIfInBounds_toArray, List.set_cons_zero, List.set_cons_succ, List.getElem_toArray, List.getElem_cons_zero, List.getElem_cons_succ])
        refine wpAnyX_take (i := 3) (v := ?xv3b) rfl (by kernel_rfl) (by kernel_rfl) (by kernel_rfl) (by kernel_rfl) (fun _ _ _ h => h) (Or.inl ⟨by rfl, ?xh3b⟩) (by assumption) ?xr3b; (case xh3b => (intro w hSw; (try dsimp only at hSw); go_simp; (try with_reducible rfl))); (try simp only [Act.put, List.setIfInBounds_toArray, List.set_cons_zero, List.set_cons_succ, List.getElem_toArray, List.getElem_cons_zero, List.getElem_cons_succ])
        refine wpAnyX_take (i := 4) (v := ?xv4b) rfl (by kernel_rfl) (by kernel_rfl) (by kernel_rfl) (by kernel_rfl) (fun _ _ _ h => h) (Or.inl ⟨by rfl, ?xh4b⟩) (by assumption) ?xr4b; (case xh4b => (intro w hSw; (try dsimp only at hSw); go_simp; (try with_reducible rfl))); (try simp only [Act.put, List.setIfInBounds_toArray, List.set_cons_zero, List.set_cons_succ, List.getElem_toArray, List.getElem_cons_zero, List.getElem_cons_succ])
        refine wpAnyX_take (i := 5) (v := ?xv5b) rfl (by kernel_rfl) (by kernel_rfl) (by kernel_rfl) (by kernel_rfl) (fun _ _ _ h => h) (Or.inl ⟨by rfl, ?xh5b⟩) (by assumption) ?xr5b; (case xh5b => (intro w hSw; (try dsimp only at hSw); go_simp; (try with_reducible rfl))); (try simp only [Act.put, List.setIfInBounds_toArray, List.set_cons_zero, List.set_cons_succ, List.getElem_toArray, List.getElem_cons_zero, List.getElem_cons_succ])
        refine wpAnyX_take (i := 6) (v := ?xv6b) rfl (by kernel_rfl) (by kernel_rfl) (by kernel_rfl) (by kernel_rfl) (fun _ _ _ h => h) (Or.inl ⟨by rfl, ?xh6b⟩) (by assumption) ?xr6b; (case xh6b => (intro w hSw; (try dsimp only at hSw); go_simp; (try with_reducible rfl))); (try simp only [Act.put, List.setIfInBounds_toArray, List.set_cons_zero, List.set_cons_succ, List.getElem_toArray, List.getElem_cons_zero, List.getElem_cons_succ])
        refine wpAnyX_take (i := 7) (v := ?xv7b) rfl (by kernel_rfl) (by kernel_rfl) (by kernel_rfl) (by kernel_rfl) (fun _ _ _ h => h) (Or.inl ⟨by rfl, ?xh7b⟩) (by assumption) ?xr7b; (case xh7b => (intro w hSw; (try dsimp only at hSw); go_simp; (try with_reducible rfl))); (try simp only [Act.put, List.setIfInBounds_toArray, List.set_cons_zero, List.set_cons_succ, List.getElem_toArray, List.getElem_cons_zero, List.getElem_cons_succ])
        refine wpAnyX_take (i := 8) (v := ?xv8b) rfl (by kernel_rfl) (by kernel_rfl) (by kernel_rfl) (by kernel_rfl) (fun _ _ _ h => h) (Or.inl ⟨by rfl, ?xh8b⟩) (by assumption) ?xr8b; (case xh8b => (intro w hSw; (try dsimp only at hSw); go_simp; (try with_reducible rfl))); (try simp only [Act.put, List.setIfInBounds_toArray, List.set_cons_zero, List.set_cons_succ, List.getElem_toArray, List.getElem_cons_zero, List.getElem_cons_succ])
        refine wpAnyX_take (i := 9) (v := ?xv9b) rfl (by kernel_rfl) (by kernel_rfl) (by kernel_rfl) (by kernel_rfl) (fun _ _ _ h => h) (Or.inl ⟨by rfl, ?xh9b⟩) (by assumption) ?xr9b; (case xh9b => (intro w hSw; (try dsimp only at hSw); go_simp; (try with_reducible rfl))); (try simp only [Act.put, List.setIfInBounds_toArray, List.set_cons_zero, List.set_cons_succ, List.getElem_toArray, List.getElem_cons_zero, List.getElem_cons_succ])
        refine wpAnyX_take (i := 10) (v := ?xv10b) rfl (by kernel_rfl) (by kernel_rfl) (by kernel_rfl) (by kernel_rfl) (fun _ _ _ h => h) (Or.inl ⟨by rfl, ?xh10b⟩) (by assumption) ?xr10b; (case xh10b => (intro w hSw; (try dsimp only at hSw); go_simp; (try with_reducible rfl))); (try simp only [Act.put, List.setIfInBounds_toArray, List.set_cons_zero, List.set_cons_succ, List.getElem_toArray, List.getElem_cons_zero, List.getElem_cons_succ])
        refine wpAnyX_take (i := 11) (v := ?xv11b) rfl (by kernel_rfl) (by kernel_rfl) (by kernel_rfl) (by kernel_rfl) (fun _ _ _ h => h) (Or.inl ⟨by rfl, ?xh11b⟩) (by assumption) ?xr11b; (case xh11b => (intro w hSw; (try dsimp only at hSw); go_simp; (try with_reducible rfl))); (try simp only [Act.put, List.setIfInBounds_toArray, List.set_cons_zero, List.set_cons_succ, List.getElem_toArray, List.getElem_cons_zero, List.getElem_cons_succ])
        refine wpAnyX_take (i := 12) (v := ?xv12b) rfl (by kernel_rfl) (by kernel_rfl) (by kernel_rfl) (by kernel_rfl) (fun _ _ _ h => h) (Or.inl ⟨by rfl, ?xh12b⟩) (by assumption) ?xr12b; (case xh12b => (intro w hSw; (try dsimp only at hSw); go_simp; (try with_reducible rfl))); (try simp only [Act.put, List.setIfInBounds_toArray, List.set_cons_zero, List.set_cons_succ, List.getElem_toArray, List.getElem_cons_zero, List.getElem_cons_succ])
        have HSG := hide hsG
        clear hsG hS g3' g4'
        refine wpX_startA (n := 2 + left1 false) (listed := (fun b_ => #[true, true, true, true, true, true, true, true, true, true, true, true, true, false, b_, false]) false) (j := 14) (d := 7) (t := 46) (z := #[.int .i64 0, .string { data := #[] }, .string { data := #[] }, .string { data := #[] }, .int .i64 0]) ?al1b ?alnb ?allb (fun al1 => ?alrb); (case al1b => exact ⟨⟨_, rfl, rfl, rfl, fun a w => by simp [go_sem, execOp]⟩⟩); (case alnb => kernel_rfl); (case allb => kernel_rfl)
        refine' wpX_phaseA' (f := 1) (i := 13) (L := (fun b_ => #[true, true, true, true, true, true, true, true, true, true, true, true, true, false, b_, false])) (L' := (fun b_ => #[true, true, true, true, true, true, true, true, true, true, true, true, true, true, b_, false])) (base := W.heap.size) (G := (fun w' => Below W.heap.size W w')) (x := u7) al1 ?an13b ?al13b ?aa13b ?ar13b ?ai13b ?ag13b ?ae113b ?ae313b ?ap113b HSG.out (fun w' o q => q.alloc q.size o) (fun w' q => q.size) ?aw13b ?am13b; (case an13b => rfl); (case al13b => rfl); (case aa13b => rfl); (case ar13b => kernel_rfl); (case ai13b => rfl); (case ag13b => rfl); (case ae113b => rfl); (case ae313b => (intros; rfl)); (case ap113b => (intros; rfl))
        (case aw13b => exact (Below.refl _ W).drew)
        intro b_ x_ w5 hG_ hx_ K_ hK_; (try simp only [Act.put, List.setIfInBounds_toArray, List.set_cons_zero, List.set_cons_succ, List.getElem_toArray, List.getElem_cons_zero, List.getElem_cons_succ])
        go_wp2_with fail
        refine (HCALL.out _).mono ?_
        rintro e w6 ⟨rfl, hb6⟩
        go_wp2_with fail
        have q6 : Below W.heap.size W w6 := bstep hG_ hb6
        have hS6 := HSG.out _ q6
        refine hK_.out _ _ (Or.inr hS6) ?_
        clear hK_ K_ hG_
        refine' wpX_layA' (f := 1) (L := (fun b_ => #[true, true, true, true, true, true, true, true, true, true, true, true, true, true, b_, false])) (base := W.heap.size) (G := (fun w' => Below w6.heap.size w6 w')) (b := b_) (x := x_) al1 ?anLb ?alLb ?aaLb ?arLb ?ae1Lb ?ap1Lb (fun w' q => HSG.out w' (bstep q6 q)) (fun w' o q => q.alloc q.size o) (fun w' q => Nat.le_trans q6.size q.size) ?awLb (hx_.bl hb6) ?amLb; (case anLb => rfl); (case alLb => rfl); (case aaLb => rfl); (case arLb => kernel_rfl); (case ae1Lb => rfl); (case ap1Lb => (intros; rfl))
        (case awLb => exact Below.refl _ w6)
        clear hx_ x_ b_ hS6
        intro g7 w7 hb7 hg7 G7
        have q7 : Below W.heap.size W w7 := bstep q6 hb7
        clear al1
        (try clear cG7 fG7); have cG7 := G7.cell; have fG7 := G7.frozen
        refine wpAnyX_one (i := 15) (by kernel_rfl) rfl (by rfl) (fun K hK => ?_); (try simp only [List.getElem_toArray, List.getElem_cons_zero, List.getElem_cons_succ])
        go_wp2_with fail
        refine hK.out _ _ (Or.inr (HSG.out _ (below_set (below_set (below_set (below_set (below_set q7 hg7 0 _) hg7 1 _) hg7 2 _) hg7 3 _) hg7 4 _))) (fun hS => ?_)
        clear hK K hS cG7 fG7
        refine wpAnyX_done (by kernel_rfl) ?_ _
        have hgV := V2.lt
        have N7 := N2.bl q7
        have T7 := And.intro (T2.1.bl q7) (And.intro (T2.2.1.bl q7) (T2.2.2.bl q7))
        obtain ⟨C3, gr8⟩ := whole_command (Value.int .i64 8) (Value.string cy) (Value.string cf) (Value.string ct) (Value.int .i64 cn) G7
        have V3 := grown_blk (V2.below' q7) gr8 (by omega)
        have N3 := grown_vsl N7 T7 G7 gr8
        have M3 := (M2.bl q7).far' G7 gr8
        have q8 := below_grow (bstep q q7) gr8 (by have := q.size; have := q7.size; omega) (by have := q.size; omega)
        obtain ⟨w8, hw8⟩ : ∃ w8, w8 = (((((w7.setCell ⟨g7, 0, none⟩ (Value.int .i64 8)).setCell ⟨g7, 1, none⟩ (Value.string cy)).setCell ⟨g7, 2, none⟩ (Value.string cf)).setCell ⟨g7, 3, none⟩ (Value.string ct)).setCell ⟨g7, 4, none⟩ (Value.int .i64 cn)) := ⟨_, rfl⟩
        rw [← hw8] at C3 V3 N3 M3 q8 ⊢
        clear hw8 gr8 G7 N7 T7 V2 N2 M2 T2 hb7 q7 q6 hb6 V N M T hbr
        have hc8 := C3.lt
        have q : Below w.heap.size w w8 := q8
        have hql := M3.lt
        have hqn := M3.sl.len
        simp only [strRows, List.length_map] at hqn
        (try clear cV3 fV3); have cV3 := V3.cell; have fV3 := V3.frozen; (try clear cC3 fC3); have cC3 := C3.cell; have fC3 := C3.frozen
        by_cases h20 : qn = 20
        · subst h20
          go_wp2_with fail
          refine (HDO.out _ N3).mono ?_
          rintro e w4 ⟨B14, m14, e14, B24, m24, e24, B34, m34, e34, B44, m44, e44, rfl, M4, L4, T4, hb4, F4⟩
          replace V3 := V3.bl hb4; replace M3 := M3.bl hb4; replace C3 := C3.bl hb4
          replace q : Below w.heap.size w w4 := (by repeat (first | (with_reducible exact Below.refl _ _) | (with_reducible assumption) | (with_reducible refine Below.drew ?_) | (with_reducible refine bdrewN ?_ _) | (with_reducible refine balloc ?_ _) | ((with_reducible refine bset ?_ ?_ _); rotate_left; (focus first | exact Nat.le_refl _ | (simp; done) | (simp; omega) | omega)) | (with_reducible refine bstep ?_ (by with_reducible assumption)) | (with_reducible refine Below.trans ?_ (by with_reducible assumption))))
          have hap : Apart Q B24 := fun a b ha hb => by have := hql a ha; have := F4 b hb; omega
          have HAP := hide hap
          clear hb4 hap F4 hql
          have D4 := Blk.new w4 40 #[.int .i64 dk, .string dt, .int .i64 dc, .slice B14 m14 e14, .slice B24 m24 e24, .slice B34 m34 e34]; replace M4 := M4.al (.cells #[.int .i64 dk, .string dt, .int .i64 dc, .slice B14 m14 e14, .slice B24 m24 e24, .slice B34 m34 e34] 40); replace L4 := L4.al (.cells #[.int .i64 dk, .string dt, .int .i64 dc, .slice B14 m14 e14, .slice B24 m24 e24, .slice B34 m34 e34] 40); replace V3 := V3.al (.cells #[.int .i64 dk, .string dt, .int .i64 dc, .slice B14 m14 e14, .slice B24 m24 e24, .slice B34 m34 e34] 40); replace M3 := M3.al (.cells #[.int .i64 dk, .string dt, .int .i64 dc, .slice B14 m14 e14, .slice B24 m24 e24, .slice B34 m34 e34] 40); replace C3 := C3.al (.cells #[.int .i64 dk, .string dt, .int .i64 dc, .slice B14 m14 e14, .slice B24 m24 e24, .slice B34 m34 e34] 40); have R4 : Blk ((w4.alloc (.cells #[.int .i64 dk, .string dt, .int .i64 dc, .slice B14 m14 e14, .slice B24 m24 e24, .slice B34 m34 e34] 40)).alloc (.cells #[.int .i64 rc, .string rt, .int .i64 rn, .slice B44 m44 e44] 49)) (w4.heap.size + 1) 49 #[.int .i64 rc, .string rt, .int .i64 rn, .slice B44 m44 e44] := Blk.new' _ _ _ (by simp); replace M4 := M4.al (.cells #[.int .i64 rc, .string rt, .int .i64 rn, .slice B44 m44 e44] 49); replace L4 := L4.al (.cells #[.int .i64 rc, .string rt, .int .i64 rn, .slice B44 m44 e44] 49); replace D4 := D4.al (.cells #[.int .i64 rc, .string rt, .int .i64 rn, .slice B44 m44 e44] 49); replace V3 := V3.al (.cells #[.int .i64 rc, .string rt, .int .i64 rn, .slice B44 m44 e44] 49); replace M3 := M3.al (.cells #[.int .i64 rc, .string rt, .int .i64 rn, .slice B44 m44 e44] 49); replace C3 := C3.al (.cells #[.int .i64 rc, .string rt, .int .i64 rn, .slice B44 m44 e44] 49)
          replace M4 := M4.al (.cells #[.int .i64 6, .string { data := #[] }, .int .i64 0, .slice none 0 0] 49); replace L4 := L4.al (.cells #[.int .i64 6, .string { data := #[] }, .int .i64 0, .slice none 0 0] 49); replace D4 := D4.al (.cells #[.int .i64 6, .string { data := #[] }, .int .i64 0, .slice none 0 0] 49); replace R4 := R4.al (.cells #[.int .i64 6, .string { data := #[] }, .int .i64 0, .slice none 0 0] 49); replace V3 := V3.al (.cells #[.int .i64 6, .string { data := #[] }, .int .i64 0, .slice none 0 0] 49); replace M3 := M3.al (.cells #[.int .i64 6, .string { data := #[] }, .int .i64 0, .slice none 0 0] 49); replace C3 := C3.al (.cells #[.int .i64 6, .string { data := #[] }, .int .i64 0, .slice none 0 0] 49)
          have K5 : Blk (((w4.alloc (.cells #[.int .i64 dk, .string dt, .int .i64 dc, .slice B14 m14 e14, .slice B24 m24 e24, .slice B34 m34 e34] 40)).alloc (.cells #[.int .i64 rc, .string rt, .int .i64 rn, .slice B44 m44 e44] 49)).alloc (.cells #[.int .i64 6, .string { data := #[] }, .int .i64 0, .slice none 0 0] 49)) (w4.heap.size + 1 + 1) 49 #[.int .i64 6, .string { data := #[] }, .int .i64 0, .slice none 0 0] := Blk.new' _ _ _ (by simp)
          have bx : Below w4.heap.size w4 (((w4.alloc (.cells #[.int .i64 dk, .string dt, .int .i64 dc, .slice B14 m14 e14, .slice B24 m24 e24, .slice B34 m34 e34] 40)).alloc (.cells #[.int .i64 rc, .string rt, .int .i64 rn, .slice B44 m44 e44] 49)).alloc (.cells #[.int .i64 6, .string { data := #[] }, .int .i64 0, .slice none 0 0] 49)) := (by repeat (first | (with_reducible exact Below.refl _ _) | (with_reducible assumption) | (with_reducible refine Below.drew ?_) | (with_reducible refine bdrewN ?_ _) | (with_reducible refine balloc ?_ _) | ((with_reducible refine bset ?_ ?_ _); rotate_left; (focus first | exact Nat.le_refl _ | (simp; done) | (simp; omega) | omega)) | (with_reducible refine bstep ?_ (by with_reducible assumption)) | (with_reducible refine Below.trans ?_ (by with_reducible assumption))))
          have TT := And.intro (T4.1.bl bx) (And.intro (T4.2.1.bl bx) (T4.2.2.1.bl bx))
          have q9 : Below w.heap.size w (((w4.alloc (.cells #[.int .i64 dk, .string dt, .int .i64 dc, .slice B14 m14 e14, .slice B24 m24 e24, .slice B34 m34 e34] 40)).alloc (.cells #[.int .i64 rc, .string rt, .int .i64 rn, .slice B44 m44 e44] 49)).alloc (.cells #[.int .i64 6, .string { data := #[] }, .int .i64 0, .slice none 0 0] 49)) := (by repeat (first | (with_reducible exact Below.refl _ _) | (with_reducible assumption) | (with_reducible refine Below.drew ?_) | (with_reducible refine bdrewN ?_ _) | (with_reducible refine balloc ?_ _) | ((with_reducible refine bset ?_ ?_ _); rotate_left; (focus first | exact Nat.le_refl _ | (simp; done) | (simp; omega) | omega)) | (with_reducible refine bstep ?_ (by with_reducible assumption)) | (with_reducible refine Below.trans ?_ (by with_reducible assumption))))
          have hz9 := q9.size
          clear cV3 fV3 cC3 fC3 T4 bx
          have hs3 := HS3.out
          unfold listD at hs3
          rw [if_pos ⟨by omega, by omega⟩] at hs3
          simp only [Prod.mk.injEq, failR, toldR, textR, Re.mk.injEq, emp] at hs3
          obtain ⟨hit, hc_, ht_, hn_, hl_⟩ := hs3
          subst hc_; subst ht_; subst hn_; subst hl_; subst hit
          clear HS3
          (try clear cD4 fD4); have cD4 := D4.cell; have fD4 := D4.frozen; (try clear cR4 fR4); have cR4 := R4.cell; have fR4 := R4.frozen; (try clear cC3 fC3); have cC3 := C3.cell; have fC3 := C3.frozen; (try clear cV3 fV3); have cV3 := V3.cell; have fV3 := V3.frozen
          go_wp2_with fail
          refine (sameReply_eq ⟨6, { data := #[] }, 0, []⟩ ⟨6, { data := #[] }, 0, []⟩ _ _ _ _ _ _ _ L4 nil_sl rfl).mono ?_
          rintro e w7 ⟨rfl, hb7⟩
          have V7 := V3.below' hb7; have D7 := D4.below' hb7; have M7 := M4.bl hb7
          have T7 := And.intro (TT.1.bl hb7) (And.intro (TT.2.1.bl hb7) (TT.2.2.bl hb7))
          have X7 := M3.bl hb7
          have q7 := bstep q9 hb7
          have hz7 := q7.size
          have hv7 := V7.lt
          clear q9 hb7 V3 D4 M4 TT M3
          (try clear cD7 fD7); have cD7 := D7.cell; have fD7 := D7.frozen; (try clear cV7 fV7); have cV7 := V7.cell; have fV7 := V7.frozen
          go_wp2_with fail
          go_roundw
          case rel =>
            obtain ⟨V9, gr9, sz9⟩ := whole_value (Value.int .i64 dk) (Value.string dt) (Value.int .i64 dc) (Value.slice B14 m14 e14) (Value.slice B24 m24 e24) (Value.slice B34 m34 e34) V7
            exact ⟨i + 1, by omega, by omega, by go_num, _, _, _, _, _, _, _, _, _, _, _, _, _, _, _, _, _, _, rfl, V9, grown_vsl M7 T7 V7 gr9, ⟨grown_tp T7.1 V7 gr9, grown_tp T7.2.1 V7 gr9, grown_tp T7.2.2 V7 gr9⟩, HS4, X7.far' V7 gr9, below_grow q7 gr9 (by omega) (by omega)⟩
          case measure => simp [intOf]; omega
        · have hwn : IntKind.i64.wrap ((qn : Int) + 1) = (qn : Int) + 1 := IntWalk.i64_in _ (by have := HROOM.out; omega)
          have hq20 : ((qn : Int) == 20) = false := by rw [beq_eq_false_iff_ne]; omega
          go_wp2_with fail
          refine (HDO.out _ N3).mono ?_
          rintro e w4 ⟨B14, m14, e14, B24, m24, e24, B34, m34, e34, B44, m44, e44, rfl, M4, L4, T4, hb4, F4⟩
          replace V3 := V3.bl hb4; replace M3 := M3.bl hb4; replace C3 := C3.bl hb4
          replace q : Below w.heap.size w w4 := (by repeat (first | (with_reducible exact Below.refl _ _) | (with_reducible assumption) | (with_reducible refine Below.drew ?_) | (with_reducible refine bdrewN ?_ _) | (with_reducible refine balloc ?_ _) | ((with_reducible refine bset ?_ ?_ _); rotate_left; (focus first | exact Nat.le_refl _ | (simp; done) | (simp; omega) | omega)) | (with_reducible refine bstep ?_ (by with_reducible assumption)) | (with_reducible refine Below.trans ?_ (by with_reducible assumption))))
          have hap : Apart Q B24 := fun a b ha hb => by have := hql a ha; have := F4 b hb; omega
          have HAP := hide hap
          clear hb4 hap F4 hql
          have D4 := Blk.new w4 40 #[.int .i64 dk, .string dt, .int .i64 dc, .slice B14 m14 e14, .slice B24 m24 e24, .slice B34 m34 e34]; replace M4 := M4.al (.cells #[.int .i64 dk, .string dt, .int .i64 dc, .slice B14 m14 e14, .slice B24 m24 e24, .slice B34 m34 e34] 40); replace L4 := L4.al (.cells #[.int .i64 dk, .string dt, .int .i64 dc, .slice B14 m14 e14, .slice B24 m24 e24, .slice B34 m34 e34] 40); replace V3 := V3.al (.cells #[.int .i64 dk, .string dt, .int .i64 dc, .slice B14 m14 e14, .slice B24 m24 e24, .slice B34 m34 e34] 40); replace M3 := M3.al (.cells #[.int .i64 dk, .string dt, .int .i64 dc, .slice B14 m14 e14, .slice B24 m24 e24, .slice B34 m34 e34] 40); replace C3 := C3.al (.cells #[.int .i64 dk, .string dt, .int .i64 dc, .slice B14 m14 e14, .slice B24 m24 e24, .slice B34 m34 e34] 40); have R4 : Blk ((w4.alloc (.cells #[.int .i64 dk, .string dt, .int .i64 dc, .slice B14 m14 e14, .slice B24 m24 e24, .slice B34 m34 e34] 40)).alloc (.cells #[.int .i64 rc, .string rt, .int .i64 rn, .slice B44 m44 e44] 49)) (w4.heap.size + 1) 49 #[.int .i64 rc, .string rt, .int .i64 rn, .slice B44 m44 e44] := Blk.new' _ _ _ (by simp); replace M4 := M4.al (.cells #[.int .i64 rc, .string rt, .int .i64 rn, .slice B44 m44 e44] 49); replace L4 := L4.al (.cells #[.int .i64 rc, .string rt, .int .i64 rn, .slice B44 m44 e44] 49); replace D4 := D4.al (.cells #[.int .i64 rc, .string rt, .int .i64 rn, .slice B44 m44 e44] 49); replace V3 := V3.al (.cells #[.int .i64 rc, .string rt, .int .i64 rn, .slice B44 m44 e44] 49); replace M3 := M3.al (.cells #[.int .i64 rc, .string rt, .int .i64 rn, .slice B44 m44 e44] 49); replace C3 := C3.al (.cells #[.int .i64 rc, .string rt, .int .i64 rn, .slice B44 m44 e44] 49)
          replace M4 := M4.al (.cells #[.int .i64 0, .string { data := #[] }, .int .i64 ((qn : Int) + 1), .slice none 0 0] 49); replace L4 := L4.al (.cells #[.int .i64 0, .string { data := #[] }, .int .i64 ((qn : Int) + 1), .slice none 0 0] 49); replace D4 := D4.al (.cells #[.int .i64 0, .string { data := #[] }, .int .i64 ((qn : Int) + 1), .slice none 0 0] 49); replace R4 := R4.al (.cells #[.int .i64 0, .string { data := #[] }, .int .i64 ((qn : Int) + 1), .slice none 0 0] 49); replace V3 := V3.al (.cells #[.int .i64 0, .string { data := #[] }, .int .i64 ((qn : Int) + 1), .slice none 0 0] 49); replace M3 := M3.al (.cells #[.int .i64 0, .string { data := #[] }, .int .i64 ((qn : Int) + 1), .slice none 0 0] 49); replace C3 := C3.al (.cells #[.int .i64 0, .string { data := #[] }, .int .i64 ((qn : Int) + 1), .slice none 0 0] 49)
          have K5 : Blk (((w4.alloc (.cells #[.int .i64 dk, .string dt, .int .i64 dc, .slice B14 m14 e14, .slice B24 m24 e24, .slice B34 m34 e34] 40)).alloc (.cells #[.int .i64 rc, .string rt, .int .i64 rn, .slice B44 m44 e44] 49)).alloc (.cells #[.int .i64 0, .string { data := #[] }, .int .i64 ((qn : Int) + 1), .slice none 0 0] 49)) (w4.heap.size + 1 + 1) 49 #[.int .i64 0, .string { data := #[] }, .int .i64 ((qn : Int) + 1), .slice none 0 0] := Blk.new' _ _ _ (by simp)
          have bx : Below w4.heap.size w4 (((w4.alloc (.cells #[.int .i64 dk, .string dt, .int .i64 dc, .slice B14 m14 e14, .slice B24 m24 e24, .slice B34 m34 e34] 40)).alloc (.cells #[.int .i64 rc, .string rt, .int .i64 rn, .slice B44 m44 e44] 49)).alloc (.cells #[.int .i64 0, .string { data := #[] }, .int .i64 ((qn : Int) + 1), .slice none 0 0] 49)) := (by repeat (first | (with_reducible exact Below.refl _ _) | (with_reducible assumption) | (with_reducible refine Below.drew ?_) | (with_reducible refine bdrewN ?_ _) | (with_reducible refine balloc ?_ _) | ((with_reducible refine bset ?_ ?_ _); rotate_left; (focus first | exact Nat.le_refl _ | (simp; done) | (simp; omega) | omega)) | (with_reducible refine bstep ?_ (by with_reducible assumption)) | (with_reducible refine Below.trans ?_ (by with_reducible assumption))))
          have TT := And.intro (T4.1.bl bx) (And.intro (T4.2.1.bl bx) (T4.2.2.1.bl bx))
          have q9 : Below w.heap.size w (((w4.alloc (.cells #[.int .i64 dk, .string dt, .int .i64 dc, .slice B14 m14 e14, .slice B24 m24 e24, .slice B34 m34 e34] 40)).alloc (.cells #[.int .i64 rc, .string rt, .int .i64 rn, .slice B44 m44 e44] 49)).alloc (.cells #[.int .i64 0, .string { data := #[] }, .int .i64 ((qn : Int) + 1), .slice none 0 0] 49)) := (by repeat (first | (with_reducible exact Below.refl _ _) | (with_reducible assumption) | (with_reducible refine Below.drew ?_) | (with_reducible refine bdrewN ?_ _) | (with_reducible refine balloc ?_ _) | ((with_reducible refine bset ?_ ?_ _); rotate_left; (focus first | exact Nat.le_refl _ | (simp; done) | (simp; omega) | omega)) | (with_reducible refine bstep ?_ (by with_reducible assumption)) | (with_reducible refine Below.trans ?_ (by with_reducible assumption))))
          have hz9 := q9.size
          clear cV3 fV3 cC3 fC3 T4 bx
          have hr21 : qn ≤ 20 := by have := HROOM.out; omega
          have hs3 := HS3.out
          unfold listD at hs3
          rw [if_neg (by omega), if_neg (by omega), if_pos rfl] at hs3
          simp only [Prod.mk.injEq, failR, toldR, textR, Re.mk.injEq, emp] at hs3
          obtain ⟨hit, hc_, ht_, hn_, hl_⟩ := hs3
          rw [hqn] at hn_
          subst hc_; subst ht_; subst hn_; subst hl_; subst hit
          clear HS3
          (try clear cD4 fD4); have cD4 := D4.cell; have fD4 := D4.frozen; (try clear cR4 fR4); have cR4 := R4.cell; have fR4 := R4.frozen; (try clear cC3 fC3); have cC3 := C3.cell; have fC3 := C3.frozen; (try clear cV3 fV3); have cV3 := V3.cell; have fV3 := V3.frozen
          go_wp2_with (at_builtin; refine wpList_pushes rfl _ _ _ rfl Try.underlying37 text_info rfl (by decide) (base := (((w4.alloc (.cells #[.int .i64 dk, .string dt, .int .i64 dc, .slice B14 m14 e14, .slice B24 m24 e24, .slice B34 m34 e34] 40)).alloc (.cells #[.int .i64 0, .string { data := #[] }, .int .i64 ((qn : Int) + 1), .slice B44 m44 e44] 49)).alloc (.cells #[.int .i64 0, .string { data := #[] }, .int .i64 ((qn : Int) + 1), .slice none 0 0] 49)).heap.size) (rows := [[.string ct]]) rfl ?ho8b rfl ?hs8b (str_one is_) ?h638b ?hby8b ?hba8b ?hk8b)
          case ho8b => exact Own.of_blk (rows := [[.string ct]]) (Blk.new' _ _ _ (by simp)) (by simp) (by simp) (by intro r hr; rw [List.mem_singleton] at hr; subst hr; rfl) (by simp [maxLen])
          case hs8b => exact (M3.al _).sl
          case h638b => simp [maxLen]; omega
          case hby8b => simp; omega
          case hba8b => simp
          case hk8b =>
            intro A' n' c' w6 hown hb6
            have bz : Below (((w4.alloc (.cells #[.int .i64 dk, .string dt, .int .i64 dc, .slice B14 m14 e14, .slice B24 m24 e24, .slice B34 m34 e34] 40)).alloc (.cells #[.int .i64 0, .string { data := #[] }, .int .i64 ((qn : Int) + 1), .slice B44 m44 e44] 49)).alloc (.cells #[.int .i64 0, .string { data := #[] }, .int .i64 ((qn : Int) + 1), .slice none 0 0] 49)).heap.size (((w4.alloc (.cells #[.int .i64 dk, .string dt, .int .i64 dc, .slice B14 m14 e14, .slice B24 m24 e24, .slice B34 m34 e34] 40)).alloc (.cells #[.int .i64 0, .string { data := #[] }, .int .i64 ((qn : Int) + 1), .slice B44 m44 e44] 49)).alloc (.cells #[.int .i64 0, .string { data := #[] }, .int .i64 ((qn : Int) + 1), .slice none 0 0] 49)) w6 := by
              have h0 : Below (w4.heap.size + 1 + 1 + 1) (((w4.alloc (.cells #[.int .i64 dk, .string dt, .int .i64 dc, .slice B14 m14 e14, .slice B24 m24 e24, .slice B34 m34 e34] 40)).alloc (.cells #[.int .i64 0, .string { data := #[] }, .int .i64 ((qn : Int) + 1), .slice B44 m44 e44] 49)).alloc (.cells #[.int .i64 0, .string { data := #[] }, .int .i64 ((qn : Int) + 1), .slice none 0 0] 49)) ((((w4.alloc (.cells #[.int .i64 dk, .string dt, .int .i64 dc, .slice B14 m14 e14, .slice B24 m24 e24, .slice B34 m34 e34] 40)).alloc (.cells #[.int .i64 0, .string { data := #[] }, .int .i64 ((qn : Int) + 1), .slice B44 m44 e44] 49)).alloc (.cells #[.int .i64 0, .string { data := #[] }, .int .i64 ((qn : Int) + 1), .slice none 0 0] 49)).alloc (.cells #[.string ct] 9)) := (Below.refl _ _).alloc (by simp) _
              have h1 := h0.trans hb6
              simpa using h1
            have hn' := hown.sl'.len
            simp [strRows] at hn'
            have hn2 : n' = qn + 1 := by omega
            subst hn2
            have X6 := (At.own hown).mono (base' := w.heap.size) (by have := q9.size; simp at this; omega)
            have hsr : [Value.string ct] :: strRows is_ = strRows (ct :: is_) := by simp [strRows]
            rw [hsr] at X6
            replace V3 := V3.bl bz; replace D4 := D4.bl bz; replace R4 := R4.bl bz; replace M4 := M4.bl bz; replace L4 := L4.bl bz; replace K5 := K5.bl bz
            replace TT := And.intro (TT.1.bl bz) (And.intro (TT.2.1.bl bz) (TT.2.2.bl bz))
            replace q9 := bstep q9 bz
            replace hz9 := q9.size
            clear hown hb6 bz hsr M3 hn'
            clear cD4 fD4 cR4 fR4 cV3 fV3 cC3 fC3 C3
            (try clear cD4 fD4); have cD4 := D4.cell; have fD4 := D4.frozen; (try clear cR4 fR4); have cR4 := R4.cell; have fR4 := R4.frozen; (try clear cV3 fV3); have cV3 := V3.cell; have fV3 := V3.frozen; (try clear cK5 fK5); have cK5 := K5.cell; have fK5 := K5.frozen
            go_wp2_with fail
            refine (sameReply_eq ⟨0, { data := #[] }, (qn : Int) + 1, []⟩ ⟨0, { data := #[] }, (qn : Int) + 1, []⟩ _ _ _ _ _ _ _ L4 nil_sl rfl).mono ?_
            rintro e w7 ⟨rfl, hb7⟩
            have V7 := V3.below' hb7; have D7 := D4.below' hb7; have M7 := M4.bl hb7
            have T7 := And.intro (TT.1.bl hb7) (And.intro (TT.2.1.bl hb7) (TT.2.2.bl hb7))
            have X7 := X6.bl hb7
            have q7 := bstep q9 hb7
            have hz7 := q7.size
            have hv7 := V7.lt
            clear q9 hb7 V3 D4 M4 TT X6
            (try clear cD7 fD7); have cD7 := D7.cell; have fD7 := D7.frozen; (try clear cV7 fV7); have cV7 := V7.cell; have fV7 := V7.frozen
            go_wp2_with fail
            go_roundw
            case rel =>
              obtain ⟨V9, gr9, sz9⟩ := whole_value (Value.int .i64 dk) (Value.string dt) (Value.int .i64 dc) (Value.slice B14 m14 e14) (Value.slice B24 m24 e24) (Value.slice B34 m34 e34) V7
              exact ⟨i + 1, by omega, by omega, by go_num, _, _, _, _, _, _, _, _, _, _, _, _, _, _, _, _, _, _, rfl, V9, grown_vsl M7 T7 V7 gr9, ⟨grown_tp T7.1 V7 gr9, grown_tp T7.2.1 V7 gr9, grown_tp T7.2.2 V7 gr9⟩, HS4, X7.far' V7 gr9, below_grow q7 gr9 (by omega) (by omega)⟩
            case measure => simp [intOf]; omega
      · go_wp2_with fail
        generalize hW : wr.alloc (.cells #[.int .i64 7, .int .i64 8, .int .i64 7, .int .i64 8, .int .i64 9, .int .i64 10] 3) = W at *
        have qW : Below wr.heap.size wr W := by rw [← hW]; exact (Below.refl _ wr).alloc (Nat.le_refl _) _
        clear hW
        have V2 := V.bl qW; have N2 := N.bl qW; have M2 := M.bl qW
        have T2 := And.intro (T.1.bl qW) (And.intro (T.2.1.bl qW) (T.2.2.bl qW))
        have hrW : rb < W.heap.size := by have := qW.size; omega
        have g3' := (qW.cell (p := ⟨rb, ro + i * 5 + 3, none⟩) hrw).trans g3
        have g4' := (qW.cell (p := ⟨rb, ro + i * 5 + 4, none⟩) hrw).trans g4
        have q : Below w.heap.size w W := bstep hbr qW
        obtain ⟨cy, cf, ct, cn, hcts, hcc, hcall⟩ := list_cmd 7 xn xt (by omega) hdx.2.2.2.1 hdx.2.2.2.2
        have hstep := list_step HV.out hcc (by simp)
        have hroom := HV.out.room
        have hDo := fun w h => Do_mayN ⟨vk, vt, vc, ps, is_, ss⟩ ⟨7, cy, cf, ct, cn⟩ HV.out.may' A1 A2 A3 n1 c1 n2 c2 n3 c3 w h
        generalize doneVal ⟨vk, vt, vc, ps, is_, ss⟩ ⟨7, cy, cf, ct, cn⟩ = D at *
        obtain ⟨⟨dk, dt, dc, dps, dis, dss⟩, ⟨rc, rt, rn, rl⟩, de⟩ := D
        obtain ⟨s1, s2, s3⟩ := hstep
        simp only [cmdV, Int.reduceSub] at s1 s3 hcall hroom
        subst s1
        have HDO := hide hDo
        have HS4 := hide s2
        have HS3 := hide s3
        have HROOM := hide hroom
        clear hDo s2 s3 hroom hcc
        have HCALL := hide hcall
        clear hcall g0 g3 g4 cV fV
        have hsG : ∀ w', Below W.heap.size W w' → (w'.cell? ⟨rb, ro + i * 5 + 3, none⟩ = some (.int .i64 xn) ∧ w'.cell? ⟨rb, ro + i * 5 + 4, none⟩ = some (.string xt)) := fun w' q => ⟨(q.cell (p := ⟨rb, ro + i * 5 + 3, none⟩) hrW).trans g3', (q.cell (p := ⟨rb, ro + i * 5 + 4, none⟩) hrW).trans g4'⟩
        refine wp_region_x (l := []) (S := fun w' => (w'.cell? ⟨rb, ro + i * 5 + 3, none⟩ = some (.int .i64 xn) ∧ w'.cell? ⟨rb, ro + i * 5 + 4, none⟩ = some (.string xt))) (by kernel_rfl) (hsG _ (Below.refl _ W).drew) (fun hS => ?_)
        refine wpAnyX_take (i := 0) (v := ?xv0c) rfl (by kernel_rfl) (by kernel_rfl) (by kernel_rfl) (by kernel_rfl) (fun _ _ _ h => h) (Or.inl ⟨by rfl, ?xh0c⟩) (by assumption) ?xr0c; (case xh0c => (intro w hSw; (try dsimp only at hSw); go_simp; (try with_reducible rfl))); (try simp only [Act.put, List.setIfInBounds_toArray, List.set_cons_zero, List.set_cons_succ, List.getElem_toArray, List.getElem_cons_zero, List.getElem_cons_succ])
        refine wpAnyX_take (i := 1) (v := ?xv1c) rfl (by kernel_rfl) (by kernel_rfl) (by kernel_rfl) (by kernel_rfl) (fun _ _ _ h => h) (Or.inl ⟨by rfl, ?xh1c⟩) (by assumption) ?xr1c; (case xh1c => (intro w hSw; (try dsimp only at hSw); go_simp; (try with_reducible rfl))); (try simp only [Act.put, List.setIfInBounds_toArray, List.set_cons_zero, List.set_cons_succ, List.getElem_toArray, List.getElem_cons_zero, List.getElem_cons_succ])
        refine wpAnyX_take (i := 2) (v := ?xv2c) rfl (by kernel_rfl) (by kernel_rfl) (by kernel_rfl) (by kernel_rfl) (fun _ _ _ h => h) (Or.inl ⟨by rfl, ?xh2c⟩) (by assumption) ?xr2c; (case xh2c => (intro w hSw; (try dsimp only at hSw); go_simp; (try with_reducible rfl))); (try simp only [Act.put, List.setIfInBounds_toArray, List.set_cons_zero, List.set_cons_succ, List.getElem_toArray, List.getElem_cons_zero, List.getElem_cons_succ])
        refine wpAnyX_take (i := 3) (v := ?xv3c) rfl (by kernel_rfl) (by kernel_rfl) (by kernel_rfl) (by kernel_rfl) (fun _ _ _ h => h) (Or.inl ⟨by rfl, ?xh3c⟩) (by assumption) ?xr3c; (case xh3c => (intro w hSw; (try dsimp only at hSw); go_simp; (try with_reducible rfl))); (try simp only [Act.put, List.setIfInBounds_toArray, List.set_cons_zero, List.set_cons_succ, List.getElem_toArray, List.getElem_cons_zero, List.getElem_cons_succ])
        refine wpAnyX_take (i := 4) (v := ?xv4c) rfl (by kernel_rfl) (by kernel_rfl) (by kernel_rfl) (by kernel_rfl) (fun _ _ _ h => h) (Or.inl ⟨by rfl, ?xh4c⟩) (by assumption) ?xr4c; (case xh4c => (intro w hSw; (try dsimp only at hSw); go_simp; (try with_reducible rfl))); (try simp only [Act.put, List.setIfInBounds_toArray, List.set_cons_zero, List.set_cons_succ, List.getElem_toArray, List.getElem_cons_zero, List.getElem_cons_succ])
        refine wpAnyX_take (i := 5) (v := ?xv5c) rfl (by kernel_rfl) (by kernel_rfl) (by kernel_rfl) (by kernel_rfl) (fun _ _ _ h => h) (Or.inl ⟨by rfl, ?xh5c⟩) (by assumption) ?xr5c; (case xh5c => (intro w hSw; (try dsimp only at hSw); go_simp; (try with_reducible rfl))); (try simp only [Act.put, List.setIfInBounds_toArray, List.set_cons_zero, List.set_cons_succ, List.getElem_toArray, List.getElem_cons_zero, List.getElem_cons_succ])
        refine wpAnyX_take (i := 6) (v := ?xv6c) rfl (by kernel_rfl) (by kernel_rfl) (by kernel_rfl) (by kernel_rfl) (fun _ _ _ h => h) (Or.inl ⟨by rfl, ?xh6c⟩) (by assumption) ?xr6c; (case xh6c => (intro w hSw; (try dsimp only at hSw); go_simp; (try with_reducible rfl))); (try simp only [Act.put, List.setIfInBounds_toArray, List.set_cons_zero, List.set_cons_succ, List.getElem_toArray, List.getElem_cons_zero, List.getElem_cons_succ])
        refine wpAnyX_take (i := 7) (v := ?xv7c) rfl (by kernel_rfl) (by kernel_rfl) (by kernel_rfl) (by kernel_rfl) (fun _ _ _ h => h) (Or.inl ⟨by rfl, ?xh7c⟩) (by assumption) ?xr7c; (case xh7c => (intro w hSw; (try dsimp only at hSw); go_simp; (try with_reducible rfl))); (try simp only [Act.put, List.setIfInBounds_toArray, List.set_cons_zero, List.set_cons_succ, List.getElem_toArray, List.getElem_cons_zero, List.getElem_cons_succ])
        refine wpAnyX_take (i := 8) (v := ?xv8c) rfl (by kernel_rfl) (by kernel_rfl) (by kernel_rfl) (by kernel_rfl) (fun _ _ _ h => h) (Or.inl ⟨by rfl, ?xh8c⟩) (by assumption) ?xr8c; (case xh8c => (intro w hSw; (try dsimp only at hSw); go_simp; (try with_reducible rfl))); (try simp only [Act.put, List.setIfInBounds_toArray, List.set_cons_zero, List.set_cons_succ, List.getElem_toArray, List.getElem_cons_zero, List.getElem_cons_succ])
        refine wpAnyX_take (i := 9) (v := ?xv9c) rfl (by kernel_rfl) (by kernel_rfl) (by kernel_rfl) (by kernel_rfl) (fun _ _ _ h => h) (Or.inl ⟨by rfl, ?xh9c⟩) (by assumption) ?xr9c; (case xh9c => (intro w hSw; (try dsimp only at hSw); go_simp; (try with_reducible rfl))); (try simp only [Act.put, List.setIfInBounds_toArray, List.set_cons_zero, List.set_cons_succ, List.getElem_toArray, List.getElem_cons_zero, List.getElem_cons_succ])
        refine wpAnyX_take (i := 10) (v := ?xv10c) rfl (by kernel_rfl) (by kernel_rfl) (by kernel_rfl) (by kernel_rfl) (fun _ _ _ h => h) (Or.inl ⟨by rfl, ?xh10c⟩) (by assumption) ?xr10c; (case xh10c => (intro w hSw; (try dsimp only at hSw); go_simp; (try with_reducible rfl))); (try simp only [Act.put, List.setIfInBounds_toArray, List.set_cons_zero, List.set_cons_succ, List.getElem_toArray, List.getElem_cons_zero, List.getElem_cons_succ])
        refine wpAnyX_take (i := 11) (v := ?xv11c) rfl (by kernel_rfl) (by kernel_rfl) (by kernel_rfl) (by kernel_rfl) (fun _ _ _ h => h) (Or.inl ⟨by rfl, ?xh11c⟩) (by assumption) ?xr11c; (case xh11c => (intro w hSw; (try dsimp only at hSw); go_simp; (try with_reducible rfl))); (try simp only [Act.put, List.setIfInBounds_toArray, List.set_cons_zero, List.set_cons_succ, List.getElem_toArray, List.getElem_cons_zero, List.getElem_cons_succ])
        refine wpAnyX_take (i := 12) (v := ?xv12c) rfl (by kernel_rfl) (by kernel_rfl) (by kernel_rfl) (by kernel_rfl) (fun _ _ _ h => h) (Or.inl ⟨by rfl, ?xh12c⟩) (by assumption) ?xr12c; (case xh12c => (intro w hSw; (try dsimp only at hSw); go_simp; (try with_reducible rfl))); (try simp only [Act.put, List.setIfInBounds_toArray, List.set_cons_zero, List.set_cons_succ, List.getElem_toArray, List.getElem_cons_zero, List.getElem_cons_succ])
        have HSG := hide hsG
        clear hsG hS g3' g4'
        refine wpX_startA (n := 2 + left1 false) (listed := (fun b_ => #[true, true, true, true, true, true, true, true, true, true, true, true, true, false, b_, false]) false) (j := 14) (d := 7) (t := 46) (z := #[.int .i64 0, .string { data := #[] }, .string { data := #[] }, .string { data := #[] }, .int .i64 0]) ?al1c ?alnc ?allc (fun al1 => ?alrc); (case al1c => exact ⟨⟨_, rfl, rfl, rfl, fun a w => by simp [go_sem, execOp]⟩⟩); (case alnc => kernel_rfl); (case allc => kernel_rfl)
        refine' wpX_phaseA' (f := 1) (i := 13) (L := (fun b_ => #[true, true, true, true, true, true, true, true, true, true, true, true, true, false, b_, false])) (L' := (fun b_ => #[true, true, true, true, true, true, true, true, true, true, true, true, true, true, b_, false])) (base := W.heap.size) (G := (fun w' => Below W.heap.size W w')) (x := u7) al1 ?an13c ?al13c ?aa13c ?ar13c ?ai13c ?ag13c ?ae113c ?ae313c ?ap113c HSG.out (fun w' o q => q.alloc q.size o) (fun w' q => q.size) ?aw13c ?am13c; (case an13c => rfl); (case al13c => rfl); (case aa13c => rfl); (case ar13c => kernel_rfl); (case ai13c => rfl); (case ag13c => rfl); (case ae113c => rfl); (case ae313c => (intros; rfl)); (case ap113c => (intros; rfl))
        (case aw13c => exact (Below.refl _ W).drew)
        intro b_ x_ w5 hG_ hx_ K_ hK_; (try simp only [Act.put, List.setIfInBounds_toArray, List.set_cons_zero, List.set_cons_succ, List.getElem_toArray, List.getElem_cons_zero, List.getElem_cons_succ])
        go_wp2_with fail
        refine (HCALL.out _).mono ?_
        rintro e w6 ⟨rfl, hb6⟩
        go_wp2_with fail
        have q6 : Below W.heap.size W w6 := bstep hG_ hb6
        have hS6 := HSG.out _ q6
        refine hK_.out _ _ (Or.inr hS6) ?_
        clear hK_ K_ hG_
        refine' wpX_layA' (f := 1) (L := (fun b_ => #[true, true, true, true, true, true, true, true, true, true, true, true, true, true, b_, false])) (base := W.heap.size) (G := (fun w' => Below w6.heap.size w6 w')) (b := b_) (x := x_) al1 ?anLc ?alLc ?aaLc ?arLc ?ae1Lc ?ap1Lc (fun w' q => HSG.out w' (bstep q6 q)) (fun w' o q => q.alloc q.size o) (fun w' q => Nat.le_trans q6.size q.size) ?awLc (hx_.bl hb6) ?amLc; (case anLc => rfl); (case alLc => rfl); (case aaLc => rfl); (case arLc => kernel_rfl); (case ae1Lc => rfl); (case ap1Lc => (intros; rfl))
        (case awLc => exact Below.refl _ w6)
        clear hx_ x_ b_ hS6
        intro g7 w7 hb7 hg7 G7
        have q7 : Below W.heap.size W w7 := bstep q6 hb7
        clear al1
        (try clear cG7 fG7); have cG7 := G7.cell; have fG7 := G7.frozen
        refine wpAnyX_one (i := 15) (by kernel_rfl) rfl (by rfl) (fun K hK => ?_); (try simp only [List.getElem_toArray, List.getElem_cons_zero, List.getElem_cons_succ])
        go_wp2_with fail
        refine hK.out _ _ (Or.inr (HSG.out _ (below_set (below_set (below_set (below_set (below_set q7 hg7 0 _) hg7 1 _) hg7 2 _) hg7 3 _) hg7 4 _))) (fun hS => ?_)
        clear hK K hS cG7 fG7
        refine wpAnyX_done (by kernel_rfl) ?_ _
        have hgV := V2.lt
        have N7 := N2.bl q7
        have T7 := And.intro (T2.1.bl q7) (And.intro (T2.2.1.bl q7) (T2.2.2.bl q7))
        obtain ⟨C3, gr8⟩ := whole_command (Value.int .i64 7) (Value.string cy) (Value.string cf) (Value.string ct) (Value.int .i64 cn) G7
        have V3 := grown_blk (V2.below' q7) gr8 (by omega)
        have N3 := grown_vsl N7 T7 G7 gr8
        have M3 := (M2.bl q7).far' G7 gr8
        have q8 := below_grow (bstep q q7) gr8 (by have := q.size; have := q7.size; omega) (by have := q.size; omega)
        obtain ⟨w8, hw8⟩ : ∃ w8, w8 = (((((w7.setCell ⟨g7, 0, none⟩ (Value.int .i64 7)).setCell ⟨g7, 1, none⟩ (Value.string cy)).setCell ⟨g7, 2, none⟩ (Value.string cf)).setCell ⟨g7, 3, none⟩ (Value.string ct)).setCell ⟨g7, 4, none⟩ (Value.int .i64 cn)) := ⟨_, rfl⟩
        rw [← hw8] at C3 V3 N3 M3 q8 ⊢
        clear hw8 gr8 G7 N7 T7 V2 N2 M2 T2 hb7 q7 q6 hb6 V N M T hbr
        have hc8 := C3.lt
        have q : Below w.heap.size w w8 := q8
        have hql := M3.lt
        have hqn := M3.sl.len
        simp only [strRows, List.length_map] at hqn
        (try clear cV3 fV3); have cV3 := V3.cell; have fV3 := V3.frozen; (try clear cC3 fC3); have cC3 := C3.cell; have fC3 := C3.frozen
        by_cases h20 : qn = 20
        · subst h20
          go_wp2_with fail
          refine (HDO.out _ N3).mono ?_
          rintro e w4 ⟨B14, m14, e14, B24, m24, e24, B34, m34, e34, B44, m44, e44, rfl, M4, L4, T4, hb4, F4⟩
          replace V3 := V3.bl hb4; replace M3 := M3.bl hb4; replace C3 := C3.bl hb4
          replace q : Below w.heap.size w w4 := (by repeat (first | (with_reducible exact Below.refl _ _) | (with_reducible assumption) | (with_reducible refine Below.drew ?_) | (with_reducible refine bdrewN ?_ _) | (with_reducible refine balloc ?_ _) | ((with_reducible refine bset ?_ ?_ _); rotate_left; (focus first | exact Nat.le_refl _ | (simp; done) | (simp; omega) | omega)) | (with_reducible refine bstep ?_ (by with_reducible assumption)) | (with_reducible refine Below.trans ?_ (by with_reducible assumption))))
          have hap : Apart Q B24 := fun a b ha hb => by have := hql a ha; have := F4 b hb; omega
          have HAP := hide hap
          clear hb4 hap F4 hql
          have D4 := Blk.new w4 40 #[.int .i64 dk, .string dt, .int .i64 dc, .slice B14 m14 e14, .slice B24 m24 e24, .slice B34 m34 e34]; replace M4 := M4.al (.cells #[.int .i64 dk, .string dt, .int .i64 dc, .slice B14 m14 e14, .slice B24 m24 e24, .slice B34 m34 e34] 40); replace L4 := L4.al (.cells #[.int .i64 dk, .string dt, .int .i64 dc, .slice B14 m14 e14, .slice B24 m24 e24, .slice B34 m34 e34] 40); replace V3 := V3.al (.cells #[.int .i64 dk, .string dt, .int .i64 dc, .slice B14 m14 e14, .slice B24 m24 e24, .slice B34 m34 e34] 40); replace M3 := M3.al (.cells #[.int .i64 dk, .string dt, .int .i64 dc, .slice B14 m14 e14, .slice B24 m24 e24, .slice B34 m34 e34] 40); replace C3 := C3.al (.cells #[.int .i64 dk, .string dt, .int .i64 dc, .slice B14 m14 e14, .slice B24 m24 e24, .slice B34 m34 e34] 40); have R4 : Blk ((w4.alloc (.cells #[.int .i64 dk, .string dt, .int .i64 dc, .slice B14 m14 e14, .slice B24 m24 e24, .slice B34 m34 e34] 40)).alloc (.cells #[.int .i64 rc, .string rt, .int .i64 rn, .slice B44 m44 e44] 49)) (w4.heap.size + 1) 49 #[.int .i64 rc, .string rt, .int .i64 rn, .slice B44 m44 e44] := Blk.new' _ _ _ (by simp); replace M4 := M4.al (.cells #[.int .i64 rc, .string rt, .int .i64 rn, .slice B44 m44 e44] 49); replace L4 := L4.al (.cells #[.int .i64 rc, .string rt, .int .i64 rn, .slice B44 m44 e44] 49); replace D4 := D4.al (.cells #[.int .i64 rc, .string rt, .int .i64 rn, .slice B44 m44 e44] 49); replace V3 := V3.al (.cells #[.int .i64 rc, .string rt, .int .i64 rn, .slice B44 m44 e44] 49); replace M3 := M3.al (.cells #[.int .i64 rc, .string rt, .int .i64 rn, .slice B44 m44 e44] 49); replace C3 := C3.al (.cells #[.int .i64 rc, .string rt, .int .i64 rn, .slice B44 m44 e44] 49)
          replace M4 := M4.al (.cells #[.int .i64 6, .string { data := #[] }, .int .i64 0, .slice none 0 0] 49); replace L4 := L4.al (.cells #[.int .i64 6, .string { data := #[] }, .int .i64 0, .slice none 0 0] 49); replace D4 := D4.al (.cells #[.int .i64 6, .string { data := #[] }, .int .i64 0, .slice none 0 0] 49); replace R4 := R4.al (.cells #[.int .i64 6, .string { data := #[] }, .int .i64 0, .slice none 0 0] 49); replace V3 := V3.al (.cells #[.int .i64 6, .string { data := #[] }, .int .i64 0, .slice none 0 0] 49); replace M3 := M3.al (.cells #[.int .i64 6, .string { data := #[] }, .int .i64 0, .slice none 0 0] 49); replace C3 := C3.al (.cells #[.int .i64 6, .string { data := #[] }, .int .i64 0, .slice none 0 0] 49)
          have K5 : Blk (((w4.alloc (.cells #[.int .i64 dk, .string dt, .int .i64 dc, .slice B14 m14 e14, .slice B24 m24 e24, .slice B34 m34 e34] 40)).alloc (.cells #[.int .i64 rc, .string rt, .int .i64 rn, .slice B44 m44 e44] 49)).alloc (.cells #[.int .i64 6, .string { data := #[] }, .int .i64 0, .slice none 0 0] 49)) (w4.heap.size + 1 + 1) 49 #[.int .i64 6, .string { data := #[] }, .int .i64 0, .slice none 0 0] := Blk.new' _ _ _ (by simp)
          have bx : Below w4.heap.size w4 (((w4.alloc (.cells #[.int .i64 dk, .string dt, .int .i64 dc, .slice B14 m14 e14, .slice B24 m24 e24, .slice B34 m34 e34] 40)).alloc (.cells #[.int .i64 rc, .string rt, .int .i64 rn, .slice B44 m44 e44] 49)).alloc (.cells #[.int .i64 6, .string { data := #[] }, .int .i64 0, .slice none 0 0] 49)) := (by repeat (first | (with_reducible exact Below.refl _ _) | (with_reducible assumption) | (with_reducible refine Below.drew ?_) | (with_reducible refine bdrewN ?_ _) | (with_reducible refine balloc ?_ _) | ((with_reducible refine bset ?_ ?_ _); rotate_left; (focus first | exact Nat.le_refl _ | (simp; done) | (simp; omega) | omega)) | (with_reducible refine bstep ?_ (by with_reducible assumption)) | (with_reducible refine Below.trans ?_ (by with_reducible assumption))))
          have TT := And.intro (T4.1.bl bx) (And.intro (T4.2.1.bl bx) (T4.2.2.1.bl bx))
          have q9 : Below w.heap.size w (((w4.alloc (.cells #[.int .i64 dk, .string dt, .int .i64 dc, .slice B14 m14 e14, .slice B24 m24 e24, .slice B34 m34 e34] 40)).alloc (.cells #[.int .i64 rc, .string rt, .int .i64 rn, .slice B44 m44 e44] 49)).alloc (.cells #[.int .i64 6, .string { data := #[] }, .int .i64 0, .slice none 0 0] 49)) := (by repeat (first | (with_reducible exact Below.refl _ _) | (with_reducible assumption) | (with_reducible refine Below.drew ?_) | (with_reducible refine bdrewN ?_ _) | (with_reducible refine balloc ?_ _) | ((with_reducible refine bset ?_ ?_ _); rotate_left; (focus first | exact Nat.le_refl _ | (simp; done) | (simp; omega) | omega)) | (with_reducible refine bstep ?_ (by with_reducible assumption)) | (with_reducible refine Below.trans ?_ (by with_reducible assumption))))
          have hz9 := q9.size
          clear cV3 fV3 cC3 fC3 T4 bx
          have hs3 := HS3.out
          unfold listD at hs3
          rw [if_pos ⟨by omega, by omega⟩] at hs3
          simp only [Prod.mk.injEq, failR, toldR, textR, Re.mk.injEq, emp] at hs3
          obtain ⟨hit, hc_, ht_, hn_, hl_⟩ := hs3
          subst hc_; subst ht_; subst hn_; subst hl_; subst hit
          clear HS3
          (try clear cD4 fD4); have cD4 := D4.cell; have fD4 := D4.frozen; (try clear cR4 fR4); have cR4 := R4.cell; have fR4 := R4.frozen; (try clear cC3 fC3); have cC3 := C3.cell; have fC3 := C3.frozen; (try clear cV3 fV3); have cV3 := V3.cell; have fV3 := V3.frozen
          go_wp2_with fail
          refine (sameReply_eq ⟨6, { data := #[] }, 0, []⟩ ⟨6, { data := #[] }, 0, []⟩ _ _ _ _ _ _ _ L4 nil_sl rfl).mono ?_
          rintro e w7 ⟨rfl, hb7⟩
          have V7 := V3.below' hb7; have D7 := D4.below' hb7; have M7 := M4.bl hb7
          have T7 := And.intro (TT.1.bl hb7) (And.intro (TT.2.1.bl hb7) (TT.2.2.bl hb7))
          have X7 := M3.bl hb7
          have q7 := bstep q9 hb7
          have hz7 := q7.size
          have hv7 := V7.lt
          clear q9 hb7 V3 D4 M4 TT M3
          (try clear cD7 fD7); have cD7 := D7.cell; have fD7 := D7.frozen; (try clear cV7 fV7); have cV7 := V7.cell; have fV7 := V7.frozen
          go_wp2_with fail
          go_roundw
          case rel =>
            obtain ⟨V9, gr9, sz9⟩ := whole_value (Value.int .i64 dk) (Value.string dt) (Value.int .i64 dc) (Value.slice B14 m14 e14) (Value.slice B24 m24 e24) (Value.slice B34 m34 e34) V7
            exact ⟨i + 1, by omega, by omega, by go_num, _, _, _, _, _, _, _, _, _, _, _, _, _, _, _, _, _, _, rfl, V9, grown_vsl M7 T7 V7 gr9, ⟨grown_tp T7.1 V7 gr9, grown_tp T7.2.1 V7 gr9, grown_tp T7.2.2 V7 gr9⟩, HS4, X7.far' V7 gr9, below_grow q7 gr9 (by omega) (by omega)⟩
          case measure => simp [intOf]; omega
        · have hwn : IntKind.i64.wrap ((qn : Int) + 1) = (qn : Int) + 1 := IntWalk.i64_in _ (by have := HROOM.out; omega)
          have hq20 : ((qn : Int) == 20) = false := by rw [beq_eq_false_iff_ne]; omega
          go_wp2_with fail
          refine (HDO.out _ N3).mono ?_
          rintro e w4 ⟨B14, m14, e14, B24, m24, e24, B34, m34, e34, B44, m44, e44, rfl, M4, L4, T4, hb4, F4⟩
          replace V3 := V3.bl hb4; replace M3 := M3.bl hb4; replace C3 := C3.bl hb4
          replace q : Below w.heap.size w w4 := (by repeat (first | (with_reducible exact Below.refl _ _) | (with_reducible assumption) | (with_reducible refine Below.drew ?_) | (with_reducible refine bdrewN ?_ _) | (with_reducible refine balloc ?_ _) | ((with_reducible refine bset ?_ ?_ _); rotate_left; (focus first | exact Nat.le_refl _ | (simp; done) | (simp; omega) | omega)) | (with_reducible refine bstep ?_ (by with_reducible assumption)) | (with_reducible refine Below.trans ?_ (by with_reducible assumption))))
          have hap : Apart Q B24 := fun a b ha hb => by have := hql a ha; have := F4 b hb; omega
          have HAP := hide hap
          clear hb4 hap F4 hql
          have D4 := Blk.new w4 40 #[.int .i64 dk, .string dt, .int .i64 dc, .slice B14 m14 e14, .slice B24 m24 e24, .slice B34 m34 e34]; replace M4 := M4.al (.cells #[.int .i64 dk, .string dt, .int .i64 dc, .slice B14 m14 e14, .slice B24 m24 e24, .slice B34 m34 e34] 40); replace L4 := L4.al (.cells #[.int .i64 dk, .string dt, .int .i64 dc, .slice B14 m14 e14, .slice B24 m24 e24, .slice B34 m34 e34] 40); replace V3 := V3.al (.cells #[.int .i64 dk, .string dt, .int .i64 dc, .slice B14 m14 e14, .slice B24 m24 e24, .slice B34 m34 e34] 40); replace M3 := M3.al (.cells #[.int .i64 dk, .string dt, .int .i64 dc, .slice B14 m14 e14, .slice B24 m24 e24, .slice B34 m34 e34] 40); replace C3 := C3.al (.cells #[.int .i64 dk, .string dt, .int .i64 dc, .slice B14 m14 e14, .slice B24 m24 e24, .slice B34 m34 e34] 40); have R4 : Blk ((w4.alloc (.cells #[.int .i64 dk, .string dt, .int .i64 dc, .slice B14 m14 e14, .slice B24 m24 e24, .slice B34 m34 e34] 40)).alloc (.cells #[.int .i64 rc, .string rt, .int .i64 rn, .slice B44 m44 e44] 49)) (w4.heap.size + 1) 49 #[.int .i64 rc, .string rt, .int .i64 rn, .slice B44 m44 e44] := Blk.new' _ _ _ (by simp); replace M4 := M4.al (.cells #[.int .i64 rc, .string rt, .int .i64 rn, .slice B44 m44 e44] 49); replace L4 := L4.al (.cells #[.int .i64 rc, .string rt, .int .i64 rn, .slice B44 m44 e44] 49); replace D4 := D4.al (.cells #[.int .i64 rc, .string rt, .int .i64 rn, .slice B44 m44 e44] 49); replace V3 := V3.al (.cells #[.int .i64 rc, .string rt, .int .i64 rn, .slice B44 m44 e44] 49); replace M3 := M3.al (.cells #[.int .i64 rc, .string rt, .int .i64 rn, .slice B44 m44 e44] 49); replace C3 := C3.al (.cells #[.int .i64 rc, .string rt, .int .i64 rn, .slice B44 m44 e44] 49)
          replace M4 := M4.al (.cells #[.int .i64 0, .string { data := #[] }, .int .i64 ((qn : Int) + 1), .slice none 0 0] 49); replace L4 := L4.al (.cells #[.int .i64 0, .string { data := #[] }, .int .i64 ((qn : Int) + 1), .slice none 0 0] 49); replace D4 := D4.al (.cells #[.int .i64 0, .string { data := #[] }, .int .i64 ((qn : Int) + 1), .slice none 0 0] 49); replace R4 := R4.al (.cells #[.int .i64 0, .string { data := #[] }, .int .i64 ((qn : Int) + 1), .slice none 0 0] 49); replace V3 := V3.al (.cells #[.int .i64 0, .string { data := #[] }, .int .i64 ((qn : Int) + 1), .slice none 0 0] 49); replace M3 := M3.al (.cells #[.int .i64 0, .string { data := #[] }, .int .i64 ((qn : Int) + 1), .slice none 0 0] 49); replace C3 := C3.al (.cells #[.int .i64 0, .string { data := #[] }, .int .i64 ((qn : Int) + 1), .slice none 0 0] 49)
          have K5 : Blk (((w4.alloc (.cells #[.int .i64 dk, .string dt, .int .i64 dc, .slice B14 m14 e14, .slice B24 m24 e24, .slice B34 m34 e34] 40)).alloc (.cells #[.int .i64 rc, .string rt, .int .i64 rn, .slice B44 m44 e44] 49)).alloc (.cells #[.int .i64 0, .string { data := #[] }, .int .i64 ((qn : Int) + 1), .slice none 0 0] 49)) (w4.heap.size + 1 + 1) 49 #[.int .i64 0, .string { data := #[] }, .int .i64 ((qn : Int) + 1), .slice none 0 0] := Blk.new' _ _ _ (by simp)
          have bx : Below w4.heap.size w4 (((w4.alloc (.cells #[.int .i64 dk, .string dt, .int .i64 dc, .slice B14 m14 e14, .slice B24 m24 e24, .slice B34 m34 e34] 40)).alloc (.cells #[.int .i64 rc, .string rt, .int .i64 rn, .slice B44 m44 e44] 49)).alloc (.cells #[.int .i64 0, .string { data := #[] }, .int .i64 ((qn : Int) + 1), .slice none 0 0] 49)) := (by repeat (first | (with_reducible exact Below.refl _ _) | (with_reducible assumption) | (with_reducible refine Below.drew ?_) | (with_reducible refine bdrewN ?_ _) | (with_reducible refine balloc ?_ _) | ((with_reducible refine bset ?_ ?_ _); rotate_left; (focus first | exact Nat.le_refl _ | (simp; done) | (simp; omega) | omega)) | (with_reducible refine bstep ?_ (by with_reducible assumption)) | (with_reducible refine Below.trans ?_ (by with_reducible assumption))))
          have TT := And.intro (T4.1.bl bx) (And.intro (T4.2.1.bl bx) (T4.2.2.1.bl bx))
          have q9 : Below w.heap.size w (((w4.alloc (.cells #[.int .i64 dk, .string dt, .int .i64 dc, .slice B14 m14 e14, .slice B24 m24 e24, .slice B34 m34 e34] 40)).alloc (.cells #[.int .i64 rc, .string rt, .int .i64 rn, .slice B44 m44 e44] 49)).alloc (.cells #[.int .i64 0, .string { data := #[] }, .int .i64 ((qn : Int) + 1), .slice none 0 0] 49)) := (by repeat (first | (with_reducible exact Below.refl _ _) | (with_reducible assumption) | (with_reducible refine Below.drew ?_) | (with_reducible refine bdrewN ?_ _) | (with_reducible refine balloc ?_ _) | ((with_reducible refine bset ?_ ?_ _); rotate_left; (focus first | exact Nat.le_refl _ | (simp; done) | (simp; omega) | omega)) | (with_reducible refine bstep ?_ (by with_reducible assumption)) | (with_reducible refine Below.trans ?_ (by with_reducible assumption))))
          have hz9 := q9.size
          clear cV3 fV3 cC3 fC3 T4 bx
          have hr21 : qn ≤ 20 := by have := HROOM.out; omega
          have hs3 := HS3.out
          unfold listD at hs3
          rw [if_neg (by omega), if_pos rfl] at hs3
          simp only [Prod.mk.injEq, failR, toldR, textR, Re.mk.injEq, emp] at hs3
          obtain ⟨hit, hc_, ht_, hn_, hl_⟩ := hs3
          rw [hqn] at hn_
          subst hc_; subst ht_; subst hn_; subst hl_; subst hit
          clear HS3
          (try clear cD4 fD4); have cD4 := D4.cell; have fD4 := D4.frozen; (try clear cR4 fR4); have cR4 := R4.cell; have fR4 := R4.frozen; (try clear cC3 fC3); have cC3 := C3.cell; have fC3 := C3.frozen; (try clear cV3 fV3); have cV3 := V3.cell; have fV3 := V3.frozen
          have hzz : w.heap.size ≤ (((w4.alloc (.cells #[.int .i64 dk, .string dt, .int .i64 dc, .slice B14 m14 e14, .slice B24 m24 e24, .slice B34 m34 e34] 40)).alloc (.cells #[.int .i64 0, .string { data := #[] }, .int .i64 ((qn : Int) + 1), .slice B44 m44 e44] 49)).alloc (.cells #[.int .i64 0, .string { data := #[] }, .int .i64 ((qn : Int) + 1), .slice none 0 0] 49)).heap.size := hz9
          replace M4 := M4.al (.cells #[.string ct] 9); replace L4 := L4.al (.cells #[.string ct] 9); replace D4 := D4.al (.cells #[.string ct] 9); replace R4 := R4.al (.cells #[.string ct] 9); replace V3 := V3.al (.cells #[.string ct] 9); replace C3 := C3.al (.cells #[.string ct] 9); replace K5 := K5.al (.cells #[.string ct] 9)
          replace TT := And.intro (TT.1.bl ((Below.refl _ (((w4.alloc (.cells #[.int .i64 dk, .string dt, .int .i64 dc, .slice B14 m14 e14, .slice B24 m24 e24, .slice B34 m34 e34] 40)).alloc (.cells #[.int .i64 0, .string { data := #[] }, .int .i64 ((qn : Int) + 1), .slice B44 m44 e44] 49)).alloc (.cells #[.int .i64 0, .string { data := #[] }, .int .i64 ((qn : Int) + 1), .slice none 0 0] 49))).alloc (Nat.le_refl _) (.cells #[.string ct] 9))) (And.intro (TT.2.1.bl ((Below.refl _ (((w4.alloc (.cells #[.int .i64 dk, .string dt, .int .i64 dc, .slice B14 m14 e14, .slice B24 m24 e24, .slice B34 m34 e34] 40)).alloc (.cells #[.int .i64 0, .string { data := #[] }, .int .i64 ((qn : Int) + 1), .slice B44 m44 e44] 49)).alloc (.cells #[.int .i64 0, .string { data := #[] }, .int .i64 ((qn : Int) + 1), .slice none 0 0] 49))).alloc (Nat.le_refl _) (.cells #[.string ct] 9))) (TT.2.2.bl ((Below.refl _ (((w4.alloc (.cells #[.int .i64 dk, .string dt, .int .i64 dc, .slice B14 m14 e14, .slice B24 m24 e24, .slice B34 m34 e34] 40)).alloc (.cells #[.int .i64 0, .string { data := #[] }, .int .i64 ((qn : Int) + 1), .slice B44 m44 e44] 49)).alloc (.cells #[.int .i64 0, .string { data := #[] }, .int .i64 ((qn : Int) + 1), .slice none 0 0] 49))).alloc (Nat.le_refl _) (.cells #[.string ct] 9))))
          have M30 := M3.al (.cells #[.string ct] 9)
          have M31 := M3
          clear M3
          replace q9 : Below w.heap.size w ((((w4.alloc (.cells #[.int .i64 dk, .string dt, .int .i64 dc, .slice B14 m14 e14, .slice B24 m24 e24, .slice B34 m34 e34] 40)).alloc (.cells #[.int .i64 0, .string { data := #[] }, .int .i64 ((qn : Int) + 1), .slice B44 m44 e44] 49)).alloc (.cells #[.int .i64 0, .string { data := #[] }, .int .i64 ((qn : Int) + 1), .slice none 0 0] 49)).alloc (.cells #[.string ct] 9)) := (by repeat (first | (with_reducible exact Below.refl _ _) | (with_reducible assumption) | (with_reducible refine Below.drew ?_) | (with_reducible refine bdrewN ?_ _) | (with_reducible refine balloc ?_ _) | ((with_reducible refine bset ?_ ?_ _); rotate_left; (focus first | exact Nat.le_refl _ | (simp; done) | (simp; omega) | omega)) | (with_reducible refine bstep ?_ (by with_reducible assumption)) | (with_reducible refine Below.trans ?_ (by with_reducible assumption))))
          go_wp2_with (at_builtin; refine wpList_at_push rfl _ _ _ rfl Try.underlying37 text_info rfl (by rfl) M31 (H := w4.heap.size + 1 + 1 + 1) (by simp) (u := .string ct) (by rfl) rfl ?h637c ?hby7c ?hba7c ?hk7c)
          case h637c => unfold maxLen; omega
          case hby7c => omega
          case hba7c => exact hzz
          case hk7c =>
            intro A' c' w6 X6 hg6 hor
            have V3 := blk_push V3 M30 hg6; have D4 := blk_push D4 M30 hg6; have R4 := blk_push R4 M30 hg6; have K5 := blk_push K5 M30 hg6
            have L4 : Sl w6 1 B44 m44 e44 (strRows []) := by have h0 := L4.len; have h1 := L4.nc; exact ⟨h0, h1, L4.cm, L4.nil, fun h => by simp [strRows] at h, L4.row⟩
            have M4 := vsl_push M4 TT M30 HAP.out hg6
            have TT := tp_push TT M30 HAP.out hg6
            have q9 := below_push q9 M30 hg6 (Nat.le_refl _) (by have := q9.size; omega)
            have hsr : strRows is_ ++ [[.string ct]] = strRows (is_ ++ [ct]) := by simp [strRows]
            rw [hsr] at X6
            have hz9 := q9.size
            clear M30 hg6 hor M31 hsr
            clear cD4 fD4 cR4 fR4 cV3 fV3 cC3 fC3 C3
            (try clear cD4 fD4); have cD4 := D4.cell; have fD4 := D4.frozen; (try clear cR4 fR4); have cR4 := R4.cell; have fR4 := R4.frozen; (try clear cV3 fV3); have cV3 := V3.cell; have fV3 := V3.frozen; (try clear cK5 fK5); have cK5 := K5.cell; have fK5 := K5.frozen
            go_wp2_with fail
            refine (sameReply_eq ⟨0, { data := #[] }, (qn : Int) + 1, []⟩ ⟨0, { data := #[] }, (qn : Int) + 1, []⟩ _ _ _ _ _ _ _ L4 nil_sl rfl).mono ?_
            rintro e w7 ⟨rfl, hb7⟩
            have V7 := V3.below' hb7; have D7 := D4.below' hb7; have M7 := M4.bl hb7
            have T7 := And.intro (TT.1.bl hb7) (And.intro (TT.2.1.bl hb7) (TT.2.2.bl hb7))
            have X7 := X6.bl hb7
            have q7 := bstep q9 hb7
            have hz7 := q7.size
            have hv7 := V7.lt
            clear q9 hb7 V3 D4 M4 TT X6
            (try clear cD7 fD7); have cD7 := D7.cell; have fD7 := D7.frozen; (try clear cV7 fV7); have cV7 := V7.cell; have fV7 := V7.frozen
            go_wp2_with fail
            go_roundw
            case rel =>
              obtain ⟨V9, gr9, sz9⟩ := whole_value (Value.int .i64 dk) (Value.string dt) (Value.int .i64 dc) (Value.slice B14 m14 e14) (Value.slice B24 m24 e24) (Value.slice B34 m34 e34) V7
              exact ⟨i + 1, by omega, by omega, by go_num, _, _, _, _, _, _, _, _, _, _, _, _, _, _, _, _, _, _, rfl, V9, grown_vsl M7 T7 V7 gr9, ⟨grown_tp T7.1 V7 gr9, grown_tp T7.2.1 V7 gr9, grown_tp T7.2.2 V7 gr9⟩, HS4, X7.far' V7 gr9, below_grow q7 gr9 (by omega) (by omega)⟩
            case measure => simp [intOf]; omega
      · go_wp2_with fail
        generalize hW : wr.alloc (.cells #[.int .i64 7, .int .i64 8, .int .i64 7, .int .i64 8, .int .i64 9, .int .i64 10] 3) = W at *
        have qW : Below wr.heap.size wr W := by rw [← hW]; exact (Below.refl _ wr).alloc (Nat.le_refl _) _
        clear hW
        have V2 := V.bl qW; have N2 := N.bl qW; have M2 := M.bl qW
        have T2 := And.intro (T.1.bl qW) (And.intro (T.2.1.bl qW) (T.2.2.bl qW))
        have hrW : rb < W.heap.size := by have := qW.size; omega
        have g3' := (qW.cell (p := ⟨rb, ro + i * 5 + 3, none⟩) hrw).trans g3
        have g4' := (qW.cell (p := ⟨rb, ro + i * 5 + 4, none⟩) hrw).trans g4
        have q : Below w.heap.size w W := bstep hbr qW
        obtain ⟨cy, cf, ct, cn, hcts, hcc, hcall⟩ := list_cmd 8 xn xt (by omega) hdx.2.2.2.1 hdx.2.2.2.2
        have hstep := list_step HV.out hcc (by simp)
        have hroom := HV.out.room
        have hDo := fun w h => Do_mayN ⟨vk, vt, vc, ps, is_, ss⟩ ⟨8, cy, cf, ct, cn⟩ HV.out.may' A1 A2 A3 n1 c1 n2 c2 n3 c3 w h
        generalize doneVal ⟨vk, vt, vc, ps, is_, ss⟩ ⟨8, cy, cf, ct, cn⟩ = D at *
        obtain ⟨⟨dk, dt, dc, dps, dis, dss⟩, ⟨rc, rt, rn, rl⟩, de⟩ := D
        obtain ⟨s1, s2, s3⟩ := hstep
        simp only [cmdV, Int.reduceSub] at s1 s3 hcall hroom
        subst s1
        have HDO := hide hDo
        have HS4 := hide s2
        have HS3 := hide s3
        have HROOM := hide hroom
        clear hDo s2 s3 hroom hcc
        have HCALL := hide hcall
        clear hcall g0 g3 g4 cV fV
        have hsG : ∀ w', Below W.heap.size W w' → (w'.cell? ⟨rb, ro + i * 5 + 3, none⟩ = some (.int .i64 xn) ∧ w'.cell? ⟨rb, ro + i * 5 + 4, none⟩ = some (.string xt)) := fun w' q => ⟨(q.cell (p := ⟨rb, ro + i * 5 + 3, none⟩) hrW).trans g3', (q.cell (p := ⟨rb, ro + i * 5 + 4, none⟩) hrW).trans g4'⟩
        refine wp_region_x (l := []) (S := fun w' => (w'.cell? ⟨rb, ro + i * 5 + 3, none⟩ = some (.int .i64 xn) ∧ w'.cell? ⟨rb, ro + i * 5 + 4, none⟩ = some (.string xt))) (by kernel_rfl) (hsG _ (Below.refl _ W).drew) (fun hS => ?_)
        refine wpAnyX_take (i := 0) (v := ?xv0d) rfl (by kernel_rfl) (by kernel_rfl) (by kernel_rfl) (by kernel_rfl) (fun _ _ _ h => h) (Or.inl ⟨by rfl, ?xh0d⟩) (by assumption) ?xr0d; (case xh0d => (intro w hSw; (try dsimp only at hSw); go_simp; (try with_reducible rfl))); (try simp only [Act.put, List.setIfInBounds_toArray, List.set_cons_zero, List.set_cons_succ, List.getElem_toArray, List.getElem_cons_zero, List.getElem_cons_succ])
        refine wpAnyX_take (i := 1) (v := ?xv1d) rfl (by kernel_rfl) (by kernel_rfl) (by kernel_rfl) (by kernel_rfl) (fun _ _ _ h => h) (Or.inl ⟨by rfl, ?xh1d⟩) (by assumption) ?xr1d; (case xh1d => (intro w hSw; (try dsimp only at hSw); go_simp; (try with_reducible rfl))); (try simp only [Act.put, List.setIfInBounds_toArray, List.set_cons_zero, List.set_cons_succ, List.getElem_toArray, List.getElem_cons_zero, List.getElem_cons_succ])
        refine wpAnyX_take (i := 2) (v := ?xv2d) rfl (by kernel_rfl) (by kernel_rfl) (by kernel_rfl) (by kernel_rfl) (fun _ _ _ h => h) (Or.inl ⟨by rfl, ?xh2d⟩) (by assumption) ?xr2d; (case xh2d => (intro w hSw; (try dsimp only at hSw); go_simp; (try with_reducible rfl))); (try simp only [Act.put, List.setIfInBounds_toArray, List.set_cons_zero, List.set_cons_succ, List.getElem_toArray, List.getElem_cons_zero, List.getElem_cons_succ])
        refine wpAnyX_take (i := 3) (v := ?xv3d) rfl (by kernel_rfl) (by kernel_rfl) (by kernel_rfl) (by kernel_rfl) (fun _ _ _ h => h) (Or.inl ⟨by rfl, ?xh3d⟩) (by assumption) ?xr3d; (case xh3d => (intro w hSw; (try dsimp only at hSw); go_simp; (try with_reducible rfl))); (try simp only [Act.put, List.setIfInBounds_toArray, List.set_cons_zero, List.set_cons_succ, List.getElem_toArray, List.getElem_cons_zero, List.getElem_cons_succ])
        refine wpAnyX_take (i := 4) (v := ?xv4d) rfl (by kernel_rfl) (by kernel_rfl) (by kernel_rfl) (by kernel_rfl) (fun _ _ _ h => h) (Or.inl ⟨by rfl, ?xh4d⟩) (by assumption) ?xr4d; (case xh4d => (intro w hSw; (try dsimp only at hSw); go_simp; (try with_reducible rfl))); (try simp only [Act.put, List.setIfInBounds_toArray, List.set_cons_zero, List.set_cons_succ, List.getElem_toArray, List.getElem_cons_zero, List.getElem_cons_succ])
        refine wpAnyX_take (i := 5) (v := ?xv5d) rfl (by kernel_rfl) (by kernel_rfl) (by kernel_rfl) (by kernel_rfl) (fun _ _ _ h => h) (Or.inl ⟨by rfl, ?xh5d⟩) (by assumption) ?xr5d; (case xh5d => (intro w hSw; (try dsimp only at hSw); go_simp; (try with_reducible rfl))); (try simp only [Act.put, List.setIfInBounds_toArray, List.set_cons_zero, List.set_cons_succ, List.getElem_toArray, List.getElem_cons_zero, List.getElem_cons_succ])
        refine wpAnyX_take (i := 6) (v := ?xv6d) rfl (by kernel_rfl) (by kernel_rfl) (by kernel_rfl) (by kernel_rfl) (fun _ _ _ h => h) (Or.inl ⟨by rfl, ?xh6d⟩) (by assumption) ?xr6d; (case xh6d => (intro w hSw; (try dsimp only at hSw); go_simp; (try with_reducible rfl))); (try simp only [Act.put, List.setIfInBounds_toArray, List.set_cons_zero, List.set_cons_succ, List.getElem_toArray, List.getElem_cons_zero, List.getElem_cons_succ])
        refine wpAnyX_take (i := 7) (v := ?xv7d) rfl (by kernel_rfl) (by kernel_rfl) (by kernel_rfl) (by kernel_rfl) (fun _ _ _ h => h) (Or.inl ⟨by rfl, ?xh7d⟩) (by assumption) ?xr7d; (case xh7d => (intro w hSw; (try dsimp only at hSw); go_simp; (try with_reducible rfl))); (try simp only [Act.put, List.setIfInBounds_toArray, List.set_cons_zero, List.set_cons_succ, List.getElem_toArray, List.getElem_cons_zero, List.getElem_cons_succ])
        refine wpAnyX_take (i := 8) (v := ?xv8d) rfl (by kernel_rfl) (by kernel_rfl) (by kernel_rfl) (by kernel_rfl) (fun _ _ _ h => h) (Or.inl ⟨by rfl, ?xh8d⟩) (by assumption) ?xr8d; (case xh8d => (intro w hSw; (try dsimp only at hSw); go_simp; (try with_reducible rfl))); (try simp only [Act.put, List.setIfInBounds_toArray, List.set_cons_zero, List.set_cons_succ, List.getElem_toArray, List.getElem_cons_zero, List.getElem_cons_succ])
        refine wpAnyX_take (i := 9) (v := ?xv9d) rfl (by kernel_rfl) (by kernel_rfl) (by kernel_rfl) (by kernel_rfl) (fun _ _ _ h => h) (Or.inl ⟨by rfl, ?xh9d⟩) (by assumption) ?xr9d; (case xh9d => (intro w hSw; (try dsimp only at hSw); go_simp; (try with_reducible rfl))); (try simp only [Act.put, List.setIfInBounds_toArray, List.set_cons_zero, List.set_cons_succ, List.getElem_toArray, List.getElem_cons_zero, List.getElem_cons_succ])
        refine wpAnyX_take (i := 10) (v := ?xv10d) rfl (by kernel_rfl) (by kernel_rfl) (by kernel_rfl) (by kernel_rfl) (fun _ _ _ h => h) (Or.inl ⟨by rfl, ?xh10d⟩) (by assumption) ?xr10d; (case xh10d => (intro w hSw; (try dsimp only at hSw); go_simp; (try with_reducible rfl))); (try simp only [Act.put, List.setIfInBounds_toArray, List.set_cons_zero, List.set_cons_succ, List.getElem_toArray, List.getElem_cons_zero, List.getElem_cons_succ])
        refine wpAnyX_take (i := 11) (v := ?xv11d) rfl (by kernel_rfl) (by kernel_rfl) (by kernel_rfl) (by kernel_rfl) (fun _ _ _ h => h) (Or.inl ⟨by rfl, ?xh11d⟩) (by assumption) ?xr11d; (case xh11d => (intro w hSw; (try dsimp only at hSw); go_simp; (try with_reducible rfl))); (try simp only [Act.put, List.setIfInBounds_toArray, List.set_cons_zero, List.set_cons_succ, List.getElem_toArray, List.getElem_cons_zero, List.getElem_cons_succ])
        refine wpAnyX_take (i := 12) (v := ?xv12d) rfl (by kernel_rfl) (by kernel_rfl) (by kernel_rfl) (by kernel_rfl) (fun _ _ _ h => h) (Or.inl ⟨by rfl, ?xh12d⟩) (by assumption) ?xr12d; (case xh12d => (intro w hSw; (try dsimp only at hSw); go_simp; (try with_reducible rfl))); (try simp only [Act.put, List.setIfInBounds_toArray, List.set_cons_zero, List.set_cons_succ, List.getElem_toArray, List.getElem_cons_zero, List.getElem_cons_succ])
        have HSG := hide hsG
        clear hsG hS g3' g4'
        refine wpX_startA (n := 2 + left1 false) (listed := (fun b_ => #[true, true, true, true, true, true, true, true, true, true, true, true, true, false, b_, false]) false) (j := 14) (d := 7) (t := 46) (z := #[.int .i64 0, .string { data := #[] }, .string { data := #[] }, .string { data := #[] }, .int .i64 0]) ?al1d ?alnd ?alld (fun al1 => ?alrd); (case al1d => exact ⟨⟨_, rfl, rfl, rfl, fun a w => by simp [go_sem, execOp]⟩⟩); (case alnd => kernel_rfl); (case alld => kernel_rfl)
        refine' wpX_phaseA' (f := 1) (i := 13) (L := (fun b_ => #[true, true, true, true, true, true, true, true, true, true, true, true, true, false, b_, false])) (L' := (fun b_ => #[true, true, true, true, true, true, true, true, true, true, true, true, true, true, b_, false])) (base := W.heap.size) (G := (fun w' => Below W.heap.size W w')) (x := u7) al1 ?an13d ?al13d ?aa13d ?ar13d ?ai13d ?ag13d ?ae113d ?ae313d ?ap113d HSG.out (fun w' o q => q.alloc q.size o) (fun w' q => q.size) ?aw13d ?am13d; (case an13d => rfl); (case al13d => rfl); (case aa13d => rfl); (case ar13d => kernel_rfl); (case ai13d => rfl); (case ag13d => rfl); (case ae113d => rfl); (case ae313d => (intros; rfl)); (case ap113d => (intros; rfl))
        (case aw13d => exact (Below.refl _ W).drew)
        intro b_ x_ w5 hG_ hx_ K_ hK_; (try simp only [Act.put, List.setIfInBounds_toArray, List.set_cons_zero, List.set_cons_succ, List.getElem_toArray, List.getElem_cons_zero, List.getElem_cons_succ])
        go_wp2_with fail
        refine (HCALL.out _).mono ?_
        rintro e w6 ⟨rfl, hb6⟩
        go_wp2_with fail
        have q6 : Below W.heap.size W w6 := bstep hG_ hb6
        have hS6 := HSG.out _ q6
        refine hK_.out _ _ (Or.inr hS6) ?_
        clear hK_ K_ hG_
        refine' wpX_layA' (f := 1) (L := (fun b_ => #[true, true, true, true, true, true, true, true, true, true, true, true, true, true, b_, false])) (base := W.heap.size) (G := (fun w' => Below w6.heap.size w6 w')) (b := b_) (x := x_) al1 ?anLd ?alLd ?aaLd ?arLd ?ae1Ld ?ap1Ld (fun w' q => HSG.out w' (bstep q6 q)) (fun w' o q => q.alloc q.size o) (fun w' q => Nat.le_trans q6.size q.size) ?awLd (hx_.bl hb6) ?amLd; (case anLd => rfl); (case alLd => rfl); (case aaLd => rfl); (case arLd => kernel_rfl); (case ae1Ld => rfl); (case ap1Ld => (intros; rfl))
        (case awLd => exact Below.refl _ w6)
        clear hx_ x_ b_ hS6
        intro g7 w7 hb7 hg7 G7
        have q7 : Below W.heap.size W w7 := bstep q6 hb7
        clear al1
        (try clear cG7 fG7); have cG7 := G7.cell; have fG7 := G7.frozen
        refine wpAnyX_one (i := 15) (by kernel_rfl) rfl (by rfl) (fun K hK => ?_); (try simp only [List.getElem_toArray, List.getElem_cons_zero, List.getElem_cons_succ])
        go_wp2_with fail
        refine hK.out _ _ (Or.inr (HSG.out _ (below_set (below_set (below_set (below_set (below_set q7 hg7 0 _) hg7 1 _) hg7 2 _) hg7 3 _) hg7 4 _))) (fun hS => ?_)
        clear hK K hS cG7 fG7
        refine wpAnyX_done (by kernel_rfl) ?_ _
        have hgV := V2.lt
        have N7 := N2.bl q7
        have T7 := And.intro (T2.1.bl q7) (And.intro (T2.2.1.bl q7) (T2.2.2.bl q7))
        obtain ⟨C3, gr8⟩ := whole_command (Value.int .i64 8) (Value.string cy) (Value.string cf) (Value.string ct) (Value.int .i64 cn) G7
        have V3 := grown_blk (V2.below' q7) gr8 (by omega)
        have N3 := grown_vsl N7 T7 G7 gr8
        have M3 := (M2.bl q7).far' G7 gr8
        have q8 := below_grow (bstep q q7) gr8 (by have := q.size; have := q7.size; omega) (by have := q.size; omega)
        obtain ⟨w8, hw8⟩ : ∃ w8, w8 = (((((w7.setCell ⟨g7, 0, none⟩ (Value.int .i64 8)).setCell ⟨g7, 1, none⟩ (Value.string cy)).setCell ⟨g7, 2, none⟩ (Value.string cf)).setCell ⟨g7, 3, none⟩ (Value.string ct)).setCell ⟨g7, 4, none⟩ (Value.int .i64 cn)) := ⟨_, rfl⟩
        rw [← hw8] at C3 V3 N3 M3 q8 ⊢
        clear hw8 gr8 G7 N7 T7 V2 N2 M2 T2 hb7 q7 q6 hb6 V N M T hbr
        have hc8 := C3.lt
        have q : Below w.heap.size w w8 := q8
        have hql := M3.lt
        have hqn := M3.sl.len
        simp only [strRows, List.length_map] at hqn
        (try clear cV3 fV3); have cV3 := V3.cell; have fV3 := V3.frozen; (try clear cC3 fC3); have cC3 := C3.cell; have fC3 := C3.frozen
        by_cases h20 : qn = 20
        · subst h20
          go_wp2_with fail
          refine (HDO.out _ N3).mono ?_
          rintro e w4 ⟨B14, m14, e14, B24, m24, e24, B34, m34, e34, B44, m44, e44, rfl, M4, L4, T4, hb4, F4⟩
          replace V3 := V3.bl hb4; replace M3 := M3.bl hb4; replace C3 := C3.bl hb4
          replace q : Below w.heap.size w w4 := (by repeat (first | (with_reducible exact Below.refl _ _) | (with_reducible assumption) | (with_reducible refine Below.drew ?_) | (with_reducible refine bdrewN ?_ _) | (with_reducible refine balloc ?_ _) | ((with_reducible refine bset ?_ ?_ _); rotate_left; (focus first | exact Nat.le_refl _ | (simp; done) | (simp; omega) | omega)) | (with_reducible refine bstep ?_ (by with_reducible assumption)) | (with_reducible refine Below.trans ?_ (by with_reducible assumption))))
          have hap : Apart Q B24 := fun a b ha hb => by have := hql a ha; have := F4 b hb; omega
          have HAP := hide hap
          clear hb4 hap F4 hql
          have D4 := Blk.new w4 40 #[.int .i64 dk, .string dt, .int .i64 dc, .slice B14 m14 e14, .slice B24 m24 e24, .slice B34 m34 e34]; replace M4 := M4.al (.cells #[.int .i64 dk, .string dt, .int .i64 dc, .slice B14 m14 e14, .slice B24 m24 e24, .slice B34 m34 e34] 40); replace L4 := L4.al (.cells #[.int .i64 dk, .string dt, .int .i64 dc, .slice B14 m14 e14, .slice B24 m24 e24, .slice B34 m34 e34] 40); replace V3 := V3.al (.cells #[.int .i64 dk, .string dt, .int .i64 dc, .slice B14 m14 e14, .slice B24 m24 e24, .slice B34 m34 e34] 40); replace M3 := M3.al (.cells #[.int .i64 dk, .string dt, .int .i64 dc, .slice B14 m14 e14, .slice B24 m24 e24, .slice B34 m34 e34] 40); replace C3 := C3.al (.cells #[.int .i64 dk, .string dt, .int .i64 dc, .slice B14 m14 e14, .slice B24 m24 e24, .slice B34 m34 e34] 40); have R4 : Blk ((w4.alloc (.cells #[.int .i64 dk, .string dt, .int .i64 dc, .slice B14 m14 e14, .slice B24 m24 e24, .slice B34 m34 e34] 40)).alloc (.cells #[.int .i64 rc, .string rt, .int .i64 rn, .slice B44 m44 e44] 49)) (w4.heap.size + 1) 49 #[.int .i64 rc, .string rt, .int .i64 rn, .slice B44 m44 e44] := Blk.new' _ _ _ (by simp); replace M4 := M4.al (.cells #[.int .i64 rc, .string rt, .int .i64 rn, .slice B44 m44 e44] 49); replace L4 := L4.al (.cells #[.int .i64 rc, .string rt, .int .i64 rn, .slice B44 m44 e44] 49); replace D4 := D4.al (.cells #[.int .i64 rc, .string rt, .int .i64 rn, .slice B44 m44 e44] 49); replace V3 := V3.al (.cells #[.int .i64 rc, .string rt, .int .i64 rn, .slice B44 m44 e44] 49); replace M3 := M3.al (.cells #[.int .i64 rc, .string rt, .int .i64 rn, .slice B44 m44 e44] 49); replace C3 := C3.al (.cells #[.int .i64 rc, .string rt, .int .i64 rn, .slice B44 m44 e44] 49)
          replace M4 := M4.al (.cells #[.int .i64 6, .string { data := #[] }, .int .i64 0, .slice none 0 0] 49); replace L4 := L4.al (.cells #[.int .i64 6, .string { data := #[] }, .int .i64 0, .slice none 0 0] 49); replace D4 := D4.al (.cells #[.int .i64 6, .string { data := #[] }, .int .i64 0, .slice none 0 0] 49); replace R4 := R4.al (.cells #[.int .i64 6, .string { data := #[] }, .int .i64 0, .slice none 0 0] 49); replace V3 := V3.al (.cells #[.int .i64 6, .string { data := #[] }, .int .i64 0, .slice none 0 0] 49); replace M3 := M3.al (.cells #[.int .i64 6, .string { data := #[] }, .int .i64 0, .slice none 0 0] 49); replace C3 := C3.al (.cells #[.int .i64 6, .string { data := #[] }, .int .i64 0, .slice none 0 0] 49)
          have K5 : Blk (((w4.alloc (.cells #[.int .i64 dk, .string dt, .int .i64 dc, .slice B14 m14 e14, .slice B24 m24 e24, .slice B34 m34 e34] 40)).alloc (.cells #[.int .i64 rc, .string rt, .int .i64 rn, .slice B44 m44 e44] 49)).alloc (.cells #[.int .i64 6, .string { data := #[] }, .int .i64 0, .slice none 0 0] 49)) (w4.heap.size + 1 + 1) 49 #[.int .i64 6, .string { data := #[] }, .int .i64 0, .slice none 0 0] := Blk.new' _ _ _ (by simp)
          have bx : Below w4.heap.size w4 (((w4.alloc (.cells #[.int .i64 dk, .string dt, .int .i64 dc, .slice B14 m14 e14, .slice B24 m24 e24, .slice B34 m34 e34] 40)).alloc (.cells #[.int .i64 rc, .string rt, .int .i64 rn, .slice B44 m44 e44] 49)).alloc (.cells #[.int .i64 6, .string { data := #[] }, .int .i64 0, .slice none 0 0] 49)) := (by repeat (first | (with_reducible exact Below.refl _ _) | (with_reducible assumption) | (with_reducible refine Below.drew ?_) | (with_reducible refine bdrewN ?_ _) | (with_reducible refine balloc ?_ _) | ((with_reducible refine bset ?_ ?_ _); rotate_left; (focus first | exact Nat.le_refl _ | (simp; done) | (simp; omega) | omega)) | (with_reducible refine bstep ?_ (by with_reducible assumption)) | (with_reducible refine Below.trans ?_ (by with_reducible assumption))))
          have TT := And.intro (T4.1.bl bx) (And.intro (T4.2.1.bl bx) (T4.2.2.1.bl bx))
          have q9 : Below w.heap.size w (((w4.alloc (.cells #[.int .i64 dk, .string dt, .int .i64 dc, .slice B14 m14 e14, .slice B24 m24 e24, .slice B34 m34 e34] 40)).alloc (.cells #[.int .i64 rc, .string rt, .int .i64 rn, .slice B44 m44 e44] 49)).alloc (.cells #[.int .i64 6, .string { data := #[] }, .int .i64 0, .slice none 0 0] 49)) := (by repeat (first | (with_reducible exact Below.refl _ _) | (with_reducible assumption) | (with_reducible refine Below.drew ?_) | (with_reducible refine bdrewN ?_ _) | (with_reducible refine balloc ?_ _) | ((with_reducible refine bset ?_ ?_ _); rotate_left; (focus first | exact Nat.le_refl _ | (simp; done) | (simp; omega) | omega)) | (with_reducible refine bstep ?_ (by with_reducible assumption)) | (with_reducible refine Below.trans ?_ (by with_reducible assumption))))
          have hz9 := q9.size
          clear cV3 fV3 cC3 fC3 T4 bx
          have hs3 := HS3.out
          unfold listD at hs3
          rw [if_pos ⟨by omega, by omega⟩] at hs3
          simp only [Prod.mk.injEq, failR, toldR, textR, Re.mk.injEq, emp] at hs3
          obtain ⟨hit, hc_, ht_, hn_, hl_⟩ := hs3
          subst hc_; subst ht_; subst hn_; subst hl_; subst hit
          clear HS3
          (try clear cD4 fD4); have cD4 := D4.cell; have fD4 := D4.frozen; (try clear cR4 fR4); have cR4 := R4.cell; have fR4 := R4.frozen; (try clear cC3 fC3); have cC3 := C3.cell; have fC3 := C3.frozen; (try clear cV3 fV3); have cV3 := V3.cell; have fV3 := V3.frozen
          go_wp2_with fail
          refine (sameReply_eq ⟨6, { data := #[] }, 0, []⟩ ⟨6, { data := #[] }, 0, []⟩ _ _ _ _ _ _ _ L4 nil_sl rfl).mono ?_
          rintro e w7 ⟨rfl, hb7⟩
          have V7 := V3.below' hb7; have D7 := D4.below' hb7; have M7 := M4.bl hb7
          have T7 := And.intro (TT.1.bl hb7) (And.intro (TT.2.1.bl hb7) (TT.2.2.bl hb7))
          have X7 := M3.bl hb7
          have q7 := bstep q9 hb7
          have hz7 := q7.size
          have hv7 := V7.lt
          clear q9 hb7 V3 D4 M4 TT M3
          (try clear cD7 fD7); have cD7 := D7.cell; have fD7 := D7.frozen; (try clear cV7 fV7); have cV7 := V7.cell; have fV7 := V7.frozen
          go_wp2_with fail
          go_roundw
          case rel =>
            obtain ⟨V9, gr9, sz9⟩ := whole_value (Value.int .i64 dk) (Value.string dt) (Value.int .i64 dc) (Value.slice B14 m14 e14) (Value.slice B24 m24 e24) (Value.slice B34 m34 e34) V7
            exact ⟨i + 1, by omega, by omega, by go_num, _, _, _, _, _, _, _, _, _, _, _, _, _, _, _, _, _, _, rfl, V9, grown_vsl M7 T7 V7 gr9, ⟨grown_tp T7.1 V7 gr9, grown_tp T7.2.1 V7 gr9, grown_tp T7.2.2 V7 gr9⟩, HS4, X7.far' V7 gr9, below_grow q7 gr9 (by omega) (by omega)⟩
          case measure => simp [intOf]; omega
        · have hwn : IntKind.i64.wrap ((qn : Int) + 1) = (qn : Int) + 1 := IntWalk.i64_in _ (by have := HROOM.out; omega)
          have hq20 : ((qn : Int) == 20) = false := by rw [beq_eq_false_iff_ne]; omega
          go_wp2_with fail
          refine (HDO.out _ N3).mono ?_
          rintro e w4 ⟨B14, m14, e14, B24, m24, e24, B34, m34, e34, B44, m44, e44, rfl, M4, L4, T4, hb4, F4⟩
          replace V3 := V3.bl hb4; replace M3 := M3.bl hb4; replace C3 := C3.bl hb4
          replace q : Below w.heap.size w w4 := (by repeat (first | (with_reducible exact Below.refl _ _) | (with_reducible assumption) | (with_reducible refine Below.drew ?_) | (with_reducible refine bdrewN ?_ _) | (with_reducible refine balloc ?_ _) | ((with_reducible refine bset ?_ ?_ _); rotate_left; (focus first | exact Nat.le_refl _ | (simp; done) | (simp; omega) | omega)) | (with_reducible refine bstep ?_ (by with_reducible assumption)) | (with_reducible refine Below.trans ?_ (by with_reducible assumption))))
          have hap : Apart Q B24 := fun a b ha hb => by have := hql a ha; have := F4 b hb; omega
          have HAP := hide hap
          clear hb4 hap F4 hql
          have D4 := Blk.new w4 40 #[.int .i64 dk, .string dt, .int .i64 dc, .slice B14 m14 e14, .slice B24 m24 e24, .slice B34 m34 e34]; replace M4 := M4.al (.cells #[.int .i64 dk, .string dt, .int .i64 dc, .slice B14 m14 e14, .slice B24 m24 e24, .slice B34 m34 e34] 40); replace L4 := L4.al (.cells #[.int .i64 dk, .string dt, .int .i64 dc, .slice B14 m14 e14, .slice B24 m24 e24, .slice B34 m34 e34] 40); replace V3 := V3.al (.cells #[.int .i64 dk, .string dt, .int .i64 dc, .slice B14 m14 e14, .slice B24 m24 e24, .slice B34 m34 e34] 40); replace M3 := M3.al (.cells #[.int .i64 dk, .string dt, .int .i64 dc, .slice B14 m14 e14, .slice B24 m24 e24, .slice B34 m34 e34] 40); replace C3 := C3.al (.cells #[.int .i64 dk, .string dt, .int .i64 dc, .slice B14 m14 e14, .slice B24 m24 e24, .slice B34 m34 e34] 40); have R4 : Blk ((w4.alloc (.cells #[.int .i64 dk, .string dt, .int .i64 dc, .slice B14 m14 e14, .slice B24 m24 e24, .slice B34 m34 e34] 40)).alloc (.cells #[.int .i64 rc, .string rt, .int .i64 rn, .slice B44 m44 e44] 49)) (w4.heap.size + 1) 49 #[.int .i64 rc, .string rt, .int .i64 rn, .slice B44 m44 e44] := Blk.new' _ _ _ (by simp); replace M4 := M4.al (.cells #[.int .i64 rc, .string rt, .int .i64 rn, .slice B44 m44 e44] 49); replace L4 := L4.al (.cells #[.int .i64 rc, .string rt, .int .i64 rn, .slice B44 m44 e44] 49); replace D4 := D4.al (.cells #[.int .i64 rc, .string rt, .int .i64 rn, .slice B44 m44 e44] 49); replace V3 := V3.al (.cells #[.int .i64 rc, .string rt, .int .i64 rn, .slice B44 m44 e44] 49); replace M3 := M3.al (.cells #[.int .i64 rc, .string rt, .int .i64 rn, .slice B44 m44 e44] 49); replace C3 := C3.al (.cells #[.int .i64 rc, .string rt, .int .i64 rn, .slice B44 m44 e44] 49)
          replace M4 := M4.al (.cells #[.int .i64 0, .string { data := #[] }, .int .i64 ((qn : Int) + 1), .slice none 0 0] 49); replace L4 := L4.al (.cells #[.int .i64 0, .string { data := #[] }, .int .i64 ((qn : Int) + 1), .slice none 0 0] 49); replace D4 := D4.al (.cells #[.int .i64 0, .string { data := #[] }, .int .i64 ((qn : Int) + 1), .slice none 0 0] 49); replace R4 := R4.al (.cells #[.int .i64 0, .string { data := #[] }, .int .i64 ((qn : Int) + 1), .slice none 0 0] 49); replace V3 := V3.al (.cells #[.int .i64 0, .string { data := #[] }, .int .i64 ((qn : Int) + 1), .slice none 0 0] 49); replace M3 := M3.al (.cells #[.int .i64 0, .string { data := #[] }, .int .i64 ((qn : Int) + 1), .slice none 0 0] 49); replace C3 := C3.al (.cells #[.int .i64 0, .string { data := #[] }, .int .i64 ((qn : Int) + 1), .slice none 0 0] 49)
          have K5 : Blk (((w4.alloc (.cells #[.int .i64 dk, .string dt, .int .i64 dc, .slice B14 m14 e14, .slice B24 m24 e24, .slice B34 m34 e34] 40)).alloc (.cells #[.int .i64 rc, .string rt, .int .i64 rn, .slice B44 m44 e44] 49)).alloc (.cells #[.int .i64 0, .string { data := #[] }, .int .i64 ((qn : Int) + 1), .slice none 0 0] 49)) (w4.heap.size + 1 + 1) 49 #[.int .i64 0, .string { data := #[] }, .int .i64 ((qn : Int) + 1), .slice none 0 0] := Blk.new' _ _ _ (by simp)
          have bx : Below w4.heap.size w4 (((w4.alloc (.cells #[.int .i64 dk, .string dt, .int .i64 dc, .slice B14 m14 e14, .slice B24 m24 e24, .slice B34 m34 e34] 40)).alloc (.cells #[.int .i64 rc, .string rt, .int .i64 rn, .slice B44 m44 e44] 49)).alloc (.cells #[.int .i64 0, .string { data := #[] }, .int .i64 ((qn : Int) + 1), .slice none 0 0] 49)) := (by repeat (first | (with_reducible exact Below.refl _ _) | (with_reducible assumption) | (with_reducible refine Below.drew ?_) | (with_reducible refine bdrewN ?_ _) | (with_reducible refine balloc ?_ _) | ((with_reducible refine bset ?_ ?_ _); rotate_left; (focus first | exact Nat.le_refl _ | (simp; done) | (simp; omega) | omega)) | (with_reducible refine bstep ?_ (by with_reducible assumption)) | (with_reducible refine Below.trans ?_ (by with_reducible assumption))))
          have TT := And.intro (T4.1.bl bx) (And.intro (T4.2.1.bl bx) (T4.2.2.1.bl bx))
          have q9 : Below w.heap.size w (((w4.alloc (.cells #[.int .i64 dk, .string dt, .int .i64 dc, .slice B14 m14 e14, .slice B24 m24 e24, .slice B34 m34 e34] 40)).alloc (.cells #[.int .i64 rc, .string rt, .int .i64 rn, .slice B44 m44 e44] 49)).alloc (.cells #[.int .i64 0, .string { data := #[] }, .int .i64 ((qn : Int) + 1), .slice none 0 0] 49)) := (by repeat (first | (with_reducible exact Below.refl _ _) | (with_reducible assumption) | (with_reducible refine Below.drew ?_) | (with_reducible refine bdrewN ?_ _) | (with_reducible refine balloc ?_ _) | ((with_reducible refine bset ?_ ?_ _); rotate_left; (focus first | exact Nat.le_refl _ | (simp; done) | (simp; omega) | omega)) | (with_reducible refine bstep ?_ (by with_reducible assumption)) | (with_reducible refine Below.trans ?_ (by with_reducible assumption))))
          have hz9 := q9.size
          clear cV3 fV3 cC3 fC3 T4 bx
          have hr21 : qn ≤ 20 := by have := HROOM.out; omega
          have hs3 := HS3.out
          unfold listD at hs3
          rw [if_neg (by omega), if_neg (by omega), if_pos rfl] at hs3
          simp only [Prod.mk.injEq, failR, toldR, textR, Re.mk.injEq, emp] at hs3
          obtain ⟨hit, hc_, ht_, hn_, hl_⟩ := hs3
          rw [hqn] at hn_
          subst hc_; subst ht_; subst hn_; subst hl_; subst hit
          clear HS3
          (try clear cD4 fD4); have cD4 := D4.cell; have fD4 := D4.frozen; (try clear cR4 fR4); have cR4 := R4.cell; have fR4 := R4.frozen; (try clear cC3 fC3); have cC3 := C3.cell; have fC3 := C3.frozen; (try clear cV3 fV3); have cV3 := V3.cell; have fV3 := V3.frozen
          go_wp2_with (at_builtin; refine wpList_pushes rfl _ _ _ rfl Try.underlying37 text_info rfl (by decide) (base := (((w4.alloc (.cells #[.int .i64 dk, .string dt, .int .i64 dc, .slice B14 m14 e14, .slice B24 m24 e24, .slice B34 m34 e34] 40)).alloc (.cells #[.int .i64 0, .string { data := #[] }, .int .i64 ((qn : Int) + 1), .slice B44 m44 e44] 49)).alloc (.cells #[.int .i64 0, .string { data := #[] }, .int .i64 ((qn : Int) + 1), .slice none 0 0] 49)).heap.size) (rows := [[.string ct]]) rfl ?ho8d rfl ?hs8d (str_one is_) ?h638d ?hby8d ?hba8d ?hk8d)
          case ho8d => exact Own.of_blk (rows := [[.string ct]]) (Blk.new' _ _ _ (by simp)) (by simp) (by simp) (by intro r hr; rw [List.mem_singleton] at hr; subst hr; rfl) (by simp [maxLen])
          case hs8d => exact (M3.al _).sl
          case h638d => simp [maxLen]; omega
          case hby8d => simp; omega
          case hba8d => simp
          case hk8d =>
            intro A' n' c' w6 hown hb6
            have bz : Below (((w4.alloc (.cells #[.int .i64 dk, .string dt, .int .i64 dc, .slice B14 m14 e14, .slice B24 m24 e24, .slice B34 m34 e34] 40)).alloc (.cells #[.int .i64 0, .string { data := #[] }, .int .i64 ((qn : Int) + 1), .slice B44 m44 e44] 49)).alloc (.cells #[.int .i64 0, .string { data := #[] }, .int .i64 ((qn : Int) + 1), .slice none 0 0] 49)).heap.size (((w4.alloc (.cells #[.int .i64 dk, .string dt, .int .i64 dc, .slice B14 m14 e14, .slice B24 m24 e24, .slice B34 m34 e34] 40)).alloc (.cells #[.int .i64 0, .string { data := #[] }, .int .i64 ((qn : Int) + 1), .slice B44 m44 e44] 49)).alloc (.cells #[.int .i64 0, .string { data := #[] }, .int .i64 ((qn : Int) + 1), .slice none 0 0] 49)) w6 := by
              have h0 : Below (w4.heap.size + 1 + 1 + 1) (((w4.alloc (.cells #[.int .i64 dk, .string dt, .int .i64 dc, .slice B14 m14 e14, .slice B24 m24 e24, .slice B34 m34 e34] 40)).alloc (.cells #[.int .i64 0, .string { data := #[] }, .int .i64 ((qn : Int) + 1), .slice B44 m44 e44] 49)).alloc (.cells #[.int .i64 0, .string { data := #[] }, .int .i64 ((qn : Int) + 1), .slice none 0 0] 49)) ((((w4.alloc (.cells #[.int .i64 dk, .string dt, .int .i64 dc, .slice B14 m14 e14, .slice B24 m24 e24, .slice B34 m34 e34] 40)).alloc (.cells #[.int .i64 0, .string { data := #[] }, .int .i64 ((qn : Int) + 1), .slice B44 m44 e44] 49)).alloc (.cells #[.int .i64 0, .string { data := #[] }, .int .i64 ((qn : Int) + 1), .slice none 0 0] 49)).alloc (.cells #[.string ct] 9)) := (Below.refl _ _).alloc (by simp) _
              have h1 := h0.trans hb6
              simpa using h1
            have hn' := hown.sl'.len
            simp [strRows] at hn'
            have hn2 : n' = qn + 1 := by omega
            subst hn2
            have X6 := (At.own hown).mono (base' := w.heap.size) (by have := q9.size; simp at this; omega)
            have hsr : [Value.string ct] :: strRows is_ = strRows (ct :: is_) := by simp [strRows]
            rw [hsr] at X6
            replace V3 := V3.bl bz; replace D4 := D4.bl bz; replace R4 := R4.bl bz; replace M4 := M4.bl bz; replace L4 := L4.bl bz; replace K5 := K5.bl bz
            replace TT := And.intro (TT.1.bl bz) (And.intro (TT.2.1.bl bz) (TT.2.2.bl bz))
            replace q9 := bstep q9 bz
            replace hz9 := q9.size
            clear hown hb6 bz hsr M3 hn'
            clear cD4 fD4 cR4 fR4 cV3 fV3 cC3 fC3 C3
            (try clear cD4 fD4); have cD4 := D4.cell; have fD4 := D4.frozen; (try clear cR4 fR4); have cR4 := R4.cell; have fR4 := R4.frozen; (try clear cV3 fV3); have cV3 := V3.cell; have fV3 := V3.frozen; (try clear cK5 fK5); have cK5 := K5.cell; have fK5 := K5.frozen
            go_wp2_with fail
            refine (sameReply_eq ⟨0, { data := #[] }, (qn : Int) + 1, []⟩ ⟨0, { data := #[] }, (qn : Int) + 1, []⟩ _ _ _ _ _ _ _ L4 nil_sl rfl).mono ?_
            rintro e w7 ⟨rfl, hb7⟩
            have V7 := V3.below' hb7; have D7 := D4.below' hb7; have M7 := M4.bl hb7
            have T7 := And.intro (TT.1.bl hb7) (And.intro (TT.2.1.bl hb7) (TT.2.2.bl hb7))
            have X7 := X6.bl hb7
            have q7 := bstep q9 hb7
            have hz7 := q7.size
            have hv7 := V7.lt
            clear q9 hb7 V3 D4 M4 TT X6
            (try clear cD7 fD7); have cD7 := D7.cell; have fD7 := D7.frozen; (try clear cV7 fV7); have cV7 := V7.cell; have fV7 := V7.frozen
            go_wp2_with fail
            go_roundw
            case rel =>
              obtain ⟨V9, gr9, sz9⟩ := whole_value (Value.int .i64 dk) (Value.string dt) (Value.int .i64 dc) (Value.slice B14 m14 e14) (Value.slice B24 m24 e24) (Value.slice B34 m34 e34) V7
              exact ⟨i + 1, by omega, by omega, by go_num, _, _, _, _, _, _, _, _, _, _, _, _, _, _, _, _, _, _, rfl, V9, grown_vsl M7 T7 V7 gr9, ⟨grown_tp T7.1 V7 gr9, grown_tp T7.2.1 V7 gr9, grown_tp T7.2.2 V7 gr9⟩, HS4, X7.far' V7 gr9, below_grow q7 gr9 (by omega) (by omega)⟩
            case measure => simp [intOf]; omega
      · go_wp2_with fail
        generalize hW : wr.alloc (.cells #[.int .i64 7, .int .i64 8, .int .i64 7, .int .i64 8, .int .i64 9, .int .i64 10] 3) = W at *
        have qW : Below wr.heap.size wr W := by rw [← hW]; exact (Below.refl _ wr).alloc (Nat.le_refl _) _
        clear hW
        have V2 := V.bl qW; have N2 := N.bl qW; have M2 := M.bl qW
        have T2 := And.intro (T.1.bl qW) (And.intro (T.2.1.bl qW) (T.2.2.bl qW))
        have hrW : rb < W.heap.size := by have := qW.size; omega
        have g3' := (qW.cell (p := ⟨rb, ro + i * 5 + 3, none⟩) hrw).trans g3
        have g4' := (qW.cell (p := ⟨rb, ro + i * 5 + 4, none⟩) hrw).trans g4
        have q : Below w.heap.size w W := bstep hbr qW
        obtain ⟨cy, cf, ct, cn, hcts, hcc, hcall⟩ := list_cmd 9 xn xt (by omega) hdx.2.2.2.1 hdx.2.2.2.2
        have hstep := list_step HV.out hcc (by simp)
        have hroom := HV.out.room
        have hDo := fun w h => Do_mayN ⟨vk, vt, vc, ps, is_, ss⟩ ⟨9, cy, cf, ct, cn⟩ HV.out.may' A1 A2 A3 n1 c1 n2 c2 n3 c3 w h
        generalize doneVal ⟨vk, vt, vc, ps, is_, ss⟩ ⟨9, cy, cf, ct, cn⟩ = D at *
        obtain ⟨⟨dk, dt, dc, dps, dis, dss⟩, ⟨rc, rt, rn, rl⟩, de⟩ := D
        obtain ⟨s1, s2, s3⟩ := hstep
        simp only [cmdV, Int.reduceSub] at s1 s3 hcall hroom
        subst s1
        have HDO := hide hDo
        have HS4 := hide s2
        have HS3 := hide s3
        have HROOM := hide hroom
        clear hDo s2 s3 hroom hcc
        have HCALL := hide hcall
        clear hcall g0 g3 g4 cV fV
        have hsG : ∀ w', Below W.heap.size W w' → (w'.cell? ⟨rb, ro + i * 5 + 3, none⟩ = some (.int .i64 xn) ∧ w'.cell? ⟨rb, ro + i * 5 + 4, none⟩ = some (.string xt)) := fun w' q => ⟨(q.cell (p := ⟨rb, ro + i * 5 + 3, none⟩) hrW).trans g3', (q.cell (p := ⟨rb, ro + i * 5 + 4, none⟩) hrW).trans g4'⟩
        refine wp_region_x (l := []) (S := fun w' => (w'.cell? ⟨rb, ro + i * 5 + 3, none⟩ = some (.int .i64 xn) ∧ w'.cell? ⟨rb, ro + i * 5 + 4, none⟩ = some (.string xt))) (by kernel_rfl) (hsG _ (Below.refl _ W).drew) (fun hS => ?_)
        refine wpAnyX_take (i := 0) (v := ?xv0e) rfl (by kernel_rfl) (by kernel_rfl) (by kernel_rfl) (by kernel_rfl) (fun _ _ _ h => h) (Or.inl ⟨by rfl, ?xh0e⟩) (by assumption) ?xr0e; (case xh0e => (intro w hSw; (try dsimp only at hSw); go_simp; (try with_reducible rfl))); (try simp only [Act.put, List.setIfInBounds_toArray, List.set_cons_zero, List.set_cons_succ, List.getElem_toArray, List.getElem_cons_zero, List.getElem_cons_succ])
        refine wpAnyX_take (i := 1) (v := ?xv1e) rfl (by kernel_rfl) (by kernel_rfl) (by kernel_rfl) (by kernel_rfl) (fun _ _ _ h => h) (Or.inl ⟨by rfl, ?xh1e⟩) (by assumption) ?xr1e; (case xh1e => (intro w hSw; (try dsimp only at hSw); go_simp; (try with_reducible rfl))); (try simp only [Act.put, List.setIfInBounds_toArray, List.set_cons_zero, List.set_cons_succ, List.getElem_toArray, List.getElem_cons_zero, List.getElem_cons_succ])
        refine wpAnyX_take (i := 2) (v := ?xv2e) rfl (by kernel_rfl) (by kernel_rfl) (by kernel_rfl) (by kernel_rfl) (fun _ _ _ h => h) (Or.inl ⟨by rfl, ?xh2e⟩) (by assumption) ?xr2e; (case xh2e => (intro w hSw; (try dsimp only at hSw); go_simp; (try with_reducible rfl))); (try simp only [Act.put, List.setIfInBounds_toArray, List.set_cons_zero, List.set_cons_succ, List.getElem_toArray, List.getElem_cons_zero, List.getElem_cons_succ])
        refine wpAnyX_take (i := 3) (v := ?xv3e) rfl (by kernel_rfl) (by kernel_rfl) (by kernel_rfl) (by kernel_rfl) (fun _ _ _ h => h) (Or.inl ⟨by rfl, ?xh3e⟩) (by assumption) ?xr3e; (case xh3e => (intro w hSw; (try dsimp only at hSw); go_simp; (try with_reducible rfl))); (try simp only [Act.put, List.setIfInBounds_toArray, List.set_cons_zero, List.set_cons_succ, List.getElem_toArray, List.getElem_cons_zero, List.getElem_cons_succ])
        refine wpAnyX_take (i := 4) (v := ?xv4e) rfl (by kernel_rfl) (by kernel_rfl) (by kernel_rfl) (by kernel_rfl) (fun _ _ _ h => h) (Or.inl ⟨by rfl, ?xh4e⟩) (by assumption) ?xr4e; (case xh4e => (intro w hSw; (try dsimp only at hSw); go_simp; (try with_reducible rfl))); (try simp only [Act.put, List.setIfInBounds_toArray, List.set_cons_zero, List.set_cons_succ, List.getElem_toArray, List.getElem_cons_zero, List.getElem_cons_succ])
        refine wpAnyX_take (i := 5) (v := ?xv5e) rfl (by kernel_rfl) (by kernel_rfl) (by kernel_rfl) (by kernel_rfl) (fun _ _ _ h => h) (Or.inl ⟨by rfl, ?xh5e⟩) (by assumption) ?xr5e; (case xh5e => (intro w hSw; (try dsimp only at hSw); go_simp; (try with_reducible rfl))); (try simp only [Act.put, List.setIfInBounds_toArray, List.set_cons_zero, List.set_cons_succ, List.getElem_toArray, List.getElem_cons_zero, List.getElem_cons_succ])
        refine wpAnyX_take (i := 6) (v := ?xv6e) rfl (by kernel_rfl) (by kernel_rfl) (by kernel_rfl) (by kernel_rfl) (fun _ _ _ h => h) (Or.inl ⟨by rfl, ?xh6e⟩) (by assumption) ?xr6e; (case xh6e => (intro w hSw; (try dsimp only at hSw); go_simp; (try with_reducible rfl))); (try simp only [Act.put, List.setIfInBounds_toArray, List.set_cons_zero, List.set_cons_succ, List.getElem_toArray, List.getElem_cons_zero, List.getElem_cons_succ])
        refine wpAnyX_take (i := 7) (v := ?xv7e) rfl (by kernel_rfl) (by kernel_rfl) (by kernel_rfl) (by kernel_rfl) (fun _ _ _ h => h) (Or.inl ⟨by rfl, ?xh7e⟩) (by assumption) ?xr7e; (case xh7e => (intro w hSw; (try dsimp only at hSw); go_simp; (try with_reducible rfl))); (try simp only [Act.put, List.setIfInBounds_toArray, List.set_cons_zero, List.set_cons_succ, List.getElem_toArray, List.getElem_cons_zero, List.getElem_cons_succ])
        refine wpAnyX_take (i := 8) (v := ?xv8e) rfl (by kernel_rfl) (by kernel_rfl) (by kernel_rfl) (by kernel_rfl) (fun _ _ _ h => h) (Or.inl ⟨by rfl, ?xh8e⟩) (by assumption) ?xr8e; (case xh8e => (intro w hSw; (try dsimp only at hSw); go_simp; (try with_reducible rfl))); (try simp only [Act.put, List.setIfInBounds_toArray, List.set_cons_zero, List.set_cons_succ, List.getElem_toArray, List.getElem_cons_zero, List.getElem_cons_succ])
        refine wpAnyX_take (i := 9) (v := ?xv9e) rfl (by kernel_rfl) (by kernel_rfl) (by kernel_rfl) (by kernel_rfl) (fun _ _ _ h => h) (Or.inl ⟨by rfl, ?xh9e⟩) (by assumption) ?xr9e; (case xh9e => (intro w hSw; (try dsimp only at hSw); go_simp; (try with_reducible rfl))); (try simp only [Act.put, List.setIfInBounds_toArray, List.set_cons_zero, List.set_cons_succ, List.getElem_toArray, List.getElem_cons_zero, List.getElem_cons_succ])
        refine wpAnyX_take (i := 10) (v := ?xv10e) rfl (by kernel_rfl) (by kernel_rfl) (by kernel_rfl) (by kernel_rfl) (fun _ _ _ h => h) (Or.inl ⟨by rfl, ?xh10e⟩) (by assumption) ?xr10e; (case xh10e => (intro w hSw; (try dsimp only at hSw); go_simp; (try with_reducible rfl))); (try simp only [Act.put, List.setIfInBounds_toArray, List.set_cons_zero, List.set_cons_succ, List.getElem_toArray, List.getElem_cons_zero, List.getElem_cons_succ])
        refine wpAnyX_take (i := 11) (v := ?xv11e) rfl (by kernel_rfl) (by kernel_rfl) (by kernel_rfl) (by kernel_rfl) (fun _ _ _ h => h) (Or.inl ⟨by rfl, ?xh11e⟩) (by assumption) ?xr11e; (case xh11e => (intro w hSw; (try dsimp only at hSw); go_simp; (try with_reducible rfl))); (try simp only [Act.put, List.setIfInBounds_toArray, List.set_cons_zero, List.set_cons_succ, List.getElem_toArray, List.getElem_cons_zero, List.getElem_cons_succ])
        refine wpAnyX_take (i := 12) (v := ?xv12e) rfl (by kernel_rfl) (by kernel_rfl) (by kernel_rfl) (by kernel_rfl) (fun _ _ _ h => h) (Or.inl ⟨by rfl, ?xh12e⟩) (by assumption) ?xr12e; (case xh12e => (intro w hSw; (try dsimp only at hSw); go_simp; (try with_reducible rfl))); (try simp only [Act.put, List.setIfInBounds_toArray, List.set_cons_zero, List.set_cons_succ, List.getElem_toArray, List.getElem_cons_zero, List.getElem_cons_succ])
        have HSG := hide hsG
        clear hsG hS g3' g4'
        refine wpX_startA (n := 2 + left1 false) (listed := (fun b_ => #[true, true, true, true, true, true, true, true, true, true, true, true, true, false, b_, false]) false) (j := 14) (d := 7) (t := 46) (z := #[.int .i64 0, .string { data := #[] }, .string { data := #[] }, .string { data := #[] }, .int .i64 0]) ?al1e ?alne ?alle (fun al1 => ?alre); (case al1e => exact ⟨⟨_, rfl, rfl, rfl, fun a w => by simp [go_sem, execOp]⟩⟩); (case alne => kernel_rfl); (case alle => kernel_rfl)
        refine' wpX_phaseA' (f := 1) (i := 13) (L := (fun b_ => #[true, true, true, true, true, true, true, true, true, true, true, true, true, false, b_, false])) (L' := (fun b_ => #[true, true, true, true, true, true, true, true, true, true, true, true, true, true, b_, false])) (base := W.heap.size) (G := (fun w' => Below W.heap.size W w')) (x := u7) al1 ?an13e ?al13e ?aa13e ?ar13e ?ai13e ?ag13e ?ae113e ?ae313e ?ap113e HSG.out (fun w' o q => q.alloc q.size o) (fun w' q => q.size) ?aw13e ?am13e; (case an13e => rfl); (case al13e => rfl); (case aa13e => rfl); (case ar13e => kernel_rfl); (case ai13e => rfl); (case ag13e => rfl); (case ae113e => rfl); (case ae313e => (intros; rfl)); (case ap113e => (intros; rfl))
        (case aw13e => exact (Below.refl _ W).drew)
        intro b_ x_ w5 hG_ hx_ K_ hK_; (try simp only [Act.put, List.setIfInBounds_toArray, List.set_cons_zero, List.set_cons_succ, List.getElem_toArray, List.getElem_cons_zero, List.getElem_cons_succ])
        go_wp2_with fail
        refine (HCALL.out _).mono ?_
        rintro e w6 ⟨rfl, hb6⟩
        go_wp2_with fail
        have q6 : Below W.heap.size W w6 := bstep hG_ hb6
        have hS6 := HSG.out _ q6
        refine hK_.out _ _ (Or.inr hS6) ?_
        clear hK_ K_ hG_
        refine' wpX_layA' (f := 1) (L := (fun b_ => #[true, true, true, true, true, true, true, true, true, true, true, true, true, true, b_, false])) (base := W.heap.size) (G := (fun w' => Below w6.heap.size w6 w')) (b := b_) (x := x_) al1 ?anLe ?alLe ?aaLe ?arLe ?ae1Le ?ap1Le (fun w' q => HSG.out w' (bstep q6 q)) (fun w' o q => q.alloc q.size o) (fun w' q => Nat.le_trans q6.size q.size) ?awLe (hx_.bl hb6) ?amLe; (case anLe => rfl); (case alLe => rfl); (case aaLe => rfl); (case arLe => kernel_rfl); (case ae1Le => rfl); (case ap1Le => (intros; rfl))
        (case awLe => exact Below.refl _ w6)
        clear hx_ x_ b_ hS6
        intro g7 w7 hb7 hg7 G7
        have q7 : Below W.heap.size W w7 := bstep q6 hb7
        clear al1
        (try clear cG7 fG7); have cG7 := G7.cell; have fG7 := G7.frozen
        refine wpAnyX_one (i := 15) (by kernel_rfl) rfl (by rfl) (fun K hK => ?_); (try simp only [List.getElem_toArray, List.getElem_cons_zero, List.getElem_cons_succ])
        go_wp2_with fail
        refine hK.out _ _ (Or.inr (HSG.out _ (below_set (below_set (below_set (below_set (below_set q7 hg7 0 _) hg7 1 _) hg7 2 _) hg7 3 _) hg7 4 _))) (fun hS => ?_)
        clear hK K hS cG7 fG7
        refine wpAnyX_done (by kernel_rfl) ?_ _
        have hgV := V2.lt
        have N7 := N2.bl q7
        have T7 := And.intro (T2.1.bl q7) (And.intro (T2.2.1.bl q7) (T2.2.2.bl q7))
        obtain ⟨C3, gr8⟩ := whole_command (Value.int .i64 9) (Value.string cy) (Value.string cf) (Value.string ct) (Value.int .i64 cn) G7
        have V3 := grown_blk (V2.below' q7) gr8 (by omega)
        have N3 := grown_vsl N7 T7 G7 gr8
        have M3 := (M2.bl q7).far' G7 gr8
        have q8 := below_grow (bstep q q7) gr8 (by have := q.size; have := q7.size; omega) (by have := q.size; omega)
        obtain ⟨w8, hw8⟩ : ∃ w8, w8 = (((((w7.setCell ⟨g7, 0, none⟩ (Value.int .i64 9)).setCell ⟨g7, 1, none⟩ (Value.string cy)).setCell ⟨g7, 2, none⟩ (Value.string cf)).setCell ⟨g7, 3, none⟩ (Value.string ct)).setCell ⟨g7, 4, none⟩ (Value.int .i64 cn)) := ⟨_, rfl⟩
        rw [← hw8] at C3 V3 N3 M3 q8 ⊢
        clear hw8 gr8 G7 N7 T7 V2 N2 M2 T2 hb7 q7 q6 hb6 V N M T hbr
        have hc8 := C3.lt
        have q : Below w.heap.size w w8 := q8
        have hql := M3.lt
        have hqn := M3.sl.len
        simp only [strRows, List.length_map] at hqn
        (try clear cV3 fV3); have cV3 := V3.cell; have fV3 := V3.frozen; (try clear cC3 fC3); have cC3 := C3.cell; have fC3 := C3.frozen
        by_cases h0 : qn = 0
        · subst h0
          go_wp2_with fail
          refine (HDO.out _ N3).mono ?_
          rintro e w4 ⟨B14, m14, e14, B24, m24, e24, B34, m34, e34, B44, m44, e44, rfl, M4, L4, T4, hb4, F4⟩
          replace V3 := V3.bl hb4; replace M3 := M3.bl hb4; replace C3 := C3.bl hb4
          replace q : Below w.heap.size w w4 := (by repeat (first | (with_reducible exact Below.refl _ _) | (with_reducible assumption) | (with_reducible refine Below.drew ?_) | (with_reducible refine bdrewN ?_ _) | (with_reducible refine balloc ?_ _) | ((with_reducible refine bset ?_ ?_ _); rotate_left; (focus first | exact Nat.le_refl _ | (simp; done) | (simp; omega) | omega)) | (with_reducible refine bstep ?_ (by with_reducible assumption)) | (with_reducible refine Below.trans ?_ (by with_reducible assumption))))
          have hap : Apart Q B24 := fun a b ha hb => by have := hql a ha; have := F4 b hb; omega
          have HAP := hide hap
          clear hb4 hap F4 hql
          have D4 := Blk.new w4 40 #[.int .i64 dk, .string dt, .int .i64 dc, .slice B14 m14 e14, .slice B24 m24 e24, .slice B34 m34 e34]; replace M4 := M4.al (.cells #[.int .i64 dk, .string dt, .int .i64 dc, .slice B14 m14 e14, .slice B24 m24 e24, .slice B34 m34 e34] 40); replace L4 := L4.al (.cells #[.int .i64 dk, .string dt, .int .i64 dc, .slice B14 m14 e14, .slice B24 m24 e24, .slice B34 m34 e34] 40); replace V3 := V3.al (.cells #[.int .i64 dk, .string dt, .int .i64 dc, .slice B14 m14 e14, .slice B24 m24 e24, .slice B34 m34 e34] 40); replace M3 := M3.al (.cells #[.int .i64 dk, .string dt, .int .i64 dc, .slice B14 m14 e14, .slice B24 m24 e24, .slice B34 m34 e34] 40); replace C3 := C3.al (.cells #[.int .i64 dk, .string dt, .int .i64 dc, .slice B14 m14 e14, .slice B24 m24 e24, .slice B34 m34 e34] 40); have R4 : Blk ((w4.alloc (.cells #[.int .i64 dk, .string dt, .int .i64 dc, .slice B14 m14 e14, .slice B24 m24 e24, .slice B34 m34 e34] 40)).alloc (.cells #[.int .i64 rc, .string rt, .int .i64 rn, .slice B44 m44 e44] 49)) (w4.heap.size + 1) 49 #[.int .i64 rc, .string rt, .int .i64 rn, .slice B44 m44 e44] := Blk.new' _ _ _ (by simp); replace M4 := M4.al (.cells #[.int .i64 rc, .string rt, .int .i64 rn, .slice B44 m44 e44] 49); replace L4 := L4.al (.cells #[.int .i64 rc, .string rt, .int .i64 rn, .slice B44 m44 e44] 49); replace D4 := D4.al (.cells #[.int .i64 rc, .string rt, .int .i64 rn, .slice B44 m44 e44] 49); replace V3 := V3.al (.cells #[.int .i64 rc, .string rt, .int .i64 rn, .slice B44 m44 e44] 49); replace M3 := M3.al (.cells #[.int .i64 rc, .string rt, .int .i64 rn, .slice B44 m44 e44] 49); replace C3 := C3.al (.cells #[.int .i64 rc, .string rt, .int .i64 rn, .slice B44 m44 e44] 49)
          replace M4 := M4.al (.cells #[.int .i64 5, .string { data := #[] }, .int .i64 0, .slice none 0 0] 49); replace L4 := L4.al (.cells #[.int .i64 5, .string { data := #[] }, .int .i64 0, .slice none 0 0] 49); replace D4 := D4.al (.cells #[.int .i64 5, .string { data := #[] }, .int .i64 0, .slice none 0 0] 49); replace R4 := R4.al (.cells #[.int .i64 5, .string { data := #[] }, .int .i64 0, .slice none 0 0] 49); replace V3 := V3.al (.cells #[.int .i64 5, .string { data := #[] }, .int .i64 0, .slice none 0 0] 49); replace M3 := M3.al (.cells #[.int .i64 5, .string { data := #[] }, .int .i64 0, .slice none 0 0] 49); replace C3 := C3.al (.cells #[.int .i64 5, .string { data := #[] }, .int .i64 0, .slice none 0 0] 49)
          have K5 : Blk (((w4.alloc (.cells #[.int .i64 dk, .string dt, .int .i64 dc, .slice B14 m14 e14, .slice B24 m24 e24, .slice B34 m34 e34] 40)).alloc (.cells #[.int .i64 rc, .string rt, .int .i64 rn, .slice B44 m44 e44] 49)).alloc (.cells #[.int .i64 5, .string { data := #[] }, .int .i64 0, .slice none 0 0] 49)) (w4.heap.size + 1 + 1) 49 #[.int .i64 5, .string { data := #[] }, .int .i64 0, .slice none 0 0] := Blk.new' _ _ _ (by simp)
          have bx : Below w4.heap.size w4 (((w4.alloc (.cells #[.int .i64 dk, .string dt, .int .i64 dc, .slice B14 m14 e14, .slice B24 m24 e24, .slice B34 m34 e34] 40)).alloc (.cells #[.int .i64 rc, .string rt, .int .i64 rn, .slice B44 m44 e44] 49)).alloc (.cells #[.int .i64 5, .string { data := #[] }, .int .i64 0, .slice none 0 0] 49)) := (by repeat (first | (with_reducible exact Below.refl _ _) | (with_reducible assumption) | (with_reducible refine Below.drew ?_) | (with_reducible refine bdrewN ?_ _) | (with_reducible refine balloc ?_ _) | ((with_reducible refine bset ?_ ?_ _); rotate_left; (focus first | exact Nat.le_refl _ | (simp; done) | (simp; omega) | omega)) | (with_reducible refine bstep ?_ (by with_reducible assumption)) | (with_reducible refine Below.trans ?_ (by with_reducible assumption))))
          have TT := And.intro (T4.1.bl bx) (And.intro (T4.2.1.bl bx) (T4.2.2.1.bl bx))
          have q9 : Below w.heap.size w (((w4.alloc (.cells #[.int .i64 dk, .string dt, .int .i64 dc, .slice B14 m14 e14, .slice B24 m24 e24, .slice B34 m34 e34] 40)).alloc (.cells #[.int .i64 rc, .string rt, .int .i64 rn, .slice B44 m44 e44] 49)).alloc (.cells #[.int .i64 5, .string { data := #[] }, .int .i64 0, .slice none 0 0] 49)) := (by repeat (first | (with_reducible exact Below.refl _ _) | (with_reducible assumption) | (with_reducible refine Below.drew ?_) | (with_reducible refine bdrewN ?_ _) | (with_reducible refine balloc ?_ _) | ((with_reducible refine bset ?_ ?_ _); rotate_left; (focus first | exact Nat.le_refl _ | (simp; done) | (simp; omega) | omega)) | (with_reducible refine bstep ?_ (by with_reducible assumption)) | (with_reducible refine Below.trans ?_ (by with_reducible assumption))))
          have hz9 := q9.size
          clear cV3 fV3 cC3 fC3 T4 bx
          have hnil : is_ = [] := List.eq_nil_of_length_eq_zero hqn
          subst hnil
          have hs3 := HS3.out
          unfold listD at hs3
          rw [if_neg (by simp), if_neg (by omega), if_neg (by omega), if_pos (show ([] : List ByteArray).length = 0 from rfl)] at hs3
          simp only [Prod.mk.injEq, failR, toldR, textR, Re.mk.injEq, emp] at hs3
          obtain ⟨hit, hc_, ht_, hn_, hl_⟩ := hs3
          subst hc_; subst ht_; subst hn_; subst hl_; subst hit
          clear HS3
          (try clear cD4 fD4); have cD4 := D4.cell; have fD4 := D4.frozen; (try clear cR4 fR4); have cR4 := R4.cell; have fR4 := R4.frozen; (try clear cC3 fC3); have cC3 := C3.cell; have fC3 := C3.frozen; (try clear cV3 fV3); have cV3 := V3.cell; have fV3 := V3.frozen
          go_wp2_with fail
          refine (sameReply_eq ⟨5, { data := #[] }, 0, []⟩ ⟨5, { data := #[] }, 0, []⟩ _ _ _ _ _ _ _ L4 nil_sl rfl).mono ?_
          rintro e w7 ⟨rfl, hb7⟩
          have V7 := V3.below' hb7; have D7 := D4.below' hb7; have M7 := M4.bl hb7
          have T7 := And.intro (TT.1.bl hb7) (And.intro (TT.2.1.bl hb7) (TT.2.2.bl hb7))
          have X7 := M3.bl hb7
          have q7 := bstep q9 hb7
          have hz7 := q7.size
          have hv7 := V7.lt
          clear q9 hb7 V3 D4 M4 TT M3
          (try clear cD7 fD7); have cD7 := D7.cell; have fD7 := D7.frozen; (try clear cV7 fV7); have cV7 := V7.cell; have fV7 := V7.frozen
          go_wp2_with fail
          go_roundw
          case rel =>
            obtain ⟨V9, gr9, sz9⟩ := whole_value (Value.int .i64 dk) (Value.string dt) (Value.int .i64 dc) (Value.slice B14 m14 e14) (Value.slice B24 m24 e24) (Value.slice B34 m34 e34) V7
            exact ⟨i + 1, by omega, by omega, by go_num, _, _, _, _, _, _, _, _, _, _, _, _, _, _, _, _, _, _, rfl, V9, grown_vsl M7 T7 V7 gr9, ⟨grown_tp T7.1 V7 gr9, grown_tp T7.2.1 V7 gr9, grown_tp T7.2.2 V7 gr9⟩, HS4, X7.far' V7 gr9, below_grow q7 gr9 (by omega) (by omega)⟩
          case measure => simp [intOf]; omega
        · obtain ⟨m, rfl⟩ : ∃ m, qn = m + 1 := ⟨qn - 1, by omega⟩
          have hwn : IntKind.i64.wrap ((m : Int) + 1 + 1) = (m : Int) + 1 + 1 := IntWalk.i64_in _ (by have := HROOM.out; omega)
          have hw1 : IntKind.i64.wrap ((m : Int) + 1 - 1) = (m : Int) := by rw [IntWalk.i64_in _ (by have := HROOM.out; omega)]; omega
          have hw2 : IntKind.i64.wrap (m : Int) = (m : Int) := IntWalk.i64_in _ (by have := HROOM.out; omega)
          have hz0 : (0 : Int) ≤ (m : Int) := by omega
          have hz1 : (m : Int) < (m : Int) + 1 := by omega
          have hz2 : (0 : Int) < (m : Int) + 1 := by omega
          have hz3 : ((m : Int) + 1 == 0) = false := by rw [beq_eq_false_iff_ne]; omega
          go_wp2_with fail
          refine (HDO.out _ N3).mono ?_
          rintro e w4 ⟨B14, m14, e14, B24, m24, e24, B34, m34, e34, B44, m44, e44, rfl, M4, L4, T4, hb4, F4⟩
          replace V3 := V3.bl hb4; replace M3 := M3.bl hb4; replace C3 := C3.bl hb4
          replace q : Below w.heap.size w w4 := (by repeat (first | (with_reducible exact Below.refl _ _) | (with_reducible assumption) | (with_reducible refine Below.drew ?_) | (with_reducible refine bdrewN ?_ _) | (with_reducible refine balloc ?_ _) | ((with_reducible refine bset ?_ ?_ _); rotate_left; (focus first | exact Nat.le_refl _ | (simp; done) | (simp; omega) | omega)) | (with_reducible refine bstep ?_ (by with_reducible assumption)) | (with_reducible refine Below.trans ?_ (by with_reducible assumption))))
          have hap : Apart Q B24 := fun a b ha hb => by have := hql a ha; have := F4 b hb; omega
          have HAP := hide hap
          clear hb4 hap F4 hql
          obtain ⟨b, o, hQ, hbb, i0⟩ := M3.sl.seg.str (i := m) (by omega)
          subst hQ
          have hbb1 : b < w4.heap.size + 1 := by omega
          have hbb2 : b < w4.heap.size + 1 + 1 := by omega
          have hx : is_[m]? = some (is_[m]'(by omega)) := List.getElem?_eq_getElem (by omega)
          generalize (is_[m]'(by omega)) = x at i0 hx
          have hct := run_take3 (P := Try.prog) Try.underlying37 text_sz (some ⟨b, o, none⟩) (m + 1) qc m m (Nat.le_refl _) (by have := M3.sl.nc; omega)
          have D4 := Blk.new w4 40 #[.int .i64 dk, .string dt, .int .i64 dc, .slice B14 m14 e14, .slice B24 m24 e24, .slice B34 m34 e34]; replace M4 := M4.al (.cells #[.int .i64 dk, .string dt, .int .i64 dc, .slice B14 m14 e14, .slice B24 m24 e24, .slice B34 m34 e34] 40); replace L4 := L4.al (.cells #[.int .i64 dk, .string dt, .int .i64 dc, .slice B14 m14 e14, .slice B24 m24 e24, .slice B34 m34 e34] 40); replace V3 := V3.al (.cells #[.int .i64 dk, .string dt, .int .i64 dc, .slice B14 m14 e14, .slice B24 m24 e24, .slice B34 m34 e34] 40); replace M3 := M3.al (.cells #[.int .i64 dk, .string dt, .int .i64 dc, .slice B14 m14 e14, .slice B24 m24 e24, .slice B34 m34 e34] 40); replace C3 := C3.al (.cells #[.int .i64 dk, .string dt, .int .i64 dc, .slice B14 m14 e14, .slice B24 m24 e24, .slice B34 m34 e34] 40); have R4 : Blk ((w4.alloc (.cells #[.int .i64 dk, .string dt, .int .i64 dc, .slice B14 m14 e14, .slice B24 m24 e24, .slice B34 m34 e34] 40)).alloc (.cells #[.int .i64 rc, .string rt, .int .i64 rn, .slice B44 m44 e44] 49)) (w4.heap.size + 1) 49 #[.int .i64 rc, .string rt, .int .i64 rn, .slice B44 m44 e44] := Blk.new' _ _ _ (by simp); replace M4 := M4.al (.cells #[.int .i64 rc, .string rt, .int .i64 rn, .slice B44 m44 e44] 49); replace L4 := L4.al (.cells #[.int .i64 rc, .string rt, .int .i64 rn, .slice B44 m44 e44] 49); replace D4 := D4.al (.cells #[.int .i64 rc, .string rt, .int .i64 rn, .slice B44 m44 e44] 49); replace V3 := V3.al (.cells #[.int .i64 rc, .string rt, .int .i64 rn, .slice B44 m44 e44] 49); replace M3 := M3.al (.cells #[.int .i64 rc, .string rt, .int .i64 rn, .slice B44 m44 e44] 49); replace C3 := C3.al (.cells #[.int .i64 rc, .string rt, .int .i64 rn, .slice B44 m44 e44] 49)
          replace M4 := M4.al (.cells #[.int .i64 0, .string x, .int .i64 0, .slice none 0 0] 49); replace L4 := L4.al (.cells #[.int .i64 0, .string x, .int .i64 0, .slice none 0 0] 49); replace D4 := D4.al (.cells #[.int .i64 0, .string x, .int .i64 0, .slice none 0 0] 49); replace R4 := R4.al (.cells #[.int .i64 0, .string x, .int .i64 0, .slice none 0 0] 49); replace V3 := V3.al (.cells #[.int .i64 0, .string x, .int .i64 0, .slice none 0 0] 49); replace M3 := M3.al (.cells #[.int .i64 0, .string x, .int .i64 0, .slice none 0 0] 49); replace C3 := C3.al (.cells #[.int .i64 0, .string x, .int .i64 0, .slice none 0 0] 49)
          have K5 : Blk (((w4.alloc (.cells #[.int .i64 dk, .string dt, .int .i64 dc, .slice B14 m14 e14, .slice B24 m24 e24, .slice B34 m34 e34] 40)).alloc (.cells #[.int .i64 rc, .string rt, .int .i64 rn, .slice B44 m44 e44] 49)).alloc (.cells #[.int .i64 0, .string x, .int .i64 0, .slice none 0 0] 49)) (w4.heap.size + 1 + 1) 49 #[.int .i64 0, .string x, .int .i64 0, .slice none 0 0] := Blk.new' _ _ _ (by simp)
          have bx : Below w4.heap.size w4 (((w4.alloc (.cells #[.int .i64 dk, .string dt, .int .i64 dc, .slice B14 m14 e14, .slice B24 m24 e24, .slice B34 m34 e34] 40)).alloc (.cells #[.int .i64 rc, .string rt, .int .i64 rn, .slice B44 m44 e44] 49)).alloc (.cells #[.int .i64 0, .string x, .int .i64 0, .slice none 0 0] 49)) := (by repeat (first | (with_reducible exact Below.refl _ _) | (with_reducible assumption) | (with_reducible refine Below.drew ?_) | (with_reducible refine bdrewN ?_ _) | (with_reducible refine balloc ?_ _) | ((with_reducible refine bset ?_ ?_ _); rotate_left; (focus first | exact Nat.le_refl _ | (simp; done) | (simp; omega) | omega)) | (with_reducible refine bstep ?_ (by with_reducible assumption)) | (with_reducible refine Below.trans ?_ (by with_reducible assumption))))
          have TT := And.intro (T4.1.bl bx) (And.intro (T4.2.1.bl bx) (T4.2.2.1.bl bx))
          have q9 : Below w.heap.size w (((w4.alloc (.cells #[.int .i64 dk, .string dt, .int .i64 dc, .slice B14 m14 e14, .slice B24 m24 e24, .slice B34 m34 e34] 40)).alloc (.cells #[.int .i64 rc, .string rt, .int .i64 rn, .slice B44 m44 e44] 49)).alloc (.cells #[.int .i64 0, .string x, .int .i64 0, .slice none 0 0] 49)) := (by repeat (first | (with_reducible exact Below.refl _ _) | (with_reducible assumption) | (with_reducible refine Below.drew ?_) | (with_reducible refine bdrewN ?_ _) | (with_reducible refine balloc ?_ _) | ((with_reducible refine bset ?_ ?_ _); rotate_left; (focus first | exact Nat.le_refl _ | (simp; done) | (simp; omega) | omega)) | (with_reducible refine bstep ?_ (by with_reducible assumption)) | (with_reducible refine Below.trans ?_ (by with_reducible assumption))))
          have hz9 := q9.size
          clear cV3 fV3 cC3 fC3 T4 bx
          have hs3 := HS3.out
          unfold listD at hs3
          rw [if_neg (by omega), if_neg (by omega), if_neg (by omega), if_neg (by omega), if_pos rfl] at hs3
          rw [hqn, Nat.add_sub_cancel] at hs3
          rw [hx] at hs3
          simp only [Prod.mk.injEq, textR, Re.mk.injEq, emp, Option.getD_some] at hs3
          obtain ⟨hit, hc_, ht_, hn_, hl_⟩ := hs3
          replace ht_ := ht_.symm
          subst hc_; subst ht_; subst hn_; subst hl_; subst hit
          clear HS3
          have X6 := M3.take m m (by omega) (Nat.le_refl _) (by have := M3.sl.nc; omega)
          have hsr : (strRows is_).take m = strRows (is_.take m) := by simp [strRows]
          rw [hsr] at X6
          clear hsr
          clear M3 hx
          (try clear cD4 fD4); have cD4 := D4.cell; have fD4 := D4.frozen; (try clear cR4 fR4); have cR4 := R4.cell; have fR4 := R4.frozen; (try clear cC3 fC3); have cC3 := C3.cell; have fC3 := C3.frozen; (try clear cV3 fV3); have cV3 := V3.cell; have fV3 := V3.frozen
          go_wp2_with fail
          refine (sameReply_eq ⟨0, x, 0, []⟩ ⟨0, x, 0, []⟩ _ _ _ _ _ _ _ L4 nil_sl rfl).mono ?_
          rintro e w7 ⟨rfl, hb7⟩
          have V7 := V3.below' hb7; have D7 := D4.below' hb7; have M7 := M4.bl hb7
          have T7 := And.intro (TT.1.bl hb7) (And.intro (TT.2.1.bl hb7) (TT.2.2.bl hb7))
          have X7 := X6.bl hb7
          have q7 := bstep q9 hb7
          have hz7 := q7.size
          have hv7 := V7.lt
          clear q9 hb7 V3 D4 M4 TT X6
          (try clear cD7 fD7); have cD7 := D7.cell; have fD7 := D7.frozen; (try clear cV7 fV7); have cV7 := V7.cell; have fV7 := V7.frozen
          go_wp2_with fail
          go_roundw
          case rel =>
            obtain ⟨V9, gr9, sz9⟩ := whole_value (Value.int .i64 dk) (Value.string dt) (Value.int .i64 dc) (Value.slice B14 m14 e14) (Value.slice B24 m24 e24) (Value.slice B34 m34 e34) V7
            exact ⟨i + 1, by omega, by omega, by go_num, _, _, _, _, _, _, _, _, _, _, _, _, _, _, _, _, _, _, rfl, V9, grown_vsl M7 T7 V7 gr9, ⟨grown_tp T7.1 V7 gr9, grown_tp T7.2.1 V7 gr9, grown_tp T7.2.2 V7 gr9⟩, HS4, X7.far' V7 gr9, below_grow q7 gr9 (by omega) (by omega)⟩
          case measure => simp [intOf]; omega
      · go_wp2_with fail
        generalize hW : wr.alloc (.cells #[.int .i64 7, .int .i64 8, .int .i64 7, .int .i64 8, .int .i64 9, .int .i64 10] 3) = W at *
        have qW : Below wr.heap.size wr W := by rw [← hW]; exact (Below.refl _ wr).alloc (Nat.le_refl _) _
        clear hW
        have V2 := V.bl qW; have N2 := N.bl qW; have M2 := M.bl qW
        have T2 := And.intro (T.1.bl qW) (And.intro (T.2.1.bl qW) (T.2.2.bl qW))
        have hrW : rb < W.heap.size := by have := qW.size; omega
        have g3' := (qW.cell (p := ⟨rb, ro + i * 5 + 3, none⟩) hrw).trans g3
        have g4' := (qW.cell (p := ⟨rb, ro + i * 5 + 4, none⟩) hrw).trans g4
        have q : Below w.heap.size w W := bstep hbr qW
        obtain ⟨cy, cf, ct, cn, hcts, hcc, hcall⟩ := list_cmd 10 xn xt (by omega) hdx.2.2.2.1 hdx.2.2.2.2
        have hstep := list_step HV.out hcc (by simp)
        have hroom := HV.out.room
        have hDo := fun w h => Do_mayN ⟨vk, vt, vc, ps, is_, ss⟩ ⟨10, cy, cf, ct, cn⟩ HV.out.may' A1 A2 A3 n1 c1 n2 c2 n3 c3 w h
        generalize doneVal ⟨vk, vt, vc, ps, is_, ss⟩ ⟨10, cy, cf, ct, cn⟩ = D at *
        obtain ⟨⟨dk, dt, dc, dps, dis, dss⟩, ⟨rc, rt, rn, rl⟩, de⟩ := D
        obtain ⟨s1, s2, s3⟩ := hstep
        simp only [cmdV, Int.reduceSub] at s1 s3 hcall hroom
        subst s1
        have HDO := hide hDo
        have HS4 := hide s2
        have HS3 := hide s3
        have HROOM := hide hroom
        clear hDo s2 s3 hroom hcc
        have HCALL := hide hcall
        clear hcall g0 g3 g4 cV fV
        have hsG : ∀ w', Below W.heap.size W w' → (w'.cell? ⟨rb, ro + i * 5 + 3, none⟩ = some (.int .i64 xn) ∧ w'.cell? ⟨rb, ro + i * 5 + 4, none⟩ = some (.string xt)) := fun w' q => ⟨(q.cell (p := ⟨rb, ro + i * 5 + 3, none⟩) hrW).trans g3', (q.cell (p := ⟨rb, ro + i * 5 + 4, none⟩) hrW).trans g4'⟩
        refine wp_region_x (l := []) (S := fun w' => (w'.cell? ⟨rb, ro + i * 5 + 3, none⟩ = some (.int .i64 xn) ∧ w'.cell? ⟨rb, ro + i * 5 + 4, none⟩ = some (.string xt))) (by kernel_rfl) (hsG _ (Below.refl _ W).drew) (fun hS => ?_)
        refine wpAnyX_take (i := 0) (v := ?xv0f) rfl (by kernel_rfl) (by kernel_rfl) (by kernel_rfl) (by kernel_rfl) (fun _ _ _ h => h) (Or.inl ⟨by rfl, ?xh0f⟩) (by assumption) ?xr0f; (case xh0f => (intro w hSw; (try dsimp only at hSw); go_simp; (try with_reducible rfl))); (try simp only [Act.put, List.setIfInBounds_toArray, List.set_cons_zero, List.set_cons_succ, List.getElem_toArray, List.getElem_cons_zero, List.getElem_cons_succ])
        refine wpAnyX_take (i := 1) (v := ?xv1f) rfl (by kernel_rfl) (by kernel_rfl) (by kernel_rfl) (by kernel_rfl) (fun _ _ _ h => h) (Or.inl ⟨by rfl, ?xh1f⟩) (by assumption) ?xr1f; (case xh1f => (intro w hSw; (try dsimp only at hSw); go_simp; (try with_reducible rfl))); (try simp only [Act.put, List.setIfInBounds_toArray, List.set_cons_zero, List.set_cons_succ, List.getElem_toArray, List.getElem_cons_zero, List.getElem_cons_succ])
        refine wpAnyX_take (i := 2) (v := ?xv2f) rfl (by kernel_rfl) (by kernel_rfl) (by kernel_rfl) (by kernel_rfl) (fun _ _ _ h => h) (Or.inl ⟨by rfl, ?xh2f⟩) (by assumption) ?xr2f; (case xh2f => (intro w hSw; (try dsimp only at hSw); go_simp; (try with_reducible rfl))); (try simp only [Act.put, List.setIfInBounds_toArray, List.set_cons_zero, List.set_cons_succ, List.getElem_toArray, List.getElem_cons_zero, List.getElem_cons_succ])
        refine wpAnyX_take (i := 3) (v := ?xv3f) rfl (by kernel_rfl) (by kernel_rfl) (by kernel_rfl) (by kernel_rfl) (fun _ _ _ h => h) (Or.inl ⟨by rfl, ?xh3f⟩) (by assumption) ?xr3f; (case xh3f => (intro w hSw; (try dsimp only at hSw); go_simp; (try with_reducible rfl))); (try simp only [Act.put, List.setIfInBounds_toArray, List.set_cons_zero, List.set_cons_succ, List.getElem_toArray, List.getElem_cons_zero, List.getElem_cons_succ])
        refine wpAnyX_take (i := 4) (v := ?xv4f) rfl (by kernel_rfl) (by kernel_rfl) (by kernel_rfl) (by kernel_rfl) (fun _ _ _ h => h) (Or.inl ⟨by rfl, ?xh4f⟩) (by assumption) ?xr4f; (case xh4f => (intro w hSw; (try dsimp only at hSw); go_simp; (try with_reducible rfl))); (try simp only [Act.put, List.setIfInBounds_toArray, List.set_cons_zero, List.set_cons_succ, List.getElem_toArray, List.getElem_cons_zero, List.getElem_cons_succ])
        refine wpAnyX_take (i := 5) (v := ?xv5f) rfl (by kernel_rfl) (by kernel_rfl) (by kernel_rfl) (by kernel_rfl) (fun _ _ _ h => h) (Or.inl ⟨by rfl, ?xh5f⟩) (by assumption) ?xr5f; (case xh5f => (intro w hSw; (try dsimp only at hSw); go_simp; (try with_reducible rfl))); (try simp only [Act.put, List.setIfInBounds_toArray, List.set_cons_zero, List.set_cons_succ, List.getElem_toArray, List.getElem_cons_zero, List.getElem_cons_succ])
        refine wpAnyX_take (i := 6) (v := ?xv6f) rfl (by kernel_rfl) (by kernel_rfl) (by kernel_rfl) (by kernel_rfl) (fun _ _ _ h => h) (Or.inl ⟨by rfl, ?xh6f⟩) (by assumption) ?xr6f; (case xh6f => (intro w hSw; (try dsimp only at hSw); go_simp; (try with_reducible rfl))); (try simp only [Act.put, List.setIfInBounds_toArray, List.set_cons_zero, List.set_cons_succ, List.getElem_toArray, List.getElem_cons_zero, List.getElem_cons_succ])
        refine wpAnyX_take (i := 7) (v := ?xv7f) rfl (by kernel_rfl) (by kernel_rfl) (by kernel_rfl) (by kernel_rfl) (fun _ _ _ h => h) (Or.inl ⟨by rfl, ?xh7f⟩) (by assumption) ?xr7f; (case xh7f => (intro w hSw; (try dsimp only at hSw); go_simp; (try with_reducible rfl))); (try simp only [Act.put, List.setIfInBounds_toArray, List.set_cons_zero, List.set_cons_succ, List.getElem_toArray, List.getElem_cons_zero, List.getElem_cons_succ])
        refine wpAnyX_take (i := 8) (v := ?xv8f) rfl (by kernel_rfl) (by kernel_rfl) (by kernel_rfl) (by kernel_rfl) (fun _ _ _ h => h) (Or.inl ⟨by rfl, ?xh8f⟩) (by assumption) ?xr8f; (case xh8f => (intro w hSw; (try dsimp only at hSw); go_simp; (try with_reducible rfl))); (try simp only [Act.put, List.setIfInBounds_toArray, List.set_cons_zero, List.set_cons_succ, List.getElem_toArray, List.getElem_cons_zero, List.getElem_cons_succ])
        refine wpAnyX_take (i := 9) (v := ?xv9f) rfl (by kernel_rfl) (by kernel_rfl) (by kernel_rfl) (by kernel_rfl) (fun _ _ _ h => h) (Or.inl ⟨by rfl, ?xh9f⟩) (by assumption) ?xr9f; (case xh9f => (intro w hSw; (try dsimp only at hSw); go_simp; (try with_reducible rfl))); (try simp only [Act.put, List.setIfInBounds_toArray, List.set_cons_zero, List.set_cons_succ, List.getElem_toArray, List.getElem_cons_zero, List.getElem_cons_succ])
        refine wpAnyX_take (i := 10) (v := ?xv10f) rfl (by kernel_rfl) (by kernel_rfl) (by kernel_rfl) (by kernel_rfl) (fun _ _ _ h => h) (Or.inl ⟨by rfl, ?xh10f⟩) (by assumption) ?xr10f; (case xh10f => (intro w hSw; (try dsimp only at hSw); go_simp; (try with_reducible rfl))); (try simp only [Act.put, List.setIfInBounds_toArray, List.set_cons_zero, List.set_cons_succ, List.getElem_toArray, List.getElem_cons_zero, List.getElem_cons_succ])
        refine wpAnyX_take (i := 11) (v := ?xv11f) rfl (by kernel_rfl) (by kernel_rfl) (by kernel_rfl) (by kernel_rfl) (fun _ _ _ h => h) (Or.inl ⟨by rfl, ?xh11f⟩) (by assumption) ?xr11f; (case xh11f => (intro w hSw; (try dsimp only at hSw); go_simp; (try with_reducible rfl))); (try simp only [Act.put, List.setIfInBounds_toArray, List.set_cons_zero, List.set_cons_succ, List.getElem_toArray, List.getElem_cons_zero, List.getElem_cons_succ])
        refine wpAnyX_take (i := 12) (v := ?xv12f) rfl (by kernel_rfl) (by kernel_rfl) (by kernel_rfl) (by kernel_rfl) (fun _ _ _ h => h) (Or.inl ⟨by rfl, ?xh12f⟩) (by assumption) ?xr12f; (case xh12f => (intro w hSw; (try dsimp only at hSw); go_simp; (try with_reducible rfl))); (try simp only [Act.put, List.setIfInBounds_toArray, List.set_cons_zero, List.set_cons_succ, List.getElem_toArray, List.getElem_cons_zero, List.getElem_cons_succ])
        have HSG := hide hsG
        clear hsG hS g3' g4'
        refine wpX_startA (n := 2 + left1 false) (listed := (fun b_ => #[true, true, true, true, true, true, true, true, true, true, true, true, true, false, b_, false]) false) (j := 14) (d := 7) (t := 46) (z := #[.int .i64 0, .string { data := #[] }, .string { data := #[] }, .string { data := #[] }, .int .i64 0]) ?al1f ?alnf ?allf (fun al1 => ?alrf); (case al1f => exact ⟨⟨_, rfl, rfl, rfl, fun a w => by simp [go_sem, execOp]⟩⟩); (case alnf => kernel_rfl); (case allf => kernel_rfl)
        refine' wpX_phaseA' (f := 1) (i := 13) (L := (fun b_ => #[true, true, true, true, true, true, true, true, true, true, true, true, true, false, b_, false])) (L' := (fun b_ => #[true, true, true, true, true, true, true, true, true, true, true, true, true, true, b_, false])) (base := W.heap.size) (G := (fun w' => Below W.heap.size W w')) (x := u7) al1 ?an13f ?al13f ?aa13f ?ar13f ?ai13f ?ag13f ?ae113f ?ae313f ?ap113f HSG.out (fun w' o q => q.alloc q.size o) (fun w' q => q.size) ?aw13f ?am13f; (case an13f => rfl); (case al13f => rfl); (case aa13f => rfl); (case ar13f => kernel_rfl); (case ai13f => rfl); (case ag13f => rfl); (case ae113f => rfl); (case ae313f => (intros; rfl)); (case ap113f => (intros; rfl))
        (case aw13f => exact (Below.refl _ W).drew)
        intro b_ x_ w5 hG_ hx_ K_ hK_; (try simp only [Act.put, List.setIfInBounds_toArray, List.set_cons_zero, List.set_cons_succ, List.getElem_toArray, List.getElem_cons_zero, List.getElem_cons_succ])
        go_wp2_with fail
        refine (HCALL.out _).mono ?_
        rintro e w6 ⟨rfl, hb6⟩
        go_wp2_with fail
        have q6 : Below W.heap.size W w6 := bstep hG_ hb6
        have hS6 := HSG.out _ q6
        refine hK_.out _ _ (Or.inr hS6) ?_
        clear hK_ K_ hG_
        refine' wpX_layA' (f := 1) (L := (fun b_ => #[true, true, true, true, true, true, true, true, true, true, true, true, true, true, b_, false])) (base := W.heap.size) (G := (fun w' => Below w6.heap.size w6 w')) (b := b_) (x := x_) al1 ?anLf ?alLf ?aaLf ?arLf ?ae1Lf ?ap1Lf (fun w' q => HSG.out w' (bstep q6 q)) (fun w' o q => q.alloc q.size o) (fun w' q => Nat.le_trans q6.size q.size) ?awLf (hx_.bl hb6) ?amLf; (case anLf => rfl); (case alLf => rfl); (case aaLf => rfl); (case arLf => kernel_rfl); (case ae1Lf => rfl); (case ap1Lf => (intros; rfl))
        (case awLf => exact Below.refl _ w6)
        clear hx_ x_ b_ hS6
        intro g7 w7 hb7 hg7 G7
        have q7 : Below W.heap.size W w7 := bstep q6 hb7
        clear al1
        (try clear cG7 fG7); have cG7 := G7.cell; have fG7 := G7.frozen
        refine wpAnyX_one (i := 15) (by kernel_rfl) rfl (by rfl) (fun K hK => ?_); (try simp only [List.getElem_toArray, List.getElem_cons_zero, List.getElem_cons_succ])
        go_wp2_with fail
        refine hK.out _ _ (Or.inr (HSG.out _ (below_set (below_set (below_set (below_set (below_set q7 hg7 0 _) hg7 1 _) hg7 2 _) hg7 3 _) hg7 4 _))) (fun hS => ?_)
        clear hK K hS cG7 fG7
        refine wpAnyX_done (by kernel_rfl) ?_ _
        have hgV := V2.lt
        have N7 := N2.bl q7
        have T7 := And.intro (T2.1.bl q7) (And.intro (T2.2.1.bl q7) (T2.2.2.bl q7))
        obtain ⟨C3, gr8⟩ := whole_command (Value.int .i64 10) (Value.string cy) (Value.string cf) (Value.string ct) (Value.int .i64 cn) G7
        have V3 := grown_blk (V2.below' q7) gr8 (by omega)
        have N3 := grown_vsl N7 T7 G7 gr8
        have M3 := (M2.bl q7).far' G7 gr8
        have q8 := below_grow (bstep q q7) gr8 (by have := q.size; have := q7.size; omega) (by have := q.size; omega)
        obtain ⟨w8, hw8⟩ : ∃ w8, w8 = (((((w7.setCell ⟨g7, 0, none⟩ (Value.int .i64 10)).setCell ⟨g7, 1, none⟩ (Value.string cy)).setCell ⟨g7, 2, none⟩ (Value.string cf)).setCell ⟨g7, 3, none⟩ (Value.string ct)).setCell ⟨g7, 4, none⟩ (Value.int .i64 cn)) := ⟨_, rfl⟩
        rw [← hw8] at C3 V3 N3 M3 q8 ⊢
        clear hw8 gr8 G7 N7 T7 V2 N2 M2 T2 hb7 q7 q6 hb6 V N M T hbr
        have hc8 := C3.lt
        have q : Below w.heap.size w w8 := q8
        have hql := M3.lt
        have hqn := M3.sl.len
        simp only [strRows, List.length_map] at hqn
        (try clear cV3 fV3); have cV3 := V3.cell; have fV3 := V3.frozen; (try clear cC3 fC3); have cC3 := C3.cell; have fC3 := C3.frozen
        by_cases h0 : qn = 0
        · subst h0
          go_wp2_with fail
          refine (HDO.out _ N3).mono ?_
          rintro e w4 ⟨B14, m14, e14, B24, m24, e24, B34, m34, e34, B44, m44, e44, rfl, M4, L4, T4, hb4, F4⟩
          replace V3 := V3.bl hb4; replace M3 := M3.bl hb4; replace C3 := C3.bl hb4
          replace q : Below w.heap.size w w4 := (by repeat (first | (with_reducible exact Below.refl _ _) | (with_reducible assumption) | (with_reducible refine Below.drew ?_) | (with_reducible refine bdrewN ?_ _) | (with_reducible refine balloc ?_ _) | ((with_reducible refine bset ?_ ?_ _); rotate_left; (focus first | exact Nat.le_refl _ | (simp; done) | (simp; omega) | omega)) | (with_reducible refine bstep ?_ (by with_reducible assumption)) | (with_reducible refine Below.trans ?_ (by with_reducible assumption))))
          have hap : Apart Q B24 := fun a b ha hb => by have := hql a ha; have := F4 b hb; omega
          have HAP := hide hap
          clear hb4 hap F4 hql
          have D4 := Blk.new w4 40 #[.int .i64 dk, .string dt, .int .i64 dc, .slice B14 m14 e14, .slice B24 m24 e24, .slice B34 m34 e34]; replace M4 := M4.al (.cells #[.int .i64 dk, .string dt, .int .i64 dc, .slice B14 m14 e14, .slice B24 m24 e24, .slice B34 m34 e34] 40); replace L4 := L4.al (.cells #[.int .i64 dk, .string dt, .int .i64 dc, .slice B14 m14 e14, .slice B24 m24 e24, .slice B34 m34 e34] 40); replace V3 := V3.al (.cells #[.int .i64 dk, .string dt, .int .i64 dc, .slice B14 m14 e14, .slice B24 m24 e24, .slice B34 m34 e34] 40); replace M3 := M3.al (.cells #[.int .i64 dk, .string dt, .int .i64 dc, .slice B14 m14 e14, .slice B24 m24 e24, .slice B34 m34 e34] 40); replace C3 := C3.al (.cells #[.int .i64 dk, .string dt, .int .i64 dc, .slice B14 m14 e14, .slice B24 m24 e24, .slice B34 m34 e34] 40); have R4 : Blk ((w4.alloc (.cells #[.int .i64 dk, .string dt, .int .i64 dc, .slice B14 m14 e14, .slice B24 m24 e24, .slice B34 m34 e34] 40)).alloc (.cells #[.int .i64 rc, .string rt, .int .i64 rn, .slice B44 m44 e44] 49)) (w4.heap.size + 1) 49 #[.int .i64 rc, .string rt, .int .i64 rn, .slice B44 m44 e44] := Blk.new' _ _ _ (by simp); replace M4 := M4.al (.cells #[.int .i64 rc, .string rt, .int .i64 rn, .slice B44 m44 e44] 49); replace L4 := L4.al (.cells #[.int .i64 rc, .string rt, .int .i64 rn, .slice B44 m44 e44] 49); replace D4 := D4.al (.cells #[.int .i64 rc, .string rt, .int .i64 rn, .slice B44 m44 e44] 49); replace V3 := V3.al (.cells #[.int .i64 rc, .string rt, .int .i64 rn, .slice B44 m44 e44] 49); replace M3 := M3.al (.cells #[.int .i64 rc, .string rt, .int .i64 rn, .slice B44 m44 e44] 49); replace C3 := C3.al (.cells #[.int .i64 rc, .string rt, .int .i64 rn, .slice B44 m44 e44] 49)
          replace M4 := M4.al (.cells #[.int .i64 5, .string { data := #[] }, .int .i64 0, .slice none 0 0] 49); replace L4 := L4.al (.cells #[.int .i64 5, .string { data := #[] }, .int .i64 0, .slice none 0 0] 49); replace D4 := D4.al (.cells #[.int .i64 5, .string { data := #[] }, .int .i64 0, .slice none 0 0] 49); replace R4 := R4.al (.cells #[.int .i64 5, .string { data := #[] }, .int .i64 0, .slice none 0 0] 49); replace V3 := V3.al (.cells #[.int .i64 5, .string { data := #[] }, .int .i64 0, .slice none 0 0] 49); replace M3 := M3.al (.cells #[.int .i64 5, .string { data := #[] }, .int .i64 0, .slice none 0 0] 49); replace C3 := C3.al (.cells #[.int .i64 5, .string { data := #[] }, .int .i64 0, .slice none 0 0] 49)
          have K5 : Blk (((w4.alloc (.cells #[.int .i64 dk, .string dt, .int .i64 dc, .slice B14 m14 e14, .slice B24 m24 e24, .slice B34 m34 e34] 40)).alloc (.cells #[.int .i64 rc, .string rt, .int .i64 rn, .slice B44 m44 e44] 49)).alloc (.cells #[.int .i64 5, .string { data := #[] }, .int .i64 0, .slice none 0 0] 49)) (w4.heap.size + 1 + 1) 49 #[.int .i64 5, .string { data := #[] }, .int .i64 0, .slice none 0 0] := Blk.new' _ _ _ (by simp)
          have bx : Below w4.heap.size w4 (((w4.alloc (.cells #[.int .i64 dk, .string dt, .int .i64 dc, .slice B14 m14 e14, .slice B24 m24 e24, .slice B34 m34 e34] 40)).alloc (.cells #[.int .i64 rc, .string rt, .int .i64 rn, .slice B44 m44 e44] 49)).alloc (.cells #[.int .i64 5, .string { data := #[] }, .int .i64 0, .slice none 0 0] 49)) := (by repeat (first | (with_reducible exact Below.refl _ _) | (with_reducible assumption) | (with_reducible refine Below.drew ?_) | (with_reducible refine bdrewN ?_ _) | (with_reducible refine balloc ?_ _) | ((with_reducible refine bset ?_ ?_ _); rotate_left; (focus first | exact Nat.le_refl _ | (simp; done) | (simp; omega) | omega)) | (with_reducible refine bstep ?_ (by with_reducible assumption)) | (with_reducible refine Below.trans ?_ (by with_reducible assumption))))
          have TT := And.intro (T4.1.bl bx) (And.intro (T4.2.1.bl bx) (T4.2.2.1.bl bx))
          have q9 : Below w.heap.size w (((w4.alloc (.cells #[.int .i64 dk, .string dt, .int .i64 dc, .slice B14 m14 e14, .slice B24 m24 e24, .slice B34 m34 e34] 40)).alloc (.cells #[.int .i64 rc, .string rt, .int .i64 rn, .slice B44 m44 e44] 49)).alloc (.cells #[.int .i64 5, .string { data := #[] }, .int .i64 0, .slice none 0 0] 49)) := (by repeat (first | (with_reducible exact Below.refl _ _) | (with_reducible assumption) | (with_reducible refine Below.drew ?_) | (with_reducible refine bdrewN ?_ _) | (with_reducible refine balloc ?_ _) | ((with_reducible refine bset ?_ ?_ _); rotate_left; (focus first | exact Nat.le_refl _ | (simp; done) | (simp; omega) | omega)) | (with_reducible refine bstep ?_ (by with_reducible assumption)) | (with_reducible refine Below.trans ?_ (by with_reducible assumption))))
          have hz9 := q9.size
          clear cV3 fV3 cC3 fC3 T4 bx
          have hnil : is_ = [] := List.eq_nil_of_length_eq_zero hqn
          subst hnil
          have hs3 := HS3.out
          unfold listD at hs3
          rw [if_neg (by simp), if_neg (by omega), if_neg (by omega), if_pos (show ([] : List ByteArray).length = 0 from rfl)] at hs3
          simp only [Prod.mk.injEq, failR, toldR, textR, Re.mk.injEq, emp] at hs3
          obtain ⟨hit, hc_, ht_, hn_, hl_⟩ := hs3
          subst hc_; subst ht_; subst hn_; subst hl_; subst hit
          clear HS3
          (try clear cD4 fD4); have cD4 := D4.cell; have fD4 := D4.frozen; (try clear cR4 fR4); have cR4 := R4.cell; have fR4 := R4.frozen; (try clear cC3 fC3); have cC3 := C3.cell; have fC3 := C3.frozen; (try clear cV3 fV3); have cV3 := V3.cell; have fV3 := V3.frozen
          go_wp2_with fail
          refine (sameReply_eq ⟨5, { data := #[] }, 0, []⟩ ⟨5, { data := #[] }, 0, []⟩ _ _ _ _ _ _ _ L4 nil_sl rfl).mono ?_
          rintro e w7 ⟨rfl, hb7⟩
          have V7 := V3.below' hb7; have D7 := D4.below' hb7; have M7 := M4.bl hb7
          have T7 := And.intro (TT.1.bl hb7) (And.intro (TT.2.1.bl hb7) (TT.2.2.bl hb7))
          have X7 := M3.bl hb7
          have q7 := bstep q9 hb7
          have hz7 := q7.size
          have hv7 := V7.lt
          clear q9 hb7 V3 D4 M4 TT M3
          (try clear cD7 fD7); have cD7 := D7.cell; have fD7 := D7.frozen; (try clear cV7 fV7); have cV7 := V7.cell; have fV7 := V7.frozen
          go_wp2_with fail
          go_roundw
          case rel =>
            obtain ⟨V9, gr9, sz9⟩ := whole_value (Value.int .i64 dk) (Value.string dt) (Value.int .i64 dc) (Value.slice B14 m14 e14) (Value.slice B24 m24 e24) (Value.slice B34 m34 e34) V7
            exact ⟨i + 1, by omega, by omega, by go_num, _, _, _, _, _, _, _, _, _, _, _, _, _, _, _, _, _, _, rfl, V9, grown_vsl M7 T7 V7 gr9, ⟨grown_tp T7.1 V7 gr9, grown_tp T7.2.1 V7 gr9, grown_tp T7.2.2 V7 gr9⟩, HS4, X7.far' V7 gr9, below_grow q7 gr9 (by omega) (by omega)⟩
          case measure => simp [intOf]; omega
        · obtain ⟨m, rfl⟩ : ∃ m, qn = m + 1 := ⟨qn - 1, by omega⟩
          have hwn : IntKind.i64.wrap ((m : Int) + 1 + 1) = (m : Int) + 1 + 1 := IntWalk.i64_in _ (by have := HROOM.out; omega)
          have hw1 : IntKind.i64.wrap ((m : Int) + 1 - 1) = (m : Int) := by rw [IntWalk.i64_in _ (by have := HROOM.out; omega)]; omega
          have hw2 : IntKind.i64.wrap (m : Int) = (m : Int) := IntWalk.i64_in _ (by have := HROOM.out; omega)
          have hz0 : (0 : Int) ≤ (m : Int) := by omega
          have hz1 : (m : Int) < (m : Int) + 1 := by omega
          have hz2 : (0 : Int) < (m : Int) + 1 := by omega
          have hz3 : ((m : Int) + 1 == 0) = false := by rw [beq_eq_false_iff_ne]; omega
          go_wp2_with fail
          refine (HDO.out _ N3).mono ?_
          rintro e w4 ⟨B14, m14, e14, B24, m24, e24, B34, m34, e34, B44, m44, e44, rfl, M4, L4, T4, hb4, F4⟩
          replace V3 := V3.bl hb4; replace M3 := M3.bl hb4; replace C3 := C3.bl hb4
          replace q : Below w.heap.size w w4 := (by repeat (first | (with_reducible exact Below.refl _ _) | (with_reducible assumption) | (with_reducible refine Below.drew ?_) | (with_reducible refine bdrewN ?_ _) | (with_reducible refine balloc ?_ _) | ((with_reducible refine bset ?_ ?_ _); rotate_left; (focus first | exact Nat.le_refl _ | (simp; done) | (simp; omega) | omega)) | (with_reducible refine bstep ?_ (by with_reducible assumption)) | (with_reducible refine Below.trans ?_ (by with_reducible assumption))))
          have hap : Apart Q B24 := fun a b ha hb => by have := hql a ha; have := F4 b hb; omega
          have HAP := hide hap
          clear hb4 hap F4 hql
          obtain ⟨b, o, hQ, hbb, i0⟩ := M3.sl.seg.str (i := 0) (by omega)
          subst hQ
          have hbb1 : b < w4.heap.size + 1 := by omega
          have hbb2 : b < w4.heap.size + 1 + 1 := by omega
          have hx : is_[0]? = some (is_[0]'(by omega)) := List.getElem?_eq_getElem (by omega)
          generalize (is_[0]'(by omega)) = x at i0 hx
          simp only [Nat.add_zero] at i0
          have hct : ∀ w, (Instr.slice 37 (.slice (some ⟨b, o, none⟩) (m + 1) qc) (some (.int .i64 1)) none none).run Try.prog w = .ok (.slice (cutA (some ⟨b, o, none⟩) qc 1 1) m (qc - 1)) w := by
            have := run_cut (P := Try.prog) Try.underlying37 text_sz (some ⟨b, o, none⟩) (m + 1) qc 1 (by omega)
            simpa using this
          have D4 := Blk.new w4 40 #[.int .i64 dk, .string dt, .int .i64 dc, .slice B14 m14 e14, .slice B24 m24 e24, .slice B34 m34 e34]; replace M4 := M4.al (.cells #[.int .i64 dk, .string dt, .int .i64 dc, .slice B14 m14 e14, .slice B24 m24 e24, .slice B34 m34 e34] 40); replace L4 := L4.al (.cells #[.int .i64 dk, .string dt, .int .i64 dc, .slice B14 m14 e14, .slice B24 m24 e24, .slice B34 m34 e34] 40); replace V3 := V3.al (.cells #[.int .i64 dk, .string dt, .int .i64 dc, .slice B14 m14 e14, .slice B24 m24 e24, .slice B34 m34 e34] 40); replace M3 := M3.al (.cells #[.int .i64 dk, .string dt, .int .i64 dc, .slice B14 m14 e14, .slice B24 m24 e24, .slice B34 m34 e34] 40); replace C3 := C3.al (.cells #[.int .i64 dk, .string dt, .int .i64 dc, .slice B14 m14 e14, .slice B24 m24 e24, .slice B34 m34 e34] 40); have R4 : Blk ((w4.alloc (.cells #[.int .i64 dk, .string dt, .int .i64 dc, .slice B14 m14 e14, .slice B24 m24 e24, .slice B34 m34 e34] 40)).alloc (.cells #[.int .i64 rc, .string rt, .int .i64 rn, .slice B44 m44 e44] 49)) (w4.heap.size + 1) 49 #[.int .i64 rc, .string rt, .int .i64 rn, .slice B44 m44 e44] := Blk.new' _ _ _ (by simp); replace M4 := M4.al (.cells #[.int .i64 rc, .string rt, .int .i64 rn, .slice B44 m44 e44] 49); replace L4 := L4.al (.cells #[.int .i64 rc, .string rt, .int .i64 rn, .slice B44 m44 e44] 49); replace D4 := D4.al (.cells #[.int .i64 rc, .string rt, .int .i64 rn, .slice B44 m44 e44] 49); replace V3 := V3.al (.cells #[.int .i64 rc, .string rt, .int .i64 rn, .slice B44 m44 e44] 49); replace M3 := M3.al (.cells #[.int .i64 rc, .string rt, .int .i64 rn, .slice B44 m44 e44] 49); replace C3 := C3.al (.cells #[.int .i64 rc, .string rt, .int .i64 rn, .slice B44 m44 e44] 49)
          replace M4 := M4.al (.cells #[.int .i64 0, .string x, .int .i64 0, .slice none 0 0] 49); replace L4 := L4.al (.cells #[.int .i64 0, .string x, .int .i64 0, .slice none 0 0] 49); replace D4 := D4.al (.cells #[.int .i64 0, .string x, .int .i64 0, .slice none 0 0] 49); replace R4 := R4.al (.cells #[.int .i64 0, .string x, .int .i64 0, .slice none 0 0] 49); replace V3 := V3.al (.cells #[.int .i64 0, .string x, .int .i64 0, .slice none 0 0] 49); replace M3 := M3.al (.cells #[.int .i64 0, .string x, .int .i64 0, .slice none 0 0] 49); replace C3 := C3.al (.cells #[.int .i64 0, .string x, .int .i64 0, .slice none 0 0] 49)
          have K5 : Blk (((w4.alloc (.cells #[.int .i64 dk, .string dt, .int .i64 dc, .slice B14 m14 e14, .slice B24 m24 e24, .slice B34 m34 e34] 40)).alloc (.cells #[.int .i64 rc, .string rt, .int .i64 rn, .slice B44 m44 e44] 49)).alloc (.cells #[.int .i64 0, .string x, .int .i64 0, .slice none 0 0] 49)) (w4.heap.size + 1 + 1) 49 #[.int .i64 0, .string x, .int .i64 0, .slice none 0 0] := Blk.new' _ _ _ (by simp)
          have bx : Below w4.heap.size w4 (((w4.alloc (.cells #[.int .i64 dk, .string dt, .int .i64 dc, .slice B14 m14 e14, .slice B24 m24 e24, .slice B34 m34 e34] 40)).alloc (.cells #[.int .i64 rc, .string rt, .int .i64 rn, .slice B44 m44 e44] 49)).alloc (.cells #[.int .i64 0, .string x, .int .i64 0, .slice none 0 0] 49)) := (by repeat (first | (with_reducible exact Below.refl _ _) | (with_reducible assumption) | (with_reducible refine Below.drew ?_) | (with_reducible refine bdrewN ?_ _) | (with_reducible refine balloc ?_ _) | ((with_reducible refine bset ?_ ?_ _); rotate_left; (focus first | exact Nat.le_refl _ | (simp; done) | (simp; omega) | omega)) | (with_reducible refine bstep ?_ (by with_reducible assumption)) | (with_reducible refine Below.trans ?_ (by with_reducible assumption))))
          have TT := And.intro (T4.1.bl bx) (And.intro (T4.2.1.bl bx) (T4.2.2.1.bl bx))
          have q9 : Below w.heap.size w (((w4.alloc (.cells #[.int .i64 dk, .string dt, .int .i64 dc, .slice B14 m14 e14, .slice B24 m24 e24, .slice B34 m34 e34] 40)).alloc (.cells #[.int .i64 rc, .string rt, .int .i64 rn, .slice B44 m44 e44] 49)).alloc (.cells #[.int .i64 0, .string x, .int .i64 0, .slice none 0 0] 49)) := (by repeat (first | (with_reducible exact Below.refl _ _) | (with_reducible assumption) | (with_reducible refine Below.drew ?_) | (with_reducible refine bdrewN ?_ _) | (with_reducible refine balloc ?_ _) | ((with_reducible refine bset ?_ ?_ _); rotate_left; (focus first | exact Nat.le_refl _ | (simp; done) | (simp; omega) | omega)) | (with_reducible refine bstep ?_ (by with_reducible assumption)) | (with_reducible refine Below.trans ?_ (by with_reducible assumption))))
          have hz9 := q9.size
          clear cV3 fV3 cC3 fC3 T4 bx
          have hs3 := HS3.out
          unfold listD at hs3
          rw [if_neg (by omega), if_neg (by omega), if_neg (by omega), if_neg (by omega), if_neg (by omega)] at hs3
          
          rw [hx] at hs3
          simp only [Prod.mk.injEq, textR, Re.mk.injEq, emp, Option.getD_some] at hs3
          obtain ⟨hit, hc_, ht_, hn_, hl_⟩ := hs3
          replace ht_ := ht_.symm
          subst hc_; subst ht_; subst hn_; subst hl_; subst hit
          clear HS3
          have X6 := M3.cut 1 (by omega)
          have hsr : (strRows is_).drop 1 = strRows (is_.drop 1) := by simp [strRows]
          rw [hsr, Nat.add_sub_cancel] at X6
          clear hsr
          clear M3 hx
          (try clear cD4 fD4); have cD4 := D4.cell; have fD4 := D4.frozen; (try clear cR4 fR4); have cR4 := R4.cell; have fR4 := R4.frozen; (try clear cC3 fC3); have cC3 := C3.cell; have fC3 := C3.frozen; (try clear cV3 fV3); have cV3 := V3.cell; have fV3 := V3.frozen
          go_wp2_with fail
          refine (sameReply_eq ⟨0, x, 0, []⟩ ⟨0, x, 0, []⟩ _ _ _ _ _ _ _ L4 nil_sl rfl).mono ?_
          rintro e w7 ⟨rfl, hb7⟩
          have V7 := V3.below' hb7; have D7 := D4.below' hb7; have M7 := M4.bl hb7
          have T7 := And.intro (TT.1.bl hb7) (And.intro (TT.2.1.bl hb7) (TT.2.2.bl hb7))
          have X7 := X6.bl hb7
          have q7 := bstep q9 hb7
          have hz7 := q7.size
          have hv7 := V7.lt
          clear q9 hb7 V3 D4 M4 TT X6
          (try clear cD7 fD7); have cD7 := D7.cell; have fD7 := D7.frozen; (try clear cV7 fV7); have cV7 := V7.cell; have fV7 := V7.frozen
          go_wp2_with fail
          go_roundw
          case rel =>
            obtain ⟨V9, gr9, sz9⟩ := whole_value (Value.int .i64 dk) (Value.string dt) (Value.int .i64 dc) (Value.slice B14 m14 e14) (Value.slice B24 m24 e24) (Value.slice B34 m34 e34) V7
            exact ⟨i + 1, by omega, by omega, by go_num, _, _, _, _, _, _, _, _, _, _, _, _, _, _, _, _, _, _, rfl, V9, grown_vsl M7 T7 V7 gr9, ⟨grown_tp T7.1 V7 gr9, grown_tp T7.2.1 V7 gr9, grown_tp T7.2.2 V7 gr9⟩, HS4, X7.far' V7 gr9, below_grow q7 gr9 (by omega) (by omega)⟩
          case measure => simp [intOf]; omega
    · have hgo : ((i : Int) < (n : Int) ∧ ¬ (i : Int) < 30) ∨ ¬ (i : Int) < (n : Int) := by omega
      have hDo := fun w h => Do_may zeroVa ⟨7, { data := #[107] }, { data := #[] }, { data := #[] }, 0⟩ (.inl rfl) none none none 0 0 0 0 0 0 w h
      have hcc : ccOf ⟨7, { data := #[107] }, { data := #[] }, { data := #[] }, 0⟩ = 0 := cc_lit (by decide) (by decide) (by rw [if_neg (by decide)]; rfl) (by rw [if_pos (by decide)]; decide) (by rw [if_neg (by decide)])
      rw [done_list0 hcc (.inl rfl)] at hDo
      clear hcc
      simp only [toldR, emp, zeroVa] at hDo
      have HDO := hide hDo
      have q : Below w.heap.size w wr := (by repeat (first | (with_reducible exact Below.refl _ _) | (with_reducible assumption) | (with_reducible refine Below.drew ?_) | (with_reducible refine bdrewN ?_ _) | (with_reducible refine balloc ?_ _) | ((with_reducible refine bset ?_ ?_ _); rotate_left; (focus first | exact Nat.le_refl _ | (simp; done) | (simp; omega) | omega)) | (with_reducible refine bstep ?_ (by with_reducible assumption)) | (with_reducible refine Below.trans ?_ (by with_reducible assumption))))
      clear hDo hS hd HV
      (try clear cV fV); have cV := V.cell; have fV := V.frozen
      rcases hgo with ⟨ha, hb⟩ | ha
      · go_wp2_with fail
        refine (HDO.out _ nil_vsl).mono ?_; rintro e w5 ⟨B15, m15, e15, B25, m25, e25, B35, m35, e35, B45, m45, e45, rfl, M5, L5, T5, hb5⟩; replace V := V.bl hb5; replace N := N.bl hb5; replace M := M.bl hb5; replace q : Below w.heap.size w w5 := (by repeat (first | (with_reducible exact Below.refl _ _) | (with_reducible assumption) | (with_reducible refine Below.drew ?_) | (with_reducible refine bdrewN ?_ _) | (with_reducible refine balloc ?_ _) | ((with_reducible refine bset ?_ ?_ _); rotate_left; (focus first | exact Nat.le_refl _ | (simp; done) | (simp; omega) | omega)) | (with_reducible refine bstep ?_ (by with_reducible assumption)) | (with_reducible refine Below.trans ?_ (by with_reducible assumption)))); clear hb5
        have D5 := Blk.new w5 40 #[.int .i64 4, .string { data := #[] }, .int .i64 0, .slice B15 m15 e15, .slice B25 m25 e25, .slice B35 m35 e35]; replace M5 := M5.al (.cells #[.int .i64 4, .string { data := #[] }, .int .i64 0, .slice B15 m15 e15, .slice B25 m25 e25, .slice B35 m35 e35] 40); replace L5 := L5.al (.cells #[.int .i64 4, .string { data := #[] }, .int .i64 0, .slice B15 m15 e15, .slice B25 m25 e25, .slice B35 m35 e35] 40); replace V := V.al (.cells #[.int .i64 4, .string { data := #[] }, .int .i64 0, .slice B15 m15 e15, .slice B25 m25 e25, .slice B35 m35 e35] 40); replace N := N.al (.cells #[.int .i64 4, .string { data := #[] }, .int .i64 0, .slice B15 m15 e15, .slice B25 m25 e25, .slice B35 m35 e35] 40); replace M := M.al (.cells #[.int .i64 4, .string { data := #[] }, .int .i64 0, .slice B15 m15 e15, .slice B25 m25 e25, .slice B35 m35 e35] 40); have R5 : Blk ((w5.alloc (.cells #[.int .i64 4, .string { data := #[] }, .int .i64 0, .slice B15 m15 e15, .slice B25 m25 e25, .slice B35 m35 e35] 40)).alloc (.cells #[.int .i64 0, .string { data := #[] }, .int .i64 1, .slice B45 m45 e45] 49)) (w5.heap.size + 1) 49 #[.int .i64 0, .string { data := #[] }, .int .i64 1, .slice B45 m45 e45] := Blk.new' _ _ _ (by simp); replace M5 := M5.al (.cells #[.int .i64 0, .string { data := #[] }, .int .i64 1, .slice B45 m45 e45] 49); replace L5 := L5.al (.cells #[.int .i64 0, .string { data := #[] }, .int .i64 1, .slice B45 m45 e45] 49); replace D5 := D5.al (.cells #[.int .i64 0, .string { data := #[] }, .int .i64 1, .slice B45 m45 e45] 49); replace V := V.al (.cells #[.int .i64 0, .string { data := #[] }, .int .i64 1, .slice B45 m45 e45] 49); replace N := N.al (.cells #[.int .i64 0, .string { data := #[] }, .int .i64 1, .slice B45 m45 e45] 49); replace M := M.al (.cells #[.int .i64 0, .string { data := #[] }, .int .i64 1, .slice B45 m45 e45] 49)
        have h25 := M5.n2_
        simp only [List.length_cons, List.length_nil] at h25
        subst h25
        clear cV fV
        (try clear cD5 fD5); have cD5 := D5.cell; have fD5 := D5.frozen; (try clear cR5 fR5); have cR5 := R5.cell; have fR5 := R5.frozen; (try clear cV fV); have cV := V.cell; have fV := V.frozen
        go_wp2_with fail
        refine (sameTexts_eq _ _ _ _ _ _ is_ is_ _ N.i M.sl rfl).mono ?_
        rintro e w6 ⟨rfl, hb6⟩
        go_wp2_with fail
        go_ret
        exact ⟨rfl, (by repeat (first | (with_reducible exact Below.refl _ _) | (with_reducible assumption) | (with_reducible refine Below.drew ?_) | (with_reducible refine bdrewN ?_ _) | (with_reducible refine balloc ?_ _) | ((with_reducible refine bset ?_ ?_ _); rotate_left; (focus first | exact Nat.le_refl _ | (simp; done) | (simp; omega) | omega)) | (with_reducible refine bstep ?_ (by with_reducible assumption)) | (with_reducible refine Below.trans ?_ (by with_reducible assumption))))⟩
      · go_wp2_with fail
        refine (HDO.out _ nil_vsl).mono ?_; rintro e w5 ⟨B15, m15, e15, B25, m25, e25, B35, m35, e35, B45, m45, e45, rfl, M5, L5, T5, hb5⟩; replace V := V.bl hb5; replace N := N.bl hb5; replace M := M.bl hb5; replace q : Below w.heap.size w w5 := (by repeat (first | (with_reducible exact Below.refl _ _) | (with_reducible assumption) | (with_reducible refine Below.drew ?_) | (with_reducible refine bdrewN ?_ _) | (with_reducible refine balloc ?_ _) | ((with_reducible refine bset ?_ ?_ _); rotate_left; (focus first | exact Nat.le_refl _ | (simp; done) | (simp; omega) | omega)) | (with_reducible refine bstep ?_ (by with_reducible assumption)) | (with_reducible refine Below.trans ?_ (by with_reducible assumption)))); clear hb5
        have D5 := Blk.new w5 40 #[.int .i64 4, .string { data := #[] }, .int .i64 0, .slice B15 m15 e15, .slice B25 m25 e25, .slice B35 m35 e35]; replace M5 := M5.al (.cells #[.int .i64 4, .string { data := #[] }, .int .i64 0, .slice B15 m15 e15, .slice B25 m25 e25, .slice B35 m35 e35] 40); replace L5 := L5.al (.cells #[.int .i64 4, .string { data := #[] }, .int .i64 0, .slice B15 m15 e15, .slice B25 m25 e25, .slice B35 m35 e35] 40); replace V := V.al (.cells #[.int .i64 4, .string { data := #[] }, .int .i64 0, .slice B15 m15 e15, .slice B25 m25 e25, .slice B35 m35 e35] 40); replace N := N.al (.cells #[.int .i64 4, .string { data := #[] }, .int .i64 0, .slice B15 m15 e15, .slice B25 m25 e25, .slice B35 m35 e35] 40); replace M := M.al (.cells #[.int .i64 4, .string { data := #[] }, .int .i64 0, .slice B15 m15 e15, .slice B25 m25 e25, .slice B35 m35 e35] 40); have R5 : Blk ((w5.alloc (.cells #[.int .i64 4, .string { data := #[] }, .int .i64 0, .slice B15 m15 e15, .slice B25 m25 e25, .slice B35 m35 e35] 40)).alloc (.cells #[.int .i64 0, .string { data := #[] }, .int .i64 1, .slice B45 m45 e45] 49)) (w5.heap.size + 1) 49 #[.int .i64 0, .string { data := #[] }, .int .i64 1, .slice B45 m45 e45] := Blk.new' _ _ _ (by simp); replace M5 := M5.al (.cells #[.int .i64 0, .string { data := #[] }, .int .i64 1, .slice B45 m45 e45] 49); replace L5 := L5.al (.cells #[.int .i64 0, .string { data := #[] }, .int .i64 1, .slice B45 m45 e45] 49); replace D5 := D5.al (.cells #[.int .i64 0, .string { data := #[] }, .int .i64 1, .slice B45 m45 e45] 49); replace V := V.al (.cells #[.int .i64 0, .string { data := #[] }, .int .i64 1, .slice B45 m45 e45] 49); replace N := N.al (.cells #[.int .i64 0, .string { data := #[] }, .int .i64 1, .slice B45 m45 e45] 49); replace M := M.al (.cells #[.int .i64 0, .string { data := #[] }, .int .i64 1, .slice B45 m45 e45] 49)
        have h25 := M5.n2_
        simp only [List.length_cons, List.length_nil] at h25
        subst h25
        clear cV fV
        (try clear cD5 fD5); have cD5 := D5.cell; have fD5 := D5.frozen; (try clear cR5 fR5); have cR5 := R5.cell; have fR5 := R5.frozen; (try clear cV fV); have cV := V.cell; have fV := V.frozen
        go_wp2_with fail
        refine (sameTexts_eq _ _ _ _ _ _ is_ is_ _ N.i M.sl rfl).mono ?_
        rintro e w6 ⟨rfl, hb6⟩
        go_wp2_with fail
        go_ret
        exact ⟨rfl, (by repeat (first | (with_reducible exact Below.refl _ _) | (with_reducible assumption) | (with_reducible refine Below.drew ?_) | (with_reducible refine bdrewN ?_ _) | (with_reducible refine balloc ?_ _) | ((with_reducible refine bset ?_ ?_ _); rotate_left; (focus first | exact Nat.le_refl _ | (simp; done) | (simp; omega) | omega)) | (with_reducible refine bstep ?_ (by with_reducible assumption)) | (with_reducible refine Below.trans ?_ (by with_reducible assumption))))⟩
set_option maxRecDepth 100000 in
theorem listModel_lifted (os : Os) (started : os.Started) (H : Type) (enc : TypeId × Value → H) :
  ReturnsInHanded {} Try.checked os 4 .any (Rows.listModelSpec.pre6 enc Try.prog Try.f4 Rows.listModelRow.domain false) (Rows.listModelSpec.post enc Try.prog Try.f4 false true false false) := by
  refine returnsInHanded_of_change (C := Try.checked) Try.own started (by kernel_rfl) Try.func4 (ChangeSpec.witness6 (enc := enc) (C := Try.checked) false ⟨#[], #[.slice none 0 0], []⟩ 8 (by kernel_rfl) (by kernel_rfl) (by kernel_rfl) (by kernel_rfl)) ?_
  intro W base args ds gs before hval0 hW hcnd _
  have hval : ∀ (j : Nat) t v, Try.f4.params[j]? = some t → args[j]? = some v → Value.okWide Try.prog W .any base t v := hval0
  have hW' := hW
  obtain ⟨p, q, hA0, hV, rfl, hfz, hnd⟩ := hW
  have hA : DataW.TrodAll enc Try.prog W 0 (fun _ => true) true Try.f4.params.toList args.toList ds p := hA0
  rw [Try.params4] at hA hval
  obtain ⟨rfl, rfl⟩ := trodVars_none hV
  clear hA0 hval0 hcnd hV hfz hnd
  obtain ⟨v0, d0, rfl, rfl, h0⟩ := trodAll_one hA
  obtain ⟨A, n, c, l, rfl, hd, hS⟩ := open_raws (hval 0 35 v0 rfl rfl) h0
  refine (listModel_walk A n c l W hS hd).mono fun e W' ⟨he, hb⟩ => ?_
  subst he
  exact ⟨_, rfl, post_law Try.laidOut hW' rfl (by kernel_rfl) rfl Try.underlying4 (fun _ => rfl) (fun _ => rfl) (fun _ => rfl) hb⟩
theorem listModel_holds : Rows.ListModelSaid := OpenClaim.holds_of_wide 4 Try.f4 rfl rfl rfl rfl rfl rfl rfl ⟨rfl, rfl, rfl, rfl, rfl⟩ rfl rfl rfl rfl rfl (by kernel_rfl) Try.func4 (by kernel_rfl)
  (of_decide_eq_true (by kernel_rfl)) (by unfold Func.isWrapper; first | (rw [if_pos (by decide +kernel)]; kernel_rfl) | (rw [if_neg (by decide +kernel)]; exact ⟨rfl, rfl⟩))
  (fun os started H enc _ => listModel_lifted os started H enc)
#print axioms listModel_holds
end Go.Proofs.Ytpdadlofgfdlpaa
