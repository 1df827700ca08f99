/- Steps: opened, read; rostrumkeep.Store. -/
import Derived.Test.YtpdadlofgfdlpaaStoL
namespace Go.Proofs.Ytpdadlofgfdlpaa
set_option linter.all false
open Go.ChangeShapes Go.WideShapes Go.ChangeAt Go.RowKit
structure StepD where
  raw : RawD
  wait : Int
def StepD.ok (d : StepD) : Prop := d.raw.ok ∧ I64 d.wait
def StepD.cells (d : StepD) : List Value := d.raw.cells ++ [.int .i64 d.wait]
def stepAtoms : List Atom := [.int .i64, .int .i64, .int .i64, .int .i64, .str, .int .i64]
theorem fits_step {l : List Value} (h : Fits stepAtoms l) : ∃ d : StepD, l = d.cells ∧ d.ok := by
  obtain ⟨_, _, rfl, ⟨a, rfl, ha⟩, h_1⟩ := fits_cons h
  obtain ⟨_, _, rfl, ⟨b, rfl, hb⟩, h_2⟩ := fits_cons h_1
  obtain ⟨_, _, rfl, ⟨c, rfl, hc⟩, h_3⟩ := fits_cons h_2
  obtain ⟨_, _, rfl, ⟨d, rfl, hd⟩, h_4⟩ := fits_cons h_3
  obtain ⟨_, _, rfl, ⟨s, rfl, hs⟩, h_5⟩ := fits_cons h_4
  obtain ⟨_, _, rfl, ⟨t, rfl, ht⟩, h_6⟩ := fits_cons h_5
  obtain rfl := fits_nil h_6
  exact ⟨⟨⟨a, b, c, d, s⟩, t⟩, rfl, ⟨i64_bounds ha, i64_bounds hb, i64_bounds hc, i64_bounds hd, hs⟩, i64_bounds ht⟩
def stepRows (l : List StepD) : List (List Value) := l.map StepD.cells
theorem Sl.step {w : World} {A : Option Addr} {n c : Nat} {l : List StepD} (h : Sl w 6 A n c (stepRows l)) {k : Nat} (hk : k < l.length) :
    ∃ b off, A = some ⟨b, off, none⟩ ∧ b < w.heap.size ∧ RawAt w b (off + k * 6) l[k].raw ∧ w.cell? ⟨b, off + k * 6 + 5, none⟩ = some (.int .i64 l[k].wait) := by
  obtain ⟨b, off, e, hb, hc⟩ := h.seg.at_ (i := k) (by simpa [stepRows] using hk)
  have hc' : ∀ j u, l[k].cells[j]? = some u → w.cell? ⟨b, off + k * 6 + j, none⟩ = some u := by
    intro j u hu
    rw [Nat.add_assoc]
    exact hc j u (by simpa [stepRows] using hu)
  exact ⟨b, off, e, hb, ⟨hc' 0 _ rfl, hc' 1 _ rfl, hc' 2 _ rfl, hc' 3 _ rfl, hc' 4 _ rfl⟩, hc' 5 _ rfl⟩
theorem step_len {w : World} {A : Option Addr} {n c : Nat} {l : List StepD} (h : Sl w 6 A n c (stepRows l)) : l.length = n := by have := h.len; simpa [stepRows] using this
section
variable {H : Type} {enc : TypeId × Value → H} {w : World} {base : Nat} {spare : Nat → Bool} {held : Bool} {v : Value} {d : DataW H} {p : List MemPlace}
set_option maxRecDepth 100000 in
theorem step_atoms : atoms Try.prog 3 57 = some stepAtoms := by kernel_rfl
set_option maxRecDepth 100000 in
theorem open_step {r : Reach} {b0 : Nat} (hv : Value.okWide Try.prog w r b0 57 v) (h : DataW.Trod enc Try.prog w base spare held 57 v d p) : ∃ x : StepD, v = .agg x.cells.toArray ∧ x.ok := by
  obtain ⟨⟨cs⟩, rfl, hf⟩ := open_flat 3 Try.underlying57 step_atoms hv h
  obtain ⟨x, rfl, hx⟩ := fits_step hf
  exact ⟨x, rfl, hx⟩
set_option maxRecDepth 100000 in
theorem open_steps {r : Reach} {b0 : Nat} (hv : Value.okWide Try.prog w r b0 55 v) (h : DataW.Trod enc Try.prog w base spare held 55 v d p) :
    ∃ A n c, ∃ l : List StepD, v = .slice A n c ∧ (∀ x ∈ l, x.ok) ∧ Sl w 6 A n c (stepRows l) := by
  obtain ⟨a0, len, cap, rfl⟩ := okWide_slice Try.underlying55 hv
  obtain ⟨fuel, hf⟩ := h
  obtain ⟨A, n, c, rows, he, h3, h4⟩ := seg_of_slice 3 Try.underlying55 step_atoms (by kernel_rfl) (by decide) hf
  obtain ⟨l, rfl, hl⟩ := rows_map fits_step rows h3
  exact ⟨A, n, c, l, he, hl, h4⟩
end
def cmdD (r : RawD) : Cmd := cmdOf r.kind r.key r.field r.n r.text
/-- What a step makes of a store. -/
def stepS (s : Int × List En) (x : StepD) : Int × List En := (s.1 + picked x.wait 12, (doS (s.1 + picked x.wait 12) (alive (s.1 + picked x.wait 12) s.2) (cmdD x.raw)).1)
def storeOf (l : List StepD) : Int × List En := (l.take 40).foldl stepS (0, [])
theorem stepS_ok {now : Int} {l : List En} (h : StOk now l) (x : StepD) (hn : now ≤ 1000000) : StOk (stepS (now, l) x).1 (stepS (now, l) x).2 := by
  have h0 := picked_lo x.wait 12 (by omega)
  have h1 := picked_hi x.wait 12 (by omega)
  exact doS_ok (alive_ok h (by show now ≤ now + _; omega) (by show now + _ ≤ _; omega)) (cmd_ok _ _ _ _ _)
theorem fold_ok : ∀ (l : List StepD) (s : Int × List En), StOk s.1 s.2 → s.1 + 12 * l.length ≤ 1000000 → StOk (l.foldl stepS s).1 (l.foldl stepS s).2 ∧ (l.foldl stepS s).1 ≤ s.1 + 12 * l.length
  | [], s, h, hn => ⟨h, by simp⟩
  | x :: l, s, h, hn => by
    have h0 := picked_lo x.wait 12 (by omega)
    have h1 := picked_hi x.wait 12 (by omega)
    simp only [List.length_cons] at hn
    have e : (stepS s x).1 = s.1 + picked x.wait 12 := rfl
    have := fold_ok l (stepS s x) (stepS_ok h x (by omega)) (by omega)
    simp only [List.length_cons, List.foldl_cons]
    exact ⟨this.1, by omega⟩
theorem storeOf_ok (l : List StepD) : StOk (storeOf l).1 (storeOf l).2 ∧ (storeOf l).1 ≤ 480 := by
  have h := fold_ok (l.take 40) (0, []) (nil_ok (by omega) (by omega)) (by rw [List.length_take]; simp only; omega)
  have h2 : (l.take 40).length ≤ 40 := by rw [List.length_take]; omega
  exact ⟨h.1, by have := h.2; unfold storeOf; simp only at this; omega⟩
theorem sto_step {s : Int × List En} {l : List StepD} {k : Nat} (hk : k < l.length) (h40 : k < 40) (h : Hid (storeOf l = ((l.take 40).drop k).foldl stepS s)) : Hid (storeOf l = ((l.take 40).drop (k + 1)).foldl stepS (stepS s l[k])) := by
  refine hide (h.out.trans ?_)
  rw [List.drop_eq_getElem_cons (show k < (l.take 40).length by rw [List.length_take]; omega), List.foldl_cons, List.getElem_take]
theorem sto_end {s : Int × List En} {l : List StepD} {k : Nat} (hk : ¬ (k < l.length ∧ k < 40)) (h : Hid (storeOf l = ((l.take 40).drop k).foldl stepS s)) : storeOf l = s := by
  refine h.out.trans ?_
  rw [List.drop_eq_nil_of_le (by rw [List.length_take]; omega)]; rfl
def StorePost (s : Int × List En) (w : World) (e : Ending) (w' : World) : Prop :=
  ∃ A n c, e = .returned (.agg #[.int .i64 s.1, .slice A n c]) ∧ St w' A n c s.2 ∧ Below w.heap.size w w'
theorem CommandS_any (r : RawD) (hr : r.ok) (w : World) : Calls Try.prog 20 #[.agg #[.int .i64 r.kind, .int .i64 r.key, .int .i64 r.field, .int .i64 r.n, .string r.text]] w fun e w' => e = .returned (cmdV (cmdD r)) ∧ Below w.heap.size w w' := by
  obtain ⟨⟨k1, k2⟩, ⟨y1, y2⟩, ⟨f1, f2⟩, ⟨n1, n2⟩, hx⟩ := hr
  exact Command_any r.kind r.key r.field r.n r.text w k1 k2 y1 y2 f1 f2 n1 n2 hx (picked r.kind 22) rfl (picked_lo _ _ (by omega)) (picked_hi _ _ (by omega))
set_option maxRecDepth 100000 in
set_option maxHeartbeats 8000000 in
theorem Store_any (A : Option Addr) (n c : Nat) (l : List StepD) (w : World) (hS : Sl w 6 A n c (stepRows l)) (hd : ∀ d ∈ l, d.ok) :
    Calls Try.prog 24 #[.slice A n c] w (StorePost (storeOf l) w) := by
  have hn := step_len hS
  subst hn
  have hlm := hS.nc
  have hlm' := hS.cm
  unfold maxLen at hlm'
  have HD := hide hd; clear hd
  have Z0 := (Blk.new w 25 #[.int .i64 0, .slice none 0 0]).alloc (.cells #[.int .i64 0, .slice none 0 0] 25)
  have V0 : Blk ((w.alloc (.cells #[.int .i64 0, .slice none 0 0] 25)).alloc (.cells #[.int .i64 0, .slice none 0 0] 25)) (w.heap.size + 1) 25 #[.int .i64 0, .slice none 0 0] := Blk.new' _ _ _ (by simp)
  go_enter Try.func24, Try.ntmps24
  go_wp2_with fail
  go_loopw [4, 5] (fun s4 s5 wr => ∃ k : Nat, k ≤ l.length ∧ k ≤ 40 ∧ s5 = .int .i64 k ∧ ∃ (now : Int) (es : List En) (A1 : Option Addr) (n1 c1 : Nat), s4 = .int .i64 now ∧ now ≤ 12 * k ∧
      (∃ z0 z1, Blk wr w.heap.size 25 #[z0, z1]) ∧ Blk wr (w.heap.size + 1) 25 #[.int .i64 now, .slice A1 n1 c1] ∧ St wr A1 n1 c1 es ∧
      Hid (storeOf l = ((l.take 40).drop k).foldl stepS (now, es)) ∧ Hid (StOk now es) ∧ Below w.heap.size w wr)
    (fun _ s5 _ => l.length - (intOf s5).toNat)
  case atStart => exact ⟨0, by omega, by omega, rfl, 0, [], none, 0, 0, rfl, by omega, ⟨_, _, Z0⟩, V0, St.nil _, hide rfl, hide (nil_ok (by omega) (by omega)), (by repeat (first | (with_reducible exact Below.refl _ _) | (with_reducible assumption) | (with_reducible refine Below.drew ?_) | (with_reducible refine bdrewN ?_ _) | (with_reducible refine balloc ?_ _) | ((with_reducible refine bset ?_ ?_ _); rotate_left; (focus first | exact Nat.le_refl _ | (simp; done) | (simp; omega) | omega)) | (with_reducible refine bstep ?_ (by with_reducible assumption)) | (with_reducible refine Below.trans ?_ (by with_reducible assumption))))⟩
  case round =>
    obtain ⟨k, hk', hk40, rfl, now, es, A1, n1, c1, rfl, hnow, ⟨z0, z1, Z⟩, V, N, HQ, HM, hbr⟩ := hrel
    clear Z0 V0
    have hbs := hbr.size
    have hv1 := V.lt
    by_cases hlt : k < l.length ∧ k < 40
    · obtain ⟨hlt, hlt40⟩ := hlt
      obtain ⟨b, off, rfl, hbb, R, i5⟩ := (hS.below hbr).step hlt
      have HQ' := sto_step hlt hlt40 HQ
      have hdk : (l[k]).ok := HD.out _ (List.getElem_mem hlt)
      generalize l[k] = r at R HQ' hdk i5
      have h0 := HM.out.now0
      have p0 := picked_lo r.wait 12 (by omega)
      have p1 := picked_hi r.wait 12 (by omega)
      have hpk := fun w => picked_any r.wait 12 w hdk.2.1 hdk.2.2 (by omega) (by omega)
      have hmk := fun w => CommandS_any r.raw hdk.1 w
      have hmay := stepS_ok HM.out r (by omega)
      have hap : ∀ t, t = now + picked r.wait 12 → applyS now es t (cmdD r.raw) = (((stepS (now, es) r).1, (stepS (now, es) r).2), (doS t (alive t es) (cmdD r.raw)).2, 0) := fun t ht => by
        rw [apply_ok HM.out (by omega) (by omega) (show ccOf (cmdD r.raw) = 0 from cmd_ok _ _ _ _ _), ht]; rfl
      have e1 : (stepS (now, es) r).1 = now + picked r.wait 12 := rfl
      have hDo := fun w h => Apply_may HM.out (now + picked r.wait 12) (cmdD r.raw) _ (hap _ rfl) (by omega) (by omega) A1 n1 c1 w h
      rw [e1] at hDo hmay
      have HQ2 : Hid (storeOf l = ((l.take 40).drop (k + 1)).foldl stepS (now + picked r.wait 12, (stepS (now, es) r).2)) := HQ'
      clear hap e1 HQ'
      generalize (doS (now + picked r.wait 12) (alive (now + picked r.wait 12) es) (cmdD r.raw)).2 = RE at *
      generalize (stepS (now, es) r).2 = es' at *
      obtain ⟨⟨rk, ry, rf, rr, rx⟩, rw_⟩ := r
      simp only at p0 p1 hpk hmk hDo hmay HQ2 i5
      generalize hcm : cmdD ⟨rk, ry, rf, rr, rx⟩ = cm at *
      clear hcm hdk
      generalize picked rw_ 12 = p at *
      obtain ⟨ck, cy, cf, ct, cn⟩ := cm
      obtain ⟨rc, rt, rn, rl⟩ := RE
      simp only [cmdV] at hmk hDo
      have wp : IntKind.i64.wrap (now + p) = now + p := IntWalk.i64_in _ (by omega)
      have HP := hide hpk; have HMK := hide hmk; have HDO := hide hDo; have HMY := hide hmay
      clear hmk hDo hmay hpk
      obtain ⟨i0, i1, i2, i3, i4⟩ := R
      simp only at i0 i1 i2 i3 i4
      (try clear cV fV); have cV := V.cell; have fV := V.frozen
      go_wp2_with fail
      refine (HP.out _).mono ?_
      rintro e w' ⟨rfl, rfl⟩
      go_wp2_with fail
      have hsG : ∀ w', Below wr.heap.size wr w' → (w'.cell? ⟨w.heap.size + 1, 0, none⟩ = some (.int .i64 now) ∧ w'.cell? ⟨w.heap.size + 1, 1, none⟩ = some (.slice A1 n1 c1) ∧ w'.cell? ⟨b, off + k * 6, none⟩ = some (.int .i64 rk) ∧ w'.cell? ⟨b, off + k * 6 + 1, none⟩ = some (.int .i64 ry) ∧ w'.cell? ⟨b, off + k * 6 + 2, none⟩ = some (.int .i64 rf) ∧ w'.cell? ⟨b, off + k * 6 + 3, none⟩ = some (.int .i64 rr) ∧ w'.cell? ⟨b, off + k * 6 + 4, none⟩ = some (.string rx)) := fun w' q => by
        have V' := V.below' q
        have R' := (RawAt.mk i0 i1 i2 i3 i4 : RawAt wr b (off + k * 6) ⟨rk, ry, rf, rr, rx⟩).bl hbb q
        exact ⟨V'.cell 0, V'.cell 1, R'.c0, R'.c1, R'.c2, R'.c3, R'.c4⟩
      refine wp_region_x (l := []) (S := fun w' => w'.cell? ⟨w.heap.size + 1, 0, none⟩ = some (.int .i64 now) ∧ w'.cell? ⟨w.heap.size + 1, 1, none⟩ = some (.slice A1 n1 c1) ∧ w'.cell? ⟨b, off + k * 6, none⟩ = some (.int .i64 rk) ∧ w'.cell? ⟨b, off + k * 6 + 1, none⟩ = some (.int .i64 ry) ∧ w'.cell? ⟨b, off + k * 6 + 2, none⟩ = some (.int .i64 rf) ∧ w'.cell? ⟨b, off + k * 6 + 3, none⟩ = some (.int .i64 rr) ∧ w'.cell? ⟨b, off + k * 6 + 4, none⟩ = some (.string rx)) (by kernel_rfl) (hsG _ (Below.refl _ wr).drew) (fun hS => ?_)
      refine wpAnyX_take (i := 0) (v := ?xv0) rfl (by kernel_rfl) (by kernel_rfl) (by kernel_rfl) (by kernel_rfl) (fun _ _ _ h => h) (Or.inl ⟨by rfl, ?xh0⟩) (by assumption) ?xr0; (case xh0 => (intro w hSw; (try dsimp only at hSw); go_simp; (try with_reducible rfl))); (try simp only [Act.put, List.setIfInBounds_toArray, List.set_cons_zero, List.set_cons_succ, List.getElem_toArray, List.getElem_cons_zero, List.getElem_cons_succ])
      refine wpAnyX_take (i := 1) (v := ?xv1) rfl (by kernel_rfl) (by kernel_rfl) (by kernel_rfl) (by kernel_rfl) (fun _ _ _ h => h) (Or.inl ⟨by rfl, ?xh1⟩) (by assumption) ?xr1; (case xh1 => (intro w hSw; (try dsimp only at hSw); go_simp; (try with_reducible rfl))); (try simp only [Act.put, List.setIfInBounds_toArray, List.set_cons_zero, List.set_cons_succ, List.getElem_toArray, List.getElem_cons_zero, List.getElem_cons_succ])
      refine wpAnyX_take (i := 2) (v := ?xv2) rfl (by kernel_rfl) (by kernel_rfl) (by kernel_rfl) (by kernel_rfl) (fun _ _ _ h => h) (Or.inl ⟨by rfl, ?xh2⟩) (by assumption) ?xr2; (case xh2 => (intro w hSw; (try dsimp only at hSw); go_simp; (try with_reducible rfl))); (try simp only [Act.put, List.setIfInBounds_toArray, List.set_cons_zero, List.set_cons_succ, List.getElem_toArray, List.getElem_cons_zero, List.getElem_cons_succ])
      refine wpAnyX_take (i := 3) (v := ?xv3) rfl (by kernel_rfl) (by kernel_rfl) (by kernel_rfl) (by kernel_rfl) (fun _ _ _ h => h) (Or.inl ⟨by rfl, ?xh3⟩) (by assumption) ?xr3; (case xh3 => (intro w hSw; (try dsimp only at hSw); go_simp; (try with_reducible rfl))); (try simp only [Act.put, List.setIfInBounds_toArray, List.set_cons_zero, List.set_cons_succ, List.getElem_toArray, List.getElem_cons_zero, List.getElem_cons_succ])
      refine wpAnyX_take (i := 4) (v := ?xv4) rfl (by kernel_rfl) (by kernel_rfl) (by kernel_rfl) (by kernel_rfl) (fun _ _ _ h => h) (Or.inl ⟨by rfl, ?xh4⟩) (by assumption) ?xr4; (case xh4 => (intro w hSw; (try dsimp only at hSw); go_simp; (try with_reducible rfl))); (try simp only [Act.put, List.setIfInBounds_toArray, List.set_cons_zero, List.set_cons_succ, List.getElem_toArray, List.getElem_cons_zero, List.getElem_cons_succ])
      refine wpAnyX_take (i := 5) (v := ?xv5) rfl (by kernel_rfl) (by kernel_rfl) (by kernel_rfl) (by kernel_rfl) (fun _ _ _ h => h) (Or.inl ⟨by rfl, ?xh5⟩) (by assumption) ?xr5; (case xh5 => (intro w hSw; (try dsimp only at hSw); go_simp; (try with_reducible rfl))); (try simp only [Act.put, List.setIfInBounds_toArray, List.set_cons_zero, List.set_cons_succ, List.getElem_toArray, List.getElem_cons_zero, List.getElem_cons_succ])
      refine wpAnyX_take (i := 6) (v := ?xv6) rfl (by kernel_rfl) (by kernel_rfl) (by kernel_rfl) (by kernel_rfl) (fun _ _ _ h => h) (Or.inl ⟨by rfl, ?xh6⟩) (by assumption) ?xr6; (case xh6 => (intro w hSw; (try dsimp only at hSw); go_simp; (try with_reducible rfl))); (try simp only [Act.put, List.setIfInBounds_toArray, List.set_cons_zero, List.set_cons_succ, List.getElem_toArray, List.getElem_cons_zero, List.getElem_cons_succ])
      have HSG := hide hsG
      clear hsG hS cV fV i0 i1 i2 i3 i4 i5
      refine wpX_start (n := 9 + left2 false false) (listed := (fun b_ c_ => #[true, true, true, true, true, true, true, false, false, false, false, false, false, b_, c_, false, false, false]) false false) (j1 := 13) (d1 := 6) (t1 := 25) (z1 := #[.int .i64 0, .slice none 0 0]) (j2 := 14) (d2 := 7) (t2 := 49) (z2 := #[.int .i64 0, .string { data := #[] }, .int .i64 0, .slice none 0 0]) ?al1 ?al2 ?aln ?all (fun al1 al2 => ?alr); (case al1 => exact ⟨⟨_, rfl, rfl, rfl, fun a w => by simp [go_sem, execOp]⟩⟩); (case al2 => exact ⟨⟨_, rfl, rfl, rfl, fun a w => by simp [go_sem, execOp]⟩⟩); (case aln => kernel_rfl); (case all => kernel_rfl)
      refine' wpX_phase' (f := 8) (i := 7) (L := (fun b_ c_ => #[true, true, true, true, true, true, true, false, false, false, false, false, false, b_, c_, false, false, false])) (L' := (fun b_ c_ => #[true, true, true, true, true, true, true, true, false, false, false, false, false, b_, c_, false, false, false])) (base := wr.heap.size) (G := (fun w' => Below wr.heap.size wr w')) (b := false) (c := false) (x := u6) (y := u7) al1 al2 ?an7 ?al7 ?aa7 ?ar7 ?ai7 ?ag7 ?ae17 ?ae27 ?ae37 ?ap17 ?ap27 HSG.out (fun w' o q => q.alloc q.size o) (fun w' q => q.size) ?aw7 Pend.no Pend.no Two.no ?am7; (case an7 => rfl); (case al7 => rfl); (case aa7 => rfl); (case ar7 => kernel_rfl); (case ai7 => rfl); (case ag7 => rfl); (case ae17 => (intros; rfl)); (case ae27 => (intros; rfl)); (case ae37 => (intros; rfl)); (case ap17 => (intros; rfl)); (case ap27 => (intros; rfl))
      (case aw7 => exact (Below.refl _ wr).drew)
      intro b_ c_ x_ y_ wp1 hG_ hx_ hy_ hxy_ K_ hK_; (try simp only [Act.put, List.setIfInBounds_toArray, List.set_cons_zero, List.set_cons_succ, List.getElem_toArray, List.getElem_cons_zero, List.getElem_cons_succ])
      go_wp2_with fail
      refine (HMK.out _).mono ?_
      rintro e w4 ⟨rfl, hbp⟩
      go_wp2_with fail
      have qp : Below wr.heap.size wr w4 := bstep hG_ hbp
      have hSp := HSG.out _ qp
      refine hK_.out _ _ (Or.inr hSp) ?_
      clear hK_ K_ hG_
      refine' wpX_phase' (f := 7) (i := 8) (L := (fun b_ c_ => #[true, true, true, true, true, true, true, true, false, false, false, false, false, b_, c_, false, false, false])) (L' := (fun b_ c_ => #[true, true, true, true, true, true, true, true, true, false, false, false, false, b_, c_, false, false, false])) (base := wr.heap.size) (G := (fun w' => Below wr.heap.size wr w')) (b := b_) (c := c_) (x := x_) (y := y_) al1 al2 ?an8 ?al8 ?aa8 ?ar8 ?ai8 ?ag8 ?ae18 ?ae28 ?ae38 ?ap18 ?ap28 HSG.out (fun w' o q => q.alloc q.size o) (fun w' q => q.size) ?aw8 (hx_.bl hbp) (hy_.bl hbp) hxy_ ?am8; (case an8 => rfl); (case al8 => rfl); (case aa8 => rfl); (case ar8 => kernel_rfl); (case ai8 => rfl); (case ag8 => rfl); (case ae18 => (intros; rfl)); (case ae28 => (intros; rfl)); (case ae38 => (intros; rfl)); (case ap18 => (intros; rfl)); (case ap28 => (intros; rfl))
      (case aw8 => exact qp)
      clear hx_ hy_ hxy_ x_ y_ b_ c_ hbp
      intro b_ c_ x_ y_ wp2 hG_ hx_ hy_ hxy_ K_ hK_; (try simp only [Act.put, List.setIfInBounds_toArray, List.set_cons_zero, List.set_cons_succ, List.getElem_toArray, List.getElem_cons_zero, List.getElem_cons_succ])
      go_wp2_with fail
      refine (HDO.out _ (N.bl hG_)).mono ?_
      rintro e w6 ⟨B1, m1, e1, Y, m, d, rfl, N6, L6, T6, hbp⟩
      go_wp2_with fail
      have qp : Below wr.heap.size wr w6 := bstep hG_ hbp
      have hSp := HSG.out _ qp
      refine hK_.out _ _ (Or.inr hSp) ?_
      clear hK_ K_ hG_
      refine' wpX_take' (f := 6) (i := 9) (v := ?xv9) (L := (fun b_ c_ => #[true, true, true, true, true, true, true, true, true, false, false, false, false, b_, c_, false, false, false])) (L' := (fun b_ c_ => #[true, true, true, true, true, true, true, true, true, true, false, false, false, b_, c_, false, false, false])) ?tan9 ?tal9 rfl (by kernel_rfl) ?tar9 (by kernel_rfl) ?tae39 (fun _ _ _ h => h) (Or.inl ⟨by rfl, ?xh9⟩) ?taw9 ?xr9; (case tan9 => rfl); (case tal9 => rfl); (case tar9 => kernel_rfl); (case tae39 => (intros; rfl)); (case taw9 => assumption); (case xh9 => (intro w hSw; (try dsimp only at hSw); go_simp; (try with_reducible rfl))); (try simp only [Act.put, List.setIfInBounds_toArray, List.set_cons_zero, List.set_cons_succ, List.getElem_toArray, List.getElem_cons_zero, List.getElem_cons_succ])
      refine' wpX_take' (f := 5) (i := 10) (v := ?xv10) (L := (fun b_ c_ => #[true, true, true, true, true, true, true, true, true, true, false, false, false, b_, c_, false, false, false])) (L' := (fun b_ c_ => #[true, true, true, true, true, true, true, true, true, true, true, false, false, b_, c_, false, false, false])) ?tan10 ?tal10 rfl (by kernel_rfl) ?tar10 (by kernel_rfl) ?tae310 (fun _ _ _ h => h) (Or.inl ⟨by rfl, ?xh10⟩) ?taw10 ?xr10; (case tan10 => rfl); (case tal10 => rfl); (case tar10 => kernel_rfl); (case tae310 => (intros; rfl)); (case taw10 => assumption); (case xh10 => (intro w hSw; (try dsimp only at hSw); go_simp; (try with_reducible rfl))); (try simp only [Act.put, List.setIfInBounds_toArray, List.set_cons_zero, List.set_cons_succ, List.getElem_toArray, List.getElem_cons_zero, List.getElem_cons_succ])
      refine' wpX_take' (f := 4) (i := 11) (v := ?xv11) (L := (fun b_ c_ => #[true, true, true, true, true, true, true, true, true, true, true, false, false, b_, c_, false, false, false])) (L' := (fun b_ c_ => #[true, true, true, true, true, true, true, true, true, true, true, true, false, b_, c_, false, false, false])) ?tan11 ?tal11 rfl (by kernel_rfl) ?tar11 (by kernel_rfl) ?tae311 (fun _ _ _ h => h) (Or.inl ⟨by rfl, ?xh11⟩) ?taw11 ?xr11; (case tan11 => rfl); (case tal11 => rfl); (case tar11 => kernel_rfl); (case tae311 => (intros; rfl)); (case taw11 => assumption); (case xh11 => (intro w hSw; (try dsimp only at hSw); go_simp; (try with_reducible rfl))); (try simp only [Act.put, List.setIfInBounds_toArray, List.set_cons_zero, List.set_cons_succ, List.getElem_toArray, List.getElem_cons_zero, List.getElem_cons_succ])
      refine' wpX_take' (f := 3) (i := 12) (v := ?xv12) (L := (fun b_ c_ => #[true, true, true, true, true, true, true, true, true, true, true, true, false, b_, c_, false, false, false])) (L' := (fun b_ c_ => #[true, true, true, true, true, true, true, true, true, true, true, true, true, b_, c_, false, false, false])) ?tan12 ?tal12 rfl (by kernel_rfl) ?tar12 (by kernel_rfl) ?tae312 (fun _ _ _ h => h) (Or.inl ⟨by rfl, ?xh12⟩) ?taw12 ?xr12; (case tan12 => rfl); (case tal12 => rfl); (case tar12 => kernel_rfl); (case tae312 => (intros; rfl)); (case taw12 => assumption); (case xh12 => (intro w hSw; (try dsimp only at hSw); go_simp; (try with_reducible rfl))); (try simp only [Act.put, List.setIfInBounds_toArray, List.set_cons_zero, List.set_cons_succ, List.getElem_toArray, List.getElem_cons_zero, List.getElem_cons_succ])
      refine' wpX_lay' (f := 3) (L := (fun b_ c_ => #[true, true, true, true, true, true, true, true, true, true, true, true, true, b_, c_, false, false, false])) (base := wr.heap.size) (G := (fun w' => Below w6.heap.size w6 w')) (b := b_) (c := c_) (x := x_) (y := y_) al1 al2 ?anL ?alL ?aaL ?arL ?ae1L ?ae2L ?ap1L ?ap2L (fun w' q => HSG.out w' (bstep qp q)) (fun w' o q => q.alloc q.size o) (fun w' q => Nat.le_trans qp.size q.size) ?awL (hx_.bl hbp) (hy_.bl hbp) hxy_ ?amL; (case anL => rfl); (case alL => rfl); (case aaL => rfl); (case arL => kernel_rfl); (case ae1L => (intros; rfl)); (case ae2L => (intros; rfl)); (case ap1L => (intros; rfl)); (case ap2L => (intros; rfl))
      (case awL => exact Below.refl _ w6)
      clear hx_ hy_ hxy_ x_ y_ b_ c_ hSp
      intro g1 g2 w7 hb7 hg1 G1 hg2 G2 hgg
      have q7 : Below wr.heap.size wr w7 := bstep qp hb7
      clear al1 al2
      (try clear cG1 fG1); have cG1 := G1.cell; have fG1 := G1.frozen
      refine wpAnyX_one (i := 15) (by kernel_rfl) rfl (by rfl) (fun K hK => ?_); (try simp only [List.getElem_toArray, List.getElem_cons_zero, List.getElem_cons_succ])
      go_wp2_with fail
      refine hK.out _ _ (Or.inr (HSG.out _ (below_set (below_set q7 hg1 0 _) hg1 1 _))) (fun hS => ?_)
      clear hK K hS cG1 fG1
      have F0 := G2.far (p := ⟨g1, 0, none⟩) (by simpa using hgg.symm) (.int .i64 (now + p))
      have F1 := F0.far (p := ⟨g1, 1, none⟩) (by simpa using hgg.symm) (.slice B1 m1 e1)
      (try clear cF1 fF1); have cF1 := F1.cell; have fF1 := F1.frozen
      refine wpAnyX_one (i := 16) (by kernel_rfl) rfl (by rfl) (fun K hK => ?_); (try simp only [List.getElem_toArray, List.getElem_cons_zero, List.getElem_cons_succ])
      go_wp2_with fail
      refine hK.out _ _ (Or.inr (HSG.out _ (below_set (below_set (below_set (below_set (below_set (below_set q7 hg1 0 _) hg1 1 _) hg2 0 _) hg2 1 _) hg2 2 _) hg2 3 _))) (fun hS => ?_)
      replace hS := hS.resolve_left (by decide)
      clear hK K cF1 fF1
      refine wpAnyX_pure (i := 17) (v := ?xv17) rfl (by kernel_rfl) (Or.inl ⟨by rfl, ?xh17⟩) (Or.inr (by assumption)) ?xr17; (case xh17 => (intro w; go_simp; (try with_reducible rfl))); (try simp only [Act.put, List.setIfInBounds_toArray, List.set_cons_zero, List.set_cons_succ, List.getElem_toArray, List.getElem_cons_zero, List.getElem_cons_succ])
      clear hS
      refine wpAnyX_done (by kernel_rfl) ?_ _
      clear F0 F1
      obtain ⟨X1, gr1, sz1⟩ := whole_store (Value.int .i64 (now + p)) (Value.slice B1 m1 e1) G1
      have Y1 := grown_blk G2 gr1 hgg.symm
      obtain ⟨X2, gr2, sz2⟩ := whole_reply (Value.int .i64 rc) (Value.string rt) (Value.int .i64 rn) (Value.slice Y m d) Y1
      have X1' := grown_blk X1 gr2 hgg
      have q8 := below_grow (below_grow q7 gr1 q7.size hg1) gr2 (by rw [sz1]; exact q7.size) hg2
      have N8 := ((N6.bl hb7).grown G1 gr1).grown Y1 gr2
      have V8 := grown_blk (grown_blk (V.below' q7) gr1 (by omega)) gr2 (by omega)
      have Z8 := grown_blk (grown_blk (Z.below' q7) gr1 (by omega)) gr2 (by omega)
      obtain ⟨w8, hw8⟩ : ∃ w8, w8 = ((((((w7.setCell ⟨g1, 0, none⟩ (Value.int .i64 (now + p))).setCell ⟨g1, 1, none⟩ (Value.slice B1 m1 e1)).setCell ⟨g2, 0, none⟩ (Value.int .i64 rc)).setCell ⟨g2, 1, none⟩ (Value.string rt)).setCell ⟨g2, 2, none⟩ (Value.int .i64 rn)).setCell ⟨g2, 3, none⟩ (Value.slice Y m d)) := ⟨_, rfl⟩
      rw [← hw8] at q8 X1' X2 N8 V8 Z8 ⊢
      clear hw8 gr1 gr2 sz1 sz2 Y1 X1 G1 G2 q7 hb7
      have X1 := X1'
      clear X1'
      have hw8 := q8.size
      (try clear cX1 fX1); have cX1 := X1.cell; have fX1 := X1.frozen; (try clear cV8 fV8); have cV8 := V8.cell; have fV8 := V8.frozen
      go_wp2_with fail
      go_roundw
      case rel =>
        obtain ⟨V9, gr9, sz9⟩ := whole_store (.int .i64 (now + p)) (.slice B1 m1 e1) V8
        exact ⟨k + 1, by omega, by omega, by go_num, now + p, _, B1, m1, e1, rfl, by omega, ⟨_, _, grown_blk Z8 gr9 (by omega)⟩, V9, N8.grown V8 gr9, HQ2, HMY, below_grow (bstep hbr q8) gr9 (by omega) (by omega)⟩
      case measure => simp [intOf]; omega
    · have HE := hide (sto_end hlt HQ)
      (try clear cZ fZ); have cZ := Z.cell; have fZ := Z.frozen; (try clear cV fV); have cV := V.cell; have fV := V.frozen
      obtain ⟨Z9, gr9, sz9⟩ := whole_store (.int .i64 now) (.slice A1 n1 c1) Z
      have N9 := N.grown Z gr9
      have q9 := below_grow hbr gr9 (by omega) (Nat.le_refl _)
      have HP := hide (show StorePost (storeOf l) w (.returned (.agg #[.int .i64 now, .slice A1 n1 c1])) _ from ⟨A1, n1, c1, by rw [HE.out], by rw [HE.out]; exact N9, q9⟩)
      have cZ9 := hide Z9.cell
      clear N9 q9 gr9 sz9 HE
      by_cases h1 : k < l.length
      · have h40' : ¬ ((k : Int) < 40) := by omega
        go_wp2_with fail
        have cZ9 := cZ9.out
        refine bodyPost_ret (v := .agg #[.int .i64 now, .slice A1 n1 c1]) ?_ rfl HP.out
        simp [results, Try.results24, go_sem, cZ9]
      · go_wp2_with fail
        have cZ9 := cZ9.out
        refine bodyPost_ret (v := .agg #[.int .i64 now, .slice A1 n1 c1]) ?_ rfl HP.out
        simp [results, Try.results24, go_sem, cZ9]
end Go.Proofs.Ytpdadlofgfdlpaa
