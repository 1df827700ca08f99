/- A value as memory holds it; value.own. -/
import Derived.Test.YtpdadlofgfdlpaaVal
import Derived.Test.YtpdadlofgfdlpaaHeldX
import Derived.Test.YtpdadlofgfdlpaaTrack
namespace Go.Proofs.Ytpdadlofgfdlpaa
set_option linter.all false
open Go.RowKit
structure Va where
  kind : Int
  text : ByteArray
  count : Int
  pairs : List Pr
  items : List ByteArray
  scores : List Sc
/-- The three slices read as the value's. -/
structure VSl (w : World) (v : Va) (A1 : Option Addr) (n1 c1 : Nat) (A2 : Option Addr) (n2 c2 : Nat) (A3 : Option Addr) (n3 c3 : Nat) : Prop where
  p : Sl w 2 A1 n1 c1 (pairRows v.pairs)
  i : Sl w 1 A2 n2 c2 (strRows v.items)
  s : Sl w 2 A3 n3 c3 (scoreRows v.scores)
section
variable {w w' : World} {v : Va} {A1 A2 A3 : Option Addr} {n1 c1 n2 c2 n3 c3 : Nat}
theorem VSl.bl (h : VSl w v A1 n1 c1 A2 n2 c2 A3 n3 c3) (hb : Below w.heap.size w w') : VSl w' v A1 n1 c1 A2 n2 c2 A3 n3 c3 := ⟨h.p.below hb, h.i.below hb, h.s.below hb⟩
theorem VSl.al (h : VSl w v A1 n1 c1 A2 n2 c2 A3 n3 c3) (o : Obj) : VSl (w.alloc o) v A1 n1 c1 A2 n2 c2 A3 n3 c3 := ⟨h.p.alloc o, h.i.alloc o, h.s.alloc o⟩
theorem VSl.dr (h : VSl w v A1 n1 c1 A2 n2 c2 A3 n3 c3) : VSl w.drew v A1 n1 c1 A2 n2 c2 A3 n3 c3 := ⟨h.p.drew, h.i.drew, h.s.drew⟩
theorem VSl.n1_ (h : VSl w v A1 n1 c1 A2 n2 c2 A3 n3 c3) : v.pairs.length = n1 := by have := h.p.len; simpa [pairRows] using this
theorem VSl.n2_ (h : VSl w v A1 n1 c1 A2 n2 c2 A3 n3 c3) : v.items.length = n2 := by have := h.i.len; simpa [strRows] using this
theorem VSl.n3_ (h : VSl w v A1 n1 c1 A2 n2 c2 A3 n3 c3) : v.scores.length = n3 := by have := h.s.len; simpa [scoreRows] using this
end
theorem str_one : ∀ (l : List ByteArray), ∀ r ∈ strRows l, ∀ u ∈ r, u.oneCell' = true := by
  intro l r hr u hu
  obtain ⟨x, _, rfl⟩ := List.mem_map.1 hr
  simp only [List.mem_cons, List.not_mem_nil, or_false] at hu
  subst hu; rfl
theorem own_far {w : World} {B g size : Nat} {e t : TypeId} {v : Value} {rows : List (List Value)} {cs : Array Value} (h : Own w B e size v rows) (hb : Blk w g t cs) (i : Nat) (u : Value) (hne : t ≠ e := by decide) : Own (w.setCell ⟨g, i, none⟩ u) B e size v rows := by
  refine ⟨⟨h.1.1, ?_⟩, h.2⟩
  rcases h.1.2 with h1 | ⟨b, cap, cur, h1, h2, h3, h4⟩
  · exact .inl h1
  · refine .inr ⟨b, cap, cur, h1, h2, ?_, h4⟩
    have hbg : b ≠ g := by
      intro e
      subst e
      unfold Blk at hb
      rw [hb] at h3
      injection h3 with h3
      injection h3 with _ h3
      exact hne h3
    rw [Below.heap_setCell w _ u b (by simpa using hbg)]
    exact h3
theorem own_slice {w : World} {B size : Nat} {e : TypeId} {v : Value} {rows : List (List Value)} (h : Own w B e size v rows) : ∃ A n c, v = .slice A n c := by
  obtain ⟨A, c, hv, _⟩ := h.sl
  exact ⟨A, _, c, hv⟩
def VNew (w : World) (B : Nat) (v : Va) (s1 s2 s3 : Value) : Prop :=
  Own w B 114 2 s1 (pairRows v.pairs) ∧ Own w B 9 1 s2 (strRows v.items) ∧ Own w B 116 2 s3 (scoreRows v.scores)
def OwnPost (v : Va) (w : World) (e : Ending) (w' : World) : Prop :=
  ∃ A1 n1 c1 A2 n2 c2 A3 n3 c3, e = .returned (.agg #[.int .i64 v.kind, .string v.text, .int .i64 v.count, .slice A1 n1 c1, .slice A2 n2 c2, .slice A3 n3 c3]) ∧ VNew w' w.heap.size v (.slice A1 n1 c1) (.slice A2 n2 c2) (.slice A3 n3 c3) ∧ Below w.heap.size w w'
set_option maxHeartbeats 4000000 in
theorem own_any (v : Va) (A1 A2 A3 : Option Addr) (n1 c1 n2 c2 n3 c3 : Nat) (w : World) (h : VSl w v A1 n1 c1 A2 n2 c2 A3 n3 c3) (l1 : n1 ≤ 1048576) (l2 : n2 ≤ 1048576) (l3 : n3 ≤ 1048576) :
    Calls Try.prog 51 #[.agg #[.int .i64 v.kind, .string v.text, .int .i64 v.count, .slice A1 n1 c1, .slice A2 n2 c2, .slice A3 n3 c3]] w (OwnPost v w) := by
  obtain ⟨kind, text, count, ps, is_, ss⟩ := v
  simp only
  go_enter Try.func51, Try.ntmps51
  go_wp2_with fail
  have h0 := ((h.al (.cells #[.int .i64 kind, .string text, .int .i64 count, .slice A1 n1 c1, .slice A2 n2 c2, .slice A3 n3 c3] 40)).al (.cells #[.int .i64 0, .string { data := #[] }, .int .i64 0, .slice none 0 0, .slice none 0 0, .slice none 0 0] 40)).dr
  have B0 : Blk ((w.alloc (.cells #[.int .i64 kind, .string text, .int .i64 count, .slice A1 n1 c1, .slice A2 n2 c2, .slice A3 n3 c3] 40)).alloc (.cells #[.int .i64 0, .string { data := #[] }, .int .i64 0, .slice none 0 0, .slice none 0 0, .slice none 0 0] 40)).drew w.heap.size 40 #[.int .i64 kind, .string text, .int .i64 count, .slice A1 n1 c1, .slice A2 n2 c2, .slice A3 n3 c3] := (Blk.new _ _ _).alloc _
  have R0 : Blk ((w.alloc (.cells #[.int .i64 kind, .string text, .int .i64 count, .slice A1 n1 c1, .slice A2 n2 c2, .slice A3 n3 c3] 40)).alloc (.cells #[.int .i64 0, .string { data := #[] }, .int .i64 0, .slice none 0 0, .slice none 0 0, .slice none 0 0] 40)).drew (w.heap.size + 1) 40 #[.int .i64 0, .string { data := #[] }, .int .i64 0, .slice none 0 0, .slice none 0 0, .slice none 0 0] := Blk.new' _ _ _ (by simp)
  have q0 : Below w.heap.size w ((w.alloc (.cells #[.int .i64 kind, .string text, .int .i64 count, .slice A1 n1 c1, .slice A2 n2 c2, .slice A3 n3 c3] 40)).alloc (.cells #[.int .i64 0, .string { data := #[] }, .int .i64 0, .slice none 0 0, .slice none 0 0, .slice none 0 0] 40)).drew := (by repeat (first | (with_reducible exact Below.refl _ _) | (with_reducible assumption) | (with_reducible refine Below.drew ?_) | (with_reducible refine bdrewN ?_ _) | (with_reducible refine balloc ?_ _) | ((with_reducible refine bset ?_ ?_ _); rotate_left; (focus first | exact Nat.le_refl _ | (simp; done) | (simp; omega) | omega)) | (with_reducible refine bstep ?_ (by with_reducible assumption)) | (with_reducible refine Below.trans ?_ (by with_reducible assumption))))
  refine wp_region_x (l := [10, 11, 12, 13, 14]) (S := fun w' => w'.cell? ⟨w.heap.size, 3, none⟩ = some (.slice A1 n1 c1) ∧ w'.cell? ⟨w.heap.size, 4, none⟩ = some (.slice A2 n2 c2) ∧ w'.cell? ⟨w.heap.size, 5, none⟩ = some (.slice A3 n3 c3)) (by kernel_rfl) ⟨B0.cell 3, B0.cell 4, B0.cell 5⟩ (fun hS => ?_)
  refine wpAnyX_take (i := 0) (v := ?xv0) rfl (by kernel_rfl) (by kernel_rfl) (by kernel_rfl) (by kernel_rfl) (fun _ _ _ h => h) (Or.inl ⟨by rfl, ?xh0⟩) (by assumption) ?xr0; (case xh0 => (intro w hSw; (try dsimp only at hSw); go_simp; (try with_reducible rfl))); (try simp only [Act.put, List.setIfInBounds_toArray, List.set_cons_zero, List.set_cons_succ, List.getElem_toArray, List.getElem_cons_zero, List.getElem_cons_succ])
  refine wpAnyX_take (i := 1) (v := ?xv1) rfl (by kernel_rfl) (by kernel_rfl) (by kernel_rfl) (by kernel_rfl) (fun _ _ _ h => h) (Or.inl ⟨by rfl, ?xh1⟩) (by assumption) ?xr1; (case xh1 => (intro w hSw; (try dsimp only at hSw); go_simp; (try with_reducible rfl))); (try simp only [Act.put, List.setIfInBounds_toArray, List.set_cons_zero, List.set_cons_succ, List.getElem_toArray, List.getElem_cons_zero, List.getElem_cons_succ])
  refine wpAnyX_take (i := 3) (v := ?xv3) rfl (by kernel_rfl) (by kernel_rfl) (by kernel_rfl) (by kernel_rfl) (fun _ _ _ h => h) (Or.inl ⟨by rfl, ?xh3⟩) (by assumption) ?xr3; (case xh3 => (intro w hSw; (try dsimp only at hSw); go_simp; (try with_reducible rfl))); (try simp only [Act.put, List.setIfInBounds_toArray, List.set_cons_zero, List.set_cons_succ, List.getElem_toArray, List.getElem_cons_zero, List.getElem_cons_succ])
  refine wpAnyX_take (i := 4) (v := ?xv4) rfl (by kernel_rfl) (by kernel_rfl) (by kernel_rfl) (by kernel_rfl) (fun _ _ _ h => h) (Or.inl ⟨by rfl, ?xh4⟩) (by assumption) ?xr4; (case xh4 => (intro w hSw; (try dsimp only at hSw); go_simp; (try with_reducible rfl))); (try simp only [Act.put, List.setIfInBounds_toArray, List.set_cons_zero, List.set_cons_succ, List.getElem_toArray, List.getElem_cons_zero, List.getElem_cons_succ])
  refine wpAnyX_take (i := 6) (v := ?xv6) rfl (by kernel_rfl) (by kernel_rfl) (by kernel_rfl) (by kernel_rfl) (fun _ _ _ h => h) (Or.inl ⟨by rfl, ?xh6⟩) (by assumption) ?xr6; (case xh6 => (intro w hSw; (try dsimp only at hSw); go_simp; (try with_reducible rfl))); (try simp only [Act.put, List.setIfInBounds_toArray, List.set_cons_zero, List.set_cons_succ, List.getElem_toArray, List.getElem_cons_zero, List.getElem_cons_succ])
  refine wpAnyX_take (i := 7) (v := ?xv7) rfl (by kernel_rfl) (by kernel_rfl) (by kernel_rfl) (by kernel_rfl) (fun _ _ _ h => h) (Or.inl ⟨by rfl, ?xh7⟩) (by assumption) ?xr7; (case xh7 => (intro w hSw; (try dsimp only at hSw); go_simp; (try with_reducible rfl))); (try simp only [Act.put, List.setIfInBounds_toArray, List.set_cons_zero, List.set_cons_succ, List.getElem_toArray, List.getElem_cons_zero, List.getElem_cons_succ])
  refine wpAnyX_one (i := 2) (by kernel_rfl) rfl (by rfl) (fun K hK => ?_); (try simp only [List.getElem_toArray, List.getElem_cons_zero, List.getElem_cons_succ])
  go_wp2_with fail
  ((with_reducible refine (Clone_pair _ _ _ _ _ h0.p (pair_one _) (by omega)).mono ?_); rintro e w1 ⟨s1, rfl, o1, b1⟩)
  obtain ⟨S1, m1, k1, rfl⟩ := own_slice o1
  go_wp2_with fail
  have h1 := h0.bl b1
  have B1 := B0.below' b1
  have R1 := R0.below' b1
  have q1 := bstep q0 b1
  refine hK.out _ _ (Or.inr ⟨B1.cell 3, B1.cell 4, B1.cell 5⟩) (fun hS => ?_)
  replace hS := hS.resolve_left (by decide)
  clear hK K h0 B0 R0 q0
  refine wpAnyX_take (i := 9) (v := ?xv9) rfl (by kernel_rfl) (by kernel_rfl) (by kernel_rfl) (by kernel_rfl) (fun _ _ _ h => h) (Or.inl ⟨by rfl, ?xh9⟩) (by assumption) ?xr9; (case xh9 => (intro w hSw; (try dsimp only at hSw); go_simp; (try with_reducible rfl))); (try simp only [Act.put, List.setIfInBounds_toArray, List.set_cons_zero, List.set_cons_succ, List.getElem_toArray, List.getElem_cons_zero, List.getElem_cons_succ])
  refine wpAnyX_one (i := 5) (by kernel_rfl) rfl (by rfl) (fun K hK => ?_); (try simp only [List.getElem_toArray, List.getElem_cons_zero, List.getElem_cons_succ])
  go_wp2_with fail
  ((with_reducible refine (Clone_text _ _ _ _ _ h1.i (str_one _) (by omega)).mono ?_); rintro e w2 ⟨s2, rfl, o2, b2⟩)
  obtain ⟨S2, m2, k2, rfl⟩ := own_slice o2
  go_wp2_with fail
  have h2 := h1.bl b2
  have B2 := B1.below' b2
  have R2 := R1.below' b2
  have q2 := bstep q1 b2
  replace o1 := (o1.below b2).mono (base' := w.heap.size) (by simp; omega)
  replace o2 := o2.mono (base' := w.heap.size) q1.size
  refine hK.out _ _ (Or.inr ⟨B2.cell 3, B2.cell 4, B2.cell 5⟩) (fun hS => ?_)
  replace hS := hS.resolve_left (by decide)
  clear hK K h1 B1 R1 q1
  refine wpAnyX_one (i := 8) (by kernel_rfl) rfl (by rfl) (fun K hK => ?_); (try simp only [List.getElem_toArray, List.getElem_cons_zero, List.getElem_cons_succ])
  go_wp2_with fail
  ((with_reducible refine (Clone_score _ _ _ _ _ h2.s (score_one _) (by omega)).mono ?_); rintro e w3 ⟨s3, rfl, o3, b3⟩)
  obtain ⟨S3, m3, k3, rfl⟩ := own_slice o3
  go_wp2_with fail
  have B3 := B2.below' b3
  have R3 := R2.below' b3
  have q3 := bstep q2 b3
  replace o1 := (o1.below b3)
  replace o2 := o2.below b3
  replace o3 := o3.mono (base' := w.heap.size) q2.size
  refine hK.out _ _ (Or.inr ⟨B3.cell 3, B3.cell 4, B3.cell 5⟩) (fun hS => ?_)
  clear hK K hS h2 B2 R2 q2
  (try clear cB3 fB3); have cB3 := B3.cell; have fB3 := B3.frozen
  refine wpAnyX_one (i := 10) (by kernel_rfl) rfl (by rfl) (fun K hK => ?_); (try simp only [List.getElem_toArray, List.getElem_cons_zero, List.getElem_cons_succ])
  go_wp2_with fail
  have B4 := B3.set' (i := 3) (u := (.slice S1 m1 k1)) rfl
  have R4 := R3.far (p := ⟨w.heap.size, 3, none⟩) (by simp) (.slice S1 m1 k1)
  have q4 := bset q3 (p := ⟨w.heap.size, 3, none⟩) (Nat.le_refl _) (.slice S1 m1 k1)
  replace o1 := own_far o1 B3 3 (.slice S1 m1 k1)
  replace o2 := own_far o2 B3 3 (.slice S1 m1 k1)
  replace o3 := own_far o3 B3 3 (.slice S1 m1 k1)
  refine hK.out _ _ (Or.inl (by decide)) (fun hS => ?_)
  clear hK K hS cB3 fB3 B3 R3 q3
  refine wpAnyX_pure (i := 11) (v := ?xv11) rfl (by kernel_rfl) (Or.inl ⟨by rfl, ?xh11⟩) (Or.inl (by kernel_rfl)) ?xr11; (case xh11 => (intro w; go_simp; (try with_reducible rfl))); (try simp only [Act.put, List.setIfInBounds_toArray, List.set_cons_zero, List.set_cons_succ, List.getElem_toArray, List.getElem_cons_zero, List.getElem_cons_succ])
  (try clear cB4 fB4); have cB4 := B4.cell; have fB4 := B4.frozen
  refine wpAnyX_one (i := 12) (by kernel_rfl) rfl (by rfl) (fun K hK => ?_); (try simp only [List.getElem_toArray, List.getElem_cons_zero, List.getElem_cons_succ])
  go_wp2_with fail
  have B5 := B4.set' (i := 4) (u := (.slice S2 m2 k2)) rfl
  have R5 := R4.far (p := ⟨w.heap.size, 4, none⟩) (by simp) (.slice S2 m2 k2)
  have q5 := bset q4 (p := ⟨w.heap.size, 4, none⟩) (Nat.le_refl _) (.slice S2 m2 k2)
  replace o1 := own_far o1 B4 4 (.slice S2 m2 k2)
  replace o2 := own_far o2 B4 4 (.slice S2 m2 k2)
  replace o3 := own_far o3 B4 4 (.slice S2 m2 k2)
  refine hK.out _ _ (Or.inl (by decide)) (fun hS => ?_)
  clear hK K hS cB4 fB4 B4 R4 q4
  refine wpAnyX_pure (i := 13) (v := ?xv13) rfl (by kernel_rfl) (Or.inl ⟨by rfl, ?xh13⟩) (Or.inl (by kernel_rfl)) ?xr13; (case xh13 => (intro w; go_simp; (try with_reducible rfl))); (try simp only [Act.put, List.setIfInBounds_toArray, List.set_cons_zero, List.set_cons_succ, List.getElem_toArray, List.getElem_cons_zero, List.getElem_cons_succ])
  (try clear cB5 fB5); have cB5 := B5.cell; have fB5 := B5.frozen
  refine wpAnyX_one (i := 14) (by kernel_rfl) rfl (by rfl) (fun K hK => ?_); (try simp only [List.getElem_toArray, List.getElem_cons_zero, List.getElem_cons_succ])
  go_wp2_with fail
  have B6 := B5.set' (i := 5) (u := (.slice S3 m3 k3)) rfl
  have R6 := R5.far (p := ⟨w.heap.size, 5, none⟩) (by simp) (.slice S3 m3 k3)
  have q6 := bset q5 (p := ⟨w.heap.size, 5, none⟩) (Nat.le_refl _) (.slice S3 m3 k3)
  replace o1 := own_far o1 B5 5 (.slice S3 m3 k3)
  replace o2 := own_far o2 B5 5 (.slice S3 m3 k3)
  replace o3 := own_far o3 B5 5 (.slice S3 m3 k3)
  refine hK.out _ _ (Or.inl (by decide)) (fun hS => ?_)
  clear hK K hS cB5 fB5 B5 R5 q5
  refine wpAnyX_done (by kernel_rfl) ?_ _
  (try clear cB6 fB6); have cB6 := B6.cell; have fB6 := B6.frozen; (try clear cR6 fR6); have cR6 := R6.cell; have fR6 := R6.frozen
  go_wp2_with fail
  have R7 := R6.set' (i := 0) (u := .int .i64 kind) rfl
  replace o1 := own_far o1 R6 0 (.int .i64 kind)
  replace o2 := own_far o2 R6 0 (.int .i64 kind)
  replace o3 := own_far o3 R6 0 (.int .i64 kind)
  have R8 := R7.set' (i := 1) (u := .string text) rfl
  replace o1 := own_far o1 R7 1 (.string text)
  replace o2 := own_far o2 R7 1 (.string text)
  replace o3 := own_far o3 R7 1 (.string text)
  have R9 := R8.set' (i := 2) (u := .int .i64 count) rfl
  replace o1 := own_far o1 R8 2 (.int .i64 count)
  replace o2 := own_far o2 R8 2 (.int .i64 count)
  replace o3 := own_far o3 R8 2 (.int .i64 count)
  have R10 := R9.set' (i := 3) (u := .slice S1 m1 k1) rfl
  replace o1 := own_far o1 R9 3 (.slice S1 m1 k1)
  replace o2 := own_far o2 R9 3 (.slice S1 m1 k1)
  replace o3 := own_far o3 R9 3 (.slice S1 m1 k1)
  have R11 := R10.set' (i := 4) (u := .slice S2 m2 k2) rfl
  replace o1 := own_far o1 R10 4 (.slice S2 m2 k2)
  replace o2 := own_far o2 R10 4 (.slice S2 m2 k2)
  replace o3 := own_far o3 R10 4 (.slice S2 m2 k2)
  have R12 := R11.set' (i := 5) (u := .slice S3 m3 k3) rfl
  replace o1 := own_far o1 R11 5 (.slice S3 m3 k3)
  replace o2 := own_far o2 R11 5 (.slice S3 m3 k3)
  replace o3 := own_far o3 R11 5 (.slice S3 m3 k3)
  (try clear cR12 fR12); have cR12 := R12.cell; have fR12 := R12.frozen
  refine bodyPost_ret (v := .agg #[.int .i64 kind, .string text, .int .i64 count, .slice S1 m1 k1, .slice S2 m2 k2, .slice S3 m3 k3]) ?_ rfl ⟨_, _, _, _, _, _, _, _, _, rfl, ⟨o1, o2, o3⟩, (by repeat (first | (with_reducible exact Below.refl _ _) | (with_reducible assumption) | (with_reducible refine Below.drew ?_) | (with_reducible refine bdrewN ?_ _) | (with_reducible refine balloc ?_ _) | ((with_reducible refine bset ?_ ?_ _); rotate_left; (focus first | exact Nat.le_refl _ | (simp; done) | (simp; omega) | omega)) | (with_reducible refine bstep ?_ (by with_reducible assumption)) | (with_reducible refine Below.trans ?_ (by with_reducible assumption))))⟩
  simp [results, Try.results51, go_sem, *]
end Go.Proofs.Ytpdadlofgfdlpaa
