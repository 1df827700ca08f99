/- store.own: a store in memory of its own. -/
import Derived.Test.YtpdadlofgfdlpaaEntD
import Derived.Test.YtpdadlofgfdlpaaDonP
namespace Go.Proofs.Ytpdadlofgfdlpaa
set_option linter.all false
open Go.RowKit
/-- 'append(out, x)' of one element that lies in a new block of its own; just the own block is written to. -/
theorem wpList_push_g {P : Program} {w : World} {ops : Array Oper} {rest : List Oper} {o : Oper} {a : Act} {Q : Exit → Act → World → Prop} (hgd : o.guard = none) (s x : Operand) (t : TypeId)
    (ho : o.op = .call { callee := .builtin .append, args := #[s, x], argTypes := #[t, t] })
    {base : Nat} {e : TypeId} {z : Value} {size bytes : Nat} (ht : P.underlying t = some (.slice e)) (hi : (P.info? e).map (fun i => (i.zero, i.size, i.bytes)) = some (some z, size, bytes)) (hzs : z.cells.size = size) (hsz : 0 < size)
    {A : Option Addr} {n c : Nat} {rows : List (List Value)} (hs : a.eval s = .slice A n c) (hown : Own w base e size (.slice A n c) rows) {H : Nat} (hH : w.heap.size = H) {row : Array Value} (hx : a.eval x = .slice (some ⟨H, 0, none⟩) 1 1) (hl : row.size = size) (h1 : ∀ u ∈ row.toList, u.oneCell' = true)
    (h63 : rows.length + 1 ≤ maxLen) (hbytes : (rows.length + 1) * bytes ≤ 140737488355328) (hbase : base ≤ w.heap.size)
    (h : ∀ A' n' c' w', Own w' base e size (.slice A' n' c') (rows ++ [row.toList]) → (w.alloc (.cells row e)).grownBy w' (Value.slice A n c).ownBlock → wpList P ops Q rest (a.put o.dst (.slice A' n' c')) w') : wpList P ops Q (o :: rest) a (w.alloc (.cells row e)) := by
  subst hH
  obtain ⟨i, hi1, hi2, hi3, hi4⟩ := info_parts hi
  refine wpList_append_own _ hgd s x t ho base e i z size bytes ht hi1 hi2 hi3 hi4 hzs hsz (.slice A n c) rows.length rows.flatten hs (hown.alloc _).1 ⟨w.heap.size, 0, none⟩ 1 1 row.toList hx (by simp [hl]) ?_ h1 h63 hbytes (by simp; omega) ?_
  · intro j u hu
    rw [Addr.add_lit]
    simp only [Nat.zero_add]
    rw [World.cell?_alloc_new, ← Array.getElem?_toList]; exact hu
  · intro v' w' h2 h3 _
    have ho2 : Own w' base e size v' (rows ++ [row.toList]) := by
      refine ⟨by simpa using h2, fun r hr => ?_⟩
      rcases List.mem_append.1 hr with hr | hr
      · exact hown.2 r hr
      · simp at hr; subst hr; simpa using hl
    obtain ⟨A', c', rfl, _⟩ := ho2.sl
    exact h A' _ c' w' ho2 h3
set_option maxHeartbeats 8000000 in
set_option maxRecDepth 100000 in
theorem ownS_any (now : Int) (A : Option Addr) (n c : Nat) (l : List En) (w : World) (h : StSl w A n c l) (hn : n ≤ 1048576) (hsm : ∀ x ∈ l, small x.val 1048576) :
    Calls Try.prog 56 #[.agg #[.int .i64 now, .slice A n c]] w fun e w' => ∃ A' n' c', e = .returned (.agg #[.int .i64 now, .slice A' n' c']) ∧ StOwn w' w.heap.size A' n' c' l ∧ Below w.heap.size w w' := by
  have hln := h.len
  have HSM := hide hsm
  clear hsm
  have R0 : Blk (((w.alloc (.cells #[.int .i64 now, .slice A n c] 25)).alloc (.cells #[.int .i64 0, .slice none 0 0] 25)).alloc (.cells #[.int .i64 now, .slice none 0 0] 25)) (w.heap.size + 1) 25 #[.int .i64 0, .slice none 0 0] := (Blk.new' _ _ _ (by simp)).alloc _
  have U0 : Blk (((w.alloc (.cells #[.int .i64 now, .slice A n c] 25)).alloc (.cells #[.int .i64 0, .slice none 0 0] 25)).alloc (.cells #[.int .i64 now, .slice none 0 0] 25)) (w.heap.size + 2) 25 #[.int .i64 now, .slice none 0 0] := Blk.new' _ _ _ (by simp)
  have hbs0 : Below w.heap.size w (((w.alloc (.cells #[.int .i64 now, .slice A n c] 25)).alloc (.cells #[.int .i64 0, .slice none 0 0] 25)).alloc (.cells #[.int .i64 now, .slice none 0 0] 25)) := (by repeat (first | (with_reducible exact Below.refl _ _) | (with_reducible assumption) | (with_reducible refine Below.drew ?_) | (with_reducible refine bdrewN ?_ _) | (with_reducible refine balloc ?_ _) | ((with_reducible refine bset ?_ ?_ _); rotate_left; (focus first | exact Nat.le_refl _ | (simp; done) | (simp; omega) | omega)) | (with_reducible refine bstep ?_ (by with_reducible assumption)) | (with_reducible refine Below.trans ?_ (by with_reducible assumption))))
  go_enter Try.func56, Try.ntmps56
  go_wp2_with fail
  go_loopw [13] (fun s13 wr => ∃ k : Nat, k ≤ n ∧ s13 = .int .i64 k ∧ ∃ A' n' c', Blk wr (w.heap.size + 1) 25 #[.int .i64 0, .slice none 0 0] ∧ Blk wr (w.heap.size + 2) 25 #[.int .i64 now, .slice A' n' c'] ∧ StOwn wr w.heap.size A' n' c' (l.take k) ∧ Below w.heap.size w wr) (fun s13 _ => n - (intOf s13).toNat)
  case atStart => exact ⟨0, by omega, rfl, none, 0, 0, R0, U0, ⟨[], Own.nil, trivial⟩, hbs0⟩
  case round =>
    obtain ⟨k, hk, rfl, A', n', c', R, U, ⟨rows, O, E⟩, q⟩ := hrel
    clear R0 U0 hbs0
    have hqs := q.size
    by_cases hlt : k < n
    · have hkl : k < l.length := by omega
      have hrl := E.len
      rw [List.length_take, Nat.min_eq_left (by omega)] at hrl
      have HRL := hide hrl
      clear hrl
      obtain ⟨b, off, A1, n1, c1, A2, n2, c2, A3, n3, c3, rfl, hb, ⟨i0, i1, i2, i3, i4, i5, i6, i7⟩, N, T⟩ := (h.bl q).at_ hkl
      have hsx := HSM.out _ (List.getElem_mem hkl)
      have hnext : l.take (k + 1) = l.take k ++ [l[k]] := List.take_succ_eq_append_getElem hkl
      generalize l[k] = x at N i0 i1 i2 i3 i7 hsx hnext
      obtain ⟨xk, ⟨kind, text, count, ps, is_, ss⟩, xt⟩ := x
      simp only at i0 i1 i2 i3 i7
      have l1 : n1 ≤ 1048576 := by have := N.n1_; have := hsx.1; simp only at *; omega
      have l2 : n2 ≤ 1048576 := by have := N.n2_; have := hsx.2.1; simp only at *; omega
      have l3 : n3 ≤ 1048576 := by have := N.n3_; have := hsx.2.2; simp only at *; omega
      have HN := hide hnext
      clear hnext hsx
      have hz1 : (0 : Int) ≤ (k : Int) := by omega
      have hz2 : (k : Int) < (n : Int) := by omega
      have bW : Below wr.heap.size wr ((wr.alloc (.cells #[.string xk, .int .i64 kind, .string text, .int .i64 count, .slice A1 n1 c1, .slice A2 n2 c2, .slice A3 n3 c3, .int .i64 xt] 65)).alloc (.cells #[.int .i64 kind, .string text, .int .i64 count, .slice A1 n1 c1, .slice A2 n2 c2, .slice A3 n3 c3] 40)) := (by repeat (first | (with_reducible exact Below.refl _ _) | (with_reducible assumption) | (with_reducible refine Below.drew ?_) | (with_reducible refine bdrewN ?_ _) | (with_reducible refine balloc ?_ _) | ((with_reducible refine bset ?_ ?_ _); rotate_left; (focus first | exact Nat.le_refl _ | (simp; done) | (simp; omega) | omega)) | (with_reducible refine bstep ?_ (by with_reducible assumption)) | (with_reducible refine Below.trans ?_ (by with_reducible assumption))))
      have X := (Blk.new wr 65 #[.string xk, .int .i64 kind, .string text, .int .i64 count, .slice A1 n1 c1, .slice A2 n2 c2, .slice A3 n3 c3, .int .i64 xt]).alloc (.cells #[.int .i64 kind, .string text, .int .i64 count, .slice A1 n1 c1, .slice A2 n2 c2, .slice A3 n3 c3] 40)
      have B0 : Blk ((wr.alloc (.cells #[.string xk, .int .i64 kind, .string text, .int .i64 count, .slice A1 n1 c1, .slice A2 n2 c2, .slice A3 n3 c3, .int .i64 xt] 65)).alloc (.cells #[.int .i64 kind, .string text, .int .i64 count, .slice A1 n1 c1, .slice A2 n2 c2, .slice A3 n3 c3] 40)) (wr.heap.size + 1) 40 #[.int .i64 kind, .string text, .int .i64 count, .slice A1 n1 c1, .slice A2 n2 c2, .slice A3 n3 c3] := Blk.new' _ _ _ (by simp)
      have V0 := N.bl bW
      go_wp2_with fail
      obtain ⟨W, hW⟩ : ∃ W, W = (wr.alloc (.cells #[.string xk, .int .i64 kind, .string text, .int .i64 count, .slice A1 n1 c1, .slice A2 n2 c2, .slice A3 n3 c3, .int .i64 xt] 65)).alloc (.cells #[.int .i64 kind, .string text, .int .i64 count, .slice A1 n1 c1, .slice A2 n2 c2, .slice A3 n3 c3] 40) := ⟨_, rfl⟩
      rw [← hW] at bW X B0 V0 ⊢
      clear hW i0 i1 i2 i3 i4 i5 i6 i7
      have h0 := V0.dr
      replace B0 := B0.drew
      have q0 : Below wr.heap.size wr W.drew := (by repeat (first | (with_reducible exact Below.refl _ _) | (with_reducible assumption) | (with_reducible refine Below.drew ?_) | (with_reducible refine bdrewN ?_ _) | (with_reducible refine balloc ?_ _) | ((with_reducible refine bset ?_ ?_ _); rotate_left; (focus first | exact Nat.le_refl _ | (simp; done) | (simp; omega) | omega)) | (with_reducible refine bstep ?_ (by with_reducible assumption)) | (with_reducible refine Below.trans ?_ (by with_reducible assumption))))
      refine wp_region_x (l := [10, 11, 12, 13, 14]) (S := fun w' => w'.cell? ⟨wr.heap.size + 1, 3, none⟩ = some (.slice A1 n1 c1) ∧ w'.cell? ⟨wr.heap.size + 1, 4, none⟩ = some (.slice A2 n2 c2) ∧ w'.cell? ⟨wr.heap.size + 1, 5, none⟩ = some (.slice A3 n3 c3)) (by kernel_rfl) ⟨B0.cell 3, B0.cell 4, B0.cell 5⟩ (fun hS => ?_)
      refine wpAnyX_take (i := 0) (v := ?xv0) rfl (by kernel_rfl) (by kernel_rfl) (by kernel_rfl) (by kernel_rfl) (fun _ _ _ h => h) (Or.inl ⟨by rfl, ?xh0⟩) (by assumption) ?xr0; (case xh0 => (intro w hSw; (try dsimp only at hSw); go_simp; (try with_reducible rfl))); (try simp only [Act.put, List.setIfInBounds_toArray, List.set_cons_zero, List.set_cons_succ, List.getElem_toArray, List.getElem_cons_zero, List.getElem_cons_succ])
      refine wpAnyX_take (i := 1) (v := ?xv1) rfl (by kernel_rfl) (by kernel_rfl) (by kernel_rfl) (by kernel_rfl) (fun _ _ _ h => h) (Or.inl ⟨by rfl, ?xh1⟩) (by assumption) ?xr1; (case xh1 => (intro w hSw; (try dsimp only at hSw); go_simp; (try with_reducible rfl))); (try simp only [Act.put, List.setIfInBounds_toArray, List.set_cons_zero, List.set_cons_succ, List.getElem_toArray, List.getElem_cons_zero, List.getElem_cons_succ])
      refine wpAnyX_take (i := 3) (v := ?xv3) rfl (by kernel_rfl) (by kernel_rfl) (by kernel_rfl) (by kernel_rfl) (fun _ _ _ h => h) (Or.inl ⟨by rfl, ?xh3⟩) (by assumption) ?xr3; (case xh3 => (intro w hSw; (try dsimp only at hSw); go_simp; (try with_reducible rfl))); (try simp only [Act.put, List.setIfInBounds_toArray, List.set_cons_zero, List.set_cons_succ, List.getElem_toArray, List.getElem_cons_zero, List.getElem_cons_succ])
      refine wpAnyX_take (i := 4) (v := ?xv4) rfl (by kernel_rfl) (by kernel_rfl) (by kernel_rfl) (by kernel_rfl) (fun _ _ _ h => h) (Or.inl ⟨by rfl, ?xh4⟩) (by assumption) ?xr4; (case xh4 => (intro w hSw; (try dsimp only at hSw); go_simp; (try with_reducible rfl))); (try simp only [Act.put, List.setIfInBounds_toArray, List.set_cons_zero, List.set_cons_succ, List.getElem_toArray, List.getElem_cons_zero, List.getElem_cons_succ])
      refine wpAnyX_take (i := 6) (v := ?xv6) rfl (by kernel_rfl) (by kernel_rfl) (by kernel_rfl) (by kernel_rfl) (fun _ _ _ h => h) (Or.inl ⟨by rfl, ?xh6⟩) (by assumption) ?xr6; (case xh6 => (intro w hSw; (try dsimp only at hSw); go_simp; (try with_reducible rfl))); (try simp only [Act.put, List.setIfInBounds_toArray, List.set_cons_zero, List.set_cons_succ, List.getElem_toArray, List.getElem_cons_zero, List.getElem_cons_succ])
      refine wpAnyX_take (i := 7) (v := ?xv7) rfl (by kernel_rfl) (by kernel_rfl) (by kernel_rfl) (by kernel_rfl) (fun _ _ _ h => h) (Or.inl ⟨by rfl, ?xh7⟩) (by assumption) ?xr7; (case xh7 => (intro w hSw; (try dsimp only at hSw); go_simp; (try with_reducible rfl))); (try simp only [Act.put, List.setIfInBounds_toArray, List.set_cons_zero, List.set_cons_succ, List.getElem_toArray, List.getElem_cons_zero, List.getElem_cons_succ])
      refine wpAnyX_one (i := 2) (by kernel_rfl) rfl (by rfl) (fun K hK => ?_); (try simp only [List.getElem_toArray, List.getElem_cons_zero, List.getElem_cons_succ])
      go_wp2_with fail
      ((with_reducible refine (Clone_pair _ _ _ _ _ h0.p (pair_one _) (by omega)).mono ?_); rintro e w1 ⟨s1, rfl, o1, b1⟩)
      obtain ⟨S1, m1, k1, rfl⟩ := own_slice o1
      go_wp2_with fail
      have h1 := h0.bl b1
      have B1 := B0.below' b1
      have q1 := bstep q0 b1
      refine hK.out _ _ (Or.inr ⟨B1.cell 3, B1.cell 4, B1.cell 5⟩) (fun hS => ?_)
      replace hS := hS.resolve_left (by decide)
      clear hK K h0 B0 q0
      refine wpAnyX_take (i := 9) (v := ?xv9) rfl (by kernel_rfl) (by kernel_rfl) (by kernel_rfl) (by kernel_rfl) (fun _ _ _ h => h) (Or.inl ⟨by rfl, ?xh9⟩) (by assumption) ?xr9; (case xh9 => (intro w hSw; (try dsimp only at hSw); go_simp; (try with_reducible rfl))); (try simp only [Act.put, List.setIfInBounds_toArray, List.set_cons_zero, List.set_cons_succ, List.getElem_toArray, List.getElem_cons_zero, List.getElem_cons_succ])
      refine wpAnyX_one (i := 5) (by kernel_rfl) rfl (by rfl) (fun K hK => ?_); (try simp only [List.getElem_toArray, List.getElem_cons_zero, List.getElem_cons_succ])
      go_wp2_with fail
      ((with_reducible refine (Clone_text _ _ _ _ _ h1.i (str_one _) (by omega)).mono ?_); rintro e w2 ⟨s2, rfl, o2, b2⟩)
      obtain ⟨S2, m2, k2, rfl⟩ := own_slice o2
      go_wp2_with fail
      have h2 := h1.bl b2
      have B2 := B1.below' b2
      have q2 := bstep q1 b2
      replace o1 := (o1.below b2)
      refine hK.out _ _ (Or.inr ⟨B2.cell 3, B2.cell 4, B2.cell 5⟩) (fun hS => ?_)
      replace hS := hS.resolve_left (by decide)
      clear hK K h1 B1 q1
      refine wpAnyX_one (i := 8) (by kernel_rfl) rfl (by rfl) (fun K hK => ?_); (try simp only [List.getElem_toArray, List.getElem_cons_zero, List.getElem_cons_succ])
      go_wp2_with fail
      ((with_reducible refine (Clone_score _ _ _ _ _ h2.s (score_one _) (by omega)).mono ?_); rintro e w3 ⟨s3, rfl, o3, b3⟩)
      obtain ⟨S3, m3, k3, rfl⟩ := own_slice o3
      go_wp2_with fail
      have B3 := B2.below' b3
      have q3 := bstep q2 b3
      replace o1 := (o1.below b3)
      replace o2 := o2.below b3
      refine hK.out _ _ (Or.inr ⟨B3.cell 3, B3.cell 4, B3.cell 5⟩) (fun hS => ?_)
      have bx3 : Below W.heap.size W w3 := bstep (bstep (Below.trans (Below.refl _ W).drew b1) b2) b3
      have X3 := X.below' bx3
      have U3 := U.below' q3; have R3 := R.below' q3; have O3 := O.below q3; have E3 := E.fr (Fr.of q3)
      have q9 : Below w.heap.size w w3 := bstep q q3
      clear hK K hS h2 B2 q2 b1 b2 b3 bx3 X U R O E q q3 bW V0
      have hsz3 : w.heap.size + 2 < w3.heap.size := U3.lt
      have hx3 := X3.lt
      have hb3' := B3.lt
      have hne : wr.heap.size + 1 ≠ w.heap.size + 2 := by intro e; exact blk_ne B3 U3 (by decide) e
      have hne2 : wr.heap.size + 1 ≠ w.heap.size + 1 := by intro e; exact blk_ne B3 R3 (by decide) e
      (try clear cB3 fB3); have cB3 := B3.cell; have fB3 := B3.frozen
      refine wpAnyX_one (i := 10) (by kernel_rfl) rfl (by rfl) (fun K hK => ?_); (try simp only [List.getElem_toArray, List.getElem_cons_zero, List.getElem_cons_succ])
      go_wp2_with fail
      have B4 := B3.set' (i := 3) (u := (.slice S1 m1 k1)) rfl
      refine hK.out _ _ (Or.inl (by decide)) (fun hS => ?_)
      clear hK K hS cB3 fB3
      refine wpAnyX_pure (i := 11) (v := ?xv11) rfl (by kernel_rfl) (Or.inl ⟨by rfl, ?xh11⟩) (Or.inl (by kernel_rfl)) ?xr11; (case xh11 => (intro w; go_simp; (try with_reducible rfl))); (try simp only [Act.put, List.setIfInBounds_toArray, List.set_cons_zero, List.set_cons_succ, List.getElem_toArray, List.getElem_cons_zero, List.getElem_cons_succ])
      (try clear cB4 fB4); have cB4 := B4.cell; have fB4 := B4.frozen
      refine wpAnyX_one (i := 12) (by kernel_rfl) rfl (by rfl) (fun K hK => ?_); (try simp only [List.getElem_toArray, List.getElem_cons_zero, List.getElem_cons_succ])
      go_wp2_with fail
      have B5 := B4.set' (i := 4) (u := (.slice S2 m2 k2)) rfl
      refine hK.out _ _ (Or.inl (by decide)) (fun hS => ?_)
      clear hK K hS cB4 fB4
      refine wpAnyX_pure (i := 13) (v := ?xv13) rfl (by kernel_rfl) (Or.inl ⟨by rfl, ?xh13⟩) (Or.inl (by kernel_rfl)) ?xr13; (case xh13 => (intro w; go_simp; (try with_reducible rfl))); (try simp only [Act.put, List.setIfInBounds_toArray, List.set_cons_zero, List.set_cons_succ, List.getElem_toArray, List.getElem_cons_zero, List.getElem_cons_succ])
      (try clear cB5 fB5); have cB5 := B5.cell; have fB5 := B5.frozen
      refine wpAnyX_one (i := 14) (by kernel_rfl) rfl (by rfl) (fun K hK => ?_); (try simp only [List.getElem_toArray, List.getElem_cons_zero, List.getElem_cons_succ])
      go_wp2_with fail
      have B6 := B5.set' (i := 5) (u := (.slice S3 m3 k3)) rfl
      refine hK.out _ _ (Or.inl (by decide)) (fun hS => ?_)
      clear hK K hS cB5 fB5
      refine wpAnyX_done (by kernel_rfl) ?_ _
      have gr : w3.grownBy (((w3.setCell ⟨wr.heap.size + 1, 3, none⟩ (.slice S1 m1 k1)).setCell ⟨wr.heap.size + 1, 4, none⟩ (.slice S2 m2 k2)).setCell ⟨wr.heap.size + 1, 5, none⟩ (.slice S3 m3 k3)) (some (wr.heap.size + 1)) :=
        grown_trans (grown_trans (grown_setRow_cell w3 _ _ _) (grown_setRow_cell _ _ _ _)) (grown_setRow_cell _ _ _ _)
      have fr := Fr.grown B3 gr
      have X6 := grown_blk X3 gr (by omega)
      have U6 := grown_blk U3 gr hne.symm
      have R6 := grown_blk R3 gr hne2.symm
      have q6 := below_grow q9 gr (by omega) (by omega)
      have vn : VSl w3 ⟨kind, text, count, ps, is_, ss⟩ S1 m1 k1 S2 m2 k2 S3 m3 k3 := ⟨o1.sl', o2.sl', o3.sl'⟩
      have tn : Tps w3 S1 S2 S3 := ⟨own_tp o1, own_tp o2, own_tp o3⟩
      have V6 := vn.fr tn fr
      have T6 := tn.fr fr
      have S6 : StOwn (((w3.setCell ⟨wr.heap.size + 1, 3, none⟩ (.slice S1 m1 k1)).setCell ⟨wr.heap.size + 1, 4, none⟩ (.slice S2 m2 k2)).setCell ⟨wr.heap.size + 1, 5, none⟩ (.slice S3 m3 k3)) w.heap.size A' n' c' (l.take k) := StOwn.grown ⟨rows, O3, E3⟩ B3 gr
      clear B4 B5 X3 U3 R3 O3 E3 vn tn o1 o2 o3 fr gr q9 B3 hne hne2
      obtain ⟨w6, hw6⟩ : ∃ w6, w6 = (((w3.setCell ⟨wr.heap.size + 1, 3, none⟩ (.slice S1 m1 k1)).setCell ⟨wr.heap.size + 1, 4, none⟩ (.slice S2 m2 k2)).setCell ⟨wr.heap.size + 1, 5, none⟩ (.slice S3 m3 k3)) := ⟨_, rfl⟩
      rw [← hw6] at X6 U6 R6 q6 V6 T6 S6 B6 ⊢
      clear hw6 hsz3 hx3 hb3'
      obtain ⟨rows6, O6, E6⟩ := S6
      have hrl := E6.len
      rw [List.length_take, Nat.min_eq_left (by omega)] at hrl
      have hq6 := q6.size
      have hux := U6.lt
      (try clear cX6 fX6); have cX6 := X6.cell; have fX6 := X6.frozen; (try clear cU6 fU6); have cU6 := U6.cell; have fU6 := U6.frozen; (try clear cB6 fB6); have cB6 := B6.cell; have fB6 := B6.frozen
      go_wp2_with (at_builtin; refine wpList_push_g rfl _ _ _ rfl Try.underlying23 ent_info_z rfl (by omega) (by rfl) O6 (H := w6.heap.size) rfl (by rfl) (row := #[.string xk, .int .i64 kind, .string text, .int .i64 count, .slice S1 m1 k1, .slice S2 m2 k2, .slice S3 m3 k3, .int .i64 xt]) rfl (all_one rfl) ?p1 ?p2 ?p3 ?p4)
      case p1 => unfold maxLen; omega
      case p2 => omega
      case p3 => exact hq6
      case p4 =>
        intro A9 n9 c9 w9 O9 gr9
        have ba : Below w6.heap.size w6 (w6.alloc (.cells #[.string xk, .int .i64 kind, .string text, .int .i64 count, .slice S1 m1 k1, .slice S2 m2 k2, .slice S3 m3 k3, .int .i64 xt] 65)) := (by repeat (first | (with_reducible exact Below.refl _ _) | (with_reducible assumption) | (with_reducible refine Below.drew ?_) | (with_reducible refine bdrewN ?_ _) | (with_reducible refine balloc ?_ _) | ((with_reducible refine bset ?_ ?_ _); rotate_left; (focus first | exact Nat.le_refl _ | (simp; done) | (simp; omega) | omega)) | (with_reducible refine bstep ?_ (by with_reducible assumption)) | (with_reducible refine Below.trans ?_ (by with_reducible assumption))))
        have O7 := O6.below ba
        have f9 := (Fr.of ba).trans (Fr.own O7 gr9)
        have U9 := blk_other (U6.below' ba) O7 gr9
        have R9 := blk_other (R6.below' ba) O7 gr9
        have q9 := (bstep q6 ba).trans (below_grown O7 gr9 (by simp; omega))
        have hq9 := q9.size
        have S9 : StOwn w9 w.heap.size A9 n9 c9 (l.take (k + 1)) := by
          refine ⟨_, O9, ?_⟩
          rw [HN.out]
          exact (E6.fr f9).app (Ens.one_ ⟨S1, m1, k1, S2, m2, k2, S3, m3, k3, rfl, V6.fr T6 f9, T6.fr f9⟩)
        clear cX6 fX6 cU6 fU6 cB6 fB6 O6 O9 gr9 ba O7 f9 U6 R6 X6 B6 V6 T6 E6
        have hu9 := U9.lt
        (try clear cU9 fU9); have cU9 := U9.cell; have fU9 := U9.frozen
        go_wp2_with fail
        go_roundw
        case rel =>
          have gu := grown_setRow_cell w9 (w.heap.size + 2) 1 (.slice A9 n9 c9)
          exact ⟨k + 1, by omega, by go_num, A9, n9, c9, grown_blk R9 gu (by omega), U9.set' (i := 1) (u := .slice A9 n9 c9) rfl, S9.grown U9 gu, below_grow q9 gu hq9 (by omega)⟩
        case measure => simp [intOf]; omega
    · obtain rfl : k = n := by omega
      have hfull : l.take k = l := List.take_of_length_le (by omega)
      rw [hfull] at E
      have hr1 := R.lt
      have hu1 := U.lt
      (try clear cU fU); have cU := U.cell; have fU := U.frozen; (try clear cR fR); have cR := R.cell; have fR := R.frozen
      go_wp2_with fail
      have R1 := R.set' (i := 0) (u := .int .i64 now) rfl
      have R2 := R1.set' (i := 1) (u := .slice A' n' c') rfl
      have gr := grown_trans (grown_setRow_cell wr (w.heap.size + 1) 0 (.int .i64 now)) (grown_setRow_cell _ (w.heap.size + 1) 1 (.slice A' n' c'))
      have cR2 := R2.cell
      refine bodyPost_ret (v := .agg #[.int .i64 now, .slice A' n' c']) ?_ rfl ⟨A', n', c', rfl, StOwn.grown ⟨rows, O, E⟩ R gr, below_grow q gr hqs (by omega)⟩
      simp [results, Try.results56, go_sem, cR2]
end Go.Proofs.Ytpdadlofgfdlpaa
