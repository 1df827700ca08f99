/- rostrumkeep.sameStore; which keys are there. -/
import Derived.Test.YtpdadlofgfdlpaaStoE
import Derived.Test.YtpdadlofgfdlpaaSame
namespace Go.Proofs.Ytpdadlofgfdlpaa
set_option linter.all false
open Go.RowKit
section
variable {l : List En} {k : ByteArray}
theorem cmpB_key {a b : ByteArray} (h : cmpB a b < 0) : a ≠ b := by
  rintro rfl
  rw [cmpB_self] at h; omega
theorem has_iff (hr : l.Pairwise Rk) : keyHas k l = true ↔ ∃ x ∈ l, x.key = k := by
  constructor
  · intro h
    exact ⟨_, List.getElem_mem (keyHas_lt h), keyHas_eq h⟩
  · rintro ⟨x, hx, hk⟩
    cases hh : keyHas k l with
    | true => rfl
    | false =>
      obtain ⟨j, hj, rfl⟩ := List.mem_iff_getElem.1 hx
      rcases Nat.lt_or_ge j (keyAt k l) with hlt | hge
      · exact absurd hk (cmpB_key (key_h1 j hj hlt))
      · exact absurd hk.symm (cmpB_key (key_after hr hh j hj hge))
theorem rk_ne (hr : l.Pairwise Rk) : l.Pairwise (fun a b => a.key ≠ b.key) := hr.imp fun h => cmpB_key h
theorem mem_del_k {α β : Type} {key : α → β} {y : α} : ∀ {l : List α} {k : Nat} (_ : l.Pairwise (fun a b => key a ≠ key b)) (hk : k < l.length), y ∈ delRows l k ↔ y ∈ l ∧ key y ≠ key l[k] := by
  intro l
  induction l with
  | nil => intro k _ hk; simp at hk
  | cons x l ih =>
    intro k h hk
    rw [List.pairwise_cons] at h
    cases k with
    | zero =>
      simp only [delRows, List.take_zero, List.nil_append, List.drop_succ_cons, List.drop_zero, List.mem_cons, List.getElem_cons_zero]
      exact ⟨fun hy => ⟨.inr hy, fun e => h.1 y hy e.symm⟩, fun hy => hy.1.resolve_left (fun e => hy.2 (by rw [e]))⟩
    | succ k =>
      have hk' : k < l.length := by simpa using hk
      have := ih h.2 hk'
      simp only [delRows, List.take_succ_cons, List.cons_append, List.drop_succ_cons, List.mem_cons, List.getElem_cons_succ] at this ⊢
      rw [this]
      constructor
      · rintro (rfl | hy)
        · exact ⟨.inl rfl, h.1 _ (List.getElem_mem hk')⟩
        · exact ⟨.inr hy.1, hy.2⟩
      · rintro ⟨rfl | hy, hne⟩
        · exact .inl rfl
        · exact .inr ⟨hy, hne⟩
theorem del_has (hr : l.Pairwise Rk) (h : keyHas k l = true) : keyHas k (delRows l (keyAt k l)) = false := by
  cases hh : keyHas k (delRows l (keyAt k l)) with
  | false => rfl
  | true =>
    obtain ⟨x, hx, hk⟩ := (has_iff (del_pair hr)).1 hh
    have := ((mem_del_k (key := En.key) (rk_ne hr) (keyHas_lt h)).1 hx).2
    rw [keyHas_eq h] at this
    exact absurd hk this
end
/-- Whether a key is there. -/
theorem entry_has (now : Int) (A : Option Addr) (n c : Nat) (l : List En) (key : ByteArray) (w : World) (hS : St w A n c l) (hl : l.length ≤ 1048576) (hr : l.Pairwise Rk) :
    Calls Try.prog 28 #[.agg #[.int .i64 now, .slice A n c], .string key] w fun e w' => ∃ (s0 s2 : ByteArray) (i1 i3 i7 : Int) (A1 A2 A3 : Option Addr) (n1 c1 n2 c2 n3 c3 : Nat),
      e = .returned (.tuple #[.agg #[.string s0, .int .i64 i1, .string s2, .int .i64 i3, .slice A1 n1 c1, .slice A2 n2 c2, .slice A3 n3 c3, .int .i64 i7], .bool (keyHas key l)]) ∧ Below w.heap.size w w' := by
  refine (entry_any now A n c l key w hS hl).mono ?_
  rintro e w' ⟨h | h, hb⟩
  · obtain ⟨x, hx, hk, A1, n1, c1, A2, n2, c2, A3, n3, c3, he, _, _⟩ := h
    exact ⟨_, _, _, _, _, A1, A2, A3, n1, c1, n2, c2, n3, c3, by rw [he, (has_iff hr).2 ⟨x, hx, hk⟩], hb⟩
  · have hh : keyHas key l = false := by
      cases hh : keyHas key l with
      | false => rfl
      | true => obtain ⟨x, hx, hk⟩ := (has_iff hr).1 hh; exact absurd hk (h.1 x hx)
    exact ⟨_, _, _, _, _, none, none, none, 0, 0, 0, 0, 0, 0, by rw [h.2, hh], hb⟩
set_option maxRecDepth 100000 in
set_option maxHeartbeats 8000000 in
theorem sameStore_eq (now : Int) (A B : Option Addr) (n m c d : Nat) (l : List En) (w : World) (ha : St w A n c l) (hb : St w B m d l) (hl : l.length ≤ 1048576) :
    Calls Try.prog 30 #[.agg #[.int .i64 now, .slice A n c], .agg #[.int .i64 now, .slice B m d]] w fun e w' => e = .returned (.bool true) ∧ Below w.heap.size w w' := by
  have hn := ha.sl.len
  have hm := hb.sl.len
  subst hn
  subst hm
  have X0 := (Blk.new w 25 #[.int .i64 now, .slice A l.length c]).alloc (.cells #[.int .i64 now, .slice B l.length d] 25)
  have Z0 : Blk ((w.alloc (.cells #[.int .i64 now, .slice A l.length c] 25)).alloc (.cells #[.int .i64 now, .slice B l.length d] 25)) (w.heap.size + 1) 25 #[.int .i64 now, .slice B l.length d] := Blk.new' _ _ _ (by simp)
  have q0 : Below w.heap.size w ((w.alloc (.cells #[.int .i64 now, .slice A l.length c] 25)).alloc (.cells #[.int .i64 now, .slice B l.length d] 25)) := (by repeat (first | (with_reducible exact Below.refl _ _) | (with_reducible assumption) | (with_reducible refine Below.drew ?_) | (with_reducible refine bdrewN ?_ _) | (with_reducible refine balloc ?_ _) | ((with_reducible refine bset ?_ ?_ _); rotate_left; (focus first | exact Nat.le_refl _ | (simp; done) | (simp; omega) | omega)) | (with_reducible refine bstep ?_ (by with_reducible assumption)) | (with_reducible refine Below.trans ?_ (by with_reducible assumption))))
  go_enter Try.func30, Try.ntmps30
  go_wp2_with fail
  go_loopw [5] (fun i wr => ∃ k : Nat, k ≤ l.length ∧ i = .int .i64 k ∧ Blk wr w.heap.size 25 #[.int .i64 now, .slice A l.length c] ∧ Blk wr (w.heap.size + 1) 25 #[.int .i64 now, .slice B l.length d] ∧ Below w.heap.size w wr) (fun i _ => l.length - (intOf i).toNat)
  case atStart => exact ⟨0, by omega, rfl, X0, Z0, q0⟩
  case round =>
    obtain ⟨k, hk, rfl, X, Z, hbr⟩ := hrel
    clear X0 Z0 q0
    have Sa := ha.bl hbr; have Sb := hb.bl hbr
    have lx := X.lt; have lz := Z.lt
    (try clear cX fX); have cX := X.cell; have fX := X.frozen; (try clear cZ fZ); have cZ := Z.cell; have fZ := Z.frozen
    by_cases hlt : k < l.length
    · obtain ⟨b1, o1, A1, n1, c1, A2, n2, c2, A3, n3, c3, rfl, hb1, E1, N1, T1⟩ := Sa.sl.at_ hlt
      obtain ⟨b2, o2, B1, m1, d1, B2, m2, d2, B3, m3, d3, rfl, hb2, E2, N2, T2⟩ := Sb.sl.at_ hlt
      generalize l[k] = x at E1 E2 N1 N2
      clear Sa Sb T1 T2 ha hb
      obtain ⟨xk, ⟨vk, vt, vc, ps, is_, ss⟩, xt⟩ := x
      obtain ⟨e0, e1, e2, e3, e4, e5, e6, e7⟩ := E1
      obtain ⟨g0, g1, g2, g3, g4, g5, g6, g7⟩ := E2
      simp only at e0 e1 e2 e3 e7 g0 g1 g2 g3 g7
      have hC := fun w' (hw : Below wr.heap.size wr w') => sameValue_eq ⟨vk, vt, vc, ps, is_, ss⟩ ⟨vk, vt, vc, ps, is_, ss⟩ A1 A2 A3 B1 B2 B3 n1 c1 n2 c2 n3 c3 m1 d1 m2 d2 m3 d3 w' (N1.bl hw) (N2.bl hw) rfl
      have HC := hide hC
      clear hC N1 N2
      go_wp2_with fail
      refine (HC.out _ (by repeat (first | (with_reducible exact Below.refl _ _) | (with_reducible assumption) | (with_reducible refine Below.drew ?_) | (with_reducible refine bdrewN ?_ _) | (with_reducible refine balloc ?_ _) | ((with_reducible refine bset ?_ ?_ _); rotate_left; (focus first | exact Nat.le_refl _ | (simp; done) | (simp; omega) | omega)) | (with_reducible refine bstep ?_ (by with_reducible assumption)) | (with_reducible refine Below.trans ?_ (by with_reducible assumption))))).mono ?_
      rintro e w1 ⟨rfl, hb1'⟩
      have q1 : Below wr.heap.size wr w1 := (by repeat (first | (with_reducible exact Below.refl _ _) | (with_reducible assumption) | (with_reducible refine Below.drew ?_) | (with_reducible refine bdrewN ?_ _) | (with_reducible refine balloc ?_ _) | ((with_reducible refine bset ?_ ?_ _); rotate_left; (focus first | exact Nat.le_refl _ | (simp; done) | (simp; omega) | omega)) | (with_reducible refine bstep ?_ (by with_reducible assumption)) | (with_reducible refine Below.trans ?_ (by with_reducible assumption))))
      go_wp2_with fail
      go_roundw
      case rel => exact ⟨k + 1, by omega, by go_num, X.bl q1, Z.bl q1, bstep hbr q1⟩
      case measure => simp [intOf]; omega
    · obtain rfl : k = l.length := by omega
      go_wp2_with fail
      go_ret
      exact ⟨rfl, (by repeat (first | (with_reducible exact Below.refl _ _) | (with_reducible assumption) | (with_reducible refine Below.drew ?_) | (with_reducible refine bdrewN ?_ _) | (with_reducible refine balloc ?_ _) | ((with_reducible refine bset ?_ ?_ _); rotate_left; (focus first | exact Nat.le_refl _ | (simp; done) | (simp; omega) | omega)) | (with_reducible refine bstep ?_ (by with_reducible assumption)) | (with_reducible refine Below.trans ?_ (by with_reducible assumption))))⟩
end Go.Proofs.Ytpdadlofgfdlpaa
