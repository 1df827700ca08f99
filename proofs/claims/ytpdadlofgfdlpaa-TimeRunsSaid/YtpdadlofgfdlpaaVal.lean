/- Slices of pairs and of scores: IndexFunc, ContainsFunc at whatever pure predicate; Clone of the three. -/
import Derived.Test.YtpdadlofgfdlpaaStr
import Derived.Test.YtpdadlofgfdlpaaOwn
namespace Go.Proofs.Ytpdadlofgfdlpaa
set_option linter.all false
open Go.RowKit
structure Pr where (field text : ByteArray)
structure Sc where (member : ByteArray) (n : Int)
def Pr.cells (x : Pr) : List Value := [.string x.field, .string x.text]
def Sc.cells (x : Sc) : List Value := [.string x.member, .int .i64 x.n]
def pairRows (l : List Pr) : List (List Value) := l.map Pr.cells
structure PrAt (w : World) (b o : Nat) (x : Pr) : Prop where
  c0 : w.cell? ⟨b, o, none⟩ = some (.string x.field)
  c1 : w.cell? ⟨b, o + 1, none⟩ = some (.string x.text)
theorem Seg.pair {w : World} {A : Option Addr} {l : List Pr} (h : Seg w 2 A (pairRows l)) {k : Nat} (hk : k < l.length) :
    ∃ b off, A = some ⟨b, off, none⟩ ∧ b < w.heap.size ∧ PrAt w b (off + k * 2) l[k] := by
  obtain ⟨b, off, e, hb, hc⟩ := h.at_ (i := k) (by simpa [pairRows] using hk)
  have hc' : ∀ j u, l[k].cells[j]? = some u → w.cell? ⟨b, off + k * 2 + j, none⟩ = some u := by
    intro j u hu
    rw [Nat.add_assoc]
    exact hc j u (by simpa [pairRows] using hu)
  exact ⟨b, off, e, hb, hc' 0 _ rfl, hc' 1 _ rfl⟩
theorem pair_one : ∀ (l : List Pr), ∀ r ∈ pairRows l, ∀ u ∈ r, u.oneCell' = true := by
  intro l r hr u hu
  obtain ⟨x, _, rfl⟩ := List.mem_map.1 hr
  simp only [Pr.cells, List.mem_cons, List.not_mem_nil, or_false] at hu
  rcases hu with rfl | rfl <;> rfl
theorem IndexFunc_pair (f : FuncId) (hf : ∀ args w, (callFunc f args).run Try.prog w = .ok (.enter f args) w) (p : Pr → Bool) (w : World) (hp : ∀ s : Pr, Calls Try.prog f (#[.agg #[.string s.field, .string s.text]]) w fun e w' => e = .returned (.bool (p s)) ∧ w = w')
    (A : Option Addr) (ln c : Nat) (l : List Pr) (hln : l.length = ln) (hl : l.length ≤ 9223372036854775807) (h : Seg w 2 A (pairRows l)) :
    Calls Try.prog 98 #[.slice A ln c, .func (.func f) #[] #[]] w fun e w' => e = .returned (.int .i64 (idxFn (l.findIdx? p))) ∧ w = w' := by
  subst hln
  have HP := hide hp
  clear hp
  go_enter Try.func98, Try.ntmps98
  go_wp2
  go_loop [5, 8] (fun _ i => ∃ k : Nat, k ≤ l.length ∧ i = .int .i64 k ∧ Hid (∀ j, j < k → ∀ s, l[j]? = some s → p s = false)) (fun _ i => l.length - (intOf i).toNat)
  case atStart => exact ⟨0, by omega, rfl, fun j hj => by omega⟩
  case round =>
    obtain ⟨k, hk, rfl, HQ⟩ := hrel
    by_cases hlt : k < l.length
    · obtain ⟨b, off, rfl, hb, hc0, hc1⟩ := h.pair hlt
      go_wp2_with fail
      by_cases hps : p l[k] = true
      · refine (HP.out _).mono ?_
        rintro e w' ⟨rfl, rfl⟩
        go_wp2_with fail
        go_ret
        exact ⟨by rw [idx_hit hlt hps HQ]; rfl, rfl⟩
      · have hps' : p l[k] = false := by simpa using hps
        refine (HP.out _).mono ?_
        rintro e w' ⟨rfl, rfl⟩
        go_wp2_with fail
        go_round
        case rel => exact ⟨k + 1, by omega, by go_num, idx_next hlt hps' HQ⟩
        case measure => simp [intOf]; omega
    · obtain rfl : k = l.length := by omega
      go_wp2_with fail
      go_ret
      exact ⟨by rw [idx_miss HQ]; rfl, rfl⟩
def scoreRows (l : List Sc) : List (List Value) := l.map Sc.cells
structure ScAt (w : World) (b o : Nat) (x : Sc) : Prop where
  c0 : w.cell? ⟨b, o, none⟩ = some (.string x.member)
  c1 : w.cell? ⟨b, o + 1, none⟩ = some (.int .i64 x.n)
theorem Seg.score {w : World} {A : Option Addr} {l : List Sc} (h : Seg w 2 A (scoreRows l)) {k : Nat} (hk : k < l.length) :
    ∃ b off, A = some ⟨b, off, none⟩ ∧ b < w.heap.size ∧ ScAt w b (off + k * 2) l[k] := by
  obtain ⟨b, off, e, hb, hc⟩ := h.at_ (i := k) (by simpa [scoreRows] using hk)
  have hc' : ∀ j u, l[k].cells[j]? = some u → w.cell? ⟨b, off + k * 2 + j, none⟩ = some u := by
    intro j u hu
    rw [Nat.add_assoc]
    exact hc j u (by simpa [scoreRows] using hu)
  exact ⟨b, off, e, hb, hc' 0 _ rfl, hc' 1 _ rfl⟩
theorem score_one : ∀ (l : List Sc), ∀ r ∈ scoreRows l, ∀ u ∈ r, u.oneCell' = true := by
  intro l r hr u hu
  obtain ⟨x, _, rfl⟩ := List.mem_map.1 hr
  simp only [Sc.cells, List.mem_cons, List.not_mem_nil, or_false] at hu
  rcases hu with rfl | rfl <;> rfl
theorem IndexFunc_score (f : FuncId) (hf : ∀ args w, (callFunc f args).run Try.prog w = .ok (.enter f args) w) (p : Sc → Bool) (w : World) (hp : ∀ s : Sc, Calls Try.prog f (#[.agg #[.string s.member, .int .i64 s.n]]) w fun e w' => e = .returned (.bool (p s)) ∧ w = w')
    (A : Option Addr) (ln c : Nat) (l : List Sc) (hln : l.length = ln) (hl : l.length ≤ 9223372036854775807) (h : Seg w 2 A (scoreRows l)) :
    Calls Try.prog 99 #[.slice A ln c, .func (.func f) #[] #[]] w fun e w' => e = .returned (.int .i64 (idxFn (l.findIdx? p))) ∧ w = w' := by
  subst hln
  have HP := hide hp
  clear hp
  go_enter Try.func99, Try.ntmps99
  go_wp2
  go_loop [5, 8] (fun _ i => ∃ k : Nat, k ≤ l.length ∧ i = .int .i64 k ∧ Hid (∀ j, j < k → ∀ s, l[j]? = some s → p s = false)) (fun _ i => l.length - (intOf i).toNat)
  case atStart => exact ⟨0, by omega, rfl, fun j hj => by omega⟩
  case round =>
    obtain ⟨k, hk, rfl, HQ⟩ := hrel
    by_cases hlt : k < l.length
    · obtain ⟨b, off, rfl, hb, hc0, hc1⟩ := h.score hlt
      go_wp2_with fail
      by_cases hps : p l[k] = true
      · refine (HP.out _).mono ?_
        rintro e w' ⟨rfl, rfl⟩
        go_wp2_with fail
        go_ret
        exact ⟨by rw [idx_hit hlt hps HQ]; rfl, rfl⟩
      · have hps' : p l[k] = false := by simpa using hps
        refine (HP.out _).mono ?_
        rintro e w' ⟨rfl, rfl⟩
        go_wp2_with fail
        go_round
        case rel => exact ⟨k + 1, by omega, by go_num, idx_next hlt hps' HQ⟩
        case measure => simp [intOf]; omega
    · obtain rfl : k = l.length := by omega
      go_wp2_with fail
      go_ret
      exact ⟨by rw [idx_miss HQ]; rfl, rfl⟩
theorem pair_info : (Try.prog.info? 114).map (fun i => (i.zero, i.size, i.bytes)) = some (some (.agg #[.string ByteArray.empty, .string ByteArray.empty]), 2, 32) := by kernel_rfl
theorem Clone_pair (A : Option Addr) (n c : Nat) (rows : List (List Value)) (w : World) (h : Sl w 2 A n c rows) (h1 : ∀ r ∈ rows, ∀ u ∈ r, u.oneCell' = true) (hb : n * 32 ≤ 140737488355328) :
    Calls Try.prog 82 #[.slice A n c] w fun e w' => ∃ v, e = .returned v ∧ Own w' w.heap.size 114 2 v rows ∧ Below w.heap.size w w' := by
  have hS := h
  obtain ⟨hl, hnc, hcm, hn0, hs, hr⟩ := h
  have hq := fun w => Lib.run_eql_slice_nil (P := Try.prog) w 36 114 A n c 0 0 Try.underlying36
  cases A with
  | none =>
    obtain rfl := hn0 rfl
    obtain rfl : n = 0 := by omega
    obtain rfl := List.eq_nil_of_length_eq_zero hl
    go_enter Try.func82, Try.ntmps82
    go_wp2_with fail
    go_ret
    exact ⟨_, rfl, Own.nil, (by repeat (first | (with_reducible exact Below.refl _ _) | (with_reducible assumption) | (with_reducible refine Below.drew ?_) | (with_reducible refine bdrewN ?_ _) | (with_reducible refine balloc ?_ _) | ((with_reducible refine bset ?_ ?_ _); rotate_left; (focus first | exact Nat.le_refl _ | (simp; done) | (simp; omega) | omega)) | (with_reducible refine bstep ?_ (by with_reducible assumption)) | (with_reducible refine Below.trans ?_ (by with_reducible assumption))))⟩
  | some a =>
    by_cases hn : n = 0
    · subst hn
      obtain rfl := List.eq_nil_of_length_eq_zero hl
      go_enter Try.func82, Try.ntmps82
      go_wp2_with fail
      go_ret
      exact ⟨_, rfl, Own.empty _ _ _ (Nat.le_refl _), (by repeat (first | (with_reducible exact Below.refl _ _) | (with_reducible assumption) | (with_reducible refine Below.drew ?_) | (with_reducible refine bdrewN ?_ _) | (with_reducible refine balloc ?_ _) | ((with_reducible refine bset ?_ ?_ _); rotate_left; (focus first | exact Nat.le_refl _ | (simp; done) | (simp; omega) | omega)) | (with_reducible refine bstep ?_ (by with_reducible assumption)) | (with_reducible refine Below.trans ?_ (by with_reducible assumption))))⟩
    · go_enter Try.func82, Try.ntmps82
      go_wp2_with (at_builtin; refine wpList_grow rfl _ _ _ rfl Try.underlying36 pair_info rfl (by decide) (rows := []) rfl rfl (by simp) Seg.nil (by simp) rfl hl hr (hs.alloc _) h1 (by omega) (by omega) (by rw [Nat.zero_add]; omega) (by omega) ?_; intro v' w1 hown hb1)
      go_ret
      exact ⟨_, rfl, by simpa using hown.mono (by simp), bstep (by repeat (first | (with_reducible exact Below.refl _ _) | (with_reducible assumption) | (with_reducible refine Below.drew ?_) | (with_reducible refine bdrewN ?_ _) | (with_reducible refine balloc ?_ _) | ((with_reducible refine bset ?_ ?_ _); rotate_left; (focus first | exact Nat.le_refl _ | (simp; done) | (simp; omega) | omega)) | (with_reducible refine bstep ?_ (by with_reducible assumption)) | (with_reducible refine Below.trans ?_ (by with_reducible assumption)))) hb1⟩
theorem score_info : (Try.prog.info? 116).map (fun i => (i.zero, i.size, i.bytes)) = some (some (.agg #[.string ByteArray.empty, .int .i64 0]), 2, 24) := by kernel_rfl
theorem Clone_score (A : Option Addr) (n c : Nat) (rows : List (List Value)) (w : World) (h : Sl w 2 A n c rows) (h1 : ∀ r ∈ rows, ∀ u ∈ r, u.oneCell' = true) (hb : n * 24 ≤ 140737488355328) :
    Calls Try.prog 84 #[.slice A n c] w fun e w' => ∃ v, e = .returned v ∧ Own w' w.heap.size 116 2 v rows ∧ Below w.heap.size w w' := by
  have hS := h
  obtain ⟨hl, hnc, hcm, hn0, hs, hr⟩ := h
  have hq := fun w => Lib.run_eql_slice_nil (P := Try.prog) w 38 116 A n c 0 0 Try.underlying38
  cases A with
  | none =>
    obtain rfl := hn0 rfl
    obtain rfl : n = 0 := by omega
    obtain rfl := List.eq_nil_of_length_eq_zero hl
    go_enter Try.func84, Try.ntmps84
    go_wp2_with fail
    go_ret
    exact ⟨_, rfl, Own.nil, (by repeat (first | (with_reducible exact Below.refl _ _) | (with_reducible assumption) | (with_reducible refine Below.drew ?_) | (with_reducible refine bdrewN ?_ _) | (with_reducible refine balloc ?_ _) | ((with_reducible refine bset ?_ ?_ _); rotate_left; (focus first | exact Nat.le_refl _ | (simp; done) | (simp; omega) | omega)) | (with_reducible refine bstep ?_ (by with_reducible assumption)) | (with_reducible refine Below.trans ?_ (by with_reducible assumption))))⟩
  | some a =>
    by_cases hn : n = 0
    · subst hn
      obtain rfl := List.eq_nil_of_length_eq_zero hl
      go_enter Try.func84, Try.ntmps84
      go_wp2_with fail
      go_ret
      exact ⟨_, rfl, Own.empty _ _ _ (Nat.le_refl _), (by repeat (first | (with_reducible exact Below.refl _ _) | (with_reducible assumption) | (with_reducible refine Below.drew ?_) | (with_reducible refine bdrewN ?_ _) | (with_reducible refine balloc ?_ _) | ((with_reducible refine bset ?_ ?_ _); rotate_left; (focus first | exact Nat.le_refl _ | (simp; done) | (simp; omega) | omega)) | (with_reducible refine bstep ?_ (by with_reducible assumption)) | (with_reducible refine Below.trans ?_ (by with_reducible assumption))))⟩
    · go_enter Try.func84, Try.ntmps84
      go_wp2_with (at_builtin; refine wpList_grow rfl _ _ _ rfl Try.underlying38 score_info rfl (by decide) (rows := []) rfl rfl (by simp) Seg.nil (by simp) rfl hl hr (hs.alloc _) h1 (by omega) (by omega) (by rw [Nat.zero_add]; omega) (by omega) ?_; intro v' w1 hown hb1)
      go_ret
      exact ⟨_, rfl, by simpa using hown.mono (by simp), bstep (by repeat (first | (with_reducible exact Below.refl _ _) | (with_reducible assumption) | (with_reducible refine Below.drew ?_) | (with_reducible refine bdrewN ?_ _) | (with_reducible refine balloc ?_ _) | ((with_reducible refine bset ?_ ?_ _); rotate_left; (focus first | exact Nat.le_refl _ | (simp; done) | (simp; omega) | omega)) | (with_reducible refine bstep ?_ (by with_reducible assumption)) | (with_reducible refine Below.trans ?_ (by with_reducible assumption)))) hb1⟩
theorem text_info : (Try.prog.info? 9).map (fun i => (i.zero, i.size, i.bytes)) = some (some (.string ByteArray.empty), 1, 16) := by kernel_rfl
theorem Clone_text (A : Option Addr) (n c : Nat) (rows : List (List Value)) (w : World) (h : Sl w 1 A n c rows) (h1 : ∀ r ∈ rows, ∀ u ∈ r, u.oneCell' = true) (hb : n * 16 ≤ 140737488355328) :
    Calls Try.prog 83 #[.slice A n c] w fun e w' => ∃ v, e = .returned v ∧ Own w' w.heap.size 9 1 v rows ∧ Below w.heap.size w w' := by
  have hS := h
  obtain ⟨hl, hnc, hcm, hn0, hs, hr⟩ := h
  have hq := fun w => Lib.run_eql_slice_nil (P := Try.prog) w 37 9 A n c 0 0 Try.underlying37
  cases A with
  | none =>
    obtain rfl := hn0 rfl
    obtain rfl : n = 0 := by omega
    obtain rfl := List.eq_nil_of_length_eq_zero hl
    go_enter Try.func83, Try.ntmps83
    go_wp2_with fail
    go_ret
    exact ⟨_, rfl, Own.nil, (by repeat (first | (with_reducible exact Below.refl _ _) | (with_reducible assumption) | (with_reducible refine Below.drew ?_) | (with_reducible refine bdrewN ?_ _) | (with_reducible refine balloc ?_ _) | ((with_reducible refine bset ?_ ?_ _); rotate_left; (focus first | exact Nat.le_refl _ | (simp; done) | (simp; omega) | omega)) | (with_reducible refine bstep ?_ (by with_reducible assumption)) | (with_reducible refine Below.trans ?_ (by with_reducible assumption))))⟩
  | some a =>
    by_cases hn : n = 0
    · subst hn
      obtain rfl := List.eq_nil_of_length_eq_zero hl
      go_enter Try.func83, Try.ntmps83
      go_wp2_with fail
      go_ret
      exact ⟨_, rfl, Own.empty _ _ _ (Nat.le_refl _), (by repeat (first | (with_reducible exact Below.refl _ _) | (with_reducible assumption) | (with_reducible refine Below.drew ?_) | (with_reducible refine bdrewN ?_ _) | (with_reducible refine balloc ?_ _) | ((with_reducible refine bset ?_ ?_ _); rotate_left; (focus first | exact Nat.le_refl _ | (simp; done) | (simp; omega) | omega)) | (with_reducible refine bstep ?_ (by with_reducible assumption)) | (with_reducible refine Below.trans ?_ (by with_reducible assumption))))⟩
    · go_enter Try.func83, Try.ntmps83
      go_wp2_with (at_builtin; refine wpList_grow rfl _ _ _ rfl Try.underlying37 text_info rfl (by decide) (rows := []) rfl rfl (by simp) Seg.nil (by simp) rfl hl hr (hs.alloc _) h1 (by omega) (by omega) (by rw [Nat.zero_add]; omega) (by omega) ?_; intro v' w1 hown hb1)
      go_ret
      exact ⟨_, rfl, by simpa using hown.mono (by simp), bstep (by repeat (first | (with_reducible exact Below.refl _ _) | (with_reducible assumption) | (with_reducible refine Below.drew ?_) | (with_reducible refine bdrewN ?_ _) | (with_reducible refine balloc ?_ _) | ((with_reducible refine bset ?_ ?_ _); rotate_left; (focus first | exact Nat.le_refl _ | (simp; done) | (simp; omega) | omega)) | (with_reducible refine bstep ?_ (by with_reducible assumption)) | (with_reducible refine Below.trans ?_ (by with_reducible assumption)))) hb1⟩
end Go.Proofs.Ytpdadlofgfdlpaa
