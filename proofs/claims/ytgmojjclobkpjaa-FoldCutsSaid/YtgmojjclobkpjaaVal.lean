import Derived.Test.YtgmojjclobkpjaaBase
import Derived.Test.YtgmojjclobkpjaaOwn
import Derived.Test.YtgmojjclobkpjaaHeldX
/- Slices of pairs and of scores: IndexFunc, ContainsFunc at whatever pure predicate; Clone of the three. -/
namespace Go.Proofs.Ytgmojjclobkpjaa
set_option linter.all false
open Go.RowKit
structure Pr where (field text : ByteArray)
structure Sc where (member : ByteArray) (n : Int)
def Pr.cells (x : Pr) : List Value := [.string x.field, .string x.text]
def Sc.cells (x : Sc) : List Value := [.string x.member, .int .i64 x.n]
def pairRows (l : List Pr) : List (List Value) := l.map Pr.cells
structure PrAt (w : World) (b o : Nat) (x : Pr) : Prop where
  c0 : w.cell? ⟨b, o, none⟩ = some (.string x.field)
  c1 : w.cell? ⟨b, o + 1, none⟩ = some (.string x.text)
theorem Seg.pair {w : World} {A : Option Addr} {l : List Pr} (h : Seg w 2 A (pairRows l)) {k : Nat} (hk : k < l.length) :
    ∃ b off, A = some ⟨b, off, none⟩ ∧ b < w.heap.size ∧ PrAt w b (off + k * 2) l[k] := by
  obtain ⟨b, off, e, hb, hc⟩ := h.at_ (i := k) (by simpa [pairRows] using hk)
  have hc' : ∀ j u, l[k].cells[j]? = some u → w.cell? ⟨b, off + k * 2 + j, none⟩ = some u := by
    intro j u hu
    rw [Nat.add_assoc]
    exact hc j u (by simpa [pairRows] using hu)
  exact ⟨b, off, e, hb, hc' 0 _ rfl, hc' 1 _ rfl⟩
theorem pair_one : ∀ (l : List Pr), ∀ r ∈ pairRows l, ∀ u ∈ r, u.oneCell' = true := by
  intro l r hr u hu
  obtain ⟨x, _, rfl⟩ := List.mem_map.1 hr
  simp only [Pr.cells, List.mem_cons, List.not_mem_nil, or_false] at hu
  rcases hu with rfl | rfl <;> rfl
theorem IndexFunc_pair (f : FuncId) (hf : ∀ args w, (callFunc f args).run Try.prog w = .ok (.enter f args) w) (p : Pr → Bool) (w : World) (hp : ∀ s : Pr, Calls Try.prog f (#[.agg #[.string s.field, .string s.text]]) w fun e w' => e = .returned (.bool (p s)) ∧ w = w')
    (A : Option Addr) (ln c : Nat) (l : List Pr) (hln : l.length = ln) (hl : l.length ≤ 9223372036854775807) (h : Seg w 2 A (pairRows l)) :
    Calls Try.prog 76 #[.slice A ln c, .func (.func f) #[] #[]] w fun e w' => e = .returned (.int .i64 (idxFn (l.findIdx? p))) ∧ w = w' := by
  subst hln
  have HP := hide hp
  clear hp
  go_enter Try.func76, Try.ntmps76
  go_wp2
  go_loop [5, 8] (fun _ i => ∃ k : Nat, k ≤ l.length ∧ i = .int .i64 k ∧ Hid (∀ j, j < k → ∀ s, l[j]? = some s → p s = false)) (fun _ i => l.length - (intOf i).toNat)
  case atStart => exact ⟨0, by omega, rfl, fun j hj => by omega⟩
  case round =>
    obtain ⟨k, hk, rfl, HQ⟩ := hrel
    by_cases hlt : k < l.length
    · obtain ⟨b, off, rfl, hb, hc0, hc1⟩ := h.pair hlt
      go_wp2_with fail
      by_cases hps : p l[k] = true
      · refine (HP.out _).mono ?_
        rintro e w' ⟨rfl, rfl⟩
        go_wp2_with fail
        go_ret
        exact ⟨by rw [idx_hit hlt hps HQ]; rfl, rfl⟩
      · have hps' : p l[k] = false := by simpa using hps
        refine (HP.out _).mono ?_
        rintro e w' ⟨rfl, rfl⟩
        go_wp2_with fail
        go_round
        case rel => exact ⟨k + 1, by omega, by go_num, idx_next hlt hps' HQ⟩
        case measure => simp [intOf]; omega
    · obtain rfl : k = l.length := by omega
      go_wp2_with fail
      go_ret
      exact ⟨by rw [idx_miss HQ]; rfl, rfl⟩
def scoreRows (l : List Sc) : List (List Value) := l.map Sc.cells
structure ScAt (w : World) (b o : Nat) (x : Sc) : Prop where
  c0 : w.cell? ⟨b, o, none⟩ = some (.string x.member)
  c1 : w.cell? ⟨b, o + 1, none⟩ = some (.int .i64 x.n)
theorem Seg.score {w : World} {A : Option Addr} {l : List Sc} (h : Seg w 2 A (scoreRows l)) {k : Nat} (hk : k < l.length) :
    ∃ b off, A = some ⟨b, off, none⟩ ∧ b < w.heap.size ∧ ScAt w b (off + k * 2) l[k] := by
  obtain ⟨b, off, e, hb, hc⟩ := h.at_ (i := k) (by simpa [scoreRows] using hk)
  have hc' : ∀ j u, l[k].cells[j]? = some u → w.cell? ⟨b, off + k * 2 + j, none⟩ = some u := by
    intro j u hu
    rw [Nat.add_assoc]
    exact hc j u (by simpa [scoreRows] using hu)
  exact ⟨b, off, e, hb, hc' 0 _ rfl, hc' 1 _ rfl⟩
theorem score_one : ∀ (l : List Sc), ∀ r ∈ scoreRows l, ∀ u ∈ r, u.oneCell' = true := by
  intro l r hr u hu
  obtain ⟨x, _, rfl⟩ := List.mem_map.1 hr
  simp only [Sc.cells, List.mem_cons, List.not_mem_nil, or_false] at hu
  rcases hu with rfl | rfl <;> rfl
theorem IndexFunc_score (f : FuncId) (hf : ∀ args w, (callFunc f args).run Try.prog w = .ok (.enter f args) w) (p : Sc → Bool) (w : World) (hp : ∀ s : Sc, Calls Try.prog f (#[.agg #[.string s.member, .int .i64 s.n]]) w fun e w' => e = .returned (.bool (p s)) ∧ w = w')
    (A : Option Addr) (ln c : Nat) (l : List Sc) (hln : l.length = ln) (hl : l.length ≤ 9223372036854775807) (h : Seg w 2 A (scoreRows l)) :
    Calls Try.prog 77 #[.slice A ln c, .func (.func f) #[] #[]] w fun e w' => e = .returned (.int .i64 (idxFn (l.findIdx? p))) ∧ w = w' := by
  subst hln
  have HP := hide hp
  clear hp
  go_enter Try.func77, Try.ntmps77
  go_wp2
  go_loop [5, 8] (fun _ i => ∃ k : Nat, k ≤ l.length ∧ i = .int .i64 k ∧ Hid (∀ j, j < k → ∀ s, l[j]? = some s → p s = false)) (fun _ i => l.length - (intOf i).toNat)
  case atStart => exact ⟨0, by omega, rfl, fun j hj => by omega⟩
  case round =>
    obtain ⟨k, hk, rfl, HQ⟩ := hrel
    by_cases hlt : k < l.length
    · obtain ⟨b, off, rfl, hb, hc0, hc1⟩ := h.score hlt
      go_wp2_with fail
      by_cases hps : p l[k] = true
      · refine (HP.out _).mono ?_
        rintro e w' ⟨rfl, rfl⟩
        go_wp2_with fail
        go_ret
        exact ⟨by rw [idx_hit hlt hps HQ]; rfl, rfl⟩
      · have hps' : p l[k] = false := by simpa using hps
        refine (HP.out _).mono ?_
        rintro e w' ⟨rfl, rfl⟩
        go_wp2_with fail
        go_round
        case rel => exact ⟨k + 1, by omega, by go_num, idx_next hlt hps' HQ⟩
        case measure => simp [intOf]; omega
    · obtain rfl : k = l.length := by omega
      go_wp2_with fail
      go_ret
      exact ⟨by rw [idx_miss HQ]; rfl, rfl⟩
theorem pair_info : (Try.prog.info? 118).map (fun i => (i.zero, i.size, i.bytes)) = some (some (.agg #[.string ByteArray.empty, .string ByteArray.empty]), 2, 32) := by kernel_rfl
theorem score_info : (Try.prog.info? 120).map (fun i => (i.zero, i.size, i.bytes)) = some (some (.agg #[.string ByteArray.empty, .int .i64 0]), 2, 24) := by kernel_rfl
theorem text_info : (Try.prog.info? 9).map (fun i => (i.zero, i.size, i.bytes)) = some (some (.string ByteArray.empty), 1, 16) := by kernel_rfl
end Go.Proofs.Ytgmojjclobkpjaa
/- A value as memory holds it; value.own. -/
namespace Go.Proofs.Ytgmojjclobkpjaa
set_option linter.all false
open Go.RowKit
structure Va where
  kind : Int
  text : ByteArray
  count : Int
  pairs : List Pr
  items : List ByteArray
  scores : List Sc
/-- The three slices read as the value's. -/
structure VSl (w : World) (v : Va) (A1 : Option Addr) (n1 c1 : Nat) (A2 : Option Addr) (n2 c2 : Nat) (A3 : Option Addr) (n3 c3 : Nat) : Prop where
  p : Sl w 2 A1 n1 c1 (pairRows v.pairs)
  i : Sl w 1 A2 n2 c2 (strRows v.items)
  s : Sl w 2 A3 n3 c3 (scoreRows v.scores)
section
variable {w w' : World} {v : Va} {A1 A2 A3 : Option Addr} {n1 c1 n2 c2 n3 c3 : Nat}
theorem VSl.bl (h : VSl w v A1 n1 c1 A2 n2 c2 A3 n3 c3) (hb : Below w.heap.size w w') : VSl w' v A1 n1 c1 A2 n2 c2 A3 n3 c3 := ⟨h.p.below hb, h.i.below hb, h.s.below hb⟩
theorem VSl.al (h : VSl w v A1 n1 c1 A2 n2 c2 A3 n3 c3) (o : Obj) : VSl (w.alloc o) v A1 n1 c1 A2 n2 c2 A3 n3 c3 := ⟨h.p.alloc o, h.i.alloc o, h.s.alloc o⟩
theorem VSl.dr (h : VSl w v A1 n1 c1 A2 n2 c2 A3 n3 c3) : VSl w.drew v A1 n1 c1 A2 n2 c2 A3 n3 c3 := ⟨h.p.drew, h.i.drew, h.s.drew⟩
theorem VSl.n1_ (h : VSl w v A1 n1 c1 A2 n2 c2 A3 n3 c3) : v.pairs.length = n1 := by have := h.p.len; simpa [pairRows] using this
theorem VSl.n2_ (h : VSl w v A1 n1 c1 A2 n2 c2 A3 n3 c3) : v.items.length = n2 := by have := h.i.len; simpa [strRows] using this
theorem VSl.n3_ (h : VSl w v A1 n1 c1 A2 n2 c2 A3 n3 c3) : v.scores.length = n3 := by have := h.s.len; simpa [scoreRows] using this
end
theorem str_one : ∀ (l : List ByteArray), ∀ r ∈ strRows l, ∀ u ∈ r, u.oneCell' = true := by
  intro l r hr u hu
  obtain ⟨x, _, rfl⟩ := List.mem_map.1 hr
  simp only [List.mem_cons, List.not_mem_nil, or_false] at hu
  subst hu; rfl
theorem own_far {w : World} {B g size : Nat} {e t : TypeId} {v : Value} {rows : List (List Value)} {cs : Array Value} (h : Own w B e size v rows) (hb : Blk w g t cs) (i : Nat) (u : Value) (hne : t ≠ e := by decide) : Own (w.setCell ⟨g, i, none⟩ u) B e size v rows := by
  refine ⟨⟨h.1.1, ?_⟩, h.2⟩
  rcases h.1.2 with h1 | ⟨b, cap, cur, h1, h2, h3, h4⟩
  · exact .inl h1
  · refine .inr ⟨b, cap, cur, h1, h2, ?_, h4⟩
    have hbg : b ≠ g := by
      intro e
      subst e
      unfold Blk at hb
      rw [hb] at h3
      injection h3 with h3
      injection h3 with _ h3
      exact hne h3
    rw [Below.heap_setCell w _ u b (by simpa using hbg)]
    exact h3
theorem own_slice {w : World} {B size : Nat} {e : TypeId} {v : Value} {rows : List (List Value)} (h : Own w B e size v rows) : ∃ A n c, v = .slice A n c := by
  obtain ⟨A, c, hv, _⟩ := h.sl
  exact ⟨A, _, c, hv⟩
def VNew (w : World) (B : Nat) (v : Va) (s1 s2 s3 : Value) : Prop :=
  Own w B 118 2 s1 (pairRows v.pairs) ∧ Own w B 9 1 s2 (strRows v.items) ∧ Own w B 120 2 s3 (scoreRows v.scores)
def OwnPost (v : Va) (w : World) (e : Ending) (w' : World) : Prop :=
  ∃ A1 n1 c1 A2 n2 c2 A3 n3 c3, e = .returned (.agg #[.int .i64 v.kind, .string v.text, .int .i64 v.count, .slice A1 n1 c1, .slice A2 n2 c2, .slice A3 n3 c3]) ∧ VNew w' w.heap.size v (.slice A1 n1 c1) (.slice A2 n2 c2) (.slice A3 n3 c3) ∧ Below w.heap.size w w'
end Go.Proofs.Ytgmojjclobkpjaa
