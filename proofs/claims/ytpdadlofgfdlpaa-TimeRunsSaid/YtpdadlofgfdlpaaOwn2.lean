/- An own slice changed in place: copy into it, one more row out of its spare cells, zeros behind it, another slice behind it, a row taken out, spare cells cleared: the runs' equations. No program. -/
import Derived.Test.YtpdadlofgfdlpaaTrack
import Derived.Test.YtpdadlofgfdlpaaSlice
import Derived.Lib.AppendZerosOnto
import Derived.Lib.AppendZeros
import Derived.Laws.AppendOwnNone
namespace Go.Proofs.Ytpdadlofgfdlpaa
set_option linter.all false
open Go.RowKit
section
variable {P : Program} {w : World} {base g n cap size bytes : Nat} {e t : TypeId} {z : Value} {rows news : List (List Value)}
theorem zeroCells_flat (z : Array Value) (k : Nat) (hz : 0 < z.size) : (Builtin.zeroCells z k).toList = (List.replicate k z.toList).flatten := by
  have hr : ∀ r ∈ List.replicate k z.toList, r.length = z.size := fun r hr => by rw [(List.mem_replicate.1 hr).2]; simp
  have hl : (List.replicate k z.toList).flatten.length = k * z.size := by rw [flatten_length hr, List.length_replicate]
  apply List.ext_getElem?
  intro i
  by_cases hi : i < k * z.size
  · have h1 : i / z.size < k := (Nat.div_lt_iff_lt_mul hz).2 hi
    have h2 : i % z.size < z.size := Nat.mod_lt _ hz
    have := flatten_at hr (i := i / z.size) (j := i % z.size) (r := z.toList) (u := z[i % z.size]) (by rw [List.getElem?_replicate, if_pos h1]) (by simp [h2])
    rw [show i / z.size * z.size + i % z.size = i by rw [Nat.mul_comm]; exact Nat.div_add_mod i _] at this
    rw [this]
    simp [Builtin.zeroCells, hi, h2]
  · rw [List.getElem?_eq_none (by simp [Builtin.zeroCells]; omega), List.getElem?_eq_none (by rw [hl]; omega)]
theorem grown_setRow (w : World) (g : Nat) (cs : Array Value) : w.grownBy (w.setRow g cs) (some g) :=
  ⟨rfl, rfl, rfl, by simp, fun k _ hk => setRow_other w g k cs (fun e => hk (by simp [e]))⟩
theorem grown_trans {w0 w1 w2 : World} {r : Option Nat} (h : w0.grownBy w1 r) (k : w1.grownBy w2 r) : w0.grownBy w2 r :=
  ⟨k.os.trans h.os, k.tape.trans h.tape, k.output.trans h.output, Nat.le_trans h.size k.size, fun b hb hr => (k.block b (Nat.lt_of_lt_of_le hb h.size) hr).trans (h.block b hb hr)⟩
/-- First a new row is laid, then just that is written to. -/
theorem grown_new {w0 w1 w2 : World} {r : Option Nat} {g : Nat} (h : w0.grownBy w1 none) (hg : w0.heap.size ≤ g) (k : w1.grownBy w2 (some g)) : w0.grownBy w2 r :=
  ⟨k.os.trans h.os, k.tape.trans h.tape, k.output.trans h.output, Nat.le_trans h.size k.size, fun b hb _ => (k.block b (Nat.lt_of_lt_of_le hb h.size) (by intro e; injection e with e; omega)).trans (h.block b hb (by simp))⟩
theorem grown_drew {w w1 : World} {r : Option Nat} (h : w.drew.grownBy w1 r) : w.grownBy w1 r := ⟨h.os, h.tape, h.output, h.size, h.block⟩
theorem grown_refl (w : World) (r : Option Nat) : w.grownBy w r := ⟨rfl, rfl, rfl, Nat.le_refl _, fun _ _ _ => rfl⟩
theorem Own.n_eq {A : Option Addr} (h : Own w base e size (.slice A n cap) rows) : n = rows.length := by
  rcases h.form with ⟨hv, hr⟩ | ⟨g', cap', hv, _⟩
  · injection hv with _ a2 _; subst hr; simpa using a2
  · injection hv
theorem Own.parts (h : Own w base e size (.slice (some ⟨g, 0, none⟩) n cap) rows) : base ≤ g ∧ n = rows.length ∧ n ≤ cap ∧ cap ≤ maxLen ∧ ∃ cur, w.heap[g]? = some (.cells cur e (0, 0)) ∧ cur.size = cap * size ∧ cur.toList.take (n * size) = rows.flatten := by
  obtain ⟨g', cur, e1, h1, h2, h3, h4, h5, h6, h7⟩ := h.whole (by simp)
  have e1 : g = g' := by simpa using e1
  subst e1
  exact ⟨h1, h2, h3, h4, cur, h5, h6, h7⟩
theorem src_cells {B : Option Addr} {m c : Nat} (hsz : 0 < size) (src : Sl w size B m c news) {ad : Addr} (hB : B = some ad) : ∀ j u, news.flatten[j]? = some u → w.cell? (ad.add j) = some u := by
  intro j u hu
  by_cases hn : 0 < news.length
  · obtain ⟨b, off, e1, hb, hc⟩ := src.seg hn
    rw [hB] at e1
    injection e1 with e1
    subst e1
    obtain ⟨r, h2, h3⟩ := flatten_inv hsz src.row hu
    rw [Addr.add_lit, ← hc _ r h2 _ u h3, Nat.mul_comm, Nat.div_add_mod]
  · obtain rfl := List.eq_nil_of_length_eq_zero (show news.length = 0 by omega)
    simp at hu
theorem flat_one (h1 : ∀ r ∈ news, ∀ u ∈ r, u.oneCell' = true) : ∀ u ∈ news.flatten, u.oneCell' = true := by
  intro u hu
  obtain ⟨r, hr, hur⟩ := List.mem_flatten.1 hu
  exact h1 r hr u hur
/-- 'copy(s[j:], src)' into an own slice: so many rows as both have. -/
theorem Own.copy (ht : P.underlying t = some (.slice e)) (hs : (P.info? e).map (·.size) = some size) (hsz : 0 < size) (h : Own w base e size (.slice (some ⟨g, 0, none⟩) n cap) rows)
    {B : Option Addr} {m c j k : Nat} (src : Sl w size B m c news) (h1 : ∀ r ∈ news.take k, ∀ u ∈ r, u.oneCell' = true) (hk : 0 < k) (hj : j + k ≤ n) (hkm : k ≤ m) :
    ∃ w', (∀ ty dl dc, Nat.min m dl = k → (Builtin.copy_ #[t, t] ty #[.slice (cutA (some ⟨g, 0, none⟩) cap j size) dl dc, .slice B m c]).run P w = .ok (goInt k) w') ∧
      Own w' base e size (.slice (some ⟨g, 0, none⟩) n cap) (rows.take j ++ news.take k ++ rows.drop (j + k)) ∧ w.grownBy w' (some g) := by
  obtain ⟨hb, hn, hnc, hcm, cur, hc, hcs, hct⟩ := h.parts
  have hrow := h.2
  have src' := src.take k hkm c (by have := src.nc; omega) (Nat.le_refl _)
  have hnl := src'.len
  obtain ⟨b, off, rfl, _, _⟩ := src'.seg (by omega)
  have hD : cutA (some ⟨g, 0, none⟩) cap j size = some ⟨g, j * size, none⟩ := by
    unfold cutA
    rw [if_neg (by omega)]
    simp [Addr.add_lit]
  generalize news.take k = news at src' hnl h1
  have hfl : news.flatten.length = k * size := by rw [flatten_length src'.row, hnl]
  have hms : (j + k) * size ≤ cap * size := Nat.mul_le_mul_right _ (by omega)
  rw [Nat.add_mul] at hms
  have hns : (j + k) * size ≤ n * size := Nat.mul_le_mul_right _ hj
  rw [Nat.add_mul] at hns
  have hr := fun ty dl dc (hmk : Nat.min m dl = k) => run_copy_k (P := P) w t t ty e g (j * size) dl dc ⟨b, off, none⟩ m c cur e news.flatten size k ht hs hc hmk.symm hfl (src_cells hsz src' rfl) (by rw [hfl, hcs]; omega) (flat_one h1)
  have hnew : ∀ r ∈ rows.take j ++ news ++ rows.drop (j + k), r.length = size := by
    intro r hr
    simp only [List.mem_append] at hr
    rcases hr with (hr | hr) | hr
    · exact hrow r (List.mem_of_mem_take hr)
    · exact src'.row r hr
    · exact hrow r (List.mem_of_mem_drop hr)
  have hlen : (rows.take j ++ news ++ rows.drop (j + k)).length = n := by simp; omega
  have e1 : cur.toList.take (j * size) = (rows.take j).flatten := by rw [flatten_take hrow, ← hct, List.take_take, Nat.min_eq_left (by omega)]
  have e2 : (cur.toList.drop (j * size + k * size)).take (n * size - (j * size + k * size)) = (rows.drop (j + k)).flatten := by
    rw [flatten_drop hrow, ← hct, List.drop_take, Nat.add_mul]
  refine ⟨_, fun ty dl dc hmk => by rw [hD]; exact hr ty dl dc hmk, ?_, grown_setRow _ _ _⟩
  have hcl : cur.toList.length = cap * size := by simpa using hcs
  have := Own.put (e := e) (cur' := (cur.toList.take (j * size) ++ news.flatten ++ cur.toList.drop (j * size + news.flatten.length)).toArray) hb hc hcm (by simp only [List.size_toArray, List.length_append, List.length_take, List.length_drop, hfl]; omega) hnew (by omega) (by
    rw [hlen]
    simp only [List.flatten_append]
    rw [hfl, ← e1, ← e2, List.take_append, List.take_of_length_le (by simp only [List.length_append, List.length_take, hfl]; omega)]
    congr 1
    simp only [List.length_append, List.length_take, hfl]
    rw [Nat.min_eq_left (by omega)])
  rw [hlen] at this
  exact this
/-- One row more, out of the spare cells: whatever they hold. -/
theorem Own.more (h : Own w base e size (.slice (some ⟨g, 0, none⟩) n cap) rows) (hn : n < cap) : ∃ r, Own w base e size (.slice (some ⟨g, 0, none⟩) (n + 1) cap) (rows ++ [r]) := by
  obtain ⟨hb, hn', hnc, hcm, cur, hc, hcs, hct⟩ := h.parts
  have hcl : cur.toList.length = cap * size := by simpa using hcs
  have hms : (n + 1) * size ≤ cap * size := Nat.mul_le_mul_right _ (by omega)
  rw [Nat.add_mul, Nat.one_mul] at hms
  have hl : ((cur.toList.drop (n * size)).take size).length = size := by rw [List.length_take, List.length_drop]; omega
  have hrow : ∀ r ∈ rows ++ [(cur.toList.drop (n * size)).take size], r.length = size := by
    intro r hr
    simp only [List.mem_append, List.mem_singleton] at hr
    rcases hr with hr | rfl
    · exact h.2 r hr
    · exact hl
  have hln : (rows ++ [(cur.toList.drop (n * size)).take size]).length = n + 1 := by simp; omega
  refine ⟨(cur.toList.drop (n * size)).take size, ⟨by rw [flatten_length hrow], .inr ⟨g, cap, cur, by rw [hln], hb, hc, by omega, hcm, hcs, ?_⟩⟩, hrow⟩
  rw [hln, List.flatten_append, ← hct, List.flatten_singleton, Nat.add_mul, Nat.one_mul, List.take_add]
/-- 'append(s, make([]T, k)...)' without room. -/
theorem Own.zeros {tn : TypeId} (ht : P.underlying t = some (.slice e)) (htn : P.underlying tn = some (.int .i64)) (hi : (P.info? e).map (fun i => (i.zero, i.size, i.bytes)) = some (some z, size, bytes)) (hzs : z.cells.size = size) (hsz : 0 < size)
    (h : Own w base e size (.slice (some ⟨g, 0, none⟩) n cap) rows) {k : Nat} (hk : 0 < k) (hroom : cap < n + k) (h63 : n + k ≤ maxLen) (hbytes : (n + k) * bytes ≤ 140737488355328) (hbase : base ≤ w.heap.size) :
    ∃ c' w', (∀ ty, (Builtin.append_ #[t, tn] ty #[.slice (some ⟨g, 0, none⟩) n cap, .int .i64 (k : Int)]).run P w = .ok (.slice (some ⟨w.heap.size, 0, none⟩) (n + k) c') w') ∧
      Own w' base e size (.slice (some ⟨w.heap.size, 0, none⟩) (n + k) c') (rows ++ List.replicate k z.cells.toList) ∧ w.grownBy w' none ∧ n + k ≤ c' := by
  obtain ⟨i, hi1, hi2, hi3, hi4⟩ := info_parts hi
  obtain ⟨hb, hn', hnc, hcm, cur, hc, hcs, hct⟩ := h.parts
  have hcl : cur.toList.length = cap * size := by simpa using hcs
  have hold : (Builtin.firstCells i.size n (.slice (some ⟨g, 0, none⟩) n cap)).run P w.drew = .ok rows.flatten.toArray w.drew := by
    refine run_firstCells_some w.drew i.size n ⟨g, 0, none⟩ n cap rows.flatten (by rw [flatten_length h.2, hi3, hn']) (fun j v hj => ?_)
    rw [Addr.add_lit, Nat.zero_add]
    rw [← hct, List.getElem?_take] at hj
    split at hj
    · have : w.cell? ⟨g, j, none⟩ = some v := by simp [World.cell?, hc]; simpa using hj
      exact this
    · cases hj
  have hkb : k * i.bytes ≤ 281474976710656 := by
    have : k * bytes ≤ (n + k) * bytes := Nat.mul_le_mul_right _ (by omega)
    rw [hi4]; omega
  have hrun := fun ty => Lib.run_append_grow_zeros w t tn ty e i z .i64 .i64 ht htn hi1 hi2 (some ⟨g, 0, none⟩) n cap rows.flatten hold k hk (by omega) hroom (by unfold maxLen at h63; omega) hkb (by rw [hi4]; exact growslice_fits hroom hbytes)
  have hge := grownCap_ge w (n + k) cap e
  have hgm := grownCap_le_maxLen w (n + k) cap e h63
  have hrow : ∀ r ∈ rows ++ List.replicate k z.cells.toList, r.length = size := by
    intro r hr
    simp only [List.mem_append] at hr
    rcases hr with hr | hr
    · exact h.2 r hr
    · rw [(List.mem_replicate.1 hr).2]; simpa using hzs
  have hln : (rows ++ List.replicate k z.cells.toList).length = n + k := by simp; omega
  have hzk := zeroCells_flat z.cells k (by omega)
  refine ⟨_, _, hrun, ⟨⟨by rw [flatten_length hrow], .inr ⟨w.heap.size, _, _, by rw [hln], hbase, heap_alloc_new w.drew _, by rw [hln]; exact hge, hgm, ?_, ?_⟩⟩, hrow⟩, ⟨rfl, rfl, rfl, by simp, fun b hb _ => Below.heap_alloc w.drew _ b hb⟩, hge⟩
  · simp only [Array.size_append, List.size_toArray, size_zeroCells, hzs, flatten_length h.2, ← Nat.add_mul]
    congr 1
    omega
  · have hfl : rows.flatten.length + (List.replicate k z.cells.toList).flatten.length = (n + k) * size := by
      rw [← hln, ← flatten_length hrow, List.flatten_append, List.length_append]
    simp only [Array.toList_append, hln, List.flatten_append]
    rw [hzk, ← hfl, ← List.length_append]
    exact List.take_left
/-- 'append(s, x...)' onto an own slice. -/
theorem Own.join (ht : P.underlying t = some (.slice e)) (hi : (P.info? e).map (fun i => (i.zero, i.size, i.bytes)) = some (some z, size, bytes)) (hzs : z.cells.size = size) (hsz : 0 < size)
    {v : Value} (h : Own w base e size v rows) {B : Option Addr} {m c : Nat} (src : Sl w size B m c news) (h1 : ∀ r ∈ news, ∀ u ∈ r, u.oneCell' = true)
    (h63 : rows.length + m ≤ maxLen) (hbytes : (rows.length + m) * bytes ≤ 140737488355328) (hbase : base ≤ w.heap.size) (ty : TypeId) :
    ∃ A' n' c' w', (Builtin.append_ #[t, t] ty #[v, .slice B m c]).run P w = .ok (.slice A' n' c') w' ∧ Own w' base e size (.slice A' n' c') (rows ++ news) ∧ w.grownBy w' v.ownBlock := by
  obtain ⟨i, hi1, hi2, hi3, hi4⟩ := info_parts hi
  have hm := src.len
  cases B with
  | none =>
    obtain ⟨rfl, rfl⟩ := src.n0 rfl
    obtain rfl := List.eq_nil_of_length_eq_zero hm
    obtain ⟨A', c', hv, _⟩ := h.sl
    have hr := run_append_owned_none (P := P) (w := w) base t ty e i size ht hi1 v rows.length rows.flatten h.1
    exact ⟨A', rows.length, c', w, by rw [hr, hv], by rw [List.append_nil, ← hv]; exact h, grown_refl _ _⟩
  | some ad =>
    obtain ⟨v', w', hr, h2, h3, _⟩ := run_append_own (P := P) w base t ty e i z size bytes ht hi1 hi2 hi3 hi4 hzs hsz v rows.length rows.flatten h.1 ad m c news.flatten (by rw [flatten_length src.row, hm]) (src_cells hsz src rfl) (flat_one h1) h63 hbytes hbase
    have ho' : Own w' base e size v' (rows ++ news) := ⟨by simpa [hm] using h2, fun r hr => (List.mem_append.1 hr).elim (h.2 r) (src.row r)⟩
    obtain ⟨A', c', rfl, _⟩ := ho'.sl
    exact ⟨A', _, c', w', hr, ho', h3⟩
/-- 'append(s[:i], s[i+1:]...)' of an own slice: in place. -/
theorem Own.out_ (ht : P.underlying t = some (.slice e)) (hi : (P.info? e).map (fun i => (i.zero, i.size, i.bytes)) = some (some z, size, bytes)) (hsz : 0 < size)
    (h : Own w base e size (.slice (some ⟨g, 0, none⟩) n cap) rows) (h1 : ∀ r ∈ rows, ∀ u ∈ r, u.oneCell' = true) {i : Nat} (hin : i < n) :
    ∃ w', (∀ ty, (Builtin.append_ #[t, t] ty #[.slice (some ⟨g, 0, none⟩) i cap, .slice (cutA (some ⟨g, 0, none⟩) cap (i + 1) size) (n - (i + 1)) (cap - (i + 1))]).run P w = .ok (.slice (some ⟨g, 0, none⟩) (n - 1) cap) w') ∧
      Own w' base e size (.slice (some ⟨g, 0, none⟩) (n - 1) cap) (rows.take i ++ rows.drop (i + 1)) ∧ w.grownBy w' (some g) := by
  obtain ⟨ti, hi1, hi2, hi3, hi4⟩ := info_parts hi
  obtain ⟨hb, hn', hnc, hcm, cur, hc, hcs, hct⟩ := h.parts
  have hsl := h.sl'.drop (i + 1) (by omega) cap (Nat.le_refl _) hnc
  have hD : ∃ ad, cutA (some ⟨g, 0, none⟩) cap (i + 1) size = some ad := by
    unfold cutA; split
    · exact ⟨_, rfl⟩
    · exact ⟨_, rfl⟩
  obtain ⟨ad, hD⟩ := hD
  have hlr : (rows.drop (i + 1)).length = n - (i + 1) := by simp; omega
  have hfl : (rows.drop (i + 1)).flatten.length = (n - (i + 1)) * size := by rw [flatten_length hsl.row, hlr]
  have hms : (i + (n - (i + 1))) * size ≤ cap * size := Nat.mul_le_mul_right _ (by omega)
  rw [Nat.add_mul] at hms
  have hcl : cur.toList.length = cap * size := by simpa using hcs
  have hr := fun ty => run_append_room (P := P) w t ty e ti ht hi1 g i cap cur hc ad (n - (i + 1)) (cap - (i + 1)) (rows.drop (i + 1)).flatten (by rw [hfl, hi3]) (src_cells hsz hsl hD) (flat_one (fun r hr => h1 r (List.mem_of_mem_drop hr))) (by omega) (by rw [hfl, hi3, hcs]; omega)
  simp only [show i + (n - (i + 1)) = n - 1 by omega, hi3] at hr
  refine ⟨_, fun ty => by rw [hD]; exact hr ty, ?_, grown_setRow _ _ _⟩
  have hnew : ∀ r ∈ rows.take i ++ rows.drop (i + 1), r.length = size := by
    intro r hr
    rcases List.mem_append.1 hr with hr | hr
    · exact h.2 r (List.mem_of_mem_take hr)
    · exact h.2 r (List.mem_of_mem_drop hr)
  have hlen : (rows.take i ++ rows.drop (i + 1)).length = n - 1 := by simp; omega
  have hin2 : i * size ≤ n * size := Nat.mul_le_mul_right _ (by omega)
  have e1 : cur.toList.take (i * size) = (rows.take i).flatten := by rw [flatten_take h.2, ← hct, List.take_take, Nat.min_eq_left hin2]
  have := Own.put (e := e) (cur' := (cur.toList.take (i * size) ++ (rows.drop (i + 1)).flatten ++ cur.toList.drop (i * size + (rows.drop (i + 1)).flatten.length)).toArray) hb hc hcm (by simp only [List.size_toArray, List.length_append, List.length_take, List.length_drop, hfl]; omega) hnew (by omega) (by
    have hl2 : (rows.take i).flatten.length + (rows.drop (i + 1)).flatten.length = (n - 1) * size := by
      rw [← hlen, ← flatten_length hnew, List.flatten_append, List.length_append]
    rw [hlen]
    simp only [List.flatten_append]
    rw [← hl2, e1, ← List.length_append]
    exact List.take_left)
  rw [hlen] at this
  exact this
/-- 'clear(s[n:n+1])': a spare row of an own slice becomes zero. -/
theorem Own.wipe (ht : P.underlying t = some (.slice e)) (hi : (P.info? e).map (fun i => (i.zero, i.size, i.bytes)) = some (some z, size, bytes)) (hzs : z.cells.size = size) (hsz : 0 < size) (hz1 : ∀ u ∈ z.cells.toList, u.oneCell' = true)
    (h : Own w base e size (.slice (some ⟨g, 0, none⟩) n cap) rows) (hin : n < cap) :
    ∃ w', (∀ ty, (Builtin.clear_ #[t] ty #[.slice (cutA (some ⟨g, 0, none⟩) cap n size) 1 (cap - n)]).run P w = .ok (.tuple #[]) w') ∧
      Own w' base e size (.slice (some ⟨g, 0, none⟩) n cap) rows ∧ w.grownBy w' (some g) := by
  obtain ⟨ti, hi1, hi2, hi3, hi4⟩ := info_parts hi
  obtain ⟨hb, hn', hnc, hcm, cur, hc, hcs, hct⟩ := h.parts
  have hcl : cur.toList.length = cap * size := by simpa using hcs
  have hD : cutA (some ⟨g, 0, none⟩) cap n size = some ⟨g, n * size, none⟩ := by
    unfold cutA
    rw [if_neg (by omega)]
    simp [Addr.add_lit]
  have hms : (n + 1) * size ≤ cap * size := Nat.mul_le_mul_right _ (by omega)
  rw [Nat.add_mul, Nat.one_mul] at hms
  have hzl : (Builtin.zeroCells z.cells 1).toList = z.cells.toList := by rw [zeroCells_flat z.cells 1 (by omega)]; simp
  have hst := run_storeCells_at P g (n * size) e z.cells.toList 0 cur w hc (by simp [hzs]; omega) hz1
  refine ⟨_, fun ty => ?_, ?_, grown_setRow w g (cur.toList.take (n * size + 0) ++ z.cells.toList ++ cur.toList.drop (n * size + 0 + z.cells.toList.length)).toArray⟩
  · simp [Builtin.clear_, run_underlying ht, hD, zeroValue, typeInfo, hi1, hi2, hzl, hst]
  · have := Own.put (e := e) (cur' := (cur.toList.take (n * size + 0) ++ z.cells.toList ++ cur.toList.drop (n * size + 0 + z.cells.toList.length)).toArray) hb hc hcm (by simp only [List.size_toArray, List.length_append, List.length_take, List.length_drop, Array.length_toList, hzs]; omega) h.2 (by omega) (by
      rw [← hn', ← hct, List.append_assoc, Nat.add_zero, List.take_append, List.take_take, Nat.min_self, List.length_take, Nat.min_eq_left (by omega), Nat.sub_self, List.take_zero, List.append_nil])
    rw [← hn'] at this
    exact this
end
section
variable {P : Program} {ops : Array Oper} {o : Oper} {a : Act} {Q : Exit → Act → World → Prop}
theorem wpList_copy_run (w : World) {rest : List Oper} (hgd : o.guard = none) (d s : Operand) (t t' : TypeId)
    (ho : o.op = .call { callee := .builtin .copy, args := #[d, s], argTypes := #[t, t'] }) (v u : Value) (hd : a.eval d = v) (hs : a.eval s = u) {v' : Value} {w' : World}
    (hr : (Builtin.copy_ #[t, t'] o.type #[v, u]).run P w = .ok v' w') (h : wpList P ops Q rest (a.put o.dst v') w') : wpList P ops Q (o :: rest) a w :=
  wpList_plain hgd fun _ hK => by
    unfold Oper.wp execOp
    simp only [ho, resolve, invoke, builtin, Sem.run_bind, Sem.run_pure, Result.andThen_ok, List.map_toArray, List.map_cons, List.map_nil, hd, hs, hr]
    exact hK _ _ h
theorem step_copy_run {w : World} {K : Act → World → Prop} {E : Prop}
    (hg : o.guard = none) (d x : Operand) (dT sT : TypeId) (hop : o.op = Op.call { callee := Callee.builtin Builtin.copy, args := #[d, x], argTypes := #[dT, sT] })
    (v u : Value) (hd : a.eval d = v) (hx : a.eval x = u) {v' : Value} {w' : World} (hr : (Builtin.copy_ #[dT, sT] o.type #[v, u]).run P w = .ok v' w') (hK : K (a.put o.dst v') w') :
    if Region.wanted o (yielded ops a.tmps) = true then Oper.wp P o a w K Q else E := by
  have hw : Region.wanted o (yielded ops a.tmps) = true := by simp [Region.wanted, hg]
  rw [if_pos hw]
  unfold Oper.wp
  simp [execOp, hop, resolve, invoke, builtin, hd, hx, hr, Result.andThen]
  exact hK
theorem step_append_run {w : World} {K : Act → World → Prop} {E : Prop}
    (hg : o.guard = none) (d x : Operand) (dT sT : TypeId) (hop : o.op = Op.call { callee := Callee.builtin Builtin.append, args := #[d, x], argTypes := #[dT, sT] })
    (v u : Value) (hd : a.eval d = v) (hx : a.eval x = u) {v' : Value} {w' : World} (hr : (Builtin.append_ #[dT, sT] o.type #[v, u]).run P w = .ok v' w') (hK : K (a.put o.dst v') w') :
    if Region.wanted o (yielded ops a.tmps) = true then Oper.wp P o a w K Q else E := by
  have hw : Region.wanted o (yielded ops a.tmps) = true := by simp [Region.wanted, hg]
  rw [if_pos hw]
  unfold Oper.wp
  simp [execOp, hop, resolve, invoke, builtin, hd, hx, hr, Result.andThen]
  exact hK
end
end Go.Proofs.Ytpdadlofgfdlpaa
