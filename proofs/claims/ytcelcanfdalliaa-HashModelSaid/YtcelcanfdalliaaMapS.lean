/- A map of the call's own, from strings to plain values (bools, strings): what it holds, as a function. No program. -/
import Derived.Test.YtcelcanfdalliaaKeep
import Derived.Maps.OwnSet
import Derived.StringKeys
namespace Go.Proofs.Ytcelcanfdalliaa
set_option linter.all false
open Go.RowKit
open Go.Maps (Keyed IsMap Tidy)
abbrev kLit (t : ByteArray) : Lit := .string t.data.toList
theorem kLit_ne {a b : ByteArray} (h : a ≠ b) : kLit a ≠ kLit b := fun e => h (by
  injection e with e
  exact ByteArray.ext (Array.toList_inj.1 e))
theorem bytes_of {a b : ByteArray} (h : a.data.toList = b.data.toList) : a = b := ByteArray.ext (Array.toList_inj.1 h)
theorem plain_val {P : Program} {e : TypeId} {v : Value} {z : DataW Unit × List MemPlace} (h : plainElem P e v = some z) :
    (P.underlying e = some .bool ∧ ∃ x, v = .bool x ∧ z.1 = .lit (.bool x)) ∨ (∃ q a, P.underlying e = some (.int q) ∧ v = .int q a ∧ z.1 = .lit (.int q a)) ∨ (P.underlying e = some .string ∧ ∃ s : ByteArray, v = .string s ∧ z.1 = .lit (kLit s)) := by
  unfold plainElem at h
  split at h
  · injection h with h; subst h; exact .inl ⟨by assumption, _, rfl, rfl⟩
  · split at h
    · rename_i h1
      injection h with h; subst h; obtain ⟨rfl, -⟩ := h1; exact .inr (.inl ⟨_, _, by assumption, rfl, rfl⟩)
    · cases h
  · split at h
    · injection h with h; subst h; exact .inr (.inr ⟨by assumption, _, rfl, rfl⟩)
    · cases h
  · cases h
theorem plain_inj {P : Program} {e : TypeId} {v v' : Value} {z z' : DataW Unit × List MemPlace} (h : plainElem P e v = some z) (h' : plainElem P e v' = some z') (he : z.1 = z'.1) : v = v' := by
  rcases plain_val h with ⟨a, x, rfl, hx⟩ | ⟨q, x, a, rfl, hx⟩ | ⟨a, x, rfl, hx⟩ <;> rcases plain_val h' with ⟨b, y, rfl, hy⟩ | ⟨q', y, b, rfl, hy⟩ | ⟨b, y, rfl, hy⟩ <;> rw [hx, hy] at he <;> simp at he <;> try (rw [a] at b; simp at b)
  · rw [he]
  · rw [he.1, he.2]
  · rw [ByteArray.ext he]
/-- Block b is a map of at most m entries: f tells what each key is bound to, n are bound. -/
def MapS (w : World) (P : Program) (k e : TypeId) (b m : Nat) (f : ByteArray → Option Value) (n : Nat) : Prop :=
  ∃ D : DataW Unit, w.ownsMap P k (plainElem P e) b m D ∧ Maps.size D = n ∧ ∀ t : ByteArray, (f t = none → Maps.has D (kLit t) = false) ∧ ∀ v, f t = some v → Maps.has D (kLit t) = true ∧ ∃ d ps, plainElem (H := Unit) P e v = some (d, ps) ∧ ∀ z, D.atKey (kLit t) z = d
section
variable {P : Program} {w w' : World} {T k e : TypeId} {b m m1 n : Nat} {f : ByteArray → Option Value} {t : ByteArray}
theorem MapS.made (w : World) (P : Program) (k e : TypeId) : MapS (w.alloc (.map #[] 0)) P k e w.heap.size 0 (fun _ => none) 0 :=
  ⟨.map [], World.ownsMap_made w P k _, rfl, fun t => ⟨fun _ => rfl, fun v h => by cases h⟩⟩
theorem MapS.lt (h : MapS w P k e b m f n) : b < w.heap.size := by obtain ⟨D, h, _⟩ := h; exact h.lt
theorem MapS.mono (h : MapS w P k e b m f n) {m' : Nat} (hm : m ≤ m') : MapS w P k e b m' f n := by
  obtain ⟨D, h, r⟩ := h; exact ⟨D, h.mono hm, r⟩
theorem MapS.same (h : MapS w P k e b m f n) (hw : w'.heap[b]? = w.heap[b]?) : MapS w' P k e b m f n := by
  obtain ⟨D, ⟨es, clock, hb, r⟩, r'⟩ := h
  exact ⟨D, ⟨es, clock, hw.trans hb, r⟩, r'⟩
theorem MapS.al (h : MapS w P k e b m f n) (o : Obj) : MapS (w.alloc o) P k e b m f n := h.same (Below.heap_alloc w o b h.lt)
theorem MapS.bl (h : MapS w P k e b m f n) (hb : Below w.heap.size w w') : MapS w' P k e b m f n := h.same (hb.block b h.lt)
theorem MapS.drew (h : MapS w P k e b m f n) : MapS w.drew P k e b m f n := h
theorem MapS.drewN (h : MapS w P k e b m f n) (j : Nat) : MapS (w.drewN j) P k e b m f n := h.same (by simp)
theorem MapS.far (h : MapS w P k e b m f n) {p : Addr} (hp : b ≠ p.block) (u : Value) : MapS (w.setCell p u) P k e b m f n := h.same (Below.heap_setCell w p u b hp)
theorem MapS.grown (h : MapS w P k e b m f n) {g : Nat} (hg : w.grownBy w' (some g)) (hne : b ≠ g) : MapS w' P k e b m f n := h.same (hg.block b h.lt (by simpa using hne))
theorem MapS.len (h : MapS w P k e b m f n) (ht : P.underlying T = some (.map k e)) (ty : TypeId) : (Builtin.len_ #[T] ty #[.map (some b)]).run P w = .ok (.int .i64 n) w := by
  obtain ⟨D, h, hn, _⟩ := h
  rw [← hn]
  exact h.len ht ty
theorem MapS.look (h : MapS w P k e b m f n) (hk : P.underlying k = some .string) (ht : P.underlying T = some (.map k e)) {z : Value} (hz : (zeroValue e).run P w = .ok z w) {zd : DataW Unit} (hzd : plainElem P e z = some (zd, [])) (hs : t.size ≤ maxLen) :
    (Instr.lookup T (.map (some b)) (.string t) false).run P w = .ok ((f t).getD z) w := by
  obtain ⟨D, h, -, hf⟩ := h
  obtain ⟨v, ps, hr, hv⟩ := h.lookup (Maps.string_keyed hk) ht hz hzd (WideMaps.keyOf_string_mk hk hs)
  rw [hr]
  cases hft : f t with
  | none =>
    have := plain_inj hv hzd (by simp only [Maps.atKey_of_not_has ((hf t).1 hft)])
    simp [this]
  | some x =>
    obtain ⟨_, d, ps', hx, ha⟩ := (hf t).2 x hft
    have := plain_inj hv hx (by simp only [ha])
    simp [this]
theorem MapS.look_ok (h : MapS w P k e b m f n) (hk : P.underlying k = some .string) (ht : P.underlying T = some (.map k e)) {z : Value} (hz : (zeroValue e).run P w = .ok z w) {zd : DataW Unit} (hzd : plainElem P e z = some (zd, [])) (hs : t.size ≤ maxLen) :
    (Instr.lookup T (.map (some b)) (.string t) true).run P w = .ok (.tuple #[(f t).getD z, .bool (f t).isSome]) w := by
  obtain ⟨D, h, -, hf⟩ := h
  obtain ⟨v, ps, hr, hv⟩ := h.look_ok (Maps.string_keyed hk) ht hz hzd (WideMaps.keyOf_string_mk hk hs)
  rw [hr]
  cases hft : f t with
  | none =>
    have := plain_inj hv hzd (by simp only [Maps.atKey_of_not_has ((hf t).1 hft)])
    simp [this, (hf t).1 hft]
  | some x =>
    obtain ⟨hh, d, ps', hx, ha⟩ := (hf t).2 x hft
    have := plain_inj hv hx (by simp only [ha])
    simp [this, hh]
theorem MapS.put (h : MapS w P k e b m f n) (hk : P.underlying k = some .string) (ht : P.underlying T = some (.map k e)) (hm : m < maxLen) {v : Value} {d : DataW Unit} {ps : List MemPlace} (hv : plainElem P e v = some (d, ps)) (hs : t.size ≤ maxLen) :
    ∃ w', (Instr.mapUpdate T (.map (some b)) (.string t) v).run P w = .ok () w' ∧ MapS w' P k e b (m + 1) (fun s => if s = t then some v else f s) (if (f t).isSome = true then n else n + 1) ∧ w.mapTurned w' b := by
  obtain ⟨D, h, hn, hf⟩ := h
  have hkl : WideAt.IsKeyLit (kLit t) := (Maps.string_keyed hk).key (WideMaps.keyOf_string_mk hk hs)
  obtain ⟨w', hr, h', ht'⟩ := h.store (Maps.string_keyed hk) ht hm (WideMaps.keyOf_string_mk hk hs) hv
  refine ⟨w', hr, ⟨_, h', ?_, fun s => ?_⟩, ht'⟩
  · rw [Maps.size_put (h.tidy (Maps.string_keyed hk)), hn]
    cases hft : f t with
    | none => simp [(hf t).1 hft]
    | some x => simp [((hf t).2 x hft).1]
  · by_cases he : s = t
    · subst he
      simp only [if_true]
      refine ⟨(by simp), fun u hu => ?_⟩
      injection hu with hu
      subst hu
      exact ⟨Maps.has_put_same h.isMap hkl _, d, ps, hv, fun z => Maps.atKey_put_same h.isMap hkl d z⟩
    · simp only [if_neg he]
      rw [Maps.has_put_other (kLit_ne he)]
      refine ⟨(hf s).1, fun u hu => ?_⟩
      obtain ⟨a, d', ps', c, q⟩ := (hf s).2 u hu
      exact ⟨a, d', ps', c, fun z => by rw [Maps.atKey_put_other (kLit_ne he)]; exact q z⟩
theorem MapS.del (h : MapS w P k e b m f n) (hk : P.underlying k = some .string) (ht : P.underlying T = some (.map k e)) (hs : t.size ≤ maxLen) :
    ∃ w', (∀ ty, (Builtin.delete_ #[T, k] ty #[.map (some b), .string t]).run P w = .ok (.tuple #[]) w') ∧ MapS w' P k e b m (fun s => if s = t then none else f s) (if (f t).isSome = true then n - 1 else n) ∧ w.mapTurned w' b := by
  obtain ⟨D, h, hn, hf⟩ := h
  obtain ⟨D', h0, hD, hn'⟩ : ∃ w', (∀ ty, (Builtin.delete_ #[T, k] ty #[.map (some b), .string t]).run P w = .ok (.tuple #[]) w') ∧ w'.ownsMap P k (plainElem P e) b m (D.del (kLit t)) ∧ w.mapTurned w' b := by
    obtain ⟨es, clock, hb, F, hs', hDe⟩ := h
    obtain ⟨es', hrun, F', hle, hdel, _⟩ := Maps.fit_drop (ty := 0) (Maps.string_keyed hk) ht hb F (WideMaps.keyOf_string_mk hk hs)
    refine ⟨_, fun ty => hrun, ⟨es', clock, ChangeMaps.heap_setBlock_same hb _, F', Nat.le_trans hle hs', by rw [hDe, DataW.del_eq, hdel]⟩, ⟨es, clock, es', clock, hb, rfl⟩⟩
  refine ⟨D', h0, ⟨_, hD, ?_, fun s => ?_⟩, hn'⟩
  · have := Maps.size_del (k := kLit t) (h.tidy (Maps.string_keyed hk))
    rw [hn] at this
    cases hft : f t with
    | none => rw [(hf t).1 hft] at this; simpa using this
    | some x =>
      rw [((hf t).2 x hft).1] at this
      simp only [if_true] at this
      simp only [Option.isSome_some, if_true]
      exact (Nat.sub_eq_of_eq_add this.symm).symm
  · by_cases he : s = t
    · subst he
      simp only [if_true]
      exact ⟨fun _ => Maps.has_del_same, fun v hv => by cases hv⟩
    · simp only [if_neg he]
      rw [Maps.has_del_other (kLit_ne he)]
      refine ⟨(hf s).1, fun u hu => ?_⟩
      obtain ⟨a, d', ps', c, q⟩ := (hf s).2 u hu
      exact ⟨a, d', ps', c, fun z => by rw [Maps.atKey_del_other (kLit_ne he)]; exact q z⟩
theorem wpList_mapPut {ops : Array Oper} {rest : List Oper} {o : Oper} {a : Act} {Q : Exit → Act → World → Prop} (hg : o.guard = none) (m x v : Operand) (t : TypeId) (hop : o.op = Op.mapUpdate t m x v) (b : Nat) (key val : Value)
    (hm : a.eval m = .map (some b)) (hx : a.eval x = key) (hv : a.eval v = val) (hrun : (Instr.mapUpdate t (.map (some b)) key val).run P w = .ok () w') (hK : wpList P ops Q rest (a.put o.dst undef) w') : wpList P ops Q (o :: rest) a w := by
  refine wpList_plain hg fun K' hK' => ?_
  unfold Oper.wp
  simp [execOp, hop, hm, hx, hv, hrun, Result.andThen]
  exact hK' _ _ hK
theorem wpList_mapDel {ops : Array Oper} {rest : List Oper} {o : Oper} {a : Act} {Q : Exit → Act → World → Prop} (hg : o.guard = none) (m x : Operand) (t k : TypeId) (hop : o.op = Op.call { callee := Callee.builtin Builtin.delete, args := #[m, x], argTypes := #[t, k] }) (b : Nat) (key : Value)
    (hm : a.eval m = .map (some b)) (hx : a.eval x = key) (hrun : ∀ ty, (Builtin.delete_ #[t, k] ty #[.map (some b), key]).run P w = .ok (.tuple #[]) w') (hK : wpList P ops Q rest (a.put o.dst (.tuple #[])) w') : wpList P ops Q (o :: rest) a w := by
  refine wpList_plain hg fun K' hK' => ?_
  unfold Oper.wp
  simp [execOp, hop, resolve, invoke, builtin, hm, hx, hrun o.type, Result.andThen]
  exact hK' _ _ hK
theorem wpList_mapLen {ops : Array Oper} {rest : List Oper} {o : Oper} {a : Act} {Q : Exit → Act → World → Prop} (hg : o.guard = none) (m : Operand) (t : TypeId) (hop : o.op = Op.call { callee := Callee.builtin Builtin.len, args := #[m], argTypes := #[t] })
    (ht : P.underlying t = some (.map k e)) (h : MapS w P k e b m1 f n) (hm : a.eval m = .map (some b))
    (hK : wpList P ops Q rest (a.put o.dst (.int .i64 n)) w) : wpList P ops Q (o :: rest) a w := by
  refine wpList_plain hg fun K' hK' => ?_
  unfold Oper.wp
  simp [execOp, hop, resolve, invoke, builtin, hm, h.len ht o.type, Result.andThen]
  exact hK' _ _ hK
theorem turned_below (h : w.mapTurned w' b) {B : Nat} {a : World} (hq : Below B a w) (hB : B ≤ b) (hz : B ≤ w.heap.size) : Below B a w' :=
  hq.grown h.grown hz (fun j hj => by injection hj with hj; omega)
theorem turned_ne (h : w.mapTurned w' b) {g : Nat} {t : TypeId} {cs : Array Value} (hb : Blk w g t cs) : g ≠ b := fun e => by
  subst e
  obtain ⟨es, c, es', c', h1, -⟩ := h
  unfold Blk at hb
  rw [hb] at h1
  cases h1
theorem turned_blk (h : w.mapTurned w' b) {g : Nat} {t : TypeId} {cs : Array Value} (hb : Blk w g t cs) : Blk w' g t cs := grown_blk hb h.grown (turned_ne h hb)
theorem turned_tp (h : w.mapTurned w' b) {A : Option Addr} {t : TypeId} (hT : Tp w A t) : Tp w' A t := fun a ha => by
  obtain ⟨cs', h'⟩ := hT a ha
  exact ⟨cs', turned_blk h h'⟩
theorem turned_vsl (h : w.mapTurned w' b) {v : Va} {A1 A2 A3 : Option Addr} {n1 c1 n2 c2 n3 c3 : Nat} (hv : VSl w v A1 n1 c1 A2 n2 c2 A3 n3 c3) (T : Tp w A1 50 ∧ Tp w A2 9 ∧ Tp w A3 56) : VSl w' v A1 n1 c1 A2 n2 c2 A3 n3 c3 := by
  have ne : ∀ {A : Option Addr} {t : TypeId}, Tp w A t → ∀ a, A = some a → a.block ≠ b := fun hT a ha => by
    obtain ⟨cs', h'⟩ := hT a ha
    exact turned_ne h h'
  exact ⟨hv.p.far h.grown (ne T.1), hv.i.far h.grown (ne T.2.1), hv.s.far h.grown (ne T.2.2)⟩
theorem MapS.ne (h : MapS w P k e b m f n) {g : Nat} {t : TypeId} {cs : Array Value} (hb : Blk w g t cs) : b ≠ g := fun e => by
  subst e
  obtain ⟨D, ⟨es, c, h1, -⟩, -⟩ := h
  unfold Blk at hb
  rw [hb] at h1
  cases h1
end
end Go.Proofs.Ytcelcanfdalliaa
