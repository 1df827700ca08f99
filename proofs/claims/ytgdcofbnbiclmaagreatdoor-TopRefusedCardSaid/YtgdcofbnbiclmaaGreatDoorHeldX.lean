import Derived.Test.YtgdcofbnbiclmaaGreatDoorBase
import Derived.Deep.RegionHeld3
import Derived.StillTailTactics
import Derived.Test.YtgdcofbnbiclmaaGreatDoorOwn
/- A region that draws its order: loads taken first although a later store of the region hits their cells, where that store waits for each of them. No program. -/
namespace Go.Proofs.YtgdcofbnbiclmaaGreatDoor
set_option linter.all false
open Go.RowKit
section
variable {P : Program} {ops : Array Oper} {Q : Exit → Act → World → Prop} {md : Region.Mode} {S : World → Prop} {T : Nat → Bool}
/-- Whatever order is picked from here on; S holds behind every operation that is carried out, but for those of T. -/
def wpAnyX (P : Program) (md : Region.Mode) (ops : Array Oper) (Q : Exit → Act → World → Prop) (S : World → Prop) (T : Nat → Bool) : Nat → Array Bool → Act → World → Prop
  | 0, listed, a, w => Region.ready md ops listed = [] ∧ Q .normal a w
  | fuel + 1, listed, a, w =>
    (Region.ready md ops listed = [] → Q .normal a w) ∧
    ∀ i ∈ Region.ready md ops listed, wpOp P ops Q i (fun a' w' => (T i = true ∨ S w') ∧ wpAnyX P md ops Q S T fuel (listed.setIfInBounds i true) a' w') a w
theorem wpAny_of_x : ∀ (fuel : Nat) (listed : Array Bool) (a : Act) (w : World), wpAnyX P md ops Q S T fuel listed a w → wpAny P md ops Q fuel listed a w
  | 0, _, _, _, h => h
  | fuel + 1, _, _, _, h => ⟨h.1, fun i hi => wpOp_mono (fun a' w' h' => wpAny_of_x fuel _ a' w' h'.2) (h.2 i hi)⟩
theorem unlisted {listed : Array Bool} {i : Nat} (h : i ∈ Region.ready md ops listed) : listed.getD i false = false := getD_both (mem_ready.1 h).1
theorem not_spared {listed : Array Bool} {i j : Nat} (hT : ∀ j, T j = true → Region.waitsFor md ops j i = true) (hi : i ∈ Region.ready md ops listed) (hj : j ∈ Region.ready md ops listed) : T j ≠ true := by
  intro h
  obtain ⟨oj, ho, e, he, hb, hon⟩ := Region.waitsFor_spec (hT j h)
  obtain ⟨_, o', ho', hall⟩ := mem_ready.1 hj
  obtain rfl : o' = oj := Option.some.inj (ho'.symm.trans ho)
  have := hall e he hb
  rw [hon, unlisted hi] at this
  cases this
theorem wpAnyX_first {i : Nat} {oi : Oper} {v : Value} (hi : ops[i]? = some oi) (hsel : ∀ (j : Nat) (o : Oper) cs b, ops[j]? = some o → o.op ≠ .select cs b)
    (hQ : ∀ c a w, Q (.panic c) (a.put oi.dst v) w → Q (.panic c) a w) (hT : ∀ j, T j = true → Region.waitsFor md ops j i = true) :
    ∀ (fuel : Nat) (listed : Array Bool) (a : Act) (w : World),
      (∀ j oj, ops[j]? = some oj → j ≠ i → listed.getD j true = false → (∀ e ∈ oj.after, Region.binds md e = true → e.on ≠ i) → oi.apart ops oj = true) →
      i ∈ Region.ready md ops listed → YieldsIf P ops S oi v a → S w →
      wpAnyX P md ops Q S T fuel (listed.setIfInBounds i true) (a.put oi.dst v) w → wpAnyX P md ops Q S T (fuel + 1) listed a w
  | 0, listed, a, w, _, hr, hy, hS, H => by
    refine ⟨fun h => (by rw [h] at hr; cases hr), fun j hj => ?_⟩
    by_cases hji : j = i
    · subst hji; exact hy.wpOp hi hS ⟨.inr hS, H⟩
    · have := ready_mono hj hji
      rw [H.1] at this
      cases this
  | fuel + 1, listed, a, w, hfree, hr, hy, hS, H => by
    refine ⟨fun h => (by rw [h] at hr; cases hr), fun j hj => ?_⟩
    by_cases hji : j = i
    · subst hji; exact hy.wpOp hi hS ⟨.inr hS, H⟩
    · have h1 := H.2 j (ready_mono hj hji)
      obtain ⟨hjun, oj, hoj, hall⟩ := mem_ready.1 hj
      have hnot : ∀ e ∈ oj.after, Region.binds md e = true → e.on ≠ i := fun e he hb heq => by
        have h1 := hall e he hb
        rw [heq, unlisted hr] at h1
        cases h1
      have hsp := not_spared hT hr hj
      have h2 := wpOp_putIf hoj (hfree j oj hoj hji hjun hnot) (fun cs b => hsel i oi cs b hi) (fun cs b => hsel j oj cs b hoj) hQ hy h1
      have hfree' : ∀ k ok, ops[k]? = some ok → k ≠ i → (listed.setIfInBounds j true).getD k true = false →
          (∀ e ∈ ok.after, Region.binds md e = true → e.on ≠ i) → oi.apart ops ok = true := fun k ok hk hki hun hno => by
        refine hfree k ok hk hki ?_ hno
        by_cases hjk : j = k
        · subst hjk; exact hjun
        · rw [getD_set_ne true hjk] at hun; exact hun
      refine wpOp_mono (fun a' w' h3 => ?_) h2
      have hS' : S w' := h3.2.1.resolve_left hsp
      refine ⟨.inr hS', wpAnyX_first hi hsel hQ hT fuel (listed.setIfInBounds j true) a' w' hfree' (ready_mono hr (Ne.symm hji)) h3.1 hS' ?_⟩
      rw [Array.setIfInBounds_comm _ _ hji]
      exact h3.2.2
def sparedOk (md : Region.Mode) (ops : Array Oper) (l : List Nat) (i : Nat) : Bool := l.all fun j => Region.waitsFor md ops j i
theorem wpAnyX_take {l : List Nat} {i : Nat} {oi : Oper} {v : Value} {fuel : Nat} {listed : Array Bool} {a : Act} {w : World} (hi : ops[i]? = some oi)
    (hs : Region.noSelect ops = true) (hf : Region.free md ops listed i = true) (hr : (Region.ready md ops listed).contains i = true) (hT : sparedOk md ops l i = true)
    (hQ : ∀ c a w, Q (.panic c) (a.put oi.dst v) w → Q (.panic c) a w) (hy : YieldsIf P ops S oi v a) (hS : S w)
    (h : wpAnyX P md ops Q S (fun j => l.contains j) fuel (listed.setIfInBounds i true) (a.put oi.dst v) w) : wpAnyX P md ops Q S (fun j => l.contains j) (fuel + 1) listed a w :=
  wpAnyX_first hi (Region.noSelect_spec hs) hQ (fun j hj => List.all_eq_true.1 hT j (by simpa using hj)) fuel listed a w (Region.free_spec hi hf) (by simpa using hr) hy hS h
theorem wpAnyX_tk {l : List Nat} {i : Nat} {oi : Oper} {v : Value} {fuel : Nat} {listed : Array Bool} {a : Act} {w : World} (hi : ops[i]? = some oi) (hy : YieldsIf P ops S oi v a)
    (h : wpAnyX P md ops Q S (fun j => l.contains j) fuel (listed.setIfInBounds i true) (a.put oi.dst v) w)
    (hs : Region.noSelect ops = true := by kernel_rfl) (hf : Region.free md ops listed i = true := by kernel_rfl) (hr : (Region.ready md ops listed).contains i = true := by kernel_rfl) (hT : sparedOk md ops l i = true := by kernel_rfl)
    (hQ : ∀ c a w, Q (.panic c) (a.put oi.dst v) w → Q (.panic c) a w := by exact fun _ _ _ h => h) (hS : S w := by assumption) : wpAnyX P md ops Q S (fun j => l.contains j) (fuel + 1) listed a w :=
  wpAnyX_take hi hs hf hr hT hQ hy hS h
/-- What yields in whatever world is taken first at any time, behind a store too. -/
theorem wpAnyX_pure {l : List Nat} {i : Nat} {oi : Oper} {v : Value} {fuel : Nat} {listed : Array Bool} {a : Act} {w : World} (hi : ops[i]? = some oi) (hr : Region.ready md ops listed = [i])
    (hy : Yields P ops oi v a) (hS : l.contains i = true ∨ S w)
    (h : wpAnyX P md ops Q S (fun j => l.contains j) fuel (listed.setIfInBounds i true) (a.put oi.dst v) w) : wpAnyX P md ops Q S (fun j => l.contains j) (fuel + 1) listed a w := by
  refine ⟨fun h0 => (by rw [hr] at h0; cases h0), fun j hj => ?_⟩
  rw [hr] at hj
  obtain rfl : j = i := by simpa using hj
  exact hy.wpOp hi ⟨hS, h⟩
theorem wpAnyX_one {l : List Nat} {i : Nat} {oi : Oper} {fuel : Nat} {listed : Array Bool} {a : Act} {w : World} (hr : Region.ready md ops listed = [i]) (hi : ops[i]? = some oi) (hg : oi.guard = none)
    (h : ∀ K : Act → World → Prop, Shut (∀ a' w', (l.contains i = true ∨ S w') → ((l.contains i = true ∨ S w') → wpAnyX P md ops Q S (fun j => l.contains j) fuel (listed.setIfInBounds i true) a' w') → Exit.then K Q .normal a' w') → wpList P ops (Exit.then K Q) [oi] a w) :
    wpAnyX P md ops Q S (fun j => l.contains j) (fuel + 1) listed a w := by
  refine ⟨fun h0 => (by rw [hr] at h0; cases h0), fun j hj => ?_⟩
  rw [hr] at hj
  obtain rfl : j = i := by simpa using hj
  have h1 := h (fun a' w' => (l.contains j = true ∨ S w') ∧ wpAnyX P md ops Q S (fun j => l.contains j) fuel (listed.setIfInBounds j true) a' w') (fun a' w' hS hW => ⟨hS, hW hS⟩)
  have hw : Region.wanted oi (yielded ops a.tmps) = true := by simp [Region.wanted, hg]
  unfold wpList at h1
  rw [if_pos hw] at h1
  unfold wpOp
  simp only [hi]
  rw [if_pos hw]
  rcases h1 with h1 | ⟨h1, h2⟩
  · refine .inl ?_
    unfold Oper.wp at h1 ⊢
    generalize (execOp a.eval oi).run P w = r at *
    cases r with
    | ok n w' =>
      cases n <;> simp only [Oper.upon] at h1 ⊢ <;> first | exact h1 | (refine Calls.mono h1 fun e w'' he => ?_; cases e <;> exact he)
    | halt x w' => cases x <;> simp only [Oper.upon] at h1 ⊢ <;> exact h1
  · exact .inr ⟨h1, by simpa [LetsOut, Exit.then] using h2⟩
/-- wpAnyX_tk with its tactics as defaults; what is listed, and the frame, are written out. -/
theorem wpAnyX_tq {l : List Nat} (i : Nat) {oi : Oper} {v : Value} {fuel : Nat} {listed L' : Array Bool} {a a' : Act} {w : World}
    (h : wpAnyX P md ops Q S (fun j => l.contains j) fuel L' a' w) (hi : ops[i]? = some oi := by rfl)
    (hy : YieldsIf P ops S oi v a := by exact Or.inl ⟨by rfl, by (intro w hSw; (try dsimp only at hSw); go_simp; (try with_reducible rfl))⟩)
    (hL : listed.setIfInBounds i true = L' := by (try simp only [List.setIfInBounds_toArray, List.set_cons_zero, List.set_cons_succ]); exact rfl)
    (ha : a.put oi.dst v = a' := by (try simp only [Act.put, List.setIfInBounds_toArray, List.set_cons_zero, List.set_cons_succ, List.getElem_toArray, List.getElem_cons_zero, List.getElem_cons_succ]); exact rfl)
    (hs : Region.noSelect ops = true := by kernel_rfl) (hf : Region.free md ops listed i = true := by kernel_rfl) (hr : (Region.ready md ops listed).contains i = true := by kernel_rfl) (hT : sparedOk md ops l i = true := by kernel_rfl)
    (hQ : ∀ c a w, Q (.panic c) (a.put oi.dst v) w → Q (.panic c) a w := by exact fun _ _ _ h => h) (hS : S w := by assumption) : wpAnyX P md ops Q S (fun j => l.contains j) (fuel + 1) listed a w := by
  subst hL; subst ha; exact wpAnyX_take hi hs hf hr hT hQ hy hS h
theorem wpAnyX_pq {l : List Nat} (i : Nat) {oi : Oper} {v : Value} {fuel : Nat} {listed L' : Array Bool} {a a' : Act} {w : World}
    (h : wpAnyX P md ops Q S (fun j => l.contains j) fuel L' a' w) (hr : Region.ready md ops listed = [i] := by kernel_rfl) (hi : ops[i]? = some oi := by rfl)
    (hy : Yields P ops oi v a := by exact Or.inl ⟨by rfl, by (intro w; go_simp; (try with_reducible rfl))⟩)
    (hL : listed.setIfInBounds i true = L' := by (try simp only [List.setIfInBounds_toArray, List.set_cons_zero, List.set_cons_succ]); exact rfl)
    (ha : a.put oi.dst v = a' := by (try simp only [Act.put, List.setIfInBounds_toArray, List.set_cons_zero, List.set_cons_succ, List.getElem_toArray, List.getElem_cons_zero, List.getElem_cons_succ]); exact rfl)
    (hS : l.contains i = true ∨ S w := by exact Or.inl (by kernel_rfl)) : wpAnyX P md ops Q S (fun j => l.contains j) (fuel + 1) listed a w := by
  subst hL; subst ha; exact wpAnyX_pure hi hr hy hS h
theorem wpAnyX_ps {l : List Nat} (i : Nat) {oi : Oper} {v : Value} {fuel : Nat} {listed L' : Array Bool} {a a' : Act} {w : World}
    (h : wpAnyX P md ops Q S (fun j => l.contains j) fuel L' a' w) (hr : Region.ready md ops listed = [i] := by kernel_rfl) (hi : ops[i]? = some oi := by rfl)
    (hy : Yields P ops oi v a := by exact Or.inl ⟨by rfl, by (intro w; go_simp; (try with_reducible rfl))⟩)
    (hL : listed.setIfInBounds i true = L' := by (try simp only [List.setIfInBounds_toArray, List.set_cons_zero, List.set_cons_succ]); exact rfl)
    (ha : a.put oi.dst v = a' := by (try simp only [Act.put, List.setIfInBounds_toArray, List.set_cons_zero, List.set_cons_succ, List.getElem_toArray, List.getElem_cons_zero, List.getElem_cons_succ]); exact rfl)
    (hS : l.contains i = true ∨ S w := by exact Or.inr (by assumption)) : wpAnyX P md ops Q S (fun j => l.contains j) (fuel + 1) listed a w := by
  subst hL; subst ha; exact wpAnyX_pure hi hr hy hS h
theorem wpAnyX_oq {l : List Nat} (i : Nat) {oi : Oper} {fuel : Nat} {listed : Array Bool} {a : Act} {w : World}
    (h : ∀ K : Act → World → Prop, Shut (∀ a' w', (l.contains i = true ∨ S w') → ((l.contains i = true ∨ S w') → wpAnyX P md ops Q S (fun j => l.contains j) fuel (listed.setIfInBounds i true) a' w') → Exit.then K Q .normal a' w') → wpList P ops (Exit.then K Q) [oi] a w)
    (hr : Region.ready md ops listed = [i] := by kernel_rfl) (hi : ops[i]? = some oi := by (try simp only [List.getElem?_toArray, List.getElem?_cons_zero, List.getElem?_cons_succ]); exact rfl) (hg : oi.guard = none := by rfl) :
    wpAnyX P md ops Q S (fun j => l.contains j) (fuel + 1) listed a w := wpAnyX_one hr hi hg h
theorem wpAnyX_done {listed : Array Bool} {a : Act} {w : World} (hr : Region.ready md ops listed = []) (h : Q .normal a w) : ∀ fuel, wpAnyX P md ops Q S T fuel listed a w
  | 0 => ⟨hr, h⟩
  | _ + 1 => ⟨fun _ => h, by rw [hr]; simp⟩
theorem wp_region_x {l : List Nat} {id : Nat} {a : Act} {w : World} (hm : P.follows .mixedOrders = true) (hS : S w.drew)
    (h : S w.drew → wpAnyX P .any ops Q S (fun j => l.contains j) ops.size (Array.replicate ops.size false) a w.drew) : (Code.region id ops true).wp P Q a w :=
  wp_region_any hm (wpAny_of_x _ _ _ _ (h hS))
end
end Go.Proofs.YtgdcofbnbiclmaaGreatDoor
/- HeldX's law at a guarded operation that is wanted. No program. -/
namespace Go.Proofs.YtgdcofbnbiclmaaGreatDoor
set_option linter.all false
open Go.RowKit
section
variable {P : Program} {ops : Array Oper} {Q : Exit → Act → World → Prop} {md : Region.Mode} {S : World → Prop}
theorem wpAnyX_onew {l : List Nat} {i : Nat} {oi : Oper} {fuel : Nat} {listed : Array Bool} {a : Act} {w : World} (hr : Region.ready md ops listed = [i]) (hi : ops[i]? = some oi) (hw : Region.wanted oi (yielded ops a.tmps) = true)
    (h : ∀ K : Act → World → Prop, Shut (∀ a' w', (l.contains i = true ∨ S w') → ((l.contains i = true ∨ S w') → wpAnyX P md ops Q S (fun j => l.contains j) fuel (listed.setIfInBounds i true) a' w') → Exit.then K Q .normal a' w') → Oper.wp P oi a w (fun a' w' => Exit.then K Q .normal a' w') (Exit.then K Q)) :
    wpAnyX P md ops Q S (fun j => l.contains j) (fuel + 1) listed a w := by
  refine ⟨fun h0 => (by rw [hr] at h0; cases h0), fun j hj => ?_⟩
  rw [hr] at hj
  obtain rfl : j = i := by simpa using hj
  have h1 := h (fun a' w' => (l.contains j = true ∨ S w') ∧ wpAnyX P md ops Q S (fun j => l.contains j) fuel (listed.setIfInBounds j true) a' w') (fun a' w' hS hW => ⟨hS, hW hS⟩)
  unfold wpOp
  simp only [hi]
  rw [if_pos hw]
  refine .inl ?_
  unfold Oper.wp at h1 ⊢
  generalize (execOp a.eval oi).run P w = r at *
  cases r with
  | ok n w' =>
    cases n <;> simp only [Oper.upon] at h1 ⊢ <;> first | exact h1 | (refine Calls.mono h1 fun e w'' he => ?_; cases e <;> exact he)
  | halt x w' => cases x <;> simp only [Oper.upon] at h1 ⊢ <;> exact h1
end
end Go.Proofs.YtgdcofbnbiclmaaGreatDoor
/- A region that draws its order, in which new variables may be laid at any time: its other operations one by one, the new variables wherever they come. No program. -/
namespace Go.Proofs.YtgdcofbnbiclmaaGreatDoor
set_option linter.all false
open Go.RowKit
/-- If it is laid already, x points to it, and it is as it was laid. -/
def Pend (b : Bool) (base : Nat) (t : TypeId) (z : Array Value) (x : Value) (w : World) : Prop := b = true → ∃ p, x = .pointer (some ⟨p, 0, none⟩) ∧ base ≤ p ∧ Blk w p t z
/-- Two that are laid are two. -/
def Two (b c : Bool) (x y : Value) : Prop := b = true → c = true → x ≠ y
theorem Pend.bl {b : Bool} {base : Nat} {t : TypeId} {z : Array Value} {x : Value} {w w' : World} (h : Pend b base t z x w) (hb : Below w.heap.size w w') : Pend b base t z x w' := fun hh => by
  obtain ⟨p, h1, h2, h3⟩ := h hh
  exact ⟨p, h1, h2, h3.below' hb⟩
theorem Pend.al {b : Bool} {base : Nat} {t : TypeId} {z : Array Value} {x : Value} {w : World} (h : Pend b base t z x w) (o : Obj) : Pend b base t z x (w.alloc o) := fun hh => by
  obtain ⟨p, h1, h2, h3⟩ := h hh
  exact ⟨p, h1, h2, h3.alloc o⟩
theorem Pend.no {base : Nat} {t : TypeId} {z : Array Value} {x : Value} {w : World} : Pend false base t z x w := fun h => by cases h
theorem Two.no {c : Bool} {x y : Value} : Two false c x y := fun h => by cases h
theorem Pend.lt {b : Bool} {base : Nat} {t : TypeId} {z : Array Value} {x : Value} {w : World} (h : Pend b base t z x w) (hb : b = true) : x ≠ .pointer (some ⟨w.heap.size, 0, none⟩) := by
  obtain ⟨p, rfl, h2, h3⟩ := h hb
  intro e
  injection e with e
  injection e with e
  injection e with e
  have := h3.lt
  omega
/-- How many are not yet laid. -/
def left2 (b c : Bool) : Nat := (if b = true then 0 else 1) + (if c = true then 0 else 1)
section
variable {P : Program} {ops : Array Oper} {Q : Exit → Act → World → Prop} {md : Region.Mode} {S : World → Prop} {l : List Nat}
/-- Operation j lays a new variable. -/
structure Lays (P : Program) (ops : Array Oper) (j d : Nat) (t : TypeId) (z : Array Value) : Prop where
  run : ∃ o, ops[j]? = some o ∧ o.guard = none ∧ o.dst = some d ∧ ∀ (a : Act) (w : World), (execOp a.eval o).run P w = .ok (.value (.pointer (some ⟨w.heap.size, 0, none⟩))) (w.alloc (.cells z t))
theorem Lays.wpOp {j d : Nat} {t : TypeId} {z : Array Value} (h : Lays P ops j d t z) {K : Act → World → Prop} {a : Act} {w : World} (hK : K (a.put (some d) (.pointer (some ⟨w.heap.size, 0, none⟩))) (w.alloc (.cells z t))) : wpOp P ops Q j K a w := by
  obtain ⟨o, h1, h2, h3, h4⟩ := h.run
  unfold Go.wpOp
  simp only [h1]
  rw [if_pos (by simp [Region.wanted, h2])]
  refine .inl ?_
  unfold Oper.wp
  rw [h4, Oper.upon_value, h3]
  exact hK
theorem wpOp_one {i : Nat} {oi : Oper} {K : Act → World → Prop} {a : Act} {w : World} (hi : ops[i]? = some oi) (hg : oi.guard = none)
    (h1 : wpList P ops (Exit.then K Q) [oi] a w) : Go.wpOp P ops Q i K a w := by
  have hw : Region.wanted oi (yielded ops a.tmps) = true := by simp [Region.wanted, hg]
  unfold wpList at h1
  rw [if_pos hw] at h1
  unfold Go.wpOp
  simp only [hi]
  rw [if_pos hw]
  rcases h1 with h1 | ⟨h1, h2⟩
  · refine .inl ?_
    unfold Oper.wp at h1 ⊢
    generalize (execOp a.eval oi).run P w = r at *
    cases r with
    | ok n w' =>
      cases n <;> simp only [Oper.upon] at h1 ⊢ <;> first | exact h1 | (refine Calls.mono h1 fun e w'' he => ?_; cases e <;> exact he)
    | halt x w' => cases x <;> simp only [Oper.upon] at h1 ⊢ <;> exact h1
  · exact .inr ⟨h1, by simpa [LetsOut, Exit.then] using h2⟩
theorem wpX_start {j1 j2 d1 d2 : Nat} {t1 t2 : TypeId} {z1 z2 : Array Value} {T : Nat → Bool} {n n' : Nat} {listed listed' : Array Bool} {a : Act} {w : World} (a1 : Lays P ops j1 d1 t1 z1) (a2 : Lays P ops j2 d2 t2 z2)
    (hn : n' = n) (hl : listed' = listed)
    (h : Lays P ops j1 d1 t1 z1 → Lays P ops j2 d2 t2 z2 → wpAnyX P md ops Q S T n listed a w) : wpAnyX P md ops Q S T n' listed' a w := by subst hn; subst hl; exact h a1 a2
/-- What may come up: i, or what is not yet laid. -/
def phaseOk (md : Region.Mode) (ops : Array Oper) (L : Bool → Bool → Array Bool) (i j1 j2 : Nat) : Bool :=
  [true, false].all fun b => [true, false].all fun c => (Region.ready md ops (L b c)).all (fun k => k == i || (k == j1 && !b) || (k == j2 && !c)) && !(Region.ready md ops (L b c)).isEmpty
theorem phaseOk_spec {L : Bool → Bool → Array Bool} {i j1 j2 : Nat} (h : phaseOk md ops L i j1 j2 = true) (b c : Bool) :
    (∀ k ∈ Region.ready md ops (L b c), k = i ∨ (k = j1 ∧ b = false) ∨ (k = j2 ∧ c = false)) ∧ Region.ready md ops (L b c) ≠ [] := by
  unfold phaseOk at h
  have h1 := List.all_eq_true.1 (List.all_eq_true.1 h b (by cases b <;> simp)) c (by cases c <;> simp)
  rw [Bool.and_eq_true] at h1
  refine ⟨fun k hk => ?_, fun e => by rw [e] at h1; simp at h1⟩
  have := List.all_eq_true.1 h1.1 k hk
  simp only [Bool.or_eq_true, Bool.and_eq_true, beq_iff_eq, Bool.not_eq_true'] at this
  exact or_assoc.1 this
/-- One operation of a region, two variables that may be laid ahead of it or behind it. -/
theorem wpX_phase {j1 j2 d1 d2 base i : Nat} {oi : Oper} {t1 t2 : TypeId} {z1 z2 : Array Value} (a1 : Lays P ops j1 d1 t1 z1) (a2 : Lays P ops j2 d2 t2 z2) {f : Nat} {L L' : Bool → Bool → Array Bool} {A : Value → Value → Act} {G : World → Prop}
    (r : phaseOk md ops L i j1 j2 = true) (hi : ops[i]? = some oi) (hg : oi.guard = none)
    (e1 : ∀ c, (L false c).setIfInBounds j1 true = L true c) (e2 : ∀ b, (L b false).setIfInBounds j2 true = L b true) (e3 : ∀ b c, (L b c).setIfInBounds i true = L' b c)
    (p1 : ∀ x y u, (A x y).put (some d1) u = A u y) (p2 : ∀ x y u, (A x y).put (some d2) u = A x u)
    (hS : ∀ w, G w → S w) (hG : ∀ w o, G w → G (w.alloc o)) (hB : ∀ w, G w → base ≤ w.heap.size)
    (main : ∀ b c x y w, G w → Pend b base t1 z1 x w → Pend c base t2 z2 y w → Two b c x y → ∀ K : Act → World → Prop,
      Shut (∀ a' w', (l.contains i = true ∨ S w') → wpAnyX P md ops Q S (fun j => l.contains j) (f + left2 b c) (L' b c) a' w' → Exit.then K Q .normal a' w') → wpList P ops (Exit.then K Q) [oi] (A x y) w) :
    ∀ b c x y w, G w → Pend b base t1 z1 x w → Pend c base t2 z2 y w → Two b c x y → wpAnyX P md ops Q S (fun j => l.contains j) (f + 1 + left2 b c) (L b c) (A x y) w := by
  have step : ∀ b c, (b = false → ∀ x y w, G w → Pend true base t1 z1 x w → Pend c base t2 z2 y w → Two true c x y → wpAnyX P md ops Q S (fun j => l.contains j) (f + 1 + left2 true c) (L true c) (A x y) w) →
      (c = false → ∀ x y w, G w → Pend b base t1 z1 x w → Pend true base t2 z2 y w → Two b true x y → wpAnyX P md ops Q S (fun j => l.contains j) (f + 1 + left2 b true) (L b true) (A x y) w) →
      ∀ x y w, G w → Pend b base t1 z1 x w → Pend c base t2 z2 y w → Two b c x y → wpAnyX P md ops Q S (fun j => l.contains j) (f + 1 + left2 b c) (L b c) (A x y) w := by
    intro b c hb hc x y w hGw hx hy hxy
    have he : f + 1 + left2 b c = (f + left2 b c) + 1 := by omega
    rw [he]
    obtain ⟨r1, r2⟩ := phaseOk_spec r b c
    refine ⟨fun h0 => absurd h0 r2, fun k hk => ?_⟩
    rcases r1 k hk with rfl | ⟨rfl, rfl⟩ | ⟨rfl, rfl⟩
    · rw [e3]
      exact wpOp_one hi hg (main b c x y w hGw hx hy hxy _ (fun a' w' hS' hW => ⟨hS', hW⟩))
    · refine a1.wpOp ⟨.inr (hS _ (hG w _ hGw)), ?_⟩
      rw [p1, e1]
      have hl : f + left2 false c = f + 1 + left2 true c := by simp only [left2]; simp; omega
      rw [hl]
      refine hb rfl _ _ _ (hG w _ hGw) (fun _ => ⟨_, rfl, hB w hGw, Blk.new w _ _⟩) (hy.al _) (fun _ hct e => ?_)
      exact hy.lt hct e.symm
    · refine a2.wpOp ⟨.inr (hS _ (hG w _ hGw)), ?_⟩
      rw [p2, e2]
      have hl : f + left2 b false = f + 1 + left2 b true := by simp only [left2]; simp; omega
      rw [hl]
      refine hc rfl _ _ _ (hG w _ hGw) (hx.al _) (fun _ => ⟨_, rfl, hB w hGw, Blk.new w _ _⟩) (fun hbt _ e => ?_)
      exact hx.lt hbt e
  have tt := step true true (fun h => by cases h) (fun h => by cases h)
  have tf := step true false (fun h => by cases h) (fun _ => tt)
  have ft := step false true (fun _ => tt) (fun h => by cases h)
  have ff := step false false (fun _ => tf) (fun _ => ft)
  intro b c
  cases b <;> cases c
  · exact ff
  · exact ft
  · exact tf
  · exact tt
theorem wpX_phase' {j1 j2 d1 d2 base i : Nat} {oi : Oper} {t1 t2 : TypeId} {z1 z2 : Array Value} (a1 : Lays P ops j1 d1 t1 z1) (a2 : Lays P ops j2 d2 t2 z2) {f : Nat} {L L' : Bool → Bool → Array Bool} {A : Value → Value → Act} {G : World → Prop}
    {b c : Bool} {x y : Value} {w : World} {n : Nat} {listed : Array Bool} {a : Act} (hn : f + 1 + left2 b c = n) (hl : L b c = listed) (ha : A x y = a)
    (r : phaseOk md ops L i j1 j2 = true) (hi : ops[i]? = some oi) (hg : oi.guard = none)
    (e1 : ∀ c, (L false c).setIfInBounds j1 true = L true c) (e2 : ∀ b, (L b false).setIfInBounds j2 true = L b true) (e3 : ∀ b c, (L b c).setIfInBounds i true = L' b c)
    (p1 : ∀ x y u, (A x y).put (some d1) u = A u y) (p2 : ∀ x y u, (A x y).put (some d2) u = A x u)
    (hS : ∀ w, G w → S w) (hG : ∀ w o, G w → G (w.alloc o)) (hB : ∀ w, G w → base ≤ w.heap.size)
    (hw : G w) (hx : Pend b base t1 z1 x w) (hy : Pend c base t2 z2 y w) (hxy : Two b c x y)
    (main : ∀ b c x y w, G w → Pend b base t1 z1 x w → Pend c base t2 z2 y w → Two b c x y → ∀ K : Act → World → Prop,
      Shut (∀ a' w', (l.contains i = true ∨ S w') → wpAnyX P md ops Q S (fun j => l.contains j) (f + left2 b c) (L' b c) a' w' → Exit.then K Q .normal a' w') → wpList P ops (Exit.then K Q) [oi] (A x y) w) :
    wpAnyX P md ops Q S (fun j => l.contains j) n listed a w := by
  subst hn; subst hl; subst ha
  exact wpX_phase a1 a2 r hi hg e1 e2 e3 p1 p2 hS hG hB main b c x y w hw hx hy hxy
/-- The same, where the slots of the two variables hold nothing of their own yet. -/
theorem wpX_phase0 {j1 j2 d1 d2 base i : Nat} {oi : Oper} {t1 t2 : TypeId} {z1 z2 : Array Value} (a1 : Lays P ops j1 d1 t1 z1) (a2 : Lays P ops j2 d2 t2 z2) {f : Nat} {L L' : Bool → Bool → Array Bool} {G : World → Prop}
    {x y : Value} {w : World} {n : Nat} {listed : Array Bool} {a : Act} (hn : f + 1 + left2 false false = n) (hl : L false false = listed) (ha : (a.put (some d1) x).put (some d2) y = a)
    (r : phaseOk md ops L i j1 j2 = true) (hi : ops[i]? = some oi) (hg : oi.guard = none)
    (e1 : ∀ c, (L false c).setIfInBounds j1 true = L true c) (e2 : ∀ b, (L b false).setIfInBounds j2 true = L b true) (e3 : ∀ b c, (L b c).setIfInBounds i true = L' b c)
    (p1 : ∀ x y u, (((a.put (some d1) x).put (some d2) y).put (some d1) u) = (a.put (some d1) u).put (some d2) y) (p2 : ∀ x y u, (((a.put (some d1) x).put (some d2) y).put (some d2) u) = (a.put (some d1) x).put (some d2) u)
    (hS : ∀ w, G w → S w) (hG : ∀ w o, G w → G (w.alloc o)) (hB : ∀ w, G w → base ≤ w.heap.size)
    (hw : G w)
    (main : ∀ b c x y w, G w → Pend b base t1 z1 x w → Pend c base t2 z2 y w → Two b c x y → ∀ K : Act → World → Prop,
      Shut (∀ a' w', (l.contains i = true ∨ S w') → wpAnyX P md ops Q S (fun j => l.contains j) (f + left2 b c) (L' b c) a' w' → Exit.then K Q .normal a' w') → wpList P ops (Exit.then K Q) [oi] ((a.put (some d1) x).put (some d2) y) w) :
    wpAnyX P md ops Q S (fun j => l.contains j) n listed a w := by
  have h := wpX_phase a1 a2 (A := fun x y => (a.put (some d1) x).put (some d2) y) r hi hg e1 e2 e3 p1 p2 hS hG hB main false false x y w hw Pend.no Pend.no Two.no
  subst hn; subst hl
  simp only [ha] at h
  exact h
def takeOk (md : Region.Mode) (ops : Array Oper) (L : Bool → Bool → Array Bool) (i : Nat) : Bool :=
  [true, false].all fun b => [true, false].all fun c => Region.free md ops (L b c) i && (Region.ready md ops (L b c)).contains i
/-- What yields wherever S holds is taken first, whatever is laid. -/
theorem wpX_take {i : Nat} {oi : Oper} {v : Value} {f : Nat} {L L' : Bool → Bool → Array Bool} {b c : Bool} {a : Act} {w : World} (hi : ops[i]? = some oi)
    (hs : Region.noSelect ops = true) (r : takeOk md ops L i = true) (hT : sparedOk md ops l i = true) (e3 : ∀ b c, (L b c).setIfInBounds i true = L' b c)
    (hQ : ∀ c a w, Q (.panic c) (a.put oi.dst v) w → Q (.panic c) a w) (hy : YieldsIf P ops S oi v a) (hS : S w)
    (h : wpAnyX P md ops Q S (fun j => l.contains j) (f + left2 b c) (L' b c) (a.put oi.dst v) w) : wpAnyX P md ops Q S (fun j => l.contains j) (f + 1 + left2 b c) (L b c) a w := by
  have he : f + 1 + left2 b c = (f + left2 b c) + 1 := by omega
  rw [he]
  have h1 := List.all_eq_true.1 (List.all_eq_true.1 r b (by cases b <;> simp)) c (by cases c <;> simp)
  rw [Bool.and_eq_true] at h1
  exact wpAnyX_take hi hs h1.1 h1.2 hT hQ hy hS (by rw [e3]; exact h)
theorem wpX_take' {i : Nat} {oi : Oper} {v : Value} {f : Nat} {L L' : Bool → Bool → Array Bool} {b c : Bool} {a : Act} {w : World} {n : Nat} {listed : Array Bool} (hn : f + 1 + left2 b c = n) (hl : L b c = listed) (hi : ops[i]? = some oi)
    (hs : Region.noSelect ops = true) (r : takeOk md ops L i = true) (hT : sparedOk md ops l i = true) (e3 : ∀ b c, (L b c).setIfInBounds i true = L' b c)
    (hQ : ∀ c a w, Q (.panic c) (a.put oi.dst v) w → Q (.panic c) a w) (hy : YieldsIf P ops S oi v a) (hS : S w)
    (h : wpAnyX P md ops Q S (fun j => l.contains j) (f + left2 b c) (L' b c) (a.put oi.dst v) w) : wpAnyX P md ops Q S (fun j => l.contains j) n listed a w := by
  subst hn; subst hl
  exact wpX_take hi hs r hT e3 hQ hy hS h
def layOk (md : Region.Mode) (ops : Array Oper) (L : Bool → Bool → Array Bool) (j1 j2 : Nat) : Bool :=
  [true, false].all fun b => [true, false].all fun c => (b && c) || ((Region.ready md ops (L b c)).all (fun k => (k == j1 && !b) || (k == j2 && !c)) && !(Region.ready md ops (L b c)).isEmpty)
/-- Nothing is left but the two variables. -/
theorem wpX_lay {j1 j2 d1 d2 base : Nat} {t1 t2 : TypeId} {z1 z2 : Array Value} (a1 : Lays P ops j1 d1 t1 z1) (a2 : Lays P ops j2 d2 t2 z2) {f : Nat} {L : Bool → Bool → Array Bool} {A : Value → Value → Act} {G : World → Prop}
    (r : layOk md ops L j1 j2 = true)
    (e1 : ∀ c, (L false c).setIfInBounds j1 true = L true c) (e2 : ∀ b, (L b false).setIfInBounds j2 true = L b true)
    (p1 : ∀ x y u, (A x y).put (some d1) u = A u y) (p2 : ∀ x y u, (A x y).put (some d2) u = A x u)
    (hS : ∀ w, G w → S w) (hG : ∀ w o, G w → G (w.alloc o)) (hB : ∀ w, G w → base ≤ w.heap.size)
    (fin : ∀ p1 p2 w, G w → base ≤ p1 → Blk w p1 t1 z1 → base ≤ p2 → Blk w p2 t2 z2 → p1 ≠ p2 → wpAnyX P md ops Q S (fun j => l.contains j) f (L true true) (A (.pointer (some ⟨p1, 0, none⟩)) (.pointer (some ⟨p2, 0, none⟩))) w) :
    ∀ b c x y w, G w → Pend b base t1 z1 x w → Pend c base t2 z2 y w → Two b c x y → wpAnyX P md ops Q S (fun j => l.contains j) (f + left2 b c) (L b c) (A x y) w := by
  have tt : ∀ x y w, G w → Pend true base t1 z1 x w → Pend true base t2 z2 y w → Two true true x y → wpAnyX P md ops Q S (fun j => l.contains j) (f + left2 true true) (L true true) (A x y) w := by
    intro x y w hGw hx hy hxy
    obtain ⟨q1, rfl, h1, h2⟩ := hx rfl
    obtain ⟨q2, rfl, h3, h4⟩ := hy rfl
    exact fin q1 q2 w hGw h1 h2 h3 h4 (fun e => hxy rfl rfl (by rw [e]))
  have step : ∀ b c, (b && c) = false → (b = false → ∀ x y w, G w → Pend true base t1 z1 x w → Pend c base t2 z2 y w → Two true c x y → wpAnyX P md ops Q S (fun j => l.contains j) (f + left2 true c) (L true c) (A x y) w) →
      (c = false → ∀ x y w, G w → Pend b base t1 z1 x w → Pend true base t2 z2 y w → Two b true x y → wpAnyX P md ops Q S (fun j => l.contains j) (f + left2 b true) (L b true) (A x y) w) →
      ∀ x y w, G w → Pend b base t1 z1 x w → Pend c base t2 z2 y w → Two b c x y → wpAnyX P md ops Q S (fun j => l.contains j) (f + left2 b c) (L b c) (A x y) w := by
    intro b c hbc hb hc x y w hGw hx hy hxy
    have he : f + left2 b c = (f + (left2 b c - 1)) + 1 := by
      have : left2 b c ≠ 0 := by cases b <;> cases c <;> simp [left2] at hbc ⊢
      omega
    rw [he]
    have h1 := List.all_eq_true.1 (List.all_eq_true.1 r b (by cases b <;> simp)) c (by cases c <;> simp)
    rw [hbc, Bool.false_or, Bool.and_eq_true] at h1
    refine ⟨fun h0 => by rw [h0] at h1; simp at h1, fun k hk => ?_⟩
    have := List.all_eq_true.1 h1.1 k hk
    simp only [Bool.or_eq_true, Bool.and_eq_true, beq_iff_eq, Bool.not_eq_true'] at this
    rcases this with ⟨rfl, rfl⟩ | ⟨rfl, rfl⟩
    · refine a1.wpOp ⟨.inr (hS _ (hG w _ hGw)), ?_⟩
      rw [p1, e1]
      have hl : f + (left2 false c - 1) = f + left2 true c := by cases c <;> rfl
      rw [hl]
      refine hb rfl _ _ _ (hG w _ hGw) (fun _ => ⟨_, rfl, hB w hGw, Blk.new w _ _⟩) (hy.al _) (fun _ hct e => ?_)
      exact hy.lt hct e.symm
    · refine a2.wpOp ⟨.inr (hS _ (hG w _ hGw)), ?_⟩
      rw [p2, e2]
      have hl : f + (left2 b false - 1) = f + left2 b true := by cases b <;> rfl
      rw [hl]
      refine hc rfl _ _ _ (hG w _ hGw) (hx.al _) (fun _ => ⟨_, rfl, hB w hGw, Blk.new w _ _⟩) (fun hbt _ e => ?_)
      exact hx.lt hbt e
  have tf := step true false rfl (fun h => by cases h) (fun _ => tt)
  have ft := step false true rfl (fun _ => tt) (fun h => by cases h)
  have ff := step false false rfl (fun _ => tf) (fun _ => ft)
  intro b c
  cases b <;> cases c
  · exact ff
  · exact ft
  · exact tf
  · exact tt
theorem wpX_lay' {j1 j2 d1 d2 base : Nat} {t1 t2 : TypeId} {z1 z2 : Array Value} (a1 : Lays P ops j1 d1 t1 z1) (a2 : Lays P ops j2 d2 t2 z2) {f : Nat} {L : Bool → Bool → Array Bool} {A : Value → Value → Act} {G : World → Prop}
    {b c : Bool} {x y : Value} {w : World} {n : Nat} {listed : Array Bool} {a : Act} (hn : f + left2 b c = n) (hl : L b c = listed) (ha : A x y = a)
    (r : layOk md ops L j1 j2 = true)
    (e1 : ∀ c, (L false c).setIfInBounds j1 true = L true c) (e2 : ∀ b, (L b false).setIfInBounds j2 true = L b true)
    (p1 : ∀ x y u, (A x y).put (some d1) u = A u y) (p2 : ∀ x y u, (A x y).put (some d2) u = A x u)
    (hS : ∀ w, G w → S w) (hG : ∀ w o, G w → G (w.alloc o)) (hB : ∀ w, G w → base ≤ w.heap.size)
    (hw : G w) (hx : Pend b base t1 z1 x w) (hy : Pend c base t2 z2 y w) (hxy : Two b c x y)
    (fin : ∀ p1 p2 w, G w → base ≤ p1 → Blk w p1 t1 z1 → base ≤ p2 → Blk w p2 t2 z2 → p1 ≠ p2 → wpAnyX P md ops Q S (fun j => l.contains j) f (L true true) (A (.pointer (some ⟨p1, 0, none⟩)) (.pointer (some ⟨p2, 0, none⟩))) w) :
    wpAnyX P md ops Q S (fun j => l.contains j) n listed a w := by
  subst hn; subst hl; subst ha
  exact wpX_lay a1 a2 r e1 e2 p1 p2 hS hG hB fin b c x y w hw hx hy hxy
end
end Go.Proofs.YtgdcofbnbiclmaaGreatDoor
/- A region that draws its order, in which one new variable may be laid at any time: its other operations one by one, the new variable wherever it comes. No program. -/
namespace Go.Proofs.YtgdcofbnbiclmaaGreatDoor
set_option linter.all false
open Go.RowKit
def left1 (b : Bool) : Nat := if b = true then 0 else 1
section
variable {P : Program} {ops : Array Oper} {Q : Exit → Act → World → Prop} {md : Region.Mode} {S : World → Prop} {l : List Nat}
theorem wpX_startA {j d : Nat} {t : TypeId} {z : Array Value} {T : Nat → Bool} {n n' : Nat} {listed listed' : Array Bool} {a : Act} {w : World} (a1 : Lays P ops j d t z)
    (hn : n' = n) (hl : listed' = listed) (h : Lays P ops j d t z → wpAnyX P md ops Q S T n listed a w) : wpAnyX P md ops Q S T n' listed' a w := by subst hn; subst hl; exact h a1
def phaseOk1 (md : Region.Mode) (ops : Array Oper) (L : Bool → Array Bool) (i j : Nat) : Bool :=
  [true, false].all fun b => (Region.ready md ops (L b)).all (fun k => k == i || (k == j && !b)) && !(Region.ready md ops (L b)).isEmpty
theorem phaseOk1_spec {L : Bool → Array Bool} {i j : Nat} (h : phaseOk1 md ops L i j = true) (b : Bool) :
    (∀ k ∈ Region.ready md ops (L b), k = i ∨ (k = j ∧ b = false)) ∧ Region.ready md ops (L b) ≠ [] := by
  unfold phaseOk1 at h
  have h1 := List.all_eq_true.1 h b (by cases b <;> simp)
  rw [Bool.and_eq_true] at h1
  refine ⟨fun k hk => ?_, fun e => by rw [e] at h1; simp at h1⟩
  have := List.all_eq_true.1 h1.1 k hk
  simpa only [Bool.or_eq_true, Bool.and_eq_true, beq_iff_eq, Bool.not_eq_true'] using this
theorem wpX_phaseA {j d base i : Nat} {oi : Oper} {t : TypeId} {z : Array Value} (a1 : Lays P ops j d t z) {f : Nat} {L L' : Bool → Array Bool} {A : Value → Act} {G : World → Prop}
    (r : phaseOk1 md ops L i j = true) (hi : ops[i]? = some oi) (hg : oi.guard = none)
    (e1 : (L false).setIfInBounds j true = L true) (e3 : ∀ b, (L b).setIfInBounds i true = L' b)
    (p1 : ∀ x u, (A x).put (some d) u = A u)
    (hS : ∀ w, G w → S w) (hG : ∀ w o, G w → G (w.alloc o)) (hB : ∀ w, G w → base ≤ w.heap.size)
    (main : ∀ b x w, G w → Pend b base t z x w → ∀ K : Act → World → Prop,
      Shut (∀ a' w', (l.contains i = true ∨ S w') → wpAnyX P md ops Q S (fun j => l.contains j) (f + left1 b) (L' b) a' w' → Exit.then K Q .normal a' w') → wpList P ops (Exit.then K Q) [oi] (A x) w) :
    ∀ b x w, G w → Pend b base t z x w → wpAnyX P md ops Q S (fun j => l.contains j) (f + 1 + left1 b) (L b) (A x) w := by
  have step : ∀ b, (b = false → ∀ x w, G w → Pend true base t z x w → wpAnyX P md ops Q S (fun j => l.contains j) (f + 1 + left1 true) (L true) (A x) w) →
      ∀ x w, G w → Pend b base t z x w → wpAnyX P md ops Q S (fun j => l.contains j) (f + 1 + left1 b) (L b) (A x) w := by
    intro b hb x w hGw hx
    have he : f + 1 + left1 b = (f + left1 b) + 1 := by omega
    rw [he]
    obtain ⟨r1, r2⟩ := phaseOk1_spec r b
    refine ⟨fun h0 => absurd h0 r2, fun k hk => ?_⟩
    rcases r1 k hk with rfl | ⟨rfl, rfl⟩
    · rw [e3]
      exact wpOp_one hi hg (main b x w hGw hx _ (fun a' w' hS' hW => ⟨hS', hW⟩))
    · refine a1.wpOp ⟨.inr (hS _ (hG w _ hGw)), ?_⟩
      rw [p1, e1]
      have hl : f + left1 false = f + 1 + left1 true := by simp [left1]
      rw [hl]
      exact hb rfl _ _ (hG w _ hGw) (fun _ => ⟨_, rfl, hB w hGw, Blk.new w _ _⟩)
  have tt := step true (fun h => by cases h)
  have ff := step false (fun _ => tt)
  intro b
  cases b
  · exact ff
  · exact tt
theorem wpX_phaseA' {j d base i : Nat} {oi : Oper} {t : TypeId} {z : Array Value} (a1 : Lays P ops j d t z) {f : Nat} {L L' : Bool → Array Bool} {G : World → Prop}
    {x : Value} {w : World} {n : Nat} {listed : Array Bool} {a : Act} (hn : f + 1 + left1 false = n) (hl : L false = listed) (ha : a.put (some d) x = a)
    (r : phaseOk1 md ops L i j = true) (hi : ops[i]? = some oi) (hg : oi.guard = none)
    (e1 : (L false).setIfInBounds j true = L true) (e3 : ∀ b, (L b).setIfInBounds i true = L' b)
    (p1 : ∀ x u, ((a.put (some d) x).put (some d) u) = a.put (some d) u)
    (hS : ∀ w, G w → S w) (hG : ∀ w o, G w → G (w.alloc o)) (hB : ∀ w, G w → base ≤ w.heap.size) (hw : G w)
    (main : ∀ b x w, G w → Pend b base t z x w → ∀ K : Act → World → Prop,
      Shut (∀ a' w', (l.contains i = true ∨ S w') → wpAnyX P md ops Q S (fun j => l.contains j) (f + left1 b) (L' b) a' w' → Exit.then K Q .normal a' w') → wpList P ops (Exit.then K Q) [oi] (a.put (some d) x) w) :
    wpAnyX P md ops Q S (fun j => l.contains j) n listed a w := by
  have h := wpX_phaseA a1 (A := fun x => a.put (some d) x) r hi hg e1 e3 p1 hS hG hB main false x w hw Pend.no
  subst hn; subst hl
  simp only [ha] at h
  exact h
def layOk1 (md : Region.Mode) (ops : Array Oper) (L : Bool → Array Bool) (j : Nat) : Bool :=
  (Region.ready md ops (L false)).all (fun k => k == j) && !(Region.ready md ops (L false)).isEmpty
/-- Nothing is left but the variable. -/
theorem wpX_layA' {j d base : Nat} {t : TypeId} {z : Array Value} (a1 : Lays P ops j d t z) {f : Nat} {L : Bool → Array Bool} {A : Value → Act} {G : World → Prop}
    {b : Bool} {x : Value} {w : World} {n : Nat} {listed : Array Bool} {a : Act} (hn : f + left1 b = n) (hl : L b = listed) (ha : A x = a)
    (r : layOk1 md ops L j = true) (e1 : (L false).setIfInBounds j true = L true) (p1 : ∀ x u, (A x).put (some d) u = A u)
    (hS : ∀ w, G w → S w) (hG : ∀ w o, G w → G (w.alloc o)) (hB : ∀ w, G w → base ≤ w.heap.size) (hw : G w) (hx : Pend b base t z x w)
    (fin : ∀ q w, G w → base ≤ q → Blk w q t z → wpAnyX P md ops Q S (fun j => l.contains j) f (L true) (A (.pointer (some ⟨q, 0, none⟩))) w) :
    wpAnyX P md ops Q S (fun j => l.contains j) n listed a w := by
  subst hn; subst hl; subst ha
  cases b with
  | true =>
    obtain ⟨q, rfl, h1, h2⟩ := hx rfl
    exact fin q w hw h1 h2
  | false =>
    have he : f + left1 false = f + 1 := rfl
    rw [he]
    unfold layOk1 at r
    rw [Bool.and_eq_true] at r
    refine ⟨fun h0 => by rw [h0] at r; simp at r, fun k hk => ?_⟩
    have := List.all_eq_true.1 r.1 k hk
    simp only [beq_iff_eq] at this
    subst this
    refine a1.wpOp ⟨.inr (hS _ (hG w _ hw)), ?_⟩
    rw [p1, e1]
    exact fin _ _ (hG w _ hw) (hB w hw) (Blk.new w _ _)
end
end Go.Proofs.YtgdcofbnbiclmaaGreatDoor
/- A region in which one new variable may be laid at any time: more phases, and what is taken first. No program. -/
namespace Go.Proofs.YtgdcofbnbiclmaaGreatDoor
set_option linter.all false
open Go.RowKit
section
variable {P : Program} {ops : Array Oper} {Q : Exit → Act → World → Prop} {md : Region.Mode} {S : World → Prop} {l : List Nat}
def takeOk1 (md : Region.Mode) (ops : Array Oper) (L : Bool → Array Bool) (i : Nat) : Bool :=
  [true, false].all fun b => Region.free md ops (L b) i && (Region.ready md ops (L b)).contains i
theorem wpX_takeA' {i : Nat} {oi : Oper} {v : Value} {f : Nat} {L L' : Bool → Array Bool} {b : Bool} {a : Act} {w : World} {n : Nat} {listed : Array Bool} (hn : f + 1 + left1 b = n) (hl : L b = listed) (hi : ops[i]? = some oi)
    (hs : Region.noSelect ops = true) (r : takeOk1 md ops L i = true) (hT : sparedOk md ops l i = true) (e3 : ∀ b, (L b).setIfInBounds i true = L' b)
    (hQ : ∀ c a w, Q (.panic c) (a.put oi.dst v) w → Q (.panic c) a w) (hy : YieldsIf P ops S oi v a) (hS : S w)
    (h : wpAnyX P md ops Q S (fun j => l.contains j) (f + left1 b) (L' b) (a.put oi.dst v) w) : wpAnyX P md ops Q S (fun j => l.contains j) n listed a w := by
  subst hn; subst hl
  have he : f + 1 + left1 b = (f + left1 b) + 1 := by omega
  rw [he]
  have h1 := List.all_eq_true.1 r b (by cases b <;> simp)
  rw [Bool.and_eq_true] at h1
  exact wpAnyX_take hi hs h1.1 h1.2 hT hQ hy hS (by rw [e3]; exact h)
theorem wpX_phaseB' {j d base i : Nat} {oi : Oper} {t : TypeId} {z : Array Value} (a1 : Lays P ops j d t z) {f : Nat} {L L' : Bool → Array Bool} {G : World → Prop}
    {b : Bool} {x : Value} {w : World} {n : Nat} {listed : Array Bool} {a : Act} (hn : f + 1 + left1 b = n) (hl : L b = listed) (ha : a.put (some d) x = a)
    (r : phaseOk1 md ops L i j = true) (hi : ops[i]? = some oi) (hg : oi.guard = none)
    (e1 : (L false).setIfInBounds j true = L true) (e3 : ∀ b, (L b).setIfInBounds i true = L' b)
    (p1 : ∀ x u, ((a.put (some d) x).put (some d) u) = a.put (some d) u)
    (hS : ∀ w, G w → S w) (hG : ∀ w o, G w → G (w.alloc o)) (hB : ∀ w, G w → base ≤ w.heap.size) (hw : G w) (hx : Pend b base t z x w)
    (main : ∀ b x w, G w → Pend b base t z x w → ∀ K : Act → World → Prop,
      Shut (∀ a' w', (l.contains i = true ∨ S w') → wpAnyX P md ops Q S (fun j => l.contains j) (f + left1 b) (L' b) a' w' → Exit.then K Q .normal a' w') → wpList P ops (Exit.then K Q) [oi] (a.put (some d) x) w) :
    wpAnyX P md ops Q S (fun j => l.contains j) n listed a w := by
  have h := wpX_phaseA a1 (A := fun x => a.put (some d) x) r hi hg e1 e3 p1 hS hG hB main b x w hw hx
  subst hn; subst hl
  simp only [ha] at h
  exact h
end
end Go.Proofs.YtgdcofbnbiclmaaGreatDoor
