/- A region that draws its order, in which new variables may be laid at any time: its other operations one by one, the new variables wherever they come. No program. -/
import Derived.Test.YtpdadlofgfdlpaaHeldX
import Derived.Test.YtpdadlofgfdlpaaTrack
namespace Go.Proofs.Ytpdadlofgfdlpaa
set_option linter.all false
open Go.RowKit
/-- If it is laid already, x points to it, and it is as it was laid. -/
def Pend (b : Bool) (base : Nat) (t : TypeId) (z : Array Value) (x : Value) (w : World) : Prop := b = true → ∃ p, x = .pointer (some ⟨p, 0, none⟩) ∧ base ≤ p ∧ Blk w p t z
/-- Two that are laid are two. -/
def Two (b c : Bool) (x y : Value) : Prop := b = true → c = true → x ≠ y
theorem Pend.bl {b : Bool} {base : Nat} {t : TypeId} {z : Array Value} {x : Value} {w w' : World} (h : Pend b base t z x w) (hb : Below w.heap.size w w') : Pend b base t z x w' := fun hh => by
  obtain ⟨p, h1, h2, h3⟩ := h hh
  exact ⟨p, h1, h2, h3.below' hb⟩
theorem Pend.al {b : Bool} {base : Nat} {t : TypeId} {z : Array Value} {x : Value} {w : World} (h : Pend b base t z x w) (o : Obj) : Pend b base t z x (w.alloc o) := fun hh => by
  obtain ⟨p, h1, h2, h3⟩ := h hh
  exact ⟨p, h1, h2, h3.alloc o⟩
theorem Pend.no {base : Nat} {t : TypeId} {z : Array Value} {x : Value} {w : World} : Pend false base t z x w := fun h => by cases h
theorem Two.no {c : Bool} {x y : Value} : Two false c x y := fun h => by cases h
theorem Pend.lt {b : Bool} {base : Nat} {t : TypeId} {z : Array Value} {x : Value} {w : World} (h : Pend b base t z x w) (hb : b = true) : x ≠ .pointer (some ⟨w.heap.size, 0, none⟩) := by
  obtain ⟨p, rfl, h2, h3⟩ := h hb
  intro e
  injection e with e
  injection e with e
  injection e with e
  have := h3.lt
  omega
/-- How many are not yet laid. -/
def left2 (b c : Bool) : Nat := (if b = true then 0 else 1) + (if c = true then 0 else 1)
section
variable {P : Program} {ops : Array Oper} {Q : Exit → Act → World → Prop} {md : Region.Mode} {S : World → Prop} {l : List Nat}
/-- Operation j lays a new variable. -/
structure Lays (P : Program) (ops : Array Oper) (j d : Nat) (t : TypeId) (z : Array Value) : Prop where
  run : ∃ o, ops[j]? = some o ∧ o.guard = none ∧ o.dst = some d ∧ ∀ (a : Act) (w : World), (execOp a.eval o).run P w = .ok (.value (.pointer (some ⟨w.heap.size, 0, none⟩))) (w.alloc (.cells z t))
theorem Lays.wpOp {j d : Nat} {t : TypeId} {z : Array Value} (h : Lays P ops j d t z) {K : Act → World → Prop} {a : Act} {w : World} (hK : K (a.put (some d) (.pointer (some ⟨w.heap.size, 0, none⟩))) (w.alloc (.cells z t))) : wpOp P ops Q j K a w := by
  obtain ⟨o, h1, h2, h3, h4⟩ := h.run
  unfold Go.wpOp
  simp only [h1]
  rw [if_pos (by simp [Region.wanted, h2])]
  refine .inl ?_
  unfold Oper.wp
  rw [h4, Oper.upon_value, h3]
  exact hK
theorem wpOp_one {i : Nat} {oi : Oper} {K : Act → World → Prop} {a : Act} {w : World} (hi : ops[i]? = some oi) (hg : oi.guard = none)
    (h1 : wpList P ops (Exit.then K Q) [oi] a w) : Go.wpOp P ops Q i K a w := by
  have hw : Region.wanted oi (yielded ops a.tmps) = true := by simp [Region.wanted, hg]
  unfold wpList at h1
  rw [if_pos hw] at h1
  unfold Go.wpOp
  simp only [hi]
  rw [if_pos hw]
  rcases h1 with h1 | ⟨h1, h2⟩
  · refine .inl ?_
    unfold Oper.wp at h1 ⊢
    generalize (execOp a.eval oi).run P w = r at *
    cases r with
    | ok n w' =>
      cases n <;> simp only [Oper.upon] at h1 ⊢ <;> first | exact h1 | (refine Calls.mono h1 fun e w'' he => ?_; cases e <;> exact he)
    | halt x w' => cases x <;> simp only [Oper.upon] at h1 ⊢ <;> exact h1
  · exact .inr ⟨h1, by simpa [LetsOut, Exit.then] using h2⟩
theorem wpX_start {j1 j2 d1 d2 : Nat} {t1 t2 : TypeId} {z1 z2 : Array Value} {T : Nat → Bool} {n n' : Nat} {listed listed' : Array Bool} {a : Act} {w : World} (a1 : Lays P ops j1 d1 t1 z1) (a2 : Lays P ops j2 d2 t2 z2)
    (hn : n' = n) (hl : listed' = listed)
    (h : Lays P ops j1 d1 t1 z1 → Lays P ops j2 d2 t2 z2 → wpAnyX P md ops Q S T n listed a w) : wpAnyX P md ops Q S T n' listed' a w := by subst hn; subst hl; exact h a1 a2
/-- What may come up: i, or what is not yet laid. -/
def phaseOk (md : Region.Mode) (ops : Array Oper) (L : Bool → Bool → Array Bool) (i j1 j2 : Nat) : Bool :=
  [true, false].all fun b => [true, false].all fun c => (Region.ready md ops (L b c)).all (fun k => k == i || (k == j1 && !b) || (k == j2 && !c)) && !(Region.ready md ops (L b c)).isEmpty
theorem phaseOk_spec {L : Bool → Bool → Array Bool} {i j1 j2 : Nat} (h : phaseOk md ops L i j1 j2 = true) (b c : Bool) :
    (∀ k ∈ Region.ready md ops (L b c), k = i ∨ (k = j1 ∧ b = false) ∨ (k = j2 ∧ c = false)) ∧ Region.ready md ops (L b c) ≠ [] := by
  unfold phaseOk at h
  have h1 := List.all_eq_true.1 (List.all_eq_true.1 h b (by cases b <;> simp)) c (by cases c <;> simp)
  rw [Bool.and_eq_true] at h1
  refine ⟨fun k hk => ?_, fun e => by rw [e] at h1; simp at h1⟩
  have := List.all_eq_true.1 h1.1 k hk
  simp only [Bool.or_eq_true, Bool.and_eq_true, beq_iff_eq, Bool.not_eq_true'] at this
  exact or_assoc.1 this
/-- One operation of a region, two variables that may be laid ahead of it or behind it. -/
theorem wpX_phase {j1 j2 d1 d2 base i : Nat} {oi : Oper} {t1 t2 : TypeId} {z1 z2 : Array Value} (a1 : Lays P ops j1 d1 t1 z1) (a2 : Lays P ops j2 d2 t2 z2) {f : Nat} {L L' : Bool → Bool → Array Bool} {A : Value → Value → Act} {G : World → Prop}
    (r : phaseOk md ops L i j1 j2 = true) (hi : ops[i]? = some oi) (hg : oi.guard = none)
    (e1 : ∀ c, (L false c).setIfInBounds j1 true = L true c) (e2 : ∀ b, (L b false).setIfInBounds j2 true = L b true) (e3 : ∀ b c, (L b c).setIfInBounds i true = L' b c)
    (p1 : ∀ x y u, (A x y).put (some d1) u = A u y) (p2 : ∀ x y u, (A x y).put (some d2) u = A x u)
    (hS : ∀ w, G w → S w) (hG : ∀ w o, G w → G (w.alloc o)) (hB : ∀ w, G w → base ≤ w.heap.size)
    (main : ∀ b c x y w, G w → Pend b base t1 z1 x w → Pend c base t2 z2 y w → Two b c x y → ∀ K : Act → World → Prop,
      Shut (∀ a' w', (l.contains i = true ∨ S w') → wpAnyX P md ops Q S (fun j => l.contains j) (f + left2 b c) (L' b c) a' w' → Exit.then K Q .normal a' w') → wpList P ops (Exit.then K Q) [oi] (A x y) w) :
    ∀ b c x y w, G w → Pend b base t1 z1 x w → Pend c base t2 z2 y w → Two b c x y → wpAnyX P md ops Q S (fun j => l.contains j) (f + 1 + left2 b c) (L b c) (A x y) w := by
  have step : ∀ b c, (b = false → ∀ x y w, G w → Pend true base t1 z1 x w → Pend c base t2 z2 y w → Two true c x y → wpAnyX P md ops Q S (fun j => l.contains j) (f + 1 + left2 true c) (L true c) (A x y) w) →
      (c = false → ∀ x y w, G w → Pend b base t1 z1 x w → Pend true base t2 z2 y w → Two b true x y → wpAnyX P md ops Q S (fun j => l.contains j) (f + 1 + left2 b true) (L b true) (A x y) w) →
      ∀ x y w, G w → Pend b base t1 z1 x w → Pend c base t2 z2 y w → Two b c x y → wpAnyX P md ops Q S (fun j => l.contains j) (f + 1 + left2 b c) (L b c) (A x y) w := by
    intro b c hb hc x y w hGw hx hy hxy
    have he : f + 1 + left2 b c = (f + left2 b c) + 1 := by omega
    rw [he]
    obtain ⟨r1, r2⟩ := phaseOk_spec r b c
    refine ⟨fun h0 => absurd h0 r2, fun k hk => ?_⟩
    rcases r1 k hk with rfl | ⟨rfl, rfl⟩ | ⟨rfl, rfl⟩
    · rw [e3]
      exact wpOp_one hi hg (main b c x y w hGw hx hy hxy _ (fun a' w' hS' hW => ⟨hS', hW⟩))
    · refine a1.wpOp ⟨.inr (hS _ (hG w _ hGw)), ?_⟩
      rw [p1, e1]
      have hl : f + left2 false c = f + 1 + left2 true c := by simp only [left2]; simp; omega
      rw [hl]
      refine hb rfl _ _ _ (hG w _ hGw) (fun _ => ⟨_, rfl, hB w hGw, Blk.new w _ _⟩) (hy.al _) (fun _ hct e => ?_)
      exact hy.lt hct e.symm
    · refine a2.wpOp ⟨.inr (hS _ (hG w _ hGw)), ?_⟩
      rw [p2, e2]
      have hl : f + left2 b false = f + 1 + left2 b true := by simp only [left2]; simp; omega
      rw [hl]
      refine hc rfl _ _ _ (hG w _ hGw) (hx.al _) (fun _ => ⟨_, rfl, hB w hGw, Blk.new w _ _⟩) (fun hbt _ e => ?_)
      exact hx.lt hbt e
  have tt := step true true (fun h => by cases h) (fun h => by cases h)
  have tf := step true false (fun h => by cases h) (fun _ => tt)
  have ft := step false true (fun _ => tt) (fun h => by cases h)
  have ff := step false false (fun _ => tf) (fun _ => ft)
  intro b c
  cases b <;> cases c
  · exact ff
  · exact ft
  · exact tf
  · exact tt
theorem wpX_phase' {j1 j2 d1 d2 base i : Nat} {oi : Oper} {t1 t2 : TypeId} {z1 z2 : Array Value} (a1 : Lays P ops j1 d1 t1 z1) (a2 : Lays P ops j2 d2 t2 z2) {f : Nat} {L L' : Bool → Bool → Array Bool} {A : Value → Value → Act} {G : World → Prop}
    {b c : Bool} {x y : Value} {w : World} {n : Nat} {listed : Array Bool} {a : Act} (hn : f + 1 + left2 b c = n) (hl : L b c = listed) (ha : A x y = a)
    (r : phaseOk md ops L i j1 j2 = true) (hi : ops[i]? = some oi) (hg : oi.guard = none)
    (e1 : ∀ c, (L false c).setIfInBounds j1 true = L true c) (e2 : ∀ b, (L b false).setIfInBounds j2 true = L b true) (e3 : ∀ b c, (L b c).setIfInBounds i true = L' b c)
    (p1 : ∀ x y u, (A x y).put (some d1) u = A u y) (p2 : ∀ x y u, (A x y).put (some d2) u = A x u)
    (hS : ∀ w, G w → S w) (hG : ∀ w o, G w → G (w.alloc o)) (hB : ∀ w, G w → base ≤ w.heap.size)
    (hw : G w) (hx : Pend b base t1 z1 x w) (hy : Pend c base t2 z2 y w) (hxy : Two b c x y)
    (main : ∀ b c x y w, G w → Pend b base t1 z1 x w → Pend c base t2 z2 y w → Two b c x y → ∀ K : Act → World → Prop,
      Shut (∀ a' w', (l.contains i = true ∨ S w') → wpAnyX P md ops Q S (fun j => l.contains j) (f + left2 b c) (L' b c) a' w' → Exit.then K Q .normal a' w') → wpList P ops (Exit.then K Q) [oi] (A x y) w) :
    wpAnyX P md ops Q S (fun j => l.contains j) n listed a w := by
  subst hn; subst hl; subst ha
  exact wpX_phase a1 a2 r hi hg e1 e2 e3 p1 p2 hS hG hB main b c x y w hw hx hy hxy
/-- The same, where the slots of the two variables hold nothing of their own yet. -/
theorem wpX_phase0 {j1 j2 d1 d2 base i : Nat} {oi : Oper} {t1 t2 : TypeId} {z1 z2 : Array Value} (a1 : Lays P ops j1 d1 t1 z1) (a2 : Lays P ops j2 d2 t2 z2) {f : Nat} {L L' : Bool → Bool → Array Bool} {G : World → Prop}
    {x y : Value} {w : World} {n : Nat} {listed : Array Bool} {a : Act} (hn : f + 1 + left2 false false = n) (hl : L false false = listed) (ha : (a.put (some d1) x).put (some d2) y = a)
    (r : phaseOk md ops L i j1 j2 = true) (hi : ops[i]? = some oi) (hg : oi.guard = none)
    (e1 : ∀ c, (L false c).setIfInBounds j1 true = L true c) (e2 : ∀ b, (L b false).setIfInBounds j2 true = L b true) (e3 : ∀ b c, (L b c).setIfInBounds i true = L' b c)
    (p1 : ∀ x y u, (((a.put (some d1) x).put (some d2) y).put (some d1) u) = (a.put (some d1) u).put (some d2) y) (p2 : ∀ x y u, (((a.put (some d1) x).put (some d2) y).put (some d2) u) = (a.put (some d1) x).put (some d2) u)
    (hS : ∀ w, G w → S w) (hG : ∀ w o, G w → G (w.alloc o)) (hB : ∀ w, G w → base ≤ w.heap.size)
    (hw : G w)
    (main : ∀ b c x y w, G w → Pend b base t1 z1 x w → Pend c base t2 z2 y w → Two b c x y → ∀ K : Act → World → Prop,
      Shut (∀ a' w', (l.contains i = true ∨ S w') → wpAnyX P md ops Q S (fun j => l.contains j) (f + left2 b c) (L' b c) a' w' → Exit.then K Q .normal a' w') → wpList P ops (Exit.then K Q) [oi] ((a.put (some d1) x).put (some d2) y) w) :
    wpAnyX P md ops Q S (fun j => l.contains j) n listed a w := by
  have h := wpX_phase a1 a2 (A := fun x y => (a.put (some d1) x).put (some d2) y) r hi hg e1 e2 e3 p1 p2 hS hG hB main false false x y w hw Pend.no Pend.no Two.no
  subst hn; subst hl
  simp only [ha] at h
  exact h
def takeOk (md : Region.Mode) (ops : Array Oper) (L : Bool → Bool → Array Bool) (i : Nat) : Bool :=
  [true, false].all fun b => [true, false].all fun c => Region.free md ops (L b c) i && (Region.ready md ops (L b c)).contains i
/-- What yields wherever S holds is taken first, whatever is laid. -/
theorem wpX_take {i : Nat} {oi : Oper} {v : Value} {f : Nat} {L L' : Bool → Bool → Array Bool} {b c : Bool} {a : Act} {w : World} (hi : ops[i]? = some oi)
    (hs : Region.noSelect ops = true) (r : takeOk md ops L i = true) (hT : sparedOk md ops l i = true) (e3 : ∀ b c, (L b c).setIfInBounds i true = L' b c)
    (hQ : ∀ c a w, Q (.panic c) (a.put oi.dst v) w → Q (.panic c) a w) (hy : YieldsIf P ops S oi v a) (hS : S w)
    (h : wpAnyX P md ops Q S (fun j => l.contains j) (f + left2 b c) (L' b c) (a.put oi.dst v) w) : wpAnyX P md ops Q S (fun j => l.contains j) (f + 1 + left2 b c) (L b c) a w := by
  have he : f + 1 + left2 b c = (f + left2 b c) + 1 := by omega
  rw [he]
  have h1 := List.all_eq_true.1 (List.all_eq_true.1 r b (by cases b <;> simp)) c (by cases c <;> simp)
  rw [Bool.and_eq_true] at h1
  exact wpAnyX_take hi hs h1.1 h1.2 hT hQ hy hS (by rw [e3]; exact h)
theorem wpX_take' {i : Nat} {oi : Oper} {v : Value} {f : Nat} {L L' : Bool → Bool → Array Bool} {b c : Bool} {a : Act} {w : World} {n : Nat} {listed : Array Bool} (hn : f + 1 + left2 b c = n) (hl : L b c = listed) (hi : ops[i]? = some oi)
    (hs : Region.noSelect ops = true) (r : takeOk md ops L i = true) (hT : sparedOk md ops l i = true) (e3 : ∀ b c, (L b c).setIfInBounds i true = L' b c)
    (hQ : ∀ c a w, Q (.panic c) (a.put oi.dst v) w → Q (.panic c) a w) (hy : YieldsIf P ops S oi v a) (hS : S w)
    (h : wpAnyX P md ops Q S (fun j => l.contains j) (f + left2 b c) (L' b c) (a.put oi.dst v) w) : wpAnyX P md ops Q S (fun j => l.contains j) n listed a w := by
  subst hn; subst hl
  exact wpX_take hi hs r hT e3 hQ hy hS h
def layOk (md : Region.Mode) (ops : Array Oper) (L : Bool → Bool → Array Bool) (j1 j2 : Nat) : Bool :=
  [true, false].all fun b => [true, false].all fun c => (b && c) || ((Region.ready md ops (L b c)).all (fun k => (k == j1 && !b) || (k == j2 && !c)) && !(Region.ready md ops (L b c)).isEmpty)
/-- Nothing is left but the two variables. -/
theorem wpX_lay {j1 j2 d1 d2 base : Nat} {t1 t2 : TypeId} {z1 z2 : Array Value} (a1 : Lays P ops j1 d1 t1 z1) (a2 : Lays P ops j2 d2 t2 z2) {f : Nat} {L : Bool → Bool → Array Bool} {A : Value → Value → Act} {G : World → Prop}
    (r : layOk md ops L j1 j2 = true)
    (e1 : ∀ c, (L false c).setIfInBounds j1 true = L true c) (e2 : ∀ b, (L b false).setIfInBounds j2 true = L b true)
    (p1 : ∀ x y u, (A x y).put (some d1) u = A u y) (p2 : ∀ x y u, (A x y).put (some d2) u = A x u)
    (hS : ∀ w, G w → S w) (hG : ∀ w o, G w → G (w.alloc o)) (hB : ∀ w, G w → base ≤ w.heap.size)
    (fin : ∀ p1 p2 w, G w → base ≤ p1 → Blk w p1 t1 z1 → base ≤ p2 → Blk w p2 t2 z2 → p1 ≠ p2 → wpAnyX P md ops Q S (fun j => l.contains j) f (L true true) (A (.pointer (some ⟨p1, 0, none⟩)) (.pointer (some ⟨p2, 0, none⟩))) w) :
    ∀ b c x y w, G w → Pend b base t1 z1 x w → Pend c base t2 z2 y w → Two b c x y → wpAnyX P md ops Q S (fun j => l.contains j) (f + left2 b c) (L b c) (A x y) w := by
  have tt : ∀ x y w, G w → Pend true base t1 z1 x w → Pend true base t2 z2 y w → Two true true x y → wpAnyX P md ops Q S (fun j => l.contains j) (f + left2 true true) (L true true) (A x y) w := by
    intro x y w hGw hx hy hxy
    obtain ⟨q1, rfl, h1, h2⟩ := hx rfl
    obtain ⟨q2, rfl, h3, h4⟩ := hy rfl
    exact fin q1 q2 w hGw h1 h2 h3 h4 (fun e => hxy rfl rfl (by rw [e]))
  have step : ∀ b c, (b && c) = false → (b = false → ∀ x y w, G w → Pend true base t1 z1 x w → Pend c base t2 z2 y w → Two true c x y → wpAnyX P md ops Q S (fun j => l.contains j) (f + left2 true c) (L true c) (A x y) w) →
      (c = false → ∀ x y w, G w → Pend b base t1 z1 x w → Pend true base t2 z2 y w → Two b true x y → wpAnyX P md ops Q S (fun j => l.contains j) (f + left2 b true) (L b true) (A x y) w) →
      ∀ x y w, G w → Pend b base t1 z1 x w → Pend c base t2 z2 y w → Two b c x y → wpAnyX P md ops Q S (fun j => l.contains j) (f + left2 b c) (L b c) (A x y) w := by
    intro b c hbc hb hc x y w hGw hx hy hxy
    have he : f + left2 b c = (f + (left2 b c - 1)) + 1 := by
      have : left2 b c ≠ 0 := by cases b <;> cases c <;> simp [left2] at hbc ⊢
      omega
    rw [he]
    have h1 := List.all_eq_true.1 (List.all_eq_true.1 r b (by cases b <;> simp)) c (by cases c <;> simp)
    rw [hbc, Bool.false_or, Bool.and_eq_true] at h1
    refine ⟨fun h0 => by rw [h0] at h1; simp at h1, fun k hk => ?_⟩
    have := List.all_eq_true.1 h1.1 k hk
    simp only [Bool.or_eq_true, Bool.and_eq_true, beq_iff_eq, Bool.not_eq_true'] at this
    rcases this with ⟨rfl, rfl⟩ | ⟨rfl, rfl⟩
    · refine a1.wpOp ⟨.inr (hS _ (hG w _ hGw)), ?_⟩
      rw [p1, e1]
      have hl : f + (left2 false c - 1) = f + left2 true c := by cases c <;> rfl
      rw [hl]
      refine hb rfl _ _ _ (hG w _ hGw) (fun _ => ⟨_, rfl, hB w hGw, Blk.new w _ _⟩) (hy.al _) (fun _ hct e => ?_)
      exact hy.lt hct e.symm
    · refine a2.wpOp ⟨.inr (hS _ (hG w _ hGw)), ?_⟩
      rw [p2, e2]
      have hl : f + (left2 b false - 1) = f + left2 b true := by cases b <;> rfl
      rw [hl]
      refine hc rfl _ _ _ (hG w _ hGw) (hx.al _) (fun _ => ⟨_, rfl, hB w hGw, Blk.new w _ _⟩) (fun hbt _ e => ?_)
      exact hx.lt hbt e
  have tf := step true false rfl (fun h => by cases h) (fun _ => tt)
  have ft := step false true rfl (fun _ => tt) (fun h => by cases h)
  have ff := step false false rfl (fun _ => tf) (fun _ => ft)
  intro b c
  cases b <;> cases c
  · exact ff
  · exact ft
  · exact tf
  · exact tt
theorem wpX_lay' {j1 j2 d1 d2 base : Nat} {t1 t2 : TypeId} {z1 z2 : Array Value} (a1 : Lays P ops j1 d1 t1 z1) (a2 : Lays P ops j2 d2 t2 z2) {f : Nat} {L : Bool → Bool → Array Bool} {A : Value → Value → Act} {G : World → Prop}
    {b c : Bool} {x y : Value} {w : World} {n : Nat} {listed : Array Bool} {a : Act} (hn : f + left2 b c = n) (hl : L b c = listed) (ha : A x y = a)
    (r : layOk md ops L j1 j2 = true)
    (e1 : ∀ c, (L false c).setIfInBounds j1 true = L true c) (e2 : ∀ b, (L b false).setIfInBounds j2 true = L b true)
    (p1 : ∀ x y u, (A x y).put (some d1) u = A u y) (p2 : ∀ x y u, (A x y).put (some d2) u = A x u)
    (hS : ∀ w, G w → S w) (hG : ∀ w o, G w → G (w.alloc o)) (hB : ∀ w, G w → base ≤ w.heap.size)
    (hw : G w) (hx : Pend b base t1 z1 x w) (hy : Pend c base t2 z2 y w) (hxy : Two b c x y)
    (fin : ∀ p1 p2 w, G w → base ≤ p1 → Blk w p1 t1 z1 → base ≤ p2 → Blk w p2 t2 z2 → p1 ≠ p2 → wpAnyX P md ops Q S (fun j => l.contains j) f (L true true) (A (.pointer (some ⟨p1, 0, none⟩)) (.pointer (some ⟨p2, 0, none⟩))) w) :
    wpAnyX P md ops Q S (fun j => l.contains j) n listed a w := by
  subst hn; subst hl; subst ha
  exact wpX_lay a1 a2 r e1 e2 p1 p2 hS hG hB fin b c x y w hw hx hy hxy
end
end Go.Proofs.Ytpdadlofgfdlpaa
