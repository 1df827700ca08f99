/- A region that draws its order, in which one new variable may be laid at any time: its other operations one by one, the new variable wherever it comes. No program. -/
import Derived.Test.YtpdadlofgfdlpaaAllocs
namespace Go.Proofs.Ytpdadlofgfdlpaa
set_option linter.all false
open Go.RowKit
def left1 (b : Bool) : Nat := if b = true then 0 else 1
section
variable {P : Program} {ops : Array Oper} {Q : Exit → Act → World → Prop} {md : Region.Mode} {S : World → Prop} {l : List Nat}
theorem wpX_startA {j d : Nat} {t : TypeId} {z : Array Value} {T : Nat → Bool} {n n' : Nat} {listed listed' : Array Bool} {a : Act} {w : World} (a1 : Lays P ops j d t z)
    (hn : n' = n) (hl : listed' = listed) (h : Lays P ops j d t z → wpAnyX P md ops Q S T n listed a w) : wpAnyX P md ops Q S T n' listed' a w := by subst hn; subst hl; exact h a1
def phaseOk1 (md : Region.Mode) (ops : Array Oper) (L : Bool → Array Bool) (i j : Nat) : Bool :=
  [true, false].all fun b => (Region.ready md ops (L b)).all (fun k => k == i || (k == j && !b)) && !(Region.ready md ops (L b)).isEmpty
theorem phaseOk1_spec {L : Bool → Array Bool} {i j : Nat} (h : phaseOk1 md ops L i j = true) (b : Bool) :
    (∀ k ∈ Region.ready md ops (L b), k = i ∨ (k = j ∧ b = false)) ∧ Region.ready md ops (L b) ≠ [] := by
  unfold phaseOk1 at h
  have h1 := List.all_eq_true.1 h b (by cases b <;> simp)
  rw [Bool.and_eq_true] at h1
  refine ⟨fun k hk => ?_, fun e => by rw [e] at h1; simp at h1⟩
  have := List.all_eq_true.1 h1.1 k hk
  simpa only [Bool.or_eq_true, Bool.and_eq_true, beq_iff_eq, Bool.not_eq_true'] using this
theorem wpX_phaseA {j d base i : Nat} {oi : Oper} {t : TypeId} {z : Array Value} (a1 : Lays P ops j d t z) {f : Nat} {L L' : Bool → Array Bool} {A : Value → Act} {G : World → Prop}
    (r : phaseOk1 md ops L i j = true) (hi : ops[i]? = some oi) (hg : oi.guard = none)
    (e1 : (L false).setIfInBounds j true = L true) (e3 : ∀ b, (L b).setIfInBounds i true = L' b)
    (p1 : ∀ x u, (A x).put (some d) u = A u)
    (hS : ∀ w, G w → S w) (hG : ∀ w o, G w → G (w.alloc o)) (hB : ∀ w, G w → base ≤ w.heap.size)
    (main : ∀ b x w, G w → Pend b base t z x w → ∀ K : Act → World → Prop,
      Shut (∀ a' w', (l.contains i = true ∨ S w') → wpAnyX P md ops Q S (fun j => l.contains j) (f + left1 b) (L' b) a' w' → Exit.then K Q .normal a' w') → wpList P ops (Exit.then K Q) [oi] (A x) w) :
    ∀ b x w, G w → Pend b base t z x w → wpAnyX P md ops Q S (fun j => l.contains j) (f + 1 + left1 b) (L b) (A x) w := by
  have step : ∀ b, (b = false → ∀ x w, G w → Pend true base t z x w → wpAnyX P md ops Q S (fun j => l.contains j) (f + 1 + left1 true) (L true) (A x) w) →
      ∀ x w, G w → Pend b base t z x w → wpAnyX P md ops Q S (fun j => l.contains j) (f + 1 + left1 b) (L b) (A x) w := by
    intro b hb x w hGw hx
    have he : f + 1 + left1 b = (f + left1 b) + 1 := by omega
    rw [he]
    obtain ⟨r1, r2⟩ := phaseOk1_spec r b
    refine ⟨fun h0 => absurd h0 r2, fun k hk => ?_⟩
    rcases r1 k hk with rfl | ⟨rfl, rfl⟩
    · rw [e3]
      exact wpOp_one hi hg (main b x w hGw hx _ (fun a' w' hS' hW => ⟨hS', hW⟩))
    · refine a1.wpOp ⟨.inr (hS _ (hG w _ hGw)), ?_⟩
      rw [p1, e1]
      have hl : f + left1 false = f + 1 + left1 true := by simp [left1]
      rw [hl]
      exact hb rfl _ _ (hG w _ hGw) (fun _ => ⟨_, rfl, hB w hGw, Blk.new w _ _⟩)
  have tt := step true (fun h => by cases h)
  have ff := step false (fun _ => tt)
  intro b
  cases b
  · exact ff
  · exact tt
theorem wpX_phaseA' {j d base i : Nat} {oi : Oper} {t : TypeId} {z : Array Value} (a1 : Lays P ops j d t z) {f : Nat} {L L' : Bool → Array Bool} {G : World → Prop}
    {x : Value} {w : World} {n : Nat} {listed : Array Bool} {a : Act} (hn : f + 1 + left1 false = n) (hl : L false = listed) (ha : a.put (some d) x = a)
    (r : phaseOk1 md ops L i j = true) (hi : ops[i]? = some oi) (hg : oi.guard = none)
    (e1 : (L false).setIfInBounds j true = L true) (e3 : ∀ b, (L b).setIfInBounds i true = L' b)
    (p1 : ∀ x u, ((a.put (some d) x).put (some d) u) = a.put (some d) u)
    (hS : ∀ w, G w → S w) (hG : ∀ w o, G w → G (w.alloc o)) (hB : ∀ w, G w → base ≤ w.heap.size) (hw : G w)
    (main : ∀ b x w, G w → Pend b base t z x w → ∀ K : Act → World → Prop,
      Shut (∀ a' w', (l.contains i = true ∨ S w') → wpAnyX P md ops Q S (fun j => l.contains j) (f + left1 b) (L' b) a' w' → Exit.then K Q .normal a' w') → wpList P ops (Exit.then K Q) [oi] (a.put (some d) x) w) :
    wpAnyX P md ops Q S (fun j => l.contains j) n listed a w := by
  have h := wpX_phaseA a1 (A := fun x => a.put (some d) x) r hi hg e1 e3 p1 hS hG hB main false x w hw Pend.no
  subst hn; subst hl
  simp only [ha] at h
  exact h
def layOk1 (md : Region.Mode) (ops : Array Oper) (L : Bool → Array Bool) (j : Nat) : Bool :=
  (Region.ready md ops (L false)).all (fun k => k == j) && !(Region.ready md ops (L false)).isEmpty
/-- Nothing is left but the variable. -/
theorem wpX_layA' {j d base : Nat} {t : TypeId} {z : Array Value} (a1 : Lays P ops j d t z) {f : Nat} {L : Bool → Array Bool} {A : Value → Act} {G : World → Prop}
    {b : Bool} {x : Value} {w : World} {n : Nat} {listed : Array Bool} {a : Act} (hn : f + left1 b = n) (hl : L b = listed) (ha : A x = a)
    (r : layOk1 md ops L j = true) (e1 : (L false).setIfInBounds j true = L true) (p1 : ∀ x u, (A x).put (some d) u = A u)
    (hS : ∀ w, G w → S w) (hG : ∀ w o, G w → G (w.alloc o)) (hB : ∀ w, G w → base ≤ w.heap.size) (hw : G w) (hx : Pend b base t z x w)
    (fin : ∀ q w, G w → base ≤ q → Blk w q t z → wpAnyX P md ops Q S (fun j => l.contains j) f (L true) (A (.pointer (some ⟨q, 0, none⟩))) w) :
    wpAnyX P md ops Q S (fun j => l.contains j) n listed a w := by
  subst hn; subst hl; subst ha
  cases b with
  | true =>
    obtain ⟨q, rfl, h1, h2⟩ := hx rfl
    exact fin q w hw h1 h2
  | false =>
    have he : f + left1 false = f + 1 := rfl
    rw [he]
    unfold layOk1 at r
    rw [Bool.and_eq_true] at r
    refine ⟨fun h0 => by rw [h0] at r; simp at r, fun k hk => ?_⟩
    have := List.all_eq_true.1 r.1 k hk
    simp only [beq_iff_eq] at this
    subst this
    refine a1.wpOp ⟨.inr (hS _ (hG w _ hw)), ?_⟩
    rw [p1, e1]
    exact fin _ _ (hG w _ hw) (hB w hw) (Blk.new w _ _)
end
end Go.Proofs.Ytpdadlofgfdlpaa
