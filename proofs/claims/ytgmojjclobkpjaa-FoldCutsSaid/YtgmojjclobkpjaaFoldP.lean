/- Folding of records to a disk, plain. No walk. -/
import Derived.Test.YtgmojjclobkpjaaTapP
import Derived.Test.YtgmojjclobkpjaaRest
namespace Go.Proofs.Ytgmojjclobkpjaa
set_option linter.all false
open Go.RowKit
structure Dk where
  term : Int
  who : Int
  si : Int
  st : Int
  m : Mach
  b : Int
  bt : Int
  L : List Itm
def newMach : Mach := ⟨0, [], 1, []⟩
def newDk : Dk := ⟨0, -1, 0, 0, newMach, 0, 0, []⟩
/-- What tape.line answers: the items, and what is wrong. -/
def lineP (b bt : Int) (L : List Itm) (i : Int) (x : Itm) : List Itm × Int :=
  if i ≤ b then (L, 0) else if b + L.length + 1 < i then (L, 10)
  else if checkLog b bt (L.take (i - b - 1).toNat ++ [x]) = 0 then (L.take (i - b - 1).toNat ++ [x], 0) else (L, 10)
def stepD (d : Dk) : RK → Dk × Int
  | .mark t f => ({ d with term := t, who := f }, 0)
  | .line i x => ({ d with L := (lineP d.b d.bt d.L i x).1 }, (lineP d.b d.bt d.L i x).2)
  | .load i t m => if d.si < i then ({ d with si := i, st := t, m := m, b := i, bt := t, L := restL d.b d.bt d.L i t }, 0) else (d, 0)
def foldG : Dk → List RK → Dk × Int
  | d, [] => (d, 0)
  | d, r :: l => if (stepD d r).2 = 0 then foldG (stepD d r).1 l else stepD d r
structure Dk.Ok (d : Dk) : Prop where
  log : checkLog d.b d.bt d.L = 0
  mach : MachOk d.m
  si0 : 0 ≤ d.si
  si1 : d.si ≤ 1048576
theorem new_ok : newDk.Ok := ⟨rfl, mach_ok (by decide +kernel), by decide, by decide⟩
theorem lineP_ok {b bt i : Int} {L : List Itm} {x : Itm} (h : checkLog b bt L = 0) : checkLog b bt (lineP b bt L i x).1 = 0 := by
  unfold lineP
  split
  · exact h
  split
  · exact h
  split
  · assumption
  · exact h
theorem stepD_ok {d : Dk} {r : RK} (h : d.Ok) (hr : r.Ok) : (stepD d r).1.Ok := by
  cases r with
  | mark t f => exact ⟨h.log, h.mach, h.si0, h.si1⟩
  | line i x => exact ⟨lineP_ok h.log, h.mach, h.si0, h.si1⟩
  | load i t m =>
    obtain ⟨h1, h2, h3⟩ := hr
    have n1 := number_iff.1 h1
    have n2 := number_iff.1 h2
    simp only [stepD]
    split
    · exact ⟨rest_good h.log n1.1 n1.2 n2.1 n2.2, h3, by show 0 ≤ i; omega, by show i ≤ 1048576; omega⟩
    · exact h
theorem foldG_ok : ∀ {l : List RK} {d : Dk}, d.Ok → (∀ r ∈ l, r.Ok) → (foldG d l).1.Ok
  | [], d, h, _ => h
  | r :: l, d, h, hl => by
    unfold foldG
    split
    · exact foldG_ok (stepD_ok h (hl r (by simp))) fun x hx => hl x (by simp [hx])
    · exact stepD_ok h (hl r (by simp))
theorem foldG_app : ∀ (a b : List RK) (d : Dk), foldG d (a ++ b) = if (foldG d a).2 = 0 then foldG (foldG d a).1 b else foldG d a
  | [], b, d => by simp [foldG]
  | r :: a, b, d => by
    have e : ∀ l, foldG d (r :: l) = if (stepD d r).2 = 0 then foldG (stepD d r).1 l else stepD d r := fun l => rfl
    rw [List.cons_append, e, e]
    by_cases h : (stepD d r).2 = 0
    · rw [if_pos h, if_pos h, foldG_app a b _]
    · rw [if_neg h, if_neg h, if_neg h]
theorem foldG_step {R : Dk × Int} {d : Dk} {l : List RK} {k : Nat} (hk : k < l.length) (h : Hid (R = foldG d (l.drop k))) :
    Hid (R = if (stepD d l[k]).2 = 0 then foldG (stepD d l[k]).1 (l.drop (k + 1)) else stepD d l[k]) := by
  have := h.out
  rw [List.drop_eq_getElem_cons hk] at this
  exact this
theorem foldG_end {R : Dk × Int} {d : Dk} {l : List RK} {k : Nat} (hk : l.length ≤ k) (h : Hid (R = foldG d (l.drop k))) : R = (d, 0) := by
  have := h.out
  rw [List.drop_eq_nil_of_le hk] at this
  exact this
/-- Records of items, from a place on. -/
def linesFrom : Int → List Itm → List RK
  | _, [] => []
  | i, x :: l => .line i x :: linesFrom (i + 1) l
theorem linesFrom_len : ∀ (l : List Itm) (i : Int), (linesFrom i l).length = l.length
  | [], _ => rfl
  | x :: l, i => by simp [linesFrom, linesFrom_len l]
theorem linesFrom_at : ∀ (l : List Itm) (i : Int) (k : Nat) (hk : k < l.length), (linesFrom i l)[k]? = some (.line (i + k) l[k])
  | x :: l, i, 0, _ => by simp [linesFrom]
  | x :: l, i, k + 1, hk => by
    have := linesFrom_at l (i + 1) k (by simpa using hk)
    simp only [linesFrom, List.getElem?_cons_succ, this, List.getElem_cons_succ]
    congr 2; omega
theorem linesFrom_snoc : ∀ (l : List Itm) (i : Int) (x : Itm), linesFrom i (l ++ [x]) = linesFrom i l ++ [.line (i + l.length) x]
  | [], i, x => by simp [linesFrom]
  | y :: l, i, x => by
    simp only [List.cons_append, linesFrom, linesFrom_snoc l (i + 1) x, List.length_cons]
    rw [show i + 1 + (l.length : Int) = i + ((l.length + 1 : Nat) : Int) by omega]
theorem foldG_one (d : Dk) (r : RK) : foldG d [r] = if (stepD d r).2 = 0 then ((stepD d r).1, 0) else stepD d r := rfl
theorem foldG_line_ok {d : Dk} {i : Int} {x : Itm} {L' : List Itm} (h : lineP d.b d.bt d.L i x = (L', 0)) : foldG d [.line i x] = ({ d with L := L' }, 0) := by
  have : stepD d (.line i x) = ({ d with L := L' }, 0) := by simp [stepD, h]
  rw [foldG_one, this]; rfl
theorem foldG_line_bad {d : Dk} {i : Int} {x : Itm} {k : Int} (h : (lineP d.b d.bt d.L i x).2 = k) (hk : k ≠ 0) : (foldG d [.line i x]).2 = k := by
  have : (stepD d (.line i x)).2 = k := h
  rw [foldG_one, this, if_neg hk, this]
theorem chainOk_app : ∀ (l r : List Itm) (t m : Int), chainOk t m (l ++ r) = true → chainOk t m l = true
  | [], _, _, _, _ => rfl
  | x :: l, r, t, m, h => by
    obtain ⟨h1, h2, h3, h4⟩ := chain_head (l := l ++ r) h
    have a2 : decide (x.term < t) = false := by simp; omega
    have a3 : decide (x.time < m) = false := by simp; omega
    simp [chainOk, h1, a2, a3, chainOk_app l r _ _ h4]
/-- Behind items that rise, one that stands further back may stand, too. -/
theorem chainOk_skip : ∀ (mid : List Itm) (x : Itm) (t m : Int), chainOk t m (mid ++ [x]) = true → chainOk t m [x] = true
  | [], _, _, _, h => h
  | y :: mid, x, t, m, h => by
    obtain ⟨h1, h2, h3, h4⟩ := chain_head (l := mid ++ [x]) h
    have := chainOk_skip mid x _ _ h4
    obtain ⟨g1, g2, g3, _⟩ := chain_head (l := []) this
    have a2 : decide (x.term < t) = false := by simp; omega
    have a3 : decide (x.time < m) = false := by simp; omega
    simp [chainOk, g1, a2, a3]
theorem chainOk_cut : ∀ (l mid : List Itm) (x : Itm) (t m : Int), chainOk t m (l ++ (mid ++ [x])) = true → chainOk t m (l ++ [x]) = true
  | [], mid, x, t, m, h => chainOk_skip mid x t m h
  | y :: l, mid, x, t, m, h => by
    obtain ⟨h1, h2, h3, h4⟩ := chain_head (l := l ++ (mid ++ [x])) h
    have a2 : decide (y.term < t) = false := by simp; omega
    have a3 : decide (y.time < m) = false := by simp; omega
    simp [chainOk, h1, a2, a3, chainOk_cut l mid x _ _ h4]
theorem checkLog_app {b bt : Int} {l r : List Itm} (h : checkLog b bt (l ++ r) = 0) : checkLog b bt l = 0 := by
  obtain ⟨g1, g2, g3, g4, g5, g6, g7⟩ := log_good h
  rw [List.length_append] at g4 g5
  exact checkLog_ok g1 g2 g3 g6 (by omega) (by omega) (chainOk_app l r _ _ g7)
theorem checkLog_cut {b bt : Int} {l mid : List Itm} {x : Itm} (h : checkLog b bt (l ++ (mid ++ [x])) = 0) : checkLog b bt (l ++ [x]) = 0 := by
  obtain ⟨g1, g2, g3, g4, g5, g6, g7⟩ := log_good h
  simp only [List.length_append, List.length_singleton] at g4 g5
  exact checkLog_ok g1 g2 g3 g6 (by simp; omega) (by simp; omega) (chainOk_cut l mid x _ _ g7)
theorem fold_lines : ∀ (xs pre : List Itm) (d : Dk), d.b = 0 → d.bt = 0 → d.L = pre → checkLog 0 0 (pre ++ xs) = 0 → foldG d (linesFrom (pre.length + 1) xs) = ({ d with L := pre ++ xs }, 0)
  | [], pre, d, hb, ht, hL, _ => by
    simp only [linesFrom, foldG, List.append_nil]
    rw [← hL]
  | x :: xs, pre, d, hb, ht, hL, hg => by
    have hg1 : checkLog 0 0 (pre ++ [x]) = 0 := by
      refine checkLog_app (r := xs) ?_
      simpa using hg
    have hlp : lineP d.b d.bt d.L (pre.length + 1) x = (pre ++ [x], 0) := by
      rw [hb, ht, hL]
      unfold lineP
      rw [if_neg (by omega), if_neg (by omega), show ((pre.length : Int) + 1 - 0 - 1).toNat = pre.length by omega, List.take_of_length_le (Nat.le_refl _), if_pos hg1]
    have ih := fold_lines xs (pre ++ [x]) { d with L := pre ++ [x] } hb ht rfl (by simpa using hg)
    rw [List.length_append, List.length_singleton] at ih
    simp only [linesFrom, foldG, stepD, hlp, if_pos]
    rw [show (pre.length : Int) + 1 + 1 = ((pre.length + 1 : Nat) : Int) + 1 by omega, ih]
    simp
/-- Lines from the first place on are the log. -/
theorem fold_all {xs : List Itm} (h : checkLog 0 0 xs = 0) : foldG newDk (linesFrom 1 xs) = ({ newDk with L := xs }, 0) := by
  have := fold_lines xs [] newDk rfl rfl rfl (by simpa using h)
  simpa using this
/-- A line that stands at k + 1 cuts what is behind. -/
theorem fold_cut {xs : List Itm} {k : Nat} (hk : k < xs.length) (h : checkLog 0 0 xs = 0) :
    foldG newDk (linesFrom 1 xs ++ [.line (k + 1) (xs[xs.length - 1]'(by omega))]) = ({ newDk with L := xs.take k ++ [xs[xs.length - 1]'(by omega)] }, 0) := by
  have hg : checkLog 0 0 (xs.take k ++ [xs[xs.length - 1]'(by omega)]) = 0 := by
    refine checkLog_cut (mid := (xs.drop k).dropLast) ?_
    have e : (xs.drop k).dropLast ++ [xs[xs.length - 1]'(by omega)] = xs.drop k := by
      have hne : xs.drop k ≠ [] := by
        intro e; have := congrArg List.length e; simp at this; omega
      have := List.dropLast_concat_getLast hne
      rw [List.getLast_drop, List.getLast_eq_getElem] at this
      exact this
    rw [e, List.take_append_drop]
    exact h
  rw [foldG_app, fold_all h, if_pos rfl]
  have hlp : lineP 0 0 xs (k + 1) (xs[xs.length - 1]'(by omega)) = (xs.take k ++ [xs[xs.length - 1]'(by omega)], 0) := by
    unfold lineP
    rw [if_neg (by omega), if_neg (by omega), show ((k : Int) + 1 - 0 - 1).toNat = k by omega, if_pos hg]
  exact foldG_line_ok (d := { newDk with L := xs }) hlp
/-- A line that leaves a place out is none. -/
theorem fold_gap {xs : List Itm} (x : Itm) (h : checkLog 0 0 xs = 0) : (foldG newDk (linesFrom 1 xs ++ [.line (xs.length + 2) x])).2 = 10 := by
  rw [foldG_app, fold_all h, if_pos rfl]
  have hlp : (lineP 0 0 xs (xs.length + 2) x).2 = 10 := by
    unfold lineP
    rw [if_neg (by omega), if_pos (by omega)]
  exact foldG_line_bad (d := { newDk with L := xs }) hlp (by decide)
/-- Marks alone. -/
theorem fold_marks : ∀ (l : List (Int × Int)) (d : Dk), foldG d (l.map fun p => .mark p.1 p.2) = ({ d with term := (l.getLast?.getD (d.term, d.who)).1, who := (l.getLast?.getD (d.term, d.who)).2 }, 0)
  | [], d => rfl
  | p :: l, d => by
    simp only [List.map_cons, foldG, stepD, if_pos]
    rw [fold_marks l]
    cases hl : l.getLast? with
    | none =>
      have : l = [] := by simpa using hl
      subst this
      rfl
    | some q => simp [List.getLast?_cons, hl]
end Go.Proofs.Ytgmojjclobkpjaa
