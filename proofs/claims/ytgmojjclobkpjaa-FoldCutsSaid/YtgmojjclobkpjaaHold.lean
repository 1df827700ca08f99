import Derived.Test.YtgmojjclobkpjaaCheck
import Derived.Test.YtgmojjclobkpjaaIns
import Derived.Test.YtgmojjclobkpjaaBin
import Derived.Test.YtgmojjclobkpjaaCommand
/- A value behind a pointer, in memory of the call's own; value.told, failed, flag, kindOf, makes. -/
namespace Go.Proofs.Ytgmojjclobkpjaa
set_option linter.all false
open Go.RowKit
section
variable {w w' : World} {B g size size' : Nat} {e e' t : TypeId} {s s' : Value} {rows rows' : List (List Value)} {cs : Array Value}
theorem own_typed (h : Own w B e size s rows) {k : Nat} (hk : s.ownBlock = some k) : ∃ cur, w.heap[k]? = some (.cells cur e (0, 0)) := by
  rcases h.form with ⟨rfl, _⟩ | ⟨b, cap, rfl, _, _, _, cur, h3, _⟩
  · simp [Value.ownBlock] at hk
  · simp [Value.ownBlock] at hk; subst hk; exact ⟨cur, h3⟩
theorem own_other (h : Own w B e' size' s' rows') (ho : Own w B e size s rows) (hg : w.grownBy w' s.ownBlock) (hne : e' ≠ e := by decide) : Own w' B e' size' s' rows' := by
  refine ⟨⟨h.1.1, ?_⟩, h.2⟩
  rcases h.1.2 with h1 | ⟨b, cap, cur, h1, h2, h3, h4⟩
  · exact .inl h1
  · have hl : b < w.heap.size := by
      rcases Nat.lt_or_ge b w.heap.size with hl | hl
      · exact hl
      · rw [Array.getElem?_eq_none hl] at h3; cases h3
    refine .inr ⟨b, cap, cur, h1, h2, (hg.block b hl ?_).trans h3, h4⟩
    intro hb
    obtain ⟨cur', hc⟩ := own_typed ho hb.symm
    rw [h3] at hc
    injection hc with hc
    injection hc with _ hc
    exact hne hc
theorem blk_other (h : Blk w g t cs) (ho : Own w B e size s rows) (hg : w.grownBy w' s.ownBlock) (hne : t ≠ e := by decide) : Blk w' g t cs := by
  refine (hg.block g h.lt ?_).trans h
  intro hb
  obtain ⟨cur', hc⟩ := own_typed ho hb.symm
  unfold Blk at h
  rw [h] at hc
  injection hc with hc
  injection hc with _ hc
  exact hne hc
theorem below_grown (ho : Own w B e size s rows) (hg : w.grownBy w' s.ownBlock) (hB : B ≤ w.heap.size) : Below B w w' :=
  (Below.refl B w).grown hg hB fun k hk => (ho.1.lt k hk).1
theorem below_pre {a b c : World} (hB : B ≤ a.heap.size) (h : Below a.heap.size a b) (k : Below B b c) : Below B a c := (h.mono hB).trans k
theorem below_post {a b c : World} (h : Below B a b) (hB : B ≤ b.heap.size) (k : Below b.heap.size b c) : Below B a c := h.trans (k.mono hB)
end
/-- Blocks below B stay; a block of another type than a value's, its elements' too. -/
structure Mov (B : Nat) (w w' : World) : Prop where
  bel : Below B w w'
  frm : ∀ k t cs, Blk w k t cs → t ≠ 89 → t ≠ 118 → t ≠ 9 → t ≠ 120 → Blk w' k t cs
section
variable {w w' w'' : World} {B g sz : Nat} {e t : TypeId} {s : Value} {rows : List (List Value)} {cs : Array Value}
theorem Mov.of (h : Below w.heap.size w w') (hB : B ≤ w.heap.size) : Mov B w w' := ⟨h.mono hB, fun _ _ _ hb _ _ _ _ => hb.below' h⟩
theorem Mov.trans (h : Mov B w w') (k : Mov B w' w'') : Mov B w w'' := ⟨h.bel.trans k.bel, fun b t cs hb h1 h2 h3 h4 => k.frm b t cs (h.frm b t cs hb h1 h2 h3 h4) h1 h2 h3 h4⟩
theorem Mov.alloc (h : Mov B w w') (hB : B ≤ w'.heap.size) (o : Obj) : Mov B w (w'.alloc o) := ⟨h.bel.alloc hB o, fun b t cs hb h1 h2 h3 h4 => (h.frm b t cs hb h1 h2 h3 h4).alloc o⟩
theorem Mov.drew (h : Mov B w w') : Mov B w w'.drew := ⟨h.bel.drew, fun b t cs hb h1 h2 h3 h4 => (h.frm b t cs hb h1 h2 h3 h4).drew⟩
theorem Mov.size (h : Mov B w w') : w.heap.size ≤ w'.heap.size := h.bel.size
theorem blk_ne {b : Nat} {t' : TypeId} {cs' : Array Value} (h : Blk w b t cs) (k : Blk w g t' cs') (hne : t ≠ t') : b ≠ g := by
  rintro rfl
  unfold Blk at h k
  rw [h] at k
  injection k with k
  injection k with _ k
  exact hne k
theorem Mov.setV (h : Mov B w w') (G : Blk w' g 89 cs) (hg : B ≤ g) (i : Nat) (u : Value) : Mov B w (w'.setCell ⟨g, i, none⟩ u) :=
  ⟨h.bel.setCell hg u, fun b t cs hb h1 h2 h3 h4 => (h.frm b t cs hb h1 h2 h3 h4).far (by simpa using blk_ne (h.frm b t cs hb h1 h2 h3 h4) G h1) u⟩
theorem Mov.setN (h : Mov B w w') {b : Nat} (hb : B ≤ b) (hn : w.heap.size ≤ b) (i : Nat) (u : Value) : Mov B w (w'.setCell ⟨b, i, none⟩ u) :=
  ⟨h.bel.setCell hb u, fun k t cs hk h1 h2 h3 h4 => (h.frm k t cs hk h1 h2 h3 h4).far (by have := hk.lt; simp; omega) u⟩
theorem Mov.setP {n c : Nat} {rws : List (List Value)} {b : Nat} (h : Mov B w w') (ho : Own w' B 118 2 (.slice (some ⟨b, 0, none⟩) n c) rws) (i : Nat) (u : Value) : Mov B w (w'.setCell ⟨b, i, none⟩ u) := by
  obtain ⟨cur, hcur⟩ := own_typed ho (k := b) rfl
  exact ⟨h.bel.setCell (ho.1.lt b rfl).1 u, fun k t cs hk h1 h2 h3 h4 => (h.frm k t cs hk h1 h2 h3 h4).far (by simpa using blk_ne (h.frm k t cs hk h1 h2 h3 h4) (show Blk w' b 118 cur from hcur) h2) u⟩
theorem mov_grown (ho : Own w B e sz s rows) (hg : w.grownBy w' s.ownBlock) (hB : B ≤ w.heap.size) (he : e = 118 ∨ e = 9 ∨ e = 120 := by decide) : Mov B w w' :=
  ⟨below_grown ho hg hB, fun k t cs hk h1 h2 h3 h4 => blk_other hk ho hg (by rintro rfl; rcases he with rfl | rfl | rfl <;> contradiction)⟩
theorem mov_post {a b c : World} (h : Mov B a b) (hB : B ≤ b.heap.size) (k : Below b.heap.size b c) : Mov B a c := h.trans (Mov.of k hB)
/-- The block is of this type. -/
def Typ (w : World) (k : Nat) (t : TypeId) : Prop := ∃ cs, Blk w k t cs
theorem Typ.set {k : Nat} (h : Typ w k t) (b i : Nat) (u : Value) : Typ (w.setCell ⟨b, i, none⟩ u) k t := by
  obtain ⟨cs, h⟩ := h
  by_cases hp : k = b
  · subst hp
    exact ⟨_, h.set' rfl⟩
  · exact ⟨cs, h.far (by simpa using hp) u⟩
theorem Typ.bl {k : Nat} (h : Typ w k t) (hb : Below w.heap.size w w') : Typ w' k t := by
  obtain ⟨cs, h⟩ := h
  exact ⟨cs, h.below' hb⟩
def Tp (w : World) (A : Option Addr) (t : TypeId) : Prop := ∀ a, A = some a → Typ w a.block t
theorem Tp.set {A : Option Addr} (h : Tp w A t) (b i : Nat) (u : Value) : Tp (w.setCell ⟨b, i, none⟩ u) A t := fun a ha => (h a ha).set b i u
theorem Tp.bl {A : Option Addr} (h : Tp w A t) (hb : Below w.heap.size w w') : Tp w' A t := fun a ha => (h a ha).bl hb
theorem Tp.none_ : Tp w none t := fun _ h => by cases h
theorem own_tp {A : Option Addr} {n c : Nat} (h : Own w B e sz (.slice A n c) rows) : Tp w A e := by
  rintro a rfl
  rcases h.form with ⟨hv, _⟩ | ⟨b, cap, hv, _⟩
  · cases hv
  · injection hv with e1 _ _
    injection e1 with e1
    subst e1
    obtain ⟨cur, hc⟩ := own_typed h (k := b) rfl
    exact ⟨cur, hc⟩
theorem Tp.ne {A : Option Addr} {b : Nat} {t' : TypeId} (h : Tp w A t) (hb : Blk w b t' cs) (hne : t ≠ t' := by decide) : ∀ a, A = some a → a.block ≠ b := fun a ha => by
  obtain ⟨cs', h⟩ := h a ha
  exact blk_ne h hb hne
end
structure Re where
  code : Int
  text : ByteArray
  n : Int
  list : List ByteArray
def toldR (n : Int) : Re := ⟨0, emp, n, []⟩
def failR (e : Int) : Re := ⟨e, emp, 0, []⟩
def textR (s : ByteArray) : Re := ⟨0, s, 0, []⟩
/-- What a command leaves of the value at block g, and what it tells. -/
def DoPost (v : Va) (r : Re) (B g : Nat) (w : World) (e : Ending) (w' : World) : Prop :=
  ∃ A1 n1 c1 A2 n2 c2 A3 n3 c3 A4 n4 c4, e = .returned (.agg #[.int .i64 r.code, .string r.text, .int .i64 r.n, .slice A4 n4 c4]) ∧
    Blk w' g 89 #[.int .i64 v.kind, .string v.text, .int .i64 v.count, .slice A1 n1 c1, .slice A2 n2 c2, .slice A3 n3 c3] ∧ VSl w' v A1 n1 c1 A2 n2 c2 A3 n3 c3 ∧ Sl w' 1 A4 n4 c4 (strRows r.list) ∧ (Tp w' A1 118 ∧ Tp w' A2 9 ∧ Tp w' A3 120 ∧ Tp w' A4 9) ∧ Mov B w w'
theorem VNew.sl {w : World} {B : Nat} {v : Va} {A1 A2 A3 : Option Addr} {n1 c1 n2 c2 n3 c3 : Nat} (h : VNew w B v (.slice A1 n1 c1) (.slice A2 n2 c2) (.slice A3 n3 c3)) : VSl w v A1 n1 c1 A2 n2 c2 A3 n3 c3 := ⟨h.1.sl', h.2.1.sl', h.2.2.sl'⟩
theorem VNew.bl {w w' : World} {B : Nat} {v : Va} {s1 s2 s3 : Value} (h : VNew w B v s1 s2 s3) (hb : Below w.heap.size w w') : VNew w' B v s1 s2 s3 := ⟨h.1.below hb, h.2.1.below hb, h.2.2.below hb⟩
theorem VNew.al {w : World} {B : Nat} {v : Va} {s1 s2 s3 : Value} (h : VNew w B v s1 s2 s3) (o : Obj) : VNew (w.alloc o) B v s1 s2 s3 := ⟨h.1.alloc o, h.2.1.alloc o, h.2.2.alloc o⟩
theorem VNew.dr {w : World} {B : Nat} {v : Va} {s1 s2 s3 : Value} (h : VNew w B v s1 s2 s3) : VNew w.drew B v s1 s2 s3 := h
theorem VNew.st {w : World} {B g : Nat} {v : Va} {s1 s2 s3 : Value} {cs : Array Value} (h : VNew w B v s1 s2 s3) (hb : Blk w g 89 cs) (i : Nat) (u : Value) : VNew (w.setCell ⟨g, i, none⟩ u) B v s1 s2 s3 := ⟨own_far h.1 hb i u, own_far h.2.1 hb i u, own_far h.2.2 hb i u⟩
theorem VNew.st' {w : World} {B g : Nat} {v : Va} {s1 s2 s3 : Value} {cs : Array Value} {t : TypeId} (h : VNew w B v s1 s2 s3) (hb : Blk w g t cs) (i : Nat) (u : Value) (h1 : t ≠ 118 := by decide) (h2 : t ≠ 9 := by decide) (h3 : t ≠ 120 := by decide) : VNew (w.setCell ⟨g, i, none⟩ u) B v s1 s2 s3 :=
  ⟨own_far h.1 hb i u h1, own_far h.2.1 hb i u h2, own_far h.2.2 hb i u h3⟩
theorem own_not {w : World} {B b g size : Nat} {e t : TypeId} {n c : Nat} {rows : List (List Value)} {cs : Array Value} (h : Own w B e size (.slice (some ⟨b, 0, none⟩) n c) rows) (hb : Blk w g t cs) (hne : t ≠ e := by decide) : b ≠ g := by
  intro he; subst he
  obtain ⟨cur, hcur⟩ := own_typed h (k := b) rfl
  unfold Blk at hb; rw [hcur] at hb; injection hb with hb; injection hb with _ hb; exact hne hb.symm
/-- The reply is laid into its block, and handed back. -/
theorem re_done {w w2 : World} {v : Va} {B g b : Nat} {A1 A2 A3 : Option Addr} {n1 c1 n2 c2 n3 c3 : Nat} {k0 m0 : Int} {t0 : ByteArray} {x0 x1 x2 x3 : Value}
    (G : Blk w2 g 89 #[.int .i64 v.kind, .string v.text, .int .i64 v.count, .slice A1 n1 c1, .slice A2 n2 c2, .slice A3 n3 c3]) (R : Blk w2 b 95 #[x0, x1, x2, x3]) (N : VNew w2 B v (.slice A1 n1 c1) (.slice A2 n2 c2) (.slice A3 n3 c3))
    (q : Mov B w w2) (hb : B ≤ b) (hgb : g ≠ b) (hbw : w.heap.size ≤ b) :
    DoPost v ⟨k0, t0, m0, []⟩ B g w (.returned (.agg #[.int .i64 k0, .string t0, .int .i64 m0, .slice none 0 0])) ((((w2.setCell ⟨b, 0, none⟩ (.int .i64 k0)).setCell ⟨b, 1, none⟩ (.string t0)).setCell ⟨b, 2, none⟩ (.int .i64 m0)).setCell ⟨b, 3, none⟩ (.slice none 0 0)) ∧
    Blk ((((w2.setCell ⟨b, 0, none⟩ (.int .i64 k0)).setCell ⟨b, 1, none⟩ (.string t0)).setCell ⟨b, 2, none⟩ (.int .i64 m0)).setCell ⟨b, 3, none⟩ (.slice none 0 0)) b 95 #[.int .i64 k0, .string t0, .int .i64 m0, .slice none 0 0] := by
  have R1 := R.set' (i := 0) (u := .int .i64 k0) rfl
  have R2 := R1.set' (i := 1) (u := .string t0) rfl
  have R3 := R2.set' (i := 2) (u := .int .i64 m0) rfl
  have R4 := R3.set' (i := 3) (u := .slice none 0 0) rfl
  have N4 := (((N.st' R 0 (.int .i64 k0)).st' R1 1 (.string t0)).st' R2 2 (.int .i64 m0)).st' R3 3 (.slice none 0 0)
  refine ⟨⟨A1, n1, c1, A2, n2, c2, A3, n3, c3, none, 0, 0, rfl, ?_, N4.sl, Sl.nil_ _ _, ⟨own_tp N4.1, own_tp N4.2.1, own_tp N4.2.2, Tp.none_⟩, ?_⟩, R4⟩
  · exact (((G.far (by simpa using hgb) _).far (by simpa using hgb) _).far (by simpa using hgb) _).far (by simpa using hgb) _
  · exact (((q.setN hb hbw 0 _).setN hb hbw 1 _).setN hb hbw 2 _).setN hb hbw 3 _
def flagI (b : Bool) : Int := if b then 1 else 0
def kindC (k : Int) : Int :=
  if k = 2 then 1 else if k = 3 then 2 else if k = 4 ∨ k = 5 ∨ k = 6 then 3 else if k = 7 ∨ k = 8 ∨ k = 9 ∨ k = 10 then 4 else if k = 11 ∨ k = 12 ∨ k = 13 then 5 else if k = 14 ∨ k = 15 ∨ k = 16 then 6 else 0
def makesC (k : Int) : Bool := k == 1 || k == 3 || k == 4 || k == 7 || k == 8 || k == 11 || k == 14
end Go.Proofs.Ytgmojjclobkpjaa
/- value.all: all elements, as texts. -/
namespace Go.Proofs.Ytgmojjclobkpjaa
set_option linter.all false
open Go.RowKit
def allOf (v : Va) : List ByteArray := v.items ++ v.pairs.map (·.field) ++ v.scores.map (·.member)
theorem strRows_snoc (l : List ByteArray) (s : ByteArray) : strRows (l ++ [s]) = strRows l ++ [(#[Value.string s] : Array Value).toList] := by simp [strRows]
theorem map_step {α : Type} {f : α → ByteArray} {l : List α} {base done : List ByteArray} {k : Nat} (h : k < l.length) (hd : Hid (base ++ l.map f = done ++ (l.drop k).map f)) : Hid (base ++ l.map f = (done ++ [f l[k]]) ++ (l.drop (k + 1)).map f) := by
  show _ = _
  rw [hd.out, List.drop_eq_getElem_cons h, List.map_cons, List.append_assoc]
  rfl
theorem map_end {α : Type} {f : α → ByteArray} {l : List α} {base done : List ByteArray} (hd : Hid (base ++ l.map f = done ++ (l.drop l.length).map f)) : base ++ l.map f = done := by
  have := hd.out
  simpa using this
def AllPost (l : List ByteArray) (w : World) (e : Ending) (w' : World) : Prop :=
  ∃ A n c, e = .returned (.slice A n c) ∧ Own w' w.heap.size 9 1 (.slice A n c) (strRows l) ∧ Below w.heap.size w w'
end Go.Proofs.Ytgmojjclobkpjaa
