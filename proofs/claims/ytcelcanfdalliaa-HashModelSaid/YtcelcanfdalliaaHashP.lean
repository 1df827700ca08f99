/- A hash and a map side by side: plain facts. No walk. -/
import Derived.Test.YtcelcanfdalliaaSetP
namespace Go.Proofs.Ytcelcanfdalliaa
set_option linter.all false
open Go.RowKit
abbrev byF (a b : Pr) : Int := cmpB a.field b.field
theorem pairHas_iff {t : ByteArray} {l : List Pr} (h : risesBy (fun a b : Pr => cmpB a.field b.field) l = true) : pairHas t l = true ↔ ∃ x ∈ l, x.field = t := by
  constructor
  · intro hp
    exact ⟨_, List.getElem_mem (pairHas_lt hp), pairHas_eq hp⟩
  · rintro ⟨x, hm, rfl⟩
    obtain ⟨j, hj, rfl⟩ := List.mem_iff_getElem.1 hm
    have h1 : ¬ j < pairAt l[j].field l := fun hlt => by
      have := pair_h1 (f := l[j].field) (l := l) j hj hlt
      rw [cmpB_self] at this; omega
    have h2 : pairAt l[j].field l = j := by
      rcases Nat.lt_or_eq_of_le (Nat.le_of_not_lt h1) with hlt | he
      · have h3 := pair_h2 (f := l[j].field) h (pairAt l[j].field l) (by omega) (Nat.le_refl _)
        have h4 : cmpB (l[pairAt l[j].field l]'(by omega)).field l[j].field < 0 := rises_lt (cmp := fun a b : Pr => cmpB a.field b.field) (fun _ _ _ => cmpB_trans) h hlt hj
        omega
      · exact he
    unfold pairHas
    rw [h2, foundAt_lt hj]
    simp [cmpB_self]
theorem fields_apart {l : List Pr} (h : risesBy (fun a b : Pr => cmpB a.field b.field) l = true) : l.Pairwise (fun a b => a.field ≠ b.field) :=
  ((rises_pair (cmp := fun a b : Pr => cmpB a.field b.field) (fun _ _ _ => cmpB_trans)).1 h).imp (fun hab e => by rw [e, cmpB_self] at hab; omega)
theorem mem_del_key {α β : Type} {key : α → β} {y : α} : ∀ {l : List α} {k : Nat} (_ : l.Pairwise (fun a b => key a ≠ key b)) (hk : k < l.length), y ∈ delRows l k ↔ y ∈ l ∧ key y ≠ key l[k] := by
  intro l
  induction l with
  | nil => intro k _ hk; simp at hk
  | cons x l ih =>
    intro k h hk
    rw [List.pairwise_cons] at h
    cases k with
    | zero =>
      simp only [delRows, List.take_zero, List.nil_append, List.drop_succ_cons, List.drop_zero, List.mem_cons, List.getElem_cons_zero]
      exact ⟨fun hy => ⟨.inr hy, fun e => h.1 y hy e.symm⟩, fun hy => hy.1.resolve_left (fun e => hy.2 (by rw [e]))⟩
    | succ k =>
      have hk' : k < l.length := by simpa using hk
      have := ih h.2 hk'
      simp only [delRows, List.take_succ_cons, List.cons_append, List.drop_succ_cons, List.mem_cons, List.getElem_cons_succ] at this ⊢
      rw [this]
      constructor
      · rintro (rfl | hy)
        · exact ⟨.inl rfl, h.1 _ (List.getElem_mem hk')⟩
        · exact ⟨.inr hy.1, hy.2⟩
      · rintro ⟨rfl | hy, hne⟩
        · exact .inl rfl
        · exact .inr ⟨hy, hne⟩
theorem mem_set_key {α β : Type} {key : α → β} {y z : α} : ∀ {l : List α} {k : Nat} (_ : l.Pairwise (fun a b => key a ≠ key b)) (hk : k < l.length), y ∈ l.set k z ↔ y = z ∨ (y ∈ l ∧ key y ≠ key l[k]) := by
  intro l
  induction l with
  | nil => intro k _ hk; simp at hk
  | cons x l ih =>
    intro k h hk
    rw [List.pairwise_cons] at h
    cases k with
    | zero =>
      simp only [List.set_cons_zero, List.mem_cons, List.getElem_cons_zero]
      constructor
      · rintro (rfl | hy)
        · exact .inl rfl
        · exact .inr ⟨.inr hy, fun e => h.1 y hy e.symm⟩
      · rintro (rfl | ⟨rfl | hy, hne⟩)
        · exact .inl rfl
        · exact absurd rfl hne
        · exact .inr hy
    | succ k =>
      have hk' : k < l.length := by simpa using hk
      have := ih h.2 hk'
      simp only [List.set_cons_succ, List.mem_cons, List.getElem_cons_succ]
      rw [this]
      constructor
      · rintro (rfl | rfl | hy)
        · exact .inr ⟨.inl rfl, h.1 _ (List.getElem_mem hk')⟩
        · exact .inl rfl
        · exact .inr ⟨.inr hy.1, hy.2⟩
      · rintro (rfl | ⟨rfl | hy, hne⟩)
        · exact .inr (.inl rfl)
        · exact .inl rfl
        · exact .inr (.inr ⟨hy, hne⟩)
/-- What the map beside a hash binds. -/
def hashF (l : List Pr) (t : ByteArray) : Option Value := (l.find? (fun x => decide (x.field = t))).map (fun x => .string x.text)
theorem hashF_nil : hashF [] = fun _ => none := rfl
theorem hashF_iff {l : List Pr} (h : l.Pairwise (fun a b => a.field ≠ b.field)) {t : ByteArray} {v : Value} : hashF l t = some v ↔ ∃ u, v = .string u ∧ (⟨t, u⟩ : Pr) ∈ l := by
  unfold hashF
  constructor
  · intro e
    rw [Option.map_eq_some_iff] at e
    obtain ⟨x, hx, rfl⟩ := e
    have h1 := List.find?_some hx
    have h2 := List.mem_of_find?_eq_some hx
    simp only [decide_eq_true_eq] at h1
    obtain ⟨f, u⟩ := x
    simp only at h1
    subst h1
    exact ⟨u, rfl, h2⟩
  · rintro ⟨u, rfl, hm⟩
    cases hf : l.find? (fun x => decide (x.field = t)) with
    | none =>
      rw [List.find?_eq_none] at hf
      exact absurd (decide_eq_true rfl) (hf _ hm)
    | some x =>
      have h1 := List.find?_some hf
      have h2 := List.mem_of_find?_eq_some hf
      simp only [decide_eq_true_eq] at h1
      have : x = ⟨t, u⟩ := by
        by_cases he : x = ⟨t, u⟩
        · exact he
        · obtain ⟨i, hi, rfl⟩ := List.mem_iff_getElem.1 h2
          obtain ⟨j, hj, ej⟩ := List.mem_iff_getElem.1 hm
          rw [List.pairwise_iff_getElem] at h
          rcases Nat.lt_trichotomy i j with hij | hij | hij
          · exact absurd (by rw [h1, ej]) (h i j hi hj hij)
          · subst hij; exact ej
          · exact absurd (by rw [h1, ej]) (h j i hj hi hij)
      rw [this]; rfl
theorem hash_ext {l : List Pr} (h : l.Pairwise (fun a b => a.field ≠ b.field)) {f : ByteArray → Option Value} (hf : ∀ t v, f t = some v ↔ ∃ u, v = .string u ∧ (⟨t, u⟩ : Pr) ∈ l) : f = hashF l := by
  funext t
  apply Option.ext
  intro v
  rw [hf, hashF_iff h]
theorem hashF_some {l : List Pr} (t : ByteArray) : (hashF l t).isSome = true ↔ ∃ x ∈ l, x.field = t := by
  unfold hashF
  rw [Option.isSome_map, List.find?_isSome]
  simp
structure HashV (v : Va) : Prop where
  may : v = zeroVa ∨ (Good v ∧ v.kind = 3)
  few : ∀ x ∈ v.pairs, x.field ∈ fewT
theorem HashV.may' {v : Va} (h : HashV v) : May v := by
  rcases h.may with h | ⟨h, _⟩
  · exact .inl h
  · exact .inr h
theorem hash_zero : HashV zeroVa := ⟨.inl rfl, by simp [zeroVa]⟩
theorem HashV.rises {v : Va} (h : HashV v) : risesBy (fun a b : Pr => cmpB a.field b.field) v.pairs = true := by
  rcases h.may with rfl | ⟨h, _⟩
  · rfl
  · exact h.rises.1
theorem HashV.room {v : Va} (h : HashV v) : v.pairs.length ≤ 10 := by
  have h1 : (v.pairs.map (·.field)).Pairwise (· ≠ ·) := List.pairwise_map.2 (fields_apart h.rises)
  have := few_many (c := fewT) h1 (fun x hx => by obtain ⟨y, hy, rfl⟩ := List.mem_map.1 hx; exact h.few y hy)
  rw [List.length_map] at this
  exact this
theorem hash_none {l : List Pr} {t : ByteArray} (h : ¬ ∃ x ∈ l, x.field = t) : hashF l t = none := by
  cases hf : hashF l t with
  | none => rfl
  | some v => exact absurd ((hashF_some t).1 (by rw [hf]; rfl)) h
theorem hash_put {l l' : List Pr} {f t : ByteArray} (h : l.Pairwise (fun a b => a.field ≠ b.field)) (h' : l'.Pairwise (fun a b => a.field ≠ b.field)) (hm : ∀ y : Pr, y ∈ l' ↔ y = ⟨f, t⟩ ∨ (y ∈ l ∧ y.field ≠ f)) :
    (fun s => if s = f then some (Value.string t) else hashF l s) = hashF l' := by
  refine hash_ext h' (fun s v => ?_)
  by_cases hs : s = f
  · subst hs
    rw [if_pos rfl]
    constructor
    · intro e
      injection e with e
      exact ⟨t, e.symm, (hm _).2 (.inl rfl)⟩
    · rintro ⟨u, rfl, hu⟩
      rcases (hm _).1 hu with e | ⟨_, e⟩
      · injection e with _ e; rw [e]
      · exact absurd rfl e
  · rw [if_neg hs, hashF_iff h]
    constructor
    · rintro ⟨u, rfl, hu⟩
      exact ⟨u, rfl, (hm _).2 (.inr ⟨hu, hs⟩)⟩
    · rintro ⟨u, rfl, hu⟩
      rcases (hm _).1 hu with e | ⟨e, _⟩
      · injection e with e _; exact absurd e hs
      · exact ⟨u, rfl, e⟩
theorem hash_del {l l' : List Pr} {f : ByteArray} (h : l.Pairwise (fun a b => a.field ≠ b.field)) (h' : l'.Pairwise (fun a b => a.field ≠ b.field)) (hm : ∀ y : Pr, y ∈ l' ↔ y ∈ l ∧ y.field ≠ f) :
    (fun s => if s = f then none else hashF l s) = hashF l' := by
  refine hash_ext h' (fun s v => ?_)
  by_cases hs : s = f
  · subst hs
    rw [if_pos rfl]
    constructor
    · intro e; cases e
    · rintro ⟨u, rfl, hu⟩
      exact absurd rfl ((hm _).1 hu).2
  · rw [if_neg hs, hashF_iff h]
    constructor
    · rintro ⟨u, rfl, hu⟩
      exact ⟨u, rfl, (hm _).2 ⟨hu, hs⟩⟩
    · rintro ⟨u, rfl, hu⟩
      exact ⟨u, rfl, ((hm _).1 hu).1⟩
theorem pairs_apart {v : Va} (h : May v) : v.pairs.Pairwise (fun a b => a.field ≠ b.field) := by
  rcases h with rfl | h
  · simp [zeroVa]
  · exact fields_apart h.rises.1
theorem HashV.short {v : Va} (h : HashV v) : ∀ x ∈ v.pairs, x.field.size ≤ 20 := fun s hs => few_short _ (h.few s hs)
theorem pair_next {l : List Pr} (h : risesBy (fun a b : Pr => cmpB a.field b.field) l = true) (j : Nat) (hj : j + 1 < l.length) : Op.bytesLess (l[j]'(by omega)).field.toList l[j + 1].field.toList = true := by
  have := rises_lt (cmp := fun a b : Pr => cmpB a.field b.field) (fun _ _ _ => cmpB_trans) h (Nat.lt_succ_self j) hj
  rw [cmpB_less]; exact decide_eq_true this
theorem hashF_at {l : List Pr} (h : risesBy (fun a b : Pr => cmpB a.field b.field) l = true) (j : Nat) (hj : j < l.length) (z : Value) : (hashF l l[j].field).getD z = .string l[j].text := by
  have e : hashF l l[j].field = some (.string l[j].text) := (hashF_iff (fields_apart h)).2 ⟨l[j].text, rfl, List.getElem_mem hj⟩
  rw [e]
  rfl
/-- One command of a hash. -/
theorem hash_step {v : Va} {c : Cmd} (h : HashV v) (hc : ccOf c = 0) (hk : c.kind = 4 ∨ c.kind = 5 ∨ c.kind = 6) (ht : c.field ∈ fewT) :
    (doneVal v c).2.2 = 0 ∧ HashV (doneVal v c).1 ∧
    (c.kind = 4 → (doneVal v c).2.1.code = 0 ∧ (doneVal v c).2.1.n = (if (hashF v.pairs c.field).isSome = true then 0 else 1) ∧
      (fun s => if s = c.field then some (Value.string c.text) else hashF v.pairs s) = hashF (doneVal v c).1.pairs ∧ (doneVal v c).1.pairs.length = if (hashF v.pairs c.field).isSome = true then v.pairs.length else v.pairs.length + 1) ∧
    (c.kind ≠ 4 → v.pairs.length = 0 → (doneVal v c).2.1.code = 5 ∧ (doneVal v c).1.pairs = []) ∧
    (c.kind = 5 → (doneVal v c).1.pairs = v.pairs ∧ (v.pairs.length ≠ 0 → (∀ u, hashF v.pairs c.field = some u → (doneVal v c).2.1.code = 0 ∧ u = .string (doneVal v c).2.1.text) ∧ (hashF v.pairs c.field = none → (doneVal v c).2.1.code = 5))) ∧
    (c.kind = 6 → v.pairs.length ≠ 0 → (doneVal v c).2.1.code = 0 ∧ (doneVal v c).2.1.n = (if (hashF v.pairs c.field).isSome = true then 1 else 0) ∧
      (fun s => if s = c.field then none else hashF v.pairs s) = hashF (doneVal v c).1.pairs ∧ (doneVal v c).1.pairs.length = if (hashF v.pairs c.field).isSome = true then v.pairs.length - 1 else v.pairs.length) := by
  have hroom := h.room
  have hrise := h.rises
  have hap := fields_apart hrise
  have hfew := h.few
  have hmay := done_may h.may' c
  have hap' := pairs_apart hmay
  have hti := (hashF_some (l := v.pairs) c.field).trans (pairHas_iff (t := c.field) hrise).symm
  rcases h.may with rfl | ⟨hg, h3⟩
  · rcases hk with hk | hk
    · rw [done_hset0 hc hk] at hmay hap' ⊢
      refine ⟨rfl, ⟨.inr ⟨hmay.resolve_left (by intro e; injection e with e; cases e), rfl⟩, by intro s hs; simp only [List.mem_singleton] at hs; rw [hs]; exact ht⟩, fun _ => ⟨rfl, rfl, ?_, rfl⟩, fun e => absurd hk e, fun e => by omega, fun e => by omega⟩
      exact hash_put (l := []) List.Pairwise.nil hap' (fun y => by simp)
    · have hm : makesC c.kind = false := by rcases hk with hk | hk <;> rw [hk] <;> rfl
      rw [done_none hc (by omega) hm]
      exact ⟨rfl, hash_zero, fun e => by omega, fun _ _ => ⟨rfl, rfl⟩, fun _ => ⟨rfl, fun e => absurd rfl e⟩, fun _ e => absurd rfl e⟩
  · have hne := (hash_forms hg h3)
    unfold Va.size at hne
    rcases hk with hk | hk | hk
    · rw [done_hset hg h3 hc hk] at hmay hap' ⊢
      by_cases hp : pairHas c.field v.pairs = true
      · have hin := hti.2 hp
        simp only [if_pos hp] at hmay hap' ⊢
        have hmem := fun y => mem_set_key (key := fun x : Pr => x.field) (y := y) (z := ⟨c.field, c.text⟩) hap (pairHas_lt hp)
        simp only [pairHas_eq hp] at hmem
        refine ⟨by first | rfl | trivial, ⟨.inr ⟨hmay.resolve_left (fun e => by injection e with e; omega), h3⟩, ?_⟩, fun _ => ⟨by first | rfl | trivial, by rw [if_pos hin]; rfl, hash_put hap hap' hmem, by rw [if_pos hin]; simp⟩, fun e => absurd hk e, fun e => by omega, fun e => by omega⟩
        intro y hy
        rcases (hmem y).1 hy with rfl | hy
        · exact ht
        · exact hfew y hy.1
      · have hin : ¬ (hashF v.pairs c.field).isSome = true := fun e => hp (hti.1 e)
        have hno : ∀ y ∈ v.pairs, y.field ≠ c.field := fun y hy e => hin ((hashF_some _).2 ⟨y, hy, e⟩)
        simp only [if_neg hp, if_neg (show ¬ v.pairs.length = 20 by omega)] at hmay hap' ⊢
        refine ⟨by first | rfl | trivial, ⟨.inr ⟨hmay.resolve_left (fun e => by injection e with e; omega), h3⟩, ?_⟩, fun _ => ⟨by first | rfl | trivial, by rw [if_neg hin]; rfl, hash_put hap hap' (fun y => ?_), by rw [if_neg hin, ins_len']⟩, fun e => absurd hk e, fun e => by omega, fun e => by omega⟩
        · intro y hy
          rcases mem_ins.1 hy with rfl | hy
          · exact ht
          · exact hfew y hy
        · rw [mem_ins]
          exact ⟨fun e => e.imp id (fun e => ⟨e, hno y e⟩), fun e => e.imp id (fun e => e.1)⟩
    · rw [done_hget hg h3 hc hk]
      by_cases hp : pairHas c.field v.pairs = true
      · have hin := hti.2 hp
        simp only [if_pos hp]
        refine ⟨by first | rfl | trivial, h, fun e => by omega, fun _ e => ?_, fun _ => ⟨by first | rfl | trivial, fun _ => ⟨fun u hu => ⟨by first | rfl | trivial, ?_⟩, fun e => ?_⟩⟩, fun e => by omega⟩
        · have := pairHas_lt hp; omega
        · obtain ⟨y, hy1, hy2⟩ := pairHas_get hp
          obtain ⟨u', rfl, hu'⟩ := (hashF_iff hap).1 hu
          have hy3 := List.mem_of_getElem? hy1
          have e1 : hashF v.pairs c.field = some (.string y.text) := (hashF_iff hap).2 ⟨y.text, rfl, by rw [← hy2]; exact hy3⟩
          rw [hu] at e1
          injection e1 with e1
          rw [e1]
          simp only [textR, pairText, hy1]
        · rw [e] at hin; cases hin
      · have hin : ¬ (hashF v.pairs c.field).isSome = true := fun e => hp (hti.1 e)
        simp only [if_neg hp]
        refine ⟨by first | rfl | trivial, h, fun e => by omega, fun _ e => ?_, fun _ => ⟨by first | rfl | trivial, fun _ => ⟨fun u hu => ?_, fun _ => by first | rfl | trivial⟩⟩, fun e => by omega⟩
        · exact ⟨rfl, List.eq_nil_of_length_eq_zero e⟩
        · rw [hu] at hin; exact absurd rfl hin
    · rw [done_hdel hg h3 hc hk] at hmay hap' ⊢
      by_cases hp : pairHas c.field v.pairs = true
      · have hin := hti.2 hp
        have hdl : (delRows v.pairs (pairAt c.field v.pairs)).length = v.pairs.length - 1 := del_len' v.pairs (pairHas_lt hp)
        have hmem := fun y => mem_del_key (key := fun x : Pr => x.field) (y := y) hap (pairHas_lt hp)
        simp only [pairHas_eq hp] at hmem
        have hsub : (delRows v.pairs (pairAt c.field v.pairs)).Pairwise (fun a b => a.field ≠ b.field) := hap.sublist (del_sub v.pairs _)
        have hfun := hash_del hap hsub hmem
        simp only [if_pos hp] at hmay hap' ⊢
        by_cases h1 : v.pairs.length = 1
        · simp only [if_pos h1] at hmay hap' ⊢
          have hnil : delRows v.pairs (pairAt c.field v.pairs) = [] := List.eq_nil_of_length_eq_zero (by omega)
          rw [hnil] at hfun
          exact ⟨by first | rfl | trivial, hash_zero, fun e => by omega, fun _ e => by omega, fun e => by omega, fun _ _ => ⟨by first | rfl | trivial, by rw [if_pos hin]; rfl, hfun, by rw [if_pos hin, h1]; rfl⟩⟩
        · simp only [if_neg h1] at hmay hap' ⊢
          refine ⟨by first | rfl | trivial, ⟨.inr ⟨hmay.resolve_left (fun e => by injection e with e; omega), h3⟩, ?_⟩, fun e => by omega, fun _ e => ?_, fun e => by omega, fun _ _ => ⟨by first | rfl | trivial, by rw [if_pos hin]; rfl, hfun, by rw [if_pos hin, hdl]⟩⟩
          · exact fun y hy => hfew y ((hmem y).1 hy).1
          · have := pairHas_lt hp; omega
      · have hin : ¬ (hashF v.pairs c.field).isSome = true := fun e => hp (hti.1 e)
        have hno : ∀ y ∈ v.pairs, y.field ≠ c.field := fun y hy e => hin ((hashF_some _).2 ⟨y, hy, e⟩)
        simp only [if_neg hp] at hmay hap' ⊢
        exact ⟨by first | rfl | trivial, h, fun e => by omega, fun _ e => by omega, fun e => by omega, fun _ _ => ⟨by first | rfl | trivial, by rw [if_neg hin]; rfl, hash_del hap hap (fun y => ⟨fun e => ⟨e, hno y e⟩, fun e => e.1⟩), by rw [if_neg hin]⟩⟩
end Go.Proofs.Ytcelcanfdalliaa
