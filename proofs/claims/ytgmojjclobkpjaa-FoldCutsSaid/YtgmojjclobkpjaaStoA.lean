import Derived.Test.YtgmojjclobkpjaaStoP
import Derived.Test.YtgmojjclobkpjaaValsP
/- store.Apply. -/
namespace Go.Proofs.Ytgmojjclobkpjaa
set_option linter.all false
open Go.RowKit
attribute [local go_sem ↓] Go.wp_at_zero Go.wp_at_succ
def ApplyPost (R : (Int × List En) × Re × Int) (w : World) (e : Ending) (w' : World) : Prop :=
  ∃ A n c Y m d, e = .returned (.tuple #[.agg #[.int .i64 R.1.1, .slice A n c], .agg #[.int .i64 R.2.1.code, .string R.2.1.text, .int .i64 R.2.1.n, .slice Y m d], .int .i64 R.2.2]) ∧ StOwn w' w.heap.size A n c R.1.2 ∧ Sl w' 1 Y m d (strRows R.2.1.list) ∧ Tp w' Y 9 ∧ Below w.heap.size w w'
/-- The results are laid into their blocks, and handed back. -/
theorem apply_done {w w2 : World} {s : Int × List En} {r : Re} {k : Int} {b1 b2 : Nat} {A Y : Option Addr} {n c m d : Nat} {x0 x1 y0 y1 y2 y3 : Value} {a0 k0 m0 : Int} {t0 : ByteArray}
    (P : Blk w2 b1 38 #[x0, x1]) (R : Blk w2 b2 95 #[y0, y1, y2, y3]) (O : StOwn w2 w.heap.size A n c s.2) (L : Sl w2 1 Y m d (strRows r.list)) (Ty : Tp w2 Y 9) (q : Below w.heap.size w w2) (h1 : w.heap.size ≤ b1) (h2 : w.heap.size ≤ b2)
    (ha : a0 = s.1) (hk : k0 = r.code) (ht : t0 = r.text) (hm : m0 = r.n) :
    ApplyPost (s, r, k) w (.returned (.tuple #[.agg #[.int .i64 a0, .slice A n c], .agg #[.int .i64 k0, .string t0, .int .i64 m0, .slice Y m d], .int .i64 k])) ((((((w2.setCell ⟨b1, 0, none⟩ (.int .i64 a0)).setCell ⟨b1, 1, none⟩ (.slice A n c)).setCell ⟨b2, 0, none⟩ (.int .i64 k0)).setCell ⟨b2, 1, none⟩ (.string t0)).setCell ⟨b2, 2, none⟩ (.int .i64 m0)).setCell ⟨b2, 3, none⟩ (.slice Y m d)) ∧
    Blk ((((((w2.setCell ⟨b1, 0, none⟩ (.int .i64 a0)).setCell ⟨b1, 1, none⟩ (.slice A n c)).setCell ⟨b2, 0, none⟩ (.int .i64 k0)).setCell ⟨b2, 1, none⟩ (.string t0)).setCell ⟨b2, 2, none⟩ (.int .i64 m0)).setCell ⟨b2, 3, none⟩ (.slice Y m d)) b1 38 #[.int .i64 a0, .slice A n c] ∧
    Blk ((((((w2.setCell ⟨b1, 0, none⟩ (.int .i64 a0)).setCell ⟨b1, 1, none⟩ (.slice A n c)).setCell ⟨b2, 0, none⟩ (.int .i64 k0)).setCell ⟨b2, 1, none⟩ (.string t0)).setCell ⟨b2, 2, none⟩ (.int .i64 m0)).setCell ⟨b2, 3, none⟩ (.slice Y m d)) b2 95 #[.int .i64 k0, .string t0, .int .i64 m0, .slice Y m d] := by
  subst ha; subst hk; subst ht; subst hm
  have P2 := (P.set' (i := 0) (u := .int .i64 s.1) rfl).set' (i := 1) (u := .slice A n c) rfl
  have gr := grown_trans (grown_setRow_cell w2 b1 0 (.int .i64 s.1)) (grown_setRow_cell _ b1 1 (.slice A n c))
  have hne : b1 ≠ b2 := blk_ne P R (by decide)
  have R2 := grown_blk R gr hne.symm
  have f2 := Fr.grown P gr
  have O2 := O.grown P gr
  have q2 := below_grow q gr q.size h1
  obtain ⟨X9, gr9, -⟩ := whole_reply (.int .i64 r.code) (.string r.text) (.int .i64 r.n) (.slice Y m d) R2
  have f9 := Fr.grown R2 gr9
  exact ⟨⟨A, n, c, Y, m, d, rfl, O2.grown R2 gr9, str_fr (str_fr L Ty f2) (tps_fr Ty f2) f9, tps_fr (tps_fr Ty f2) f9, below_grow q2 gr9 q2.size h2⟩, grown_blk P2 gr9 hne, X9⟩
end Go.Proofs.Ytgmojjclobkpjaa
/- What the laws of the store want. -/
namespace Go.Proofs.Ytgmojjclobkpjaa
set_option linter.all false
open Go.RowKit
/-- A slice of entries that stays where others write. -/
structure St (w : World) (A : Option Addr) (n c : Nat) (l : List En) : Prop where
  sl : StSl w A n c l
  tp : Tp w A 91
section
variable {w w' : World} {A : Option Addr} {n c g : Nat} {l : List En} {t : TypeId} {cs : Array Value}
theorem St.nil (w : World) : St w none 0 0 [] := ⟨StSl.nil w, Tp.none_⟩
theorem St.bl (h : St w A n c l) (hb : Below w.heap.size w w') : St w' A n c l := ⟨h.sl.bl hb, h.tp.bl hb⟩
theorem St.al (h : St w A n c l) (o : Obj) : St (w.alloc o) A n c l := h.bl ((Below.refl _ w).alloc (Nat.le_refl _) o)
theorem St.dr (h : St w A n c l) : St w.drew A n c l := h.bl (Below.refl _ w).drew
theorem St.of {B : Nat} (h : StOwn w B A n c l) : St w A n c l := ⟨h.sl, by obtain ⟨rows, h1, _⟩ := h; exact own_tp h1⟩
theorem St.grown (h : St w A n c l) (R : Blk w g t cs) (hg : w.grownBy w' (some g)) (h0 : 91 ≠ t := by decide) (h1 : t ≠ 118 := by decide) (h2 : t ≠ 9 := by decide) (h3 : t ≠ 120 := by decide) : St w' A n c l := by
  refine ⟨?_, grown_tp h.tp R hg h0⟩
  obtain ⟨rows, k1, k2⟩ := h.sl
  exact ⟨rows, k1.far hg (h.tp.ne R h0), k2.fr (Fr.grown R hg h1 h2 h3)⟩
end
/-- A store's block is written whole. -/
theorem whole_store {w2 : World} {b : Nat} {x0 x1 : Value} (u0 u1 : Value) (R : Blk w2 b 38 #[x0, x1]) :
    Blk ((w2.setCell ⟨b, 0, none⟩ (u0)).setCell ⟨b, 1, none⟩ (u1)) b 38 #[u0, u1] ∧ w2.grownBy ((w2.setCell ⟨b, 0, none⟩ (u0)).setCell ⟨b, 1, none⟩ (u1)) (some b) ∧ ((w2.setCell ⟨b, 0, none⟩ (u0)).setCell ⟨b, 1, none⟩ (u1)).heap.size = w2.heap.size := by
  have R0 := R.set' (i := 0) (u := u0) rfl
  have R1 := R0.set' (i := 1) (u := u1) rfl
  exact ⟨R1, (grown_trans (grown_setRow_cell w2 b 0 u0) (grown_setRow_cell _ b 1 u1)), by simp⟩
def ApplyLeft (R : (Int × List En) × Re × Int) (w : World) (e : Ending) (w' : World) : Prop :=
  ∃ A n c Y m d, e = .returned (.tuple #[.agg #[.int .i64 R.1.1, .slice A n c], .agg #[.int .i64 R.2.1.code, .string R.2.1.text, .int .i64 R.2.1.n, .slice Y m d], .int .i64 R.2.2]) ∧ St w' A n c R.1.2 ∧ Sl w' 1 Y m d (strRows R.2.1.list) ∧ Tp w' Y 9 ∧ Below w.heap.size w w'
theorem apply_ok {now time : Int} {l : List En} {c : Cmd} (hs : StOk now l) (ht : now ≤ time) (h1 : time ≤ 1073741824) (hc : ccOf c = 0) : applyS now l time c = ((time, (doS time (alive time l) c).1), (doS time (alive time l) c).2, 0) := by
  have h0 := hs.now0
  have hm : max now time = time := by omega
  unfold applyS
  rw [if_neg (by rw [ok_store hs]; simp), if_neg (by omega), if_neg (by omega), hm]
theorem alive_self {now : Int} {l : List En} (hs : StOk now l) : alive now l = l := by
  unfold alive
  rw [List.filter_eq_self]
  intro x hx
  have := hs.till x hx
  have hn : ¬ gone now x = true := by rw [gone_iff]; omega
  simpa using hn
/-- A command for a key is one for another. -/
theorem cc_at {k : Int} {key f t : ByteArray} {n : Int} (h : ccOf ⟨k, { data := #[107] }, f, t, n⟩ = 0) (hk : k ≠ 22) (h1 : 1 ≤ key.size) (h2 : key.size ≤ 12) : ccOf ⟨k, key, f, t, n⟩ = 0 := by
  have hkey : cmdKey k = true := by unfold cmdKey; rw [Bool.not_eq_true', beq_eq_false_iff_ne]; exact hk
  have hb : ∀ key', bare k key' f t n = bare k { data := #[107] } f t n := fun key' => by unfold bare; rw [hkey]; simp
  have e1 : fieldOk key = true := fieldOk_iff.2 ⟨h1, h2⟩
  have e2 : fieldOk { data := #[107] } = true := fieldOk_iff.2 ⟨by decide, by decide⟩
  unfold ccOf checkCommand at h ⊢
  simp only at h ⊢
  rw [hb key, e1]
  rw [e2] at h
  exact h
theorem cc_keys : ccOf ⟨22, { data := #[] }, { data := #[] }, { data := #[] }, 0⟩ = 0 := by
  have hb : bare 22 { data := #[] } { data := #[] } { data := #[] } 0 = true := by
    have e : emp = ({ data := #[] } : ByteArray) := rfl
    unfold bare
    rw [← e, emp_list]; rfl
  unfold ccOf checkCommand
  simp only
  rw [if_neg (by omega), if_neg (by rw [hb]; simp), if_neg, if_neg (by rw [countOk_iff.2 ⟨by omega, by omega⟩]; simp)]
  rintro (⟨h, _⟩ | ⟨h, _⟩ | h)
  · exact absurd h (by decide)
  · exact absurd h (by decide)
  · rw [textOk_iff.2 (by decide)] at h; cases h
section
variable {k : ByteArray} {v : Va} {t now : Int} {c : Cmd}
theorem one_at : keyAt k [⟨k, v, t⟩] = 0 := by unfold keyAt; rw [lowB_cons, cmpB_self]; simp
theorem one_has : keyHas k [⟨k, v, t⟩] = true := by unfold keyHas; rw [one_at]; simp [foundAt, cmpB_self]
theorem none_at : keyAt k [] = 0 := rfl
theorem none_has : keyHas k [] = false := rfl
theorem one_ok (hk : 1 ≤ k.size ∧ k.size ≤ 12) (hg : Good v) (h0 : 0 ≤ now) (h1 : now ≤ 1073741824) (ht : t = 0 ∨ (now < t ∧ t ≤ 1073741824)) : StOk now [⟨k, v, t⟩] := by
  refine ⟨h0, h1, by simp, ?_, ?_, ?_, by simp⟩ <;> (intro x hx; rw [List.mem_singleton] at hx; subst hx; assumption)
theorem nil_ok (h0 : 0 ≤ now) (h1 : now ≤ 1073741824) : StOk now [] := ⟨h0, h1, by simp, by simp, by simp, by simp, by simp⟩
theorem do_expire (hk : c.key = k) (h20 : c.kind = 20) (h1 : 1 ≤ c.n) (h2 : c.n ≤ 1073741824 - now) : doS now [⟨k, v, t⟩] c = ([⟨k, v, now + c.n⟩], toldR 0) := by
  unfold doS
  rw [if_neg (by omega), if_neg (by omega), if_pos (by omega), hk, one_at, one_has]
  unfold timedS
  simp only [List.getElem?_cons_zero]
  rw [if_neg (by simp), if_neg (by omega), if_neg (by omega)]
  rfl
theorem do_life (hk : c.key = k) (h21 : c.kind = 21) : doS now [⟨k, v, t⟩] c = ([⟨k, v, t⟩], toldR (max (t - now) 0)) := by
  unfold doS
  rw [if_neg (by omega), if_neg (by omega), if_pos (by omega), hk, one_at, one_has]
  unfold timedS
  simp only [List.getElem?_cons_zero]
  rw [if_neg (by simp), if_pos h21]
theorem do_keys {l : List En} (h : c.kind = 22) : doS now l c = (l, ⟨0, emp, 0, l.map En.key⟩) := by
  unfold doS; rw [if_pos h]
/-- A value is made where there is none. -/
theorem do_first {u : Va} {r : Re} (hk : c.kind ≤ 18) (hd : doneVal zeroVa c = (u, r, 0)) (hu : u.kind ≠ 0) (hr : r.code = 0) : doS now [] c = ([⟨c.key, u, 0⟩], r) := by
  unfold doS
  rw [if_neg (by omega), if_neg (by omega), if_neg (by omega), none_at, none_has]
  have ho : oldOf [] 0 false = zeroVa := rfl
  rw [ho, hd]
  simp only
  rw [if_neg (by omega), if_neg (by simp), if_neg (by simp), if_pos hu, setS_new (by simp)]
  rfl
/-- The value of the one key is done to. -/
theorem do_one {u : Va} {r : Re} (hkey : c.key = k) (hk : c.kind ≤ 18) (hd : doneVal v c = (u, r, 0)) (hu : u.kind ≠ 0) (hr : r.code = 0) : doS now [⟨k, v, t⟩] c = ([⟨k, u, if c.kind = 1 then 0 else t⟩], r) := by
  unfold doS
  rw [if_neg (by omega), if_neg (by omega), if_neg (by omega), hkey, one_at, one_has]
  have ho : oldOf [⟨k, v, t⟩] 0 true = v := rfl
  rw [ho, hd]
  simp only
  rw [if_neg (by omega), if_neg (by simp [hu]), if_neg (by simp), if_pos hu, setS_has (by simp)]
  rfl
theorem alive_none : alive now [] = [] := rfl
theorem alive_stays {x : En} (h : ¬ (x.till ≠ 0 ∧ x.till ≤ now)) : alive now [x] = [x] := by
  have : ¬ gone now x = true := by rw [gone_iff]; exact h
  unfold alive; simp [this]
theorem alive_goes {x : En} (h : x.till ≠ 0 ∧ x.till ≤ now) : alive now [x] = [] := by
  have : gone now x = true := by rw [gone_iff]; exact h
  unfold alive; simp [this]
end
end Go.Proofs.Ytgmojjclobkpjaa
