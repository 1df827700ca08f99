/- What the laws of the store want. -/
import Derived.Test.YtpdadlofgfdlpaaStoA
import Derived.Test.YtpdadlofgfdlpaaDonQ
namespace Go.Proofs.Ytpdadlofgfdlpaa
set_option linter.all false
open Go.RowKit
/-- A slice of entries that stays where others write. -/
structure St (w : World) (A : Option Addr) (n c : Nat) (l : List En) : Prop where
  sl : StSl w A n c l
  tp : Tp w A 65
section
variable {w w' : World} {A : Option Addr} {n c g : Nat} {l : List En} {t : TypeId} {cs : Array Value}
theorem St.nil (w : World) : St w none 0 0 [] := ⟨StSl.nil w, Tp.none_⟩
theorem St.bl (h : St w A n c l) (hb : Below w.heap.size w w') : St w' A n c l := ⟨h.sl.bl hb, h.tp.bl hb⟩
theorem St.al (h : St w A n c l) (o : Obj) : St (w.alloc o) A n c l := h.bl ((Below.refl _ w).alloc (Nat.le_refl _) o)
theorem St.dr (h : St w A n c l) : St w.drew A n c l := h.bl (Below.refl _ w).drew
theorem St.of {B : Nat} (h : StOwn w B A n c l) : St w A n c l := ⟨h.sl, by obtain ⟨rows, h1, _⟩ := h; exact own_tp h1⟩
theorem St.grown (h : St w A n c l) (R : Blk w g t cs) (hg : w.grownBy w' (some g)) (h0 : 65 ≠ t := by decide) (h1 : t ≠ 114 := by decide) (h2 : t ≠ 9 := by decide) (h3 : t ≠ 116 := by decide) : St w' A n c l := by
  refine ⟨?_, grown_tp h.tp R hg h0⟩
  obtain ⟨rows, k1, k2⟩ := h.sl
  exact ⟨rows, k1.far hg (h.tp.ne R h0), k2.fr (Fr.grown R hg h1 h2 h3)⟩
end
/-- A store's block is written whole. -/
theorem whole_store {w2 : World} {b : Nat} {x0 x1 : Value} (u0 u1 : Value) (R : Blk w2 b 25 #[x0, x1]) :
    Blk ((w2.setCell ⟨b, 0, none⟩ (u0)).setCell ⟨b, 1, none⟩ (u1)) b 25 #[u0, u1] ∧ w2.grownBy ((w2.setCell ⟨b, 0, none⟩ (u0)).setCell ⟨b, 1, none⟩ (u1)) (some b) ∧ ((w2.setCell ⟨b, 0, none⟩ (u0)).setCell ⟨b, 1, none⟩ (u1)).heap.size = w2.heap.size := by
  have R0 := R.set' (i := 0) (u := u0) rfl
  have R1 := R0.set' (i := 1) (u := u1) rfl
  exact ⟨R1, (grown_trans (grown_setRow_cell w2 b 0 u0) (grown_setRow_cell _ b 1 u1)), by simp⟩
def ApplyLeft (R : (Int × List En) × Re × Int) (w : World) (e : Ending) (w' : World) : Prop :=
  ∃ A n c Y m d, e = .returned (.tuple #[.agg #[.int .i64 R.1.1, .slice A n c], .agg #[.int .i64 R.2.1.code, .string R.2.1.text, .int .i64 R.2.1.n, .slice Y m d], .int .i64 R.2.2]) ∧ St w' A n c R.1.2 ∧ Sl w' 1 Y m d (strRows R.2.1.list) ∧ Tp w' Y 9 ∧ Below w.heap.size w w'
theorem Apply_may {now : Int} {l : List En} (hs : StOk now l) (time : Int) (cm : Cmd) (R : (Int × List En) × Re × Int) (hR : applyS now l time cm = R) (t0 : 0 ≤ time) (t1 : time ≤ 2147483648) (A : Option Addr) (n c : Nat) (w : World) (h : St w A n c l) :
    Calls Try.prog 25 #[.agg #[.int .i64 now, .slice A n c], .int .i64 time, .agg #[.int .i64 cm.kind, .string cm.key, .string cm.field, .string cm.text, .int .i64 cm.n]] w (ApplyLeft R w) := by
  subst hR
  refine (Apply_any now A n c l time cm w h.sl (by have := h.sl.len; have := hs.few; omega) (fun x hx => by obtain ⟨a, b, d⟩ := hs.small x hx; exact ⟨by omega, by omega, by omega⟩) (by omega) (by omega)).mono ?_
  rintro e w' ⟨A, n, c, Y, m, d, h1, h2, h3⟩
  exact ⟨A, n, c, Y, m, d, h1, St.of h2, h3⟩
theorem apply_ok {now time : Int} {l : List En} {c : Cmd} (hs : StOk now l) (ht : now ≤ time) (h1 : time ≤ 1073741824) (hc : ccOf c = 0) : applyS now l time c = ((time, (doS time (alive time l) c).1), (doS time (alive time l) c).2, 0) := by
  have h0 := hs.now0
  have hm : max now time = time := by omega
  unfold applyS
  rw [if_neg (by rw [ok_store hs]; simp), if_neg (by omega), if_neg (by omega), hm]
theorem alive_self {now : Int} {l : List En} (hs : StOk now l) : alive now l = l := by
  unfold alive
  rw [List.filter_eq_self]
  intro x hx
  have := hs.till x hx
  have hn : ¬ gone now x = true := by rw [gone_iff]; omega
  simpa using hn
/-- A command for a key is one for another. -/
theorem cc_at {k : Int} {key f t : ByteArray} {n : Int} (h : ccOf ⟨k, { data := #[107] }, f, t, n⟩ = 0) (hk : k ≠ 22) (h1 : 1 ≤ key.size) (h2 : key.size ≤ 12) : ccOf ⟨k, key, f, t, n⟩ = 0 := by
  have hkey : cmdKey k = true := by unfold cmdKey; rw [Bool.not_eq_true', beq_eq_false_iff_ne]; exact hk
  have hb : ∀ key', bare k key' f t n = bare k { data := #[107] } f t n := fun key' => by unfold bare; rw [hkey]; simp
  have e1 : fieldOk key = true := fieldOk_iff.2 ⟨h1, h2⟩
  have e2 : fieldOk { data := #[107] } = true := fieldOk_iff.2 ⟨by decide, by decide⟩
  unfold ccOf checkCommand at h ⊢
  simp only at h ⊢
  rw [hb key, e1]
  rw [e2] at h
  exact h
theorem cc_keys : ccOf ⟨22, { data := #[] }, { data := #[] }, { data := #[] }, 0⟩ = 0 := by
  have hb : bare 22 { data := #[] } { data := #[] } { data := #[] } 0 = true := by
    have e : emp = ({ data := #[] } : ByteArray) := rfl
    unfold bare
    rw [← e, emp_list]; rfl
  unfold ccOf checkCommand
  simp only
  rw [if_neg (by omega), if_neg (by rw [hb]; simp), if_neg, if_neg (by rw [countOk_iff.2 ⟨by omega, by omega⟩]; simp)]
  rintro (⟨h, _⟩ | ⟨h, _⟩ | h)
  · exact absurd h (by decide)
  · exact absurd h (by decide)
  · rw [textOk_iff.2 (by decide)] at h; cases h
section
variable {k : ByteArray} {v : Va} {t now : Int} {c : Cmd}
theorem one_at : keyAt k [⟨k, v, t⟩] = 0 := by unfold keyAt; rw [lowB_cons, cmpB_self]; simp
theorem one_has : keyHas k [⟨k, v, t⟩] = true := by unfold keyHas; rw [one_at]; simp [foundAt, cmpB_self]
theorem none_at : keyAt k [] = 0 := rfl
theorem none_has : keyHas k [] = false := rfl
theorem one_ok (hk : 1 ≤ k.size ∧ k.size ≤ 12) (hg : Good v) (h0 : 0 ≤ now) (h1 : now ≤ 1073741824) (ht : t = 0 ∨ (now < t ∧ t ≤ 1073741824)) : StOk now [⟨k, v, t⟩] := by
  refine ⟨h0, h1, by simp, ?_, ?_, ?_, by simp⟩ <;> (intro x hx; rw [List.mem_singleton] at hx; subst hx; assumption)
theorem nil_ok (h0 : 0 ≤ now) (h1 : now ≤ 1073741824) : StOk now [] := ⟨h0, h1, by simp, by simp, by simp, by simp, by simp⟩
theorem do_expire (hk : c.key = k) (h20 : c.kind = 20) (h1 : 1 ≤ c.n) (h2 : c.n ≤ 1073741824 - now) : doS now [⟨k, v, t⟩] c = ([⟨k, v, now + c.n⟩], toldR 0) := by
  unfold doS
  rw [if_neg (by omega), if_neg (by omega), if_pos (by omega), hk, one_at, one_has]
  unfold timedS
  simp only [List.getElem?_cons_zero]
  rw [if_neg (by simp), if_neg (by omega), if_neg (by omega)]
  rfl
theorem do_life (hk : c.key = k) (h21 : c.kind = 21) : doS now [⟨k, v, t⟩] c = ([⟨k, v, t⟩], toldR (max (t - now) 0)) := by
  unfold doS
  rw [if_neg (by omega), if_neg (by omega), if_pos (by omega), hk, one_at, one_has]
  unfold timedS
  simp only [List.getElem?_cons_zero]
  rw [if_neg (by simp), if_pos h21]
theorem do_keys {l : List En} (h : c.kind = 22) : doS now l c = (l, ⟨0, emp, 0, l.map En.key⟩) := by
  unfold doS; rw [if_pos h]
/-- A value is made where there is none. -/
theorem do_first {u : Va} {r : Re} (hk : c.kind ≤ 18) (hd : doneVal zeroVa c = (u, r, 0)) (hu : u.kind ≠ 0) (hr : r.code = 0) : doS now [] c = ([⟨c.key, u, 0⟩], r) := by
  unfold doS
  rw [if_neg (by omega), if_neg (by omega), if_neg (by omega), none_at, none_has]
  have ho : oldOf [] 0 false = zeroVa := rfl
  rw [ho, hd]
  simp only
  rw [if_neg (by omega), if_neg (by simp), if_neg (by simp), if_pos hu, setS_new (by simp)]
  rfl
/-- The value of the one key is done to. -/
theorem do_one {u : Va} {r : Re} (hkey : c.key = k) (hk : c.kind ≤ 18) (hd : doneVal v c = (u, r, 0)) (hu : u.kind ≠ 0) (hr : r.code = 0) : doS now [⟨k, v, t⟩] c = ([⟨k, u, if c.kind = 1 then 0 else t⟩], r) := by
  unfold doS
  rw [if_neg (by omega), if_neg (by omega), if_neg (by omega), hkey, one_at, one_has]
  have ho : oldOf [⟨k, v, t⟩] 0 true = v := rfl
  rw [ho, hd]
  simp only
  rw [if_neg (by omega), if_neg (by simp [hu]), if_neg (by simp), if_pos hu, setS_has (by simp)]
  rfl
theorem alive_none : alive now [] = [] := rfl
theorem alive_stays {x : En} (h : ¬ (x.till ≠ 0 ∧ x.till ≤ now)) : alive now [x] = [x] := by
  have : ¬ gone now x = true := by rw [gone_iff]; exact h
  unfold alive; simp [this]
theorem alive_goes {x : En} (h : x.till ≠ 0 ∧ x.till ≤ now) : alive now [x] = [] := by
  have : gone now x = true := by rw [gone_iff]; exact h
  unfold alive; simp [this]
end
end Go.Proofs.Ytpdadlofgfdlpaa
