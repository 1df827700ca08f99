/- What the laws of client.Do come to: plain facts. -/
import Derived.Test.YtgpkgegpcgiokaaGreatDoorCli
namespace Go.Proofs.YtgpkgegpcgiokaaGreatDoor
set_option linter.all false
open Go.RowKit
section
variable {m : Mach} {l : List DeedD} {cm : Cmd} {k : Nat}
/-- One more client stands last. -/
theorem open_last (h : MInv k m) (hk : k ≤ 1000) : ∃ i, ∃ hi : i < (openM m).1.clis.length, i + 1 = (openM m).1.clis.length ∧ (openM m).1.clis[i].id = m.next ∧ (openM m).1.clis[i].seq = 0 ∧ (openM m).1.next = m.next + 1 ∧ (openM m).2 = toldR m.next := by
  rw [open_eq h hk]
  refine ⟨(leftM m).length, by simp, by simp, ?_, ?_, rfl, rfl⟩ <;> simp
theorem opened_at (l : List DeedD) : ∃ i, ∃ hi : i < (openedM l).clis.length, (openedM l).clis[i].id = (openedM l).next - 1 ∧ (openedM l).clis[i].seq = 0 := by
  obtain ⟨i, hi, _, h1, h2, h3, _⟩ := open_last (machOf_inv l) (by omega)
  refine ⟨i, hi, ?_, h2⟩
  have e : (openedM l).next = (machOf l).next + 1 := h3
  have e2 : (openedM l).clis[i].id = (machOf l).next := h1
  omega
theorem opened_pos (l : List DeedD) : 0 < (openedM l).clis.length := by obtain ⟨i, hi, _⟩ := opened_at l; omega
theorem cmd_cc (r : RawD) : ccOf (cmdR r) = 0 := cmd_ok _ _ _ _ _
theorem made_here {i : Nat} (hi : i < m.clis.length) {id s : Int} : ∃ h : i < (madeM m i id s cm).clis.length, (madeM m i id s cm).clis[i] = ⟨id, s, m.now, (doS m.now m.ents cm).2⟩ := by
  refine ⟨by show i < (m.clis.set i _).length; simpa using hi, ?_⟩
  show (m.clis.set i _)[i]'(by simpa using hi) = _
  simp
/-- A call that is made twice. -/
theorem once_plan (h : MachOk m) {i : Nat} (hi : i < m.clis.length) (hs : m.clis[i].seq = 0) (hc : ccOf cm = 0) {t : Int} (h0 : m.now ≤ t) (h1 : t ≤ 1073741824) :
    ∃ x r, MachOk x ∧ x.now = m.now ∧ 0 < x.clis.length ∧ applyM m m.now ⟨m.clis[i].id, 1, cm⟩ = (x, r, 0) ∧ applyM x x.now ⟨m.clis[i].id, 1, cm⟩ = (x, r, 0) ∧ applyM x t ⟨m.clis[i].id, 1, cm⟩ = (laterM x t, r, 0) := by
  have hx := h.cli _ (List.getElem_mem hi)
  have a := hx.id1
  have b := hx.idn
  have d := h.nextm
  have hcc : ccM ⟨m.clis[i].id, 1, cm⟩ = 0 := cc_of a (by omega) (by omega) (by omega) hc
  have hs1 : (1 : Int) = m.clis[i].seq + 1 := by omega
  have okx := made_ok h hi hs1 (by omega) hc
  obtain ⟨hj, hat⟩ := made_here (m := m) (cm := cm) hi (id := m.clis[i].id) (s := 1)
  have hid : (madeM m i m.clis[i].id 1 cm).clis[i].id = m.clis[i].id := by rw [hat]
  have hsq : (madeM m i m.clis[i].id 1 cm).clis[i].seq = 1 := by rw [hat]
  have hrp : (madeM m i m.clis[i].id 1 cm).clis[i].rep = (doS m.now m.ents cm).2 := by rw [hat]
  refine ⟨madeM m i m.clis[i].id 1 cm, (doS m.now m.ents cm).2, okx, rfl, by omega, ?_, ?_, ?_⟩
  · rw [apply_now h hcc, do_next h hi hs1]
  · rw [apply_now okx hcc]
    have := do_same okx hj (cm := cm)
    rw [hid, hsq, hrp] at this
    rw [this]
  · rw [apply_do okx h0 h1 hcc]
    have okl := later_ok okx h0 h1
    have := do_same okl (i := i) hj (cm := cm)
    have e1 : (laterM (madeM m i m.clis[i].id 1 cm) t).clis[i].id = m.clis[i].id := hid
    have e2 : (laterM (madeM m i m.clis[i].id 1 cm) t).clis[i].seq = 1 := hsq
    have e3 : (laterM (madeM m i m.clis[i].id 1 cm) t).clis[i].rep = (doS m.now m.ents cm).2 := hrp
    rw [e1, e2, e3] at this
    rw [this]
theorem gone_plan_ (h : MInv k m) (hk : k ≤ 1000) {p : Int} (p0 : 0 ≤ p) (p1 : p < 9) (hc : ccOf cm = 0) : applyM m m.now ⟨m.next + p, 1, cm⟩ = (m, failR 11, 0) := by
  have a := h.next
  have b := h.ok.next1
  rw [apply_now h.ok (cc_of (by omega) (by omega) (by omega) (by omega) hc), do_gone h.ok (by omega)]
theorem order_plan (h : MInv k m) (hk : k ≤ 1000) {i : Nat} (hi : i < m.clis.length) {s : Int} (s0 : 1 ≤ s) (s1 : s ≤ 1048576) (h1 : s ≠ m.clis[i].seq) (h2 : s ≠ m.clis[i].seq + 1) (hc : ccOf cm = 0) : applyM m m.now ⟨m.clis[i].id, s, cm⟩ = (m, failR 10, 0) := by
  have hx := h.ok.cli _ (List.getElem_mem hi)
  have a := hx.id1
  have b := hx.idn
  have d := h.ok.nextm
  rw [apply_now h.ok (cc_of a (by omega) s0 s1 hc), do_order h.ok hi h1 h2]
/-- The next call of a client is done. -/
theorem next_plan (h : MachOk m) {i : Nat} (hi : i < m.clis.length) {s : Int} (hs : s = m.clis[i].seq + 1) (s1 : s ≤ 1048576) (hc : ccOf cm = 0) : applyM m m.now ⟨m.clis[i].id, s, cm⟩ = (madeM m i m.clis[i].id s cm, (doS m.now m.ents cm).2, 0) ∧ MachOk (madeM m i m.clis[i].id s cm) := by
  have hx := h.cli _ (List.getElem_mem hi)
  have a := hx.id1
  have b := hx.idn
  have c := hx.seq0
  have d := h.nextm
  refine ⟨?_, made_ok h hi hs s1 hc⟩
  rw [apply_now h (cc_of a (by omega) (by omega) s1 hc), do_next h hi hs]
end
end Go.Proofs.YtgpkgegpcgiokaaGreatDoor
