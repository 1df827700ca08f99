/- client.Do. -/
import Derived.Test.YtgmojjclobkpjaaCliC
import Derived.Test.YtgmojjclobkpjaaCliD
import Derived.Test.YtgmojjclobkpjaaCliO
import Derived.Test.YtgmojjclobkpjaaHeldX
import Derived.Test.YtgmojjclobkpjaaCli
namespace Go.Proofs.Ytgmojjclobkpjaa
set_option linter.all false
open Go.RowKit
def DoMPost (R : Mach × Re × Int) (w : World) (e : Ending) (w' : World) : Prop :=
  ∃ A n c B n' c' Y m d, e = .returned (.tuple #[.agg #[.int .i64 R.1.now, .slice A n c, .int .i64 R.1.next, .slice B n' c'], .agg #[.int .i64 R.2.1.code, .string R.2.1.text, .int .i64 R.2.1.n, .slice Y m d], .int .i64 R.2.2]) ∧ St w' A n c R.1.ents ∧ Ci w' B n' c' R.1.clis ∧ TxSl w' Y m d R.2.1.list ∧ Below w.heap.size w w'
/-- The results are laid into their blocks, and handed back. -/
theorem mach_done {w w2 : World} {M : Mach} {r : Re} {k : Int} {b1 b2 : Nat} {A B Y : Option Addr} {n c n' c' m d : Nat} {x0 x1 x2 x3 y0 y1 y2 y3 : Value} {a0 a1 k0 m0 : Int} {t0 : ByteArray}
    (P : Blk w2 b1 41 #[x0, x1, x2, x3]) (R : Blk w2 b2 95 #[y0, y1, y2, y3]) (O : St w2 A n c M.ents) (C : Ci w2 B n' c' M.clis) (L : TxSl w2 Y m d r.list) (q : Below w.heap.size w w2) (h1 : w.heap.size ≤ b1) (h2 : w.heap.size ≤ b2)
    (ha : a0 = M.now) (hb : a1 = M.next) (hk : k0 = r.code) (ht : t0 = r.text) (hm : m0 = r.n) :
    DoMPost (M, r, k) w (.returned (.tuple #[.agg #[.int .i64 a0, .slice A n c, .int .i64 a1, .slice B n' c'], .agg #[.int .i64 k0, .string t0, .int .i64 m0, .slice Y m d], .int .i64 k])) ((((((((w2.setCell ⟨b1, 0, none⟩ (.int .i64 a0)).setCell ⟨b1, 1, none⟩ (.slice A n c)).setCell ⟨b1, 2, none⟩ (.int .i64 a1)).setCell ⟨b1, 3, none⟩ (.slice B n' c')).setCell ⟨b2, 0, none⟩ (.int .i64 k0)).setCell ⟨b2, 1, none⟩ (.string t0)).setCell ⟨b2, 2, none⟩ (.int .i64 m0)).setCell ⟨b2, 3, none⟩ (.slice Y m d)) ∧
    Blk ((((((((w2.setCell ⟨b1, 0, none⟩ (.int .i64 a0)).setCell ⟨b1, 1, none⟩ (.slice A n c)).setCell ⟨b1, 2, none⟩ (.int .i64 a1)).setCell ⟨b1, 3, none⟩ (.slice B n' c')).setCell ⟨b2, 0, none⟩ (.int .i64 k0)).setCell ⟨b2, 1, none⟩ (.string t0)).setCell ⟨b2, 2, none⟩ (.int .i64 m0)).setCell ⟨b2, 3, none⟩ (.slice Y m d)) b1 41 #[.int .i64 a0, .slice A n c, .int .i64 a1, .slice B n' c'] ∧
    Blk ((((((((w2.setCell ⟨b1, 0, none⟩ (.int .i64 a0)).setCell ⟨b1, 1, none⟩ (.slice A n c)).setCell ⟨b1, 2, none⟩ (.int .i64 a1)).setCell ⟨b1, 3, none⟩ (.slice B n' c')).setCell ⟨b2, 0, none⟩ (.int .i64 k0)).setCell ⟨b2, 1, none⟩ (.string t0)).setCell ⟨b2, 2, none⟩ (.int .i64 m0)).setCell ⟨b2, 3, none⟩ (.slice Y m d)) b2 95 #[.int .i64 k0, .string t0, .int .i64 m0, .slice Y m d] := by
  subst ha; subst hb; subst hk; subst ht; subst hm
  obtain ⟨P2, gr, sz⟩ := whole_mach (.int .i64 M.now) (.slice A n c) (.int .i64 M.next) (.slice B n' c') P
  have hne : b1 ≠ b2 := blk_ne P R (by decide)
  have R2 := grown_blk R gr hne.symm
  have O2 := O.grown P gr
  have C2 := C.grown P gr
  have L2 := L.grown P gr
  have q2 := below_grow q gr q.size h1
  obtain ⟨X9, gr9, -⟩ := whole_reply (.int .i64 r.code) (.string r.text) (.int .i64 r.n) (.slice Y m d) R2
  exact ⟨⟨A, n, c, B, n', c', Y, m, d, rfl, O2.grown R2 gr9, C2.grown R2 gr9, L2.grown R2 gr9, below_grow q2 gr9 q2.size h2⟩, grown_blk P2 gr9 hne, X9⟩
theorem CheckM_ok {m : Mach} (hok : MachOk m) (A B : Option Addr) (na ca nb cb : Nat) (w : World) (hE : St w A na ca m.ents) (hC : Ci w B nb cb m.clis) :
    Calls Try.prog 26 #[.agg #[.int .i64 m.now, .slice A na ca, .int .i64 m.next, .slice B nb cb]] w fun e w' => e = .returned (.int .i64 0) ∧ Below w.heap.size w w' := by
  refine (CheckM_any m A B na ca nb cb w hE.sl hC.sl (by have := hE.sl.len; have := hok.sto.few; omega) (by have := hC.sl.len; have := hok.few; omega) (fun x hx => by obtain ⟨a, b, d⟩ := hok.sto.small x hx; exact ⟨by omega, by omega, by omega⟩) (fun x hx => by have := rep_to (hok.cli x hx).rep; exact ⟨by have := this.text; omega, by have := this.few; omega⟩)).mono ?_
  rintro e w' ⟨rfl, hb⟩
  exact ⟨by rw [ok_mach hok], hb⟩
theorem apply_nothing {m : Mach} (hok : MachOk m) {time T : Int} (h0 : 0 ≤ time) (h1 : time ≤ 1073741824) (hT : T = max m.now time) : applyS m.now m.ents time ⟨22, { data := #[] }, { data := #[] }, { data := #[] }, 0⟩ = ((T, alive T m.ents), ⟨0, emp, 0, (alive T m.ents).map En.key⟩, 0) := by
  have hn := hok.sto.now0
  unfold applyS
  rw [if_neg (by rw [ok_store hok.sto]; simp), if_neg (by omega), if_neg (by rw [cc_keys]; simp), ← hT, do_keys rfl]
theorem open_keeps (m : Mach) : (openM m).1.now = m.now ∧ (openM m).1.ents = m.ents ∧ (openM m).2.list = [] := by
  unfold openM
  split <;> exact ⟨rfl, rfl, rfl⟩
theorem doM_open (m : Mach) (s : Int) (cm : Cmd) : doM m ⟨0, s, cm⟩ = openM m := by unfold doM; rw [if_pos rfl]
theorem doM_none (m : Mach) (c s : Int) (cm : Cmd) (h0 : c ≠ 0) (h : m.clis.findIdx? (fun x => x.id == c) = none) : doM m ⟨c, s, cm⟩ = (m, failR 11) := by
  have e : m.clis.findIdx? (fun x => decide (x.id = c)) = none := h
  unfold doM
  simp only
  rw [if_neg h0, e]
theorem doM_at (m : Mach) {i : Nat} (hi : i < m.clis.length) (c s : Int) (cm : Cmd) (h0 : c ≠ 0) (h : m.clis.findIdx? (fun x => x.id == c) = some i) :
    doM m ⟨c, s, cm⟩ = if s = m.clis[i].seq then (m, m.clis[i].rep) else if s ≠ m.clis[i].seq + 1 then (m, failR 10) else (⟨m.now, (doS m.now m.ents cm).1, m.next, m.clis.set i ⟨m.clis[i].id, s, m.now, (doS m.now m.ents cm).2⟩⟩, (doS m.now m.ents cm).2) := by
  have e : m.clis.findIdx? (fun x => decide (x.id = c)) = some i := h
  unfold doM
  simp only
  rw [if_neg h0, e]
  simp only [List.getElem?_eq_getElem hi]
theorem apply_self {now t : Int} {l : List En} {c : Cmd} (hs : StOk now l) (h0 : 0 ≤ t) (h1 : t ≤ now) (hc : ccOf c = 0) : applyS now l t c = ((now, (doS now l c).1), (doS now l c).2, 0) := by
  have hn := hs.now1
  have e : max now t = now := by omega
  unfold applyS
  rw [if_neg (by rw [ok_store hs]; simp), if_neg (by omega), if_neg (by rw [hc]; simp), e]
  have : alive now l = l := alive_self hs
  simp only [this]
/-- A client's last call is written over. -/
theorem cli_put {w : World} {B g n c i : Nat} {l : List Cl} (h : ClOwn w B (some ⟨g, 0, none⟩) n c l) (hi : i < l.length) (s t code k : Int) (tx : ByteArray) {Y : Option Addr} {m d : Nat} {list : List ByteArray} (hT : TxSl w Y m d list) :
    ClOwn ((((((w.setCell ⟨g, i * 7 + 1, none⟩ (.int .i64 s)).setCell ⟨g, i * 7 + 2, none⟩ (.int .i64 t)).setCell ⟨g, i * 7 + 3, none⟩ (.int .i64 code)).setCell ⟨g, i * 7 + 4, none⟩ (.string tx)).setCell ⟨g, i * 7 + 5, none⟩ (.int .i64 k)).setCell ⟨g, i * 7 + 6, none⟩ (.slice Y m d)) B (some ⟨g, 0, none⟩) n c (l.set i ⟨l[i].id, s, t, ⟨code, tx, k, list⟩⟩) ∧
    w.grownBy ((((((w.setCell ⟨g, i * 7 + 1, none⟩ (.int .i64 s)).setCell ⟨g, i * 7 + 2, none⟩ (.int .i64 t)).setCell ⟨g, i * 7 + 3, none⟩ (.int .i64 code)).setCell ⟨g, i * 7 + 4, none⟩ (.string tx)).setCell ⟨g, i * 7 + 5, none⟩ (.int .i64 k)).setCell ⟨g, i * 7 + 6, none⟩ (.slice Y m d)) (some g) := by
  obtain ⟨rows, O, E⟩ := h
  have hr : i < rows.length := by have := E.len; omega
  obtain ⟨r, hr1, Y0, m0, d0, hr2, -⟩ := E.at_ hi
  have hrr : rows[i] = r := by rw [List.getElem?_eq_getElem hr] at hr1; injection hr1
  have gr := grown_trans (grown_trans (grown_trans (grown_trans (grown_trans (grown_setRow_cell w g (i * 7 + 1) (.int .i64 s)) (grown_setRow_cell _ g (i * 7 + 2) (.int .i64 t))) (grown_setRow_cell _ g (i * 7 + 3) (.int .i64 code))) (grown_setRow_cell _ g (i * 7 + 4) (.string tx))) (grown_setRow_cell _ g (i * 7 + 5) (.int .i64 k))) (grown_setRow_cell _ g (i * 7 + 6) (.slice Y m d))
  have f := Fr.own O gr
  have s1 := O.store (i := i) (j := 1) (u := .int .i64 s) hr (by omega)
  have s2 := s1.store (i := i) (j := 2) (u := .int .i64 t) (by simpa using hr) (by omega)
  have s3 := s2.store (i := i) (j := 3) (u := .int .i64 code) (by simpa using hr) (by omega)
  have s4 := s3.store (i := i) (j := 4) (u := .string tx) (by simpa using hr) (by omega)
  have s5 := s4.store (i := i) (j := 5) (u := .int .i64 k) (by simpa using hr) (by omega)
  have s6 := s5.store (i := i) (j := 6) (u := .slice Y m d) (by simpa using hr) (by omega)
  simp only [List.getElem_set_self, List.set_set] at s6
  rw [hrr, hr2] at s6
  exact ⟨⟨_, s6, (E.fr f).set i ⟨Y, m, d, rfl, hT.fr f⟩⟩, gr⟩
end Go.Proofs.Ytgmojjclobkpjaa
