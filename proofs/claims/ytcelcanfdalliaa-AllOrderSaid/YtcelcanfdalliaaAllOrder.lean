/- rostrumkeep.AllOrder returns true for every input and leaves its arguments as they were; no condition. -/
import Derived.Test.YtcelcanfdalliaaValLaw
import Derived.Test.YtcelcanfdalliaaDonQ
import Derived.Test.YtcelcanfdalliaaQuiet
namespace Go.Proofs.Ytcelcanfdalliaa
set_option linter.all false
open Go.ChangeShapes Go.WideShapes Go.ChangeAt Go.RowKit
/-- What All tells, by the value's kind. -/
theorem all_told {V : Va} (h : Good V) (h3 : 3 ≤ V.kind) :
    (V.kind = 3 ∧ allOf V = V.pairs.map (·.field) ∧ (allOf V).Pairwise Ri) ∨ (V.kind = 4 ∧ allOf V = V.items) ∨ (V.kind = 5 ∧ allOf V = V.items ∧ (allOf V).Pairwise Ri) ∨ (V.kind = 6 ∧ allOf V = V.scores.map (·.member)) := by
  have hok := good_ok h
  have h6 := hok.k6
  have hfp := hok.fp; have hfi := hok.fi; have hfs := hok.fs
  by_cases k3 : V.kind = 3
  · have e1 : V.items = [] := by rcases hfi with h | h | h; omega; omega; exact h
    have e2 : V.scores = [] := by rcases hfs with h | h; omega; exact h
    have e : allOf V = V.pairs.map (·.field) := by unfold allOf; rw [e1, e2]; simp
    refine .inl ⟨k3, e, ?_⟩
    rw [e, List.pairwise_map]
    exact hok.rp
  have e0 : V.pairs = [] := by rcases hfp with h | h; exact absurd h k3; exact h
  by_cases k4 : V.kind = 4
  · have e2 : V.scores = [] := by rcases hfs with h | h; omega; exact h
    exact .inr (.inl ⟨k4, by unfold allOf; rw [e0, e2]; simp⟩)
  by_cases k5 : V.kind = 5
  · have e2 : V.scores = [] := by rcases hfs with h | h; omega; exact h
    have e : allOf V = V.items := by unfold allOf; rw [e0, e2]; simp
    exact .inr (.inr (.inl ⟨k5, e, by rw [e]; exact hok.ri k5⟩))
  have e1 : V.items = [] := by rcases hfi with h | h | h; omega; omega; exact h
  exact .inr (.inr (.inr ⟨by omega, by unfold allOf; rw [e0, e1]; simp⟩))
theorem ri_next {l : List ByteArray} (h : l.Pairwise Ri) {j : Nat} (hj : j + 1 < l.length) : Op.bytesLess l[j].toList l[j + 1].toList = true := by
  rw [List.pairwise_iff_getElem] at h
  have := h j (j + 1) (by omega) hj (by omega)
  rw [cmpB_less]; exact decide_eq_true this
set_option maxRecDepth 100000 in
set_option maxHeartbeats 8000000 in
theorem allOrder_walk (kind : Int) (A : Option Addr) (n c : Nat) (l : List RawD) (w : World) (hS : Sl w 5 A n c (rawRows l)) (hd : ∀ d ∈ l, d.ok) (hk : I64 kind) (hz : (n + 1) * 48 ≤ 140737488355328) :
    Calls Try.prog 18 #[.int .i64 kind, .slice A n c] w fun e w' => e = .returned (.bool true) ∧ Below w.heap.size w w' := by
  have p1 := picked_lo kind 4 (by omega)
  have p2 := picked_hi kind 4 (by omega)
  have hR := fun w => picked_any kind 4 w hk.1 hk.2 (by omega) (by omega)
  generalize picked kind 4 = p at *
  have hF := fun w h => full_any (2 + p) A n c l w h hd ⟨by omega, by omega⟩ hz
  obtain ⟨hG, hGk⟩ := fullOf_good (2 + p) l
  rw [kindV_two p1 p2] at hGk
  generalize fullOf (2 + p) l = V at *
  have c2 : ccOf ⟨18, { data := #[107] }, { data := #[] }, { data := #[] }, 0⟩ = 0 := cc_lit (by omega) (by omega) (by rw [if_neg (by decide)]; rfl) (by rw [if_neg (by decide)]; rfl) (by rw [if_neg (by decide)])
  have hD := fun A1 A2 A3 n1 c1 n2 c2 n3 c3 w h => Do_may V ⟨18, { data := #[107] }, { data := #[] }, { data := #[] }, 0⟩ (.inr hG) A1 A2 A3 n1 c1 n2 c2 n3 c3 w h
  rw [done_all hG (by omega) c2 rfl] at hD
  have hsz := good_size hG (by omega)
  have hs20 := may_sizes (.inr hG)
  have hal := allOf_length V
  rw [← hal] at hsz
  have hso : V.size ≤ 60 := by unfold Va.size; omega
  rw [← hal] at hso
  have htold := all_told hG (by omega)
  generalize allOf V = al at *
  obtain ⟨vk, vt, vc, ps, is_, ss⟩ := V
  simp only [emp] at hD
  simp only at htold
  have hw : IntKind.i64.wrap (2 + p) = 2 + p := IntWalk.i64_in _ (by omega)
  have HF := hide hF; have HR := hide hR; have HD := hide hD
  clear hF hR hD hG hGk c2 hd hal hs20
  obtain ⟨sz, hszl⟩ : ∃ sz, sz = al.length := ⟨_, rfl⟩
  rw [← hszl] at hsz hso
  have HSZ := hide hszl
  clear hszl
  have hlen0 : ((sz : Int) == 0) = false := by rw [beq_eq_false_iff_ne]; omega
  rcases htold with ⟨rfl, he, ho⟩ | ⟨rfl, he⟩ | ⟨rfl, he, ho⟩ | ⟨rfl, he⟩
  · go_enter Try.func18, Try.ntmps18
    go_wp2_with fail
    refine (HR.out _).mono ?_
    rintro e w' ⟨rfl, rfl⟩
    go_wp2_with fail
    refine (HF.out _ hS).mono ?_; rintro e w1 ⟨B10, m10, e10, B20, m20, e20, B30, m30, e30, rfl, M0, T0, hb0⟩; skip; have q : Below w.heap.size w w1 := (by repeat (first | (with_reducible exact Below.refl _ _) | (with_reducible assumption) | (with_reducible refine Below.drew ?_) | (with_reducible refine bdrewN ?_ _) | (with_reducible refine balloc ?_ _) | ((with_reducible refine bset ?_ ?_ _); rotate_left; (focus first | exact Nat.le_refl _ | (simp; done) | (simp; omega) | omega)) | (with_reducible refine bstep ?_ (by with_reducible assumption)) | (with_reducible refine Below.trans ?_ (by with_reducible assumption)))); clear hb0 T0
    have D0 := Blk.new w1 29 #[.int .i64 3, .string vt, .int .i64 vc, .slice B10 m10 e10, .slice B20 m20 e20, .slice B30 m30 e30]; replace M0 := M0.al (.cells #[.int .i64 3, .string vt, .int .i64 vc, .slice B10 m10 e10, .slice B20 m20 e20, .slice B30 m30 e30] 29)
    (try clear cD0 fD0); have cD0 := D0.cell; have fD0 := D0.frozen
    go_wp2_with fail
    refine (HD.out _ _ _ _ _ _ _ _ _ _ M0).mono ?_; rintro e w2 ⟨B11, m11, e11, B21, m21, e21, B31, m31, e31, B41, m41, e41, rfl, M1, L1, T1, hb1⟩; replace D0 := D0.bl hb1; replace M0 := M0.bl hb1; replace q : Below w.heap.size w w2 := (by repeat (first | (with_reducible exact Below.refl _ _) | (with_reducible assumption) | (with_reducible refine Below.drew ?_) | (with_reducible refine bdrewN ?_ _) | (with_reducible refine balloc ?_ _) | ((with_reducible refine bset ?_ ?_ _); rotate_left; (focus first | exact Nat.le_refl _ | (simp; done) | (simp; omega) | omega)) | (with_reducible refine bstep ?_ (by with_reducible assumption)) | (with_reducible refine Below.trans ?_ (by with_reducible assumption)))); clear hb1
    have D1 := Blk.new w2 29 #[.int .i64 3, .string vt, .int .i64 vc, .slice B11 m11 e11, .slice B21 m21 e21, .slice B31 m31 e31]; replace M1 := M1.al (.cells #[.int .i64 3, .string vt, .int .i64 vc, .slice B11 m11 e11, .slice B21 m21 e21, .slice B31 m31 e31] 29); replace L1 := L1.al (.cells #[.int .i64 3, .string vt, .int .i64 vc, .slice B11 m11 e11, .slice B21 m21 e21, .slice B31 m31 e31] 29); replace D0 := D0.al (.cells #[.int .i64 3, .string vt, .int .i64 vc, .slice B11 m11 e11, .slice B21 m21 e21, .slice B31 m31 e31] 29); replace M0 := M0.al (.cells #[.int .i64 3, .string vt, .int .i64 vc, .slice B11 m11 e11, .slice B21 m21 e21, .slice B31 m31 e31] 29); have R1 : Blk ((w2.alloc (.cells #[.int .i64 3, .string vt, .int .i64 vc, .slice B11 m11 e11, .slice B21 m21 e21, .slice B31 m31 e31] 29)).alloc (.cells #[.int .i64 0, .string { data := #[] }, .int .i64 0, .slice B41 m41 e41] 37)) (w2.heap.size + 1) 37 #[.int .i64 0, .string { data := #[] }, .int .i64 0, .slice B41 m41 e41] := Blk.new' _ _ _ (by simp); replace M1 := M1.al (.cells #[.int .i64 0, .string { data := #[] }, .int .i64 0, .slice B41 m41 e41] 37); replace L1 := L1.al (.cells #[.int .i64 0, .string { data := #[] }, .int .i64 0, .slice B41 m41 e41] 37); replace D1 := D1.al (.cells #[.int .i64 0, .string { data := #[] }, .int .i64 0, .slice B41 m41 e41] 37); replace D0 := D0.al (.cells #[.int .i64 0, .string { data := #[] }, .int .i64 0, .slice B41 m41 e41] 37); replace M0 := M0.al (.cells #[.int .i64 0, .string { data := #[] }, .int .i64 0, .slice B41 m41 e41] 37)
    clear cD0 fD0 D1 M1 T1
    have hm : m41 = sz := by have := L1.len; rw [HSZ.out]; simpa [strRows] using this.symm
    subst hm
    (try clear cR1 fR1); have cR1 := R1.cell; have fR1 := R1.frozen
    go_wp2_with fail
    generalize hW : (w2.alloc (.cells #[.int .i64 3, .string vt, .int .i64 vc, .slice B11 m11 e11, .slice B21 m21 e21, .slice B31 m31 e31] 29)).alloc (.cells #[.int .i64 0, .string { data := #[] }, .int .i64 0, .slice B41 m41 e41] 37) = W at *
    have qW : Below w.heap.size w W := by rw [← hW]; exact (by repeat (first | (with_reducible exact Below.refl _ _) | (with_reducible assumption) | (with_reducible refine Below.drew ?_) | (with_reducible refine bdrewN ?_ _) | (with_reducible refine balloc ?_ _) | ((with_reducible refine bset ?_ ?_ _); rotate_left; (focus first | exact Nat.le_refl _ | (simp; done) | (simp; omega) | omega)) | (with_reducible refine bstep ?_ (by with_reducible assumption)) | (with_reducible refine Below.trans ?_ (by with_reducible assumption))))
    clear hW q cR1 fR1
    generalize w2.heap.size = g2 at *
    go_loopw [9] (fun s9 wr => ∃ i : Nat, i ≤ m41 ∧ s9 = .int .i64 i ∧ Below W.heap.size W wr) (fun s9 _ => m41 - (intOf s9).toNat)
    case atStart => exact ⟨0, by omega, rfl, Below.refl _ _⟩
    case round =>
      obtain ⟨i, hi, rfl, hbr⟩ := hrel
      have Dr := D0.bl hbr; have Mr := M0.bl hbr; have Rr := R1.bl hbr; have Lr := L1.bl hbr
      by_cases hlt : i < m41
      · have hlt' : (i : Int) < (m41 : Int) := by omega
        have hi0 : (0 : Int) ≤ (i : Int) := by omega
        have hlp : i < ps.length := by have := HSZ.out; rw [he] at this; simp at this; omega
        have hla : i < al.length := by have := HSZ.out; omega
        have hx : ps[i].field = al[i]'hla := by simp [he]
        obtain ⟨b, off, rfl, hbb, ⟨i0, i1⟩⟩ := Mr.p.seg.pair (k := i) hlp
        clear i1
        rw [hx] at i0
        have hii : (i : Int) < ((m10 : Nat) : Int) := by have hh := Mr.n1_; simp only at hh; omega
        obtain ⟨bl, ol, rfl, hbl, l0⟩ := Lr.seg.str (i := i) hla
        clear hx
        cases i with
        | zero =>
          generalize al[0] = x at i0 l0
          simp only [Nat.zero_mul, Nat.add_zero] at i0 l0
          (try clear cDr fDr); have cDr := Dr.cell; have fDr := Dr.frozen; (try clear cRr fRr); have cRr := Rr.cell; have fRr := Rr.frozen
          go_wp2_with fail
          go_quiet (fail)
          go_wp2_with fail
          go_roundw
          case rel => exact ⟨1, by omega, by go_num, (by repeat (first | (with_reducible exact Below.refl _ _) | (with_reducible assumption) | (with_reducible refine Below.drew ?_) | (with_reducible refine bdrewN ?_ _) | (with_reducible refine balloc ?_ _) | ((with_reducible refine bset ?_ ?_ _); rotate_left; (focus first | exact Nat.le_refl _ | (simp; done) | (simp; omega) | omega)) | (with_reducible refine bstep ?_ (by with_reducible assumption)) | (with_reducible refine Below.trans ?_ (by with_reducible assumption))))⟩
          case measure => simp [intOf]; omega
        | succ j =>
          have hlj : j < al.length := by omega
          have hoj := ri_next ho (j := j) hla
          obtain ⟨bl', ol', hb', -, l1⟩ := Lr.seg.str (i := j) hlj
          injection hb' with hb'
          injection hb' with hb1 hb2
          subst hb1; subst hb2
          generalize al[j + 1] = x at i0 l0 hoj
          generalize al[j] = y at l1 hoj
          have hw1 : IntKind.i64.wrap ((j : Int) + 1 - 1) = (j : Int) := by rw [IntWalk.i64_in _ (by omega)]; omega
          have hw2 : IntKind.i64.wrap (j : Int) = (j : Int) := IntWalk.i64_in _ (by omega)
          have hz0 : (0 : Int) ≤ (j : Int) := by omega
          have hz1 : (j : Int) < (m41 : Int) := by omega
          have hz2 : (0 : Int) < (j : Int) + 1 := by omega
          (try clear cDr fDr); have cDr := Dr.cell; have fDr := Dr.frozen; (try clear cRr fRr); have cRr := Rr.cell; have fRr := Rr.frozen
          go_wp2_with fail
          go_quiet (fail)
          go_wp2_with fail
          go_roundw
          case rel => exact ⟨j + 1 + 1, by omega, by go_num, (by repeat (first | (with_reducible exact Below.refl _ _) | (with_reducible assumption) | (with_reducible refine Below.drew ?_) | (with_reducible refine bdrewN ?_ _) | (with_reducible refine balloc ?_ _) | ((with_reducible refine bset ?_ ?_ _); rotate_left; (focus first | exact Nat.le_refl _ | (simp; done) | (simp; omega) | omega)) | (with_reducible refine bstep ?_ (by with_reducible assumption)) | (with_reducible refine Below.trans ?_ (by with_reducible assumption))))⟩
          case measure => simp [intOf]; omega
      · obtain rfl : i = m41 := by omega
        have hge : ¬ (i : Int) < (i : Int) := by omega
        (try clear cRr fRr); have cRr := Rr.cell; have fRr := Rr.frozen
        go_wp2_with fail
        go_ret
        exact ⟨rfl, bstep qW hbr⟩
  · go_enter Try.func18, Try.ntmps18
    go_wp2_with fail
    refine (HR.out _).mono ?_
    rintro e w' ⟨rfl, rfl⟩
    go_wp2_with fail
    refine (HF.out _ hS).mono ?_; rintro e w1 ⟨B10, m10, e10, B20, m20, e20, B30, m30, e30, rfl, M0, T0, hb0⟩; skip; have q : Below w.heap.size w w1 := (by repeat (first | (with_reducible exact Below.refl _ _) | (with_reducible assumption) | (with_reducible refine Below.drew ?_) | (with_reducible refine bdrewN ?_ _) | (with_reducible refine balloc ?_ _) | ((with_reducible refine bset ?_ ?_ _); rotate_left; (focus first | exact Nat.le_refl _ | (simp; done) | (simp; omega) | omega)) | (with_reducible refine bstep ?_ (by with_reducible assumption)) | (with_reducible refine Below.trans ?_ (by with_reducible assumption)))); clear hb0 T0
    have D0 := Blk.new w1 29 #[.int .i64 4, .string vt, .int .i64 vc, .slice B10 m10 e10, .slice B20 m20 e20, .slice B30 m30 e30]; replace M0 := M0.al (.cells #[.int .i64 4, .string vt, .int .i64 vc, .slice B10 m10 e10, .slice B20 m20 e20, .slice B30 m30 e30] 29)
    (try clear cD0 fD0); have cD0 := D0.cell; have fD0 := D0.frozen
    go_wp2_with fail
    refine (HD.out _ _ _ _ _ _ _ _ _ _ M0).mono ?_; rintro e w2 ⟨B11, m11, e11, B21, m21, e21, B31, m31, e31, B41, m41, e41, rfl, M1, L1, T1, hb1⟩; replace D0 := D0.bl hb1; replace M0 := M0.bl hb1; replace q : Below w.heap.size w w2 := (by repeat (first | (with_reducible exact Below.refl _ _) | (with_reducible assumption) | (with_reducible refine Below.drew ?_) | (with_reducible refine bdrewN ?_ _) | (with_reducible refine balloc ?_ _) | ((with_reducible refine bset ?_ ?_ _); rotate_left; (focus first | exact Nat.le_refl _ | (simp; done) | (simp; omega) | omega)) | (with_reducible refine bstep ?_ (by with_reducible assumption)) | (with_reducible refine Below.trans ?_ (by with_reducible assumption)))); clear hb1
    have D1 := Blk.new w2 29 #[.int .i64 4, .string vt, .int .i64 vc, .slice B11 m11 e11, .slice B21 m21 e21, .slice B31 m31 e31]; replace M1 := M1.al (.cells #[.int .i64 4, .string vt, .int .i64 vc, .slice B11 m11 e11, .slice B21 m21 e21, .slice B31 m31 e31] 29); replace L1 := L1.al (.cells #[.int .i64 4, .string vt, .int .i64 vc, .slice B11 m11 e11, .slice B21 m21 e21, .slice B31 m31 e31] 29); replace D0 := D0.al (.cells #[.int .i64 4, .string vt, .int .i64 vc, .slice B11 m11 e11, .slice B21 m21 e21, .slice B31 m31 e31] 29); replace M0 := M0.al (.cells #[.int .i64 4, .string vt, .int .i64 vc, .slice B11 m11 e11, .slice B21 m21 e21, .slice B31 m31 e31] 29); have R1 : Blk ((w2.alloc (.cells #[.int .i64 4, .string vt, .int .i64 vc, .slice B11 m11 e11, .slice B21 m21 e21, .slice B31 m31 e31] 29)).alloc (.cells #[.int .i64 0, .string { data := #[] }, .int .i64 0, .slice B41 m41 e41] 37)) (w2.heap.size + 1) 37 #[.int .i64 0, .string { data := #[] }, .int .i64 0, .slice B41 m41 e41] := Blk.new' _ _ _ (by simp); replace M1 := M1.al (.cells #[.int .i64 0, .string { data := #[] }, .int .i64 0, .slice B41 m41 e41] 37); replace L1 := L1.al (.cells #[.int .i64 0, .string { data := #[] }, .int .i64 0, .slice B41 m41 e41] 37); replace D1 := D1.al (.cells #[.int .i64 0, .string { data := #[] }, .int .i64 0, .slice B41 m41 e41] 37); replace D0 := D0.al (.cells #[.int .i64 0, .string { data := #[] }, .int .i64 0, .slice B41 m41 e41] 37); replace M0 := M0.al (.cells #[.int .i64 0, .string { data := #[] }, .int .i64 0, .slice B41 m41 e41] 37)
    clear cD0 fD0 D1 M1 T1
    have hm : m41 = sz := by have := L1.len; rw [HSZ.out]; simpa [strRows] using this.symm
    subst hm
    (try clear cR1 fR1); have cR1 := R1.cell; have fR1 := R1.frozen
    go_wp2_with fail
    generalize hW : (w2.alloc (.cells #[.int .i64 4, .string vt, .int .i64 vc, .slice B11 m11 e11, .slice B21 m21 e21, .slice B31 m31 e31] 29)).alloc (.cells #[.int .i64 0, .string { data := #[] }, .int .i64 0, .slice B41 m41 e41] 37) = W at *
    have qW : Below w.heap.size w W := by rw [← hW]; exact (by repeat (first | (with_reducible exact Below.refl _ _) | (with_reducible assumption) | (with_reducible refine Below.drew ?_) | (with_reducible refine bdrewN ?_ _) | (with_reducible refine balloc ?_ _) | ((with_reducible refine bset ?_ ?_ _); rotate_left; (focus first | exact Nat.le_refl _ | (simp; done) | (simp; omega) | omega)) | (with_reducible refine bstep ?_ (by with_reducible assumption)) | (with_reducible refine Below.trans ?_ (by with_reducible assumption))))
    clear hW q cR1 fR1
    generalize w2.heap.size = g2 at *
    go_loopw [9] (fun s9 wr => ∃ i : Nat, i ≤ m41 ∧ s9 = .int .i64 i ∧ Below W.heap.size W wr) (fun s9 _ => m41 - (intOf s9).toNat)
    case atStart => exact ⟨0, by omega, rfl, Below.refl _ _⟩
    case round =>
      obtain ⟨i, hi, rfl, hbr⟩ := hrel
      have Dr := D0.bl hbr; have Mr := M0.bl hbr; have Rr := R1.bl hbr; have Lr := L1.bl hbr
      by_cases hlt : i < m41
      · have hlt' : (i : Int) < (m41 : Int) := by omega
        have hi0 : (0 : Int) ≤ (i : Int) := by omega
        have hlp : i < is_.length := by have := HSZ.out; rw [he] at this; omega
        have hla : i < al.length := by have := HSZ.out; omega
        have hx : is_[i] = al[i]'hla := by simp [he]
        obtain ⟨b, off, rfl, hbb, i0⟩ := Mr.i.seg.str (i := i) hlp
        rw [hx] at i0
        have hii : (i : Int) < ((m20 : Nat) : Int) := by have hh := Mr.n2_; simp only at hh; omega
        obtain ⟨bl, ol, rfl, hbl, l0⟩ := Lr.seg.str (i := i) hla
        generalize al[i]'hla = x at i0 l0
        clear hx
        (try clear cDr fDr); have cDr := Dr.cell; have fDr := Dr.frozen; (try clear cRr fRr); have cRr := Rr.cell; have fRr := Rr.frozen
        go_wp2_with fail
        go_quiet (fail)
        go_wp2_with fail
        go_roundw
        case rel => exact ⟨i + 1, by omega, by go_num, (by repeat (first | (with_reducible exact Below.refl _ _) | (with_reducible assumption) | (with_reducible refine Below.drew ?_) | (with_reducible refine bdrewN ?_ _) | (with_reducible refine balloc ?_ _) | ((with_reducible refine bset ?_ ?_ _); rotate_left; (focus first | exact Nat.le_refl _ | (simp; done) | (simp; omega) | omega)) | (with_reducible refine bstep ?_ (by with_reducible assumption)) | (with_reducible refine Below.trans ?_ (by with_reducible assumption))))⟩
        case measure => simp [intOf]; omega
      · obtain rfl : i = m41 := by omega
        have hge : ¬ (i : Int) < (i : Int) := by omega
        (try clear cRr fRr); have cRr := Rr.cell; have fRr := Rr.frozen
        go_wp2_with fail
        go_ret
        exact ⟨rfl, bstep qW hbr⟩
  · go_enter Try.func18, Try.ntmps18
    go_wp2_with fail
    refine (HR.out _).mono ?_
    rintro e w' ⟨rfl, rfl⟩
    go_wp2_with fail
    refine (HF.out _ hS).mono ?_; rintro e w1 ⟨B10, m10, e10, B20, m20, e20, B30, m30, e30, rfl, M0, T0, hb0⟩; skip; have q : Below w.heap.size w w1 := (by repeat (first | (with_reducible exact Below.refl _ _) | (with_reducible assumption) | (with_reducible refine Below.drew ?_) | (with_reducible refine bdrewN ?_ _) | (with_reducible refine balloc ?_ _) | ((with_reducible refine bset ?_ ?_ _); rotate_left; (focus first | exact Nat.le_refl _ | (simp; done) | (simp; omega) | omega)) | (with_reducible refine bstep ?_ (by with_reducible assumption)) | (with_reducible refine Below.trans ?_ (by with_reducible assumption)))); clear hb0 T0
    have D0 := Blk.new w1 29 #[.int .i64 5, .string vt, .int .i64 vc, .slice B10 m10 e10, .slice B20 m20 e20, .slice B30 m30 e30]; replace M0 := M0.al (.cells #[.int .i64 5, .string vt, .int .i64 vc, .slice B10 m10 e10, .slice B20 m20 e20, .slice B30 m30 e30] 29)
    (try clear cD0 fD0); have cD0 := D0.cell; have fD0 := D0.frozen
    go_wp2_with fail
    refine (HD.out _ _ _ _ _ _ _ _ _ _ M0).mono ?_; rintro e w2 ⟨B11, m11, e11, B21, m21, e21, B31, m31, e31, B41, m41, e41, rfl, M1, L1, T1, hb1⟩; replace D0 := D0.bl hb1; replace M0 := M0.bl hb1; replace q : Below w.heap.size w w2 := (by repeat (first | (with_reducible exact Below.refl _ _) | (with_reducible assumption) | (with_reducible refine Below.drew ?_) | (with_reducible refine bdrewN ?_ _) | (with_reducible refine balloc ?_ _) | ((with_reducible refine bset ?_ ?_ _); rotate_left; (focus first | exact Nat.le_refl _ | (simp; done) | (simp; omega) | omega)) | (with_reducible refine bstep ?_ (by with_reducible assumption)) | (with_reducible refine Below.trans ?_ (by with_reducible assumption)))); clear hb1
    have D1 := Blk.new w2 29 #[.int .i64 5, .string vt, .int .i64 vc, .slice B11 m11 e11, .slice B21 m21 e21, .slice B31 m31 e31]; replace M1 := M1.al (.cells #[.int .i64 5, .string vt, .int .i64 vc, .slice B11 m11 e11, .slice B21 m21 e21, .slice B31 m31 e31] 29); replace L1 := L1.al (.cells #[.int .i64 5, .string vt, .int .i64 vc, .slice B11 m11 e11, .slice B21 m21 e21, .slice B31 m31 e31] 29); replace D0 := D0.al (.cells #[.int .i64 5, .string vt, .int .i64 vc, .slice B11 m11 e11, .slice B21 m21 e21, .slice B31 m31 e31] 29); replace M0 := M0.al (.cells #[.int .i64 5, .string vt, .int .i64 vc, .slice B11 m11 e11, .slice B21 m21 e21, .slice B31 m31 e31] 29); have R1 : Blk ((w2.alloc (.cells #[.int .i64 5, .string vt, .int .i64 vc, .slice B11 m11 e11, .slice B21 m21 e21, .slice B31 m31 e31] 29)).alloc (.cells #[.int .i64 0, .string { data := #[] }, .int .i64 0, .slice B41 m41 e41] 37)) (w2.heap.size + 1) 37 #[.int .i64 0, .string { data := #[] }, .int .i64 0, .slice B41 m41 e41] := Blk.new' _ _ _ (by simp); replace M1 := M1.al (.cells #[.int .i64 0, .string { data := #[] }, .int .i64 0, .slice B41 m41 e41] 37); replace L1 := L1.al (.cells #[.int .i64 0, .string { data := #[] }, .int .i64 0, .slice B41 m41 e41] 37); replace D1 := D1.al (.cells #[.int .i64 0, .string { data := #[] }, .int .i64 0, .slice B41 m41 e41] 37); replace D0 := D0.al (.cells #[.int .i64 0, .string { data := #[] }, .int .i64 0, .slice B41 m41 e41] 37); replace M0 := M0.al (.cells #[.int .i64 0, .string { data := #[] }, .int .i64 0, .slice B41 m41 e41] 37)
    clear cD0 fD0 D1 M1 T1
    have hm : m41 = sz := by have := L1.len; rw [HSZ.out]; simpa [strRows] using this.symm
    subst hm
    (try clear cR1 fR1); have cR1 := R1.cell; have fR1 := R1.frozen
    go_wp2_with fail
    generalize hW : (w2.alloc (.cells #[.int .i64 5, .string vt, .int .i64 vc, .slice B11 m11 e11, .slice B21 m21 e21, .slice B31 m31 e31] 29)).alloc (.cells #[.int .i64 0, .string { data := #[] }, .int .i64 0, .slice B41 m41 e41] 37) = W at *
    have qW : Below w.heap.size w W := by rw [← hW]; exact (by repeat (first | (with_reducible exact Below.refl _ _) | (with_reducible assumption) | (with_reducible refine Below.drew ?_) | (with_reducible refine bdrewN ?_ _) | (with_reducible refine balloc ?_ _) | ((with_reducible refine bset ?_ ?_ _); rotate_left; (focus first | exact Nat.le_refl _ | (simp; done) | (simp; omega) | omega)) | (with_reducible refine bstep ?_ (by with_reducible assumption)) | (with_reducible refine Below.trans ?_ (by with_reducible assumption))))
    clear hW q cR1 fR1
    generalize w2.heap.size = g2 at *
    go_loopw [9] (fun s9 wr => ∃ i : Nat, i ≤ m41 ∧ s9 = .int .i64 i ∧ Below W.heap.size W wr) (fun s9 _ => m41 - (intOf s9).toNat)
    case atStart => exact ⟨0, by omega, rfl, Below.refl _ _⟩
    case round =>
      obtain ⟨i, hi, rfl, hbr⟩ := hrel
      have Dr := D0.bl hbr; have Mr := M0.bl hbr; have Rr := R1.bl hbr; have Lr := L1.bl hbr
      by_cases hlt : i < m41
      · have hlt' : (i : Int) < (m41 : Int) := by omega
        have hi0 : (0 : Int) ≤ (i : Int) := by omega
        have hlp : i < is_.length := by have := HSZ.out; rw [he] at this; omega
        have hla : i < al.length := by have := HSZ.out; omega
        have hx : is_[i] = al[i]'hla := by simp [he]
        obtain ⟨b, off, rfl, hbb, i0⟩ := Mr.i.seg.str (i := i) hlp
        rw [hx] at i0
        have hii : (i : Int) < ((m20 : Nat) : Int) := by have hh := Mr.n2_; simp only at hh; omega
        obtain ⟨bl, ol, rfl, hbl, l0⟩ := Lr.seg.str (i := i) hla
        clear hx
        cases i with
        | zero =>
          generalize al[0] = x at i0 l0
          simp only [Nat.zero_mul, Nat.add_zero] at i0 l0
          (try clear cDr fDr); have cDr := Dr.cell; have fDr := Dr.frozen; (try clear cRr fRr); have cRr := Rr.cell; have fRr := Rr.frozen
          go_wp2_with fail
          go_quiet (fail)
          go_wp2_with fail
          go_roundw
          case rel => exact ⟨1, by omega, by go_num, (by repeat (first | (with_reducible exact Below.refl _ _) | (with_reducible assumption) | (with_reducible refine Below.drew ?_) | (with_reducible refine bdrewN ?_ _) | (with_reducible refine balloc ?_ _) | ((with_reducible refine bset ?_ ?_ _); rotate_left; (focus first | exact Nat.le_refl _ | (simp; done) | (simp; omega) | omega)) | (with_reducible refine bstep ?_ (by with_reducible assumption)) | (with_reducible refine Below.trans ?_ (by with_reducible assumption))))⟩
          case measure => simp [intOf]; omega
        | succ j =>
          have hlj : j < al.length := by omega
          have hoj := ri_next ho (j := j) hla
          obtain ⟨bl', ol', hb', -, l1⟩ := Lr.seg.str (i := j) hlj
          injection hb' with hb'
          injection hb' with hb1 hb2
          subst hb1; subst hb2
          generalize al[j + 1] = x at i0 l0 hoj
          generalize al[j] = y at l1 hoj
          have hw1 : IntKind.i64.wrap ((j : Int) + 1 - 1) = (j : Int) := by rw [IntWalk.i64_in _ (by omega)]; omega
          have hw2 : IntKind.i64.wrap (j : Int) = (j : Int) := IntWalk.i64_in _ (by omega)
          have hz0 : (0 : Int) ≤ (j : Int) := by omega
          have hz1 : (j : Int) < (m41 : Int) := by omega
          have hz2 : (0 : Int) < (j : Int) + 1 := by omega
          (try clear cDr fDr); have cDr := Dr.cell; have fDr := Dr.frozen; (try clear cRr fRr); have cRr := Rr.cell; have fRr := Rr.frozen
          go_wp2_with fail
          go_quiet (fail)
          go_wp2_with fail
          go_roundw
          case rel => exact ⟨j + 1 + 1, by omega, by go_num, (by repeat (first | (with_reducible exact Below.refl _ _) | (with_reducible assumption) | (with_reducible refine Below.drew ?_) | (with_reducible refine bdrewN ?_ _) | (with_reducible refine balloc ?_ _) | ((with_reducible refine bset ?_ ?_ _); rotate_left; (focus first | exact Nat.le_refl _ | (simp; done) | (simp; omega) | omega)) | (with_reducible refine bstep ?_ (by with_reducible assumption)) | (with_reducible refine Below.trans ?_ (by with_reducible assumption))))⟩
          case measure => simp [intOf]; omega
      · obtain rfl : i = m41 := by omega
        have hge : ¬ (i : Int) < (i : Int) := by omega
        (try clear cRr fRr); have cRr := Rr.cell; have fRr := Rr.frozen
        go_wp2_with fail
        go_ret
        exact ⟨rfl, bstep qW hbr⟩
  · go_enter Try.func18, Try.ntmps18
    go_wp2_with fail
    refine (HR.out _).mono ?_
    rintro e w' ⟨rfl, rfl⟩
    go_wp2_with fail
    refine (HF.out _ hS).mono ?_; rintro e w1 ⟨B10, m10, e10, B20, m20, e20, B30, m30, e30, rfl, M0, T0, hb0⟩; skip; have q : Below w.heap.size w w1 := (by repeat (first | (with_reducible exact Below.refl _ _) | (with_reducible assumption) | (with_reducible refine Below.drew ?_) | (with_reducible refine bdrewN ?_ _) | (with_reducible refine balloc ?_ _) | ((with_reducible refine bset ?_ ?_ _); rotate_left; (focus first | exact Nat.le_refl _ | (simp; done) | (simp; omega) | omega)) | (with_reducible refine bstep ?_ (by with_reducible assumption)) | (with_reducible refine Below.trans ?_ (by with_reducible assumption)))); clear hb0 T0
    have D0 := Blk.new w1 29 #[.int .i64 6, .string vt, .int .i64 vc, .slice B10 m10 e10, .slice B20 m20 e20, .slice B30 m30 e30]; replace M0 := M0.al (.cells #[.int .i64 6, .string vt, .int .i64 vc, .slice B10 m10 e10, .slice B20 m20 e20, .slice B30 m30 e30] 29)
    (try clear cD0 fD0); have cD0 := D0.cell; have fD0 := D0.frozen
    go_wp2_with fail
    refine (HD.out _ _ _ _ _ _ _ _ _ _ M0).mono ?_; rintro e w2 ⟨B11, m11, e11, B21, m21, e21, B31, m31, e31, B41, m41, e41, rfl, M1, L1, T1, hb1⟩; replace D0 := D0.bl hb1; replace M0 := M0.bl hb1; replace q : Below w.heap.size w w2 := (by repeat (first | (with_reducible exact Below.refl _ _) | (with_reducible assumption) | (with_reducible refine Below.drew ?_) | (with_reducible refine bdrewN ?_ _) | (with_reducible refine balloc ?_ _) | ((with_reducible refine bset ?_ ?_ _); rotate_left; (focus first | exact Nat.le_refl _ | (simp; done) | (simp; omega) | omega)) | (with_reducible refine bstep ?_ (by with_reducible assumption)) | (with_reducible refine Below.trans ?_ (by with_reducible assumption)))); clear hb1
    have D1 := Blk.new w2 29 #[.int .i64 6, .string vt, .int .i64 vc, .slice B11 m11 e11, .slice B21 m21 e21, .slice B31 m31 e31]; replace M1 := M1.al (.cells #[.int .i64 6, .string vt, .int .i64 vc, .slice B11 m11 e11, .slice B21 m21 e21, .slice B31 m31 e31] 29); replace L1 := L1.al (.cells #[.int .i64 6, .string vt, .int .i64 vc, .slice B11 m11 e11, .slice B21 m21 e21, .slice B31 m31 e31] 29); replace D0 := D0.al (.cells #[.int .i64 6, .string vt, .int .i64 vc, .slice B11 m11 e11, .slice B21 m21 e21, .slice B31 m31 e31] 29); replace M0 := M0.al (.cells #[.int .i64 6, .string vt, .int .i64 vc, .slice B11 m11 e11, .slice B21 m21 e21, .slice B31 m31 e31] 29); have R1 : Blk ((w2.alloc (.cells #[.int .i64 6, .string vt, .int .i64 vc, .slice B11 m11 e11, .slice B21 m21 e21, .slice B31 m31 e31] 29)).alloc (.cells #[.int .i64 0, .string { data := #[] }, .int .i64 0, .slice B41 m41 e41] 37)) (w2.heap.size + 1) 37 #[.int .i64 0, .string { data := #[] }, .int .i64 0, .slice B41 m41 e41] := Blk.new' _ _ _ (by simp); replace M1 := M1.al (.cells #[.int .i64 0, .string { data := #[] }, .int .i64 0, .slice B41 m41 e41] 37); replace L1 := L1.al (.cells #[.int .i64 0, .string { data := #[] }, .int .i64 0, .slice B41 m41 e41] 37); replace D1 := D1.al (.cells #[.int .i64 0, .string { data := #[] }, .int .i64 0, .slice B41 m41 e41] 37); replace D0 := D0.al (.cells #[.int .i64 0, .string { data := #[] }, .int .i64 0, .slice B41 m41 e41] 37); replace M0 := M0.al (.cells #[.int .i64 0, .string { data := #[] }, .int .i64 0, .slice B41 m41 e41] 37)
    clear cD0 fD0 D1 M1 T1
    have hm : m41 = sz := by have := L1.len; rw [HSZ.out]; simpa [strRows] using this.symm
    subst hm
    (try clear cR1 fR1); have cR1 := R1.cell; have fR1 := R1.frozen
    go_wp2_with fail
    generalize hW : (w2.alloc (.cells #[.int .i64 6, .string vt, .int .i64 vc, .slice B11 m11 e11, .slice B21 m21 e21, .slice B31 m31 e31] 29)).alloc (.cells #[.int .i64 0, .string { data := #[] }, .int .i64 0, .slice B41 m41 e41] 37) = W at *
    have qW : Below w.heap.size w W := by rw [← hW]; exact (by repeat (first | (with_reducible exact Below.refl _ _) | (with_reducible assumption) | (with_reducible refine Below.drew ?_) | (with_reducible refine bdrewN ?_ _) | (with_reducible refine balloc ?_ _) | ((with_reducible refine bset ?_ ?_ _); rotate_left; (focus first | exact Nat.le_refl _ | (simp; done) | (simp; omega) | omega)) | (with_reducible refine bstep ?_ (by with_reducible assumption)) | (with_reducible refine Below.trans ?_ (by with_reducible assumption))))
    clear hW q cR1 fR1
    generalize w2.heap.size = g2 at *
    go_loopw [9] (fun s9 wr => ∃ i : Nat, i ≤ m41 ∧ s9 = .int .i64 i ∧ Below W.heap.size W wr) (fun s9 _ => m41 - (intOf s9).toNat)
    case atStart => exact ⟨0, by omega, rfl, Below.refl _ _⟩
    case round =>
      obtain ⟨i, hi, rfl, hbr⟩ := hrel
      have Dr := D0.bl hbr; have Mr := M0.bl hbr; have Rr := R1.bl hbr; have Lr := L1.bl hbr
      by_cases hlt : i < m41
      · have hlt' : (i : Int) < (m41 : Int) := by omega
        have hi0 : (0 : Int) ≤ (i : Int) := by omega
        have hlp : i < ss.length := by have := HSZ.out; rw [he] at this; simp at this; omega
        have hla : i < al.length := by have := HSZ.out; omega
        have hx : ss[i].member = al[i]'hla := by simp [he]
        obtain ⟨b, off, rfl, hbb, ⟨i0, i1⟩⟩ := Mr.s.seg.score (k := i) hlp
        clear i1
        rw [hx] at i0
        have hii : (i : Int) < ((m30 : Nat) : Int) := by have hh := Mr.n3_; simp only at hh; omega
        obtain ⟨bl, ol, rfl, hbl, l0⟩ := Lr.seg.str (i := i) hla
        generalize al[i]'hla = x at i0 l0
        clear hx
        (try clear cDr fDr); have cDr := Dr.cell; have fDr := Dr.frozen; (try clear cRr fRr); have cRr := Rr.cell; have fRr := Rr.frozen
        go_wp2_with fail
        go_quiet (fail)
        go_wp2_with fail
        go_roundw
        case rel => exact ⟨i + 1, by omega, by go_num, (by repeat (first | (with_reducible exact Below.refl _ _) | (with_reducible assumption) | (with_reducible refine Below.drew ?_) | (with_reducible refine bdrewN ?_ _) | (with_reducible refine balloc ?_ _) | ((with_reducible refine bset ?_ ?_ _); rotate_left; (focus first | exact Nat.le_refl _ | (simp; done) | (simp; omega) | omega)) | (with_reducible refine bstep ?_ (by with_reducible assumption)) | (with_reducible refine Below.trans ?_ (by with_reducible assumption))))⟩
        case measure => simp [intOf]; omega
      · obtain rfl : i = m41 := by omega
        have hge : ¬ (i : Int) < (i : Int) := by omega
        (try clear cRr fRr); have cRr := Rr.cell; have fRr := Rr.frozen
        go_wp2_with fail
        go_ret
        exact ⟨rfl, bstep qW hbr⟩
set_option maxRecDepth 100000 in
theorem allOrder_lifted (os : Os) (started : os.Started) (H : Type) (enc : TypeId × Value → H) :
  ReturnsInHanded {} Try.checked os 18 .any (Rows.allOrderSpec.pre6 enc Try.prog Try.f18 Rows.allOrderRow.domain false) (Rows.allOrderSpec.post enc Try.prog Try.f18 false true false false) := by
  refine returnsInHanded_of_change_sized (C := Try.checked) Try.own started (by kernel_rfl) Try.func18 (ChangeSpec.witness6 (enc := enc) (C := Try.checked) false ⟨#[], #[.int .i64 0, .slice none 0 0], []⟩ 8 (by kernel_rfl) (by kernel_rfl) (by kernel_rfl) (by kernel_rfl)) ?_
  intro W base args ds gs before hval0 hW hcnd hsz0 _
  have hsz : (DataW.weightsEach Try.prog (Try.f18.params.toList ++ Rows.allOrderSpec.plain.varTypes Try.prog) (ds ++ gs)).all (· ≤ reachBytes) = true := hsz0
  clear hsz0
  have hval : ∀ (j : Nat) t v, Try.f18.params[j]? = some t → args[j]? = some v → Value.okWide Try.prog W .any base t v := hval0
  have hW' := hW
  obtain ⟨p, q, hA0, hV, rfl, hfz, hnd⟩ := hW
  have hA : DataW.TrodAll enc Try.prog W 0 (fun _ => true) true Try.f18.params.toList args.toList ds p := hA0
  rw [Try.params18] at hA hval hsz
  obtain ⟨rfl, rfl⟩ := trodVars_none hV
  clear hA0 hval0 hcnd hV hfz hnd
  obtain ⟨v0, v1, d0, d1, p0, p1, rfl, rfl, rfl, h0, h1⟩ := trodAll_two hA
  obtain ⟨k, rfl, rfl, rfl, w1⟩ := open_int Try.underlying3 (hval 0 3 v0 rfl rfl) h0
  obtain ⟨A, n, c, l, rfl, hd, hS⟩ := open_raws (hval 1 22 v1 rfl rfl) h1
  refine (allOrder_walk k A n c l W hS hd (i64_bounds w1) (raw_reach (j := 1) h1 hsz rfl rfl)).mono fun e W' ⟨he, hb⟩ => ?_
  subst he
  exact ⟨_, rfl, post_law Try.laidOut hW' rfl (by kernel_rfl) rfl Try.underlying4 (fun _ => rfl) (fun _ => rfl) (fun _ => rfl) hb⟩
theorem allOrder_holds : Rows.AllOrderSaid := OpenClaim.holds_of_wide 18 Try.f18 rfl rfl rfl rfl rfl rfl rfl ⟨rfl, rfl, rfl, rfl, rfl⟩ rfl rfl rfl rfl rfl (by kernel_rfl) Try.func18 (by kernel_rfl)
  (of_decide_eq_true (by kernel_rfl)) (by unfold Func.isWrapper; first | (rw [if_pos (by decide +kernel)]; kernel_rfl) | (rw [if_neg (by decide +kernel)]; exact ⟨rfl, rfl⟩))
  (fun os started H enc _ => allOrder_lifted os started H enc)
#print axioms allOrder_holds
end Go.Proofs.Ytcelcanfdalliaa
