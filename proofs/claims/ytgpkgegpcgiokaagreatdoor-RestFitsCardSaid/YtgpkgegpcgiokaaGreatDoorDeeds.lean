/- rostrumkeep.items and Log: items of deeds. -/
import Derived.Test.YtgpkgegpcgiokaaGreatDoorLedger3
import Derived.Test.YtgpkgegpcgiokaaGreatDoorCall
namespace Go.Proofs.YtgpkgegpcgiokaaGreatDoor
set_option linter.all false
open Go.RowKit
/-- An item of a deed, at a term and a time. -/
def itemAt (d : DeedD) (t m : Int) : Itm := { itemOf d 0 0 with term := t, time := m }
def itemsGo : Int → Int → List DeedD → List Itm
  | _, _, [] => []
  | t, m, d :: l => itemAt d (t + picked d.off 4 / 3) (m + picked d.wait 3) :: itemsGo (t + picked d.off 4 / 3) (m + picked d.wait 3) l
def itemsOf (l : List DeedD) (term : Int) : List Itm := itemsGo term 0 (l.take 30)
theorem items_step {t0 t m : Int} {l : List DeedD} {done : List Itm} {k : Nat} (hk : k < l.length) (h30 : k < 30) (h : Hid (itemsOf l t0 = done ++ itemsGo t m ((l.take 30).drop k))) :
    Hid (itemsOf l t0 = (done ++ [itemAt l[k] (t + picked l[k].off 4 / 3) (m + picked l[k].wait 3)]) ++ itemsGo (t + picked l[k].off 4 / 3) (m + picked l[k].wait 3) ((l.take 30).drop (k + 1))) := by
  have hk' : k < (l.take 30).length := by rw [List.length_take]; omega
  have := h.out
  rw [List.drop_eq_getElem_cons hk', List.getElem_take] at this
  show itemsOf l t0 = _
  rw [this, itemsGo]
  simp
theorem items_end {t0 t m : Int} {l : List DeedD} {done : List Itm} {k : Nat} (hk : ¬ (k < l.length ∧ k < 30)) (h : Hid (itemsOf l t0 = done ++ itemsGo t m ((l.take 30).drop k))) : itemsOf l t0 = done := by
  have := h.out
  rw [List.drop_eq_nil_of_le (by rw [List.length_take]; omega), itemsGo] at this
  simpa using this
theorem itemRows_snoc (l : List Itm) (x : Itm) : itemRows (l ++ [x]) = itemRows l ++ [x.cells] := by simp [itemRows]
theorem itemRows_length (l : List Itm) : (itemRows l).length = l.length := by simp [itemRows]
set_option maxRecDepth 100000 in
set_option maxHeartbeats 2000000 in
theorem items_any (A : Option Addr) (n c : Nat) (l : List DeedD) (term : Int) (w : World) (hS : Sl w 8 A n c (deedRows l)) (hd : ∀ d ∈ l, d.ok) (ht1 : 0 ≤ term) (ht2 : term ≤ 1099511627776) :
    Calls Tryz.prog 50 #[.slice A n c, .int .i64 term] w fun e w' => ∃ v, e = .returned v ∧ Own w' w.heap.size 68 10 v (itemRows (itemsOf l term)) ∧ Below w.heap.size w w' := by
  have hn := deed_len hS
  subst hn
  have hlm := hS.nc
  have hlm' := hS.cm
  unfold maxLen at hlm'
  have HD := hide hd; clear hd
  go_enter Tryz.func50, Tryz.ntmps50
  go_wp2_with fail
  go_loopw [1, 5, 6, 7] (fun s1 s5 s6 s7 wr => ∃ k : Nat, k ≤ l.length ∧ k ≤ 30 ∧ s7 = .int .i64 k ∧ ∃ (t m : Int) (done : List Itm), s1 = .int .i64 t ∧ s6 = .int .i64 m ∧ Own wr w.heap.size 68 10 s5 (itemRows done) ∧
      Hid (itemsOf l term = done ++ itemsGo t m ((l.take 30).drop k)) ∧ Hid (done.length = k) ∧ 0 ≤ t ∧ t ≤ 1099511627776 + k ∧ 0 ≤ m ∧ m ≤ 2 * k ∧ Below w.heap.size w wr)
    (fun _ _ _ s7 _ => l.length - (intOf s7).toNat)
  case atStart => exact ⟨0, by omega, by omega, rfl, _, _, [], rfl, rfl, Own.nil, rfl, rfl, ht1, by omega, by omega, by omega, below_by⟩
  case round =>
    obtain ⟨k, hk, hk30, rfl, t, m, done, rfl, rfl, hown, HQ, HL, b1, b2, b3, b4, hbr⟩ := hrel
    have hbs := hbr.size
    by_cases hlt : k < l.length ∧ k < 30
    · obtain ⟨hlt, hlt30⟩ := hlt
      obtain ⟨b, off, rfl, hbb, ⟨i0, i1, i2, i3, i4, i5, i6, i7⟩⟩ := (hS.below hbr).deed hlt
      have HQ' := items_step hlt hlt30 HQ
      have hdk : (l[k]).ok := HD.out _ (List.getElem_mem hlt)
      generalize l[k] = d at i0 i1 i2 i3 i4 i5 i6 i7 HQ' hdk
      have hI := fun w => Item_any d hdk 0 0 w ⟨by omega, by omega⟩ ⟨by omega, by omega⟩
      have hat : itemAt d (t + picked d.off 4 / 3) (m + picked d.wait 3) = { itemOf d 0 0 with term := t + picked d.off 4 / 3, time := m + picked d.wait 3 } := rfl
      rw [hat] at HQ'
      clear hat
      generalize itemOf d 0 0 = x at hI HQ'
      obtain ⟨xt, xm, xn, xc, xs, ⟨ck, cy, cf, ct, cn⟩⟩ := x
      simp only [Itm.cells] at hI HQ'
      have HI := hide hI; clear hI
      obtain ⟨⟨_, _⟩, ⟨o1, o2⟩, ⟨w1', w2'⟩, _⟩ := hdk
      have p1 := picked_lo d.off 4 (by omega)
      have p2 := picked_hi d.off 4 (by omega)
      have q1 := picked_lo d.wait 3 (by omega)
      have q2 := picked_hi d.wait 3 (by omega)
      go_wp2_with (first
        | (go_at_call 30; refine (picked_any _ _ _ (by omega) (by omega) (by omega) (by omega)).mono ?_; rintro e w' ⟨rfl, rfl⟩)
        | (go_at_call 98; refine (HI.out _).mono ?_; rintro e w1 ⟨rfl, hb1⟩; obtain ⟨hc1, hf1⟩ := bcell hb1; have hz1 := hb1.size; have hz2 : b < w1.heap.size := (by omega); have hown1 := hown.below hb1)
        | (at_builtin; refine wpList_push rfl _ _ _ rfl Tryz.underlying71 item_info rfl (by decide) (by rfl) (hown1.alloc _) (H := w1.heap.size + 1) (by simp) (by rfl) rfl (item_cells_one ⟨t + picked d.off 4 / 3, m + picked d.wait 3, xn, xc, xs, ⟨ck, cy, cf, ct, cn⟩⟩) ?_ ?_ ?_ ?_))
      · rw [itemRows_length, HL.out]; unfold maxLen; omega
      · rw [itemRows_length, HL.out]; omega
      · simp; omega
      · intro v' w2 hown2 hb2 hz3
        have hown3 : Own w2 w.heap.size 68 10 v' (itemRows (done ++ [⟨t + picked d.off 4 / 3, m + picked d.wait 3, xn, xc, xs, ⟨ck, cy, cf, ct, cn⟩⟩])) := by rw [itemRows_snoc]; exact hown2
        have HL' : Hid ((done ++ [(⟨t + picked d.off 4 / 3, m + picked d.wait 3, xn, xc, xs, ⟨ck, cy, cf, ct, cn⟩⟩ : Itm)]).length = k + 1) := by
          show _ = _
          rw [List.length_append, HL.out]; rfl
        go_wp2_with fail
        go_roundw
        case rel => exact ⟨k + 1, by omega, by omega, by go_num, _, _, _, rfl, rfl, hown3, HQ', HL', by omega, by omega, by omega, by omega, below_by⟩
        case measure => simp [intOf]; omega
    · have HE := hide (items_end hlt HQ)
      by_cases h1 : k < l.length
      · have h30 : k = 30 := by omega
        have h30' : ¬ ((k : Int) < 30) := by omega
        clear h30
        go_wp2_with fail
        go_ret
        exact ⟨_, rfl, by rw [HE.out]; exact hown, below_by⟩
      · go_wp2_with fail
        go_ret
        exact ⟨_, rfl, by rw [HE.out]; exact hown, below_by⟩
def baseOf (base : Int) : Int := picked base 12
def btOf (base : Int) : Int := if (picked base 12 == 0) = true then 0 else 2
def logItems (l : List DeedD) (base : Int) : List Itm := itemsOf l (if (picked base 12 == 0) = true then 1 else 2)
set_option maxHeartbeats 1000000 in
theorem Log_any (A : Option Addr) (n c : Nat) (l : List DeedD) (base : Int) (w : World) (hS : Sl w 8 A n c (deedRows l)) (hd : ∀ d ∈ l, d.ok) (hb : I64 base) :
    Calls Tryz.prog 38 #[.slice A n c, .int .i64 base] w fun e w' => ∃ A' n' c', e = .returned (.agg #[.int .i64 (baseOf base), .int .i64 (btOf base), .slice A' n' c']) ∧ Sl w' 10 A' n' c' (itemRows (logItems l base)) ∧ Below w.heap.size w w' := by
  obtain ⟨b1, b2⟩ := hb
  have HD := hide hd; clear hd
  have hP := fun w => picked_any base 12 w b1 b2 (by omega) (by omega)
  by_cases h0 : (picked base 12 == 0) = true
  · have e1 : baseOf base = 0 := by simpa [baseOf] using h0
    have e2 : btOf base = 0 := by simp [btOf, h0]
    have e3 : logItems l base = itemsOf l 1 := by simp [logItems, h0]
    rw [e1, e2, e3]
    clear e1 e2 e3
    have HP := hide hP; clear hP
    go_enter Tryz.func38, Tryz.ntmps38
    go_wp2_with (refine (HP.out _).mono ?_; rintro e w' ⟨rfl, rfl⟩)
    refine (items_any A n c l 1 _ (hS.alloc _) HD.out (by omega) (by omega)).mono ?_
    rintro e w1 ⟨v, rfl, hown, hb1⟩
    obtain ⟨A', c', rfl, hsl⟩ := hown.sl
    obtain ⟨hc1, hf1⟩ := bcell hb1
    have hz := hb1.size
    simp at hz
    have hz' : w.heap.size < w1.heap.size := by omega
    go_wp2_with fail
    refine bodyPost_ret (v := .agg #[.int .i64 0, .int .i64 0, .slice A' (itemRows (itemsOf l 1)).length c']) ?_ rfl ⟨A', _, c', rfl, (((hown.setCell (by simp) _).setCell (by simp) _).setCell (by simp) _).sl', below_by⟩
    simp [results, Tryz.results38, go_sem, *]
  · have h0 : (picked base 12 == 0) = false := by simpa using h0
    have e1 : baseOf base = picked base 12 := rfl
    have e2 : btOf base = 2 := by simp [btOf, h0]
    have e3 : logItems l base = itemsOf l 2 := by simp [logItems, h0]
    rw [e1, e2, e3]
    clear e1 e2 e3
    have HP := hide hP; clear hP
    go_enter Tryz.func38, Tryz.ntmps38
    go_wp2_with (refine (HP.out _).mono ?_; rintro e w' ⟨rfl, rfl⟩)
    refine (items_any A n c l 2 _ (hS.alloc _) HD.out (by omega) (by omega)).mono ?_
    rintro e w1 ⟨v, rfl, hown, hb1⟩
    obtain ⟨A', c', rfl, hsl⟩ := hown.sl
    obtain ⟨hc1, hf1⟩ := bcell hb1
    have hz := hb1.size
    simp at hz
    have hz' : w.heap.size < w1.heap.size := by omega
    go_wp2_with fail
    refine bodyPost_ret (v := .agg #[.int .i64 (picked base 12), .int .i64 2, .slice A' (itemRows (itemsOf l 2)).length c']) ?_ rfl ⟨A', _, c', rfl, (((hown.setCell (by simp) _).setCell (by simp) _).setCell (by simp) _).sl', below_by⟩
    simp [results, Tryz.results38, go_sem, *]
end Go.Proofs.YtgpkgegpcgiokaaGreatDoor
