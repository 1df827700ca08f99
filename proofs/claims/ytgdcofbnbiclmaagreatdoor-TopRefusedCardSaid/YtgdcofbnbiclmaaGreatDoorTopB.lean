/- rostrumtop.acts: acts of raw numbers. -/
import Derived.Test.YtgdcofbnbiclmaaGreatDoorTopA
namespace Go.Proofs.YtgdcofbnbiclmaaGreatDoor
set_option linter.all false
open Go.RowKit Go.ChangeShapes Go.WideShapes
def gearAtoms : List Atom := [.int .i64, .int .i64, .int .i64, .int .i64, .int .i64, .int .i64, .int .i64, .str]
theorem fits_gear {l : List Value} (h : Fits gearAtoms l) : ∃ d : GearD, l = d.cells ∧ d.ok := by
  obtain ⟨_, _, rfl, ⟨x, rfl, hx⟩, h_1⟩ := fits_cons h
  obtain ⟨_, _, rfl, ⟨y, rfl, hy⟩, h_2⟩ := fits_cons h_1
  obtain ⟨_, _, rfl, ⟨z, rfl, hz⟩, h_3⟩ := fits_cons h_2
  obtain ⟨⟨a, b, c, d, s⟩, rfl, ha, hb, hc, hd, hs⟩ := fits_raw h_3
  exact ⟨⟨x, y, z, ⟨a, b, c, d, s⟩⟩, rfl, i64_bounds hx, i64_bounds hy, i64_bounds hz, ha, hb, hc, hd, hs⟩
theorem gear_atoms : atoms Tryz.prog 3 62 = some gearAtoms := by kernel_rfl
structure GearAt (w : World) (b o : Nat) (d : GearD) : Prop where
  c0 : w.cell? ⟨b, o, none⟩ = some (.int .i64 d.kind)
  c1 : w.cell? ⟨b, o + 1, none⟩ = some (.int .i64 d.a)
  c2 : w.cell? ⟨b, o + 2, none⟩ = some (.int .i64 d.b)
  c3 : w.cell? ⟨b, o + 3, none⟩ = some (.int .i64 d.raw.kind)
  c4 : w.cell? ⟨b, o + 4, none⟩ = some (.int .i64 d.raw.key)
  c5 : w.cell? ⟨b, o + 5, none⟩ = some (.int .i64 d.raw.field)
  c6 : w.cell? ⟨b, o + 6, none⟩ = some (.int .i64 d.raw.n)
  c7 : w.cell? ⟨b, o + 7, none⟩ = some (.string d.raw.text)
def gearRows (l : List GearD) : List (List Value) := l.map GearD.cells
theorem Sl.gear {w : World} {A : Option Addr} {n c : Nat} {l : List GearD} (h : Sl w 8 A n c (gearRows l)) {k : Nat} (hk : k < l.length) :
    ∃ b off, A = some ⟨b, off, none⟩ ∧ b < w.heap.size ∧ GearAt w b (off + k * 8) l[k] := by
  obtain ⟨b, off, e, hb, hc⟩ := h.seg.at_ (i := k) (by simpa [gearRows] using hk)
  have hc' : ∀ j u, l[k].cells[j]? = some u → w.cell? ⟨b, off + k * 8 + j, none⟩ = some u := by
    intro j u hu
    rw [Nat.add_assoc]
    exact hc j u (by simpa [gearRows] using hu)
  exact ⟨b, off, e, hb, hc' 0 _ rfl, hc' 1 _ rfl, hc' 2 _ rfl, hc' 3 _ rfl, hc' 4 _ rfl, hc' 5 _ rfl, hc' 6 _ rfl, hc' 7 _ rfl⟩
theorem gear_len {w : World} {A : Option Addr} {n c : Nat} {l : List GearD} (h : Sl w 8 A n c (gearRows l)) : l.length = n := by have := h.len; simpa [gearRows] using this
set_option maxRecDepth 100000 in
theorem open_gears {H : Type} {enc : TypeId × Value → H} {w : World} {base : Nat} {spare : Nat → Bool} {held : Bool} {v : Value} {d : DataW H} {p : List MemPlace} {r : Reach} {b0 : Nat} (hv : Value.okWide Tryz.prog w r b0 22 v) (h : DataW.Trod enc Tryz.prog w base spare held 22 v d p) :
    ∃ A n c, ∃ l : List GearD, v = .slice A n c ∧ (∀ x ∈ l, x.ok) ∧ Sl w 8 A n c (gearRows l) := by
  obtain ⟨a0, len, cap, rfl⟩ := okWide_slice Tryz.underlying22 hv
  obtain ⟨fuel, hf⟩ := h
  obtain ⟨A, n, c, rows, he, h3, h4⟩ := seg_of_slice 3 Tryz.underlying22 gear_atoms (by kernel_rfl) (by decide) hf
  obtain ⟨l, rfl, hl⟩ := rows_map fits_gear rows h3
  exact ⟨A, n, c, l, he, hl, h4⟩
theorem act_info : (Tryz.prog.info? 40).map (fun i => (i.zero, i.size, i.bytes)) = some (some (.agg #[.int .i64 0, .int .i64 0, .int .i64 0, .int .i64 0, .int .i64 0, .int .i64 0, .string ByteArray.empty, .string ByteArray.empty, .string ByteArray.empty, .int .i64 0]), 10, 104) := by kernel_rfl
theorem act_cells_one (x : ActD) : ∀ u ∈ x.cells, u.oneCell' = true := List.all_eq_true.1 (show x.cells.all (fun u => u.oneCell') = true from rfl)
theorem actRows_snoc (l : List ActD) (x : ActD) : actRows (l ++ [x]) = actRows l ++ [x.cells] := by simp [actRows]
theorem actRows_length (l : List ActD) : (actRows l).length = l.length := by simp [actRows]
theorem acts_step {l : List GearD} {k most : Nat} (h : k < l.length) : actsOf l k ++ [actOf l[k]] = actsOf l (k + 1) := by
  unfold actsOf; rw [List.take_succ_eq_append_getElem h, List.map_append]; rfl
theorem acts_end {l : List GearD} {k most : Nat} (hk : k ≤ l.length) (hm : k ≤ most) (h : ¬ (k < l.length ∧ k < most)) : actsOf l k = actsOf l most := by
  unfold actsOf
  rcases Nat.lt_or_ge k most with h1 | h1
  · rw [List.take_of_length_le (by omega), List.take_of_length_le (by omega)]
  · rw [show k = most by omega]
theorem acts_len (l : List GearD) (k : Nat) (hk : k ≤ l.length) : (actsOf l k).length = k := by simp [actsOf]; omega
set_option maxRecDepth 100000 in
set_option maxHeartbeats 4000000 in
theorem acts_any (A : Option Addr) (n c : Nat) (l : List GearD) (most : Nat) (hmost : most ≤ 1000) (w : World) (hS : Sl w 8 A n c (gearRows l)) (hd : ∀ d ∈ l, d.ok) :
    Calls Tryz.prog 23 #[.slice A n c, .int .i64 (most : Int)] w fun e w' => ∃ v, e = .returned v ∧ Own w' w.heap.size 40 10 v (actRows (actsOf l most)) ∧ Below w.heap.size w w' := by
  have hn := gear_len hS
  subst hn
  have hlm := hS.nc
  have hlm' := hS.cm
  unfold maxLen at hlm'
  have HD := hide hd; clear hd
  go_enter Tryz.func23, Tryz.ntmps23
  go_wp2_with fail
  go_loopw [5, 6] (fun s5 s6 wr => ∃ k : Nat, k ≤ l.length ∧ k ≤ most ∧ s6 = .int .i64 k ∧ Own wr w.heap.size 40 10 s5 (actRows (actsOf l k)) ∧ Below w.heap.size w wr)
    (fun _ s6 _ => l.length - (intOf s6).toNat)
  case atStart => exact ⟨0, by omega, by omega, rfl, Own.nil, below_by⟩
  case round =>
    obtain ⟨k, hk, hk30, rfl, hown, hbr⟩ := hrel
    have hbs := hbr.size
    by_cases hlt : k < l.length ∧ k < most
    · obtain ⟨hlt, hlt30⟩ := hlt
      have i1 : (k : Int) < (most : Int) := by omega
      obtain ⟨b, off, rfl, hbb, ⟨i0, i1, i2, i3, i4, i5, i6, i7⟩⟩ := (hS.below hbr).gear hlt
      have HQ := hide (acts_step (most := most) hlt)
      have HL := hide (acts_len l k hk)
      have hdk : (l[k]).ok := HD.out _ (List.getElem_mem hlt)
      generalize l[k] = d at i0 i1 i2 i3 i4 i5 i6 i7 HQ hdk
      have hI := fun w => tact_any d hdk w
      generalize actOf d = x at hI HQ
      obtain ⟨xk, xn, xp, xc, xs, ⟨ck, cy, cf, ct, cn⟩⟩ := x
      simp only [actV, ActD.cells] at hI
      have HI := hide hI; clear hI hdk
      go_wp2_with (first
        | (go_at_call 30; refine (HI.out _).mono ?_; rintro e w1 ⟨rfl, hb1⟩; obtain ⟨hc1, hf1⟩ := bcell hb1; have hz1 := hb1.size; have hz2 : b < w1.heap.size := (by omega); have hown1 := hown.below hb1)
        | (at_builtin; refine wpList_push rfl _ _ _ rfl Tryz.underlying24 act_info rfl (by decide) (by rfl) (hown1.alloc _) (H := w1.heap.size + 1) (by simp) (by rfl) rfl (act_cells_one ⟨xk, xn, xp, xc, xs, ⟨ck, cy, cf, ct, cn⟩⟩) ?_ ?_ ?_ ?_))
      · rw [actRows_length, HL.out]; unfold maxLen; omega
      · rw [actRows_length, HL.out]; omega
      · simp; omega
      · intro v' w2 hown2 hb2 hz3
        have hown3 : Own w2 w.heap.size 40 10 v' (actRows (actsOf l (k + 1))) := by rw [← HQ.out, actRows_snoc]; exact hown2
        go_wp2_with fail
        go_roundw
        case rel => exact ⟨k + 1, by omega, by omega, by go_num, hown3, below_by⟩
        case measure => simp [intOf]; omega
    · have HE := hide (acts_end hk hk30 hlt)
      by_cases h1 : k < l.length
      · have h30 : k = most := by omega
        have h30' : ¬ ((k : Int) < (most : Int)) := by omega
        clear h30
        go_wp2_with fail
        go_ret
        exact ⟨_, rfl, by rw [← HE.out]; exact hown, below_by⟩
      · go_wp2_with fail
        go_ret
        exact ⟨_, rfl, by rw [← HE.out]; exact hown, below_by⟩
end Go.Proofs.YtgdcofbnbiclmaaGreatDoor
