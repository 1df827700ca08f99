/- rostrumkeep.OldGoes returns true for every input; client.nothing holds what its initialiser lays. -/
import Derived.Test.YtgpkgegpcgiokaaGreatDoorOldP
import Derived.Test.YtgpkgegpcgiokaaGreatDoorMachS
import Derived.Test.YtgpkgegpcgiokaaGreatDoorLaidN
namespace Go.Proofs.YtgpkgegpcgiokaaGreatDoor
set_option linter.all false
open Go.ChangeShapes Go.WideShapes Go.ChangeAt Go.RowKit
theorem deed_info : (Tryz.prog.info? 26).map (fun i => (i.zero, i.size, i.bytes)) = some (some (.agg #[.int .i64 0, .int .i64 0, .int .i64 0, .int .i64 0, .int .i64 0, .int .i64 0, .int .i64 0, .string ByteArray.empty]), 8, 72) := by kernel_rfl
theorem slice_lenD {H : Type} {enc : TypeId × Value → H} {w : World} {base : Nat} {spare : Nat → Bool} {held : Bool} {d : DataW H} {p : List MemPlace} {P : Program} {t e : TypeId} {A : Option Addr} {n c : Nat} (hu : P.underlying t = some (.slice e)) (h : DataW.Trod enc P w base spare held t (.slice A n c) d p) : n = 0 ∨ ∃ elems rest, d = .slice elems rest ∧ elems.length = n := by
  obtain ⟨fuel, hf⟩ := h
  rcases DataW.trod_slice hu hf with ⟨hv, _⟩ | ⟨a, len, cap, elems, rest, k, _, hv, hx, _, _, _, hl, _⟩
  · simp [Value.cells] at hv
    exact .inl hv.2.1
  · simp [Value.cells] at hv
    injection hx with hx _
    exact .inr ⟨_, _, hx, by rw [List.length_map, hl, hv.2.1]⟩
theorem deed_bytes : Tryz.prog.bytesOf 26 = 72 := by kernel_rfl
theorem deed_reach {H : Type} {enc : TypeId × Value → H} {w : World} {base : Nat} {spare : Nat → Bool} {held : Bool} {d : DataW H} {p : List MemPlace} {A : Option Addr} {n c : Nat} {ts : List TypeId} {ds : List (DataW H)} {j : Nat}
    (h : DataW.Trod enc Tryz.prog w base spare held 22 (.slice A n c) d p) (hsz : (DataW.weightsEach Tryz.prog ts ds).all (· ≤ reachBytes) = true) (ht : ts[j]? = some 22) (hd : ds[j]? = some d) : (n + 4) * 72 ≤ 140737488355328 := by
  rcases slice_lenD Tryz.underlying22 h with h | ⟨elems, rest, rfl, h⟩
  · omega
  · have := sized_slice hsz (j := j) (t := 22) (e := 26) ht hd Tryz.underlying22
    rw [deed_bytes] at this
    simp only [reachBytes] at this
    omega
theorem deed_one : ∀ (l : List DeedD), ∀ r ∈ deedRows l, ∀ u ∈ r, u.oneCell' = true := by
  intro l r hr u hu
  obtain ⟨x, _, rfl⟩ := List.mem_map.1 hr
  have h : u = .int .i64 x.client ∨ u = .int .i64 x.off ∨ u = .int .i64 x.wait ∨ u = .int .i64 x.raw.kind ∨ u = .int .i64 x.raw.key ∨ u = .int .i64 x.raw.field ∨ u = .int .i64 x.raw.n ∨ u = .string x.raw.text := by
    simpa [DeedD.cells] using hu
  rcases h with rfl | rfl | rfl | rfl | rfl | rfl | rfl | rfl <;> rfl
def zd : List Value := [.int .i64 0, .int .i64 0, .int .i64 0, .int .i64 0, .int .i64 0, .int .i64 0, .int .i64 0, .string { data := #[] }]
theorem own_four (w : World) : Own (w.alloc (.cells (zd ++ zd ++ zd ++ zd).toArray 26)) w.heap.size 26 8 (.slice (some ⟨w.heap.size, 0, none⟩) 4 4) [zd, zd, zd, zd] :=
  ⟨⟨by rfl, .inr ⟨w.heap.size, 4, _, rfl, Nat.le_refl _, heap_alloc_new w _, Nat.le_refl _, by simp [maxLen], by rfl, by rfl⟩⟩, by intro r hr; simp only [List.mem_cons, List.not_mem_nil, or_false] at hr; rcases hr with rfl | rfl | rfl | rfl <;> rfl⟩
/-- Is one of the first ones this client? -/
def thereTo (xs : List Cl) (id : Int) (j : Nat) : Bool := (xs.take j).any fun c => c.id == id
theorem there_next {xs : List Cl} {id : Int} {j : Nat} (hj : j < xs.length) : thereTo xs id (j + 1) = (thereTo xs id j || xs[j].id == id) := by
  unfold thereTo
  rw [List.take_succ_eq_append_getElem hj, List.any_append]
  simp
theorem there_all {xs : List Cl} {id : Int} {n : Nat} (hn : xs.length ≤ n) : thereTo xs id n = true ↔ ∃ j, ∃ hj : j < xs.length, xs[j].id = id := by
  unfold thereTo
  rw [List.take_of_length_le hn, List.any_eq_true]
  constructor
  · rintro ⟨c, hc, he⟩
    obtain ⟨j, hj, rfl⟩ := List.mem_iff_getElem.1 hc
    exact ⟨j, hj, by simpa using he⟩
  · rintro ⟨j, hj, he⟩
    exact ⟨xs[j], List.getElem_mem hj, by simpa using he⟩
set_option maxRecDepth 100000 in
set_option maxHeartbeats 16000000 in
theorem oldGoes_walk (A : Option Addr) (n c : Nat) (l : List DeedD) (w : World) (hS : Sl w 8 A n c (deedRows l)) (hd : ∀ d ∈ l, d.ok) (hz : (n + 4) * 72 ≤ 140737488355328) (hN : Noth w) :
    Calls Tryz.prog 7 #[.slice A n c] w fun e w' => e = .returned (.bool true) ∧ Below w.heap.size w w' := by
  have hF := fun A n c w' (h : Sl w' 8 A n c (deedRows (zeroDeed :: zeroDeed :: zeroDeed :: zeroDeed :: l))) hN => Machine_any A n c _ w' h (by
    intro d hd'
    simp only [List.mem_cons] at hd'
    rcases hd' with rfl | rfl | rfl | rfl | hd'
    iterate 4 exact ⟨⟨by decide, by decide⟩, ⟨by decide, by decide⟩, ⟨by decide, by decide⟩, ⟨by decide, by decide⟩, ⟨by decide, by decide⟩, ⟨by decide, by decide⟩, ⟨by decide, by decide⟩, by decide⟩
    exact hd d hd') hN
  have hrows : deedRows (zeroDeed :: zeroDeed :: zeroDeed :: zeroDeed :: l) = [zd, zd, zd, zd] ++ deedRows l := rfl
  rw [hrows] at hF
  have hinv := machOf_inv (zeroDeed :: zeroDeed :: zeroDeed :: zeroDeed :: l)
  have h4 := oldM_four l
  have e0 : oldM l = machOf (zeroDeed :: zeroDeed :: zeroDeed :: zeroDeed :: l) := rfl
  rw [e0] at h4
  have hln := deed_len hS
  have hone := deed_one l
  have hrl : (deedRows l).length = n := by simp [deedRows, hln]
  generalize machOf (zeroDeed :: zeroDeed :: zeroDeed :: zeroDeed :: l) = m at *
  generalize deedRows l = dr at *
  have hok := hinv.ok
  have hDo := fun A1 n1 c1 B1 k1 d1 w' hE hC hN => DoM_any hok zeroCall_ m.now _ (apply_now hok zero_cc) (by have := hok.sto.now0; omega) (by have := hok.sto.now1; omega) A1 B1 n1 c1 k1 d1 w' hE hC hN
  have z0 : doM m zeroCall_ = openM m := doM_open _ _ _
  rw [z0] at hDo
  have hth := fun i (hi : i < m.clis.length) => old_there hinv (by omega) h4 hi
  have hmin := fun j (hj : j < m.clis.length) => oldest_min (l := m.clis) (k := m.clis.length) (Nat.le_refl _) (by omega) hj
  have hol0 := oldest_lt (l := m.clis) (k := m.clis.length) (Nat.le_refl _) (by omega)
  obtain ⟨o, hol, hth', hmin'⟩ : ∃ o, ∃ ho : o < m.clis.length, (∀ i (hi : i < m.clis.length), (∃ j, ∃ hj : j < (openM m).1.clis.length, (openM m).1.clis[j].id = m.clis[i].id) ↔ i ≠ o) ∧ (∀ j (hj : j < m.clis.length), m.clis[o].time ≤ m.clis[j].time ∧ (j < o → m.clis[o].time < m.clis[j].time)) := ⟨_, hol0, hth, hmin⟩
  clear hth hmin hol0
  have hxl := open_len hinv (by omega)
  rw [h4] at hxl
  simp only [if_true] at hxl
  clear z0 e0 hrows hinv hok hd
  generalize openM m = X at *
  obtain ⟨⟨xnow, xents, xnext, xclis⟩, ⟨rc, rt, rn, rl⟩⟩ := X
  obtain ⟨now, ents, next, clis⟩ := m
  simp only at h4 hDo hth' hmin' hol hxl hF
  have hzc : zeroCall_.client = 0 ∧ zeroCall_.seq = 0 ∧ zeroCall_.cmd.kind = 0 ∧ zeroCall_.cmd.key = { data := #[] } ∧ zeroCall_.cmd.field = { data := #[] } ∧ zeroCall_.cmd.text = { data := #[] } ∧ zeroCall_.cmd.n = 0 := ⟨rfl, rfl, rfl, rfl, rfl, rfl, rfl⟩
  obtain ⟨z1, z2, z3, z4, z5, z6, z7⟩ := hzc
  rw [z1, z2, z3, z4, z5, z6, z7] at hDo
  have HF := hide hF; have HDO := hide hDo; have HTH := hide hth'; have HMIN := hide hmin'
  clear hF hDo hth' hmin' z1 z2 z3 z4 z5 z6 z7
  have ho4 : o < 4 := by omega
  go_enter Tryz.func7, Tryz.ntmps7
  go_wp2_with (at_builtin; refine wpList_pushes rfl _ _ _ rfl Tryz.underlying22 deed_info rfl (by decide) (base := w.heap.size) (rows := [zd, zd, zd, zd]) rfl ?ho rfl ?hs hone ?h63 ?hby ?hba ?hk)
  try (case ho => exact own_four w)
  try (case hs => exact hS.al _)
  try (case h63 => first | (simp [maxLen]; omega) | (unfold maxLen; omega))
  try (case hby => first | omega | (simp; omega))
  try (case hba => simp)
  case hk =>
  intro P1 p1 r1 w1 O1 hb1
  have q1 : Below w.heap.size w w1 := below_by
  replace HF := hide (HF.out _ _ _ w1 O1.sl' (hN.bl q1))
  clear O1 hb1 hS hone
  go_wp2_with fail
  refine HF.out.mono ?_
  rintro e w2 ⟨A1, n1, c1, B1, k1, d1, rfl, S1, C1, hb2⟩
  have q : Below w.heap.size w w2 := bstep q1 hb2
  clear hb2 HF q1
  have D1 := Blk.new w2 32 #[.int .i64 (now), .slice A1 n1 c1, .int .i64 (next), .slice B1 k1 d1]; replace S1 := S1.al (.cells #[.int .i64 (now), .slice A1 n1 c1, .int .i64 (next), .slice B1 k1 d1] 32); replace C1 := C1.al (.cells #[.int .i64 (now), .slice A1 n1 c1, .int .i64 (next), .slice B1 k1 d1] 32)
  obtain rfl : k1 = 4 := by have := C1.sl.len; simp only at this; omega
  (try clear cD1 fD1); have cD1 := D1.cell; have fD1 := D1.frozen
  go_wp2_with fail
  refine (HDO.out _ _ _ _ _ _ _ S1 C1 (hN.bl below_by)).mono ?_; rintro e w3 ⟨A2, n2, c2, B2, k2, d2, Y2, m2, o2, rfl, S2, C2, T2, hb2⟩; replace S1 := S1.bl hb2; replace C1 := C1.bl hb2; replace D1 := D1.bl hb2; replace q : Below w.heap.size w w3 := below_by; clear hb2
  have D2 := Blk.new w3 32 #[.int .i64 (xnow), .slice A2 n2 c2, .int .i64 (xnext), .slice B2 k2 d2]; replace S2 := S2.al (.cells #[.int .i64 (xnow), .slice A2 n2 c2, .int .i64 (xnext), .slice B2 k2 d2] 32); replace C2 := C2.al (.cells #[.int .i64 (xnow), .slice A2 n2 c2, .int .i64 (xnext), .slice B2 k2 d2] 32); replace T2 := T2.al (.cells #[.int .i64 (xnow), .slice A2 n2 c2, .int .i64 (xnext), .slice B2 k2 d2] 32); replace S1 := S1.al (.cells #[.int .i64 (xnow), .slice A2 n2 c2, .int .i64 (xnext), .slice B2 k2 d2] 32); replace C1 := C1.al (.cells #[.int .i64 (xnow), .slice A2 n2 c2, .int .i64 (xnext), .slice B2 k2 d2] 32); replace D1 := D1.al (.cells #[.int .i64 (xnow), .slice A2 n2 c2, .int .i64 (xnext), .slice B2 k2 d2] 32); have R2 : Blk ((w3.alloc (.cells #[.int .i64 (xnow), .slice A2 n2 c2, .int .i64 (xnext), .slice B2 k2 d2] 32)).alloc (.cells #[.int .i64 (rc), .string rt, .int .i64 (rn), .slice Y2 m2 o2] 37)) (w3.heap.size + 1) 37 #[.int .i64 (rc), .string rt, .int .i64 (rn), .slice Y2 m2 o2] := Blk.new' _ _ _ (by simp); replace S2 := S2.al (.cells #[.int .i64 (rc), .string rt, .int .i64 (rn), .slice Y2 m2 o2] 37); replace C2 := C2.al (.cells #[.int .i64 (rc), .string rt, .int .i64 (rn), .slice Y2 m2 o2] 37); replace T2 := T2.al (.cells #[.int .i64 (rc), .string rt, .int .i64 (rn), .slice Y2 m2 o2] 37); replace D2 := D2.al (.cells #[.int .i64 (rc), .string rt, .int .i64 (rn), .slice Y2 m2 o2] 37); replace S1 := S1.al (.cells #[.int .i64 (rc), .string rt, .int .i64 (rn), .slice Y2 m2 o2] 37); replace C1 := C1.al (.cells #[.int .i64 (rc), .string rt, .int .i64 (rn), .slice Y2 m2 o2] 37); replace D1 := D1.al (.cells #[.int .i64 (rc), .string rt, .int .i64 (rn), .slice Y2 m2 o2] 37)
  clear HDO cD1 fD1
  have q2 : Below w.heap.size w ((w3.alloc (.cells #[.int .i64 (xnow), .slice A2 n2 c2, .int .i64 (xnext), .slice B2 k2 d2] 32)).alloc (.cells #[.int .i64 (rc), .string rt, .int .i64 (rn), .slice Y2 m2 o2] 37)) := below_by
  clear q T2 S2 R2 S1
  (try clear cD1 fD1); have cD1 := D1.cell; have fD1 := D1.frozen
  go_wp2_with fail
  clear cD1 fD1
  obtain ⟨W, hW⟩ : ∃ W, W = ((w3.alloc (.cells #[.int .i64 (xnow), .slice A2 n2 c2, .int .i64 (xnext), .slice B2 k2 d2] 32)).alloc (.cells #[.int .i64 (rc), .string rt, .int .i64 (rn), .slice Y2 m2 o2] 37)) := ⟨_, rfl⟩
  rw [← hW] at C1 D1 C2 D2 q2 ⊢
  clear hW
  have hk24 : k2 = 4 := by have := C2.sl.len; omega
  subst hk24
  go_loopw [7, 8] (fun s7 s8 wr => ∃ (i : Nat) (gn : Int), i ≤ 4 ∧ s8 = .int .i64 (i : Int) ∧ s7 = .int .i64 gn ∧ Hid (gn = if o < i then (o : Int) else -1) ∧ Below W.heap.size W wr) (fun _ s8 _ => 4 - (intOf s8).toNat)
  case atStart => exact ⟨0, -1, by omega, rfl, rfl, hide (by rw [if_neg (by omega)]), Below.refl _ _⟩
  case round =>
    obtain ⟨i, gn, hi, rfl, rfl, HGN, hbr⟩ := hrel
    have D1r := D1.below' hbr; have D2r := D2.below' hbr
    have hl1 := D1r.lt; have hl2 := D2r.lt
    by_cases hlt : i < 4
    · have hil : i < clis.length := by omega
      obtain ⟨b1, o1, Y1, mm1, dd1, rfl, hbb1, ⟨i0, -, -, -, -, -, -⟩, -⟩ := (C1.bl hbr).sl.at_ hil
      have hall := there_all (xs := xclis) (id := clis[i].id) (n := 4) (by omega)
      rw [HTH.out i hil] at hall
      generalize clis[i].id = id at *
      have HALL := hide hall
      clear hall
      have hz1 : (0 : Int) ≤ (i : Int) := by omega
      have hz2 : (i : Int) < (4 : Int) := by omega
      (try clear cD1r fD1r); have cD1r := D1r.cell; have fD1r := D1r.frozen
      go_wp2_with fail
      clear cD1r fD1r
      go_loopw [9, 10] (fun s9 s10 wq => ∃ j : Nat, j ≤ 4 ∧ s10 = .int .i64 (j : Int) ∧ s9 = .bool (thereTo xclis id j) ∧ Below wr.heap.size wr wq) (fun _ s10 _ => 4 - (intOf s10).toNat)
      case atStart => exact ⟨0, by omega, rfl, by simp [thereTo], Below.refl _ _⟩
      case round =>
        obtain ⟨j, hj, rfl, rfl, hbq⟩ := hrel
        have D1q := D1r.below' hbq; have D2q := D2r.below' hbq
        have hm1 := D1q.lt; have hm2 := D2q.lt
        have hgo : i = o → gn = -1 := fun h => by rw [HGN.out, if_neg (by omega)]
        have hgo2 : i ≠ o → gn = (if o < i + 1 then (o : Int) else -1) := fun h => by
          rw [HGN.out]
          by_cases h1 : o < i
          · rw [if_pos h1, if_pos (by omega)]
          · rw [if_neg h1, if_neg (by omega)]
        have hgo3 : i = o → (i : Int) = (if o < i + 1 then (o : Int) else -1) := fun h => by rw [if_pos (by omega), h]
        have HGO := hide hgo; have HGO2 := hide hgo2; have HGO3 := hide hgo3
        clear hgo hgo2 hgo3
        by_cases hjl : j < 4
        · have hjx : j < xclis.length := by omega
          obtain ⟨b2, o2', Y2', mm2, dd2, rfl, hbb2, ⟨g0, -, -, -, -, -, -⟩, -⟩ := ((C2.bl hbr).bl hbq).sl.at_ hjx
          have hth := there_next (id := id) hjx
          have e0 := (hbq.cell (p := ⟨b1, o1 + i * 7, none⟩) hbb1).trans i0
          generalize thereTo xclis id j = tb at *
          generalize xclis[j].id = xid at *
          have HTB := hide hth
          clear hth
          have hz3 : (0 : Int) ≤ (j : Int) := by omega
          have hz4 : (j : Int) < (4 : Int) := by omega
          (try clear cD2q fD2q); have cD2q := D2q.cell; have fD2q := D2q.frozen
          cases tb
          · go_upto_region 13 with fail
            (try clear cD1q fD1q); have cD1q := D1q.cell; have fD1q := D1q.frozen
            by_cases hxe : xid = id
            · subst hxe
              go_quiet (fail)
              go_wp2_with fail
              go_roundw
              case rel => exact ⟨j + 1, by omega, by go_num, by rw [HTB.out]; simp, below_by⟩
              case measure => simp [intOf]; omega
            · have hxe' : (xid == id) = false := by simpa using hxe
              go_quiet (fail)
              go_wp2_with fail
              go_roundw
              case rel => exact ⟨j + 1, by omega, by go_num, by rw [HTB.out, hxe']; rfl, below_by⟩
              case measure => simp [intOf]; omega
          · go_upto_region 13 with fail
            go_quiet (fail)
            go_wp2_with fail
            go_roundw
            case rel => exact ⟨j + 1, by omega, by go_num, by rw [HTB.out]; rfl, below_by⟩
            case measure => simp [intOf]; omega
        · obtain rfl : j = 4 := by omega
          have qz := bstep hbr hbq
          (try clear cD2q fD2q); have cD2q := D2q.cell; have fD2q := D2q.frozen
          cases htb : thereTo xclis id 4
          · have hio : i = o := Classical.byContradiction fun h => by have := HALL.out.2 h; rw [htb] at this; cases this
            have hg := HGO.out hio
            subst hg
            go_wp2_with fail
            go_roundw
            case rel => exact ⟨i + 1, _, by omega, by go_num, rfl, hide (HGO3.out hio), qz⟩
            case measure => simp [intOf]; omega
          · have hio : i ≠ o := HALL.out.1 htb
            go_wp2_with fail
            go_roundw
            case rel => exact ⟨i + 1, _, by omega, by go_num, rfl, hide (HGO2.out hio), qz⟩
            case measure => simp [intOf]; omega
    · obtain rfl : i = 4 := by omega
      have hgo : gn = (o : Int) := by rw [HGN.out, if_pos ho4]
      subst hgo
      have hon : decide ((o : Int) < 0) = false := by simp
      have qz := bstep q2 hbr
      have C1r := C1.bl hbr
      clear HGN D2r D2 C2 D1 C1 hbr q2 HTH
      (try clear cD1r fD1r); have cD1r := D1r.cell; have fD1r := D1r.frozen
      go_wp2_with fail
      clear cD1r fD1r
      go_loopw [11] (fun s11 wq => ∃ j : Nat, j ≤ 4 ∧ s11 = .int .i64 (j : Int) ∧ Below wr.heap.size wr wq) (fun s11 _ => 4 - (intOf s11).toNat)
      case atStart => exact ⟨0, by omega, rfl, Below.refl _ _⟩
      case round =>
        obtain ⟨j, hj, rfl, hbq⟩ := hrel
        have D1q := D1r.below' hbq
        have hm1 := D1q.lt
        by_cases hjl : j < 4
        · have hjc : j < clis.length := by omega
          obtain ⟨b1, o1, Y1, mm1, dd1, rfl, hbb1, ⟨-, -, i2, -, -, -, -⟩, -⟩ := (C1r.bl hbq).sl.at_ hjc
          obtain ⟨b1', o1', _, _, _, e1, _, ⟨-, -, j2, -, -, -, -⟩, -⟩ := (C1r.bl hbq).sl.at_ hol
          injection e1 with e1
          injection e1 with e1 e2
          subst e1; subst e2
          have hmn := HMIN.out j hjc
          generalize clis[j].time = tj at *
          generalize clis[o].time = to_ at *
          obtain ⟨hm2, hm3⟩ := hmn
          have hz1 : (0 : Int) ≤ (j : Int) := by omega
          have hz2 : (j : Int) < (4 : Int) := by omega
          have hz3 : (0 : Int) ≤ (o : Int) := by omega
          have hz4 : (o : Int) < (4 : Int) := by omega
          have hd1 : decide (tj < to_) = false := by simp; omega
          (try clear cD1q fD1q); have cD1q := D1q.cell; have fD1q := D1q.frozen
          go_upto_region 23 with fail
          by_cases hjo : j < o
          · have hd2 : decide ((j : Int) < (o : Int)) = true := by simp; omega
            have hd2' : decide (j < o) = true := by simp; omega
            have hd3 : (tj == to_) = false := by rw [beq_eq_false_iff_ne]; have := hm3 hjo; omega
            clear hm3
            go_quiet (fail)
            go_wp2_with fail
            go_roundw
            case rel => exact ⟨j + 1, by omega, by go_num, below_by⟩
            case measure => simp [intOf]; omega
          · have hd2 : decide ((j : Int) < (o : Int)) = false := by simp; omega
            have hd2' : decide (j < o) = false := by simp; omega
            clear hm3
            go_quiet (fail)
            go_wp2_with fail
            go_roundw
            case rel => exact ⟨j + 1, by omega, by go_num, below_by⟩
            case measure => simp [intOf]; omega
        · obtain rfl : j = 4 := by omega
          (try clear cD1q fD1q); have cD1q := D1q.cell; have fD1q := D1q.frozen
          go_wp2_with fail
          go_ret
          exact ⟨rfl, bstep qz hbq⟩
set_option maxRecDepth 100000 in
theorem oldGoes_lifted (os : Os) (started : os.Started) (H : Type) (enc : TypeId × Value → H) :
  ReturnsInHanded {} Tryz.checked os 7 .any (fun w args => (Rows.oldGoesSpec.pre enc Tryz.prog Tryz.f7 [] false w args ∧ laidMetH Tryz.prog laidN w) ∧ sizedMet enc Tryz.prog Tryz.f7 (OpenSpec.ofChange Rows.oldGoesSpec) false w args) (Rows.oldGoesSpec.post enc Tryz.prog Tryz.f7 false true false false) := by
  refine returnsInHanded_of_change_and (C := Tryz.checked) (X := fun w _ => laidMetH Tryz.prog laidN w) (fun _ _ _ hh h => h.of_heap hh) Tryz.own started (by kernel_rfl) Tryz.func7 (ChangeSpec.witness_shaped (enc := enc) (C := Tryz.checked) (os := os) (X := fun w _ => laidMetH Tryz.prog laidN w) false (World.doorLaid Tryz.prog 14 os) #[.slice none 0 0] 8 rfl (World.shaped_of_RefB (by kernel_rfl) (by kernel_rfl)) (by kernel_rfl) (by kernel_rfl) (by kernel_rfl) (door_met os _)) ?_
  intro W base args ds gs before hval0 hW hcnd hsz0 hL _
  have hsz : (DataW.weightsEach Tryz.prog (Tryz.f7.params.toList ++ Rows.oldGoesSpec.plain.varTypes Tryz.prog) (ds ++ gs)).all (· ≤ reachBytes) = true := hsz0
  clear hsz0
  have hval : ∀ (j : Nat) t v, Tryz.f7.params[j]? = some t → args[j]? = some v → Value.okWide Tryz.prog W .any base t v := hval0
  have hW' := hW
  obtain ⟨p, q, hA0, hV, rfl, hfz, hnd⟩ := hW
  have hA : DataW.TrodAll enc Tryz.prog W 0 (fun _ => true) true Tryz.f7.params.toList args.toList ds p := hA0
  rw [Tryz.params7] at hA hval hsz
  obtain ⟨rfl, rfl⟩ := trodVars_none hV
  clear hA0 hval0 hcnd hV hfz hnd
  have hN := noth_of_laid hL
  obtain ⟨v0, d0, rfl, rfl, h0⟩ := trodAll_one hA
  obtain ⟨A, n, c, l, rfl, hd, hS⟩ := open_deeds (hval 0 22 v0 rfl rfl) h0
  have hz := deed_reach h0 hsz (j := 0) rfl rfl
  refine (oldGoes_walk A n c l W hS hd hz hN).mono fun e W' ⟨he, hb⟩ => ?_
  subst he
  exact ⟨_, rfl, post_law Tryz.laidOut hW' rfl (by kernel_rfl) rfl Tryz.underlying4 (fun _ => rfl) (fun _ => rfl) (fun _ => rfl) hb⟩
set_option maxRecDepth 100000 in
theorem oldGoes_f1 : (Rows.oldGoesRow.inPlace == Tryz.pinned.checked.prog.inPlace 7) = true := by kernel_rfl
set_option maxRecDepth 100000 in
theorem oldGoes_f2 : (Rows.oldGoesRow.unfollowed == Tryz.pinned.checked.prog.unfollowed 7) = true := by kernel_rfl
set_option maxRecDepth 100000 in
theorem oldGoes_f3 : (Rows.oldGoesRow.recurses == Tryz.pinned.checked.prog.recurses 7) = true := by kernel_rfl
set_option maxRecDepth 100000 in
theorem oldGoes_f4 : (Rows.oldGoesRow.named == Tryz.pinned.checked.prog.varsNamed 7) = true := by kernel_rfl
set_option maxRecDepth 100000 in
theorem oldGoes_facts : joinedFacts Tryz.pinned.checked.prog 7 Tryz.f7 Rows.oldGoesSpec Rows.oldGoesRow = true := by
  unfold joinedFacts
  rw [enterN, show (Rows.oldGoesRow.lifted == Tryz.pinned.checked.prog.liftsFinal) = true from liftsN, laidN1, laidN2, heardN, show (Rows.oldGoesRow.plainKeys == Tryz.pinned.checked.prog.plainKeys) = true from keysN, oldGoes_f1, oldGoes_f2, oldGoes_f3, oldGoes_f4]
  kernel_rfl
theorem oldGoes_row : Rows.OldGoesSaid := OpenClaim.holds_of_wide 7 Tryz.f7 rfl rfl rfl rfl rfl rfl rfl ⟨rfl, rfl, rfl, rfl, rfl⟩ rfl rfl rfl rfl rfl (by kernel_rfl) Tryz.func7 oldGoes_facts
  (of_decide_eq_true (by kernel_rfl)) (by unfold Func.isWrapper; first | (rw [if_pos (by decide +kernel)]; kernel_rfl) | (rw [if_neg (by decide +kernel)]; exact ⟨rfl, rfl⟩))
  (fun os started H enc _ => oldGoes_lifted os started H enc)
set_option maxRecDepth 100000 in
theorem oldGoes_goes : false = Rows.oldGoesRow.goesBy Tryz.pinned.checked.prog := by kernel_rfl
set_option maxRecDepth 100000 in
theorem oldGoes_looks : false = Tryz.pinned.checked.prog.looks [] := by kernel_rfl
set_option maxRecDepth 100000 in
theorem oldGoes_holds : Rows.OldGoesCardSaid :=
  Claim7.holds_tied_plain_at .later [] [.data] true Rows.machineMayCard.stood.harness false
    oldGoes_row (fun _ h => by cases h) (by kernel_rfl) (fun _ h => by cases h) oldGoes_row_tie rfl ⟨rfl, rfl⟩ mainN rfl
    (fun f fn hf hfn => by
      obtain rfl : f = 7 := Option.some.inj ((show Tryz.prog.funcNamed "rostrum/rostrumkeep.OldGoes" = some 7 by kernel_rfl).symm.trans hf) |>.symm
      obtain rfl : fn = Tryz.f7 := (Option.some.inj (Tryz.func7.symm.trans hfn)).symm
      exact ⟨oldGoes_looks, fun j t ht => by
        rw [Tryz.params7] at ht
        have hm := List.mem_of_getElem? (Array.getElem?_toList ▸ ht)
        simp only [List.mem_cons, List.not_mem_nil, or_false] at hm
        rcases hm with rfl <;> exact (show Tryz.prog.wantsStandIn _ = false by kernel_rfl)⟩)
    oldGoes_goes
#print axioms oldGoes_holds
end Go.Proofs.YtgpkgegpcgiokaaGreatDoor
