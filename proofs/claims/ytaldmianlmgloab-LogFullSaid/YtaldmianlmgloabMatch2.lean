/- ledger.Match walked: what it does with a list of items that may be. -/
import Derived.Test.YtaldmianlmgloabMatch
import Derived.Test.YtaldmianlmgloabStill
namespace Go.Proofs.Ytaldmianlmgloab
set_option linter.all false
open Go.RowKit
theorem Own.drewN' {w : World} {base : Nat} {e : TypeId} {size : Nat} {v : Value} {rows : List (List Value)} (h : Own w base e size v rows) (k : Nat) : Own (w.drewN k) base e size v rows := h
theorem Own.drew' {w : World} {base : Nat} {e : TypeId} {size : Nat} {v : Value} {rows : List (List Value)} (h : Own w base e size v rows) : Own w.drew base e size v rows := h
theorem match_i {base bt : Int} {L : List Itm} {place of : Int} {ms : List Itm} {j : Nat} (hok : checkLog place of ms = 0) (hj : base - place = j) (h0 : 0 < j) (hm : j ≤ ms.length) : matchOf base bt L place of ms = tailOf base bt L 0 base (ms.drop j) := by
  unfold matchOf
  have e : (base - place).toNat = j := by omega
  rw [if_neg (by simp [hok]), if_pos (by omega), e, Nat.min_eq_left hm, if_neg (by omega), show place + (j : Int) = base by omega]
theorem match_ii {base bt : Int} {L : List Itm} {place of : Int} {ms : List Itm} (hok : checkLog place of ms = 0) (hj : place + ms.length < base) : matchOf base bt L place of ms = ⟨some L, true, 0, 0⟩ := by
  unfold matchOf
  rw [if_neg (by simp [hok]), if_pos (by omega), Nat.min_eq_right (by omega), if_pos hj]
theorem match_iii {base bt : Int} {L : List Itm} {place of : Int} {ms : List Itm} (hok : checkLog place of ms = 0) (hj : base ≤ place) (hb : (termOf base bt L place).2 ≠ 0 ∨ (termOf base bt L place).1 ≠ of) : matchOf base bt L place of ms = ⟨some L, false, 0, 0⟩ := by
  unfold matchOf
  rw [if_neg (by simp [hok]), if_neg (by omega), if_pos hb]
theorem match_iv {base bt : Int} {L : List Itm} {place of : Int} {ms : List Itm} {k : Nat} (hok : checkLog place of ms = 0) (hk : place - base = k) (hb : (termOf base bt L place).2 = 0) (hc : (termOf base bt L place).1 = of) : matchOf base bt L place of ms = tailOf base bt L k place ms := by
  unfold matchOf
  rw [if_neg (by simp [hok]), if_neg (by omega), if_neg (by simp [hb, hc]), show (place - base).toNat = k by omega]
theorem termOf_ok {base bt : Int} {L : List Itm} {place : Int} (h : base ≤ place) (hb : (termOf base bt L place).2 = 0) : place - base ≤ L.length := by
  by_cases h1 : (L.length : Int) < place - base
  · rw [termOf_gt (by omega) h1] at hb
    cases hb
  · omega
theorem tail_none {base bt : Int} {L : List Itm} {at_ : Nat} {pl : Int} {ms : List Itm} (h : freshAt (L.drop at_) ms = none) : tailOf base bt L at_ pl ms = ⟨some L, true, 0, 0⟩ := by
  unfold tailOf; rw [h]
theorem tail_ok {base bt : Int} {L : List Itm} {at_ k : Nat} {pl : Int} {ms : List Itm} (h : freshAt (L.drop at_) ms = some k) (hc : checkLog base bt (L.take (at_ + k) ++ ms.drop k) = 0) : tailOf base bt L at_ pl ms = ⟨some (L.take (at_ + k) ++ ms.drop k), true, pl + k + 1, 0⟩ := by
  unfold tailOf; rw [h]; simp only; rw [if_pos hc]
theorem tail_bad {base bt : Int} {L : List Itm} {at_ k : Nat} {pl : Int} {ms : List Itm} (h : freshAt (L.drop at_) ms = some k) (hc : checkLog base bt (L.take (at_ + k) ++ ms.drop k) ≠ 0) : tailOf base bt L at_ pl ms = ⟨none, false, 0, 6⟩ := by
  unfold tailOf; rw [h]; simp only; rw [if_neg hc]
set_option maxRecDepth 100000 in
set_option maxHeartbeats 8000000 in
theorem Match_ok (base bt : Int) (A : Option Addr) (n c : Nat) (L : List Itm) (place of : Int) (B : Option Addr) (m d : Nat) (ms : List Itm) (w : World) (hb1 : I64 base) (hb2 : I64 bt) (hS : Sl w 10 A n c (itemRows L)) (hg : checkLog base bt L = 0)
    (hp : I64 place) (ho : I64 of) (hT : Sl w 10 B m d (itemRows ms)) (hok : checkLog place of ms = 0) :
    Calls Try.prog 14 #[.agg #[.int .i64 base, .int .i64 bt, .slice A n c], .int .i64 place, .int .i64 of, .slice B m d] w (MatchPost base bt (matchOf base bt L place of ms) w) := by
  obtain ⟨g1, g2, g3, g4, g5, g6, g7⟩ := log_good hg
  obtain ⟨k1, k2, k3, k4, k5, k6, k7⟩ := log_good hok
  have hn := rows_len hS
  subst hn
  have hm := rows_len hT
  subst hm
  have hC1 := fun w (h : Sl w 10 A L.length c (itemRows L)) => Check_any base bt A _ c L w hb1 hb2 h
  have hC2 := fun w (h : Sl w 10 B ms.length d (itemRows ms)) => Check_any place of B _ d ms w hp ho h
  rw [hg] at hC1
  rw [hok] at hC2
  have HC1 := hide hC1; have HC2 := hide hC2; have HG := hide hg; have HO := hide hok
  clear hC1 hC2 hg hok g7 k7 g6 k6
  have hlm := hS.nc
  have hlc := hS.cm
  have hmm := hT.nc
  have hmc := hT.cm
  unfold maxLen at hlc hmc
  have hsz0 : (itemRows L).length = L.length := by simp [itemRows]
  go_enter Try.func14, Try.ntmps14
  go_wp2_with fail
  refine (HC1.out _ ((hS.alloc _).alloc _)).mono ?_
  rintro e w1 ⟨rfl, hbb1⟩
  have hz := hbb1.size
  simp at hz
  have hz1 : w.heap.size + 1 < w1.heap.size := by omega
  have A1 := ((Blk.new w 31 #[.int .i64 base, .int .i64 bt, .slice A L.length c]).alloc (.cells #[.int .i64 0, .int .i64 0, .slice none 0 0] 31)).below' hbb1
  have B1 := (Blk.new (w.alloc (.cells #[.int .i64 base, .int .i64 bt, .slice A L.length c] 31)) 31 #[.int .i64 0, .int .i64 0, .slice none 0 0]).below' hbb1
  simp only [World.size_alloc] at B1
  have hS1 := ((hS.alloc (.cells #[.int .i64 base, .int .i64 bt, .slice A L.length c] 31)).alloc (.cells #[.int .i64 0, .int .i64 0, .slice none 0 0] 31)).below hbb1
  have hT1 := ((hT.alloc (.cells #[.int .i64 base, .int .i64 bt, .slice A L.length c] 31)).alloc (.cells #[.int .i64 0, .int .i64 0, .slice none 0 0] 31)).below hbb1
  go_wp2_with fail
  refine (HC2.out _ hT1).mono ?_
  rintro e w2 ⟨rfl, hbb2⟩
  have hS2 := hS1.below hbb2
  have hT2 := hT1.below hbb2
  have A2 := A1.below' hbb2
  have B2 := B1.below' hbb2
  have hz2 : w.heap.size + 1 < w2.heap.size := by have := hbb2.size; omega
  go_wp2_with fail
  go_upto_region 7 with fail
  go_cut [] (fun wx => ∃ A' c', Blk wx w.heap.size 31 #[.int .i64 base, .int .i64 bt, .slice A L.length c] ∧ Blk wx (w.heap.size + 1) 31 #[.int .i64 base, .int .i64 bt, .slice A' L.length c'] ∧
    Own wx (w.heap.size + 2) 29 10 (.slice A' L.length c') (itemRows L) ∧ Below w.heap.size w wx ∧ w.heap.size + 1 < wx.heap.size)
  case first =>
    have ca0 : w2.cell? ⟨w.heap.size, 0, none⟩ = some (.int .i64 base) := A2.cell 0
    have ca1 : w2.cell? ⟨w.heap.size, 1, none⟩ = some (.int .i64 bt) := A2.cell 1
    have ca2 : w2.cell? ⟨w.heap.size, 2, none⟩ = some (.slice A L.length c) := A2.cell 2
    go_region_held3 (fun w' => w'.cell? ⟨w.heap.size, 0, none⟩ = some (.int .i64 base) ∧ w'.cell? ⟨w.heap.size, 1, none⟩ = some (.int .i64 bt) ∧ w'.cell? ⟨w.heap.size, 2, none⟩ = some (.slice A L.length c)) (simp [go_sem, World.cell?_alloc_past, *])
      (first | (go_at_call 30; refine (Clone_item _ _ _ _ _ hS2.drew (item_one _) (by omega)).mono ?_; rintro e w3 ⟨v, rfl, hown, hb3⟩; have A3 := A2.drew.below' hb3; have B3 := B2.drew.below' hb3; have q0 : w3.cell? ⟨w.heap.size, 0, none⟩ = some (.int .i64 base) := A3.cell 0; have q1 : w3.cell? ⟨w.heap.size, 1, none⟩ = some (.int .i64 bt) := A3.cell 1; have q2 : w3.cell? ⟨w.heap.size, 2, none⟩ = some (.slice A L.length c) := A3.cell 2; have qc := B3.cell; have qf := B3.frozen; have hS3 := hS2.drew.below hb3; have hT3 := hT2.drew.below hb3; have hz3 := hb3.size; have hz4 : w.heap.size < w3.heap.size := (by simp at hz3; omega); have hz5 : w.heap.size + 1 < w3.heap.size := (by simp at hz3; omega); have hown3 := ((hown.setCell (p := ⟨w.heap.size + 1, 0, none⟩) (by simpa using hz2) (.int .i64 base)).setCell (p := ⟨w.heap.size + 1, 1, none⟩) (by simpa using hz2) (.int .i64 bt)); have hsl := hown.sl; obtain ⟨A', c', rfl, hx⟩ := hsl; have hown4 := (hown3.setCell (p := ⟨w.heap.size + 1, 2, none⟩) (by simpa using hz2) (.slice A' (itemRows L).length c')).mono (base' := w.heap.size + 2) (show w.heap.size + 2 ≤ w2.heap.size by omega); rw [hsz0] at hown4))
    go_wp2_with fail
    go_meet
    refine ⟨A', c', ?_, ?_, hown4, (by repeat (first | (with_reducible exact Below.refl _ _) | (with_reducible assumption) | (with_reducible refine Below.drew ?_) | (with_reducible refine bdrewN ?_ _) | (with_reducible refine balloc ?_ _) | ((with_reducible refine bset ?_ ?_ _); rotate_left; (focus first | exact Nat.le_refl _ | (simp; done) | (simp; omega) | omega)) | (with_reducible refine bstep ?_ (by with_reducible assumption)) | (with_reducible refine Below.trans ?_ (by with_reducible assumption)))), by simp; omega⟩
    all_goals ((repeat' (first | (with_reducible assumption) | (with_reducible exact Blk.new _ _ _) | ((with_reducible refine Blk.new' _ _ _ ?_); focus (simp; done)) | (with_reducible refine Blk.set' (cs := ?_) ?_ ?_) | (with_reducible refine Blk.alloc ?_ _) | (with_reducible refine Blk.drew ?_) | (with_reducible refine Blk.drewN ?_ _) | (with_reducible refine Blk.below' ?_ (by with_reducible assumption)) | ((with_reducible refine Blk.far ?_ ?_ _); rotate_left; (focus first | (simp; done) | (simp; omega) | omega)))) <;> try rfl)
  case rest =>
    obtain ⟨A', c', A4, B4, hL4, hb4, hz4⟩ := hcut
    have a4 := A4.cell
    have b4 := B4.cell
    have hS4 := hS.below hb4
    have hT4 := hT.below hb4
    go_upto_if 43 with fail
    go_cut [1, 3] (fun s1 s3 wx => ∃ (pl : Int) (at_ : Nat) (ms' : List Itm) (B' : Option Addr) (d' : Nat), s1 = .int .i64 pl ∧ s3 = .slice B' ms'.length d' ∧ pl - base = at_ ∧ at_ ≤ L.length ∧ ms'.length ≤ 200 ∧ pl ≤ 1048576 ∧
      Hid (matchOf base bt L place of ms = tailOf base bt L at_ pl ms') ∧ Sl w 10 B' ms'.length d' (itemRows ms') ∧
      Blk wx (w.heap.size + 1) 31 #[.int .i64 base, .int .i64 bt, .slice A' L.length c'] ∧ Blk wx w.heap.size 31 #[.int .i64 base, .int .i64 bt, .slice A L.length c] ∧
      Own wx (w.heap.size + 2) 29 10 (.slice A' L.length c') (itemRows L) ∧ Below w.heap.size w wx ∧ w.heap.size + 1 < wx.heap.size)
    case first =>
      by_cases hlt : place < base
      · obtain ⟨j, hj⟩ := Int.eq_ofNat_of_zero_le (show 0 ≤ base - place by omega)
        by_cases hjm : j ≤ ms.length
        · have HM := hide (match_i (bt := bt) (L := L) HO.out hj (by omega) hjm)
          have s1 := run_cut Try.underlying23 item_size B ms.length d j hjm
          have hd := hT.drop j hjm d (Nat.le_refl _) hmm
          rw [itemRows_drop] at hd
          have hsum : IntKind.i64.wrap (place + (j : Int)) = base := by rw [IntWalk.i64_in _ (by omega)]; omega
          have hjj : (j : Int) ≤ ms.length := by omega
          by_cases hle : base - place ≤ (ms.length : Int)
          · rw [show base - place = (j : Int) from hj] at hle
            go_wp2_with fail
            go_quiet (fail)
            go_wp2_with fail
            go_meet
            refine ⟨base, 0, ms.drop j, cutA B d j 10, d - j, rfl, by simp, by simp, by omega, by rw [List.length_drop]; omega, by omega, HM, by rw [List.length_drop]; exact hd, B4.drew, A4.drew, hL4, (by repeat (first | (with_reducible exact Below.refl _ _) | (with_reducible assumption) | (with_reducible refine Below.drew ?_) | (with_reducible refine bdrewN ?_ _) | (with_reducible refine balloc ?_ _) | ((with_reducible refine bset ?_ ?_ _); rotate_left; (focus first | exact Nat.le_refl _ | (simp; done) | (simp; omega) | omega)) | (with_reducible refine bstep ?_ (by with_reducible assumption)) | (with_reducible refine Below.trans ?_ (by with_reducible assumption)))), hz4⟩
          · omega
        · have hM := match_ii (base := base) (bt := bt) (L := L) HO.out (by omega : place + (ms.length : Int) < base)
          have s1 := run_cut Try.underlying23 item_size B ms.length d ms.length (Nat.le_refl _)
          have hsum : IntKind.i64.wrap (place + (ms.length : Int)) = place + ms.length := IntWalk.i64_in _ (by omega)
          rw [hM]
          have B4f := B4.frozen
          go_wp2_with fail
          go_quiet (fail)
          go_wp2_with fail
          refine bodyPost_ret (v := .tuple #[.agg #[.int .i64 base, .int .i64 bt, .slice A' L.length c'], .bool true, .int .i64 0, .int .i64 0]) ?_ rfl ⟨(by repeat (first | (with_reducible exact Below.refl _ _) | (with_reducible assumption) | (with_reducible refine Below.drew ?_) | (with_reducible refine bdrewN ?_ _) | (with_reducible refine balloc ?_ _) | ((with_reducible refine bset ?_ ?_ _); rotate_left; (focus first | exact Nat.le_refl _ | (simp; done) | (simp; omega) | omega)) | (with_reducible refine bstep ?_ (by with_reducible assumption)) | (with_reducible refine Below.trans ?_ (by with_reducible assumption)))), A', _, c', rfl, ?_⟩
          · simp [results, Try.results14, go_sem, *]
          · exact ((((Own.drewN' hL4 _).setCell (p := ⟨w.heap.size + 1, 0, none⟩) (by simp) _).setCell (p := ⟨w.heap.size + 1, 1, none⟩) (by simp) _).setCell (p := ⟨w.heap.size + 1, 2, none⟩) (by simp) _).mono (by first | omega | (simp; omega))
      · have hTm := term_any base bt A _ c L place wc (by omega) (by omega) (by omega) hp hS4
        have hiii := fun h => match_iii (L := L) (bt := bt) (base := base) HO.out (by omega) h
        have hiv := fun k hk h1 h2 => match_iv (L := L) (bt := bt) (base := base) (k := k) HO.out hk h1 h2
        have hto := fun h => termOf_ok (L := L) (bt := bt) (base := base) (place := place) (by omega) h
        generalize termOf base bt L place = TT at hTm hiii hiv hto
        obtain ⟨tt, te⟩ := TT
        simp only at hTm hiii hiv hto
        have HTm := hide hTm; have HIII := hide hiii; have HIV := hide hiv; have HTO := hide hto
        clear hTm hiii hiv hto
        go_wp2_with fail
        refine HTm.out.mono ?_
        rintro e w5 ⟨rfl, hb5⟩
        have A5 := A4.below' hb5
        have B5 := B4.below' hb5
        have b5 := B5.cell
        have b5f := B5.frozen
        have hL5 := hL4.below hb5
        have hz5 : w.heap.size + 1 < w5.heap.size := by have := hb5.size; omega
        clear a4 b4
        by_cases he : te = 0
        · by_cases ht : tt = of
          · have := HTO.out he
            obtain ⟨k, hk⟩ := Int.eq_ofNat_of_zero_le (show 0 ≤ place - base by omega)
            have HM := hide (HIV.out k hk he ht)
            subst he; subst ht
            go_wp2_with fail
            go_meet
            refine ⟨place, k, ms, B, d, rfl, rfl, hk, by omega, k4, by omega, HM, hT, B5, A5, hL5, (by repeat (first | (with_reducible exact Below.refl _ _) | (with_reducible assumption) | (with_reducible refine Below.drew ?_) | (with_reducible refine bdrewN ?_ _) | (with_reducible refine balloc ?_ _) | ((with_reducible refine bset ?_ ?_ _); rotate_left; (focus first | exact Nat.le_refl _ | (simp; done) | (simp; omega) | omega)) | (with_reducible refine bstep ?_ (by with_reducible assumption)) | (with_reducible refine Below.trans ?_ (by with_reducible assumption)))), hz5⟩
          · have HN := hide (HIII.out (.inr ht))
            subst he
            go_wp2_with fail
            refine bodyPost_ret (v := .tuple #[.agg #[.int .i64 base, .int .i64 bt, .slice A' L.length c'], .bool false, .int .i64 0, .int .i64 0]) ?_ rfl ?_
            · simp [results, Try.results14, go_sem, *]
            · rw [HN.out]
              refine ⟨(by repeat (first | (with_reducible exact Below.refl _ _) | (with_reducible assumption) | (with_reducible refine Below.drew ?_) | (with_reducible refine bdrewN ?_ _) | (with_reducible refine balloc ?_ _) | ((with_reducible refine bset ?_ ?_ _); rotate_left; (focus first | exact Nat.le_refl _ | (simp; done) | (simp; omega) | omega)) | (with_reducible refine bstep ?_ (by with_reducible assumption)) | (with_reducible refine Below.trans ?_ (by with_reducible assumption)))), A', _, c', rfl, ?_⟩
              exact (((hL5.setCell (p := ⟨w.heap.size + 1, 0, none⟩) (by simp) _).setCell (p := ⟨w.heap.size + 1, 1, none⟩) (by simp) _).setCell (p := ⟨w.heap.size + 1, 2, none⟩) (by simp) _).mono (by first | omega | (simp; omega))
        · have HN := hide (HIII.out (.inl he))
          go_wp2_with fail
          refine bodyPost_ret (v := .tuple #[.agg #[.int .i64 base, .int .i64 bt, .slice A' L.length c'], .bool false, .int .i64 0, .int .i64 0]) ?_ rfl ?_
          · simp [results, Try.results14, go_sem, *]
          · rw [HN.out]
            refine ⟨(by repeat (first | (with_reducible exact Below.refl _ _) | (with_reducible assumption) | (with_reducible refine Below.drew ?_) | (with_reducible refine bdrewN ?_ _) | (with_reducible refine balloc ?_ _) | ((with_reducible refine bset ?_ ?_ _); rotate_left; (focus first | exact Nat.le_refl _ | (simp; done) | (simp; omega) | omega)) | (with_reducible refine bstep ?_ (by with_reducible assumption)) | (with_reducible refine Below.trans ?_ (by with_reducible assumption)))), A', _, c', rfl, ?_⟩
            exact (((hL5.setCell (p := ⟨w.heap.size + 1, 0, none⟩) (by simp) _).setCell (p := ⟨w.heap.size + 1, 1, none⟩) (by simp) _).setCell (p := ⟨w.heap.size + 1, 2, none⟩) (by simp) _).mono (by first | omega | (simp; omega))
    case rest =>
      obtain ⟨pl, at_, ms', B', d', rfl, rfl, hpl, hat, hms, hpl2, HM, hT6, B6, A6, hL6, hb6, hz6⟩ := hcut
      have a6 := A6.cell
      clear a4 b4
      have HCk := fun (L' : List Itm) A n c w (h : Sl w 10 A n c (itemRows L')) => Check_any base bt A n c L' w hb1 hb2 h
      have HCk := hide HCk
      go_wp2_with fail
      go_loopw [82] (fun s82 wr => ∃ k : Nat, k ≤ ms'.length ∧ at_ + k ≤ L.length ∧ s82 = .int .i64 k ∧ Hid (freshAt (L.drop at_) ms' = (freshAt ((L.drop at_).drop k) (ms'.drop k)).map (· + k)) ∧
        Blk wr (w.heap.size + 1) 31 #[.int .i64 base, .int .i64 bt, .slice A' L.length c'] ∧ Own wr (w.heap.size + 2) 29 10 (.slice A' L.length c') (itemRows L) ∧ Below w.heap.size w wr ∧ w.heap.size + 1 < wr.heap.size)
        (fun s82 _ => ms'.length - (intOf s82).toNat)
      case atStart => exact ⟨0, by omega, by omega, rfl, fresh_start _ _, B6, hL6, (by repeat (first | (with_reducible exact Below.refl _ _) | (with_reducible assumption) | (with_reducible refine Below.drew ?_) | (with_reducible refine bdrewN ?_ _) | (with_reducible refine balloc ?_ _) | ((with_reducible refine bset ?_ ?_ _); rotate_left; (focus first | exact Nat.le_refl _ | (simp; done) | (simp; omega) | omega)) | (with_reducible refine bstep ?_ (by with_reducible assumption)) | (with_reducible refine Below.trans ?_ (by with_reducible assumption)))), hz6⟩
      case round =>
        obtain ⟨k, hk, hak, rfl, HF, Br, hLr, hbr, hzr⟩ := hrel
        have br := Br.cell
        have brf := Br.frozen
        by_cases hlt : k < ms'.length
        · obtain ⟨q, hq⟩ : ∃ q, q = at_ + k := ⟨_, rfl⟩
          have hsum : IntKind.i64.wrap ((at_ : Int) + k) = (q : Int) := by rw [IntWalk.i64_in _ (by omega)]; omega
          have hwq : IntKind.i64.wrap (q : Int) = (q : Int) := IntWalk.i64_in _ (by omega)
          have hnn : 0 ≤ (at_ : Int) + k := by omega
          have htn : ((at_ : Int) + k).toNat = q := by omega
          have hTn := hT6.nc
          have hLn := hLr.sl'.nc
          obtain ⟨b1, o1, hB1, hb1', ⟨i0, i1, i2, i3, i4, i5, i6, i7, i8, i9⟩⟩ := (hT6.below hbr).item hlt
          by_cases hin : q < L.length
          · have hin' : (at_ : Int) + k < (L.length : Int) := by omega
            obtain ⟨b2, o2, hA2, hb2', ⟨j0, _⟩⟩ := hLr.sl'.item hin
            by_cases hte : L[q].term = ms'[k].term
            · have HF' := fresh_none_step hlt HF (by rw [List.length_drop]; omega) (by rw [List.getElem_drop]; subst hq; exact hte)
              rw [hte, hq] at j0
              subst hB1; subst hA2
              generalize ms'[k] = x at i0 i1 i2 i3 i4 i5 i6 i7 i8 i9 j0
              go_wp2_with fail
              go_quiet (fail)
              go_wp2_with fail
              go_roundw
              case rel => exact ⟨k + 1, by omega, by omega, by go_num, HF', (Br.alloc _).drewN _, Own.drewN' (hLr.alloc _) _, (by repeat (first | (with_reducible exact Below.refl _ _) | (with_reducible assumption) | (with_reducible refine Below.drew ?_) | (with_reducible refine bdrewN ?_ _) | (with_reducible refine balloc ?_ _) | ((with_reducible refine bset ?_ ?_ _); rotate_left; (focus first | exact Nat.le_refl _ | (simp; done) | (simp; omega) | omega)) | (with_reducible refine bstep ?_ (by with_reducible assumption)) | (with_reducible refine Below.trans ?_ (by with_reducible assumption)))), by simp; omega⟩
              case measure => simp [intOf]; omega
            · have HF' := fresh_stop hlt HF (fun hL => by rw [List.getElem_drop]; subst hq; exact hte)
              have JJ : (L[q].term == ms'[k].term) = false := by simpa using hte
              generalize L[q] = y at j0 JJ
              rw [hq] at j0
              subst hB1; subst hA2
              have hTk := (hT6.below hbr).drop k (by omega) d' (Nat.le_refl _) hTn
              rw [itemRows_drop] at hTk
              have hLk := hLr.sl'.take (at_ + k) (by omega) (at_ + k) (Nat.le_refl _) (by omega)
              rw [itemRows_take] at hLk
              have hLw := fun o n => ((hLk.alloc o).drewN n)
              have hTw := fun o n => ((hTk.alloc o).drewN n)
              have Bw := fun o n => ((Br.alloc o).drewN n)
              have s1 := run_take3 Try.underlying23 item_size (some ⟨b2, o2, none⟩) L.length c' (at_ + k) (at_ + k) (Nat.le_refl _) (by omega)
              rw [show ((at_ + k : Nat) : Int) = (at_ : Int) + k by omega] at s1
              have s2 := run_cut Try.underlying23 item_size (some ⟨b1, o1, none⟩) ms'.length d' k (by omega)
              have HLw := hide hLw; have HTw := hide hTw; have HBw := hide Bw
              clear hLw hTw Bw
              generalize ms'[k] = x at i0 i1 i2 i3 i4 i5 i6 i7 i8 i9 JJ
              go_wp2_with fail
              go_quiet (fail)
              go_wp2_with fail
              refine still_tail 12 (by kernel_rfl) (by kernel_rfl) ?_
              simp only [List.take_succ_cons, List.take_zero, List.drop_succ_cons, List.drop_zero]
              repeat still_step
              try refine wpStill_nil ?_
              refine wpList_grow rfl _ _ _ rfl Try.underlying23 item_info rfl (by decide) (by rfl) hLk.len hLk.row (HLw.out _ nq).seg.drew hLk.n0 (by rfl) hTk.len hTk.row (HTw.out _ nq).seg.drew (item_one _) (by omega) (by omega) (by unfold maxLen; omega) (by omega) ?_
              intro v5 w5 hown5 hb5
              have Br5 := (HBw.out _ nq).drew.below' hb5
              have b5 := Br5.cell
              have b5f := Br5.frozen
              have hz5 : w.heap.size + 1 < w5.heap.size := Br5.lt
              obtain ⟨A5, n5, c5, rfl⟩ : ∃ A n c, v5 = .slice A n c := by obtain ⟨A, c, e, _⟩ := hown5.sl; exact ⟨A, _, c, e⟩
              rw [show itemRows (L.take (at_ + k)) ++ itemRows (ms'.drop k) = itemRows (L.take (at_ + k) ++ ms'.drop k) by simp [itemRows]] at hown5
              have hs5 := (hown5.setCell (p := ⟨w.heap.size + 1, 2, none⟩) (by simp; omega) (.slice A5 n5 c5)).sl'
              have Br6 := Br5.set' (i := 2) (u := .slice A5 n5 c5) (cs' := #[.int .i64 base, .int .i64 bt, .slice A5 n5 c5]) rfl
              have hown6 := (hown5.setCell (p := ⟨w.heap.size + 1, 2, none⟩) (by simp; omega) (.slice A5 n5 c5))
              have h0 := HCk.out (L.take (at_ + k) ++ ms'.drop k)
              have hsum2 : IntKind.i64.wrap (pl + (k : Int)) = pl + k := IntWalk.i64_in _ (by omega)
              have hsum3 : IntKind.i64.wrap (pl + (k : Int) + 1) = pl + k + 1 := IntWalk.i64_in _ (by omega)
              by_cases hc : checkLog base bt (L.take (at_ + k) ++ ms'.drop k) = 0
              · have HT := hide (tail_ok (pl := pl) HF' hc)
                rw [hc] at h0
                have HK := hide h0
                clear h0 hc
                go_wp2_with fail
                refine (HK.out _ _ _ _ hs5).mono ?_
                rintro e w7 ⟨rfl, hb7⟩
                have Br7 := Br6.below' hb7
                have b7 := Br7.cell
                have b7f := Br7.frozen
                have hown7 := hown6.below hb7
                go_wp2_with fail
                refine bodyPost_ret (v := .tuple #[.agg #[.int .i64 base, .int .i64 bt, .slice A5 n5 c5], .bool true, .int .i64 (pl + k + 1), .int .i64 0]) ?_ rfl ?_
                · simp [results, Try.results14, go_sem, *]
                · rw [HM.out, HT.out]
                  refine ⟨(by repeat (first | (with_reducible exact Below.refl _ _) | (with_reducible assumption) | (with_reducible refine Below.drew ?_) | (with_reducible refine bdrewN ?_ _) | (with_reducible refine balloc ?_ _) | ((with_reducible refine bset ?_ ?_ _); rotate_left; (focus first | exact Nat.le_refl _ | (simp; done) | (simp; omega) | omega)) | (with_reducible refine bstep ?_ (by with_reducible assumption)) | (with_reducible refine Below.trans ?_ (by with_reducible assumption)))), A5, n5, c5, rfl, ?_⟩
                  exact (((hown7.setCell (p := ⟨w.heap.size + 1, 0, none⟩) (by simp; omega) _).setCell (p := ⟨w.heap.size + 1, 1, none⟩) (by simp; omega) _).setCell (p := ⟨w.heap.size + 1, 2, none⟩) (by simp; omega) _).mono (by first | omega | (simp; omega))
              · have HT := hide (tail_bad (pl := pl) HF' hc)
                rw [(log_01 _ _ _).resolve_left hc] at h0
                have HK := hide h0
                clear h0 hc
                go_wp2_with fail
                refine (HK.out _ _ _ _ hs5).mono ?_
                rintro e w7 ⟨rfl, hb7⟩
                have Br7 := Br6.below' hb7
                have b7 := Br7.cell
                have b7f := Br7.frozen
                go_wp2_with fail
                refine bodyPost_ret (v := .tuple #[.agg #[.int .i64 0, .int .i64 0, .slice none 0 0], .bool false, .int .i64 0, .int .i64 6]) ?_ rfl ?_
                · simp [results, Try.results14, go_sem, *]
                · rw [HM.out, HT.out]
                  exact ⟨(by repeat (first | (with_reducible exact Below.refl _ _) | (with_reducible assumption) | (with_reducible refine Below.drew ?_) | (with_reducible refine bdrewN ?_ _) | (with_reducible refine balloc ?_ _) | ((with_reducible refine bset ?_ ?_ _); rotate_left; (focus first | exact Nat.le_refl _ | (simp; done) | (simp; omega) | omega)) | (with_reducible refine bstep ?_ (by with_reducible assumption)) | (with_reducible refine Below.trans ?_ (by with_reducible assumption)))), rfl⟩
          · have HF' := fresh_stop hlt HF (fun hL => by rw [List.length_drop] at hL; omega)
            have JJ : ms'[k] = ms'[k] := rfl
            have hin' : ((at_ : Int) + k < (L.length : Int)) = False := by rw [eq_iff_iff]; constructor <;> intro h' <;> first | omega | exact h'.elim
            subst hB1
            have hTk := (hT6.below hbr).drop k (by omega) d' (Nat.le_refl _) hTn
            rw [itemRows_drop] at hTk
            have hLk := hLr.sl'.take (at_ + k) (by omega) (at_ + k) (Nat.le_refl _) (by omega)
            rw [itemRows_take] at hLk
            have hLw := fun o n => ((hLk.alloc o).drewN n)
            have hTw := fun o n => ((hTk.alloc o).drewN n)
            have Bw := fun o n => ((Br.alloc o).drewN n)
            have s1 := run_take3 Try.underlying23 item_size A' L.length c' (at_ + k) (at_ + k) (Nat.le_refl _) (by omega)
            rw [show ((at_ + k : Nat) : Int) = (at_ : Int) + k by omega] at s1
            have s2 := run_cut Try.underlying23 item_size (some ⟨b1, o1, none⟩) ms'.length d' k (by omega)
            have HLw := hide hLw; have HTw := hide hTw; have HBw := hide Bw
            clear hLw hTw Bw
            generalize ms'[k] = x at i0 i1 i2 i3 i4 i5 i6 i7 i8 i9 JJ
            go_wp2_with fail
            go_quiet (fail)
            go_wp2_with fail
            refine still_tail 12 (by kernel_rfl) (by kernel_rfl) ?_
            simp only [List.take_succ_cons, List.take_zero, List.drop_succ_cons, List.drop_zero]
            repeat still_step
            try refine wpStill_nil ?_
            refine wpList_grow rfl _ _ _ rfl Try.underlying23 item_info rfl (by decide) (by rfl) hLk.len hLk.row (HLw.out _ nq).seg.drew hLk.n0 (by rfl) hTk.len hTk.row (HTw.out _ nq).seg.drew (item_one _) (by omega) (by omega) (by unfold maxLen; omega) (by omega) ?_
            intro v5 w5 hown5 hb5
            have Br5 := (HBw.out _ nq).drew.below' hb5
            have b5 := Br5.cell
            have b5f := Br5.frozen
            have hz5 : w.heap.size + 1 < w5.heap.size := Br5.lt
            obtain ⟨A5, n5, c5, rfl⟩ : ∃ A n c, v5 = .slice A n c := by obtain ⟨A, c, e, _⟩ := hown5.sl; exact ⟨A, _, c, e⟩
            rw [show itemRows (L.take (at_ + k)) ++ itemRows (ms'.drop k) = itemRows (L.take (at_ + k) ++ ms'.drop k) by simp [itemRows]] at hown5
            have hs5 := (hown5.setCell (p := ⟨w.heap.size + 1, 2, none⟩) (by simp; omega) (.slice A5 n5 c5)).sl'
            have Br6 := Br5.set' (i := 2) (u := .slice A5 n5 c5) (cs' := #[.int .i64 base, .int .i64 bt, .slice A5 n5 c5]) rfl
            have hown6 := (hown5.setCell (p := ⟨w.heap.size + 1, 2, none⟩) (by simp; omega) (.slice A5 n5 c5))
            have h0 := HCk.out (L.take (at_ + k) ++ ms'.drop k)
            have hsum2 : IntKind.i64.wrap (pl + (k : Int)) = pl + k := IntWalk.i64_in _ (by omega)
            have hsum3 : IntKind.i64.wrap (pl + (k : Int) + 1) = pl + k + 1 := IntWalk.i64_in _ (by omega)
            by_cases hc : checkLog base bt (L.take (at_ + k) ++ ms'.drop k) = 0
            · have HT := hide (tail_ok (pl := pl) HF' hc)
              rw [hc] at h0
              have HK := hide h0
              clear h0 hc
              go_wp2_with fail
              refine (HK.out _ _ _ _ hs5).mono ?_
              rintro e w7 ⟨rfl, hb7⟩
              have Br7 := Br6.below' hb7
              have b7 := Br7.cell
              have b7f := Br7.frozen
              have hown7 := hown6.below hb7
              go_wp2_with fail
              refine bodyPost_ret (v := .tuple #[.agg #[.int .i64 base, .int .i64 bt, .slice A5 n5 c5], .bool true, .int .i64 (pl + k + 1), .int .i64 0]) ?_ rfl ?_
              · simp [results, Try.results14, go_sem, *]
              · rw [HM.out, HT.out]
                refine ⟨(by repeat (first | (with_reducible exact Below.refl _ _) | (with_reducible assumption) | (with_reducible refine Below.drew ?_) | (with_reducible refine bdrewN ?_ _) | (with_reducible refine balloc ?_ _) | ((with_reducible refine bset ?_ ?_ _); rotate_left; (focus first | exact Nat.le_refl _ | (simp; done) | (simp; omega) | omega)) | (with_reducible refine bstep ?_ (by with_reducible assumption)) | (with_reducible refine Below.trans ?_ (by with_reducible assumption)))), A5, n5, c5, rfl, ?_⟩
                exact (((hown7.setCell (p := ⟨w.heap.size + 1, 0, none⟩) (by simp; omega) _).setCell (p := ⟨w.heap.size + 1, 1, none⟩) (by simp; omega) _).setCell (p := ⟨w.heap.size + 1, 2, none⟩) (by simp; omega) _).mono (by first | omega | (simp; omega))
            · have HT := hide (tail_bad (pl := pl) HF' hc)
              rw [(log_01 _ _ _).resolve_left hc] at h0
              have HK := hide h0
              clear h0 hc
              go_wp2_with fail
              refine (HK.out _ _ _ _ hs5).mono ?_
              rintro e w7 ⟨rfl, hb7⟩
              have Br7 := Br6.below' hb7
              have b7 := Br7.cell
              have b7f := Br7.frozen
              go_wp2_with fail
              refine bodyPost_ret (v := .tuple #[.agg #[.int .i64 0, .int .i64 0, .slice none 0 0], .bool false, .int .i64 0, .int .i64 6]) ?_ rfl ?_
              · simp [results, Try.results14, go_sem, *]
              · rw [HM.out, HT.out]
                exact ⟨(by repeat (first | (with_reducible exact Below.refl _ _) | (with_reducible assumption) | (with_reducible refine Below.drew ?_) | (with_reducible refine bdrewN ?_ _) | (with_reducible refine balloc ?_ _) | ((with_reducible refine bset ?_ ?_ _); rotate_left; (focus first | exact Nat.le_refl _ | (simp; done) | (simp; omega) | omega)) | (with_reducible refine bstep ?_ (by with_reducible assumption)) | (with_reducible refine Below.trans ?_ (by with_reducible assumption)))), rfl⟩
        · obtain rfl : k = ms'.length := by omega
          have HN := hide (tail_none (base := base) (bt := bt) (pl := pl) (fresh_end HF))
          go_wp2_with fail
          refine bodyPost_ret (v := .tuple #[.agg #[.int .i64 base, .int .i64 bt, .slice A' L.length c'], .bool true, .int .i64 0, .int .i64 0]) ?_ rfl ?_
          · simp [results, Try.results14, go_sem, *]
          · rw [HM.out, HN.out]
            refine ⟨(by repeat (first | (with_reducible exact Below.refl _ _) | (with_reducible assumption) | (with_reducible refine Below.drew ?_) | (with_reducible refine bdrewN ?_ _) | (with_reducible refine balloc ?_ _) | ((with_reducible refine bset ?_ ?_ _); rotate_left; (focus first | exact Nat.le_refl _ | (simp; done) | (simp; omega) | omega)) | (with_reducible refine bstep ?_ (by with_reducible assumption)) | (with_reducible refine Below.trans ?_ (by with_reducible assumption)))), A', _, c', rfl, ?_⟩
            exact (((hLr.setCell (p := ⟨w.heap.size + 1, 0, none⟩) (by simp) _).setCell (p := ⟨w.heap.size + 1, 1, none⟩) (by simp) _).setCell (p := ⟨w.heap.size + 1, 2, none⟩) (by simp) _).mono (by first | omega | (simp; omega))
end Go.Proofs.Ytaldmianlmgloab
