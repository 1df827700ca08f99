/- rostrumkeep.RankModel returns true for every input and leaves its arguments as they were; no condition. -/
import Derived.Test.YtcelcanfdalliaaValLaw
import Derived.Test.YtcelcanfdalliaaDonT
import Derived.Test.YtcelcanfdalliaaAllocs
namespace Go.Proofs.Ytcelcanfdalliaa
set_option linter.all false
open Go.ChangeShapes Go.WideShapes Go.ChangeAt Go.RowKit
set_option maxRecDepth 100000 in
set_option maxHeartbeats 8000000 in
theorem rankModel_walk (A : Option Addr) (n c : Nat) (l : List RawD) (w : World) (hS : Sl w 5 A n c (rawRows l)) (hd : ∀ d ∈ l, d.ok) (hz : (n + 1) * 48 ≤ 140737488355328) :
    Calls Try.prog 9 #[.slice A n c] w fun e w' => e = .returned (.bool true) ∧ Below w.heap.size w w' := by
  have hF := fun w h => full_any 5 A n c l w h hd ⟨by omega, by omega⟩ hz
  obtain ⟨hG, hGk⟩ := fullOf_good 5 l
  rw [kindV_five] at hGk
  have hmem := fullOf_members 5 l
  generalize fullOf 5 l = V at *
  have hfm := rank_forms hG hGk
  have hok := good_ok hG
  have hun := hok.un
  have hrs := hok.rs
  have hms := hok.tm
  have hcc : ∀ m : ByteArray, m.size ≤ 20 → ccOf ⟨16, { data := #[107] }, { data := #[] }, m, 0⟩ = 0 := fun m hm => cc_lit (by omega) (by omega) (by rw [if_neg (by decide)]; rfl) (by rw [if_pos (by decide)]; exact hm) (by rw [if_neg (by decide)])
  obtain ⟨vk, vt, vc, ps, is_, ss⟩ := V
  simp only at hfm hun hrs hms hmem hGk
  have hD1 : ∀ (i : Nat) (hi : i < ss.length) A1 A2 A3 n1 c1 n2 c2 n3 c3 w, VSl w ⟨vk, vt, vc, ps, is_, ss⟩ A1 n1 c1 A2 n2 c2 A3 n3 c3 →
      Calls Try.prog 24 #[.agg #[.int .i64 vk, .string vt, .int .i64 vc, .slice A1 n1 c1, .slice A2 n2 c2, .slice A3 n3 c3], .agg #[.int .i64 16, .string { data := #[107] }, .string { data := #[] }, .string ss[i].member, .int .i64 0]] w (DonePost (⟨vk, vt, vc, ps, is_, ss⟩, toldR i, 0) w) := fun i hi A1 A2 A3 n1 c1 n2 c2 n3 c3 w h => by
    have := Do_may ⟨vk, vt, vc, ps, is_, ss⟩ ⟨16, { data := #[107] }, { data := #[] }, ss[i].member, 0⟩ (.inr hG) A1 A2 A3 n1 c1 n2 c2 n3 c3 w h
    rw [done_zrank hG hGk (hcc _ (hms _ (List.getElem_mem hi))) rfl] at this
    simp only [memberAt_of hun hi] at this
    exact this
  have hD2 := fun A1 A2 A3 n1 c1 n2 c2 n3 c3 w h => Do_may ⟨vk, vt, vc, ps, is_, ss⟩ ⟨16, { data := #[107] }, { data := #[] }, { data := #[110, 111, 98, 111, 100, 121, 32, 105, 115, 32, 115, 111, 32, 108, 111, 110, 103] }, 0⟩ (.inr hG) A1 A2 A3 n1 c1 n2 c2 n3 c3 w h
  rw [done_zrank hG hGk (hcc _ (by decide)) rfl] at hD2
  simp only [memberAt_long hmem (show 6 < ({ data := #[110, 111, 98, 111, 100, 121, 32, 105, 115, 32, 115, 111, 32, 108, 111, 110, 103] } : ByteArray).size by decide)] at hD2
  simp only [toldR, failR, emp] at hD1 hD2
  have hnx := fun j hj => rs_next hrs (j := j) hj
  have HF := hide hF; have HD1 := hide hD1; have HD2 := hide hD2; have HNX := hide hnx
  obtain ⟨-, hp1, hp20⟩ := hfm
  clear hF hD1 hD2 hnx hG hGk hok hun hrs hms hcc hd hmem
  go_enter Try.func9, Try.ntmps9
  go_wp2_with fail
  refine (HF.out _ hS).mono ?_; rintro e w1 ⟨B10, m10, e10, B20, m20, e20, B30, m30, e30, rfl, M0, T0, hb0⟩; skip; have q : Below w.heap.size w w1 := (by repeat (first | (with_reducible exact Below.refl _ _) | (with_reducible assumption) | (with_reducible refine Below.drew ?_) | (with_reducible refine bdrewN ?_ _) | (with_reducible refine balloc ?_ _) | ((with_reducible refine bset ?_ ?_ _); rotate_left; (focus first | exact Nat.le_refl _ | (simp; done) | (simp; omega) | omega)) | (with_reducible refine bstep ?_ (by with_reducible assumption)) | (with_reducible refine Below.trans ?_ (by with_reducible assumption)))); clear hb0 T0
  have hm30 : ss.length = m30 := M0.n3_
  rw [hm30] at hp1 hp20
  have HL := hide hm30
  have D0 := Blk.new w1 29 #[.int .i64 vk, .string vt, .int .i64 vc, .slice B10 m10 e10, .slice B20 m20 e20, .slice B30 m30 e30]; replace M0 := M0.al (.cells #[.int .i64 vk, .string vt, .int .i64 vc, .slice B10 m10 e10, .slice B20 m20 e20, .slice B30 m30 e30] 29)
  replace q : Below w.heap.size w (w1.alloc (.cells #[.int .i64 vk, .string vt, .int .i64 vc, .slice B10 m10 e10, .slice B20 m20 e20, .slice B30 m30 e30] 29)) := (by repeat (first | (with_reducible exact Below.refl _ _) | (with_reducible assumption) | (with_reducible refine Below.drew ?_) | (with_reducible refine bdrewN ?_ _) | (with_reducible refine balloc ?_ _) | ((with_reducible refine bset ?_ ?_ _); rotate_left; (focus first | exact Nat.le_refl _ | (simp; done) | (simp; omega) | omega)) | (with_reducible refine bstep ?_ (by with_reducible assumption)) | (with_reducible refine Below.trans ?_ (by with_reducible assumption))))
  clear hm30
  go_wp2_with fail
  generalize hW : w1.alloc (.cells #[.int .i64 vk, .string vt, .int .i64 vc, .slice B10 m10 e10, .slice B20 m20 e20, .slice B30 m30 e30] 29) = W at *
  generalize w1.heap.size = g at *
  clear hW
  have hgW := D0.lt
  go_loopw [4] (fun s4 wr => ∃ j : Nat, j + 1 ≤ m30 ∧ s4 = .int .i64 ((j : Int) + 1) ∧ Below W.heap.size W wr) (fun s4 _ => m30 + 1 - (intOf s4).toNat)
  case atStart => exact ⟨0, by omega, rfl, Below.refl _ _⟩
  case round =>
    obtain ⟨j, hj, rfl, hbr⟩ := hrel
    have Dr := D0.bl hbr; have Mr := M0.bl hbr
    have hgr := Dr.lt
    by_cases hlt : j + 1 < m30
    · have hlt' : ((j : Int) + 1) < (m30 : Int) := by omega
      obtain ⟨b, off, rfl, hbb, ⟨i0, i1⟩⟩ := Mr.s.seg.score (k := j) (by rw [HL.out]; omega)
      obtain ⟨b', off', hb', -, ⟨j0, j1⟩⟩ := Mr.s.seg.score (k := j + 1) (by rw [HL.out]; omega)
      injection hb' with hb'
      injection hb' with hb1 hb2
      subst hb1; subst hb2
      have hnx := HNX.out j (by rw [HL.out]; omega)
      generalize (ss[j]'(by rw [HL.out]; omega)) = x at i0 i1 hnx
      generalize (ss[j + 1]'(by rw [HL.out]; omega)) = y at j0 j1 hnx
      obtain ⟨xm, xn⟩ := x
      obtain ⟨ym, yn⟩ := y
      simp only at i0 i1 j0 j1 hnx
      have hw1 : IntKind.i64.wrap ((j : Int) + 1 - 1) = (j : Int) := by rw [IntWalk.i64_in _ (by omega)]; omega
      have hz0 : (0 : Int) ≤ (j : Int) := by omega
      have hz1 : (j : Int) < (m30 : Int) := by omega
      (try clear cDr fDr); have cDr := Dr.cell; have fDr := Dr.frozen
      rcases hnx with h | ⟨rfl, h⟩
      · have hgt : ¬ yn < xn := by omega
        have hne : (xn == yn) = false := by rw [beq_eq_false_iff_ne]; omega
        go_wp2_with fail
        go_roundw
        case rel => exact ⟨j + 1, by omega, by go_num, (by repeat (first | (with_reducible exact Below.refl _ _) | (with_reducible assumption) | (with_reducible refine Below.drew ?_) | (with_reducible refine bdrewN ?_ _) | (with_reducible refine balloc ?_ _) | ((with_reducible refine bset ?_ ?_ _); rotate_left; (focus first | exact Nat.le_refl _ | (simp; done) | (simp; omega) | omega)) | (with_reducible refine bstep ?_ (by with_reducible assumption)) | (with_reducible refine Below.trans ?_ (by with_reducible assumption))))⟩
        case measure => simp [intOf]; omega
      · go_wp2_with fail
        go_roundw
        case rel => exact ⟨j + 1, by omega, by go_num, (by repeat (first | (with_reducible exact Below.refl _ _) | (with_reducible assumption) | (with_reducible refine Below.drew ?_) | (with_reducible refine bdrewN ?_ _) | (with_reducible refine balloc ?_ _) | ((with_reducible refine bset ?_ ?_ _); rotate_left; (focus first | exact Nat.le_refl _ | (simp; done) | (simp; omega) | omega)) | (with_reducible refine bstep ?_ (by with_reducible assumption)) | (with_reducible refine Below.trans ?_ (by with_reducible assumption))))⟩
        case measure => simp [intOf]; omega
    · have hge : ¬ ((j : Int) + 1) < (m30 : Int) := by omega
      (try clear cDr fDr); have cDr := Dr.cell; have fDr := Dr.frozen
      go_wp2_with fail
      clear cDr fDr hge
      go_loopw [7] (fun s7 wx => ∃ i : Nat, i ≤ m30 ∧ s7 = .int .i64 i ∧ Below W.heap.size W wx) (fun s7 _ => m30 - (intOf s7).toNat)
      case atStart => exact ⟨0, by omega, rfl, hbr⟩
      case round =>
        obtain ⟨i, hi, rfl, hbx⟩ := hrel
        clear Dr Mr hgr hbr
        have Dr := D0.bl hbx; have Mr := M0.bl hbx
        have hgr := Dr.lt
        by_cases hlt : i < m30
        · have hlt' : (i : Int) < (m30 : Int) := by omega
          have hi0 : (0 : Int) ≤ (i : Int) := by omega
          obtain ⟨b, off, rfl, hbb, ⟨i0, i1⟩⟩ := Mr.s.seg.score (k := i) (by rw [HL.out]; omega)
          have hDo := HD1.out i (by rw [HL.out]; omega)
          generalize (ss[i]'(by rw [HL.out]; omega)) = x at i0 i1 hDo
          obtain ⟨xm, xn⟩ := x
          simp only at i0 i1 hDo
          have HDO := hide hDo
          clear hDo i1
          have hsG : ∀ w', Below wr.heap.size wr w' → (w'.cell? ⟨g, 0, none⟩ = some (.int .i64 vk) ∧ w'.cell? ⟨g, 1, none⟩ = some (.string vt) ∧ w'.cell? ⟨g, 2, none⟩ = some (.int .i64 vc) ∧ w'.cell? ⟨g, 3, none⟩ = some (.slice B10 m10 e10) ∧ w'.cell? ⟨g, 4, none⟩ = some (.slice B20 m20 e20) ∧ w'.cell? ⟨g, 5, none⟩ = some (.slice (some ⟨b, off, none⟩) m30 e30) ∧ w'.cell? ⟨b, off + i * 2, none⟩ = some (.string xm)) := fun w' q => by
            have V' := Dr.below' q
            exact ⟨V'.cell 0, V'.cell 1, V'.cell 2, V'.cell 3, V'.cell 4, V'.cell 5, (q.cell (p := ⟨b, off + i * 2, none⟩) hbb).trans i0⟩
          (try clear cDr fDr); have cDr := Dr.cell; have fDr := Dr.frozen
          go_wp2_with fail
          refine wp_region_x (l := []) (S := fun w' => w'.cell? ⟨g, 0, none⟩ = some (.int .i64 vk) ∧ w'.cell? ⟨g, 1, none⟩ = some (.string vt) ∧ w'.cell? ⟨g, 2, none⟩ = some (.int .i64 vc) ∧ w'.cell? ⟨g, 3, none⟩ = some (.slice B10 m10 e10) ∧ w'.cell? ⟨g, 4, none⟩ = some (.slice B20 m20 e20) ∧ w'.cell? ⟨g, 5, none⟩ = some (.slice (some ⟨b, off, none⟩) m30 e30) ∧ w'.cell? ⟨b, off + i * 2, none⟩ = some (.string xm)) (by kernel_rfl) (hsG _ (Below.refl _ wr).drew) (fun hS => ?_)
          refine wpAnyX_take (i := 0) (v := ?xv0) rfl (by kernel_rfl) (by kernel_rfl) (by kernel_rfl) (by kernel_rfl) (fun _ _ _ h => h) (Or.inl ⟨by rfl, ?xh0⟩) (by assumption) ?xr0; (case xh0 => (intro w hSw; (try dsimp only at hSw); go_simp; (try with_reducible rfl))); (try simp only [Act.put, List.setIfInBounds_toArray, List.set_cons_zero, List.set_cons_succ, List.getElem_toArray, List.getElem_cons_zero, List.getElem_cons_succ])
          refine wpAnyX_take (i := 1) (v := ?xv1) rfl (by kernel_rfl) (by kernel_rfl) (by kernel_rfl) (by kernel_rfl) (fun _ _ _ h => h) (Or.inl ⟨by rfl, ?xh1⟩) (by assumption) ?xr1; (case xh1 => (intro w hSw; (try dsimp only at hSw); go_simp; (try with_reducible rfl))); (try simp only [Act.put, List.setIfInBounds_toArray, List.set_cons_zero, List.set_cons_succ, List.getElem_toArray, List.getElem_cons_zero, List.getElem_cons_succ])
          refine wpAnyX_take (i := 2) (v := ?xv2) rfl (by kernel_rfl) (by kernel_rfl) (by kernel_rfl) (by kernel_rfl) (fun _ _ _ h => h) (Or.inl ⟨by rfl, ?xh2⟩) (by assumption) ?xr2; (case xh2 => (intro w hSw; (try dsimp only at hSw); go_simp; (try with_reducible rfl))); (try simp only [Act.put, List.setIfInBounds_toArray, List.set_cons_zero, List.set_cons_succ, List.getElem_toArray, List.getElem_cons_zero, List.getElem_cons_succ])
          refine wpAnyX_take (i := 3) (v := ?xv3) rfl (by kernel_rfl) (by kernel_rfl) (by kernel_rfl) (by kernel_rfl) (fun _ _ _ h => h) (Or.inl ⟨by rfl, ?xh3⟩) (by assumption) ?xr3; (case xh3 => (intro w hSw; (try dsimp only at hSw); go_simp; (try with_reducible rfl))); (try simp only [Act.put, List.setIfInBounds_toArray, List.set_cons_zero, List.set_cons_succ, List.getElem_toArray, List.getElem_cons_zero, List.getElem_cons_succ])
          refine wpAnyX_take (i := 4) (v := ?xv4) rfl (by kernel_rfl) (by kernel_rfl) (by kernel_rfl) (by kernel_rfl) (fun _ _ _ h => h) (Or.inl ⟨by rfl, ?xh4⟩) (by assumption) ?xr4; (case xh4 => (intro w hSw; (try dsimp only at hSw); go_simp; (try with_reducible rfl))); (try simp only [Act.put, List.setIfInBounds_toArray, List.set_cons_zero, List.set_cons_succ, List.getElem_toArray, List.getElem_cons_zero, List.getElem_cons_succ])
          refine wpAnyX_take (i := 5) (v := ?xv5) rfl (by kernel_rfl) (by kernel_rfl) (by kernel_rfl) (by kernel_rfl) (fun _ _ _ h => h) (Or.inl ⟨by rfl, ?xh5⟩) (by assumption) ?xr5; (case xh5 => (intro w hSw; (try dsimp only at hSw); go_simp; (try with_reducible rfl))); (try simp only [Act.put, List.setIfInBounds_toArray, List.set_cons_zero, List.set_cons_succ, List.getElem_toArray, List.getElem_cons_zero, List.getElem_cons_succ])
          refine wpAnyX_take (i := 6) (v := ?xv6) rfl (by kernel_rfl) (by kernel_rfl) (by kernel_rfl) (by kernel_rfl) (fun _ _ _ h => h) (Or.inl ⟨by rfl, ?xh6⟩) (by assumption) ?xr6; (case xh6 => (intro w hSw; (try dsimp only at hSw); go_simp; (try with_reducible rfl))); (try simp only [Act.put, List.setIfInBounds_toArray, List.set_cons_zero, List.set_cons_succ, List.getElem_toArray, List.getElem_cons_zero, List.getElem_cons_succ])
          refine wpAnyX_take (i := 7) (v := ?xv7) rfl (by kernel_rfl) (by kernel_rfl) (by kernel_rfl) (by kernel_rfl) (fun _ _ _ h => h) (Or.inl ⟨by rfl, ?xh7⟩) (by assumption) ?xr7; (case xh7 => (intro w hSw; (try dsimp only at hSw); go_simp; (try with_reducible rfl))); (try simp only [Act.put, List.setIfInBounds_toArray, List.set_cons_zero, List.set_cons_succ, List.getElem_toArray, List.getElem_cons_zero, List.getElem_cons_succ])
          have HSG := hide hsG
          clear hsG hS cDr fDr i0
          refine wpX_start (n := 8 + left2 false false) (listed := (fun b_ c_ => #[true, true, true, true, true, true, true, true, false, false, false, false, false, b_, c_, false, false, false]) false false) (j1 := 13) (d1 := 8) (t1 := 29) (z1 := #[.int .i64 0, .string { data := #[] }, .int .i64 0, .slice none 0 0, .slice none 0 0, .slice none 0 0]) (j2 := 14) (d2 := 9) (t2 := 37) (z2 := #[.int .i64 0, .string { data := #[] }, .int .i64 0, .slice none 0 0]) ?al1 ?al2 ?aln ?all (fun al1 al2 => ?alr); (case al1 => exact ⟨⟨_, rfl, rfl, rfl, fun a w => by simp [go_sem, execOp]⟩⟩); (case al2 => exact ⟨⟨_, rfl, rfl, rfl, fun a w => by simp [go_sem, execOp]⟩⟩); (case aln => kernel_rfl); (case all => kernel_rfl)
          refine' wpX_phase' (f := 7) (i := 8) (L := (fun b_ c_ => #[true, true, true, true, true, true, true, true, false, false, false, false, false, b_, c_, false, false, false])) (L' := (fun b_ c_ => #[true, true, true, true, true, true, true, true, true, false, false, false, false, b_, c_, false, false, false])) (base := wr.heap.size) (G := (fun w' => Below wr.heap.size wr w')) (b := false) (c := false) (x := u8) (y := u9) al1 al2 ?an8 ?al8 ?aa8 ?ar8 ?ai8 ?ag8 ?ae18 ?ae28 ?ae38 ?ap18 ?ap28 HSG.out (fun w' o q => q.alloc q.size o) (fun w' q => q.size) ?aw8 Pend.no Pend.no Two.no ?am8; (case an8 => rfl); (case al8 => rfl); (case aa8 => rfl); (case ar8 => kernel_rfl); (case ai8 => rfl); (case ag8 => rfl); (case ae18 => (intros; rfl)); (case ae28 => (intros; rfl)); (case ae38 => (intros; rfl)); (case ap18 => (intros; rfl)); (case ap28 => (intros; rfl))
          (case aw8 => exact (Below.refl _ wr).drew)
          intro b_ c_ x_ y_ w5 hG_ hx_ hy_ hxy_ K_ hK_; (try simp only [List.getElem_toArray, List.getElem_cons_zero, List.getElem_cons_succ])
          go_wp2_with fail
          refine (HDO.out _ _ _ _ _ _ _ _ _ _ (Mr.bl hG_)).mono ?_
          rintro e w6 ⟨B1, m1, e1, B2, m2, e2, B3, m3, e3, B4, m4, e4, rfl, N6, L6, T6, hb6⟩
          go_wp2_with fail
          have q6 : Below wr.heap.size wr w6 := bstep hG_ hb6
          have hS6 := HSG.out _ q6
          refine hK_.out _ _ (Or.inr hS6) ?_
          clear hK_ K_ hG_ N6 L6 T6
          refine' wpX_take' (f := 6) (i := 9) (v := ?xv9) (L := (fun b_ c_ => #[true, true, true, true, true, true, true, true, true, false, false, false, false, b_, c_, false, false, false])) (L' := (fun b_ c_ => #[true, true, true, true, true, true, true, true, true, true, false, false, false, b_, c_, false, false, false])) ?tan9 ?tal9 rfl (by kernel_rfl) ?tar9 (by kernel_rfl) ?tae39 (fun _ _ _ h => h) (Or.inl ⟨by rfl, ?xh9⟩) ?taw9 ?xr9; (case tan9 => rfl); (case tal9 => rfl); (case tar9 => kernel_rfl); (case tae39 => (intros; rfl)); (case taw9 => assumption); (case xh9 => (intro w hSw; (try dsimp only at hSw); go_simp; (try with_reducible rfl))); (try simp only [Act.put, List.setIfInBounds_toArray, List.set_cons_zero, List.set_cons_succ, List.getElem_toArray, List.getElem_cons_zero, List.getElem_cons_succ])
          refine' wpX_take' (f := 5) (i := 10) (v := ?xv10) (L := (fun b_ c_ => #[true, true, true, true, true, true, true, true, true, true, false, false, false, b_, c_, false, false, false])) (L' := (fun b_ c_ => #[true, true, true, true, true, true, true, true, true, true, true, false, false, b_, c_, false, false, false])) ?tan10 ?tal10 rfl (by kernel_rfl) ?tar10 (by kernel_rfl) ?tae310 (fun _ _ _ h => h) (Or.inl ⟨by rfl, ?xh10⟩) ?taw10 ?xr10; (case tan10 => rfl); (case tal10 => rfl); (case tar10 => kernel_rfl); (case tae310 => (intros; rfl)); (case taw10 => assumption); (case xh10 => (intro w hSw; (try dsimp only at hSw); go_simp; (try with_reducible rfl))); (try simp only [Act.put, List.setIfInBounds_toArray, List.set_cons_zero, List.set_cons_succ, List.getElem_toArray, List.getElem_cons_zero, List.getElem_cons_succ])
          refine' wpX_take' (f := 4) (i := 11) (v := ?xv11) (L := (fun b_ c_ => #[true, true, true, true, true, true, true, true, true, true, true, false, false, b_, c_, false, false, false])) (L' := (fun b_ c_ => #[true, true, true, true, true, true, true, true, true, true, true, true, false, b_, c_, false, false, false])) ?tan11 ?tal11 rfl (by kernel_rfl) ?tar11 (by kernel_rfl) ?tae311 (fun _ _ _ h => h) (Or.inl ⟨by rfl, ?xh11⟩) ?taw11 ?xr11; (case tan11 => rfl); (case tal11 => rfl); (case tar11 => kernel_rfl); (case tae311 => (intros; rfl)); (case taw11 => assumption); (case xh11 => (intro w hSw; (try dsimp only at hSw); go_simp; (try with_reducible rfl))); (try simp only [Act.put, List.setIfInBounds_toArray, List.set_cons_zero, List.set_cons_succ, List.getElem_toArray, List.getElem_cons_zero, List.getElem_cons_succ])
          refine' wpX_take' (f := 3) (i := 12) (v := ?xv12) (L := (fun b_ c_ => #[true, true, true, true, true, true, true, true, true, true, true, true, false, b_, c_, false, false, false])) (L' := (fun b_ c_ => #[true, true, true, true, true, true, true, true, true, true, true, true, true, b_, c_, false, false, false])) ?tan12 ?tal12 rfl (by kernel_rfl) ?tar12 (by kernel_rfl) ?tae312 (fun _ _ _ h => h) (Or.inl ⟨by rfl, ?xh12⟩) ?taw12 ?xr12; (case tan12 => rfl); (case tal12 => rfl); (case tar12 => kernel_rfl); (case tae312 => (intros; rfl)); (case taw12 => assumption); (case xh12 => (intro w hSw; (try dsimp only at hSw); go_simp; (try with_reducible rfl))); (try simp only [Act.put, List.setIfInBounds_toArray, List.set_cons_zero, List.set_cons_succ, List.getElem_toArray, List.getElem_cons_zero, List.getElem_cons_succ])
          refine' wpX_lay' (f := 3) (L := (fun b_ c_ => #[true, true, true, true, true, true, true, true, true, true, true, true, true, b_, c_, false, false, false])) (base := wr.heap.size) (G := (fun w' => Below w6.heap.size w6 w')) (b := b_) (c := c_) (x := x_) (y := y_) al1 al2 ?anL ?alL ?aaL ?arL ?ae1L ?ae2L ?ap1L ?ap2L (fun w' q => HSG.out w' (bstep q6 q)) (fun w' o q => q.alloc q.size o) (fun w' q => Nat.le_trans q6.size q.size) ?awL (hx_.bl hb6) (hy_.bl hb6) hxy_ ?amL; (case anL => rfl); (case alL => rfl); (case aaL => rfl); (case arL => kernel_rfl); (case ae1L => (intros; rfl)); (case ae2L => (intros; rfl)); (case ap1L => (intros; rfl)); (case ap2L => (intros; rfl))
          (case awL => exact Below.refl _ w6)
          clear hx_ hy_ hxy_ x_ y_ b_ c_ hS6
          intro g1 g2 w7 hb7 hg1 G1 hg2 G2 hgg
          have q7 : Below wr.heap.size wr w7 := bstep q6 hb7
          clear al1 al2
          (try clear cG1 fG1); have cG1 := G1.cell; have fG1 := G1.frozen
          refine wpAnyX_one (i := 15) (by kernel_rfl) rfl (by rfl) (fun K hK => ?_); (try simp only [List.getElem_toArray, List.getElem_cons_zero, List.getElem_cons_succ])
          go_wp2_with fail
          refine hK.out _ _ (Or.inr (HSG.out _ (below_set (below_set (below_set (below_set (below_set (below_set q7 hg1 0 _) hg1 1 _) hg1 2 _) hg1 3 _) hg1 4 _) hg1 5 _))) (fun hS => ?_)
          clear hK K hS cG1 fG1
          have F0 := G2.far (p := ⟨g1, 0, none⟩) (by simpa using hgg.symm) (.int .i64 vk)
          have F1 := F0.far (p := ⟨g1, 1, none⟩) (by simpa using hgg.symm) (.string vt)
          have F2 := F1.far (p := ⟨g1, 2, none⟩) (by simpa using hgg.symm) (.int .i64 vc)
          have F3 := F2.far (p := ⟨g1, 3, none⟩) (by simpa using hgg.symm) (.slice B1 m1 e1)
          have F4 := F3.far (p := ⟨g1, 4, none⟩) (by simpa using hgg.symm) (.slice B2 m2 e2)
          have F5 := F4.far (p := ⟨g1, 5, none⟩) (by simpa using hgg.symm) (.slice B3 m3 e3)
          (try clear cF5 fF5); have cF5 := F5.cell; have fF5 := F5.frozen
          refine wpAnyX_one (i := 16) (by kernel_rfl) rfl (by rfl) (fun K hK => ?_); (try simp only [List.getElem_toArray, List.getElem_cons_zero, List.getElem_cons_succ])
          go_wp2_with fail
          refine hK.out _ _ (Or.inr (HSG.out _ (below_set (below_set (below_set (below_set (below_set (below_set (below_set (below_set (below_set (below_set q7 hg1 0 _) hg1 1 _) hg1 2 _) hg1 3 _) hg1 4 _) hg1 5 _) hg2 0 _) hg2 1 _) hg2 2 _) hg2 3 _))) (fun hS => ?_)
          replace hS := hS.resolve_left (by decide)
          clear hK K cF5 fF5
          refine wpAnyX_pure (i := 17) (v := ?xv17) rfl (by kernel_rfl) (Or.inl ⟨by rfl, ?xh17⟩) (Or.inr (by assumption)) ?xr17; (case xh17 => (intro w; go_simp; (try with_reducible rfl))); (try simp only [Act.put, List.setIfInBounds_toArray, List.set_cons_zero, List.set_cons_succ, List.getElem_toArray, List.getElem_cons_zero, List.getElem_cons_succ])
          clear hS
          refine wpAnyX_done (by kernel_rfl) ?_ _
          obtain ⟨X1, gr1, sz1⟩ := whole_value (Value.int .i64 vk) (Value.string vt) (Value.int .i64 vc) (Value.slice B1 m1 e1) (Value.slice B2 m2 e2) (Value.slice B3 m3 e3) G1
          have Y1 := grown_blk G2 gr1 hgg.symm
          obtain ⟨X2, gr2, sz2⟩ := whole_reply (Value.int .i64 0) (Value.string { data := #[] }) (Value.int .i64 (i : Int)) (Value.slice B4 m4 e4) Y1
          have q8 := below_grow (below_grow q7 gr1 q7.size hg1) gr2 (by rw [sz1]; exact q7.size) hg2
          clear gr1 gr2 sz1 sz2 Y1 X1 G1 G2 q7 F0 F1 F2 F3 F4 F5
          obtain ⟨w8, hw8⟩ : ∃ w8, w8 = ((((((((((w7.setCell ⟨g1, 0, none⟩ (Value.int .i64 vk)).setCell ⟨g1, 1, none⟩ (Value.string vt)).setCell ⟨g1, 2, none⟩ (Value.int .i64 vc)).setCell ⟨g1, 3, none⟩ (Value.slice B1 m1 e1)).setCell ⟨g1, 4, none⟩ (Value.slice B2 m2 e2)).setCell ⟨g1, 5, none⟩ (Value.slice B3 m3 e3)).setCell ⟨g2, 0, none⟩ (Value.int .i64 0)).setCell ⟨g2, 1, none⟩ (Value.string { data := #[] })).setCell ⟨g2, 2, none⟩ (Value.int .i64 (i : Int))).setCell ⟨g2, 3, none⟩ (Value.slice B4 m4 e4)) := ⟨_, rfl⟩
          rw [← hw8] at q8 X2 ⊢
          clear hw8
          (try clear cX2 fX2); have cX2 := X2.cell; have fX2 := X2.frozen
          go_wp2_with fail
          go_roundw
          case rel => exact ⟨i + 1, by omega, by go_num, bstep hbx q8⟩
          case measure => simp [intOf]; omega
        · obtain rfl : i = m30 := by omega
          have hge : ¬ (i : Int) < (i : Int) := by omega
          (try clear cDr fDr); have cDr := Dr.cell; have fDr := Dr.frozen
          go_wp2_with fail
          have q0 : Below w.heap.size w wr := bstep q hbx
          clear q
          have q := q0
          refine (HD2.out _ _ _ _ _ _ _ _ _ _ Mr).mono ?_; rintro e w2 ⟨B11, m11, e11, B21, m21, e21, B31, m31, e31, B41, m41, e41, rfl, M1, L1, T1, hb1⟩; replace Dr := Dr.bl hb1; replace q : Below w.heap.size w w2 := (by repeat (first | (with_reducible exact Below.refl _ _) | (with_reducible assumption) | (with_reducible refine Below.drew ?_) | (with_reducible refine bdrewN ?_ _) | (with_reducible refine balloc ?_ _) | ((with_reducible refine bset ?_ ?_ _); rotate_left; (focus first | exact Nat.le_refl _ | (simp; done) | (simp; omega) | omega)) | (with_reducible refine bstep ?_ (by with_reducible assumption)) | (with_reducible refine Below.trans ?_ (by with_reducible assumption)))); clear hb1
          have D1 := Blk.new w2 29 #[.int .i64 vk, .string vt, .int .i64 vc, .slice B11 m11 e11, .slice B21 m21 e21, .slice B31 m31 e31]; replace M1 := M1.al (.cells #[.int .i64 vk, .string vt, .int .i64 vc, .slice B11 m11 e11, .slice B21 m21 e21, .slice B31 m31 e31] 29); replace L1 := L1.al (.cells #[.int .i64 vk, .string vt, .int .i64 vc, .slice B11 m11 e11, .slice B21 m21 e21, .slice B31 m31 e31] 29); replace Dr := Dr.al (.cells #[.int .i64 vk, .string vt, .int .i64 vc, .slice B11 m11 e11, .slice B21 m21 e21, .slice B31 m31 e31] 29); have R1 : Blk ((w2.alloc (.cells #[.int .i64 vk, .string vt, .int .i64 vc, .slice B11 m11 e11, .slice B21 m21 e21, .slice B31 m31 e31] 29)).alloc (.cells #[.int .i64 5, .string { data := #[] }, .int .i64 0, .slice B41 m41 e41] 37)) (w2.heap.size + 1) 37 #[.int .i64 5, .string { data := #[] }, .int .i64 0, .slice B41 m41 e41] := Blk.new' _ _ _ (by simp); replace M1 := M1.al (.cells #[.int .i64 5, .string { data := #[] }, .int .i64 0, .slice B41 m41 e41] 37); replace L1 := L1.al (.cells #[.int .i64 5, .string { data := #[] }, .int .i64 0, .slice B41 m41 e41] 37); replace D1 := D1.al (.cells #[.int .i64 5, .string { data := #[] }, .int .i64 0, .slice B41 m41 e41] 37); replace Dr := Dr.al (.cells #[.int .i64 5, .string { data := #[] }, .int .i64 0, .slice B41 m41 e41] 37)
          clear cDr fDr
          (try clear cDr fDr); have cDr := Dr.cell; have fDr := Dr.frozen; (try clear cR1 fR1); have cR1 := R1.cell; have fR1 := R1.frozen
          go_wp2_with fail
          go_ret
          exact ⟨ret_bool (by simp; omega), (by repeat (first | (with_reducible exact Below.refl _ _) | (with_reducible assumption) | (with_reducible refine Below.drew ?_) | (with_reducible refine bdrewN ?_ _) | (with_reducible refine balloc ?_ _) | ((with_reducible refine bset ?_ ?_ _); rotate_left; (focus first | exact Nat.le_refl _ | (simp; done) | (simp; omega) | omega)) | (with_reducible refine bstep ?_ (by with_reducible assumption)) | (with_reducible refine Below.trans ?_ (by with_reducible assumption))))⟩
set_option maxRecDepth 100000 in
theorem rankModel_lifted (os : Os) (started : os.Started) (H : Type) (enc : TypeId × Value → H) :
  ReturnsInHanded {} Try.checked os 9 .any (Rows.rankModelSpec.pre6 enc Try.prog Try.f9 Rows.rankModelRow.domain false) (Rows.rankModelSpec.post enc Try.prog Try.f9 false true false false) := by
  refine returnsInHanded_of_change_sized (C := Try.checked) Try.own started (by kernel_rfl) Try.func9 (ChangeSpec.witness6 (enc := enc) (C := Try.checked) false ⟨#[], #[.slice none 0 0], []⟩ 8 (by kernel_rfl) (by kernel_rfl) (by kernel_rfl) (by kernel_rfl)) ?_
  intro W base args ds gs before hval0 hW hcnd hsz0 _
  have hsz : (DataW.weightsEach Try.prog (Try.f9.params.toList ++ Rows.rankModelSpec.plain.varTypes Try.prog) (ds ++ gs)).all (· ≤ reachBytes) = true := hsz0
  clear hsz0
  have hval : ∀ (j : Nat) t v, Try.f9.params[j]? = some t → args[j]? = some v → Value.okWide Try.prog W .any base t v := hval0
  have hW' := hW
  obtain ⟨p, q, hA0, hV, rfl, hfz, hnd⟩ := hW
  have hA : DataW.TrodAll enc Try.prog W 0 (fun _ => true) true Try.f9.params.toList args.toList ds p := hA0
  rw [Try.params9] at hA hval hsz
  obtain ⟨rfl, rfl⟩ := trodVars_none hV
  clear hA0 hval0 hcnd hV hfz hnd
  obtain ⟨v0, d0, rfl, rfl, h0⟩ := trodAll_one hA
  obtain ⟨A, n, c, l, rfl, hd, hS⟩ := open_raws (hval 0 22 v0 rfl rfl) h0
  refine (rankModel_walk A n c l W hS hd (raw_reach (j := 0) h0 hsz rfl rfl)).mono fun e W' ⟨he, hb⟩ => ?_
  subst he
  exact ⟨_, rfl, post_law Try.laidOut hW' rfl (by kernel_rfl) rfl Try.underlying4 (fun _ => rfl) (fun _ => rfl) (fun _ => rfl) hb⟩
theorem rankModel_holds : Rows.RankModelSaid := OpenClaim.holds_of_wide 9 Try.f9 rfl rfl rfl rfl rfl rfl rfl ⟨rfl, rfl, rfl, rfl, rfl⟩ rfl rfl rfl rfl rfl (by kernel_rfl) Try.func9 (by kernel_rfl)
  (of_decide_eq_true (by kernel_rfl)) (by unfold Func.isWrapper; first | (rw [if_pos (by decide +kernel)]; kernel_rfl) | (rw [if_neg (by decide +kernel)]; exact ⟨rfl, rfl⟩))
  (fun os started H enc _ => rankModel_lifted os started H enc)
#print axioms rankModel_holds
end Go.Proofs.Ytcelcanfdalliaa
