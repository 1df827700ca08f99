/- rostrumkeep.TermTold returns true for every input and leaves its arguments as they were; no condition. -/
import Derived.Test.YtaldmianlmgloaaLastTold
namespace Go.Proofs.Ytaldmianlmgloaa
set_option linter.all false
open Go.ChangeShapes Go.WideShapes Go.ChangeAt Go.RowKit
set_option maxHeartbeats 4000000 in
theorem termTold_walk (A : Option Addr) (n c : Nat) (l : List DeedD) (base : Int) (w : World) (hS : Sl w 8 A n c (deedRows l)) (hd : ∀ d ∈ l, d.ok) (hb : I64 base) :
    Calls Try.prog 6 #[.slice A n c, .int .i64 base] w fun e w' => e = .returned (.bool true) ∧ Below w.heap.size w w' := by
  obtain ⟨b, bt, L, hG, -, -, -, HL⟩ := Log_good A n c l base hb hd
  clear hd
  obtain ⟨g1, g2, g3, g4, g5, g6⟩ := hG
  have hT := fun A c p (hp : I64 p) w (h : Sl w 10 A L.length c (itemRows L)) => Term_any b bt A _ c L p w ⟨by omega, by omega⟩ ⟨by omega, by omega⟩ hp h g1
  have hTk : ∀ A c (k : Nat) (hk : k < L.length) w (h : Sl w 10 A L.length c (itemRows L)), Calls Try.prog 21 #[.agg #[.int .i64 b, .int .i64 bt, .slice A L.length c], .int .i64 (b + 1 + k)] w fun e w' => e = .returned (.tuple #[.int .i64 L[k].term, .int .i64 0]) ∧ Below w.heap.size w w' := by
    intro A c k hk w h
    have := hT A c (b + 1 + k) ⟨by omega, by omega⟩ w h
    rw [termE_in (by omega) (by omega), termOf_at hk] at this
    exact this
  have hT1 := fun A c w (h : Sl w 10 A L.length c (itemRows L)) => hT A c b ⟨by omega, by omega⟩ w h
  rw [termE_in (by omega) (by omega), termOf_eq] at hT1
  have hT3 := fun A c w (h : Sl w 10 A L.length c (itemRows L)) => hT A c 1048577 ⟨by omega, by omega⟩ w h
  rw [show termE b bt L 1048577 = (0, 2) by unfold termE; rw [if_pos (by omega)]] at hT3
  have hT2 := fun A c w (h : Sl w 10 A L.length c (itemRows L)) => hT A c (b - 1) ⟨by omega, by omega⟩ w h
  have hfe : ∃ fe : Int, termE b bt L (b - 1) = (0, fe) ∧ (((b == 0) = true ∧ fe = 2) ∨ ((b == 0) = false ∧ fe = 11)) := by
    by_cases h0 : b = 0
    · subst h0; exact ⟨2, by unfold termE; rw [if_pos (by omega)], .inl ⟨by simp, rfl⟩⟩
    · exact ⟨11, by rw [termE_in (by omega) (by omega), termOf_lt (by omega)], .inr ⟨by simpa using h0, rfl⟩⟩
  obtain ⟨fe, hfe1, hfe2⟩ := hfe
  rw [hfe1] at hT2
  simp only at hT1 hT2 hT3
  have HT1 := hide hT1; have HT2 := hide hT2; have HT3 := hide hT3; have HTk := hide hTk; have HF := hide hfe2
  clear hT hT1 hT2 hT3 hTk hfe1 hfe2 g1
  go_enter Try.func6, Try.ntmps6
  go_wp2_with fail
  refine (HL.out _ hS).mono ?_
  rintro e w1 ⟨A', c', rfl, hsl, hb1⟩
  have hsl1 := hsl.alloc (.cells #[.int .i64 b, .int .i64 bt, .slice A' L.length c'] 43)
  have B1 := Blk.new w1 43 #[.int .i64 b, .int .i64 bt, .slice A' L.length c']
  go_wp2_with fail
  go_loopw [6] (fun s6 wr => ∃ k : Nat, k ≤ L.length ∧ s6 = .int .i64 k ∧ Blk wr w1.heap.size 43 #[.int .i64 b, .int .i64 bt, .slice A' L.length c'] ∧ Sl wr 10 A' L.length c' (itemRows L) ∧ Below w.heap.size w wr)
    (fun s6 _ => L.length - (intOf s6).toNat)
  case atStart => exact ⟨0, by omega, rfl, B1, hsl1, (by repeat (first | (with_reducible exact Below.refl _ _) | (with_reducible assumption) | (with_reducible refine Below.drew ?_) | (with_reducible refine bdrewN ?_ _) | (with_reducible refine balloc ?_ _) | ((with_reducible refine bset ?_ ?_ _); rotate_left; (focus first | exact Nat.le_refl _ | (simp; done) | (simp; omega) | omega)) | (with_reducible refine bstep ?_ (by with_reducible assumption)) | (with_reducible refine Below.trans ?_ (by with_reducible assumption))))⟩
  case round =>
    obtain ⟨k, hk, rfl, Br, hsr, hbr⟩ := hrel
    have cr := Br.cell
    by_cases hlt : k < L.length
    · have hx := HTk.out A' c' k hlt
      have HX := hide hx; clear hx
      go_wp2_with fail
      refine (HX.out _ hsr).mono ?_
      rintro e w3 ⟨rfl, hb3⟩
      clear cr
      have B3 := Br.below' hb3
      have c3 := B3.cell
      have hs3 := hsr.below hb3
      obtain ⟨b2, o2, rfl, _, ⟨j0, _⟩⟩ := hs3.item hlt
      generalize L[k] = x at j0
      go_wp2_with fail
      go_roundw
      case rel => exact ⟨k + 1, by omega, by go_num, B3, hs3, (by repeat (first | (with_reducible exact Below.refl _ _) | (with_reducible assumption) | (with_reducible refine Below.drew ?_) | (with_reducible refine bdrewN ?_ _) | (with_reducible refine balloc ?_ _) | ((with_reducible refine bset ?_ ?_ _); rotate_left; (focus first | exact Nat.le_refl _ | (simp; done) | (simp; omega) | omega)) | (with_reducible refine bstep ?_ (by with_reducible assumption)) | (with_reducible refine Below.trans ?_ (by with_reducible assumption))))⟩
      case measure => simp [intOf]; omega
    · obtain rfl : k = L.length := by omega
      go_wp2_with fail
      refine (HT1.out _ _ _ hsr).mono ?_
      rintro e w3 ⟨rfl, hb3⟩
      clear cr
      have B3 := Br.below' hb3
      have c3 := B3.cell
      have hs3 := hsr.below hb3
      go_wp2_with fail
      refine (HT2.out _ _ _ hs3).mono ?_
      rintro e w4 ⟨rfl, hb4⟩
      clear c3
      have B4 := B3.below' hb4
      have c4 := B4.cell
      have hs4 := hs3.below hb4
      go_wp2_with fail
      refine (HT3.out _ _ _ hs4).mono ?_
      rintro e w5 ⟨rfl, hb5⟩
      clear c4
      have B5 := B4.below' hb5
      have c5 := B5.cell
      rcases HF.out with ⟨h1, rfl⟩ | ⟨h1, rfl⟩
      all_goals
        go_wp2_with fail
        go_ret
        exact ⟨rfl, (by repeat (first | (with_reducible exact Below.refl _ _) | (with_reducible assumption) | (with_reducible refine Below.drew ?_) | (with_reducible refine bdrewN ?_ _) | (with_reducible refine balloc ?_ _) | ((with_reducible refine bset ?_ ?_ _); rotate_left; (focus first | exact Nat.le_refl _ | (simp; done) | (simp; omega) | omega)) | (with_reducible refine bstep ?_ (by with_reducible assumption)) | (with_reducible refine Below.trans ?_ (by with_reducible assumption))))⟩
set_option maxRecDepth 100000 in
theorem termTold_lifted (os : Os) (started : os.Started) (H : Type) (enc : TypeId × Value → H) :
  ReturnsInHanded {} Try.checked os 6 .any (Rows.termToldSpec.pre6 enc Try.prog Try.f6 Rows.termToldRow.domain false) (Rows.termToldSpec.post enc Try.prog Try.f6 false true false false) := by
  refine returnsInHanded_of_change (C := Try.checked) Try.own started (by kernel_rfl) Try.func6 (ChangeSpec.witness6 (enc := enc) (C := Try.checked) false ⟨#[], #[.slice none 0 0, .int .i64 0], []⟩ 8 (by kernel_rfl) (by kernel_rfl) (by kernel_rfl) (by kernel_rfl)) ?_
  intro W base args ds gs before hval0 hW hcnd _
  have hval : ∀ (j : Nat) t v, Try.f6.params[j]? = some t → args[j]? = some v → Value.okWide Try.prog W .any base t v := hval0
  have hW' := hW
  obtain ⟨p, q, hA0, hV, rfl, hfz, hnd⟩ := hW
  have hA : DataW.TrodAll enc Try.prog W 0 (fun _ => true) true Try.f6.params.toList args.toList ds p := hA0
  rw [Try.params6] at hA hval
  obtain ⟨rfl, rfl⟩ := trodVars_none hV
  clear hA0 hval0 hcnd hV hfz hnd
  obtain ⟨v0, v1, d0, d1, p0, p1, rfl, rfl, rfl, h0, h1⟩ := trodAll_two hA
  obtain ⟨A, n, c, l, rfl, hd, hS⟩ := open_deeds (hval 0 40 v0 rfl rfl) h0
  obtain ⟨m, rfl, rfl, rfl, w1⟩ := open_int Try.underlying3 (hval 1 3 v1 rfl rfl) h1
  refine (termTold_walk A n c l m W hS hd (i64_bounds w1)).mono fun e W' ⟨he, hb⟩ => ?_
  subst he
  exact ⟨_, rfl, post_law Try.laidOut hW' rfl (by kernel_rfl) rfl Try.underlying4 (fun _ => rfl) (fun _ => rfl) (fun _ => rfl) hb⟩
theorem termTold_holds : Rows.TermToldSaid := OpenClaim.holds_of_wide 6 Try.f6 rfl rfl rfl rfl rfl rfl rfl ⟨rfl, rfl, rfl, rfl, rfl⟩ rfl rfl rfl rfl rfl (by kernel_rfl) Try.func6 (by kernel_rfl)
  (of_decide_eq_true (by kernel_rfl)) (by unfold Func.isWrapper; first | (rw [if_pos (by decide +kernel)]; kernel_rfl) | (rw [if_neg (by decide +kernel)]; exact ⟨rfl, rfl⟩))
  (fun os started H enc _ => termTold_lifted os started H enc)
#print axioms termTold_holds
end Go.Proofs.Ytaldmianlmgloaa
