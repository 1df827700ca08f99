/- rostrumkeep.NewerOrder returns true for every input and leaves its arguments as they were; no condition. -/
import Derived.Test.YtaldmianlmgloaaLastTold
namespace Go.Proofs.Ytaldmianlmgloaa
set_option linter.all false
open Go.ChangeShapes Go.WideShapes Go.ChangeAt Go.RowKit
theorem newer_cases (b bt b' bt' : Int) (L L' : List Itm) {p t q u : Int} (h : lastOf b bt L = (p, t)) (h' : lastOf b' bt' L' = (q, u)) :
    (t < u ∧ newerB b bt L q u = true ∧ newerB b' bt' L' p t = false) ∨ (u < t ∧ newerB b bt L q u = false ∧ newerB b' bt' L' p t = true) ∨
    (t = u ∧ p ≤ q ∧ newerB b bt L q u = true) ∨ (t = u ∧ q < p ∧ newerB b bt L q u = false ∧ newerB b' bt' L' p t = true) := by
  unfold newerB
  rw [h, h']
  simp only
  by_cases h1 : t < u
  · left; refine ⟨h1, by simp [h1], ?_⟩
    have a1 : ¬ u < t := by omega
    have a2 : (t == u) = false := by simp; omega
    simp [a1, a2]
  by_cases h2 : u < t
  · right; left; refine ⟨h2, ?_, by simp [h2]⟩
    have a2 : (u == t) = false := by simp; omega
    simp [h1, a2]
  have h3 : t = u := by omega
  subst h3
  by_cases h4 : p ≤ q
  · right; right; left; exact ⟨rfl, h4, by simp [h4]⟩
  · right; right; right; refine ⟨rfl, by omega, by simp [h4], ?_⟩
    have a1 : q ≤ p := by omega
    simp [a1]
set_option maxHeartbeats 4000000 in
theorem newerOrder_walk (A : Option Addr) (n c : Nat) (l : List DeedD) (A2 : Option Addr) (n2 c2 : Nat) (l2 : List DeedD) (a b : Int) (w : World) (hS : Sl w 8 A n c (deedRows l)) (hd : ∀ d ∈ l, d.ok)
    (hS2 : Sl w 8 A2 n2 c2 (deedRows l2)) (hd2 : ∀ d ∈ l2, d.ok) (ha : I64 a) (hb : I64 b) :
    Calls Try.prog 7 #[.slice A n c, .slice A2 n2 c2, .int .i64 a, .int .i64 b] w fun e w' => e = .returned (.bool true) ∧ Below w.heap.size w w' := by
  obtain ⟨b1, t1, L1, hG1, -, -, -, HL1⟩ := Log_good A n c l a ha hd
  obtain ⟨b2, t2, L2, hG2, -, -, -, HL2⟩ := Log_good A2 n2 c2 l2 b hb hd2
  clear hd hd2
  obtain ⟨g1, g2, g3, g4, g5, g6⟩ := hG1
  obtain ⟨k1, k2, k3, k4, k5, k6⟩ := hG2
  have hLast1 := fun A c w (h : Sl w 10 A L1.length c (itemRows L1)) => Last_any b1 t1 A _ c L1 w ⟨by omega, by omega⟩ ⟨by omega, by omega⟩ h g1
  have hLast2 := fun A c w (h : Sl w 10 A L2.length c (itemRows L2)) => Last_any b2 t2 A _ c L2 w ⟨by omega, by omega⟩ ⟨by omega, by omega⟩ h k1
  have hN1 := fun A c w q u (h : Sl w 10 A L1.length c (itemRows L1)) => Newer_any b1 t1 A _ c L1 q u w ⟨by omega, by omega⟩ ⟨by omega, by omega⟩ h g1
  have hN2 := fun A c w q u (h : Sl w 10 A L2.length c (itemRows L2)) => Newer_any b2 t2 A _ c L2 q u w ⟨by omega, by omega⟩ ⟨by omega, by omega⟩ h k1
  rcases hpt : lastOf b1 t1 L1 with ⟨p, t⟩
  rcases hqu : lastOf b2 t2 L2 with ⟨q, u⟩
  have hc := newer_cases b1 t1 b2 t2 L1 L2 hpt hqu
  rw [hpt] at hLast1
  rw [hqu] at hLast2
  have hN1 := fun A c w (h : Sl w 10 A L1.length c (itemRows L1)) => hN1 A c w q u h
  have hN2 := fun A c w (h : Sl w 10 A L2.length c (itemRows L2)) => hN2 A c w p t h
  generalize newerB b1 t1 L1 q u = xy at hN1 hc
  generalize newerB b2 t2 L2 p t = yx at hN2 hc
  clear hpt hqu g1 k1
  have HLast1 := hide hLast1; have HLast2 := hide hLast2; have HN1 := hide hN1; have HN2 := hide hN2
  clear hLast1 hLast2 hN1 hN2
  have hc' : (t < u ∧ xy = true ∧ yx = false) ∨ (u < t ∧ xy = false ∧ yx = true) ∨ ((u == t) = true ∧ ¬ t < u ∧ p ≤ q ∧ xy = true) ∨ ((u == t) = true ∧ ¬ t < u ∧ q < p ∧ xy = false ∧ yx = true) := by
    rcases hc with h | h | ⟨h1, h2⟩ | ⟨h1, h2⟩
    · exact .inl h
    · exact .inr (.inl h)
    · exact .inr (.inr (.inl ⟨by simp [h1], by omega, h2⟩))
    · exact .inr (.inr (.inr ⟨by simp [h1], by omega, h2⟩))
  have HC := hide hc'; clear hc' hc
  go_enter Try.func7, Try.ntmps7
  go_wp2_with fail
  refine (HL1.out _ hS).mono ?_
  rintro e w1 ⟨A', c', rfl, hsl, hb1⟩
  go_wp2_with fail
  have hS1 := (hS2.below hb1).alloc (.cells #[.int .i64 b1, .int .i64 t1, .slice A' L1.length c'] 43)
  have hsl1 := hsl.alloc (.cells #[.int .i64 b1, .int .i64 t1, .slice A' L1.length c'] 43)
  have B1 := Blk.new w1 43 #[.int .i64 b1, .int .i64 t1, .slice A' L1.length c']
  refine (HL2.out _ hS1).mono ?_
  rintro e w2 ⟨A2', c2', rfl, hsm, hb2⟩
  have hsl2 := (hsl1.below hb2).alloc (.cells #[.int .i64 b2, .int .i64 t2, .slice A2' L2.length c2'] 43)
  have hsm2 := hsm.alloc (.cells #[.int .i64 b2, .int .i64 t2, .slice A2' L2.length c2'] 43)
  have B2 := (B1.below' hb2).alloc (.cells #[.int .i64 b2, .int .i64 t2, .slice A2' L2.length c2'] 43)
  have D2 := Blk.new w2 43 #[.int .i64 b2, .int .i64 t2, .slice A2' L2.length c2']
  have c2 := B2.cell
  have d2 := D2.cell
  go_wp2_with fail
  refine (HLast1.out _ _ _ hsl2).mono ?_
  rintro e w3 ⟨rfl, hb3⟩
  clear c2 d2
  have hsl3 := hsl2.below hb3
  have hsm3 := hsm2.below hb3
  have B3 := B2.below' hb3
  have D3 := D2.below' hb3
  have c3 := B3.cell
  have d3 := D3.cell
  go_wp2_with fail
  refine (HLast2.out _ _ _ hsm3).mono ?_
  rintro e w4 ⟨rfl, hb4⟩
  clear c3 d3
  have hsl4 := hsl3.below hb4
  have hsm4 := hsm3.below hb4
  have B4 := B3.below' hb4
  have D4 := D3.below' hb4
  have c4 := B4.cell
  have d4 := D4.cell
  go_wp2_with fail
  refine (HN1.out _ _ _ hsl4).mono ?_
  rintro e w5 ⟨rfl, hb5⟩
  clear c4 d4
  have hsm5 := hsm4.below hb5
  have D5 := D4.below' hb5
  have d5 := D5.cell
  go_wp2_with fail
  refine (HN2.out _ _ _ hsm5).mono ?_
  rintro e w6 ⟨rfl, hb6⟩
  clear d5
  rcases HC.out with ⟨h1, rfl, rfl⟩ | ⟨h1, rfl, rfl⟩ | ⟨h1, h2, h3, rfl⟩ | ⟨h1, h2, h3, rfl, rfl⟩
  all_goals go_wp2_with fail
  all_goals go_ret
  all_goals refine ⟨ret_bool ?_, (by repeat (first | (with_reducible exact Below.refl _ _) | (with_reducible assumption) | (with_reducible refine Below.drew ?_) | (with_reducible refine bdrewN ?_ _) | (with_reducible refine balloc ?_ _) | ((with_reducible refine bset ?_ ?_ _); rotate_left; (focus first | exact Nat.le_refl _ | (simp; done) | (simp; omega) | omega)) | (with_reducible refine bstep ?_ (by with_reducible assumption)) | (with_reducible refine Below.trans ?_ (by with_reducible assumption))))⟩
  all_goals first | rfl | (simp; done) | (simp; omega) | (simp_all; done) | (simp_all; omega)
set_option maxRecDepth 100000 in
theorem newerOrder_lifted (os : Os) (started : os.Started) (H : Type) (enc : TypeId × Value → H) :
  ReturnsInHanded {} Try.checked os 7 .any (Rows.newerOrderSpec.pre6 enc Try.prog Try.f7 Rows.newerOrderRow.domain false) (Rows.newerOrderSpec.post enc Try.prog Try.f7 false true false false) := by
  refine returnsInHanded_of_change (C := Try.checked) Try.own started (by kernel_rfl) Try.func7 (ChangeSpec.witness6 (enc := enc) (C := Try.checked) false ⟨#[], #[.slice none 0 0, .slice none 0 0, .int .i64 0, .int .i64 0], []⟩ 8 (by kernel_rfl) (by kernel_rfl) (by kernel_rfl) (by kernel_rfl)) ?_
  intro W base args ds gs before hval0 hW hcnd _
  have hval : ∀ (j : Nat) t v, Try.f7.params[j]? = some t → args[j]? = some v → Value.okWide Try.prog W .any base t v := hval0
  have hW' := hW
  obtain ⟨p, q, hA0, hV, rfl, hfz, hnd⟩ := hW
  have hA : DataW.TrodAll enc Try.prog W 0 (fun _ => true) true Try.f7.params.toList args.toList ds p := hA0
  rw [Try.params7] at hA hval
  obtain ⟨rfl, rfl⟩ := trodVars_none hV
  clear hA0 hval0 hcnd hV hfz hnd
  obtain ⟨v0, v1, v2, v3, d0, d1, d2, d3, p0, p1, p2, p3, rfl, rfl, rfl, h0, h1, h2, h3⟩ := trodAll_four hA
  obtain ⟨A, n, c, l, rfl, hd, hS⟩ := open_deeds (hval 0 40 v0 rfl rfl) h0
  obtain ⟨A2, n2, c2, l2, rfl, hd2, hS2⟩ := open_deeds (hval 1 40 v1 rfl rfl) h1
  obtain ⟨a, rfl, rfl, rfl, w2⟩ := open_int Try.underlying3 (hval 2 3 v2 rfl rfl) h2
  obtain ⟨b, rfl, rfl, rfl, w3⟩ := open_int Try.underlying3 (hval 3 3 v3 rfl rfl) h3
  refine (newerOrder_walk A n c l A2 n2 c2 l2 a b W hS hd hS2 hd2 (i64_bounds w2) (i64_bounds w3)).mono fun e W' ⟨he, hb⟩ => ?_
  subst he
  exact ⟨_, rfl, post_law Try.laidOut hW' rfl (by kernel_rfl) rfl Try.underlying4 (fun _ => rfl) (fun _ => rfl) (fun _ => rfl) hb⟩
theorem newerOrder_holds : Rows.NewerOrderSaid := OpenClaim.holds_of_wide 7 Try.f7 rfl rfl rfl rfl rfl rfl rfl ⟨rfl, rfl, rfl, rfl, rfl⟩ rfl rfl rfl rfl rfl (by kernel_rfl) Try.func7 (by kernel_rfl)
  (of_decide_eq_true (by kernel_rfl)) (by unfold Func.isWrapper; first | (rw [if_pos (by decide +kernel)]; kernel_rfl) | (rw [if_neg (by decide +kernel)]; exact ⟨rfl, rfl⟩))
  (fun os started H enc _ => newerOrder_lifted os started H enc)
#print axioms newerOrder_holds
end Go.Proofs.Ytaldmianlmgloaa
