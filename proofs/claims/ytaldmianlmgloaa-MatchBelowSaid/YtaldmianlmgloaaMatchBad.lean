/- rostrumkeep.MatchBad returns true for every input and leaves its arguments as they were; no condition. -/
import Derived.Test.YtaldmianlmgloaaMatch
import Derived.Test.YtaldmianlmgloaaPushes
namespace Go.Proofs.Ytaldmianlmgloaa
set_option linter.all false
open Go.ChangeShapes Go.WideShapes Go.ChangeAt Go.RowKit
def nopAt (t m : Int) : Itm := { term := t, time := m, nop := true, client := 0, seq := 0, cmd := zeroCmd }
theorem falls_bad (b bt t m t' m' : Int) (h : t' < t ∨ m' < m) : checkLog b bt [nopAt t m, nopAt t' m'] = 13 := by
  have hc : chainOk bt 0 [nopAt t m, nopAt t' m'] = false := by
    rcases h with h | h <;> simp [chainOk, nopAt, h]
  unfold checkLog
  rw [hc]
  split <;> rfl
set_option maxHeartbeats 4000000 in
theorem matchBad_walk (A : Option Addr) (n c : Nat) (l : List DeedD) (base : Int) (which : Bool) (w : World) (hS : Sl w 8 A n c (deedRows l)) (hd : ∀ d ∈ l, d.ok) (hb : I64 base) :
    Calls Try.prog 14 #[.slice A n c, .int .i64 base, .bool which] w fun e w' => e = .returned (.bool true) ∧ Below w.heap.size w w' := by
  obtain ⟨b, bt, L, hG, -, -, -, HL⟩ := Log_good A n c l base hb hd
  clear hd
  obtain ⟨g1, g2, g3, g4, g5, g6⟩ := hG
  have hz0 : checkLog 1 0 [] = 13 := by decide
  cases which
  · have hf := falls_bad b bt 9 9 8 9 (by omega)
    have hf0 := falls_bad 0 0 9 9 8 9 (by omega)
    have hM := fun A c B w (h : Sl w 10 A L.length c (itemRows L)) (h2 : Sl w 10 B 2 2 (itemRows [nopAt 9 9, nopAt 8 9])) => Match_bad b bt A _ c L b bt B 2 2 [nopAt 9 9, nopAt 8 9] w ⟨by omega, by omega⟩ ⟨by omega, by omega⟩ h g1 ⟨by omega, by omega⟩ ⟨by omega, by omega⟩ h2 (by rw [hf]; decide)
    have hC := fun B w (h2 : Sl w 10 B 2 2 (itemRows [nopAt 9 9, nopAt 8 9])) => Check_any 0 0 B 2 2 [nopAt 9 9, nopAt 8 9] w ⟨by omega, by omega⟩ ⟨by omega, by omega⟩ h2
    have hC1 := fun w => Check_any 1 0 none 0 0 [] w ⟨by omega, by omega⟩ ⟨by omega, by omega⟩ (Sl.nil_ _ _)
    rw [hf0] at hC
    rw [hz0] at hC1
    have HM := hide hM; have HC := hide hC; have HC1 := hide hC1
    clear hM hC hC1 hf hf0 hz0 g1
    go_enter Try.func14, Try.ntmps14
    go_wp2_with fail
    refine (HL.out _ hS).mono ?_
    rintro e w1 ⟨A', c', rfl, hsl, hb1⟩
    have hz1 : w.heap.size ≤ w1.heap.size := hb1.size
    replace hsl := hsl.al (.cells #[.int .i64 b, .int .i64 bt, .slice A' L.length c'] 43); replace hsl := hsl.al (.cells #[.int .i64 9, .int .i64 9, .bool true, .int .i64 0, .int .i64 0, .int .i64 0, .string emp, .string emp, .string emp, .int .i64 0] 48); replace hsl := hsl.al (.cells #[.int .i64 8, .int .i64 9, .bool true, .int .i64 0, .int .i64 0, .int .i64 0, .string emp, .string emp, .string emp, .int .i64 0] 48); replace hsl := hsl.al (.cells #[.int .i64 9, .int .i64 9, .bool true, .int .i64 0, .int .i64 0, .int .i64 0, .string emp, .string emp, .string emp, .int .i64 0, .int .i64 8, .int .i64 9, .bool true, .int .i64 0, .int .i64 0, .int .i64 0, .string emp, .string emp, .string emp, .int .i64 0] 48)
    have Ia := ((Blk.new (w1.alloc (.cells #[.int .i64 b, .int .i64 bt, .slice A' L.length c'] 43)) 48 #[.int .i64 9, .int .i64 9, .bool true, .int .i64 0, .int .i64 0, .int .i64 0, .string emp, .string emp, .string emp, .int .i64 0]).alloc (.cells #[.int .i64 8, .int .i64 9, .bool true, .int .i64 0, .int .i64 0, .int .i64 0, .string emp, .string emp, .string emp, .int .i64 0] 48)).alloc (.cells #[.int .i64 9, .int .i64 9, .bool true, .int .i64 0, .int .i64 0, .int .i64 0, .string emp, .string emp, .string emp, .int .i64 0, .int .i64 8, .int .i64 9, .bool true, .int .i64 0, .int .i64 0, .int .i64 0, .string emp, .string emp, .string emp, .int .i64 0] 48)
    have Ib := (Blk.new ((w1.alloc (.cells #[.int .i64 b, .int .i64 bt, .slice A' L.length c'] 43)).alloc (.cells #[.int .i64 9, .int .i64 9, .bool true, .int .i64 0, .int .i64 0, .int .i64 0, .string emp, .string emp, .string emp, .int .i64 0] 48)) 48 #[.int .i64 8, .int .i64 9, .bool true, .int .i64 0, .int .i64 0, .int .i64 0, .string emp, .string emp, .string emp, .int .i64 0]).alloc (.cells #[.int .i64 9, .int .i64 9, .bool true, .int .i64 0, .int .i64 0, .int .i64 0, .string emp, .string emp, .string emp, .int .i64 0, .int .i64 8, .int .i64 9, .bool true, .int .i64 0, .int .i64 0, .int .i64 0, .string emp, .string emp, .string emp, .int .i64 0] 48)
    have Iab := Blk.new (((w1.alloc (.cells #[.int .i64 b, .int .i64 bt, .slice A' L.length c'] 43)).alloc (.cells #[.int .i64 9, .int .i64 9, .bool true, .int .i64 0, .int .i64 0, .int .i64 0, .string emp, .string emp, .string emp, .int .i64 0] 48)).alloc (.cells #[.int .i64 8, .int .i64 9, .bool true, .int .i64 0, .int .i64 0, .int .i64 0, .string emp, .string emp, .string emp, .int .i64 0] 48)) 48 #[.int .i64 9, .int .i64 9, .bool true, .int .i64 0, .int .i64 0, .int .i64 0, .string emp, .string emp, .string emp, .int .i64 0, .int .i64 8, .int .i64 9, .bool true, .int .i64 0, .int .i64 0, .int .i64 0, .string emp, .string emp, .string emp, .int .i64 0]
    simp only [World.size_alloc] at Ia Ib Iab
    have hsab := Sl.of_blk Iab (rows := itemRows [nopAt 9 9, nopAt 8 9]) (size := 10) rfl (by intro r hr; simp only [itemRows, List.map_cons, List.map_nil, List.mem_cons, List.not_mem_nil, or_false] at hr; rcases hr with rfl | rfl <;> rfl) rfl (by decide)
    go_wp2_with fail
    refine (HM.out _ _ _ _ hsl hsab).mono ?_
    rintro e w2 ⟨hb2, rfl⟩
    replace Ia := Ia.bl hb2; replace Ib := Ib.bl hb2
    replace Ia := Ia.al (.cells #[.int .i64 0, .int .i64 0, .slice none 0 0] 43); replace Ib := Ib.al (.cells #[.int .i64 0, .int .i64 0, .slice none 0 0] 43)
    have Lx := (Blk.new w2 43 #[.int .i64 0, .int .i64 0, .slice none 0 0]).alloc (.cells #[.int .i64 9, .int .i64 9, .bool true, .int .i64 0, .int .i64 0, .int .i64 0, .string emp, .string emp, .string emp, .int .i64 0, .int .i64 8, .int .i64 9, .bool true, .int .i64 0, .int .i64 0, .int .i64 0, .string emp, .string emp, .string emp, .int .i64 0] 48)
    (try clear cIa fIa); have cIa := Ia.cell; have fIa := Ia.frozen; (try clear cIb fIb); have cIb := Ib.cell; have fIb := Ib.frozen
    have hsab2 := Sl.of_blk (Blk.new' (w2.alloc (.cells #[.int .i64 0, .int .i64 0, .slice none 0 0] 43)) 48 #[.int .i64 9, .int .i64 9, .bool true, .int .i64 0, .int .i64 0, .int .i64 0, .string emp, .string emp, .string emp, .int .i64 0, .int .i64 8, .int .i64 9, .bool true, .int .i64 0, .int .i64 0, .int .i64 0, .string emp, .string emp, .string emp, .int .i64 0] rfl) (rows := itemRows [nopAt 9 9, nopAt 8 9]) (size := 10) rfl (by intro r hr; simp only [itemRows, List.map_cons, List.map_nil, List.mem_cons, List.not_mem_nil, or_false] at hr; rcases hr with rfl | rfl <;> rfl) rfl (by decide)
    simp only [World.size_alloc] at hsab2
    go_wp2_with fail
    refine (HC.out _ _ hsab2).mono ?_
    rintro e w3 ⟨rfl, hb3⟩
    replace Lx := Lx.bl hb3
    clear cIa fIa cIb fIb
    go_wp2_with fail
    refine (HC1.out _).mono ?_
    rintro e w4 ⟨rfl, hb4⟩
    replace Lx := Lx.bl hb4
    (try clear cLx fLx); have cLx := Lx.cell; have fLx := Lx.frozen
    go_wp2_with fail
    try go_quiet (fail)
    go_wp2_with fail
    go_ret
    exact ⟨rfl, (by repeat (first | (with_reducible exact Below.refl _ _) | (with_reducible assumption) | (with_reducible refine Below.drew ?_) | (with_reducible refine bdrewN ?_ _) | (with_reducible refine balloc ?_ _) | ((with_reducible refine bset ?_ ?_ _); rotate_left; (focus first | exact Nat.le_refl _ | (simp; done) | (simp; omega) | omega)) | (with_reducible refine bstep ?_ (by with_reducible assumption)) | (with_reducible refine Below.trans ?_ (by with_reducible assumption))))⟩
  · have hf := falls_bad b bt 9 9 9 8 (by omega)
    have hf0 := falls_bad 0 0 9 9 9 8 (by omega)
    have hM := fun A c B w (h : Sl w 10 A L.length c (itemRows L)) (h2 : Sl w 10 B 2 2 (itemRows [nopAt 9 9, nopAt 9 8])) => Match_bad b bt A _ c L b bt B 2 2 [nopAt 9 9, nopAt 9 8] w ⟨by omega, by omega⟩ ⟨by omega, by omega⟩ h g1 ⟨by omega, by omega⟩ ⟨by omega, by omega⟩ h2 (by rw [hf]; decide)
    have hC := fun B w (h2 : Sl w 10 B 2 2 (itemRows [nopAt 9 9, nopAt 9 8])) => Check_any 0 0 B 2 2 [nopAt 9 9, nopAt 9 8] w ⟨by omega, by omega⟩ ⟨by omega, by omega⟩ h2
    have hC1 := fun w => Check_any 1 0 none 0 0 [] w ⟨by omega, by omega⟩ ⟨by omega, by omega⟩ (Sl.nil_ _ _)
    rw [hf0] at hC
    rw [hz0] at hC1
    have HM := hide hM; have HC := hide hC; have HC1 := hide hC1
    clear hM hC hC1 hf hf0 hz0 g1
    go_enter Try.func14, Try.ntmps14
    go_wp2_with fail
    refine (HL.out _ hS).mono ?_
    rintro e w1 ⟨A', c', rfl, hsl, hb1⟩
    have hz1 : w.heap.size ≤ w1.heap.size := hb1.size
    replace hsl := hsl.al (.cells #[.int .i64 b, .int .i64 bt, .slice A' L.length c'] 43); replace hsl := hsl.al (.cells #[.int .i64 9, .int .i64 9, .bool true, .int .i64 0, .int .i64 0, .int .i64 0, .string emp, .string emp, .string emp, .int .i64 0] 48); replace hsl := hsl.al (.cells #[.int .i64 9, .int .i64 8, .bool true, .int .i64 0, .int .i64 0, .int .i64 0, .string emp, .string emp, .string emp, .int .i64 0] 48); replace hsl := hsl.al (.cells #[.int .i64 9, .int .i64 9, .bool true, .int .i64 0, .int .i64 0, .int .i64 0, .string emp, .string emp, .string emp, .int .i64 0, .int .i64 9, .int .i64 8, .bool true, .int .i64 0, .int .i64 0, .int .i64 0, .string emp, .string emp, .string emp, .int .i64 0] 48)
    have Ia := ((Blk.new (w1.alloc (.cells #[.int .i64 b, .int .i64 bt, .slice A' L.length c'] 43)) 48 #[.int .i64 9, .int .i64 9, .bool true, .int .i64 0, .int .i64 0, .int .i64 0, .string emp, .string emp, .string emp, .int .i64 0]).alloc (.cells #[.int .i64 9, .int .i64 8, .bool true, .int .i64 0, .int .i64 0, .int .i64 0, .string emp, .string emp, .string emp, .int .i64 0] 48)).alloc (.cells #[.int .i64 9, .int .i64 9, .bool true, .int .i64 0, .int .i64 0, .int .i64 0, .string emp, .string emp, .string emp, .int .i64 0, .int .i64 9, .int .i64 8, .bool true, .int .i64 0, .int .i64 0, .int .i64 0, .string emp, .string emp, .string emp, .int .i64 0] 48)
    have Ib := (Blk.new ((w1.alloc (.cells #[.int .i64 b, .int .i64 bt, .slice A' L.length c'] 43)).alloc (.cells #[.int .i64 9, .int .i64 9, .bool true, .int .i64 0, .int .i64 0, .int .i64 0, .string emp, .string emp, .string emp, .int .i64 0] 48)) 48 #[.int .i64 9, .int .i64 8, .bool true, .int .i64 0, .int .i64 0, .int .i64 0, .string emp, .string emp, .string emp, .int .i64 0]).alloc (.cells #[.int .i64 9, .int .i64 9, .bool true, .int .i64 0, .int .i64 0, .int .i64 0, .string emp, .string emp, .string emp, .int .i64 0, .int .i64 9, .int .i64 8, .bool true, .int .i64 0, .int .i64 0, .int .i64 0, .string emp, .string emp, .string emp, .int .i64 0] 48)
    have Iab := Blk.new (((w1.alloc (.cells #[.int .i64 b, .int .i64 bt, .slice A' L.length c'] 43)).alloc (.cells #[.int .i64 9, .int .i64 9, .bool true, .int .i64 0, .int .i64 0, .int .i64 0, .string emp, .string emp, .string emp, .int .i64 0] 48)).alloc (.cells #[.int .i64 9, .int .i64 8, .bool true, .int .i64 0, .int .i64 0, .int .i64 0, .string emp, .string emp, .string emp, .int .i64 0] 48)) 48 #[.int .i64 9, .int .i64 9, .bool true, .int .i64 0, .int .i64 0, .int .i64 0, .string emp, .string emp, .string emp, .int .i64 0, .int .i64 9, .int .i64 8, .bool true, .int .i64 0, .int .i64 0, .int .i64 0, .string emp, .string emp, .string emp, .int .i64 0]
    simp only [World.size_alloc] at Ia Ib Iab
    have hsab := Sl.of_blk Iab (rows := itemRows [nopAt 9 9, nopAt 9 8]) (size := 10) rfl (by intro r hr; simp only [itemRows, List.map_cons, List.map_nil, List.mem_cons, List.not_mem_nil, or_false] at hr; rcases hr with rfl | rfl <;> rfl) rfl (by decide)
    go_wp2_with fail
    refine (HM.out _ _ _ _ hsl hsab).mono ?_
    rintro e w2 ⟨hb2, rfl⟩
    replace Ia := Ia.bl hb2; replace Ib := Ib.bl hb2
    replace Ia := Ia.al (.cells #[.int .i64 0, .int .i64 0, .slice none 0 0] 43); replace Ib := Ib.al (.cells #[.int .i64 0, .int .i64 0, .slice none 0 0] 43)
    have Lx := (Blk.new w2 43 #[.int .i64 0, .int .i64 0, .slice none 0 0]).alloc (.cells #[.int .i64 9, .int .i64 9, .bool true, .int .i64 0, .int .i64 0, .int .i64 0, .string emp, .string emp, .string emp, .int .i64 0, .int .i64 9, .int .i64 8, .bool true, .int .i64 0, .int .i64 0, .int .i64 0, .string emp, .string emp, .string emp, .int .i64 0] 48)
    (try clear cIa fIa); have cIa := Ia.cell; have fIa := Ia.frozen; (try clear cIb fIb); have cIb := Ib.cell; have fIb := Ib.frozen
    have hsab2 := Sl.of_blk (Blk.new' (w2.alloc (.cells #[.int .i64 0, .int .i64 0, .slice none 0 0] 43)) 48 #[.int .i64 9, .int .i64 9, .bool true, .int .i64 0, .int .i64 0, .int .i64 0, .string emp, .string emp, .string emp, .int .i64 0, .int .i64 9, .int .i64 8, .bool true, .int .i64 0, .int .i64 0, .int .i64 0, .string emp, .string emp, .string emp, .int .i64 0] rfl) (rows := itemRows [nopAt 9 9, nopAt 9 8]) (size := 10) rfl (by intro r hr; simp only [itemRows, List.map_cons, List.map_nil, List.mem_cons, List.not_mem_nil, or_false] at hr; rcases hr with rfl | rfl <;> rfl) rfl (by decide)
    simp only [World.size_alloc] at hsab2
    go_wp2_with fail
    refine (HC.out _ _ hsab2).mono ?_
    rintro e w3 ⟨rfl, hb3⟩
    replace Lx := Lx.bl hb3
    clear cIa fIa cIb fIb
    go_wp2_with fail
    refine (HC1.out _).mono ?_
    rintro e w4 ⟨rfl, hb4⟩
    replace Lx := Lx.bl hb4
    (try clear cLx fLx); have cLx := Lx.cell; have fLx := Lx.frozen
    go_wp2_with fail
    try go_quiet (fail)
    go_wp2_with fail
    go_ret
    exact ⟨rfl, (by repeat (first | (with_reducible exact Below.refl _ _) | (with_reducible assumption) | (with_reducible refine Below.drew ?_) | (with_reducible refine bdrewN ?_ _) | (with_reducible refine balloc ?_ _) | ((with_reducible refine bset ?_ ?_ _); rotate_left; (focus first | exact Nat.le_refl _ | (simp; done) | (simp; omega) | omega)) | (with_reducible refine bstep ?_ (by with_reducible assumption)) | (with_reducible refine Below.trans ?_ (by with_reducible assumption))))⟩
set_option maxRecDepth 100000 in
theorem matchBad_lifted (os : Os) (started : os.Started) (H : Type) (enc : TypeId × Value → H) :
  ReturnsInHanded {} Try.checked os 14 .any (Rows.matchBadSpec.pre6 enc Try.prog Try.f14 Rows.matchBadRow.domain false) (Rows.matchBadSpec.post enc Try.prog Try.f14 false true false false) := by
  refine returnsInHanded_of_change (C := Try.checked) Try.own started (by kernel_rfl) Try.func14 (ChangeSpec.witness6 (enc := enc) (C := Try.checked) false ⟨#[], #[.slice none 0 0, .int .i64 0, .bool false], []⟩ 8 (by kernel_rfl) (by kernel_rfl) (by kernel_rfl) (by kernel_rfl)) ?_
  intro W base args ds gs before hval0 hW hcnd _
  have hval : ∀ (j : Nat) t v, Try.f14.params[j]? = some t → args[j]? = some v → Value.okWide Try.prog W .any base t v := hval0
  have hW' := hW
  obtain ⟨p, q, hA0, hV, rfl, hfz, hnd⟩ := hW
  have hA : DataW.TrodAll enc Try.prog W 0 (fun _ => true) true Try.f14.params.toList args.toList ds p := hA0
  rw [Try.params14] at hA hval
  obtain ⟨rfl, rfl⟩ := trodVars_none hV
  clear hA0 hval0 hcnd hV hfz hnd
  obtain ⟨v0, v1, v2, d0, d1, d2, p0, p1, p2, rfl, rfl, rfl, h0, h1, h2⟩ := trodAll_three hA
  obtain ⟨A, n, c, l, rfl, hd, hS⟩ := open_deeds (hval 0 40 v0 rfl rfl) h0
  obtain ⟨m1, rfl, rfl, rfl, w1⟩ := open_int Try.underlying3 (hval 1 3 v1 rfl rfl) h1
  obtain ⟨m2, rfl, rfl, rfl⟩ := open_bool Try.underlying4 (hval 2 4 v2 rfl rfl) h2
  refine (matchBad_walk A n c l m1 m2 W hS hd (i64_bounds w1)).mono fun e W' ⟨he, hb⟩ => ?_
  subst he
  exact ⟨_, rfl, post_law Try.laidOut hW' rfl (by kernel_rfl) rfl Try.underlying4 (fun _ => rfl) (fun _ => rfl) (fun _ => rfl) hb⟩
theorem matchBad_holds : Rows.MatchBadSaid := OpenClaim.holds_of_wide 14 Try.f14 rfl rfl rfl rfl rfl rfl rfl ⟨rfl, rfl, rfl, rfl, rfl⟩ rfl rfl rfl rfl rfl (by kernel_rfl) Try.func14 (by kernel_rfl)
  (of_decide_eq_true (by kernel_rfl)) (by unfold Func.isWrapper; first | (rw [if_pos (by decide +kernel)]; kernel_rfl) | (rw [if_neg (by decide +kernel)]; exact ⟨rfl, rfl⟩))
  (fun os started H enc _ => matchBad_lifted os started H enc)
#print axioms matchBad_holds
end Go.Proofs.Ytaldmianlmgloaa
