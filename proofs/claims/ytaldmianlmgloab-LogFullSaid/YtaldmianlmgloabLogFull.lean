/- rostrumkeep.LogFull returns true for every input and leaves its arguments as they were; no condition. -/
import Derived.Test.YtaldmianlmgloabMatchQ
import Derived.Test.YtaldmianlmgloabMatchBad
import Derived.Test.YtaldmianlmgloabMatchBelow
namespace Go.Proofs.Ytaldmianlmgloab
set_option linter.all false
open Go.ChangeShapes Go.WideShapes Go.ChangeAt Go.RowKit
theorem chain_ones : ∀ (j : Nat) (t : Int), t ≤ 1 → chainOk t 0 (List.replicate j (nopAt 1 0)) = true
  | 0, _, _ => rfl
  | j + 1, t, ht => by
    have a1 : decide ((nopAt 1 0).term < t) = false := by show decide ((1 : Int) < t) = false; simp; omega
    have a2 : decide ((nopAt 1 0).time < 0) = false := by simp [nopAt]
    have ih := chain_ones j 1 (by omega)
    rw [List.replicate_succ]
    simp only [chainOk, check_nop (t := 1) (m := 0) (by omega) (by omega) (by omega) (by omega), a1, a2]
    simpa [nopAt] using ih
theorem ones_ok {b bt : Int} {j : Nat} (h1 : 0 ≤ b) (h2 : 0 ≤ bt) (h3 : bt ≤ 1) (h4 : b = 0 ↔ bt = 0) (h5 : j ≤ 200) (h6 : b + j ≤ 1048576) : checkLog b bt (List.replicate j (nopAt 1 0)) = 0 :=
  checkLog_ok h1 h2 (by omega) h4 (by simpa using h5) (by simpa using h6) (chain_ones j bt h3)
theorem full_match {K : Nat} {of : Int} (hK : K ≤ 200) (hof : (K = 0 ∧ of = 0) ∨ (0 < K ∧ of = 1)) :
    checkLog K of [nopAt 1 0] = 0 ∧ matchOf 0 0 (List.replicate K (nopAt 1 0)) K of [nopAt 1 0] = (if K < 200 then ⟨some (List.replicate (K + 1) (nopAt 1 0)), true, K + 1, 0⟩ else ⟨none, false, 0, 6⟩) := by
  have h1 : checkLog K of [nopAt 1 0] = 0 := ones_ok (j := 1) (by omega) (by omega) (by omega) (by omega) (by omega) (by omega)
  refine ⟨h1, ?_⟩
  have ht : (termOf 0 0 (List.replicate K (nopAt 1 0)) K).1 = of := by
    have := termOf_k (b := 0) (bt := 0) (L := List.replicate K (nopAt 1 0)) (k := K) (by simp)
    rw [Int.zero_add] at this
    rw [this]
    rcases hof with ⟨h, h2⟩ | ⟨h, h2⟩
    · rw [if_pos h, h2]
    · rw [if_neg (by omega), h2, List.getElem?_replicate, if_pos (by omega)]; rfl
  have ht2 : (termOf 0 0 (List.replicate K (nopAt 1 0)) K).2 = 0 := by
    have := termOf_in (base := 0) (bt := 0) (l := List.replicate K (nopAt 1 0)) (k := K) (by simp)
    rwa [Int.zero_add] at this
  rw [match_iv (k := K) h1 (by omega) ht2 ht]
  have hf : freshAt ((List.replicate K (nopAt 1 0)).drop K) [nopAt 1 0] = some 0 := by
    rw [List.drop_eq_nil_of_le (by simp)]; rfl
  have he : (List.replicate K (nopAt 1 0)).take (K + 0) ++ [nopAt 1 0].drop 0 = List.replicate (K + 1) (nopAt 1 0) := by
    rw [List.take_of_length_le (by simp), List.replicate_succ']; rfl
  by_cases hlt : K < 200
  · rw [if_pos hlt, tail_ok hf (by rw [he]; exact ones_ok (by omega) (by omega) (by omega) (by omega) (by omega) (by omega)), he]
    simp
  · rw [if_neg hlt, tail_bad hf ?_]
    rw [he]
    have hb : headBad 0 0 (List.replicate (K + 1) (nopAt 1 0)).length = true := by
      rw [List.length_replicate]
      have : K = 200 := by omega
      subst this
      decide
    unfold checkLog
    rw [if_pos hb]
    decide
theorem termOf_any (x : Int) (w : World) (h0 : 0 ≤ x) (h1 : x ≤ 1000) : Calls Try.prog 15 #[.int .i64 x] w fun e w' => e = .returned (.int .i64 (if x = 0 then 0 else 1)) ∧ w = w' := by
  by_cases h : x = 0
  · subst h
    go_enter Try.func15, Try.ntmps15
    go_wp2_with fail
    go_ret
    exact ⟨ret_int (by simp), rfl⟩
  · have hif : (if (1 : Int) < x then (1 : Int) else x) = 1 := by split <;> omega
    rw [if_neg h]
    go_enter Try.func15, Try.ntmps15
    go_wp2_with fail
    all_goals go_ret
    all_goals exact ⟨ret_int (by first | rfl | omega), rfl⟩
/-- What Match leaves, told by the length of the log. -/
theorem Match_full {K : Nat} {of : Int} (hK : K ≤ 200) (hof : (K = 0 ∧ of = 0) ∨ (0 < K ∧ of = 1)) {F : Bool} {fr er : Int} {N0 : Nat} (hr : (F, fr, er, N0) = if K < 200 then (true, (K : Int) + 1, 0, K + 1) else (false, 0, 6, 0))
    (A : Option Addr) (n c : Nat) (B : Option Addr) (w : World) (hS : Sl w 10 A n c (itemRows (List.replicate K (nopAt 1 0)))) (hT : Sl w 10 B 1 1 (itemRows [nopAt 1 0])) :
    Calls Try.prog 14 #[.agg #[.int .i64 0, .int .i64 0, .slice A n c], .int .i64 K, .int .i64 of, .slice B 1 1] w
      fun e w' => ∃ a b A n c, e = .returned (.tuple #[.agg #[.int .i64 a, .int .i64 b, .slice A n c], .bool F, .int .i64 fr, .int .i64 er]) ∧ n = N0 ∧ Below w.heap.size w w' := by
  obtain ⟨h1, h2⟩ := full_match hK hof
  have hg : checkLog 0 0 (List.replicate K (nopAt 1 0)) = 0 := ones_ok (by omega) (by omega) (by omega) (by omega) hK (by omega)
  refine (Match_ok 0 0 A n c _ K of B 1 1 [nopAt 1 0] w ⟨by omega, by omega⟩ ⟨by omega, by omega⟩ hS hg ⟨by omega, by omega⟩ ⟨by omega, by omega⟩ hT h1).mono fun e w' h => ?_
  rw [h2] at h
  by_cases hlt : K < 200
  · rw [if_pos hlt] at h hr
    injection hr with e1 hr
    injection hr with e2 hr
    injection hr with e3 e4
    subst e1; subst e2; subst e3; subst e4
    obtain ⟨hb, A3, n3, c3, he, ho⟩ := h
    exact ⟨0, 0, A3, n3, c3, he, by rw [← rows_len ho.sl']; simp, hb⟩
  · rw [if_neg hlt] at h hr
    injection hr with e1 hr
    injection hr with e2 hr
    injection hr with e3 e4
    subst e1; subst e2; subst e3; subst e4
    obtain ⟨hb, he⟩ := h
    exact ⟨0, 0, none, 0, 0, he, rfl, hb⟩
set_option maxRecDepth 100000 in
set_option maxHeartbeats 8000000 in
theorem logFull_walk (nn : Int) (w : World) (hnn : I64 nn) :
    Calls Try.prog 3 #[.int .i64 nn] w fun e w' => e = .returned (.bool true) ∧ Below w.heap.size w w' := by
  have r1 := picked_lo nn 400 (by omega)
  have r2 := picked_hi nn 400 (by omega)
  have hR := fun w => picked_any nn 400 w hnn.1 hnn.2 (by omega) (by omega)
  obtain ⟨k, hk⟩ := Int.eq_ofNat_of_zero_le r1
  rw [hk] at hR r2
  obtain ⟨K, hK⟩ : ∃ K, K = min k 200 := ⟨_, rfl⟩
  have hK2 : K ≤ 200 := by omega
  have hif : (if (200 : Int) < (k : Int) then (200 : Int) else (k : Int)) = (K : Int) := by split <;> omega
  have hof : (K = 0 ∧ (if (K : Int) = 0 then (0 : Int) else 1) = 0) ∨ (0 < K ∧ (if (K : Int) = 0 then (0 : Int) else 1) = 1) := by
    by_cases h : K = 0
    · exact .inl ⟨h, by rw [if_pos (by omega)]⟩
    · exact .inr ⟨by omega, by rw [if_neg (by omega)]⟩
  have hT := fun w => termOf_any K w (by omega) (by omega)
  generalize (if (K : Int) = 0 then (0 : Int) else 1) = of at hof hT
  obtain ⟨F, fr, er, N0, hr⟩ : ∃ F fr er N0, ((F, fr, er, N0) : Bool × Int × Int × Nat) = if K < 200 then (true, (K : Int) + 1, 0, K + 1) else (false, 0, 6, 0) := ⟨_, _, _, _, rfl⟩
  have hM := fun A n c B w h1 h2 => Match_full hK2 hof hr A n c B w h1 h2
  have HM := hide hM; have HR := hide hR; have HT := hide hT; have HRR := hide hr; have HK := hide hK
  clear hM hR hT hk r1 hof hr hK
  have hx1 : ∀ (w : World) (g : Nat), Blk w g 29 #[.int .i64 1, .int .i64 0, .bool true, .int .i64 0, .int .i64 0, .int .i64 0, .string { data := #[] }, .string { data := #[] }, .string { data := #[] }, .int .i64 0] → Sl w 10 (some ⟨g, 0, none⟩) 1 1 (itemRows [nopAt 1 0]) := fun w g h => Sl.of_blk h rfl (by intro r hr; simp only [itemRows, List.map_cons, List.map_nil, List.mem_singleton] at hr; subst hr; rfl) rfl (by decide)
  have HX1 := hide hx1; clear hx1
  go_enter Try.func3, Try.ntmps3
  go_wp2_with fail
  refine (HR.out _).mono ?_
  rintro e w' ⟨rfl, rfl⟩
  go_wp2_with fail
  go_loopw [4, 5] (fun s4 s5 wr => ∃ j : Nat, j ≤ K ∧ s5 = .int .i64 j ∧ (∃ A n c, s4 = .slice A n c) ∧ Own wr w.heap.size 29 10 s4 (itemRows (List.replicate j (nopAt 1 0))) ∧ Below w.heap.size w wr)
    (fun _ s5 _ => K - (intOf s5).toNat)
  case atStart => exact ⟨0, by omega, rfl, ⟨_, _, _, rfl⟩, Own.nil, Below.refl _ _⟩
  case round =>
    obtain ⟨j, hj, rfl, HA, hown, hbr⟩ := hrel
    obtain ⟨A2, n2, c2, rfl⟩ := HA
    have hzr : w.heap.size ≤ wr.heap.size := hbr.size
    by_cases hlt : j < K
    · have hlt' : (j : Int) < (K : Int) := by omega
      go_wp2_with (at_builtin; refine wpList_push rfl _ _ _ rfl Try.underlying23 item_info rfl (by decide) (by rfl) hown rfl (by rfl) rfl (item_cells_one (nopAt 1 0)) ?_ ?_ hzr ?_)
      · rw [itemRows_length, List.length_replicate]; unfold maxLen; omega
      · rw [itemRows_length, List.length_replicate]; omega
      · intro v' w2 hown2 hb2 hz3
        have hown3 : Own w2 w.heap.size 29 10 v' (itemRows (List.replicate (j + 1) (nopAt 1 0))) := by
          rw [List.replicate_succ', itemRows_snoc]; exact hown2
        go_wp2_with fail
        go_roundw
        case rel => exact ⟨j + 1, by omega, by go_num, (by obtain ⟨A3, c3, e3, _⟩ := hown3.sl; exact ⟨A3, _, c3, e3⟩), hown3, hbr.trans hb2⟩
        case measure => simp [intOf]; omega
    · obtain rfl : j = K := by omega
      have hge : ¬ ((j : Int) < (j : Int)) := by omega
      have hsl := hown.sl'
      have hn2 : n2 = j := by rw [← rows_len hsl]; simp
      subst hn2
      clear hge
      have Bg := Blk.new wr 31 #[.int .i64 0, .int .i64 0, .slice A2 n2 c2]
      replace hsl := hsl.al (.cells #[.int .i64 0, .int .i64 0, .slice A2 n2 c2] 31)
      have c0 : (wr.alloc (.cells #[.int .i64 0, .int .i64 0, .slice A2 n2 c2] 31)).cell? ⟨wr.heap.size, 0, none⟩ = some (.int .i64 0) := Bg.cell 0
      have c1 : (wr.alloc (.cells #[.int .i64 0, .int .i64 0, .slice A2 n2 c2] 31)).cell? ⟨wr.heap.size, 1, none⟩ = some (.int .i64 0) := Bg.cell 1
      have c2' : (wr.alloc (.cells #[.int .i64 0, .int .i64 0, .slice A2 n2 c2] 31)).cell? ⟨wr.heap.size, 2, none⟩ = some (.slice A2 n2 c2) := Bg.cell 2
      go_wp2_with fail
      go_cut [7, 8, 9, 10] (fun s7 s8 s9 s10 wx => ∃ y ra rb A3 n3 c3, s7 = .pointer (some ⟨y, 0, none⟩) ∧ s8 = .bool F ∧ s9 = .int .i64 fr ∧ s10 = .int .i64 er ∧ Blk wx y 31 #[.int .i64 ra, .int .i64 rb, .slice A3 n3 c3] ∧ n3 = N0 ∧ Below w.heap.size w wx)
      case first =>
        go_region_held3 (fun w' => w'.cell? ⟨wr.heap.size, 0, none⟩ = some (.int .i64 0) ∧ w'.cell? ⟨wr.heap.size, 1, none⟩ = some (.int .i64 0) ∧ w'.cell? ⟨wr.heap.size, 2, none⟩ = some (.slice A2 n2 c2)) (simp [go_sem, World.cell?_alloc_past, *])
          (first | (go_at_call 15; refine (HT.out _).mono ?_; rintro e w' ⟨rfl, rfl⟩) | (go_at_call 14; (with_reducible refine (HM.out _ _ _ _ _ ((hsl.al (.cells #[.int .i64 1, .int .i64 0, .bool true, .int .i64 0, .int .i64 0, .int .i64 0, .string { data := #[] }, .string { data := #[] }, .string { data := #[] }, .int .i64 0] 29)).drew) (HX1.out _ _ ((Blk.new' (wr.alloc (.cells #[.int .i64 0, .int .i64 0, .slice A2 n2 c2] 31)) 29 #[.int .i64 1, .int .i64 0, .bool true, .int .i64 0, .int .i64 0, .int .i64 0, .string { data := #[] }, .string { data := #[] }, .string { data := #[] }, .int .i64 0] (g := wr.heap.size + 1) (by simp)).drew))).mono ?_); rintro e w3 ⟨ra, rb, A3, n3, c3, rfl, hn3, hb3⟩; have HN3 := hide hn3; clear hn3; have Bg3 := ((Bg.al (.cells #[.int .i64 1, .int .i64 0, .bool true, .int .i64 0, .int .i64 0, .int .i64 0, .string { data := #[] }, .string { data := #[] }, .string { data := #[] }, .int .i64 0] 29)).drew).bl hb3; have hlow : Below (wr.alloc (.cells #[.int .i64 0, .int .i64 0, .slice A2 n2 c2] 31)).heap.size (wr.alloc (.cells #[.int .i64 0, .int .i64 0, .slice A2 n2 c2] 31)) w3 := Below.trans (by repeat (first | (with_reducible exact Below.refl _ _) | (with_reducible assumption) | (with_reducible refine Below.drew ?_) | (with_reducible refine bdrewN ?_ _) | (with_reducible refine balloc ?_ _) | ((with_reducible refine bset ?_ ?_ _); rotate_left; (focus first | exact Nat.le_refl _ | (simp; done) | (simp; omega) | omega)) | (with_reducible refine bstep ?_ (by with_reducible assumption)) | (with_reducible refine Below.trans ?_ (by with_reducible assumption)))) (hb3.mono (by simp)); have q0 : w3.cell? ⟨wr.heap.size, 0, none⟩ = some (.int .i64 0) := Bg3.cell 0; have q1 : w3.cell? ⟨wr.heap.size, 1, none⟩ = some (.int .i64 0) := Bg3.cell 1; have q2 : w3.cell? ⟨wr.heap.size, 2, none⟩ = some (.slice A2 n2 c2) := Bg3.cell 2; have qf := Bg3.frozen; have hz3 : wr.heap.size < w3.heap.size := Bg3.lt; skip) | (go_at_call 14; (with_reducible refine (HM.out _ _ _ _ _ (((hsl.al (.cells #[.int .i64 1, .int .i64 0, .bool true, .int .i64 0, .int .i64 0, .int .i64 0, .string { data := #[] }, .string { data := #[] }, .string { data := #[] }, .int .i64 0] 29)).al (.cells #[.int .i64 0, .int .i64 0, .slice none 0 0] 31)).drew) (HX1.out _ _ (((Blk.new' (wr.alloc (.cells #[.int .i64 0, .int .i64 0, .slice A2 n2 c2] 31)) 29 #[.int .i64 1, .int .i64 0, .bool true, .int .i64 0, .int .i64 0, .int .i64 0, .string { data := #[] }, .string { data := #[] }, .string { data := #[] }, .int .i64 0] (g := wr.heap.size + 1) (by simp)).al (.cells #[.int .i64 0, .int .i64 0, .slice none 0 0] 31)).drew))).mono ?_); rintro e w3 ⟨ra, rb, A3, n3, c3, rfl, hn3, hb3⟩; have HN3 := hide hn3; clear hn3; have Bg3 := (((Bg.al (.cells #[.int .i64 1, .int .i64 0, .bool true, .int .i64 0, .int .i64 0, .int .i64 0, .string { data := #[] }, .string { data := #[] }, .string { data := #[] }, .int .i64 0] 29)).al (.cells #[.int .i64 0, .int .i64 0, .slice none 0 0] 31)).drew).bl hb3; have hlow : Below (wr.alloc (.cells #[.int .i64 0, .int .i64 0, .slice A2 n2 c2] 31)).heap.size (wr.alloc (.cells #[.int .i64 0, .int .i64 0, .slice A2 n2 c2] 31)) w3 := Below.trans (by repeat (first | (with_reducible exact Below.refl _ _) | (with_reducible assumption) | (with_reducible refine Below.drew ?_) | (with_reducible refine bdrewN ?_ _) | (with_reducible refine balloc ?_ _) | ((with_reducible refine bset ?_ ?_ _); rotate_left; (focus first | exact Nat.le_refl _ | (simp; done) | (simp; omega) | omega)) | (with_reducible refine bstep ?_ (by with_reducible assumption)) | (with_reducible refine Below.trans ?_ (by with_reducible assumption)))) (hb3.mono (by simp)); have q0 : w3.cell? ⟨wr.heap.size, 0, none⟩ = some (.int .i64 0) := Bg3.cell 0; have q1 : w3.cell? ⟨wr.heap.size, 1, none⟩ = some (.int .i64 0) := Bg3.cell 1; have q2 : w3.cell? ⟨wr.heap.size, 2, none⟩ = some (.slice A2 n2 c2) := Bg3.cell 2; have qf := Bg3.frozen; have hz3 : wr.heap.size < w3.heap.size := Bg3.lt; have Z3 := (Blk.new' ((wr.alloc (.cells #[.int .i64 0, .int .i64 0, .slice A2 n2 c2] 31)).alloc (.cells #[.int .i64 1, .int .i64 0, .bool true, .int .i64 0, .int .i64 0, .int .i64 0, .string { data := #[] }, .string { data := #[] }, .string { data := #[] }, .int .i64 0] 29)) 31 #[.int .i64 0, .int .i64 0, .slice none 0 0] (g := wr.heap.size + 1 + 1) (by simp)).drew.bl hb3; have z0 := Z3.cell; have zf := Z3.frozen; have zl : wr.heap.size + 1 + 1 < w3.heap.size := Z3.lt) | (go_at_call 14; (with_reducible refine (HM.out _ _ _ _ _ (((hsl.al (.cells #[.int .i64 0, .int .i64 0, .slice none 0 0] 31)).al (.cells #[.int .i64 1, .int .i64 0, .bool true, .int .i64 0, .int .i64 0, .int .i64 0, .string { data := #[] }, .string { data := #[] }, .string { data := #[] }, .int .i64 0] 29)).drew) (HX1.out _ _ ((Blk.new' ((wr.alloc (.cells #[.int .i64 0, .int .i64 0, .slice A2 n2 c2] 31)).alloc (.cells #[.int .i64 0, .int .i64 0, .slice none 0 0] 31)) 29 #[.int .i64 1, .int .i64 0, .bool true, .int .i64 0, .int .i64 0, .int .i64 0, .string { data := #[] }, .string { data := #[] }, .string { data := #[] }, .int .i64 0] (g := wr.heap.size + 1 + 1) (by simp)).drew))).mono ?_); rintro e w3 ⟨ra, rb, A3, n3, c3, rfl, hn3, hb3⟩; have HN3 := hide hn3; clear hn3; have Bg3 := (((Bg.al (.cells #[.int .i64 0, .int .i64 0, .slice none 0 0] 31)).al (.cells #[.int .i64 1, .int .i64 0, .bool true, .int .i64 0, .int .i64 0, .int .i64 0, .string { data := #[] }, .string { data := #[] }, .string { data := #[] }, .int .i64 0] 29)).drew).bl hb3; have hlow : Below (wr.alloc (.cells #[.int .i64 0, .int .i64 0, .slice A2 n2 c2] 31)).heap.size (wr.alloc (.cells #[.int .i64 0, .int .i64 0, .slice A2 n2 c2] 31)) w3 := Below.trans (by repeat (first | (with_reducible exact Below.refl _ _) | (with_reducible assumption) | (with_reducible refine Below.drew ?_) | (with_reducible refine bdrewN ?_ _) | (with_reducible refine balloc ?_ _) | ((with_reducible refine bset ?_ ?_ _); rotate_left; (focus first | exact Nat.le_refl _ | (simp; done) | (simp; omega) | omega)) | (with_reducible refine bstep ?_ (by with_reducible assumption)) | (with_reducible refine Below.trans ?_ (by with_reducible assumption)))) (hb3.mono (by simp)); have q0 : w3.cell? ⟨wr.heap.size, 0, none⟩ = some (.int .i64 0) := Bg3.cell 0; have q1 : w3.cell? ⟨wr.heap.size, 1, none⟩ = some (.int .i64 0) := Bg3.cell 1; have q2 : w3.cell? ⟨wr.heap.size, 2, none⟩ = some (.slice A2 n2 c2) := Bg3.cell 2; have qf := Bg3.frozen; have hz3 : wr.heap.size < w3.heap.size := Bg3.lt; have Z3 := ((Blk.new' (wr.alloc (.cells #[.int .i64 0, .int .i64 0, .slice A2 n2 c2] 31)) 31 #[.int .i64 0, .int .i64 0, .slice none 0 0] (g := wr.heap.size + 1) (by simp)).al (.cells #[.int .i64 1, .int .i64 0, .bool true, .int .i64 0, .int .i64 0, .int .i64 0, .string { data := #[] }, .string { data := #[] }, .string { data := #[] }, .int .i64 0] 29)).drew.bl hb3; have z0 := Z3.cell; have zf := Z3.frozen; have zl : wr.heap.size + 1 < w3.heap.size := Z3.lt))
        all_goals
          have hww : Below w.heap.size w (wr.alloc (.cells #[.int .i64 0, .int .i64 0, .slice A2 n2 c2] 31)) := hbr.alloc hzr _
          have hlw : Below w.heap.size w w3 := hww.trans (hlow.mono (by simp; omega))
          go_wp2_with fail
          go_meet
          refine ⟨_, ra, rb, A3, n3, c3, rfl, rfl, rfl, rfl, ?_, HN3.out, (by repeat (first | (with_reducible exact Below.refl _ _) | (with_reducible assumption) | (with_reducible refine Below.drew ?_) | (with_reducible refine bdrewN ?_ _) | (with_reducible refine balloc ?_ _) | ((with_reducible refine bset ?_ ?_ _); rotate_left; (focus first | exact Nat.le_refl _ | (simp; done) | (simp; omega) | omega)) | (with_reducible refine bstep ?_ (by with_reducible assumption)) | (with_reducible refine Below.trans ?_ (by with_reducible assumption))))⟩
          ((repeat' (first | (with_reducible assumption) | (with_reducible exact Blk.new _ _ _) | ((with_reducible refine Blk.new' _ _ _ ?_); focus (simp; done)) | (with_reducible refine Blk.set' (cs := ?_) ?_ ?_) | (with_reducible refine Blk.alloc ?_ _) | (with_reducible refine Blk.drew ?_) | (with_reducible refine Blk.drewN ?_ _) | (with_reducible refine Blk.below' ?_ (by with_reducible assumption)) | ((with_reducible refine Blk.far ?_ ?_ _); rotate_left; (focus first | (simp; done) | (simp; omega) | omega)))) <;> try rfl)
      case rest =>
        obtain ⟨y, ra, rb, A3, n3, c3, rfl, rfl, rfl, rfl, Y, hn3, hbx⟩ := hcut
        subst hn3
        have hrr := HRR.out
        have hK := HK.out
        clear HRR HK
        (try clear cY fY); have cY := Y.cell; have fY := Y.frozen
        by_cases hk : k < 200
        · have hkK : n2 = k := by omega
          rw [if_pos (by omega)] at hrr
          injection hrr with e1 hrr
          injection hrr with e2 hrr
          injection hrr with e3 e4
          subst e1; subst e2; subst e3; subst e4; subst hkK
          have hk1 : ¬ ((200 : Int) ≤ (n2 : Int)) := by omega
          clear hK
          have hw1 : IntKind.i64.wrap ((n2 : Int) + 1) = (n2 : Int) + 1 := IntWalk.i64_in _ (by omega)
          go_wp2_with fail
          go_ret
          exact ⟨rfl, (by repeat (first | (with_reducible exact Below.refl _ _) | (with_reducible assumption) | (with_reducible refine Below.drew ?_) | (with_reducible refine bdrewN ?_ _) | (with_reducible refine balloc ?_ _) | ((with_reducible refine bset ?_ ?_ _); rotate_left; (focus first | exact Nat.le_refl _ | (simp; done) | (simp; omega) | omega)) | (with_reducible refine bstep ?_ (by with_reducible assumption)) | (with_reducible refine Below.trans ?_ (by with_reducible assumption))))⟩
        · have hkK : n2 = 200 := by omega
          rw [if_neg (by omega)] at hrr
          injection hrr with e1 hrr
          injection hrr with e2 hrr
          injection hrr with e3 e4
          subst e1; subst e2; subst e3; subst e4
          have hk1 : (200 : Int) ≤ (k : Int) := by omega
          clear hK hkK
          go_wp2_with fail
          go_ret
          exact ⟨rfl, (by repeat (first | (with_reducible exact Below.refl _ _) | (with_reducible assumption) | (with_reducible refine Below.drew ?_) | (with_reducible refine bdrewN ?_ _) | (with_reducible refine balloc ?_ _) | ((with_reducible refine bset ?_ ?_ _); rotate_left; (focus first | exact Nat.le_refl _ | (simp; done) | (simp; omega) | omega)) | (with_reducible refine bstep ?_ (by with_reducible assumption)) | (with_reducible refine Below.trans ?_ (by with_reducible assumption))))⟩
set_option maxRecDepth 100000 in
theorem logFull_lifted (os : Os) (started : os.Started) (H : Type) (enc : TypeId × Value → H) :
  ReturnsInHanded {} Try.checked os 3 .any (Rows.logFullSpec.pre6 enc Try.prog Try.f3 Rows.logFullRow.domain false) (Rows.logFullSpec.post enc Try.prog Try.f3 false true false false) := by
  refine returnsInHanded_of_change (C := Try.checked) Try.own started (by kernel_rfl) Try.func3 (ChangeSpec.witness6 (enc := enc) (C := Try.checked) false ⟨#[], #[.int .i64 0], []⟩ 8 (by kernel_rfl) (by kernel_rfl) (by kernel_rfl) (by kernel_rfl)) ?_
  intro W base args ds gs before hval0 hW hcnd _
  have hval : ∀ (j : Nat) t v, Try.f3.params[j]? = some t → args[j]? = some v → Value.okWide Try.prog W .any base t v := hval0
  have hW' := hW
  obtain ⟨p, q, hA0, hV, rfl, hfz, hnd⟩ := hW
  have hA : DataW.TrodAll enc Try.prog W 0 (fun _ => true) true Try.f3.params.toList args.toList ds p := hA0
  rw [Try.params3] at hA hval
  obtain ⟨rfl, rfl⟩ := trodVars_none hV
  clear hA0 hval0 hcnd hV hfz hnd
  obtain ⟨v0, d0, rfl, rfl, h0⟩ := trodAll_one hA
  obtain ⟨m1, rfl, rfl, rfl, w1⟩ := open_int Try.underlying3 (hval 0 3 v0 rfl rfl) h0
  refine (logFull_walk m1 W (i64_bounds w1)).mono fun e W' ⟨he, hb⟩ => ?_
  subst he
  exact ⟨_, rfl, post_law Try.laidOut hW' rfl (by kernel_rfl) rfl Try.underlying4 (fun _ => rfl) (fun _ => rfl) (fun _ => rfl) hb⟩
theorem logFull_holds : Rows.LogFullSaid := OpenClaim.holds_of_wide 3 Try.f3 rfl rfl rfl rfl rfl rfl rfl ⟨rfl, rfl, rfl, rfl, rfl⟩ rfl rfl rfl rfl rfl (by kernel_rfl) Try.func3 (by kernel_rfl)
  (of_decide_eq_true (by kernel_rfl)) (by unfold Func.isWrapper; first | (rw [if_pos (by decide +kernel)]; kernel_rfl) | (rw [if_neg (by decide +kernel)]; exact ⟨rfl, rfl⟩))
  (fun os started H enc _ => logFull_lifted os started H enc)
#print axioms logFull_holds
end Go.Proofs.Ytaldmianlmgloab
