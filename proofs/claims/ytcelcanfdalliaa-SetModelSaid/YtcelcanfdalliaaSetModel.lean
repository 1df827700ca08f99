/- rostrumkeep.SetModel returns true for every input and leaves its arguments as they were; no condition. -/
import Derived.Test.YtcelcanfdalliaaValLaw
import Derived.Test.YtcelcanfdalliaaSetP
import Derived.Test.YtcelcanfdalliaaMapS
namespace Go.Proofs.Ytcelcanfdalliaa
set_option linter.all false
open Go.ChangeShapes Go.WideShapes Go.ChangeAt Go.RowKit
def setK (p : Int) : Int := if p = 2 then 12 else if p = 3 then 13 else 11
theorem setK_cases {p : Int} (h0 : 0 ≤ p) (h1 : p < 4) : (p = 0 ∧ setK p = 11) ∨ (p = 1 ∧ setK p = 11) ∨ (p = 2 ∧ setK p = 12) ∨ (p = 3 ∧ setK p = 13) := by
  have hp : p = 0 ∨ p = 1 ∨ p = 2 ∨ p = 3 := by omega
  rcases hp with rfl | rfl | rfl | rfl <;> simp [setK]
theorem set_cmd (k N : Int) (hk : k = 11 ∨ k = 12 ∨ k = 13) (hN : I64 N) : ∃ t : ByteArray, t ∈ fewT ∧ t.size ≤ 20 ∧ ccOf ⟨k, some_ 0, emp, t, 0⟩ = 0 ∧
    ∀ w, Calls Try.prog 23 #[.agg #[.int .i64 (k - 1), .int .i64 0, .int .i64 0, .int .i64 N, .string emp]] w fun e w' => e = .returned (cmdV ⟨k, some_ 0, emp, t, 0⟩) ∧ Below w.heap.size w w' := by
  have hc : ∀ (c : Cmd), c = cmdR ⟨k - 1, 0, 0, N, emp⟩ → c.kind = k → c = ⟨k, some_ 0, emp, c.text, 0⟩ ∧ c.text ∈ fewT := by
    intro c he hck
    have h1 : (1 + picked (k - 1) 22) = k := by rw [picked_self (by omega) (by omega)]; omega
    rw [he]
    unfold cmdR cmdOf
    simp only [h1]
    have ht : cmdText k = true := by rcases hk with rfl | rfl | rfl <;> rfl
    have hf : cmdField k = false := by rcases hk with rfl | rfl | rfl <;> rfl
    refine ⟨?_, ?_⟩
    · have e22 : ¬ k = 22 := by omega
      have e3 : ¬ k = 3 := by omega
      have e20 : ¬ k = 20 := by omega
      have e14 : ¬ k = 14 := by omega
      simp [hf, e22, e3, e20, e14]
    · simp only [ht, if_true]
      split
      · exact few_some _
      · have : cut_ emp 6 = emp := rfl
        rw [this]; exact few_emp
  have hk' : (cmdR ⟨k - 1, 0, 0, N, emp⟩).kind = k := by
    show 1 + picked (k - 1) 22 = k
    rw [picked_self (by omega) (by omega)]; omega
  obtain ⟨e1, e2⟩ := hc _ rfl hk'
  have hcc := cmdR_cc ⟨k - 1, 0, 0, N, emp⟩
  have hcall := fun w => CommandR_any ⟨k - 1, 0, 0, N, emp⟩ ⟨⟨by show -9223372036854775808 ≤ k - 1; omega, by show k - 1 ≤ 9223372036854775807; omega⟩, ⟨by show (-9223372036854775808 : Int) ≤ 0; omega, by show (0 : Int) ≤ 9223372036854775807; omega⟩, ⟨by show (-9223372036854775808 : Int) ≤ 0; omega, by show (0 : Int) ≤ 9223372036854775807; omega⟩, hN, by simp [emp, ByteArray.size, maxLen]⟩ w
  simp only at hcall
  rw [e1] at hcc hcall
  refine ⟨_, e2, ?_, hcc, hcall⟩
  have : ∀ t ∈ fewT, t.size ≤ 20 := by decide +kernel
  exact this _ e2
set_option maxRecDepth 100000 in
set_option maxHeartbeats 8000000 in
theorem setModel_walk (A : Option Addr) (n c : Nat) (l : List RawD) (w : World) (hS : Sl w 5 A n c (rawRows l)) (hd : ∀ d ∈ l, d.ok) :
    Calls Try.prog 8 #[.slice A n c] w fun e w' => e = .returned (.bool true) ∧ Below w.heap.size w w' := by
  have hln := raw_len hS
  have hnc := hS.nc
  have hmm := @run_makeMap Try.prog
  have V0 := (Blk.new w 29 #[.int .i64 0, .string { data := #[] }, .int .i64 0, .slice none 0 0, .slice none 0 0, .slice none 0 0]).alloc (.map #[] 0)
  have M0 := MapS.made (w.alloc (.cells #[.int .i64 0, .string { data := #[] }, .int .i64 0, .slice none 0 0, .slice none 0 0, .slice none 0 0] 29)) Try.prog 9 4
  go_enter Try.func8, Try.ntmps8
  go_wp2_with fail
  go_loopw [5] (fun s5 wr => ∃ i : Nat, i ≤ n ∧ i ≤ 30 ∧ s5 = .int .i64 i ∧ ∃ (vk : Int) (vt : ByteArray) (vc : Int) (ps : List Pr) (is_ : List ByteArray) (ss : List Sc) (A1 : Option Addr) (n1 c1 : Nat) (A2 : Option Addr) (n2 c2 : Nat) (A3 : Option Addr) (n3 c3 : Nat),
      Blk wr w.heap.size 29 #[.int .i64 vk, .string vt, .int .i64 vc, .slice A1 n1 c1, .slice A2 n2 c2, .slice A3 n3 c3] ∧ VSl wr ⟨vk, vt, vc, ps, is_, ss⟩ A1 n1 c1 A2 n2 c2 A3 n3 c3 ∧ (Tp wr A1 50 ∧ Tp wr A2 9 ∧ Tp wr A3 56) ∧
      Hid (SetV ⟨vk, vt, vc, ps, is_, ss⟩) ∧ MapS wr Try.prog 9 4 (w.heap.size + 1) i (setF is_) is_.length ∧ Below w.heap.size w wr)
    (fun s5 _ => n - (intOf s5).toNat)
  case atStart => exact ⟨0, by omega, by omega, rfl, _, _, _, [], [], [], _, _, _, _, _, _, _, _, _, V0, nil_vsl, ⟨Tp.none_, Tp.none_, Tp.none_⟩, hide set_zero, by rw [setF_nil]; simpa using M0, (by repeat (first | (with_reducible exact Below.refl _ _) | (with_reducible assumption) | (with_reducible refine Below.drew ?_) | (with_reducible refine bdrewN ?_ _) | (with_reducible refine balloc ?_ _) | ((with_reducible refine bset ?_ ?_ _); rotate_left; (focus first | exact Nat.le_refl _ | (simp; done) | (simp; omega) | omega)) | (with_reducible refine bstep ?_ (by with_reducible assumption)) | (with_reducible refine Below.trans ?_ (by with_reducible assumption))))⟩
  case round =>
    obtain ⟨i, hi, hi30, rfl, vk, vt, vc, ps, is_, ss, A1, n1, c1, A2, n2, c2, A3, n3, c3, V, N, T, HV, M, hbr⟩ := hrel
    clear V0 M0
    have hbs := hbr.size
    have hv1 := V.lt
    have hm1 := M.lt
    by_cases hlt : i < n ∧ i < 30
    · obtain ⟨h1, h2⟩ := hlt
      have h1' : (i : Int) < (n : Int) := by omega
      have h2' : (i : Int) < 30 := by omega
      have hi0 : (0 : Int) ≤ (i : Int) := by omega
      obtain ⟨rb, ro, rfl, hrb, R⟩ := hS.raw (k := i) (by omega)
      have hdx := hd _ (List.getElem_mem (show i < l.length by omega))
      generalize (l[i]'(by omega)) = x at R hdx
      obtain ⟨xk, xy, xf, xn, xt⟩ := x
      have R2 := R.bl hrb hbr
      obtain ⟨g0, -, g2, -, -⟩ := R2
      simp only at g0 g2
      have hrw : rb < wr.heap.size := by omega
      have p1 := picked_lo xk 4 (by omega)
      have p2 := picked_hi xk 4 (by omega)
      have hR := fun w => picked_any xk 4 w hdx.1.1 hdx.1.2 (by omega) (by omega)
      generalize picked xk 4 = p at *
      have HR := hide hR
      clear hR
      (try clear cV fV); have cV := V.cell; have fV := V.frozen
      go_wp2_with fail
      refine (HR.out _).mono ?_
      rintro e w' ⟨rfl, rfl⟩
      have hN3r : I64 (wrap64 (3 * xf)) := by unfold I64 wrap64; omega
      rcases setK_cases p1 p2 with ⟨rfl, hk⟩ | ⟨rfl, hk⟩ | ⟨rfl, hk⟩ | ⟨rfl, hk⟩
      · obtain ⟨t, htf, hts, hcc, hcall⟩ := set_cmd 11 (wrap64 (3 * xf)) (by omega) hN3r
        generalize some_ 0 = key at *
        obtain ⟨s1, s2, s3, s4, s5, s6, s7⟩ := set_step HV.out hcc (by simp) htf
        have hDo := fun w h => Do_may ⟨vk, vt, vc, ps, is_, ss⟩ ⟨11, key, emp, t, 0⟩ HV.out.may' A1 A2 A3 n1 c1 n2 c2 n3 c3 w h
        generalize doneVal ⟨vk, vt, vc, ps, is_, ss⟩ ⟨11, key, emp, t, 0⟩ = D at *
        obtain ⟨⟨dk, dt, dc, dps, dis, dss⟩, ⟨rc, rt, rn, rl⟩, de⟩ := D
        simp only [emp, cmdV, Int.reduceSub] at s1 s3 s4 s5 s6 s7 hDo hcall
        subst s1
        have HDO := hide hDo
        have HCALL := hide hcall
        have HS4 := hide s2
        clear hDo hcall s2 htf hcc
        go_wp2_with fail
        refine (HCALL.out _).mono ?_
        rintro e w2 ⟨rfl, hb2⟩
        have q : Below w.heap.size w w2 := (by repeat (first | (with_reducible exact Below.refl _ _) | (with_reducible assumption) | (with_reducible refine Below.drew ?_) | (with_reducible refine bdrewN ?_ _) | (with_reducible refine balloc ?_ _) | ((with_reducible refine bset ?_ ?_ _); rotate_left; (focus first | exact Nat.le_refl _ | (simp; done) | (simp; omega) | omega)) | (with_reducible refine bstep ?_ (by with_reducible assumption)) | (with_reducible refine Below.trans ?_ (by with_reducible assumption))))
        have V3 := ((V.alloc (.cells #[.int .i64 11, .int .i64 11, .int .i64 12, .int .i64 13] 3)).below' hb2).alloc (.cells #[.int .i64 11, .string key, .string { data := #[] }, .string t, .int .i64 0] 34)
        have N3 := ((N.al (.cells #[.int .i64 11, .int .i64 11, .int .i64 12, .int .i64 13] 3)).bl hb2).al (.cells #[.int .i64 11, .string key, .string { data := #[] }, .string t, .int .i64 0] 34)
        have M3 := ((M.al (.cells #[.int .i64 11, .int .i64 11, .int .i64 12, .int .i64 13] 3)).bl hb2).al (.cells #[.int .i64 11, .string key, .string { data := #[] }, .string t, .int .i64 0] 34)
        have C3 := Blk.new w2 34 #[.int .i64 11, .string key, .string { data := #[] }, .string t, .int .i64 0]
        have hlk := M3.look (T := 54) Try.underlying9 Try.underlying54 (z := .bool false) (by kernel_rfl) (plainElem_bool Try.underlying4 false) (t := t) (by unfold maxLen; omega)
        rw [setF_get] at hlk
        have hz2 := hb2.size
        simp only [World.size_alloc] at hz2
        clear hb2 cV fV
        (try clear cV3 fV3); have cV3 := V3.cell; have fV3 := V3.frozen; (try clear cC3 fC3); have cC3 := C3.cell; have fC3 := C3.frozen
        obtain ⟨th, hth⟩ : ∃ th : Bool, th = decide (t ∈ is_) := ⟨_, rfl⟩
        rw [← hth] at hlk
        have HTH := hide hth
        clear hth
        go_wp2_with fail
        refine (HDO.out _ N3).mono ?_; rintro e w4 ⟨B14, m14, e14, B24, m24, e24, B34, m34, e34, B44, m44, e44, rfl, M4, L4, T4, hb4⟩; replace V3 := V3.bl hb4; replace M3 := M3.bl hb4; replace C3 := C3.bl hb4; replace q : Below w.heap.size w w4 := (by repeat (first | (with_reducible exact Below.refl _ _) | (with_reducible assumption) | (with_reducible refine Below.drew ?_) | (with_reducible refine bdrewN ?_ _) | (with_reducible refine balloc ?_ _) | ((with_reducible refine bset ?_ ?_ _); rotate_left; (focus first | exact Nat.le_refl _ | (simp; done) | (simp; omega) | omega)) | (with_reducible refine bstep ?_ (by with_reducible assumption)) | (with_reducible refine Below.trans ?_ (by with_reducible assumption)))); clear hb4
        have D4 := Blk.new w4 29 #[.int .i64 dk, .string dt, .int .i64 dc, .slice B14 m14 e14, .slice B24 m24 e24, .slice B34 m34 e34]; replace M4 := M4.al (.cells #[.int .i64 dk, .string dt, .int .i64 dc, .slice B14 m14 e14, .slice B24 m24 e24, .slice B34 m34 e34] 29); replace L4 := L4.al (.cells #[.int .i64 dk, .string dt, .int .i64 dc, .slice B14 m14 e14, .slice B24 m24 e24, .slice B34 m34 e34] 29); replace V3 := V3.al (.cells #[.int .i64 dk, .string dt, .int .i64 dc, .slice B14 m14 e14, .slice B24 m24 e24, .slice B34 m34 e34] 29); replace M3 := M3.al (.cells #[.int .i64 dk, .string dt, .int .i64 dc, .slice B14 m14 e14, .slice B24 m24 e24, .slice B34 m34 e34] 29); replace C3 := C3.al (.cells #[.int .i64 dk, .string dt, .int .i64 dc, .slice B14 m14 e14, .slice B24 m24 e24, .slice B34 m34 e34] 29); have R4 : Blk ((w4.alloc (.cells #[.int .i64 dk, .string dt, .int .i64 dc, .slice B14 m14 e14, .slice B24 m24 e24, .slice B34 m34 e34] 29)).alloc (.cells #[.int .i64 rc, .string rt, .int .i64 rn, .slice B44 m44 e44] 37)) (w4.heap.size + 1) 37 #[.int .i64 rc, .string rt, .int .i64 rn, .slice B44 m44 e44] := Blk.new' _ _ _ (by simp); replace M4 := M4.al (.cells #[.int .i64 rc, .string rt, .int .i64 rn, .slice B44 m44 e44] 37); replace L4 := L4.al (.cells #[.int .i64 rc, .string rt, .int .i64 rn, .slice B44 m44 e44] 37); replace D4 := D4.al (.cells #[.int .i64 rc, .string rt, .int .i64 rn, .slice B44 m44 e44] 37); replace V3 := V3.al (.cells #[.int .i64 rc, .string rt, .int .i64 rn, .slice B44 m44 e44] 37); replace M3 := M3.al (.cells #[.int .i64 rc, .string rt, .int .i64 rn, .slice B44 m44 e44] 37); replace C3 := C3.al (.cells #[.int .i64 rc, .string rt, .int .i64 rn, .slice B44 m44 e44] 37)
        have bx : Below w4.heap.size w4 ((w4.alloc (.cells #[.int .i64 dk, .string dt, .int .i64 dc, .slice B14 m14 e14, .slice B24 m24 e24, .slice B34 m34 e34] 29)).alloc (.cells #[.int .i64 rc, .string rt, .int .i64 rn, .slice B44 m44 e44] 37)) := (by repeat (first | (with_reducible exact Below.refl _ _) | (with_reducible assumption) | (with_reducible refine Below.drew ?_) | (with_reducible refine bdrewN ?_ _) | (with_reducible refine balloc ?_ _) | ((with_reducible refine bset ?_ ?_ _); rotate_left; (focus first | exact Nat.le_refl _ | (simp; done) | (simp; omega) | omega)) | (with_reducible refine bstep ?_ (by with_reducible assumption)) | (with_reducible refine Below.trans ?_ (by with_reducible assumption))))
        have TT := And.intro (T4.1.bl bx) (And.intro (T4.2.1.bl bx) (T4.2.2.1.bl bx))
        have q9 : Below w.heap.size w ((w4.alloc (.cells #[.int .i64 dk, .string dt, .int .i64 dc, .slice B14 m14 e14, .slice B24 m24 e24, .slice B34 m34 e34] 29)).alloc (.cells #[.int .i64 rc, .string rt, .int .i64 rn, .slice B44 m44 e44] 37)) := (by repeat (first | (with_reducible exact Below.refl _ _) | (with_reducible assumption) | (with_reducible refine Below.drew ?_) | (with_reducible refine bdrewN ?_ _) | (with_reducible refine balloc ?_ _) | ((with_reducible refine bset ?_ ?_ _); rotate_left; (focus first | exact Nat.le_refl _ | (simp; done) | (simp; omega) | omega)) | (with_reducible refine bstep ?_ (by with_reducible assumption)) | (with_reducible refine Below.trans ?_ (by with_reducible assumption))))
        have hz9 := q9.size
        clear cV3 fV3 cC3 fC3 T4 bx hlk
        obtain ⟨hc0, hn0, hf0, hl0⟩ := s3 trivial
        clear s3 s4 s5 s6 s7
        subst hc0
        obtain ⟨w5, hput, M5, tu⟩ := M3.put (T := 54) Try.underlying9 Try.underlying54 (by unfold maxLen; omega) (plainElem_bool Try.underlying4 true) (t := t) (by unfold maxLen; omega)
        rw [hf0, ← hl0] at M5
        clear hf0 hl0
        replace q9 : Below w.heap.size w w5 := turned_below tu q9 (by omega) hz9
        (try clear cR4 fR4); have cR4 := R4.cell; have fR4 := R4.frozen; (try clear cC3 fC3); have cC3 := C3.cell; have fC3 := C3.frozen
        replace V3 := turned_blk tu V3
        have D5 := turned_blk tu D4
        replace M4 := turned_vsl tu M4 TT
        replace TT := And.intro (turned_tp tu TT.1) (And.intro (turned_tp tu TT.2.1) (turned_tp tu TT.2.2))
        have M3 := M5
        clear M5 tu
        (try clear cD5 fD5); have cD5 := D5.cell; have fD5 := D5.frozen; (try clear cV3 fV3); have cV3 := V3.cell; have fV3 := V3.frozen
        have htn : ((rn == 1) == th) = false := by rw [hn0, HTH.out]; by_cases hin : t ∈ is_ <;> simp [hin]
        clear hn0 HTH
        go_wp2_with (first | (at_mapUpdate; refine wpList_mapPut rfl _ _ _ _ rfl _ _ _ rfl rfl rfl hput ?_) | fail)
        go_roundw
        case rel =>
          obtain ⟨V9, gr9, sz9⟩ := whole_value (Value.int .i64 dk) (Value.string dt) (Value.int .i64 dc) (Value.slice B14 m14 e14) (Value.slice B24 m24 e24) (Value.slice B34 m34 e34) V3
          have M9 := M3.grown gr9 (by omega)
          exact ⟨i + 1, by omega, by omega, by go_num, _, _, _, _, _, _, _, _, _, _, _, _, _, _, _, V9, grown_vsl M4 TT V3 gr9, ⟨grown_tp TT.1 V3 gr9, grown_tp TT.2.1 V3 gr9, grown_tp TT.2.2 V3 gr9⟩, HS4, M9, below_grow q9 gr9 (by have := q9.size; omega) (by omega)⟩
        case measure => simp [intOf]; omega
      · obtain ⟨t, htf, hts, hcc, hcall⟩ := set_cmd 11 (wrap64 (3 * xf)) (by omega) hN3r
        generalize some_ 0 = key at *
        obtain ⟨s1, s2, s3, s4, s5, s6, s7⟩ := set_step HV.out hcc (by simp) htf
        have hDo := fun w h => Do_may ⟨vk, vt, vc, ps, is_, ss⟩ ⟨11, key, emp, t, 0⟩ HV.out.may' A1 A2 A3 n1 c1 n2 c2 n3 c3 w h
        generalize doneVal ⟨vk, vt, vc, ps, is_, ss⟩ ⟨11, key, emp, t, 0⟩ = D at *
        obtain ⟨⟨dk, dt, dc, dps, dis, dss⟩, ⟨rc, rt, rn, rl⟩, de⟩ := D
        simp only [emp, cmdV, Int.reduceSub] at s1 s3 s4 s5 s6 s7 hDo hcall
        subst s1
        have HDO := hide hDo
        have HCALL := hide hcall
        have HS4 := hide s2
        clear hDo hcall s2 htf hcc
        go_wp2_with fail
        refine (HCALL.out _).mono ?_
        rintro e w2 ⟨rfl, hb2⟩
        have q : Below w.heap.size w w2 := (by repeat (first | (with_reducible exact Below.refl _ _) | (with_reducible assumption) | (with_reducible refine Below.drew ?_) | (with_reducible refine bdrewN ?_ _) | (with_reducible refine balloc ?_ _) | ((with_reducible refine bset ?_ ?_ _); rotate_left; (focus first | exact Nat.le_refl _ | (simp; done) | (simp; omega) | omega)) | (with_reducible refine bstep ?_ (by with_reducible assumption)) | (with_reducible refine Below.trans ?_ (by with_reducible assumption))))
        have V3 := ((V.alloc (.cells #[.int .i64 11, .int .i64 11, .int .i64 12, .int .i64 13] 3)).below' hb2).alloc (.cells #[.int .i64 11, .string key, .string { data := #[] }, .string t, .int .i64 0] 34)
        have N3 := ((N.al (.cells #[.int .i64 11, .int .i64 11, .int .i64 12, .int .i64 13] 3)).bl hb2).al (.cells #[.int .i64 11, .string key, .string { data := #[] }, .string t, .int .i64 0] 34)
        have M3 := ((M.al (.cells #[.int .i64 11, .int .i64 11, .int .i64 12, .int .i64 13] 3)).bl hb2).al (.cells #[.int .i64 11, .string key, .string { data := #[] }, .string t, .int .i64 0] 34)
        have C3 := Blk.new w2 34 #[.int .i64 11, .string key, .string { data := #[] }, .string t, .int .i64 0]
        have hlk := M3.look (T := 54) Try.underlying9 Try.underlying54 (z := .bool false) (by kernel_rfl) (plainElem_bool Try.underlying4 false) (t := t) (by unfold maxLen; omega)
        rw [setF_get] at hlk
        have hz2 := hb2.size
        simp only [World.size_alloc] at hz2
        clear hb2 cV fV
        (try clear cV3 fV3); have cV3 := V3.cell; have fV3 := V3.frozen; (try clear cC3 fC3); have cC3 := C3.cell; have fC3 := C3.frozen
        obtain ⟨th, hth⟩ : ∃ th : Bool, th = decide (t ∈ is_) := ⟨_, rfl⟩
        rw [← hth] at hlk
        have HTH := hide hth
        clear hth
        go_wp2_with fail
        refine (HDO.out _ N3).mono ?_; rintro e w4 ⟨B14, m14, e14, B24, m24, e24, B34, m34, e34, B44, m44, e44, rfl, M4, L4, T4, hb4⟩; replace V3 := V3.bl hb4; replace M3 := M3.bl hb4; replace C3 := C3.bl hb4; replace q : Below w.heap.size w w4 := (by repeat (first | (with_reducible exact Below.refl _ _) | (with_reducible assumption) | (with_reducible refine Below.drew ?_) | (with_reducible refine bdrewN ?_ _) | (with_reducible refine balloc ?_ _) | ((with_reducible refine bset ?_ ?_ _); rotate_left; (focus first | exact Nat.le_refl _ | (simp; done) | (simp; omega) | omega)) | (with_reducible refine bstep ?_ (by with_reducible assumption)) | (with_reducible refine Below.trans ?_ (by with_reducible assumption)))); clear hb4
        have D4 := Blk.new w4 29 #[.int .i64 dk, .string dt, .int .i64 dc, .slice B14 m14 e14, .slice B24 m24 e24, .slice B34 m34 e34]; replace M4 := M4.al (.cells #[.int .i64 dk, .string dt, .int .i64 dc, .slice B14 m14 e14, .slice B24 m24 e24, .slice B34 m34 e34] 29); replace L4 := L4.al (.cells #[.int .i64 dk, .string dt, .int .i64 dc, .slice B14 m14 e14, .slice B24 m24 e24, .slice B34 m34 e34] 29); replace V3 := V3.al (.cells #[.int .i64 dk, .string dt, .int .i64 dc, .slice B14 m14 e14, .slice B24 m24 e24, .slice B34 m34 e34] 29); replace M3 := M3.al (.cells #[.int .i64 dk, .string dt, .int .i64 dc, .slice B14 m14 e14, .slice B24 m24 e24, .slice B34 m34 e34] 29); replace C3 := C3.al (.cells #[.int .i64 dk, .string dt, .int .i64 dc, .slice B14 m14 e14, .slice B24 m24 e24, .slice B34 m34 e34] 29); have R4 : Blk ((w4.alloc (.cells #[.int .i64 dk, .string dt, .int .i64 dc, .slice B14 m14 e14, .slice B24 m24 e24, .slice B34 m34 e34] 29)).alloc (.cells #[.int .i64 rc, .string rt, .int .i64 rn, .slice B44 m44 e44] 37)) (w4.heap.size + 1) 37 #[.int .i64 rc, .string rt, .int .i64 rn, .slice B44 m44 e44] := Blk.new' _ _ _ (by simp); replace M4 := M4.al (.cells #[.int .i64 rc, .string rt, .int .i64 rn, .slice B44 m44 e44] 37); replace L4 := L4.al (.cells #[.int .i64 rc, .string rt, .int .i64 rn, .slice B44 m44 e44] 37); replace D4 := D4.al (.cells #[.int .i64 rc, .string rt, .int .i64 rn, .slice B44 m44 e44] 37); replace V3 := V3.al (.cells #[.int .i64 rc, .string rt, .int .i64 rn, .slice B44 m44 e44] 37); replace M3 := M3.al (.cells #[.int .i64 rc, .string rt, .int .i64 rn, .slice B44 m44 e44] 37); replace C3 := C3.al (.cells #[.int .i64 rc, .string rt, .int .i64 rn, .slice B44 m44 e44] 37)
        have bx : Below w4.heap.size w4 ((w4.alloc (.cells #[.int .i64 dk, .string dt, .int .i64 dc, .slice B14 m14 e14, .slice B24 m24 e24, .slice B34 m34 e34] 29)).alloc (.cells #[.int .i64 rc, .string rt, .int .i64 rn, .slice B44 m44 e44] 37)) := (by repeat (first | (with_reducible exact Below.refl _ _) | (with_reducible assumption) | (with_reducible refine Below.drew ?_) | (with_reducible refine bdrewN ?_ _) | (with_reducible refine balloc ?_ _) | ((with_reducible refine bset ?_ ?_ _); rotate_left; (focus first | exact Nat.le_refl _ | (simp; done) | (simp; omega) | omega)) | (with_reducible refine bstep ?_ (by with_reducible assumption)) | (with_reducible refine Below.trans ?_ (by with_reducible assumption))))
        have TT := And.intro (T4.1.bl bx) (And.intro (T4.2.1.bl bx) (T4.2.2.1.bl bx))
        have q9 : Below w.heap.size w ((w4.alloc (.cells #[.int .i64 dk, .string dt, .int .i64 dc, .slice B14 m14 e14, .slice B24 m24 e24, .slice B34 m34 e34] 29)).alloc (.cells #[.int .i64 rc, .string rt, .int .i64 rn, .slice B44 m44 e44] 37)) := (by repeat (first | (with_reducible exact Below.refl _ _) | (with_reducible assumption) | (with_reducible refine Below.drew ?_) | (with_reducible refine bdrewN ?_ _) | (with_reducible refine balloc ?_ _) | ((with_reducible refine bset ?_ ?_ _); rotate_left; (focus first | exact Nat.le_refl _ | (simp; done) | (simp; omega) | omega)) | (with_reducible refine bstep ?_ (by with_reducible assumption)) | (with_reducible refine Below.trans ?_ (by with_reducible assumption))))
        have hz9 := q9.size
        clear cV3 fV3 cC3 fC3 T4 bx hlk
        obtain ⟨hc0, hn0, hf0, hl0⟩ := s3 trivial
        clear s3 s4 s5 s6 s7
        subst hc0
        obtain ⟨w5, hput, M5, tu⟩ := M3.put (T := 54) Try.underlying9 Try.underlying54 (by unfold maxLen; omega) (plainElem_bool Try.underlying4 true) (t := t) (by unfold maxLen; omega)
        rw [hf0, ← hl0] at M5
        clear hf0 hl0
        replace q9 : Below w.heap.size w w5 := turned_below tu q9 (by omega) hz9
        (try clear cR4 fR4); have cR4 := R4.cell; have fR4 := R4.frozen; (try clear cC3 fC3); have cC3 := C3.cell; have fC3 := C3.frozen
        replace V3 := turned_blk tu V3
        have D5 := turned_blk tu D4
        replace M4 := turned_vsl tu M4 TT
        replace TT := And.intro (turned_tp tu TT.1) (And.intro (turned_tp tu TT.2.1) (turned_tp tu TT.2.2))
        have M3 := M5
        clear M5 tu
        (try clear cD5 fD5); have cD5 := D5.cell; have fD5 := D5.frozen; (try clear cV3 fV3); have cV3 := V3.cell; have fV3 := V3.frozen
        have htn : ((rn == 1) == th) = false := by rw [hn0, HTH.out]; by_cases hin : t ∈ is_ <;> simp [hin]
        clear hn0 HTH
        go_wp2_with (first | (at_mapUpdate; refine wpList_mapPut rfl _ _ _ _ rfl _ _ _ rfl rfl rfl hput ?_) | fail)
        go_roundw
        case rel =>
          obtain ⟨V9, gr9, sz9⟩ := whole_value (Value.int .i64 dk) (Value.string dt) (Value.int .i64 dc) (Value.slice B14 m14 e14) (Value.slice B24 m24 e24) (Value.slice B34 m34 e34) V3
          have M9 := M3.grown gr9 (by omega)
          exact ⟨i + 1, by omega, by omega, by go_num, _, _, _, _, _, _, _, _, _, _, _, _, _, _, _, V9, grown_vsl M4 TT V3 gr9, ⟨grown_tp TT.1 V3 gr9, grown_tp TT.2.1 V3 gr9, grown_tp TT.2.2 V3 gr9⟩, HS4, M9, below_grow q9 gr9 (by have := q9.size; omega) (by omega)⟩
        case measure => simp [intOf]; omega
      · obtain ⟨t, htf, hts, hcc, hcall⟩ := set_cmd 12 (wrap64 (3 * xf)) (by omega) hN3r
        generalize some_ 0 = key at *
        obtain ⟨s1, s2, s3, s4, s5, s6, s7⟩ := set_step HV.out hcc (by simp) htf
        have hDo := fun w h => Do_may ⟨vk, vt, vc, ps, is_, ss⟩ ⟨12, key, emp, t, 0⟩ HV.out.may' A1 A2 A3 n1 c1 n2 c2 n3 c3 w h
        generalize doneVal ⟨vk, vt, vc, ps, is_, ss⟩ ⟨12, key, emp, t, 0⟩ = D at *
        obtain ⟨⟨dk, dt, dc, dps, dis, dss⟩, ⟨rc, rt, rn, rl⟩, de⟩ := D
        simp only [emp, cmdV, Int.reduceSub] at s1 s3 s4 s5 s6 s7 hDo hcall
        subst s1
        have HDO := hide hDo
        have HCALL := hide hcall
        have HS4 := hide s2
        clear hDo hcall s2 htf hcc
        go_wp2_with fail
        refine (HCALL.out _).mono ?_
        rintro e w2 ⟨rfl, hb2⟩
        have q : Below w.heap.size w w2 := (by repeat (first | (with_reducible exact Below.refl _ _) | (with_reducible assumption) | (with_reducible refine Below.drew ?_) | (with_reducible refine bdrewN ?_ _) | (with_reducible refine balloc ?_ _) | ((with_reducible refine bset ?_ ?_ _); rotate_left; (focus first | exact Nat.le_refl _ | (simp; done) | (simp; omega) | omega)) | (with_reducible refine bstep ?_ (by with_reducible assumption)) | (with_reducible refine Below.trans ?_ (by with_reducible assumption))))
        have V3 := ((V.alloc (.cells #[.int .i64 11, .int .i64 11, .int .i64 12, .int .i64 13] 3)).below' hb2).alloc (.cells #[.int .i64 12, .string key, .string { data := #[] }, .string t, .int .i64 0] 34)
        have N3 := ((N.al (.cells #[.int .i64 11, .int .i64 11, .int .i64 12, .int .i64 13] 3)).bl hb2).al (.cells #[.int .i64 12, .string key, .string { data := #[] }, .string t, .int .i64 0] 34)
        have M3 := ((M.al (.cells #[.int .i64 11, .int .i64 11, .int .i64 12, .int .i64 13] 3)).bl hb2).al (.cells #[.int .i64 12, .string key, .string { data := #[] }, .string t, .int .i64 0] 34)
        have C3 := Blk.new w2 34 #[.int .i64 12, .string key, .string { data := #[] }, .string t, .int .i64 0]
        have hlk := M3.look (T := 54) Try.underlying9 Try.underlying54 (z := .bool false) (by kernel_rfl) (plainElem_bool Try.underlying4 false) (t := t) (by unfold maxLen; omega)
        rw [setF_get] at hlk
        have hz2 := hb2.size
        simp only [World.size_alloc] at hz2
        clear hb2 cV fV
        (try clear cV3 fV3); have cV3 := V3.cell; have fV3 := V3.frozen; (try clear cC3 fC3); have cC3 := C3.cell; have fC3 := C3.frozen
        obtain ⟨th, hth⟩ : ∃ th : Bool, th = decide (t ∈ is_) := ⟨_, rfl⟩
        rw [← hth] at hlk
        have HTH := hide hth
        clear hth
        go_wp2_with fail
        refine (HDO.out _ N3).mono ?_; rintro e w4 ⟨B14, m14, e14, B24, m24, e24, B34, m34, e34, B44, m44, e44, rfl, M4, L4, T4, hb4⟩; replace V3 := V3.bl hb4; replace M3 := M3.bl hb4; replace C3 := C3.bl hb4; replace q : Below w.heap.size w w4 := (by repeat (first | (with_reducible exact Below.refl _ _) | (with_reducible assumption) | (with_reducible refine Below.drew ?_) | (with_reducible refine bdrewN ?_ _) | (with_reducible refine balloc ?_ _) | ((with_reducible refine bset ?_ ?_ _); rotate_left; (focus first | exact Nat.le_refl _ | (simp; done) | (simp; omega) | omega)) | (with_reducible refine bstep ?_ (by with_reducible assumption)) | (with_reducible refine Below.trans ?_ (by with_reducible assumption)))); clear hb4
        have D4 := Blk.new w4 29 #[.int .i64 dk, .string dt, .int .i64 dc, .slice B14 m14 e14, .slice B24 m24 e24, .slice B34 m34 e34]; replace M4 := M4.al (.cells #[.int .i64 dk, .string dt, .int .i64 dc, .slice B14 m14 e14, .slice B24 m24 e24, .slice B34 m34 e34] 29); replace L4 := L4.al (.cells #[.int .i64 dk, .string dt, .int .i64 dc, .slice B14 m14 e14, .slice B24 m24 e24, .slice B34 m34 e34] 29); replace V3 := V3.al (.cells #[.int .i64 dk, .string dt, .int .i64 dc, .slice B14 m14 e14, .slice B24 m24 e24, .slice B34 m34 e34] 29); replace M3 := M3.al (.cells #[.int .i64 dk, .string dt, .int .i64 dc, .slice B14 m14 e14, .slice B24 m24 e24, .slice B34 m34 e34] 29); replace C3 := C3.al (.cells #[.int .i64 dk, .string dt, .int .i64 dc, .slice B14 m14 e14, .slice B24 m24 e24, .slice B34 m34 e34] 29); have R4 : Blk ((w4.alloc (.cells #[.int .i64 dk, .string dt, .int .i64 dc, .slice B14 m14 e14, .slice B24 m24 e24, .slice B34 m34 e34] 29)).alloc (.cells #[.int .i64 rc, .string rt, .int .i64 rn, .slice B44 m44 e44] 37)) (w4.heap.size + 1) 37 #[.int .i64 rc, .string rt, .int .i64 rn, .slice B44 m44 e44] := Blk.new' _ _ _ (by simp); replace M4 := M4.al (.cells #[.int .i64 rc, .string rt, .int .i64 rn, .slice B44 m44 e44] 37); replace L4 := L4.al (.cells #[.int .i64 rc, .string rt, .int .i64 rn, .slice B44 m44 e44] 37); replace D4 := D4.al (.cells #[.int .i64 rc, .string rt, .int .i64 rn, .slice B44 m44 e44] 37); replace V3 := V3.al (.cells #[.int .i64 rc, .string rt, .int .i64 rn, .slice B44 m44 e44] 37); replace M3 := M3.al (.cells #[.int .i64 rc, .string rt, .int .i64 rn, .slice B44 m44 e44] 37); replace C3 := C3.al (.cells #[.int .i64 rc, .string rt, .int .i64 rn, .slice B44 m44 e44] 37)
        have bx : Below w4.heap.size w4 ((w4.alloc (.cells #[.int .i64 dk, .string dt, .int .i64 dc, .slice B14 m14 e14, .slice B24 m24 e24, .slice B34 m34 e34] 29)).alloc (.cells #[.int .i64 rc, .string rt, .int .i64 rn, .slice B44 m44 e44] 37)) := (by repeat (first | (with_reducible exact Below.refl _ _) | (with_reducible assumption) | (with_reducible refine Below.drew ?_) | (with_reducible refine bdrewN ?_ _) | (with_reducible refine balloc ?_ _) | ((with_reducible refine bset ?_ ?_ _); rotate_left; (focus first | exact Nat.le_refl _ | (simp; done) | (simp; omega) | omega)) | (with_reducible refine bstep ?_ (by with_reducible assumption)) | (with_reducible refine Below.trans ?_ (by with_reducible assumption))))
        have TT := And.intro (T4.1.bl bx) (And.intro (T4.2.1.bl bx) (T4.2.2.1.bl bx))
        have q9 : Below w.heap.size w ((w4.alloc (.cells #[.int .i64 dk, .string dt, .int .i64 dc, .slice B14 m14 e14, .slice B24 m24 e24, .slice B34 m34 e34] 29)).alloc (.cells #[.int .i64 rc, .string rt, .int .i64 rn, .slice B44 m44 e44] 37)) := (by repeat (first | (with_reducible exact Below.refl _ _) | (with_reducible assumption) | (with_reducible refine Below.drew ?_) | (with_reducible refine bdrewN ?_ _) | (with_reducible refine balloc ?_ _) | ((with_reducible refine bset ?_ ?_ _); rotate_left; (focus first | exact Nat.le_refl _ | (simp; done) | (simp; omega) | omega)) | (with_reducible refine bstep ?_ (by with_reducible assumption)) | (with_reducible refine Below.trans ?_ (by with_reducible assumption))))
        have hz9 := q9.size
        clear cV3 fV3 cC3 fC3 T4 bx hlk
        by_cases hl0 : is_.length = 0
        · have hnil : is_ = [] := List.eq_nil_of_length_eq_zero hl0
          obtain ⟨hc5, hdn⟩ := s4 (by decide) hl0
          clear s3 s4 s5 s6 s7
          subst hc5
          subst hdn
          subst hnil
          replace M3 := M3.mono (Nat.le_succ i)
          clear HTH
          (try clear cD4 fD4); have cD4 := D4.cell; have fD4 := D4.frozen; (try clear cR4 fR4); have cR4 := R4.cell; have fR4 := R4.frozen; (try clear cC3 fC3); have cC3 := C3.cell; have fC3 := C3.frozen; (try clear cV3 fV3); have cV3 := V3.cell; have fV3 := V3.frozen
          go_wp2_with (first | (at_len; refine wpList_mapLen rfl _ _ rfl Try.underlying54 M3 rfl ?_) | fail)
          go_roundw
          case rel =>
            obtain ⟨V9, gr9, sz9⟩ := whole_value (Value.int .i64 dk) (Value.string dt) (Value.int .i64 dc) (Value.slice B14 m14 e14) (Value.slice B24 m24 e24) (Value.slice B34 m34 e34) V3
            have M9 := M3.grown gr9 (by omega)
            exact ⟨i + 1, by omega, by omega, by go_num, _, _, _, _, _, _, _, _, _, _, _, _, _, _, _, V9, grown_vsl M4 TT V3 gr9, ⟨grown_tp TT.1 V3 gr9, grown_tp TT.2.1 V3 gr9, grown_tp TT.2.2 V3 gr9⟩, HS4, M9, below_grow q9 gr9 (by have := q9.size; omega) (by omega)⟩
          case measure => simp [intOf]; omega
        · by_cases hin : t ∈ is_
          · obtain ⟨hc0, hn0⟩ := s5 (by decide) hl0
            rw [if_pos hin] at hn0
            subst hc0
            subst hn0
            have hth : th = true := by rw [HTH.out]; simp [hin]
            subst hth
            clear HTH
            have hlz : ((is_.length : Int) == 0) = false := by rw [beq_eq_false_iff_ne]; omega
            have M30 := M3
            obtain ⟨w5, hput, M5, tu⟩ := M3.del (T := 54) Try.underlying9 Try.underlying54 (t := t) (by unfold maxLen; omega)
            obtain ⟨hf0, hl2⟩ := s6 trivial hl0
            rw [hf0, ← hl2] at M5
            clear hf0 hl2 s3 s4 s5 s6 s7
            replace q9 : Below w.heap.size w w5 := turned_below tu q9 (by omega) hz9
            (try clear cR4 fR4); have cR4 := R4.cell; have fR4 := R4.frozen; (try clear cC3 fC3); have cC3 := C3.cell; have fC3 := C3.frozen
            replace V3 := turned_blk tu V3
            have D5 := turned_blk tu D4
            replace M4 := turned_vsl tu M4 TT
            replace TT := And.intro (turned_tp tu TT.1) (And.intro (turned_tp tu TT.2.1) (turned_tp tu TT.2.2))
            have M3 := M5.mono (Nat.le_succ i)
            clear M5 tu
            (try clear cD5 fD5); have cD5 := D5.cell; have fD5 := D5.frozen; (try clear cV3 fV3); have cV3 := V3.cell; have fV3 := V3.frozen
            go_wp2_with (first | (at_len; refine wpList_mapLen rfl _ _ rfl Try.underlying54 M30 rfl ?_) | (at_delete; refine wpList_mapDel rfl _ _ _ _ rfl _ _ rfl rfl hput ?_) | fail)
            go_roundw
            case rel =>
              obtain ⟨V9, gr9, sz9⟩ := whole_value (Value.int .i64 dk) (Value.string dt) (Value.int .i64 dc) (Value.slice B14 m14 e14) (Value.slice B24 m24 e24) (Value.slice B34 m34 e34) V3
              have M9 := M3.grown gr9 (by omega)
              exact ⟨i + 1, by omega, by omega, by go_num, _, _, _, _, _, _, _, _, _, _, _, _, _, _, _, V9, grown_vsl M4 TT V3 gr9, ⟨grown_tp TT.1 V3 gr9, grown_tp TT.2.1 V3 gr9, grown_tp TT.2.2 V3 gr9⟩, HS4, M9, below_grow q9 gr9 (by have := q9.size; omega) (by omega)⟩
            case measure => simp [intOf]; omega
          · obtain ⟨hc0, hn0⟩ := s5 (by decide) hl0
            rw [if_neg hin] at hn0
            subst hc0
            subst hn0
            have hth : th = false := by rw [HTH.out]; simp [hin]
            subst hth
            clear HTH
            have hlz : ((is_.length : Int) == 0) = false := by rw [beq_eq_false_iff_ne]; omega
            have M30 := M3
            obtain ⟨w5, hput, M5, tu⟩ := M3.del (T := 54) Try.underlying9 Try.underlying54 (t := t) (by unfold maxLen; omega)
            obtain ⟨hf0, hl2⟩ := s6 trivial hl0
            rw [hf0, ← hl2] at M5
            clear hf0 hl2 s3 s4 s5 s6 s7
            replace q9 : Below w.heap.size w w5 := turned_below tu q9 (by omega) hz9
            (try clear cR4 fR4); have cR4 := R4.cell; have fR4 := R4.frozen; (try clear cC3 fC3); have cC3 := C3.cell; have fC3 := C3.frozen
            replace V3 := turned_blk tu V3
            have D5 := turned_blk tu D4
            replace M4 := turned_vsl tu M4 TT
            replace TT := And.intro (turned_tp tu TT.1) (And.intro (turned_tp tu TT.2.1) (turned_tp tu TT.2.2))
            have M3 := M5.mono (Nat.le_succ i)
            clear M5 tu
            (try clear cD5 fD5); have cD5 := D5.cell; have fD5 := D5.frozen; (try clear cV3 fV3); have cV3 := V3.cell; have fV3 := V3.frozen
            go_wp2_with (first | (at_len; refine wpList_mapLen rfl _ _ rfl Try.underlying54 M30 rfl ?_) | (at_delete; refine wpList_mapDel rfl _ _ _ _ rfl _ _ rfl rfl hput ?_) | fail)
            go_roundw
            case rel =>
              obtain ⟨V9, gr9, sz9⟩ := whole_value (Value.int .i64 dk) (Value.string dt) (Value.int .i64 dc) (Value.slice B14 m14 e14) (Value.slice B24 m24 e24) (Value.slice B34 m34 e34) V3
              have M9 := M3.grown gr9 (by omega)
              exact ⟨i + 1, by omega, by omega, by go_num, _, _, _, _, _, _, _, _, _, _, _, _, _, _, _, V9, grown_vsl M4 TT V3 gr9, ⟨grown_tp TT.1 V3 gr9, grown_tp TT.2.1 V3 gr9, grown_tp TT.2.2 V3 gr9⟩, HS4, M9, below_grow q9 gr9 (by have := q9.size; omega) (by omega)⟩
            case measure => simp [intOf]; omega
      · obtain ⟨t, htf, hts, hcc, hcall⟩ := set_cmd 13 (wrap64 (3 * xf)) (by omega) hN3r
        generalize some_ 0 = key at *
        obtain ⟨s1, s2, s3, s4, s5, s6, s7⟩ := set_step HV.out hcc (by simp) htf
        have hDo := fun w h => Do_may ⟨vk, vt, vc, ps, is_, ss⟩ ⟨13, key, emp, t, 0⟩ HV.out.may' A1 A2 A3 n1 c1 n2 c2 n3 c3 w h
        generalize doneVal ⟨vk, vt, vc, ps, is_, ss⟩ ⟨13, key, emp, t, 0⟩ = D at *
        obtain ⟨⟨dk, dt, dc, dps, dis, dss⟩, ⟨rc, rt, rn, rl⟩, de⟩ := D
        simp only [emp, cmdV, Int.reduceSub] at s1 s3 s4 s5 s6 s7 hDo hcall
        subst s1
        have HDO := hide hDo
        have HCALL := hide hcall
        have HS4 := hide s2
        clear hDo hcall s2 htf hcc
        go_wp2_with fail
        refine (HCALL.out _).mono ?_
        rintro e w2 ⟨rfl, hb2⟩
        have q : Below w.heap.size w w2 := (by repeat (first | (with_reducible exact Below.refl _ _) | (with_reducible assumption) | (with_reducible refine Below.drew ?_) | (with_reducible refine bdrewN ?_ _) | (with_reducible refine balloc ?_ _) | ((with_reducible refine bset ?_ ?_ _); rotate_left; (focus first | exact Nat.le_refl _ | (simp; done) | (simp; omega) | omega)) | (with_reducible refine bstep ?_ (by with_reducible assumption)) | (with_reducible refine Below.trans ?_ (by with_reducible assumption))))
        have V3 := ((V.alloc (.cells #[.int .i64 11, .int .i64 11, .int .i64 12, .int .i64 13] 3)).below' hb2).alloc (.cells #[.int .i64 13, .string key, .string { data := #[] }, .string t, .int .i64 0] 34)
        have N3 := ((N.al (.cells #[.int .i64 11, .int .i64 11, .int .i64 12, .int .i64 13] 3)).bl hb2).al (.cells #[.int .i64 13, .string key, .string { data := #[] }, .string t, .int .i64 0] 34)
        have M3 := ((M.al (.cells #[.int .i64 11, .int .i64 11, .int .i64 12, .int .i64 13] 3)).bl hb2).al (.cells #[.int .i64 13, .string key, .string { data := #[] }, .string t, .int .i64 0] 34)
        have C3 := Blk.new w2 34 #[.int .i64 13, .string key, .string { data := #[] }, .string t, .int .i64 0]
        have hlk := M3.look (T := 54) Try.underlying9 Try.underlying54 (z := .bool false) (by kernel_rfl) (plainElem_bool Try.underlying4 false) (t := t) (by unfold maxLen; omega)
        rw [setF_get] at hlk
        have hz2 := hb2.size
        simp only [World.size_alloc] at hz2
        clear hb2 cV fV
        (try clear cV3 fV3); have cV3 := V3.cell; have fV3 := V3.frozen; (try clear cC3 fC3); have cC3 := C3.cell; have fC3 := C3.frozen
        obtain ⟨th, hth⟩ : ∃ th : Bool, th = decide (t ∈ is_) := ⟨_, rfl⟩
        rw [← hth] at hlk
        have HTH := hide hth
        clear hth
        go_wp2_with fail
        refine (HDO.out _ N3).mono ?_; rintro e w4 ⟨B14, m14, e14, B24, m24, e24, B34, m34, e34, B44, m44, e44, rfl, M4, L4, T4, hb4⟩; replace V3 := V3.bl hb4; replace M3 := M3.bl hb4; replace C3 := C3.bl hb4; replace q : Below w.heap.size w w4 := (by repeat (first | (with_reducible exact Below.refl _ _) | (with_reducible assumption) | (with_reducible refine Below.drew ?_) | (with_reducible refine bdrewN ?_ _) | (with_reducible refine balloc ?_ _) | ((with_reducible refine bset ?_ ?_ _); rotate_left; (focus first | exact Nat.le_refl _ | (simp; done) | (simp; omega) | omega)) | (with_reducible refine bstep ?_ (by with_reducible assumption)) | (with_reducible refine Below.trans ?_ (by with_reducible assumption)))); clear hb4
        have D4 := Blk.new w4 29 #[.int .i64 dk, .string dt, .int .i64 dc, .slice B14 m14 e14, .slice B24 m24 e24, .slice B34 m34 e34]; replace M4 := M4.al (.cells #[.int .i64 dk, .string dt, .int .i64 dc, .slice B14 m14 e14, .slice B24 m24 e24, .slice B34 m34 e34] 29); replace L4 := L4.al (.cells #[.int .i64 dk, .string dt, .int .i64 dc, .slice B14 m14 e14, .slice B24 m24 e24, .slice B34 m34 e34] 29); replace V3 := V3.al (.cells #[.int .i64 dk, .string dt, .int .i64 dc, .slice B14 m14 e14, .slice B24 m24 e24, .slice B34 m34 e34] 29); replace M3 := M3.al (.cells #[.int .i64 dk, .string dt, .int .i64 dc, .slice B14 m14 e14, .slice B24 m24 e24, .slice B34 m34 e34] 29); replace C3 := C3.al (.cells #[.int .i64 dk, .string dt, .int .i64 dc, .slice B14 m14 e14, .slice B24 m24 e24, .slice B34 m34 e34] 29); have R4 : Blk ((w4.alloc (.cells #[.int .i64 dk, .string dt, .int .i64 dc, .slice B14 m14 e14, .slice B24 m24 e24, .slice B34 m34 e34] 29)).alloc (.cells #[.int .i64 rc, .string rt, .int .i64 rn, .slice B44 m44 e44] 37)) (w4.heap.size + 1) 37 #[.int .i64 rc, .string rt, .int .i64 rn, .slice B44 m44 e44] := Blk.new' _ _ _ (by simp); replace M4 := M4.al (.cells #[.int .i64 rc, .string rt, .int .i64 rn, .slice B44 m44 e44] 37); replace L4 := L4.al (.cells #[.int .i64 rc, .string rt, .int .i64 rn, .slice B44 m44 e44] 37); replace D4 := D4.al (.cells #[.int .i64 rc, .string rt, .int .i64 rn, .slice B44 m44 e44] 37); replace V3 := V3.al (.cells #[.int .i64 rc, .string rt, .int .i64 rn, .slice B44 m44 e44] 37); replace M3 := M3.al (.cells #[.int .i64 rc, .string rt, .int .i64 rn, .slice B44 m44 e44] 37); replace C3 := C3.al (.cells #[.int .i64 rc, .string rt, .int .i64 rn, .slice B44 m44 e44] 37)
        have bx : Below w4.heap.size w4 ((w4.alloc (.cells #[.int .i64 dk, .string dt, .int .i64 dc, .slice B14 m14 e14, .slice B24 m24 e24, .slice B34 m34 e34] 29)).alloc (.cells #[.int .i64 rc, .string rt, .int .i64 rn, .slice B44 m44 e44] 37)) := (by repeat (first | (with_reducible exact Below.refl _ _) | (with_reducible assumption) | (with_reducible refine Below.drew ?_) | (with_reducible refine bdrewN ?_ _) | (with_reducible refine balloc ?_ _) | ((with_reducible refine bset ?_ ?_ _); rotate_left; (focus first | exact Nat.le_refl _ | (simp; done) | (simp; omega) | omega)) | (with_reducible refine bstep ?_ (by with_reducible assumption)) | (with_reducible refine Below.trans ?_ (by with_reducible assumption))))
        have TT := And.intro (T4.1.bl bx) (And.intro (T4.2.1.bl bx) (T4.2.2.1.bl bx))
        have q9 : Below w.heap.size w ((w4.alloc (.cells #[.int .i64 dk, .string dt, .int .i64 dc, .slice B14 m14 e14, .slice B24 m24 e24, .slice B34 m34 e34] 29)).alloc (.cells #[.int .i64 rc, .string rt, .int .i64 rn, .slice B44 m44 e44] 37)) := (by repeat (first | (with_reducible exact Below.refl _ _) | (with_reducible assumption) | (with_reducible refine Below.drew ?_) | (with_reducible refine bdrewN ?_ _) | (with_reducible refine balloc ?_ _) | ((with_reducible refine bset ?_ ?_ _); rotate_left; (focus first | exact Nat.le_refl _ | (simp; done) | (simp; omega) | omega)) | (with_reducible refine bstep ?_ (by with_reducible assumption)) | (with_reducible refine Below.trans ?_ (by with_reducible assumption))))
        have hz9 := q9.size
        clear cV3 fV3 cC3 fC3 T4 bx hlk
        by_cases hl0 : is_.length = 0
        · have hnil : is_ = [] := List.eq_nil_of_length_eq_zero hl0
          obtain ⟨hc5, hdn⟩ := s4 (by decide) hl0
          clear s3 s4 s5 s6 s7
          subst hc5
          subst hdn
          subst hnil
          replace M3 := M3.mono (Nat.le_succ i)
          clear HTH
          (try clear cD4 fD4); have cD4 := D4.cell; have fD4 := D4.frozen; (try clear cR4 fR4); have cR4 := R4.cell; have fR4 := R4.frozen; (try clear cC3 fC3); have cC3 := C3.cell; have fC3 := C3.frozen; (try clear cV3 fV3); have cV3 := V3.cell; have fV3 := V3.frozen
          go_wp2_with (first | (at_len; refine wpList_mapLen rfl _ _ rfl Try.underlying54 M3 rfl ?_) | fail)
          go_roundw
          case rel =>
            obtain ⟨V9, gr9, sz9⟩ := whole_value (Value.int .i64 dk) (Value.string dt) (Value.int .i64 dc) (Value.slice B14 m14 e14) (Value.slice B24 m24 e24) (Value.slice B34 m34 e34) V3
            have M9 := M3.grown gr9 (by omega)
            exact ⟨i + 1, by omega, by omega, by go_num, _, _, _, _, _, _, _, _, _, _, _, _, _, _, _, V9, grown_vsl M4 TT V3 gr9, ⟨grown_tp TT.1 V3 gr9, grown_tp TT.2.1 V3 gr9, grown_tp TT.2.2 V3 gr9⟩, HS4, M9, below_grow q9 gr9 (by have := q9.size; omega) (by omega)⟩
          case measure => simp [intOf]; omega
        · by_cases hin : t ∈ is_
          · obtain ⟨hc0, hn0⟩ := s5 (by decide) hl0
            rw [if_pos hin] at hn0
            subst hc0
            subst hn0
            have hth : th = true := by rw [HTH.out]; simp [hin]
            subst hth
            clear HTH
            have hlz : ((is_.length : Int) == 0) = false := by rw [beq_eq_false_iff_ne]; omega
            have M30 := M3
            have hdi := s7 trivial
            clear s3 s4 s5 s6 s7
            subst hdi
            replace M3 := M3.mono (Nat.le_succ i)
            (try clear cD4 fD4); have cD4 := D4.cell; have fD4 := D4.frozen; (try clear cR4 fR4); have cR4 := R4.cell; have fR4 := R4.frozen; (try clear cC3 fC3); have cC3 := C3.cell; have fC3 := C3.frozen; (try clear cV3 fV3); have cV3 := V3.cell; have fV3 := V3.frozen
            go_wp2_with (first | (at_len; refine wpList_mapLen rfl _ _ rfl Try.underlying54 M30 rfl ?_) | fail)
            go_roundw
            case rel =>
              obtain ⟨V9, gr9, sz9⟩ := whole_value (Value.int .i64 dk) (Value.string dt) (Value.int .i64 dc) (Value.slice B14 m14 e14) (Value.slice B24 m24 e24) (Value.slice B34 m34 e34) V3
              have M9 := M3.grown gr9 (by omega)
              exact ⟨i + 1, by omega, by omega, by go_num, _, _, _, _, _, _, _, _, _, _, _, _, _, _, _, V9, grown_vsl M4 TT V3 gr9, ⟨grown_tp TT.1 V3 gr9, grown_tp TT.2.1 V3 gr9, grown_tp TT.2.2 V3 gr9⟩, HS4, M9, below_grow q9 gr9 (by have := q9.size; omega) (by omega)⟩
            case measure => simp [intOf]; omega
          · obtain ⟨hc0, hn0⟩ := s5 (by decide) hl0
            rw [if_neg hin] at hn0
            subst hc0
            subst hn0
            have hth : th = false := by rw [HTH.out]; simp [hin]
            subst hth
            clear HTH
            have hlz : ((is_.length : Int) == 0) = false := by rw [beq_eq_false_iff_ne]; omega
            have M30 := M3
            have hdi := s7 trivial
            clear s3 s4 s5 s6 s7
            subst hdi
            replace M3 := M3.mono (Nat.le_succ i)
            (try clear cD4 fD4); have cD4 := D4.cell; have fD4 := D4.frozen; (try clear cR4 fR4); have cR4 := R4.cell; have fR4 := R4.frozen; (try clear cC3 fC3); have cC3 := C3.cell; have fC3 := C3.frozen; (try clear cV3 fV3); have cV3 := V3.cell; have fV3 := V3.frozen
            go_wp2_with (first | (at_len; refine wpList_mapLen rfl _ _ rfl Try.underlying54 M30 rfl ?_) | fail)
            go_roundw
            case rel =>
              obtain ⟨V9, gr9, sz9⟩ := whole_value (Value.int .i64 dk) (Value.string dt) (Value.int .i64 dc) (Value.slice B14 m14 e14) (Value.slice B24 m24 e24) (Value.slice B34 m34 e34) V3
              have M9 := M3.grown gr9 (by omega)
              exact ⟨i + 1, by omega, by omega, by go_num, _, _, _, _, _, _, _, _, _, _, _, _, _, _, _, V9, grown_vsl M4 TT V3 gr9, ⟨grown_tp TT.1 V3 gr9, grown_tp TT.2.1 V3 gr9, grown_tp TT.2.2 V3 gr9⟩, HS4, M9, below_grow q9 gr9 (by have := q9.size; omega) (by omega)⟩
            case measure => simp [intOf]; omega
    · have hend : ¬ ((i : Int) < (n : Int) ∧ (i : Int) < 30) := by omega
      have hendc : (i : Int) < (n : Int) ∨ ¬ (i : Int) < (n : Int) := by omega
      have hiv := N.n2_
      simp only at hiv
      have hro := set_next HV.out.rises
      simp only at hro
      have HRO := hide hro
      have HFEW := hide HV.out.short
      have HIV := hide hiv
      have hroom := HV.out.room
      simp only at hroom
      rw [hiv] at hroom
      clear hro hiv HV hS hd hmm
      (try clear cV fV); have cV := V.cell; have fV := V.frozen
      have hgo : ((i : Int) < (n : Int) ∧ ¬ (i : Int) < 30) ∨ ¬ (i : Int) < (n : Int) := by omega
      clear hend hendc
      rcases hgo with ⟨ha, hb⟩ | ha
      · go_wp2_with fail
        clear cV fV
        go_loopw [12] (fun s12 wx => ∃ j : Nat, j ≤ n2 ∧ s12 = .int .i64 j ∧ Below wr.heap.size wr wx) (fun s12 _ => n2 - (intOf s12).toNat)
        case atStart => exact ⟨0, by omega, rfl, Below.refl _ _⟩
        case round =>
          obtain ⟨j, hj, rfl, hbx⟩ := hrel
          have Vx := V.bl hbx; have Nx := N.bl hbx; have Mx := M.bl hbx
          have hvx := Vx.lt
          have hmx := Mx.lt
          by_cases hjn : j < n2
          · have hjn' : (j : Int) < (n2 : Int) := by omega
            have hj0 : (0 : Int) ≤ (j : Int) := by omega
            have hjl : j < is_.length := by rw [HIV.out]; exact hjn
            obtain ⟨b, off, rfl, hbb, l0⟩ := Nx.i.seg.str (i := j) hjl
            have hin : is_[j] ∈ is_ := List.getElem_mem hjl
            cases j with
            | zero =>
              have hlk := fun nn => (Mx.drewN nn).look (T := 54) Try.underlying9 Try.underlying54 (z := .bool false) (by kernel_rfl) (plainElem_bool Try.underlying4 false) (t := is_[0]) (by have := HFEW.out _ hin; unfold maxLen; omega)
              simp only [setF_get] at hlk
              generalize is_[0] = x at hin l0 hlk
              simp only [Nat.zero_mul, Nat.add_zero] at l0
              simp only [hin, decide_true] at hlk
              (try clear cVx fVx); have cVx := Vx.cell; have fVx := Vx.frozen
              go_wp2_with fail
              go_quiet (fail)
              go_wp2_with fail
              go_roundw
              case rel => exact ⟨1, by omega, by go_num, (by repeat (first | (with_reducible exact Below.refl _ _) | (with_reducible assumption) | (with_reducible refine Below.drew ?_) | (with_reducible refine bdrewN ?_ _) | (with_reducible refine balloc ?_ _) | ((with_reducible refine bset ?_ ?_ _); rotate_left; (focus first | exact Nat.le_refl _ | (simp; done) | (simp; omega) | omega)) | (with_reducible refine bstep ?_ (by with_reducible assumption)) | (with_reducible refine Below.trans ?_ (by with_reducible assumption))))⟩
              case measure => simp [intOf]; omega
            | succ k =>
              have hlk := fun nn => (Mx.drewN nn).look (T := 54) Try.underlying9 Try.underlying54 (z := .bool false) (by kernel_rfl) (plainElem_bool Try.underlying4 false) (t := is_[k + 1]) (by have := HFEW.out _ hin; unfold maxLen; omega)
              simp only [setF_get] at hlk
              have hoj := HRO.out k hjl
              have hkl : k < is_.length := by omega
              obtain ⟨b', off', hb', -, l1⟩ := Nx.i.seg.str (i := k) hkl
              injection hb' with hb'
              injection hb' with hb1 hb2
              subst hb1; subst hb2
              generalize is_[k + 1] = x at hin l0 hlk hoj
              generalize (is_[k]'hkl) = y at l1 hoj
              simp only [hin, decide_true] at hlk
              have hw1 : IntKind.i64.wrap ((k : Int) + 1 - 1) = (k : Int) := by rw [IntWalk.i64_in _ (by omega)]; omega
              have hw2 : IntKind.i64.wrap (k : Int) = (k : Int) := IntWalk.i64_in _ (by omega)
              have hz0 : (0 : Int) ≤ (k : Int) := by omega
              have hz1 : (k : Int) < (n2 : Int) := by omega
              have hz2 : (0 : Int) < (k : Int) + 1 := by omega
              clear hjl hkl
              (try clear cVx fVx); have cVx := Vx.cell; have fVx := Vx.frozen
              go_wp2_with fail
              go_quiet (fail)
              go_wp2_with fail
              go_roundw
              case rel => exact ⟨k + 1 + 1, by omega, by go_num, (by repeat (first | (with_reducible exact Below.refl _ _) | (with_reducible assumption) | (with_reducible refine Below.drew ?_) | (with_reducible refine bdrewN ?_ _) | (with_reducible refine balloc ?_ _) | ((with_reducible refine bset ?_ ?_ _); rotate_left; (focus first | exact Nat.le_refl _ | (simp; done) | (simp; omega) | omega)) | (with_reducible refine bstep ?_ (by with_reducible assumption)) | (with_reducible refine Below.trans ?_ (by with_reducible assumption))))⟩
              case measure => simp [intOf]; omega
          · obtain rfl : j = n2 := by omega
            have hge : ¬ (j : Int) < (j : Int) := by omega
            have hDo := fun w h => Do_may zeroVa ⟨11, { data := #[107] }, { data := #[] }, { data := #[] }, 0⟩ (.inl rfl) none none none 0 0 0 0 0 0 w h
            have hcc : ccOf ⟨11, { data := #[107] }, { data := #[] }, { data := #[] }, 0⟩ = 0 := cc_lit (by decide) (by decide) (by rw [if_neg (by decide)]; rfl) (by rw [if_pos (by decide)]; decide) (by rw [if_neg (by decide)])
            rw [done_sadd0 hcc rfl] at hDo
            clear hcc
            simp only [toldR, emp, zeroVa] at hDo
            have HDO := hide hDo
            have q : Below w.heap.size w wr := (by repeat (first | (with_reducible exact Below.refl _ _) | (with_reducible assumption) | (with_reducible refine Below.drew ?_) | (with_reducible refine bdrewN ?_ _) | (with_reducible refine balloc ?_ _) | ((with_reducible refine bset ?_ ?_ _); rotate_left; (focus first | exact Nat.le_refl _ | (simp; done) | (simp; omega) | omega)) | (with_reducible refine bstep ?_ (by with_reducible assumption)) | (with_reducible refine Below.trans ?_ (by with_reducible assumption))))
            rw [HIV.out] at Mx
            clear hDo HFEW HRO M V N hbx
            (try clear cVx fVx); have cVx := Vx.cell; have fVx := Vx.frozen
            go_wp2_with fail
            refine (HDO.out _ nil_vsl).mono ?_; rintro e w5 ⟨B15, m15, e15, B25, m25, e25, B35, m35, e35, B45, m45, e45, rfl, M5, L5, T5, hb5⟩; replace Vx := Vx.bl hb5; replace Mx := Mx.bl hb5; replace q : Below w.heap.size w w5 := (by repeat (first | (with_reducible exact Below.refl _ _) | (with_reducible assumption) | (with_reducible refine Below.drew ?_) | (with_reducible refine bdrewN ?_ _) | (with_reducible refine balloc ?_ _) | ((with_reducible refine bset ?_ ?_ _); rotate_left; (focus first | exact Nat.le_refl _ | (simp; done) | (simp; omega) | omega)) | (with_reducible refine bstep ?_ (by with_reducible assumption)) | (with_reducible refine Below.trans ?_ (by with_reducible assumption)))); clear hb5
            have D5 := Blk.new w5 29 #[.int .i64 5, .string { data := #[] }, .int .i64 0, .slice B15 m15 e15, .slice B25 m25 e25, .slice B35 m35 e35]; replace M5 := M5.al (.cells #[.int .i64 5, .string { data := #[] }, .int .i64 0, .slice B15 m15 e15, .slice B25 m25 e25, .slice B35 m35 e35] 29); replace L5 := L5.al (.cells #[.int .i64 5, .string { data := #[] }, .int .i64 0, .slice B15 m15 e15, .slice B25 m25 e25, .slice B35 m35 e35] 29); replace Vx := Vx.al (.cells #[.int .i64 5, .string { data := #[] }, .int .i64 0, .slice B15 m15 e15, .slice B25 m25 e25, .slice B35 m35 e35] 29); replace Mx := Mx.al (.cells #[.int .i64 5, .string { data := #[] }, .int .i64 0, .slice B15 m15 e15, .slice B25 m25 e25, .slice B35 m35 e35] 29); have R5 : Blk ((w5.alloc (.cells #[.int .i64 5, .string { data := #[] }, .int .i64 0, .slice B15 m15 e15, .slice B25 m25 e25, .slice B35 m35 e35] 29)).alloc (.cells #[.int .i64 0, .string { data := #[] }, .int .i64 1, .slice B45 m45 e45] 37)) (w5.heap.size + 1) 37 #[.int .i64 0, .string { data := #[] }, .int .i64 1, .slice B45 m45 e45] := Blk.new' _ _ _ (by simp); replace M5 := M5.al (.cells #[.int .i64 0, .string { data := #[] }, .int .i64 1, .slice B45 m45 e45] 37); replace L5 := L5.al (.cells #[.int .i64 0, .string { data := #[] }, .int .i64 1, .slice B45 m45 e45] 37); replace D5 := D5.al (.cells #[.int .i64 0, .string { data := #[] }, .int .i64 1, .slice B45 m45 e45] 37); replace Vx := Vx.al (.cells #[.int .i64 0, .string { data := #[] }, .int .i64 1, .slice B45 m45 e45] 37); replace Mx := Mx.al (.cells #[.int .i64 0, .string { data := #[] }, .int .i64 1, .slice B45 m45 e45] 37)
            have h15 := M5.n2_
            simp only [List.length_cons, List.length_nil] at h15
            subst h15
            clear cVx fVx
            have hlm := Mx.len Try.underlying54 3
            (try clear cD5 fD5); have cD5 := D5.cell; have fD5 := D5.frozen; (try clear cR5 fR5); have cR5 := R5.cell; have fR5 := R5.frozen; (try clear cVx fVx); have cVx := Vx.cell; have fVx := Vx.frozen
            go_wp2_with fail
            go_ret
            exact ⟨rfl, (by repeat (first | (with_reducible exact Below.refl _ _) | (with_reducible assumption) | (with_reducible refine Below.drew ?_) | (with_reducible refine bdrewN ?_ _) | (with_reducible refine balloc ?_ _) | ((with_reducible refine bset ?_ ?_ _); rotate_left; (focus first | exact Nat.le_refl _ | (simp; done) | (simp; omega) | omega)) | (with_reducible refine bstep ?_ (by with_reducible assumption)) | (with_reducible refine Below.trans ?_ (by with_reducible assumption))))⟩
      · go_wp2_with fail
        clear cV fV
        go_loopw [12] (fun s12 wx => ∃ j : Nat, j ≤ n2 ∧ s12 = .int .i64 j ∧ Below wr.heap.size wr wx) (fun s12 _ => n2 - (intOf s12).toNat)
        case atStart => exact ⟨0, by omega, rfl, Below.refl _ _⟩
        case round =>
          obtain ⟨j, hj, rfl, hbx⟩ := hrel
          have Vx := V.bl hbx; have Nx := N.bl hbx; have Mx := M.bl hbx
          have hvx := Vx.lt
          have hmx := Mx.lt
          by_cases hjn : j < n2
          · have hjn' : (j : Int) < (n2 : Int) := by omega
            have hj0 : (0 : Int) ≤ (j : Int) := by omega
            have hjl : j < is_.length := by rw [HIV.out]; exact hjn
            obtain ⟨b, off, rfl, hbb, l0⟩ := Nx.i.seg.str (i := j) hjl
            have hin : is_[j] ∈ is_ := List.getElem_mem hjl
            cases j with
            | zero =>
              have hlk := fun nn => (Mx.drewN nn).look (T := 54) Try.underlying9 Try.underlying54 (z := .bool false) (by kernel_rfl) (plainElem_bool Try.underlying4 false) (t := is_[0]) (by have := HFEW.out _ hin; unfold maxLen; omega)
              simp only [setF_get] at hlk
              generalize is_[0] = x at hin l0 hlk
              simp only [Nat.zero_mul, Nat.add_zero] at l0
              simp only [hin, decide_true] at hlk
              (try clear cVx fVx); have cVx := Vx.cell; have fVx := Vx.frozen
              go_wp2_with fail
              go_quiet (fail)
              go_wp2_with fail
              go_roundw
              case rel => exact ⟨1, by omega, by go_num, (by repeat (first | (with_reducible exact Below.refl _ _) | (with_reducible assumption) | (with_reducible refine Below.drew ?_) | (with_reducible refine bdrewN ?_ _) | (with_reducible refine balloc ?_ _) | ((with_reducible refine bset ?_ ?_ _); rotate_left; (focus first | exact Nat.le_refl _ | (simp; done) | (simp; omega) | omega)) | (with_reducible refine bstep ?_ (by with_reducible assumption)) | (with_reducible refine Below.trans ?_ (by with_reducible assumption))))⟩
              case measure => simp [intOf]; omega
            | succ k =>
              have hlk := fun nn => (Mx.drewN nn).look (T := 54) Try.underlying9 Try.underlying54 (z := .bool false) (by kernel_rfl) (plainElem_bool Try.underlying4 false) (t := is_[k + 1]) (by have := HFEW.out _ hin; unfold maxLen; omega)
              simp only [setF_get] at hlk
              have hoj := HRO.out k hjl
              have hkl : k < is_.length := by omega
              obtain ⟨b', off', hb', -, l1⟩ := Nx.i.seg.str (i := k) hkl
              injection hb' with hb'
              injection hb' with hb1 hb2
              subst hb1; subst hb2
              generalize is_[k + 1] = x at hin l0 hlk hoj
              generalize (is_[k]'hkl) = y at l1 hoj
              simp only [hin, decide_true] at hlk
              have hw1 : IntKind.i64.wrap ((k : Int) + 1 - 1) = (k : Int) := by rw [IntWalk.i64_in _ (by omega)]; omega
              have hw2 : IntKind.i64.wrap (k : Int) = (k : Int) := IntWalk.i64_in _ (by omega)
              have hz0 : (0 : Int) ≤ (k : Int) := by omega
              have hz1 : (k : Int) < (n2 : Int) := by omega
              have hz2 : (0 : Int) < (k : Int) + 1 := by omega
              clear hjl hkl
              (try clear cVx fVx); have cVx := Vx.cell; have fVx := Vx.frozen
              go_wp2_with fail
              go_quiet (fail)
              go_wp2_with fail
              go_roundw
              case rel => exact ⟨k + 1 + 1, by omega, by go_num, (by repeat (first | (with_reducible exact Below.refl _ _) | (with_reducible assumption) | (with_reducible refine Below.drew ?_) | (with_reducible refine bdrewN ?_ _) | (with_reducible refine balloc ?_ _) | ((with_reducible refine bset ?_ ?_ _); rotate_left; (focus first | exact Nat.le_refl _ | (simp; done) | (simp; omega) | omega)) | (with_reducible refine bstep ?_ (by with_reducible assumption)) | (with_reducible refine Below.trans ?_ (by with_reducible assumption))))⟩
              case measure => simp [intOf]; omega
          · obtain rfl : j = n2 := by omega
            have hge : ¬ (j : Int) < (j : Int) := by omega
            have hDo := fun w h => Do_may zeroVa ⟨11, { data := #[107] }, { data := #[] }, { data := #[] }, 0⟩ (.inl rfl) none none none 0 0 0 0 0 0 w h
            have hcc : ccOf ⟨11, { data := #[107] }, { data := #[] }, { data := #[] }, 0⟩ = 0 := cc_lit (by decide) (by decide) (by rw [if_neg (by decide)]; rfl) (by rw [if_pos (by decide)]; decide) (by rw [if_neg (by decide)])
            rw [done_sadd0 hcc rfl] at hDo
            clear hcc
            simp only [toldR, emp, zeroVa] at hDo
            have HDO := hide hDo
            have q : Below w.heap.size w wr := (by repeat (first | (with_reducible exact Below.refl _ _) | (with_reducible assumption) | (with_reducible refine Below.drew ?_) | (with_reducible refine bdrewN ?_ _) | (with_reducible refine balloc ?_ _) | ((with_reducible refine bset ?_ ?_ _); rotate_left; (focus first | exact Nat.le_refl _ | (simp; done) | (simp; omega) | omega)) | (with_reducible refine bstep ?_ (by with_reducible assumption)) | (with_reducible refine Below.trans ?_ (by with_reducible assumption))))
            rw [HIV.out] at Mx
            clear hDo HFEW HRO M V N hbx
            (try clear cVx fVx); have cVx := Vx.cell; have fVx := Vx.frozen
            go_wp2_with fail
            refine (HDO.out _ nil_vsl).mono ?_; rintro e w5 ⟨B15, m15, e15, B25, m25, e25, B35, m35, e35, B45, m45, e45, rfl, M5, L5, T5, hb5⟩; replace Vx := Vx.bl hb5; replace Mx := Mx.bl hb5; replace q : Below w.heap.size w w5 := (by repeat (first | (with_reducible exact Below.refl _ _) | (with_reducible assumption) | (with_reducible refine Below.drew ?_) | (with_reducible refine bdrewN ?_ _) | (with_reducible refine balloc ?_ _) | ((with_reducible refine bset ?_ ?_ _); rotate_left; (focus first | exact Nat.le_refl _ | (simp; done) | (simp; omega) | omega)) | (with_reducible refine bstep ?_ (by with_reducible assumption)) | (with_reducible refine Below.trans ?_ (by with_reducible assumption)))); clear hb5
            have D5 := Blk.new w5 29 #[.int .i64 5, .string { data := #[] }, .int .i64 0, .slice B15 m15 e15, .slice B25 m25 e25, .slice B35 m35 e35]; replace M5 := M5.al (.cells #[.int .i64 5, .string { data := #[] }, .int .i64 0, .slice B15 m15 e15, .slice B25 m25 e25, .slice B35 m35 e35] 29); replace L5 := L5.al (.cells #[.int .i64 5, .string { data := #[] }, .int .i64 0, .slice B15 m15 e15, .slice B25 m25 e25, .slice B35 m35 e35] 29); replace Vx := Vx.al (.cells #[.int .i64 5, .string { data := #[] }, .int .i64 0, .slice B15 m15 e15, .slice B25 m25 e25, .slice B35 m35 e35] 29); replace Mx := Mx.al (.cells #[.int .i64 5, .string { data := #[] }, .int .i64 0, .slice B15 m15 e15, .slice B25 m25 e25, .slice B35 m35 e35] 29); have R5 : Blk ((w5.alloc (.cells #[.int .i64 5, .string { data := #[] }, .int .i64 0, .slice B15 m15 e15, .slice B25 m25 e25, .slice B35 m35 e35] 29)).alloc (.cells #[.int .i64 0, .string { data := #[] }, .int .i64 1, .slice B45 m45 e45] 37)) (w5.heap.size + 1) 37 #[.int .i64 0, .string { data := #[] }, .int .i64 1, .slice B45 m45 e45] := Blk.new' _ _ _ (by simp); replace M5 := M5.al (.cells #[.int .i64 0, .string { data := #[] }, .int .i64 1, .slice B45 m45 e45] 37); replace L5 := L5.al (.cells #[.int .i64 0, .string { data := #[] }, .int .i64 1, .slice B45 m45 e45] 37); replace D5 := D5.al (.cells #[.int .i64 0, .string { data := #[] }, .int .i64 1, .slice B45 m45 e45] 37); replace Vx := Vx.al (.cells #[.int .i64 0, .string { data := #[] }, .int .i64 1, .slice B45 m45 e45] 37); replace Mx := Mx.al (.cells #[.int .i64 0, .string { data := #[] }, .int .i64 1, .slice B45 m45 e45] 37)
            have h15 := M5.n2_
            simp only [List.length_cons, List.length_nil] at h15
            subst h15
            clear cVx fVx
            have hlm := Mx.len Try.underlying54 3
            (try clear cD5 fD5); have cD5 := D5.cell; have fD5 := D5.frozen; (try clear cR5 fR5); have cR5 := R5.cell; have fR5 := R5.frozen; (try clear cVx fVx); have cVx := Vx.cell; have fVx := Vx.frozen
            go_wp2_with fail
            go_ret
            exact ⟨rfl, (by repeat (first | (with_reducible exact Below.refl _ _) | (with_reducible assumption) | (with_reducible refine Below.drew ?_) | (with_reducible refine bdrewN ?_ _) | (with_reducible refine balloc ?_ _) | ((with_reducible refine bset ?_ ?_ _); rotate_left; (focus first | exact Nat.le_refl _ | (simp; done) | (simp; omega) | omega)) | (with_reducible refine bstep ?_ (by with_reducible assumption)) | (with_reducible refine Below.trans ?_ (by with_reducible assumption))))⟩
set_option maxRecDepth 100000 in
theorem setModel_lifted (os : Os) (started : os.Started) (H : Type) (enc : TypeId × Value → H) :
  ReturnsInHanded {} Try.checked os 8 .any (Rows.setModelSpec.pre6 enc Try.prog Try.f8 Rows.setModelRow.domain false) (Rows.setModelSpec.post enc Try.prog Try.f8 false true false false) := by
  refine returnsInHanded_of_change (C := Try.checked) Try.own started (by kernel_rfl) Try.func8 (ChangeSpec.witness6 (enc := enc) (C := Try.checked) false ⟨#[], #[.slice none 0 0], []⟩ 8 (by kernel_rfl) (by kernel_rfl) (by kernel_rfl) (by kernel_rfl)) ?_
  intro W base args ds gs before hval0 hW hcnd _
  have hval : ∀ (j : Nat) t v, Try.f8.params[j]? = some t → args[j]? = some v → Value.okWide Try.prog W .any base t v := hval0
  have hW' := hW
  obtain ⟨p, q, hA0, hV, rfl, hfz, hnd⟩ := hW
  have hA : DataW.TrodAll enc Try.prog W 0 (fun _ => true) true Try.f8.params.toList args.toList ds p := hA0
  rw [Try.params8] at hA hval
  obtain ⟨rfl, rfl⟩ := trodVars_none hV
  clear hA0 hval0 hcnd hV hfz hnd
  obtain ⟨v0, d0, rfl, rfl, h0⟩ := trodAll_one hA
  obtain ⟨A, n, c, l, rfl, hd, hS⟩ := open_raws (hval 0 22 v0 rfl rfl) h0
  refine (setModel_walk A n c l W hS hd).mono fun e W' ⟨he, hb⟩ => ?_
  subst he
  exact ⟨_, rfl, post_law Try.laidOut hW' rfl (by kernel_rfl) rfl Try.underlying4 (fun _ => rfl) (fun _ => rfl) (fun _ => rfl) hb⟩
theorem setModel_holds : Rows.SetModelSaid := OpenClaim.holds_of_wide 8 Try.f8 rfl rfl rfl rfl rfl rfl rfl ⟨rfl, rfl, rfl, rfl, rfl⟩ rfl rfl rfl rfl rfl (by kernel_rfl) Try.func8 (by kernel_rfl)
  (of_decide_eq_true (by kernel_rfl)) (by unfold Func.isWrapper; first | (rw [if_pos (by decide +kernel)]; kernel_rfl) | (rw [if_neg (by decide +kernel)]; exact ⟨rfl, rfl⟩))
  (fun os started H enc _ => setModel_lifted os started H enc)
#print axioms setModel_holds
end Go.Proofs.Ytcelcanfdalliaa
