/- rostrumkeep.KeysFull returns true for every input; no condition. -/
import Derived.Test.YtpdadlofgfdlpaaStoX
import Derived.Test.YtpdadlofgfdlpaaOpen
namespace Go.Proofs.Ytpdadlofgfdlpaa
set_option linter.all false
open Go.ChangeShapes Go.WideShapes Go.ChangeAt Go.RowKit
def fkey (i : Nat) : ByteArray := strOfNums [65 + (i : Int)]
theorem fkey_size (i : Nat) : (fkey i).size = 1 := by simp [fkey, strOfNums_size]
theorem fkey_inj : ∀ {i : Nat}, i < 24 → ∀ {j : Nat}, j < 24 → fkey i = fkey j → i = j := by decide +kernel
theorem cc_sadd {key : ByteArray} (h : key.size = 1) : ccOf ⟨11, key, { data := #[] }, { data := #[120] }, 0⟩ = 0 :=
  cc_at (cc_lit (by omega) (by omega) (by rw [if_neg (by decide)]; rfl) (by rw [if_pos (by decide)]; decide) (by rw [if_neg (by decide)])) (by omega) (by omega) (by omega)
theorem cc_putA : ccOf ⟨1, { data := #[65] }, { data := #[] }, { data := #[] }, 0⟩ = 0 :=
  cc_at (cc_lit (by omega) (by omega) (by rw [if_neg (by decide)]; rfl) (by rw [if_pos (by decide)]; decide) (by rw [if_neg (by decide)])) (by omega) (by decide) (by decide)
/-- A store into which so many keys were laid. -/
structure FullAt (i : Nat) (es : List En) : Prop where
  ok : StOk 0 es
  len : es.length = min i 12
  keys : ∀ x ∈ es, ∃ j, j < i ∧ x.key = fkey j
  has : 0 < i → ∃ x ∈ es, x.key = fkey 0
theorem full_start : FullAt 0 [] := ⟨nil_ok (by omega) (by omega), rfl, by simp, by omega⟩
theorem full_step {i : Nat} {es : List En} (h : FullAt i es) (hi : i < 24) : ∃ es' r, applyS 0 es 0 ⟨11, fkey i, { data := #[] }, { data := #[120] }, 0⟩ = ((0, es'), r, 0) ∧ FullAt (i + 1) es' ∧ (r.code = 6 ↔ 12 ≤ i) := by
  have cc := cc_sadd (fkey_size i)
  have e := apply_ok h.ok (Int.le_refl _) (by omega) cc
  rw [alive_self h.ok] at e
  have hh : keyHas (fkey i) es = false := by
    cases hh : keyHas (fkey i) es with
    | false => rfl
    | true =>
      obtain ⟨x, hx, hk⟩ := (has_iff h.ok.rise).1 hh
      obtain ⟨j, hj, e⟩ := h.keys x hx
      have := fkey_inj (show j < 24 by omega) hi (e.symm.trans hk)
      omega
  obtain ⟨m1, m2, m3⟩ := done_made cc rfl
  have ok' := doS_ok h.ok cc
  have hd : doS 0 es ⟨11, fkey i, { data := #[] }, { data := #[120] }, 0⟩ = if es.length = 12 then (es, failR 6) else
      (insRows es (keyAt (fkey i) es) ⟨fkey i, (doneVal zeroVa ⟨11, fkey i, { data := #[] }, { data := #[120] }, 0⟩).1, 0⟩, (doneVal zeroVa ⟨11, fkey i, { data := #[] }, { data := #[120] }, 0⟩).2.1) := by
    unfold doS
    rw [if_neg (by simp), if_neg (by simp), if_neg (by simp)]
    simp only [hh]
    have ho : oldOf es (keyAt (fkey i) es) false = zeroVa := rfl
    have hle : keyAt (fkey i) es ≤ es.length := lowB_le _ _
    rw [ho, if_neg (by rw [m3]; simp), if_neg (by simp)]
    by_cases h12 : es.length = 12
    · rw [if_pos ⟨by simp, h12⟩, if_pos h12]
    · rw [if_neg (by simp [h12]), if_neg h12, if_pos (by have := m2.k1; omega), setS_new hle]
  have hl := h.len
  by_cases h12 : es.length = 12
  · rw [if_pos h12] at hd
    rw [hd] at e
    refine ⟨es, failR 6, e, ⟨h.ok, by omega, fun x hx => ?_, fun _ => h.has (by omega)⟩, by show (6 : Int) = 6 ↔ _; simp; omega⟩
    obtain ⟨j, hj, e⟩ := h.keys x hx
    exact ⟨j, by omega, e⟩
  · rw [if_neg h12] at hd
    rw [hd] at e ok'
    refine ⟨_, _, e, ⟨ok', by show (insRows _ _ _).length = _; rw [ins_len]; omega, fun x hx => ?_, fun _ => ?_⟩, by rw [m3]; simp; omega⟩
    · rcases mem_ins.1 hx with rfl | hx
      · exact ⟨i, by omega, rfl⟩
      · obtain ⟨j, hj, e⟩ := h.keys x hx
        exact ⟨j, by omega, e⟩
    · by_cases h0 : i = 0
      · subst h0
        exact ⟨_, mem_ins.2 (.inl rfl), rfl⟩
      · obtain ⟨x, hx, hk⟩ := h.has (by omega)
        exact ⟨x, mem_ins.2 (.inr hx), hk⟩
theorem full_put {i : Nat} {es : List En} (h : FullAt i es) : ∃ es', applyS 0 es 0 ⟨1, { data := #[65] }, { data := #[] }, { data := #[] }, 0⟩ = ((0, es'), ⟨0, emp, 0, []⟩, 0) ∧ es'.length = max es.length 1 := by
  have hk : fkey 0 = { data := #[65] } := by decide +kernel
  have e := apply_ok h.ok (Int.le_refl _) (by omega) cc_putA
  rw [alive_self h.ok] at e
  have hl := h.len
  have hle : keyAt { data := #[65] } es ≤ es.length := lowB_le _ _
  unfold doS at e
  rw [if_neg (by simp), if_neg (by simp), if_neg (by simp), done_put (old_may h.ok _ _) cc_putA rfl] at e
  simp only at e
  rw [if_neg (by simp [toldR]), if_neg (by simp)] at e
  cases hh : keyHas { data := #[65] } es with
  | true =>
    have hpos := keyHas_lt hh
    simp only [hh] at e
    rw [if_neg (by simp), if_pos (by simp), setS_has hpos] at e
    exact ⟨_, e, by rw [List.length_set]; omega⟩
  | false =>
    have h0 : i = 0 := by
      rcases Nat.eq_zero_or_pos i with h0 | h0
      · exact h0
      · obtain ⟨x, hx, hkx⟩ := h.has h0
        rw [(has_iff h.ok.rise).2 ⟨x, hx, hkx.trans hk⟩] at hh; cases hh
    simp only [hh] at e
    rw [if_neg (by simp; omega), if_pos (by simp), setS_new hle] at e
    exact ⟨_, e, by rw [ins_len]; omega⟩
set_option maxRecDepth 100000 in
set_option maxHeartbeats 8000000 in
theorem keysFull_walk (n : Int) (w : World) (hn : I64 n) :
    Calls Try.prog 12 #[.int .i64 n] w fun e w' => e = .returned (.bool true) ∧ Below w.heap.size w w' := by
  have p0 := picked_lo n 24 (by omega)
  have p1 := picked_hi n 24 (by omega)
  have hp := fun w => picked_any n 24 w hn.1 hn.2 (by omega) (by omega)
  generalize picked n 24 = k at *
  have P := hide hp; clear hp
  have Z0 := Blk.new w 25 #[.int .i64 0, .slice none 0 0]
  have qq : Below w.heap.size w (w.alloc (.cells #[.int .i64 0, .slice none 0 0] 25)) := (by repeat (first | (with_reducible exact Below.refl _ _) | (with_reducible assumption) | (with_reducible refine Below.drew ?_) | (with_reducible refine bdrewN ?_ _) | (with_reducible refine balloc ?_ _) | ((with_reducible refine bset ?_ ?_ _); rotate_left; (focus first | exact Nat.le_refl _ | (simp; done) | (simp; omega) | omega)) | (with_reducible refine bstep ?_ (by with_reducible assumption)) | (with_reducible refine Below.trans ?_ (by with_reducible assumption))))
  go_enter Try.func12, Try.ntmps12
  go_wp2_with fail
  refine (P.out _).mono ?_
  rintro e w' ⟨rfl, rfl⟩
  go_wp2_with fail
  go_loopw [5] (fun s5 wr => ∃ i : Nat, (i : Int) ≤ k ∧ s5 = .int .i64 (i : Int) ∧ ∃ (es : List En) (A1 : Option Addr) (n1 c1 : Nat), Blk wr w.heap.size 25 #[.int .i64 0, .slice A1 n1 c1] ∧ St wr A1 n1 c1 es ∧ Hid (FullAt i es) ∧ Below w.heap.size w wr) (fun s5 _ => k.toNat - (intOf s5).toNat)
  case atStart => exact ⟨0, by omega, rfl, [], none, 0, 0, Z0, St.nil _, hide full_start, qq⟩
  case round =>
    obtain ⟨i, hi, rfl, es, A1, n1, c1, Z, M1, HF, q⟩ := hrel
    clear Z0 qq
    have q0 := q
    by_cases hlt : (i : Int) < k
    · obtain ⟨es', ⟨rc, rt, rn, rl⟩, he, hF', hr⟩ := full_step HF.out (show i < 24 by omega)
      have K1 := hide (Apply_may HF.out.ok _ _ _ he (by omega) (by omega))
      have HF2 := hide hF'
      have hz := Z.lt
      have hcv := one_string (65 + (i : Int))
      have hfk : fkey i = strOfNums [65 + (i : Int)] := rfl
      rw [hfk] at K1
      clear he hF' HF hfk
      (try clear cZ fZ); have cZ := Z.cell; have fZ := Z.frozen
      by_cases h12 : 12 ≤ i
      · obtain rfl : rc = 6 := hr.2 h12
        have hd12 : decide ((12 : Int) ≤ (i : Int)) = true := by simp; omega
        clear hr
        go_wp2_with fail
        replace Z := Z.al (.cells #[.int .u8 (65 + (i : Int))] 5)
        refine (K1.out _ _ _ _ (M1.al _)).mono ?_; rintro e w2 ⟨A2, n2, c2, Y2, m2, d2, rfl, M2, L2, T2, hb2⟩; replace Z := Z.bl hb2; replace q : Below w.heap.size w w2 := (by repeat (first | (with_reducible exact Below.refl _ _) | (with_reducible assumption) | (with_reducible refine Below.drew ?_) | (with_reducible refine bdrewN ?_ _) | (with_reducible refine balloc ?_ _) | ((with_reducible refine bset ?_ ?_ _); rotate_left; (focus first | exact Nat.le_refl _ | (simp; done) | (simp; omega) | omega)) | (with_reducible refine bstep ?_ (by with_reducible assumption)) | (with_reducible refine Below.trans ?_ (by with_reducible assumption)))); clear hb2
        have D2 := Blk.new w2 25 #[.int .i64 (0), .slice A2 n2 c2]; replace M2 := M2.al (.cells #[.int .i64 (0), .slice A2 n2 c2] 25); replace L2 := L2.al (.cells #[.int .i64 (0), .slice A2 n2 c2] 25); replace Z := Z.al (.cells #[.int .i64 (0), .slice A2 n2 c2] 25); have R2 : Blk ((w2.alloc (.cells #[.int .i64 (0), .slice A2 n2 c2] 25)).alloc (.cells #[.int .i64 (6), .string rt, .int .i64 (rn), .slice Y2 m2 d2] 49)) (w2.heap.size + 1) 49 #[.int .i64 (6), .string rt, .int .i64 (rn), .slice Y2 m2 d2] := Blk.new' _ _ _ (by simp); replace M2 := M2.al (.cells #[.int .i64 (6), .string rt, .int .i64 (rn), .slice Y2 m2 d2] 49); replace L2 := L2.al (.cells #[.int .i64 (6), .string rt, .int .i64 (rn), .slice Y2 m2 d2] 49); replace D2 := D2.al (.cells #[.int .i64 (6), .string rt, .int .i64 (rn), .slice Y2 m2 d2] 49); replace Z := Z.al (.cells #[.int .i64 (6), .string rt, .int .i64 (rn), .slice Y2 m2 d2] 49)
        clear L2 T2 K1 M1
        (try clear cZ fZ); have cZ := Z.cell; have fZ := Z.frozen; (try clear cD2 fD2); have cD2 := D2.cell; have fD2 := D2.frozen; (try clear cR2 fR2); have cR2 := R2.cell; have fR2 := R2.frozen
        have hz2 := Z.lt
        go_wp2_with fail
        obtain ⟨Z9, gr9, _⟩ := whole_store (.int .i64 0) (.slice A2 n2 c2) Z
        have M9 := M2.grown Z gr9
        have qa : Below w.heap.size w ((w2.alloc (.cells #[.int .i64 (0), .slice A2 n2 c2] 25)).alloc (.cells #[.int .i64 (6), .string rt, .int .i64 (rn), .slice Y2 m2 d2] 49)) := (by repeat (first | (with_reducible exact Below.refl _ _) | (with_reducible assumption) | (with_reducible refine Below.drew ?_) | (with_reducible refine bdrewN ?_ _) | (with_reducible refine balloc ?_ _) | ((with_reducible refine bset ?_ ?_ _); rotate_left; (focus first | exact Nat.le_refl _ | (simp; done) | (simp; omega) | omega)) | (with_reducible refine bstep ?_ (by with_reducible assumption)) | (with_reducible refine Below.trans ?_ (by with_reducible assumption))))
        have q9 := below_grow qa gr9 qa.size (Nat.le_refl _)
        go_roundw
        case rel => exact ⟨i + 1, by omega, by go_num, es', A2, n2, c2, Z9, M9, HF2, q9⟩
        case measure => simp [intOf]; omega
      · have hrc : (rc == 6) = false := by rw [beq_eq_false_iff_ne]; exact fun h => h12 (hr.1 h)
        have hd12 : decide ((12 : Int) ≤ (i : Int)) = false := by simp; omega
        clear hr
        go_wp2_with fail
        replace Z := Z.al (.cells #[.int .u8 (65 + (i : Int))] 5)
        refine (K1.out _ _ _ _ (M1.al _)).mono ?_; rintro e w2 ⟨A2, n2, c2, Y2, m2, d2, rfl, M2, L2, T2, hb2⟩; replace Z := Z.bl hb2; replace q : Below w.heap.size w w2 := (by repeat (first | (with_reducible exact Below.refl _ _) | (with_reducible assumption) | (with_reducible refine Below.drew ?_) | (with_reducible refine bdrewN ?_ _) | (with_reducible refine balloc ?_ _) | ((with_reducible refine bset ?_ ?_ _); rotate_left; (focus first | exact Nat.le_refl _ | (simp; done) | (simp; omega) | omega)) | (with_reducible refine bstep ?_ (by with_reducible assumption)) | (with_reducible refine Below.trans ?_ (by with_reducible assumption)))); clear hb2
        have D2 := Blk.new w2 25 #[.int .i64 (0), .slice A2 n2 c2]; replace M2 := M2.al (.cells #[.int .i64 (0), .slice A2 n2 c2] 25); replace L2 := L2.al (.cells #[.int .i64 (0), .slice A2 n2 c2] 25); replace Z := Z.al (.cells #[.int .i64 (0), .slice A2 n2 c2] 25); have R2 : Blk ((w2.alloc (.cells #[.int .i64 (0), .slice A2 n2 c2] 25)).alloc (.cells #[.int .i64 (rc), .string rt, .int .i64 (rn), .slice Y2 m2 d2] 49)) (w2.heap.size + 1) 49 #[.int .i64 (rc), .string rt, .int .i64 (rn), .slice Y2 m2 d2] := Blk.new' _ _ _ (by simp); replace M2 := M2.al (.cells #[.int .i64 (rc), .string rt, .int .i64 (rn), .slice Y2 m2 d2] 49); replace L2 := L2.al (.cells #[.int .i64 (rc), .string rt, .int .i64 (rn), .slice Y2 m2 d2] 49); replace D2 := D2.al (.cells #[.int .i64 (rc), .string rt, .int .i64 (rn), .slice Y2 m2 d2] 49); replace Z := Z.al (.cells #[.int .i64 (rc), .string rt, .int .i64 (rn), .slice Y2 m2 d2] 49)
        clear L2 T2 K1 M1
        (try clear cZ fZ); have cZ := Z.cell; have fZ := Z.frozen; (try clear cD2 fD2); have cD2 := D2.cell; have fD2 := D2.frozen; (try clear cR2 fR2); have cR2 := R2.cell; have fR2 := R2.frozen
        have hz2 := Z.lt
        go_wp2_with fail
        obtain ⟨Z9, gr9, _⟩ := whole_store (.int .i64 0) (.slice A2 n2 c2) Z
        have M9 := M2.grown Z gr9
        have qa : Below w.heap.size w ((w2.alloc (.cells #[.int .i64 (0), .slice A2 n2 c2] 25)).alloc (.cells #[.int .i64 (rc), .string rt, .int .i64 (rn), .slice Y2 m2 d2] 49)) := (by repeat (first | (with_reducible exact Below.refl _ _) | (with_reducible assumption) | (with_reducible refine Below.drew ?_) | (with_reducible refine bdrewN ?_ _) | (with_reducible refine balloc ?_ _) | ((with_reducible refine bset ?_ ?_ _); rotate_left; (focus first | exact Nat.le_refl _ | (simp; done) | (simp; omega) | omega)) | (with_reducible refine bstep ?_ (by with_reducible assumption)) | (with_reducible refine Below.trans ?_ (by with_reducible assumption))))
        have q9 := below_grow qa gr9 qa.size (Nat.le_refl _)
        go_roundw
        case rel => exact ⟨i + 1, by omega, by go_num, es', A2, n2, c2, Z9, M9, HF2, q9⟩
        case measure => simp [intOf]; omega
    · obtain rfl : k = (i : Int) := by omega
      obtain ⟨es', he, hl⟩ := full_put HF.out
      have K1 := hide (Apply_may HF.out.ok _ _ _ he (by omega) (by omega))
      have HL := hide hl
      obtain ⟨J, hJ⟩ : ∃ J, J = min i 12 := ⟨_, rfl⟩
      obtain ⟨U, hU⟩ : ∃ U, U = max J 1 := ⟨_, rfl⟩
      obtain rfl : n1 = J := by have := M1.sl.len; have := HF.out.len; omega
      have hlen := hide (show es'.length = U by have := HF.out.len; omega)
      have m1 : min (i : Int) 12 = (n1 : Int) := by omega
      have m2 : (if (12 : Int) < (i : Int) then (12 : Int) else (i : Int)) = (n1 : Int) := by split <;> omega
      have m3 : max (n1 : Int) 1 = (U : Int) := by omega
      have m4 : (if (n1 : Int) < 1 then (1 : Int) else (n1 : Int)) = (U : Int) := by split <;> omega
      clear he hl hJ hU HF HL
      (try clear cZ fZ); have cZ := Z.cell; have fZ := Z.frozen
      go_wp2_with fail
      refine (K1.out _ _ _ _ M1).mono ?_; rintro e w2 ⟨A2, n2, c2, Y2, m2, d2, rfl, M2, L2, T2, hb2⟩; replace Z := Z.bl hb2; replace q : Below w.heap.size w w2 := (by repeat (first | (with_reducible exact Below.refl _ _) | (with_reducible assumption) | (with_reducible refine Below.drew ?_) | (with_reducible refine bdrewN ?_ _) | (with_reducible refine balloc ?_ _) | ((with_reducible refine bset ?_ ?_ _); rotate_left; (focus first | exact Nat.le_refl _ | (simp; done) | (simp; omega) | omega)) | (with_reducible refine bstep ?_ (by with_reducible assumption)) | (with_reducible refine Below.trans ?_ (by with_reducible assumption)))); clear hb2
      have D2 := Blk.new w2 25 #[.int .i64 (0), .slice A2 n2 c2]; replace M2 := M2.al (.cells #[.int .i64 (0), .slice A2 n2 c2] 25); replace L2 := L2.al (.cells #[.int .i64 (0), .slice A2 n2 c2] 25); replace Z := Z.al (.cells #[.int .i64 (0), .slice A2 n2 c2] 25); have R2 : Blk ((w2.alloc (.cells #[.int .i64 (0), .slice A2 n2 c2] 25)).alloc (.cells #[.int .i64 (0), .string emp, .int .i64 (0), .slice Y2 m2 d2] 49)) (w2.heap.size + 1) 49 #[.int .i64 (0), .string emp, .int .i64 (0), .slice Y2 m2 d2] := Blk.new' _ _ _ (by simp); replace M2 := M2.al (.cells #[.int .i64 (0), .string emp, .int .i64 (0), .slice Y2 m2 d2] 49); replace L2 := L2.al (.cells #[.int .i64 (0), .string emp, .int .i64 (0), .slice Y2 m2 d2] 49); replace D2 := D2.al (.cells #[.int .i64 (0), .string emp, .int .i64 (0), .slice Y2 m2 d2] 49); replace Z := Z.al (.cells #[.int .i64 (0), .string emp, .int .i64 (0), .slice Y2 m2 d2] 49)
      obtain rfl : n2 = U := by have h1 : es'.length = n2 := M2.sl.len; have := hlen.out; omega
      clear L2 T2 K1 M1
      (try clear cZ fZ); have cZ := Z.cell; have fZ := Z.frozen; (try clear cD2 fD2); have cD2 := D2.cell; have fD2 := D2.frozen; (try clear cR2 fR2); have cR2 := R2.cell; have fR2 := R2.frozen
      go_wp2_with fail
      go_ret
      exact ⟨rfl, (by repeat (first | (with_reducible exact Below.refl _ _) | (with_reducible assumption) | (with_reducible refine Below.drew ?_) | (with_reducible refine bdrewN ?_ _) | (with_reducible refine balloc ?_ _) | ((with_reducible refine bset ?_ ?_ _); rotate_left; (focus first | exact Nat.le_refl _ | (simp; done) | (simp; omega) | omega)) | (with_reducible refine bstep ?_ (by with_reducible assumption)) | (with_reducible refine Below.trans ?_ (by with_reducible assumption))))⟩
set_option maxRecDepth 100000 in
theorem keysFull_lifted (os : Os) (started : os.Started) (H : Type) (enc : TypeId × Value → H) :
  ReturnsInHanded {} Try.checked os 12 .any (Rows.keysFullSpec.pre6 enc Try.prog Try.f12 Rows.keysFullRow.domain false) (Rows.keysFullSpec.post enc Try.prog Try.f12 false true false false) := by
  refine returnsInHanded_of_change (C := Try.checked) Try.own started (by kernel_rfl) Try.func12 (ChangeSpec.witness6 (enc := enc) (C := Try.checked) false ⟨#[], #[.int .i64 0], []⟩ 8 (by kernel_rfl) (by kernel_rfl) (by kernel_rfl) (by kernel_rfl)) ?_
  intro W base args ds gs before hval0 hW hcnd _
  have hval : ∀ (j : Nat) t v, Try.f12.params[j]? = some t → args[j]? = some v → Value.okWide Try.prog W .any base t v := hval0
  have hW' := hW
  obtain ⟨p, q, hA0, hV, rfl, hfz, hnd⟩ := hW
  have hA : DataW.TrodAll enc Try.prog W 0 (fun _ => true) true Try.f12.params.toList args.toList ds p := hA0
  rw [Try.params12] at hA hval
  obtain ⟨rfl, rfl⟩ := trodVars_none hV
  clear hA0 hval0 hcnd hV hfz hnd
  obtain ⟨v0, d0, rfl, rfl, h0⟩ := trodAll_one hA
  obtain ⟨k, rfl, rfl, rfl, w1⟩ := open_int Try.underlying3 (hval 0 3 v0 rfl rfl) h0
  refine (keysFull_walk k W (i64_bounds w1)).mono fun e W' ⟨he, hb⟩ => ?_
  subst he
  exact ⟨_, rfl, post_law Try.laidOut hW' rfl (by kernel_rfl) rfl Try.underlying4 (fun _ => rfl) (fun _ => rfl) (fun _ => rfl) hb⟩
theorem keysFull_holds : Rows.KeysFullSaid := OpenClaim.holds_of_wide 12 Try.f12 rfl rfl rfl rfl rfl rfl rfl ⟨rfl, rfl, rfl, rfl, rfl⟩ rfl rfl rfl rfl rfl (by kernel_rfl) Try.func12 (by kernel_rfl)
  (of_decide_eq_true (by kernel_rfl)) (by unfold Func.isWrapper; first | (rw [if_pos (by decide +kernel)]; kernel_rfl) | (rw [if_neg (by decide +kernel)]; exact ⟨rfl, rfl⟩))
  (fun os started H enc _ => keysFull_lifted os started H enc)
#print axioms keysFull_holds
end Go.Proofs.Ytpdadlofgfdlpaa
