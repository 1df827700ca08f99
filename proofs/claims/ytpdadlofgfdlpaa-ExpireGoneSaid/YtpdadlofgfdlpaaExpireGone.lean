/- rostrumkeep.ExpireGone returns true for every input; no condition. -/
import Derived.Test.YtpdadlofgfdlpaaStoX
import Derived.Test.YtpdadlofgfdlpaaStoS
namespace Go.Proofs.Ytpdadlofgfdlpaa
set_option linter.all false
open Go.ChangeShapes Go.WideShapes Go.ChangeAt Go.RowKit
section
variable {l : List En} {now : Int} {c : Cmd} {x : En}
theorem one_key {y : En} (h : l.Pairwise (fun a b => a.key ≠ b.key)) (hx : x ∈ l) (hy : y ∈ l) (e : x.key = y.key) : x = y := by
  obtain ⟨i, hi, rfl⟩ := List.mem_iff_getElem.1 hx
  obtain ⟨j, hj, rfl⟩ := List.mem_iff_getElem.1 hy
  rw [List.pairwise_iff_getElem] at h
  rcases Nat.lt_trichotomy i j with hlt | rfl | hlt
  · exact absurd e (h i j hi hj hlt)
  · rfl
  · exact absurd e.symm (h j i hj hi hlt)
theorem at_mem (hs : StOk now l) (hx : x ∈ l) (hk : x.key = c.key) : keyHas c.key l = true ∧ ∃ h : keyAt c.key l < l.length, l[keyAt c.key l] = x := by
  have hh := (has_iff (k := c.key) hs.rise).2 ⟨x, hx, hk⟩
  exact ⟨hh, keyHas_lt hh, one_key (rk_ne hs.rise) (List.getElem_mem _) hx (by rw [keyHas_eq hh, hk])⟩
theorem mem_set_self {k : Nat} (hk : k < l.length) (z : En) : z ∈ l.set k z := List.mem_iff_getElem.2 ⟨k, by rw [List.length_set]; exact hk, List.getElem_set_self _⟩
theorem life_at (hs : StOk now l) (hx : x ∈ l) (hk : x.key = c.key) (h21 : c.kind = 21) : doS now l c = (l, toldR (max (x.till - now) 0)) := by
  obtain ⟨hh, hlt, e⟩ := at_mem hs hx hk
  unfold doS
  rw [if_neg (by omega), if_neg (by omega), if_pos (by omega), hh, timed_has hlt, if_pos h21, e]
theorem expire_at (hs : StOk now l) (hx : x ∈ l) (hk : x.key = c.key) (h20 : c.kind = 20) (h1 : 1 ≤ c.n) (h2 : c.n ≤ 1073741824 - now) : ∃ l', doS now l c = (l', toldR 0) ∧ (⟨x.key, x.val, now + c.n⟩ : En) ∈ l' := by
  obtain ⟨hh, hlt, e⟩ := at_mem hs hx hk
  unfold doS
  rw [if_neg (by omega), if_neg (by omega), if_pos (by omega), hh, timed_has hlt, if_neg (by omega), if_neg (by omega), e]
  exact ⟨_, rfl, mem_set_self hlt _⟩
theorem timed_no (hh : keyHas c.key l = false) (hk : c.kind = 20 ∨ c.kind = 21) : doS now l c = (l, failR 5) := by
  unfold doS
  rw [if_neg (by omega), if_neg (by omega), if_pos hk, hh]
  unfold timedS
  rw [if_pos rfl]
theorem none_at' (hk : c.kind ≤ 18) (hc : ccOf c = 0) (hm : makesC c.kind = false) (h : keyHas c.key l = false) : doS now l c = (l, failR 5) := by
  unfold doS
  rw [if_neg (by omega), if_neg (by omega), if_neg (by omega), h]
  have ho : oldOf l (keyAt c.key l) false = zeroVa := rfl
  rw [ho, done_none hc hk hm]
  rfl
theorem get_at (hs : StOk now l) (hx : x ∈ l) (hk : x.key = c.key) (hv : x.val.kind = 1) (hc : ccOf c = 0) (h2 : c.kind = 2) : ∃ l', doS now l c = (l', textR x.val.text) ∧ (⟨x.key, x.val, x.till⟩ : En) ∈ l' := by
  obtain ⟨hh, hlt, e⟩ := at_mem hs hx hk
  unfold doS
  rw [if_neg (by omega), if_neg (by omega), if_neg (by omega), hh]
  have ho : oldOf l (keyAt c.key l) true = x.val := by
    unfold oldOf
    rw [if_pos rfl, List.getElem?_eq_getElem hlt, e]
  rw [ho, done_get (hs.good x hx) hv hc h2]
  simp only
  rw [if_neg (by simp [textR]), if_neg (by simp [hv]), if_neg (by simp), if_pos (by omega), setS_has hlt, e, if_neg (by omega)]
  exact ⟨_, rfl, mem_set_self hlt _⟩
theorem put_at (hs : StOk now l) (hc : ccOf c = 0) (h1 : c.kind = 1) : (keyHas c.key l = false ∧ doS now l c = (l, failR 6)) ∨ ∃ l', doS now l c = (l', toldR 0) ∧ (⟨c.key, ⟨1, c.text, 0, [], [], []⟩, 0⟩ : En) ∈ l' := by
  unfold doS
  rw [if_neg (by omega), if_neg (by omega), if_neg (by omega), done_put (old_may hs _ _) hc h1]
  simp only
  rw [if_neg (by simp [toldR]), if_neg (by simp)]
  by_cases hf : keyHas c.key l = false ∧ l.length = 12
  · rw [if_pos hf]; exact .inl ⟨hf.1, rfl⟩
  · rw [if_neg hf, if_pos (by simp)]
    refine .inr ⟨_, rfl, ?_⟩
    cases hh : keyHas c.key l with
    | true =>
      rw [setS_has (keyHas_lt hh), if_pos h1, keyHas_eq hh]
      exact mem_set_self (keyHas_lt hh) _
    | false =>
      have hle : keyAt c.key l ≤ l.length := lowB_le _ _
      rw [setS_new hle, mem_ins]
      exact .inl rfl
end
theorem gone_plan (now k w : Int) (es : List En) (ok : StOk now es) (hn : now ≤ 480) (k1 : 1 ≤ k) (k2 : k ≤ 90) (w0 : 0 ≤ w) (w1 : w ≤ 120)
    (cp : ccOf ⟨1, { data := #[97] }, { data := #[] }, { data := #[120] }, 0⟩ = 0) (cx : ccOf ⟨20, { data := #[97] }, { data := #[] }, { data := #[] }, k⟩ = 0) (cg : ccOf ⟨2, { data := #[97] }, { data := #[] }, { data := #[] }, 0⟩ = 0) (cl : ccOf ⟨21, { data := #[97] }, { data := #[] }, { data := #[] }, 0⟩ = 0) :
    ∃ es1 es2 es3 es4 R1 R2 R3 R4, applyS now es now ⟨1, { data := #[97] }, { data := #[] }, { data := #[120] }, 0⟩ = ((now, es1), R1, 0) ∧ applyS now es1 now ⟨20, { data := #[97] }, { data := #[] }, { data := #[] }, k⟩ = ((now, es2), R2, 0) ∧
      applyS now es2 (now + w) ⟨2, { data := #[97] }, { data := #[] }, { data := #[] }, 0⟩ = ((now + w, es3), R3, 0) ∧ applyS now es2 (now + w) ⟨21, { data := #[97] }, { data := #[] }, { data := #[] }, 0⟩ = ((now + w, es4), R4, 0) ∧ StOk now es1 ∧ StOk now es2 ∧ StOk (now + w) es3 ∧
      ((R1.code = 6 ∧ R2.code = 5) ∨ (R1.code = 0 ∧ k ≤ w ∧ R3.code = 5 ∧ R4.code = 5 ∧ keyHas { data := #[97] } es3 = false) ∨ (R1.code = 0 ∧ w < k ∧ R3.text = { data := #[120] } ∧ R4.n = k - w ∧ keyHas { data := #[97] } es3 = true)) := by
  have h0 := ok.now0
  have e1 := apply_ok ok (Int.le_refl _) (by omega) cp
  rw [alive_self ok] at e1
  have ok1 := doS_ok ok cp
  have e2 := apply_ok ok1 (Int.le_refl _) (by omega) cx
  rw [alive_self ok1] at e2
  have ok2 := doS_ok ok1 cx
  have e3 := apply_ok ok2 (show now ≤ now + w by omega) (by omega) cg
  have e4 := apply_ok ok2 (show now ≤ now + w by omega) (by omega) cl
  have oka := alive_ok ok2 (show now ≤ now + w by omega) (by omega)
  have ok3 := doS_ok oka cg
  refine ⟨_, _, _, _, _, _, _, _, e1, e2, e3, e4, ok1, ok2, ok3, ?_⟩
  rcases put_at ok cp rfl with ⟨hno, he⟩ | ⟨l1, he, hm⟩
  · have ht := timed_no (now := now) (c := ⟨20, { data := #[97] }, { data := #[] }, { data := #[] }, k⟩) hno (.inl rfl)
    rw [he]
    exact .inl ⟨rfl, by show (doS now es _).2.code = 5; rw [ht]; rfl⟩
  · rw [he] at ok1 ok2 oka ⊢
    simp only at ok1 ok2 oka hm ⊢
    obtain ⟨l2, he2, hm2⟩ := expire_at (c := ⟨20, { data := #[97] }, { data := #[] }, { data := #[] }, k⟩) ok1 hm rfl rfl k1 (by show k ≤ _; omega)
    rw [he2] at ok2 oka ⊢
    simp only at ok2 oka hm2 ⊢
    by_cases hw : k ≤ w
    · have hno : keyHas { data := #[97] } (alive (now + w) l2) = false := by
        cases hh : keyHas { data := #[97] } (alive (now + w) l2) with
        | false => rfl
        | true =>
          obtain ⟨z, hz, hzk⟩ := (has_iff oka.rise).1 hh
          obtain ⟨hz1, hz2⟩ := alive_mem.1 hz
          have := one_key (rk_ne ok2.rise) hz1 hm2 hzk
          subst this
          rw [gone_iff.2 ⟨by show now + k ≠ 0; omega, by show now + k ≤ _; omega⟩] at hz2
          cases hz2
      have eg : doS (now + w) (alive (now + w) l2) ⟨2, { data := #[97] }, { data := #[] }, { data := #[] }, 0⟩ = (alive (now + w) l2, failR 5) := none_at' (by simp) cg rfl hno
      have el : doS (now + w) (alive (now + w) l2) ⟨21, { data := #[97] }, { data := #[] }, { data := #[] }, 0⟩ = (alive (now + w) l2, failR 5) := timed_no hno (.inr rfl)
      rw [eg, el]
      exact .inr (.inl ⟨rfl, hw, rfl, rfl, hno⟩)
    · have hin : (⟨{ data := #[97] }, ⟨1, { data := #[120] }, 0, [], [], []⟩, now + k⟩ : En) ∈ alive (now + w) l2 := alive_mem.2 ⟨hm2, by
        have : ¬ gone (now + w) (⟨{ data := #[97] }, ⟨1, { data := #[120] }, 0, [], [], []⟩, now + k⟩ : En) = true := by
          rw [gone_iff]
          rintro ⟨_, h⟩
          have : now + k ≤ now + w := h
          omega
        simpa using this⟩
      have ok3' := doS_ok oka cg
      obtain ⟨l3, he3, hm3⟩ := get_at (c := ⟨2, { data := #[97] }, { data := #[] }, { data := #[] }, 0⟩) oka hin rfl rfl cg rfl
      have el := life_at (c := ⟨21, { data := #[97] }, { data := #[] }, { data := #[] }, 0⟩) oka hin rfl rfl
      rw [he3] at ok3' ⊢
      rw [el]
      refine .inr (.inr ⟨rfl, by omega, rfl, ?_, (has_iff ok3'.rise).2 ⟨_, hm3, rfl⟩⟩)
      show max (now + k - (now + w)) 0 = k - w
      omega
set_option maxRecDepth 100000 in
set_option maxHeartbeats 8000000 in
theorem expireGone_walk (A : Option Addr) (n c : Nat) (l : List StepD) (nn wt : Int) (w : World) (hS : Sl w 6 A n c (stepRows l)) (hd : ∀ d ∈ l, d.ok) (hn : I64 nn) (hw : I64 wt) :
    Calls Try.prog 8 #[.slice A n c, .int .i64 nn, .int .i64 wt] w fun e w' => e = .returned (.bool true) ∧ Below w.heap.size w w' := by
  have hF := Store_any A n c l w hS hd
  have hp := fun w => picked_any nn 90 w hn.1 hn.2 (by omega) (by omega)
  have hq := fun w => picked_any wt 120 w hw.1 hw.2 (by omega) (by omega)
  have p0 := picked_lo nn 90 (by omega)
  have p1 := picked_hi nn 90 (by omega)
  have q0_ := picked_lo wt 120 (by omega)
  have q1_ := picked_hi wt 120 (by omega)
  generalize picked nn 90 = a at *
  generalize picked wt 120 = b at *
  have hok := storeOf_ok l
  generalize storeOf l = s at *
  obtain ⟨now, es⟩ := s
  obtain ⟨ok, hno⟩ := hok
  simp only at ok hno
  have h0 := ok.now0
  have hk : 1 ≤ ({ data := #[97] } : ByteArray).size ∧ ({ data := #[97] } : ByteArray).size ≤ 12 := by decide
  have cp : ccOf ⟨1, { data := #[97] }, { data := #[] }, { data := #[120] }, 0⟩ = 0 := cc_at (cc_lit (by omega) (by omega) (by rw [if_neg (by decide)]; rfl) (by rw [if_pos (by decide)]; decide) (by rw [if_neg (by decide)])) (by omega) hk.1 hk.2
  have cx : ccOf ⟨20, { data := #[97] }, { data := #[] }, { data := #[] }, 1 + a⟩ = 0 := cc_at (cc_lit (by omega) (by omega) (by rw [if_neg (by decide)]; rfl) (by rw [if_neg (by decide)]; rfl) (by rw [if_pos (by decide)]; omega)) (by omega) hk.1 hk.2
  have cg : ccOf ⟨2, { data := #[97] }, { data := #[] }, { data := #[] }, 0⟩ = 0 := cc_at (cc_lit (by omega) (by omega) (by rw [if_neg (by decide)]; rfl) (by rw [if_neg (by decide)]; rfl) (by rw [if_neg (by decide)])) (by omega) hk.1 hk.2
  have cl : ccOf ⟨21, { data := #[97] }, { data := #[] }, { data := #[] }, 0⟩ = 0 := cc_at (cc_lit (by omega) (by omega) (by rw [if_neg (by decide)]; rfl) (by rw [if_neg (by decide)]; rfl) (by rw [if_neg (by decide)])) (by omega) hk.1 hk.2
  obtain ⟨es1, es2, es3, es4, ⟨c1, t1, m1, l1⟩, ⟨c2, t2, m2, l2⟩, ⟨c3, t3, m3, l3⟩, ⟨c4, t4, m4, l4⟩, e1, e2, e3, e4, ok1, ok2, ok3, hE⟩ := gone_plan now (1 + a) b es ok hno (by omega) (by omega) (by omega) (by omega) cp cx cg cl
  simp only at hE
  have wa : IntKind.i64.wrap (1 + a) = 1 + a := IntWalk.i64_in _ (by omega)
  have wb : IntKind.i64.wrap (now + b) = now + b := IntWalk.i64_in _ (by omega)
  have wc : IntKind.i64.wrap (1 + a - b) = 1 + a - b := IntWalk.i64_in _ (by omega)
  have K1 := hide (Apply_may ok _ _ _ e1 h0 (by omega))
  have K2 := hide (Apply_may ok1 _ _ _ e2 h0 (by omega))
  have K3 := hide (Apply_may ok2 _ _ _ e3 (by omega) (by omega))
  have K4 := hide (Apply_may ok2 _ _ _ e4 (by omega) (by omega))
  have KE := hide (fun A n c w (h : St w A n c es3) => entry_has (now + b) A n c es3 { data := #[97] } w h (by have := ok3.few; omega) ok3.rise)
  have KF := hide hF; have KP := hide hp; have KQ := hide hq; have HE := hide hE
  clear hF hp hq hE e1 e2 e3 e4 ok1 ok2 ok3 ok hS hd hn hw cp cx cg cl hk
  go_enter Try.func8, Try.ntmps8
  go_wp2_with fail
  refine KF.out.mono ?_
  rintro e w1 ⟨A1, n1, c1_, rfl, M1, q⟩
  have q0 := q
  have D1 := Blk.new w1 25 #[.int .i64 now, .slice A1 n1 c1_]
  replace M1 := M1.al (.cells #[.int .i64 now, .slice A1 n1 c1_] 25)
  (try clear cD1 fD1); have cD1 := D1.cell; have fD1 := D1.frozen
  go_wp2_with fail
  refine (K1.out _ _ _ _ M1).mono ?_
  rintro e w2 ⟨A2, n2, k2, Y2, y2, d2, rfl, M2, L2, T2, hb2⟩
  replace D1 := D1.bl hb2
  replace q : Below w.heap.size w w2 := (by repeat (first | (with_reducible exact Below.refl _ _) | (with_reducible assumption) | (with_reducible refine Below.drew ?_) | (with_reducible refine bdrewN ?_ _) | (with_reducible refine balloc ?_ _) | ((with_reducible refine bset ?_ ?_ _); rotate_left; (focus first | exact Nat.le_refl _ | (simp; done) | (simp; omega) | omega)) | (with_reducible refine bstep ?_ (by with_reducible assumption)) | (with_reducible refine Below.trans ?_ (by with_reducible assumption))))
  clear hb2
  (try clear cD1 fD1); have cD1 := D1.cell; have fD1 := D1.frozen
  obtain ⟨O2, gr2, hz2⟩ := whole_store (.int .i64 now) (.slice A2 n2 k2) D1
  have r2 := below_grow q gr2 q.size (by have := q0.size; omega)
  replace M2 := M2.grown D1 gr2
  have l2_ := D1.lt
  have R2 : Blk (((w2.setCell ⟨w1.heap.size, 0, none⟩ (.int .i64 now)).setCell ⟨w1.heap.size, 1, none⟩ (.slice A2 n2 k2)).alloc (.cells #[.int .i64 c1, .string t1, .int .i64 m1, .slice Y2 y2 d2] 49)) w2.heap.size 49 #[.int .i64 c1, .string t1, .int .i64 m1, .slice Y2 y2 d2] := Blk.new' _ _ _ (by simp)
  replace M2 := M2.al (.cells #[.int .i64 c1, .string t1, .int .i64 m1, .slice Y2 y2 d2] 49); replace O2 := O2.al (.cells #[.int .i64 c1, .string t1, .int .i64 m1, .slice Y2 y2 d2] 49)
  clear L2 T2
  go_wp2_with fail
  refine (KP.out _).mono ?_
  rintro e w' ⟨rfl, rfl⟩
  replace q := r2
  clear D1 cD1 fD1 gr2 hz2 r2 l2_
  (try clear cO2 fO2); have cO2 := O2.cell; have fO2 := O2.frozen; (try clear cR2 fR2); have cR2 := R2.cell; have fR2 := R2.frozen
  go_wp2_with fail
  refine (K2.out _ _ _ _ M2).mono ?_
  rintro e w3 ⟨A3, n3, k3, Y3, y3, d3, rfl, M3, L3, T3, hb3⟩
  replace O2 := O2.bl hb3; replace R2 := R2.bl hb3
  replace q : Below w.heap.size w w3 := (by repeat (first | (with_reducible exact Below.refl _ _) | (with_reducible assumption) | (with_reducible refine Below.drew ?_) | (with_reducible refine bdrewN ?_ _) | (with_reducible refine balloc ?_ _) | ((with_reducible refine bset ?_ ?_ _); rotate_left; (focus first | exact Nat.le_refl _ | (simp; done) | (simp; omega) | omega)) | (with_reducible refine bstep ?_ (by with_reducible assumption)) | (with_reducible refine Below.trans ?_ (by with_reducible assumption))))
  clear hb3 L3 T3 M2
  (try clear cO2 fO2); have cO2 := O2.cell; have fO2 := O2.frozen
  clear cR2 fR2
  obtain ⟨O3, gr3, hz3⟩ := whole_store (.int .i64 now) (.slice A3 n3 k3) O2
  have r3 := below_grow q gr3 q.size (by have := q0.size; omega)
  replace M3 := M3.grown O2 gr3
  have l3_ := O2.lt
  replace R2 := grown_blk R2 gr3 (blk_ne R2 O2 (by decide))
  have R3 : Blk (((w3.setCell ⟨w1.heap.size, 0, none⟩ (.int .i64 now)).setCell ⟨w1.heap.size, 1, none⟩ (.slice A3 n3 k3)).alloc (.cells #[.int .i64 c2, .string t2, .int .i64 m2, .slice Y3 y3 d3] 49)) w3.heap.size 49 #[.int .i64 c2, .string t2, .int .i64 m2, .slice Y3 y3 d3] := Blk.new' _ _ _ (by simp)
  replace M3 := M3.al (.cells #[.int .i64 c2, .string t2, .int .i64 m2, .slice Y3 y3 d3] 49); replace O3 := O3.al (.cells #[.int .i64 c2, .string t2, .int .i64 m2, .slice Y3 y3 d3] 49); replace R2 := R2.al (.cells #[.int .i64 c2, .string t2, .int .i64 m2, .slice Y3 y3 d3] 49)
  go_wp2_with fail
  refine (KQ.out _).mono ?_
  rintro e w' ⟨rfl, rfl⟩
  replace q := r3
  clear O2 cO2 fO2 gr3 hz3 r3 l3_
  (try clear cO3 fO3); have cO3 := O3.cell; have fO3 := O3.frozen
  go_wp2_with fail
  refine (K3.out _ _ _ _ M3).mono ?_; rintro e w4 ⟨A8, n8, c8, Y8, m8, d8, rfl, M8, L8, T8, hb8⟩; replace M3 := M3.bl hb8; replace O3 := O3.bl hb8; replace R2 := R2.bl hb8; replace R3 := R3.bl hb8; replace q : Below w.heap.size w w4 := (by repeat (first | (with_reducible exact Below.refl _ _) | (with_reducible assumption) | (with_reducible refine Below.drew ?_) | (with_reducible refine bdrewN ?_ _) | (with_reducible refine balloc ?_ _) | ((with_reducible refine bset ?_ ?_ _); rotate_left; (focus first | exact Nat.le_refl _ | (simp; done) | (simp; omega) | omega)) | (with_reducible refine bstep ?_ (by with_reducible assumption)) | (with_reducible refine Below.trans ?_ (by with_reducible assumption)))); clear hb8
  have D8 := Blk.new w4 25 #[.int .i64 (now + b), .slice A8 n8 c8]; replace M8 := M8.al (.cells #[.int .i64 (now + b), .slice A8 n8 c8] 25); replace L8 := L8.al (.cells #[.int .i64 (now + b), .slice A8 n8 c8] 25); replace M3 := M3.al (.cells #[.int .i64 (now + b), .slice A8 n8 c8] 25); replace O3 := O3.al (.cells #[.int .i64 (now + b), .slice A8 n8 c8] 25); replace R2 := R2.al (.cells #[.int .i64 (now + b), .slice A8 n8 c8] 25); replace R3 := R3.al (.cells #[.int .i64 (now + b), .slice A8 n8 c8] 25); have R8 : Blk ((w4.alloc (.cells #[.int .i64 (now + b), .slice A8 n8 c8] 25)).alloc (.cells #[.int .i64 (c3), .string t3, .int .i64 (m3), .slice Y8 m8 d8] 49)) (w4.heap.size + 1) 49 #[.int .i64 (c3), .string t3, .int .i64 (m3), .slice Y8 m8 d8] := Blk.new' _ _ _ (by simp); replace M8 := M8.al (.cells #[.int .i64 (c3), .string t3, .int .i64 (m3), .slice Y8 m8 d8] 49); replace L8 := L8.al (.cells #[.int .i64 (c3), .string t3, .int .i64 (m3), .slice Y8 m8 d8] 49); replace D8 := D8.al (.cells #[.int .i64 (c3), .string t3, .int .i64 (m3), .slice Y8 m8 d8] 49); replace M3 := M3.al (.cells #[.int .i64 (c3), .string t3, .int .i64 (m3), .slice Y8 m8 d8] 49); replace O3 := O3.al (.cells #[.int .i64 (c3), .string t3, .int .i64 (m3), .slice Y8 m8 d8] 49); replace R2 := R2.al (.cells #[.int .i64 (c3), .string t3, .int .i64 (m3), .slice Y8 m8 d8] 49); replace R3 := R3.al (.cells #[.int .i64 (c3), .string t3, .int .i64 (m3), .slice Y8 m8 d8] 49)
  clear L8 T8
  (try clear cO3 fO3); have cO3 := O3.cell; have fO3 := O3.frozen
  go_wp2_with fail
  refine (K4.out _ _ _ _ M3).mono ?_; rintro e w5 ⟨A9, n9, c9, Y9, m9, d9, rfl, M9, L9, T9, hb9⟩; replace M8 := M8.bl hb9; replace R2 := R2.bl hb9; replace R3 := R3.bl hb9; replace D8 := D8.bl hb9; replace R8 := R8.bl hb9; replace q : Below w.heap.size w w5 := (by repeat (first | (with_reducible exact Below.refl _ _) | (with_reducible assumption) | (with_reducible refine Below.drew ?_) | (with_reducible refine bdrewN ?_ _) | (with_reducible refine balloc ?_ _) | ((with_reducible refine bset ?_ ?_ _); rotate_left; (focus first | exact Nat.le_refl _ | (simp; done) | (simp; omega) | omega)) | (with_reducible refine bstep ?_ (by with_reducible assumption)) | (with_reducible refine Below.trans ?_ (by with_reducible assumption)))); clear hb9
  clear M3 O3 cO3 fO3
  have D9 := Blk.new w5 25 #[.int .i64 (now + b), .slice A9 n9 c9]; replace M9 := M9.al (.cells #[.int .i64 (now + b), .slice A9 n9 c9] 25); replace L9 := L9.al (.cells #[.int .i64 (now + b), .slice A9 n9 c9] 25); replace M8 := M8.al (.cells #[.int .i64 (now + b), .slice A9 n9 c9] 25); replace R2 := R2.al (.cells #[.int .i64 (now + b), .slice A9 n9 c9] 25); replace R3 := R3.al (.cells #[.int .i64 (now + b), .slice A9 n9 c9] 25); replace D8 := D8.al (.cells #[.int .i64 (now + b), .slice A9 n9 c9] 25); replace R8 := R8.al (.cells #[.int .i64 (now + b), .slice A9 n9 c9] 25); have R9 : Blk ((w5.alloc (.cells #[.int .i64 (now + b), .slice A9 n9 c9] 25)).alloc (.cells #[.int .i64 (c4), .string t4, .int .i64 (m4), .slice Y9 m9 d9] 49)) (w5.heap.size + 1) 49 #[.int .i64 (c4), .string t4, .int .i64 (m4), .slice Y9 m9 d9] := Blk.new' _ _ _ (by simp); replace M9 := M9.al (.cells #[.int .i64 (c4), .string t4, .int .i64 (m4), .slice Y9 m9 d9] 49); replace L9 := L9.al (.cells #[.int .i64 (c4), .string t4, .int .i64 (m4), .slice Y9 m9 d9] 49); replace D9 := D9.al (.cells #[.int .i64 (c4), .string t4, .int .i64 (m4), .slice Y9 m9 d9] 49); replace M8 := M8.al (.cells #[.int .i64 (c4), .string t4, .int .i64 (m4), .slice Y9 m9 d9] 49); replace R2 := R2.al (.cells #[.int .i64 (c4), .string t4, .int .i64 (m4), .slice Y9 m9 d9] 49); replace R3 := R3.al (.cells #[.int .i64 (c4), .string t4, .int .i64 (m4), .slice Y9 m9 d9] 49); replace D8 := D8.al (.cells #[.int .i64 (c4), .string t4, .int .i64 (m4), .slice Y9 m9 d9] 49); replace R8 := R8.al (.cells #[.int .i64 (c4), .string t4, .int .i64 (m4), .slice Y9 m9 d9] 49)
  clear L9 T9 M9 D9
  rcases HE.out with ⟨rfl, rfl⟩ | ⟨rfl, hkw, rfl, rfl, hh⟩ | ⟨rfl, hkw, rfl, rfl, hh⟩
  · clear HE K1 K2 K3 K4 KE KF KP KQ
    (try clear cR2 fR2); have cR2 := R2.cell; have fR2 := R2.frozen; (try clear cR3 fR3); have cR3 := R3.cell; have fR3 := R3.frozen
    go_wp2_with fail
    go_ret
    exact ⟨rfl, (by repeat (first | (with_reducible exact Below.refl _ _) | (with_reducible assumption) | (with_reducible refine Below.drew ?_) | (with_reducible refine bdrewN ?_ _) | (with_reducible refine balloc ?_ _) | ((with_reducible refine bset ?_ ?_ _); rotate_left; (focus first | exact Nat.le_refl _ | (simp; done) | (simp; omega) | omega)) | (with_reducible refine bstep ?_ (by with_reducible assumption)) | (with_reducible refine Below.trans ?_ (by with_reducible assumption))))⟩
  · rw [hh] at KE
    clear HE K1 K2 K3 K4 KF KP KQ hh
    (try clear cR2 fR2); have cR2 := R2.cell; have fR2 := R2.frozen; (try clear cD8 fD8); have cD8 := D8.cell; have fD8 := D8.frozen
    go_wp2_with fail
    refine (KE.out _ _ _ _ M8).mono ?_
    rintro e w6 ⟨s0, s2, i1, i3, i7, B1, B2, B3, b1, d1, b2, d2, b3, d3, rfl, hb6⟩
    replace R8 := R8.bl hb6; replace R9 := R9.bl hb6
    have lr4 := R8.lt; have lr5 := R9.lt
    (try clear cR8 fR8); have cR8 := R8.cell; have fR8 := R8.frozen; (try clear cR9 fR9); have cR9 := R9.cell; have fR9 := R9.frozen
    clear R2 cR2 fR2 D8 cD8 fD8
    go_wp2_with fail
    go_ret
    exact ⟨rfl, (by repeat (first | (with_reducible exact Below.refl _ _) | (with_reducible assumption) | (with_reducible refine Below.drew ?_) | (with_reducible refine bdrewN ?_ _) | (with_reducible refine balloc ?_ _) | ((with_reducible refine bset ?_ ?_ _); rotate_left; (focus first | exact Nat.le_refl _ | (simp; done) | (simp; omega) | omega)) | (with_reducible refine bstep ?_ (by with_reducible assumption)) | (with_reducible refine Below.trans ?_ (by with_reducible assumption))))⟩
  · rw [hh] at KE
    clear HE K1 K2 K3 K4 KF KP KQ hh
    (try clear cR2 fR2); have cR2 := R2.cell; have fR2 := R2.frozen; (try clear cD8 fD8); have cD8 := D8.cell; have fD8 := D8.frozen
    go_wp2_with fail
    refine (KE.out _ _ _ _ M8).mono ?_
    rintro e w6 ⟨s0, s2, i1, i3, i7, B1, B2, B3, b1, d1, b2, d2, b3, d3, rfl, hb6⟩
    replace R8 := R8.bl hb6; replace R9 := R9.bl hb6
    have lr4 := R8.lt; have lr5 := R9.lt
    (try clear cR8 fR8); have cR8 := R8.cell; have fR8 := R8.frozen; (try clear cR9 fR9); have cR9 := R9.cell; have fR9 := R9.frozen
    clear R2 cR2 fR2 D8 cD8 fD8
    have hkw' : ¬ (1 + a ≤ b) := by omega
    go_wp2_with fail
    go_ret
    exact ⟨rfl, (by repeat (first | (with_reducible exact Below.refl _ _) | (with_reducible assumption) | (with_reducible refine Below.drew ?_) | (with_reducible refine bdrewN ?_ _) | (with_reducible refine balloc ?_ _) | ((with_reducible refine bset ?_ ?_ _); rotate_left; (focus first | exact Nat.le_refl _ | (simp; done) | (simp; omega) | omega)) | (with_reducible refine bstep ?_ (by with_reducible assumption)) | (with_reducible refine Below.trans ?_ (by with_reducible assumption))))⟩
set_option maxRecDepth 100000 in
theorem expireGone_lifted (os : Os) (started : os.Started) (H : Type) (enc : TypeId × Value → H) :
  ReturnsInHanded {} Try.checked os 8 .any (Rows.expireGoneSpec.pre6 enc Try.prog Try.f8 Rows.expireGoneRow.domain false) (Rows.expireGoneSpec.post enc Try.prog Try.f8 false true false false) := by
  refine returnsInHanded_of_change (C := Try.checked) Try.own started (by kernel_rfl) Try.func8 (ChangeSpec.witness6 (enc := enc) (C := Try.checked) false ⟨#[], #[.slice none 0 0, .int .i64 0, .int .i64 0], []⟩ 8 (by kernel_rfl) (by kernel_rfl) (by kernel_rfl) (by kernel_rfl)) ?_
  intro W base args ds gs before hval0 hW hcnd _
  have hval : ∀ (j : Nat) t v, Try.f8.params[j]? = some t → args[j]? = some v → Value.okWide Try.prog W .any base t v := hval0
  have hW' := hW
  obtain ⟨p, q, hA0, hV, rfl, hfz, hnd⟩ := hW
  have hA : DataW.TrodAll enc Try.prog W 0 (fun _ => true) true Try.f8.params.toList args.toList ds p := hA0
  rw [Try.params8] at hA hval
  obtain ⟨rfl, rfl⟩ := trodVars_none hV
  clear hA0 hval0 hcnd hV hfz hnd
  obtain ⟨v0, v1, v2, d0, d1, d2, p0, p1, p2, rfl, rfl, rfl, h0, h1, h2⟩ := trodAll_three hA
  obtain ⟨A, n, c, l, rfl, hd, hS⟩ := open_steps (hval 0 55 v0 rfl rfl) h0
  obtain ⟨k, rfl, rfl, rfl, w1⟩ := open_int Try.underlying3 (hval 1 3 v1 rfl rfl) h1
  obtain ⟨m, rfl, rfl, rfl, w2⟩ := open_int Try.underlying3 (hval 2 3 v2 rfl rfl) h2
  refine (expireGone_walk A n c l k m W hS hd (i64_bounds w1) (i64_bounds w2)).mono fun e W' ⟨he, hb⟩ => ?_
  subst he
  exact ⟨_, rfl, post_law Try.laidOut hW' rfl (by kernel_rfl) rfl Try.underlying4 (fun _ => rfl) (fun _ => rfl) (fun _ => rfl) hb⟩
theorem expireGone_holds : Rows.ExpireGoneSaid := OpenClaim.holds_of_wide 8 Try.f8 rfl rfl rfl rfl rfl rfl rfl ⟨rfl, rfl, rfl, rfl, rfl⟩ rfl rfl rfl rfl rfl (by kernel_rfl) Try.func8 (by kernel_rfl)
  (of_decide_eq_true (by kernel_rfl)) (by unfold Func.isWrapper; first | (rw [if_pos (by decide +kernel)]; kernel_rfl) | (rw [if_neg (by decide +kernel)]; exact ⟨rfl, rfl⟩))
  (fun os started H enc _ => expireGone_lifted os started H enc)
#print axioms expireGone_holds
end Go.Proofs.Ytpdadlofgfdlpaa
