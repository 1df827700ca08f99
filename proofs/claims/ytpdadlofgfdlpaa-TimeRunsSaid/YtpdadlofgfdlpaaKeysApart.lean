/- rostrumkeep.KeysApart returns true for every input; no condition. -/
import Derived.Test.YtpdadlofgfdlpaaStoX
import Derived.Test.YtpdadlofgfdlpaaStoS
namespace Go.Proofs.Ytpdadlofgfdlpaa
set_option linter.all false
open Go.ChangeShapes Go.WideShapes Go.ChangeAt Go.RowKit
section
variable {l : List En} {now : Int} {c : Cmd} {x z : En} {k : Nat}
theorem mem_set_other (hk : k < l.length) (hx : x.key ≠ l[k].key) (hz : z.key = l[k].key) : x ∈ l.set k z ↔ x ∈ l := by
  constructor
  · intro h
    rcases List.mem_or_eq_of_mem_set h with h | h
    · exact h
    · subst h; exact absurd hz hx
  · intro h
    obtain ⟨j, hj, rfl⟩ := List.mem_iff_getElem.1 h
    refine List.mem_iff_getElem.2 ⟨j, by rw [List.length_set]; exact hj, ?_⟩
    rw [List.getElem_set_ne]
    rintro rfl; exact hx rfl
/-- What is done with one key touches no other one. -/
theorem do_other (hs : StOk now l) (hc : ccOf c = 0) (hx : c.kind ≠ 22 → x.key ≠ c.key) : x ∈ (doS now l c).1 ↔ x ∈ l := by
  have hkk := cc_kind hc
  have hdel : c.kind ≠ 22 → keyHas c.key l = true → (x ∈ delRows l (keyAt c.key l) ↔ x ∈ l) := fun h22 h => by
    rw [mem_del_k (key := En.key) (rk_ne hs.rise) (keyHas_lt h), keyHas_eq h]
    exact ⟨fun h => h.1, fun h => ⟨h, hx h22⟩⟩
  unfold doS
  split
  · exact Iff.rfl
  next h22 =>
    split
    · split
      next h => exact hdel h22 h
      · exact Iff.rfl
    · split
      · cases hh : keyHas c.key l with
        | false => unfold timedS; rw [if_pos rfl]
        | true =>
          rw [timed_has (keyHas_lt hh)]
          split
          · exact Iff.rfl
          · split
            · exact Iff.rfl
            · exact mem_set_other (keyHas_lt hh) (by rw [keyHas_eq hh]; exact hx h22) rfl
      · split
        · exact Iff.rfl
        · split
          next h => exact hdel h22 h.2
          · split
            · exact Iff.rfl
            · split
              · cases hh : keyHas c.key l with
                | true =>
                  simp only
                  rw [setS_has (keyHas_lt hh)]
                  exact mem_set_other (keyHas_lt hh) (by rw [keyHas_eq hh]; exact hx h22) rfl
                | false =>
                  simp only
                  have hle : keyAt c.key l ≤ l.length := lowB_le _ _
                  rw [setS_new hle, mem_ins]
                  exact ⟨fun h => h.resolve_left (fun e => hx h22 (by rw [e])), .inr⟩
              · exact Iff.rfl
theorem do_sizes (hs : StOk now l) (hc : ccOf c = 0) (h : ∀ x ∈ l, x.key.size = 1) (hk : c.kind ≠ 22 → c.key.size = 1) : ∀ x ∈ (doS now l c).1, x.key.size = 1 := by
  intro x hx
  by_cases h22 : c.kind ≠ 22
  · by_cases he : x.key = c.key
    · rw [he]; exact hk h22
    · exact h x ((do_other hs hc (fun _ => he)).1 hx)
  · exact h x ((do_other hs hc (fun h => absurd h h22)).1 hx)
theorem cmdD_key (r : RawD) : (cmdD r).kind ≠ 22 → (cmdD r).key.size = 1 := by
  intro h
  have h' : ¬ (1 + picked r.kind 22 = 22) := h
  show (if 1 + picked r.kind 22 = 22 then emp else some_ r.key).size = 1
  rw [if_neg h']
  exact some_size _
theorem fold_sizes : ∀ (l : List StepD) (s : Int × List En), StOk s.1 s.2 → s.1 + 12 * l.length ≤ 1000000 → (∀ x ∈ s.2, x.key.size = 1) → ∀ x ∈ (l.foldl stepS s).2, x.key.size = 1
  | [], s, _, _, hz => hz
  | x :: l, s, h, hn, hz => by
    have h0 := picked_lo x.wait 12 (by omega)
    have h1 := picked_hi x.wait 12 (by omega)
    simp only [List.length_cons] at hn
    have e : (stepS s x).1 = s.1 + picked x.wait 12 := rfl
    rw [List.foldl_cons]
    exact fold_sizes l (stepS s x) (stepS_ok h x (by omega)) (by omega) (do_sizes (alive_ok h (by omega) (by omega)) (cmd_ok _ _ _ _ _) (fun y hy => hz y (alive_mem.1 hy).1) (cmdD_key x.raw))
theorem storeOf_sizes (l : List StepD) : ∀ x ∈ (storeOf l).2, x.key.size = 1 :=
  fold_sizes (l.take 40) (0, []) (nil_ok (by omega) (by omega)) (by rw [List.length_take]; simp only; omega) (by simp)
/-- What is there for a key. -/
def entV (l : List En) (key : ByteArray) : Va × Int × Bool := match l.find? (fun x => decide (x.key = key)) with | some x => (x.val, x.till, true) | none => (zeroVa, 0, false)
theorem key_one {y : En} (h : l.Pairwise (fun a b => a.key ≠ b.key)) (hx : x ∈ l) (hy : y ∈ l) (e : x.key = y.key) : x = y := by
  obtain ⟨i, hi, rfl⟩ := List.mem_iff_getElem.1 hx
  obtain ⟨j, hj, rfl⟩ := List.mem_iff_getElem.1 hy
  rw [List.pairwise_iff_getElem] at h
  rcases Nat.lt_trichotomy i j with hlt | rfl | hlt
  · exact absurd e (h i j hi hj hlt)
  · rfl
  · exact absurd e.symm (h j i hj hi hlt)
theorem entV_mem {key : ByteArray} (h : l.Pairwise Rk) (hx : x ∈ l) (hk : x.key = key) : entV l key = (x.val, x.till, true) := by
  unfold entV
  cases hf : l.find? (fun x => decide (x.key = key)) with
  | none => exact absurd (by simpa using hk) (List.find?_eq_none.1 hf x hx)
  | some y =>
    have hy := List.find?_some hf
    have : x = y := key_one (rk_ne h) hx (List.mem_of_find?_eq_some hf) (by rw [hk]; simpa using (Eq.symm (by simpa using hy : y.key = key)))
    rw [this]
theorem entV_none {key : ByteArray} (h : ∀ x ∈ l, x.key ≠ key) : entV l key = (zeroVa, 0, false) := by
  unfold entV
  rw [List.find?_eq_none.2 (fun x hx => by simpa using h x hx)]
theorem entV_other {key : ByteArray} (hs : StOk now l) (hc : ccOf c = 0) (hne : c.kind ≠ 22 → key ≠ c.key) : entV (doS now l c).1 key = entV l key := by
  by_cases h : ∃ x ∈ l, x.key = key
  · obtain ⟨x, hx, hk⟩ := h
    rw [entV_mem hs.rise hx hk, entV_mem (doS_ok hs hc).rise ((do_other hs hc (fun h => by rw [hk]; exact hne h)).2 hx) hk]
  · have h1 : ∀ x ∈ l, x.key ≠ key := fun x hx e => h ⟨x, hx, e⟩
    rw [entV_none h1, entV_none (fun x hx e => h1 x ((do_other hs hc (fun h => by rw [e]; exact hne h)).1 hx) e)]
end
def EntVPost (E : Va × Int × Bool) (w : World) (e : Ending) (w' : World) : Prop :=
  ∃ s0 A1 n1 c1 A2 n2 c2 A3 n3 c3, e = .returned (.tuple #[.agg #[.string s0, .int .i64 E.1.kind, .string E.1.text, .int .i64 E.1.count, .slice A1 n1 c1, .slice A2 n2 c2, .slice A3 n3 c3, .int .i64 E.2.1], .bool E.2.2]) ∧ VSl w' E.1 A1 n1 c1 A2 n2 c2 A3 n3 c3 ∧ Below w.heap.size w w'
theorem entry_val (now : Int) (A : Option Addr) (n c : Nat) (l : List En) (key : ByteArray) (w : World) (hS : St w A n c l) (hl : l.length ≤ 1048576) (hr : l.Pairwise Rk) :
    Calls Try.prog 28 #[.agg #[.int .i64 now, .slice A n c], .string key] w (EntVPost (entV l key) w) := by
  refine (entry_any now A n c l key w hS hl).mono ?_
  rintro e w' ⟨h | h, hb⟩
  · obtain ⟨x, hx, hk, A1, n1, c1, A2, n2, c2, A3, n3, c3, he, hV, _⟩ := h
    rw [entV_mem hr hx hk]
    exact ⟨_, A1, n1, c1, A2, n2, c2, A3, n3, c3, he, hV, hb⟩
  · rw [entV_none h.1]
    exact ⟨_, none, 0, 0, none, 0, 0, none, 0, 0, h.2, nil_vsl, hb⟩
set_option maxRecDepth 100000 in
set_option maxHeartbeats 8000000 in
theorem keysApart_walk (A : Option Addr) (n c : Nat) (l : List StepD) (x : StepD) (other : Int) (w : World) (hS : Sl w 6 A n c (stepRows l)) (hd : ∀ d ∈ l, d.ok) (hx : x.ok) (ho : I64 other) :
    Calls Try.prog 6 #[.slice A n c, .agg #[.int .i64 x.raw.kind, .int .i64 x.raw.key, .int .i64 x.raw.field, .int .i64 x.raw.n, .string x.raw.text, .int .i64 x.wait], .int .i64 other] w fun e w' => e = .returned (.bool true) ∧ Below w.heap.size w w' := by
  have hF := fun w' (hb : Below w.heap.size w w') => Store_any A n c l w' (hS.below hb) hd
  have hmk := fun w => CommandS_any x.raw hx.1 w
  have hT := fun w => some_any other w ho.1 ho.2
  have hok := storeOf_ok l
  have hsz := storeOf_sizes l
  have hks := some_size other
  generalize storeOf l = s at *
  obtain ⟨now, es⟩ := s
  obtain ⟨ok, hn⟩ := hok
  simp only at ok hn hsz
  have h0 := ok.now0
  have cm0 : ccOf (cmdD x.raw) = 0 := cmd_ok _ _ _ _ _
  generalize some_ other = k at *
  have cx : ccOf ⟨21, { data := #[110, 111, 119, 104, 101, 114, 101] }, { data := #[] }, { data := #[] }, 0⟩ = 0 := cc_at (cc_lit (by omega) (by omega) (by rw [if_neg (by decide)]; rfl) (by rw [if_neg (by decide)]; rfl) (by rw [if_neg (by decide)])) (by omega) (by decide) (by decide)
  have h2 : applyS now es now ⟨21, { data := #[110, 111, 119, 104, 101, 114, 101] }, { data := #[] }, { data := #[] }, 0⟩ = ((now, es), ⟨5, emp, 0, []⟩, 0) := by
    have hh : keyHas { data := #[110, 111, 119, 104, 101, 114, 101] } es = false := by
      cases hh : keyHas { data := #[110, 111, 119, 104, 101, 114, 101] } es with
      | false => rfl
      | true =>
        obtain ⟨y, hy, hk⟩ := (has_iff ok.rise).1 hh
        have := hsz y hy
        rw [hk] at this
        exact absurd this (by decide)
    rw [apply_ok ok (Int.le_refl _) (by omega) cx, alive_self ok]
    unfold doS
    rw [if_neg (by simp), if_neg (by simp), if_pos (.inr rfl)]
    simp only [hh]
    unfold timedS
    rw [if_pos rfl]
    rfl
  obtain ⟨es', RE, h1, ok1, hre⟩ : ∃ es' RE, applyS now es now (cmdD x.raw) = ((now, es'), RE, 0) ∧ StOk now es' ∧ ((cmdD x.raw).key = k ∨ entV es' k = entV es k) := by
    have e := apply_ok ok (Int.le_refl _) (by omega) cm0
    rw [alive_self ok] at e
    refine ⟨_, _, e, doS_ok ok cm0, ?_⟩
    by_cases hk : (cmdD x.raw).key = k
    · exact .inl hk
    · exact .inr (entV_other ok cm0 (fun _ h => hk h.symm))
  have hD1 := Apply_may ok _ _ _ h1 h0 (by omega)
  have K2 := hide (Apply_may ok _ _ _ h2 h0 (by omega))
  have hE1 := fun A n c w (h : St w A n c es) => entry_val now A n c es k w h (by have := ok.few; omega) ok.rise
  have hE2 := fun A n c w (h : St w A n c es') => entry_val now A n c es' k w h (by have := ok1.few; omega) ok1.rise
  generalize entV es k = V1 at *
  generalize entV es' k = V2 at *
  obtain ⟨⟨vk, vt, vc, ps, is_, ss⟩, tl, bl⟩ := V1
  obtain ⟨⟨vk', vt', vc', ps', is', ss'⟩, tl', bl'⟩ := V2
  obtain ⟨⟨rk, ry, rf, rr, rx⟩, rw_⟩ := x
  simp only at hmk hD1 hre ⊢
  generalize hcm : cmdD ⟨rk, ry, rf, rr, rx⟩ = cm at *
  clear hcm h1 h2 ok1 cx cm0 hsz hks
  obtain ⟨ck, cy, cf, ct, cn⟩ := cm
  obtain ⟨rc, rt, rn, rl⟩ := RE
  simp only [cmdV] at hmk hD1 hre
  have HRE := hide hre
  have KF := hide hF; have KC := hide hmk; have KT := hide hT; have K1 := hide hD1; have KE := hide hE1; have KE2 := hide hE2
  clear hF hmk hT hD1 hE1 hE2 hre hS hd hx ho ok
  have X0 := Blk.new w 57 #[.int .i64 rk, .int .i64 ry, .int .i64 rf, .int .i64 rr, .string rx, .int .i64 rw_]
  go_enter Try.func6, Try.ntmps6
  go_wp2_with fail
  refine (KF.out _ (by repeat (first | (with_reducible exact Below.refl _ _) | (with_reducible assumption) | (with_reducible refine Below.drew ?_) | (with_reducible refine bdrewN ?_ _) | (with_reducible refine balloc ?_ _) | ((with_reducible refine bset ?_ ?_ _); rotate_left; (focus first | exact Nat.le_refl _ | (simp; done) | (simp; omega) | omega)) | (with_reducible refine bstep ?_ (by with_reducible assumption)) | (with_reducible refine Below.trans ?_ (by with_reducible assumption))))).mono ?_
  rintro e w1 ⟨A1, n1, c1, rfl, M1, hb1⟩
  have q : Below w.heap.size w w1 := (by repeat (first | (with_reducible exact Below.refl _ _) | (with_reducible assumption) | (with_reducible refine Below.drew ?_) | (with_reducible refine bdrewN ?_ _) | (with_reducible refine balloc ?_ _) | ((with_reducible refine bset ?_ ?_ _); rotate_left; (focus first | exact Nat.le_refl _ | (simp; done) | (simp; omega) | omega)) | (with_reducible refine bstep ?_ (by with_reducible assumption)) | (with_reducible refine Below.trans ?_ (by with_reducible assumption))))
  replace X0 := X0.bl hb1
  have D1 := Blk.new w1 25 #[.int .i64 (now), .slice A1 n1 c1]
  replace M1 := M1.al (.cells #[.int .i64 (now), .slice A1 n1 c1] 25); replace X0 := X0.al (.cells #[.int .i64 (now), .slice A1 n1 c1] 25)
  clear hb1
  (try clear cX0 fX0); have cX0 := X0.cell; have fX0 := X0.frozen
  go_wp2_with fail
  refine (KC.out _).mono ?_
  rintro e w2 ⟨rfl, hb2⟩
  replace M1 := M1.bl hb2; replace D1 := D1.bl hb2
  replace q : Below w.heap.size w w2 := (by repeat (first | (with_reducible exact Below.refl _ _) | (with_reducible assumption) | (with_reducible refine Below.drew ?_) | (with_reducible refine bdrewN ?_ _) | (with_reducible refine balloc ?_ _) | ((with_reducible refine bset ?_ ?_ _); rotate_left; (focus first | exact Nat.le_refl _ | (simp; done) | (simp; omega) | omega)) | (with_reducible refine bstep ?_ (by with_reducible assumption)) | (with_reducible refine Below.trans ?_ (by with_reducible assumption))))
  clear hb2 X0 cX0 fX0
  have C1 := Blk.new w2 46 #[.int .i64 ck, .string cy, .string cf, .string ct, .int .i64 cn]
  replace M1 := M1.al (.cells #[.int .i64 ck, .string cy, .string cf, .string ct, .int .i64 cn] 46); replace D1 := D1.al (.cells #[.int .i64 ck, .string cy, .string cf, .string ct, .int .i64 cn] 46)
  go_wp2_with fail
  refine (KT.out _).mono ?_
  rintro e w3 ⟨rfl, hb3⟩
  replace M1 := M1.bl hb3; replace D1 := D1.bl hb3; replace C1 := C1.bl hb3
  replace q : Below w.heap.size w w3 := (by repeat (first | (with_reducible exact Below.refl _ _) | (with_reducible assumption) | (with_reducible refine Below.drew ?_) | (with_reducible refine bdrewN ?_ _) | (with_reducible refine balloc ?_ _) | ((with_reducible refine bset ?_ ?_ _); rotate_left; (focus first | exact Nat.le_refl _ | (simp; done) | (simp; omega) | omega)) | (with_reducible refine bstep ?_ (by with_reducible assumption)) | (with_reducible refine Below.trans ?_ (by with_reducible assumption))))
  clear hb3
  (try clear cD1 fD1); have cD1 := D1.cell; have fD1 := D1.frozen; (try clear cC1 fC1); have cC1 := C1.cell; have fC1 := C1.frozen
  go_wp2_with fail
  refine (K1.out _ _ _ _ M1).mono ?_; rintro e w4 ⟨A4, n4, c4, Y4, m4, d4, rfl, M4, L4, T4, hb4⟩; replace M1 := M1.bl hb4; replace D1 := D1.bl hb4; replace C1 := C1.bl hb4; replace q : Below w.heap.size w w4 := (by repeat (first | (with_reducible exact Below.refl _ _) | (with_reducible assumption) | (with_reducible refine Below.drew ?_) | (with_reducible refine bdrewN ?_ _) | (with_reducible refine balloc ?_ _) | ((with_reducible refine bset ?_ ?_ _); rotate_left; (focus first | exact Nat.le_refl _ | (simp; done) | (simp; omega) | omega)) | (with_reducible refine bstep ?_ (by with_reducible assumption)) | (with_reducible refine Below.trans ?_ (by with_reducible assumption)))); clear hb4
  have D4 := Blk.new w4 25 #[.int .i64 (now), .slice A4 n4 c4]; replace M4 := M4.al (.cells #[.int .i64 (now), .slice A4 n4 c4] 25); replace L4 := L4.al (.cells #[.int .i64 (now), .slice A4 n4 c4] 25); replace M1 := M1.al (.cells #[.int .i64 (now), .slice A4 n4 c4] 25); replace D1 := D1.al (.cells #[.int .i64 (now), .slice A4 n4 c4] 25); replace C1 := C1.al (.cells #[.int .i64 (now), .slice A4 n4 c4] 25); have R4 : Blk ((w4.alloc (.cells #[.int .i64 (now), .slice A4 n4 c4] 25)).alloc (.cells #[.int .i64 (rc), .string rt, .int .i64 (rn), .slice Y4 m4 d4] 49)) (w4.heap.size + 1) 49 #[.int .i64 (rc), .string rt, .int .i64 (rn), .slice Y4 m4 d4] := Blk.new' _ _ _ (by simp); replace M4 := M4.al (.cells #[.int .i64 (rc), .string rt, .int .i64 (rn), .slice Y4 m4 d4] 49); replace L4 := L4.al (.cells #[.int .i64 (rc), .string rt, .int .i64 (rn), .slice Y4 m4 d4] 49); replace D4 := D4.al (.cells #[.int .i64 (rc), .string rt, .int .i64 (rn), .slice Y4 m4 d4] 49); replace M1 := M1.al (.cells #[.int .i64 (rc), .string rt, .int .i64 (rn), .slice Y4 m4 d4] 49); replace D1 := D1.al (.cells #[.int .i64 (rc), .string rt, .int .i64 (rn), .slice Y4 m4 d4] 49); replace C1 := C1.al (.cells #[.int .i64 (rc), .string rt, .int .i64 (rn), .slice Y4 m4 d4] 49)
  clear L4 T4 R4
  (try clear cD1 fD1); have cD1 := D1.cell; have fD1 := D1.frozen; (try clear cD4 fD4); have cD4 := D4.cell; have fD4 := D4.frozen
  go_wp2_with fail
  refine (KE.out _ _ _ _ M1).mono ?_
  rintro e w5 ⟨s5, B1, b1, d1, B2, b2, d2, B3, b3, d3, rfl, N5, hb5⟩
  replace M1 := M1.bl hb5; replace D1 := D1.bl hb5; replace C1 := C1.bl hb5; replace M4 := M4.bl hb5; replace D4 := D4.bl hb5
  replace q : Below w.heap.size w w5 := (by repeat (first | (with_reducible exact Below.refl _ _) | (with_reducible assumption) | (with_reducible refine Below.drew ?_) | (with_reducible refine bdrewN ?_ _) | (with_reducible refine balloc ?_ _) | ((with_reducible refine bset ?_ ?_ _); rotate_left; (focus first | exact Nat.le_refl _ | (simp; done) | (simp; omega) | omega)) | (with_reducible refine bstep ?_ (by with_reducible assumption)) | (with_reducible refine Below.trans ?_ (by with_reducible assumption))))
  clear hb5
  have E5 := Blk.new w5 65 #[.string s5, .int .i64 vk, .string vt, .int .i64 vc, .slice B1 b1 d1, .slice B2 b2 d2, .slice B3 b3 d3, .int .i64 tl]
  replace M1 := M1.al (.cells #[.string s5, .int .i64 vk, .string vt, .int .i64 vc, .slice B1 b1 d1, .slice B2 b2 d2, .slice B3 b3 d3, .int .i64 tl] 65); replace D1 := D1.al (.cells #[.string s5, .int .i64 vk, .string vt, .int .i64 vc, .slice B1 b1 d1, .slice B2 b2 d2, .slice B3 b3 d3, .int .i64 tl] 65); replace C1 := C1.al (.cells #[.string s5, .int .i64 vk, .string vt, .int .i64 vc, .slice B1 b1 d1, .slice B2 b2 d2, .slice B3 b3 d3, .int .i64 tl] 65); replace M4 := M4.al (.cells #[.string s5, .int .i64 vk, .string vt, .int .i64 vc, .slice B1 b1 d1, .slice B2 b2 d2, .slice B3 b3 d3, .int .i64 tl] 65); replace D4 := D4.al (.cells #[.string s5, .int .i64 vk, .string vt, .int .i64 vc, .slice B1 b1 d1, .slice B2 b2 d2, .slice B3 b3 d3, .int .i64 tl] 65); replace N5 := N5.al (.cells #[.string s5, .int .i64 vk, .string vt, .int .i64 vc, .slice B1 b1 d1, .slice B2 b2 d2, .slice B3 b3 d3, .int .i64 tl] 65)
  (try clear cD4 fD4); have cD4 := D4.cell; have fD4 := D4.frozen
  go_wp2_with fail
  refine (KE2.out _ _ _ _ M4).mono ?_
  rintro e w6 ⟨s6, F1, f1, g1, F2, f2, g2, F3, f3, g3, rfl, N6, hb6⟩
  replace M1 := M1.bl hb6; replace D1 := D1.bl hb6; replace C1 := C1.bl hb6; replace N5 := N5.bl hb6; replace E5 := E5.bl hb6
  replace q : Below w.heap.size w w6 := (by repeat (first | (with_reducible exact Below.refl _ _) | (with_reducible assumption) | (with_reducible refine Below.drew ?_) | (with_reducible refine bdrewN ?_ _) | (with_reducible refine balloc ?_ _) | ((with_reducible refine bset ?_ ?_ _); rotate_left; (focus first | exact Nat.le_refl _ | (simp; done) | (simp; omega) | omega)) | (with_reducible refine bstep ?_ (by with_reducible assumption)) | (with_reducible refine Below.trans ?_ (by with_reducible assumption))))
  clear hb6 M4 D4 cD4 fD4
  have E6 := Blk.new w6 65 #[.string s6, .int .i64 vk', .string vt', .int .i64 vc', .slice F1 f1 g1, .slice F2 f2 g2, .slice F3 f3 g3, .int .i64 tl']
  replace M1 := M1.al (.cells #[.string s6, .int .i64 vk', .string vt', .int .i64 vc', .slice F1 f1 g1, .slice F2 f2 g2, .slice F3 f3 g3, .int .i64 tl'] 65); replace D1 := D1.al (.cells #[.string s6, .int .i64 vk', .string vt', .int .i64 vc', .slice F1 f1 g1, .slice F2 f2 g2, .slice F3 f3 g3, .int .i64 tl'] 65); replace C1 := C1.al (.cells #[.string s6, .int .i64 vk', .string vt', .int .i64 vc', .slice F1 f1 g1, .slice F2 f2 g2, .slice F3 f3 g3, .int .i64 tl'] 65); replace N5 := N5.al (.cells #[.string s6, .int .i64 vk', .string vt', .int .i64 vc', .slice F1 f1 g1, .slice F2 f2 g2, .slice F3 f3 g3, .int .i64 tl'] 65); replace E5 := E5.al (.cells #[.string s6, .int .i64 vk', .string vt', .int .i64 vc', .slice F1 f1 g1, .slice F2 f2 g2, .slice F3 f3 g3, .int .i64 tl'] 65); replace N6 := N6.al (.cells #[.string s6, .int .i64 vk', .string vt', .int .i64 vc', .slice F1 f1 g1, .slice F2 f2 g2, .slice F3 f3 g3, .int .i64 tl'] 65)
  (try clear cD1 fD1); have cD1 := D1.cell; have fD1 := D1.frozen
  go_wp2_with fail
  refine (K2.out _ _ _ _ M1).mono ?_; rintro e w7 ⟨A7, n7, c7, Y7, m7, d7, rfl, M7, L7, T7, hb7⟩; replace C1 := C1.bl hb7; replace N5 := N5.bl hb7; replace E5 := E5.bl hb7; replace N6 := N6.bl hb7; replace E6 := E6.bl hb7; replace q : Below w.heap.size w w7 := (by repeat (first | (with_reducible exact Below.refl _ _) | (with_reducible assumption) | (with_reducible refine Below.drew ?_) | (with_reducible refine bdrewN ?_ _) | (with_reducible refine balloc ?_ _) | ((with_reducible refine bset ?_ ?_ _); rotate_left; (focus first | exact Nat.le_refl _ | (simp; done) | (simp; omega) | omega)) | (with_reducible refine bstep ?_ (by with_reducible assumption)) | (with_reducible refine Below.trans ?_ (by with_reducible assumption)))); clear hb7
  have D7 := Blk.new w7 25 #[.int .i64 (now), .slice A7 n7 c7]; replace M7 := M7.al (.cells #[.int .i64 (now), .slice A7 n7 c7] 25); replace L7 := L7.al (.cells #[.int .i64 (now), .slice A7 n7 c7] 25); replace C1 := C1.al (.cells #[.int .i64 (now), .slice A7 n7 c7] 25); replace N5 := N5.al (.cells #[.int .i64 (now), .slice A7 n7 c7] 25); replace E5 := E5.al (.cells #[.int .i64 (now), .slice A7 n7 c7] 25); replace N6 := N6.al (.cells #[.int .i64 (now), .slice A7 n7 c7] 25); replace E6 := E6.al (.cells #[.int .i64 (now), .slice A7 n7 c7] 25); have R7 : Blk ((w7.alloc (.cells #[.int .i64 (now), .slice A7 n7 c7] 25)).alloc (.cells #[.int .i64 (5), .string emp, .int .i64 (0), .slice Y7 m7 d7] 49)) (w7.heap.size + 1) 49 #[.int .i64 (5), .string emp, .int .i64 (0), .slice Y7 m7 d7] := Blk.new' _ _ _ (by simp); replace M7 := M7.al (.cells #[.int .i64 (5), .string emp, .int .i64 (0), .slice Y7 m7 d7] 49); replace L7 := L7.al (.cells #[.int .i64 (5), .string emp, .int .i64 (0), .slice Y7 m7 d7] 49); replace D7 := D7.al (.cells #[.int .i64 (5), .string emp, .int .i64 (0), .slice Y7 m7 d7] 49); replace C1 := C1.al (.cells #[.int .i64 (5), .string emp, .int .i64 (0), .slice Y7 m7 d7] 49); replace N5 := N5.al (.cells #[.int .i64 (5), .string emp, .int .i64 (0), .slice Y7 m7 d7] 49); replace E5 := E5.al (.cells #[.int .i64 (5), .string emp, .int .i64 (0), .slice Y7 m7 d7] 49); replace N6 := N6.al (.cells #[.int .i64 (5), .string emp, .int .i64 (0), .slice Y7 m7 d7] 49); replace E6 := E6.al (.cells #[.int .i64 (5), .string emp, .int .i64 (0), .slice Y7 m7 d7] 49)
  clear L7 T7 D7 M7 D1 cD1 fD1
  rcases Classical.em (cy = k) with hck | hck
  · subst hck
    clear HRE KE KE2 KC KF KT K1 K2
    (try clear cC1 fC1); have cC1 := C1.cell; have fC1 := C1.frozen; (try clear cE5 fE5); have cE5 := E5.cell; have fE5 := E5.frozen; (try clear cE6 fE6); have cE6 := E6.cell; have fE6 := E6.frozen; (try clear cR7 fR7); have cR7 := R7.cell; have fR7 := R7.frozen
    go_wp2_with fail
    go_ret
    exact ⟨rfl, (by repeat (first | (with_reducible exact Below.refl _ _) | (with_reducible assumption) | (with_reducible refine Below.drew ?_) | (with_reducible refine bdrewN ?_ _) | (with_reducible refine balloc ?_ _) | ((with_reducible refine bset ?_ ?_ _); rotate_left; (focus first | exact Nat.le_refl _ | (simp; done) | (simp; omega) | omega)) | (with_reducible refine bstep ?_ (by with_reducible assumption)) | (with_reducible refine Below.trans ?_ (by with_reducible assumption))))⟩
  · have hv := HRE.out.resolve_left hck
    injection hv with hv1 hv2
    injection hv1 with i1 i2 i3 i4 i5 i6
    injection hv2 with i7 i8
    subst i1; subst i2; subst i3; subst i4; subst i5; subst i6; subst i7; subst i8
    have heq : (cy.toList == k.toList) = false := by rw [beq_eq_false_iff_ne]; exact fun h => hck (bytes_ext (by rwa [Lib.toList_data, Lib.toList_data] at h))
    clear HRE KE KE2 KC KF KT K1 K2 hck
    (try clear cC1 fC1); have cC1 := C1.cell; have fC1 := C1.frozen; (try clear cE5 fE5); have cE5 := E5.cell; have fE5 := E5.frozen; (try clear cE6 fE6); have cE6 := E6.cell; have fE6 := E6.frozen; (try clear cR7 fR7); have cR7 := R7.cell; have fR7 := R7.frozen
    go_wp2_with fail
    refine (sameValue_eq ⟨_, _, _, _, _, _⟩ ⟨_, _, _, _, _, _⟩ _ _ _ _ _ _ _ _ _ _ _ _ _ _ _ _ _ _ _ N5 N6 rfl).mono ?_
    rintro e w8 ⟨rfl, hb8⟩
    go_wp2_with fail
    go_ret
    exact ⟨rfl, (by repeat (first | (with_reducible exact Below.refl _ _) | (with_reducible assumption) | (with_reducible refine Below.drew ?_) | (with_reducible refine bdrewN ?_ _) | (with_reducible refine balloc ?_ _) | ((with_reducible refine bset ?_ ?_ _); rotate_left; (focus first | exact Nat.le_refl _ | (simp; done) | (simp; omega) | omega)) | (with_reducible refine bstep ?_ (by with_reducible assumption)) | (with_reducible refine Below.trans ?_ (by with_reducible assumption))))⟩
set_option maxRecDepth 100000 in
theorem keysApart_lifted (os : Os) (started : os.Started) (H : Type) (enc : TypeId × Value → H) :
  ReturnsInHanded {} Try.checked os 6 .any (Rows.keysApartSpec.pre6 enc Try.prog Try.f6 Rows.keysApartRow.domain false) (Rows.keysApartSpec.post enc Try.prog Try.f6 false true false false) := by
  refine returnsInHanded_of_change (C := Try.checked) Try.own started (by kernel_rfl) Try.func6 (ChangeSpec.witness6 (enc := enc) (C := Try.checked) false ⟨#[], #[.slice none 0 0, .agg #[.int .i64 0, .int .i64 0, .int .i64 0, .int .i64 0, .string ByteArray.empty, .int .i64 0], .int .i64 0], []⟩ 8 (by kernel_rfl) (by kernel_rfl) (by kernel_rfl) (by kernel_rfl)) ?_
  intro W base args ds gs before hval0 hW hcnd _
  have hval : ∀ (j : Nat) t v, Try.f6.params[j]? = some t → args[j]? = some v → Value.okWide Try.prog W .any base t v := hval0
  have hW' := hW
  obtain ⟨p, q, hA0, hV, rfl, hfz, hnd⟩ := hW
  have hA : DataW.TrodAll enc Try.prog W 0 (fun _ => true) true Try.f6.params.toList args.toList ds p := hA0
  rw [Try.params6] at hA hval
  obtain ⟨rfl, rfl⟩ := trodVars_none hV
  clear hA0 hval0 hcnd hV hfz hnd
  obtain ⟨v0, v1, v2, d0, d1, d2, p0, p1, p2, rfl, rfl, rfl, h0, h1, h2⟩ := trodAll_three hA
  obtain ⟨A, n, c, l, rfl, hd, hS⟩ := open_steps (hval 0 55 v0 rfl rfl) h0
  obtain ⟨x, rfl, hx⟩ := open_step (hval 1 57 v1 rfl rfl) h1
  obtain ⟨k, rfl, rfl, rfl, w1⟩ := open_int Try.underlying3 (hval 2 3 v2 rfl rfl) h2
  refine (keysApart_walk A n c l x k W hS hd hx (i64_bounds w1)).mono fun e W' ⟨he, hb⟩ => ?_
  subst he
  exact ⟨_, rfl, post_law Try.laidOut hW' rfl (by kernel_rfl) rfl Try.underlying4 (fun _ => rfl) (fun _ => rfl) (fun _ => rfl) hb⟩
theorem keysApart_holds : Rows.KeysApartSaid := OpenClaim.holds_of_wide 6 Try.f6 rfl rfl rfl rfl rfl rfl rfl ⟨rfl, rfl, rfl, rfl, rfl⟩ rfl rfl rfl rfl rfl (by kernel_rfl) Try.func6 (by kernel_rfl)
  (of_decide_eq_true (by kernel_rfl)) (by unfold Func.isWrapper; first | (rw [if_pos (by decide +kernel)]; kernel_rfl) | (rw [if_neg (by decide +kernel)]; exact ⟨rfl, rfl⟩))
  (fun os started H enc _ => keysApart_lifted os started H enc)
#print axioms keysApart_holds
end Go.Proofs.Ytpdadlofgfdlpaa
