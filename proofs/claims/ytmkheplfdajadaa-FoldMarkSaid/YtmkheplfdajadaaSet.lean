/- value.set: what a command makes of a set. -/
import Derived.Test.YtmkheplfdajadaaHash
namespace Go.Proofs.Ytmkheplfdajadaa
set_option linter.all false
open Go.RowKit
attribute [local go_sem ↓] Go.wp_at_zero Go.wp_at_succ
def textHas (f : ByteArray) (l : List ByteArray) : Bool := foundAt l (textAt f l) fun y => cmpB y f == 0
def doSet (v : Va) (c : Cmd) : Va × Re :=
  if c.kind = 11 then
    (if textHas c.text v.items = true then (v, toldR 0)
     else if v.items.length = 20 then (v, failR 6) else ({ v with items := insRows v.items (textAt c.text v.items) c.text }, toldR 1))
  else if c.kind = 12 then (if textHas c.text v.items = true then ({ v with items := delRows v.items (textAt c.text v.items) }, toldR 1) else (v, toldR 0))
  else (v, toldR (flagI (textHas c.text v.items)))
theorem textHas_lt {f : ByteArray} {l : List ByteArray} (h : textHas f l = true) : textAt f l < l.length := by
  rcases Nat.lt_or_ge (textAt f l) l.length with h' | h'
  · exact h'
  · unfold textHas at h; rw [foundAt_ge h'] at h; cases h
set_option maxHeartbeats 8000000 in
set_option maxRecDepth 100000 in
theorem set_any (v : Va) (c : Cmd) (B g : Nat) (A1 A2 A3 : Option Addr) (n1 c1 n2 c2 n3 c3 : Nat) (w : World) (hG : Blk w g 102 #[.int .i64 v.kind, .string v.text, .int .i64 v.count, .slice A1 n1 c1, .slice A2 n2 c2, .slice A3 n3 c3])
    (hN : VNew w B v (.slice A1 n1 c1) (.slice A2 n2 c2) (.slice A3 n3 c3)) (hg : B ≤ g) (hBw : B ≤ w.heap.size) (hn : n2 ≤ 20) (hr : risesBy cmpB v.items = true) (hk : c.kind = 11 ∨ c.kind = 12 ∨ c.kind = 13) :
    Calls Try.prog 123 #[.pointer (some ⟨g, 0, none⟩), .agg #[.int .i64 c.kind, .string c.key, .string c.field, .string c.text, .int .i64 c.n]] w (DoPost (doSet v c).1 (doSet v c).2 B g w) := by
  have hlen : v.items.length = n2 := hN.sl.n2_
  obtain ⟨D, hD⟩ : ∃ D, D = doSet v c := ⟨_, rfl⟩
  rw [← hD]
  obtain ⟨kind, key, field, text, n⟩ := c
  obtain ⟨vk, vt, vc, ps, is_, ss⟩ := v
  simp only at hlen hG hN hr hk ⊢
  have hbin := fun wz (hz : Below w.heap.size w wz) => Bin_str A2 n2 c2 (textAt text is_) is_ text wz hlen (by omega) (hN.2.1.sl'.below hz).seg (lowB_le _ _) text_h1 (text_h2 hr)
  have hb0 : (foundAt is_ (textAt text is_) fun y => cmpB y text == 0) = textHas text is_ := rfl
  simp only [hb0] at hbin
  have heq := @textHas_lt text is_
  have hple := lowB_le (fun y : ByteArray => decide (cmpB y text < 0)) is_
  have hple : textAt text is_ ≤ is_.length := hple
  unfold doSet at hD
  simp only at hD
  generalize hix : textAt text is_ = ix at *
  generalize textHas text is_ = has at *
  have HD := hide hD; have HB := hide hbin; have HL := hide hlen; have HQ := hide heq
  clear hD hbin hb0 hlen heq hix
  have hgl := hG.lt
  have hG1 := hG.alloc (.cells #[.int .i64 kind, .string key, .string field, .string text, .int .i64 n] 27)
  have hC1 := Blk.new w 27 #[.int .i64 kind, .string key, .string field, .string text, .int .i64 n]
  have hC1' := hC1.alloc (.cells #[.int .i64 0, .string { data := #[] }, .int .i64 0, .slice none 0 0] 78)
  have hG1' := hG1.alloc (.cells #[.int .i64 0, .string { data := #[] }, .int .i64 0, .slice none 0 0] 78)
  have hN1 := (hN.al (.cells #[.int .i64 kind, .string key, .string field, .string text, .int .i64 n] 27)).al (.cells #[.int .i64 0, .string { data := #[] }, .int .i64 0, .slice none 0 0] 78)
  have q1 : Below w.heap.size w ((w.alloc (.cells #[.int .i64 kind, .string key, .string field, .string text, .int .i64 n] 27)).alloc (.cells #[.int .i64 0, .string { data := #[] }, .int .i64 0, .slice none 0 0] 78)) := below_by
  have hR1 : Blk ((w.alloc (.cells #[.int .i64 kind, .string key, .string field, .string text, .int .i64 n] 27)).alloc (.cells #[.int .i64 0, .string { data := #[] }, .int .i64 0, .slice none 0 0] 78)) (w.heap.size + 1) 78 #[.int .i64 0, .string { data := #[] }, .int .i64 0, .slice none 0 0] := Blk.new' _ _ _ (by simp)
  (try clear chG1' fhG1'); have chG1' := hG1'.cell; have fhG1' := hG1'.frozen; (try clear chC1' fhC1'); have chC1' := hC1'.cell; have fhC1' := hC1'.frozen
  go_enter Try.func123, Try.ntmps123
  go_upto_region 1 with fail
  go_cut [5, 6] (fun s t wx => s = .int .i64 (ix : Int) ∧ t = .bool has ∧ Blk wx g 102 #[.int .i64 vk, .string vt, .int .i64 vc, .slice A1 n1 c1, .slice A2 n2 c2, .slice A3 n3 c3] ∧ Blk wx w.heap.size 27 #[.int .i64 kind, .string key, .string field, .string text, .int .i64 n] ∧
    Blk wx (w.heap.size + 1) 78 #[.int .i64 0, .string { data := #[] }, .int .i64 0, .slice none 0 0] ∧ VNew wx B ⟨vk, vt, vc, ps, is_, ss⟩ (.slice A1 n1 c1) (.slice A2 n2 c2) (.slice A3 n3 c3) ∧ Below w.heap.size w wx)
  case first =>
    go_region_held3 (fun w' => w'.cell? ⟨g, 4, none⟩ = some (.slice A2 n2 c2) ∧ w'.cell? ⟨w.heap.size, 3, none⟩ = some (.string text)) (exact ⟨hG1'.cell 4, hC1'.cell 3⟩)
      (first | ((go_at_call 134; with_reducible refine (HB.out _ ?_).mono ?_); (focus exact below_by); rintro e w1 ⟨rfl, rfl⟩))
    go_wp2_with fail
    go_meet
    exact ⟨rfl, rfl, hG1'.drew, hC1'.drew, hR1.drew, hN1.dr, below_by⟩
  case rest =>
    obtain ⟨rfl, rfl, G, C, R, N, q⟩ := hcut
    clear hN1 hG1' hC1' q1 hR1 hG1 hC1 hG hN hr HB chG1' fhG1' chC1' fhC1'
    have hBc : B ≤ wc.heap.size := by have := q.size; omega
    have hgw : g < wc.heap.size := G.lt
    have hww : w.heap.size < wc.heap.size := C.lt
    rcases hk with rfl | rfl | rfl
    · cases has with
      | true =>
        have hv : D = (⟨vk, vt, vc, ps, is_, ss⟩, toldR 0) := by rw [HD.out]; simp [*]
        have HV := hide hv
        clear HD hv HQ
        clear hple
        (try clear cG fG); have cG := G.cell; have fG := G.frozen; (try clear cC fC); have cC := C.cell; have fC := C.frozen
        go_wp2_with fail
        refine (told_any 0 _).mono ?_
        rintro e w9 ⟨rfl, hb9⟩
        have R9 := (R).below' hb9
        (try clear cR9 fR9); have cR9 := R9.cell; have fR9 := R9.frozen
        obtain ⟨P, R6⟩ := re_done (k0 := 0) (t0 := emp) (m0 := 0) ((G).below' hb9) R9 ((N).bl hb9) (mov_post (Mov.of q hBw) (by have := ((Mov.of q hBw)).size; omega) hb9) (by omega) (by omega) (by omega)
        go_wp2_with fail
        have cR6 := R6.cell
        refine bodyPost_ret (v := .agg #[.int .i64 0, .string emp, .int .i64 0, .slice none 0 0]) ?_ rfl (by rw [HV.out]; exact P)
        simp [results, Try.results123, go_sem, cR6]
      | false =>
        have hixn : ix ≤ n2 := by rw [← HL.out]; exact hple
        clear hple
        by_cases h20 : n2 = 20
        · have h20' : is_.length = 20 := by rw [HL.out]; exact h20
          have hv : D = (⟨vk, vt, vc, ps, is_, ss⟩, failR 6) := by rw [HD.out]; simp [*]
          have HV := hide hv
          clear HD hv HQ
          clear h20'
          subst h20
          (try clear cG fG); have cG := G.cell; have fG := G.frozen; (try clear cC fC); have cC := C.cell; have fC := C.frozen
          go_wp2_with fail
          refine (failed_any 6 _).mono ?_
          rintro e w9 ⟨rfl, hb9⟩
          have R9 := (R).below' hb9
          (try clear cR9 fR9); have cR9 := R9.cell; have fR9 := R9.frozen
          obtain ⟨P, R6⟩ := re_done (k0 := 6) (t0 := emp) (m0 := 0) ((G).below' hb9) R9 ((N).bl hb9) (mov_post (Mov.of q hBw) (by have := ((Mov.of q hBw)).size; omega) hb9) (by omega) (by omega) (by omega)
          go_wp2_with fail
          have cR6 := R6.cell
          refine bodyPost_ret (v := .agg #[.int .i64 6, .string emp, .int .i64 0, .slice none 0 0]) ?_ rfl (by rw [HV.out]; exact P)
          simp [results, Try.results123, go_sem, cR6]
        · have h20' : ¬ is_.length = 20 := by rw [HL.out]; exact h20
          have hv : D = (⟨vk, vt, vc, ps, insRows is_ ix text, ss⟩, toldR 1) := by rw [HD.out]; simp [*]
          have HV := hide hv
          clear HD hv HQ
          have h20b : ((n2 : Int) == 20) = false := by rw [beq_eq_false_iff_ne]; omega
          clear h20 h20'
          (try clear cG fG); have cG := G.cell; have fG := G.frozen; (try clear cC fC); have cC := C.cell; have fC := C.frozen
          go_wp2_with fail
          have G1 := G.drew; have C1 := C.drew
          refine wp_region_x (l := [12]) (S := fun w' => w'.cell? ⟨g, 4, none⟩ = some (.slice A2 n2 c2) ∧ w'.cell? ⟨w.heap.size, 3, none⟩ = some (.string text)) (by kernel_rfl) ⟨G1.cell 4, C1.cell 3⟩ (fun hS => ?_)
          refine wpAnyX_tq 0 ?_
          refine wpAnyX_tq 1 ?_
          refine wpAnyX_tq 2 ?_
          refine wpAnyX_tq 3 ?_
          refine wpAnyX_tq 4 ?_
          refine wpAnyX_tq 5 ?_
          refine wpAnyX_tq 6 ?_
          refine wpAnyX_tq 7 ?_
          refine wpAnyX_oq 8 fun K hK => ?_
          go_wp2_with fail
          have G2 := (G.alloc (.cells #[.string text] 9)).drew; have C2 := (C.alloc (.cells #[.string text] 9)).drew; have R2 := (R.alloc (.cells #[.string text] 9)).drew; have N2 := (N.al (.cells #[.string text] 9)).dr
          have X2 : Blk (wc.alloc (.cells #[.string text] 9)).drew wc.heap.size 9 #[.string text] := Blk.new _ _ _
          have q2 : Mov B w (wc.alloc (.cells #[.string text] 9)).drew := ((Mov.of q hBw).alloc hBc _).drew
          have hwl : (wc.alloc (.cells #[.string text] 9)).drew.heap.size = wc.heap.size + 1 := by simp
          have HWL := hide hwl
          clear hwl
          have hone : ∀ u ∈ (#[Value.string text] : Array Value).toList, u.oneCell' = true := by intro u hu; simp at hu; subst hu; rfl
          refine hK.out _ _ (Or.inr ⟨G2.cell 4, C2.cell 3⟩) (fun hS => ?_)
          replace hS := hS.resolve_left (by decide)
          clear hK K G1 C1
          have N2p := N2.2.1
          refine wpAnyX_oq 9 fun K hK => ?_
          go_wp2_with fail
          ((with_reducible refine (Insert_text A2 n2 c2 B ix wc.heap.size (strRows is_) #[.string text] _ N2p (str_one _) hixn (by omega) X2 rfl hone ?hbv (by rw [HWL.out]; omega)).mono ?_)
           case hbv =>
            intro e
            obtain ⟨cur, hcur⟩ := own_typed N.2.1 e.symm
            have : wc.heap.size < wc.heap.size := (Array.getElem?_eq_some_iff.1 hcur).1
            omega
           rintro e w3 ⟨A', n', c', rfl, o3, g3⟩)
          go_wp2_with fail
          have hwB : B ≤ (wc.alloc (.cells #[.string text] 9)).drew.heap.size := by rw [HWL.out]; omega
          have G3 := blk_other G2 N2p g3; have C3 := blk_other C2 N2p g3; have R3 := blk_other R2 N2p g3
          have q3 := q2.trans (mov_grown N2p g3 hwB)
          have N3 : VNew w3 B ⟨vk, vt, vc, ps, insRows is_ ix text, ss⟩ (.slice A1 n1 c1) (.slice A' n' c') (.slice A3 n3 c3) := ⟨own_other N2.1 N2p g3, by have := o3; simp only [insRows, strRows, List.map_append, List.map_take, List.map_drop] at this ⊢; exact this, own_other N2.2.2 N2p g3⟩
          refine hK.out _ _ (Or.inr ⟨G3.cell 4, C3.cell 3⟩) (fun hS => ?_)
          replace hS := hS.resolve_left (by decide)
          clear hK K G2 C2 R2 N2 q2 X2 o3 g3
          (try clear cG3 fG3); have cG3 := G3.cell; have fG3 := G3.frozen
          refine wpAnyX_ps 10 ?_
          refine wpAnyX_ps 11 ?_
          refine wpAnyX_oq 12 fun K hK => ?_
          go_wp2_with fail
          have G4 := G3.set' (i := 4) (u := .slice A' n' c') rfl
          have R4 := R3.far (p := ⟨g, 4, none⟩) (by simp; omega) (.slice A' n' c')
          have N4 := N3.st' G3 4 (.slice A' n' c')
          have q4 := q3.setV G3 hg 4 (.slice A' n' c')
          refine hK.out _ _ (Or.inl (by decide)) (fun hS => ?_)
          clear hK K hS G3 R3 N3 q3 cG3 fG3 cG fG cC fC
          refine wpAnyX_done (by kernel_rfl) ?_ _
          go_wp2_with fail
          refine (told_any 1 _).mono ?_
          rintro e w9 ⟨rfl, hb9⟩
          have R9 := (R4).below' hb9
          (try clear cR9 fR9); have cR9 := R9.cell; have fR9 := R9.frozen
          obtain ⟨P, R6⟩ := re_done (k0 := 0) (t0 := emp) (m0 := 1) ((G4).below' hb9) R9 ((N4).bl hb9) (mov_post q4 (by have := (q4).size; omega) hb9) (by omega) (by omega) (by omega)
          go_wp2_with fail
          have cR6 := R6.cell
          refine bodyPost_ret (v := .agg #[.int .i64 0, .string emp, .int .i64 1, .slice none 0 0]) ?_ rfl (by rw [HV.out]; exact P)
          simp [results, Try.results123, go_sem, cR6]
    · cases has with
      | true =>
        have hixl := HQ.out rfl
        have hv : D = (⟨vk, vt, vc, ps, delRows is_ ix, ss⟩, toldR 1) := by rw [HD.out]; simp [*]
        have HV := hide hv
        clear HD hv HQ
        clear hple
        have Np := N.2.1
        have hin : ix < n2 := by have := HL.out; omega
        have hwi : IntKind.i64.wrap ((ix : Int) + 1) = (ix : Int) + 1 := IntWalk.i64_in _ (by omega)
        (try clear cG fG); have cG := G.cell; have fG := G.frozen; (try clear cC fC); have cC := C.cell; have fC := C.frozen
        clear hixl
        go_wp2_with fail
        ((with_reducible refine (Delete_text A2 n2 c2 B ix (strRows is_) _ Np (str_one _) hin (by omega)).mono ?_); rintro e w3 ⟨A', n', c', rfl, o3, g3⟩)
        have G3 := blk_other G Np g3; have R3 := blk_other R Np g3
        have q3 := (Mov.of q hBw).trans (mov_grown Np g3 hBc)
        have N3 : VNew w3 B ⟨vk, vt, vc, ps, delRows is_ ix, ss⟩ (.slice A1 n1 c1) (.slice A' n' c') (.slice A3 n3 c3) := ⟨own_other N.1 Np g3, by have := o3; simp only [delRows, strRows, List.map_append, List.map_take, List.map_drop] at this ⊢; exact this, own_other N.2.2 Np g3⟩
        clear cG fG cC fC o3 g3
        (try clear cG3 fG3); have cG3 := G3.cell; have fG3 := G3.frozen
        go_wp2_with fail
        have G4 := G3.set' (i := 4) (u := .slice A' n' c') rfl
        have R4 := R3.far (p := ⟨g, 4, none⟩) (by simp; omega) (.slice A' n' c')
        have N4 := N3.st' G3 4 (.slice A' n' c')
        have q4 := q3.setV G3 hg 4 (.slice A' n' c')
        clear cG3 fG3
        refine (flag_any true _).mono ?_
        rintro e w' ⟨rfl, rfl⟩
        go_wp2_with fail
        refine (told_any (flagI true) _).mono ?_
        rintro e w9 ⟨rfl, hb9⟩
        have R9 := (R4).below' hb9
        (try clear cR9 fR9); have cR9 := R9.cell; have fR9 := R9.frozen
        obtain ⟨P, R6⟩ := re_done (k0 := 0) (t0 := emp) (m0 := (flagI true)) ((G4).below' hb9) R9 ((N4).bl hb9) (mov_post q4 (by have := (q4).size; omega) hb9) (by omega) (by omega) (by omega)
        go_wp2_with fail
        have cR6 := R6.cell
        refine bodyPost_ret (v := .agg #[.int .i64 0, .string emp, .int .i64 (flagI true), .slice none 0 0]) ?_ rfl (by rw [HV.out]; exact P)
        simp [results, Try.results123, go_sem, cR6]
      | false =>
        have hv : D = (⟨vk, vt, vc, ps, is_, ss⟩, toldR 0) := by rw [HD.out]; simp [*]
        have HV := hide hv
        clear HD hv HQ
        clear hple
        (try clear cG fG); have cG := G.cell; have fG := G.frozen; (try clear cC fC); have cC := C.cell; have fC := C.frozen
        go_wp2_with fail
        refine (flag_any false _).mono ?_
        rintro e w' ⟨rfl, rfl⟩
        go_wp2_with fail
        refine (told_any (flagI false) _).mono ?_
        rintro e w9 ⟨rfl, hb9⟩
        have R9 := (R).below' hb9
        (try clear cR9 fR9); have cR9 := R9.cell; have fR9 := R9.frozen
        obtain ⟨P, R6⟩ := re_done (k0 := 0) (t0 := emp) (m0 := (flagI false)) ((G).below' hb9) R9 ((N).bl hb9) (mov_post (Mov.of q hBw) (by have := ((Mov.of q hBw)).size; omega) hb9) (by omega) (by omega) (by omega)
        go_wp2_with fail
        have cR6 := R6.cell
        refine bodyPost_ret (v := .agg #[.int .i64 0, .string emp, .int .i64 (flagI false), .slice none 0 0]) ?_ rfl (by rw [HV.out]; exact P)
        simp [results, Try.results123, go_sem, cR6]
    · have hv : D = (⟨vk, vt, vc, ps, is_, ss⟩, toldR (flagI has)) := by rw [HD.out]; simp
      have HV := hide hv
      clear HD hv HQ hple
      cases has
      all_goals (try clear cG fG); have cG := G.cell; have fG := G.frozen; (try clear cC fC); have cC := C.cell; have fC := C.frozen
      all_goals go_wp2_with fail
      · refine (flag_any false _).mono ?_
        rintro e w' ⟨rfl, rfl⟩
        go_wp2_with fail
        refine (told_any (flagI false) _).mono ?_
        rintro e w9 ⟨rfl, hb9⟩
        have R9 := (R).below' hb9
        (try clear cR9 fR9); have cR9 := R9.cell; have fR9 := R9.frozen
        obtain ⟨P, R6⟩ := re_done (k0 := 0) (t0 := emp) (m0 := (flagI false)) ((G).below' hb9) R9 ((N).bl hb9) (mov_post (Mov.of q hBw) (by have := ((Mov.of q hBw)).size; omega) hb9) (by omega) (by omega) (by omega)
        go_wp2_with fail
        have cR6 := R6.cell
        refine bodyPost_ret (v := .agg #[.int .i64 0, .string emp, .int .i64 (flagI false), .slice none 0 0]) ?_ rfl (by rw [HV.out]; exact P)
        simp [results, Try.results123, go_sem, cR6]
      · refine (flag_any true _).mono ?_
        rintro e w' ⟨rfl, rfl⟩
        go_wp2_with fail
        refine (told_any (flagI true) _).mono ?_
        rintro e w9 ⟨rfl, hb9⟩
        have R9 := (R).below' hb9
        (try clear cR9 fR9); have cR9 := R9.cell; have fR9 := R9.frozen
        obtain ⟨P, R6⟩ := re_done (k0 := 0) (t0 := emp) (m0 := (flagI true)) ((G).below' hb9) R9 ((N).bl hb9) (mov_post (Mov.of q hBw) (by have := ((Mov.of q hBw)).size; omega) hb9) (by omega) (by omega) (by omega)
        go_wp2_with fail
        have cR6 := R6.cell
        refine bodyPost_ret (v := .agg #[.int .i64 0, .string emp, .int .i64 (flagI true), .slice none 0 0]) ?_ rfl (by rw [HV.out]; exact P)
        simp [results, Try.results123, go_sem, cR6]
end Go.Proofs.Ytmkheplfdajadaa
